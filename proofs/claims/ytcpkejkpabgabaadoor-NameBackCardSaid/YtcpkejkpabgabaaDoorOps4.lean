import Derived.Test.YtcpkejkpabgabaaDoorOps3
import Derived.Laws.BytesArg
set_option linter.all false
namespace Go.AR
open Go
section ops
variable {P : Program} {w : World} {G β : Nat → Nat} {ω : Nat → Option Occ} {σ σ' : Fr} {a : Act} {o : Oper}

/-- The numbers of a slice expression's bounds. -/
def BOk (hF : Prop) (lo hi : Option Operand) (lo' hi' : Bool) (vs : List TV) (a : Act) : Prop := True

theorem run_bnd {x : Value} {k : IntKind} {i : Int} (h : x = .int k i) (y : Nat) (code : BoundsCode) (h0 : 0 ≤ i) (h1 : i ≤ y) : (Instr.sliceBound x y code).run P w = .ok i.toNat w := by
  subst h
  simp [Instr.sliceBound, asIntOf, h0, h1]
theorem opts_ok {lo hi : Option Operand} {ts : List TypeId} {ys : List Opnd} (h : cOpnds P ts (lo.toList ++ hi.toList) = some ys) :
    (lo = none → hi = none → ys = []) ∧ (∀ l, lo = some l → hi = none → ∃ l', ys = [l'] ∧ OOk l l') ∧ (∀ h, lo = none → hi = some h → ∃ h', ys = [h'] ∧ OOk h h') ∧
    (∀ l h, lo = some l → hi = some h → ∃ l' h', ys = [l', h'] ∧ OOk l l' ∧ OOk h h') := by
  rcases lo with _ | l <;> rcases hi with _ | h' <;> simp only [Option.toList, List.nil_append, List.cons_append] at h
  · rcases ts with _ | ⟨t, ts⟩ <;> simp [cOpnds] at h
    subst h; simp
  · rcases ts with _ | ⟨t, _ | ⟨t2, ts⟩⟩ <;> simp only [cOpnds] at h
    · cases h
    · split at h
      · rename_i y ys' hy hys; simp at h hys; subst hys; subst h
        refine ⟨by simp, by simp, fun h2 _ e => ?_, by simp⟩
        cases e
        exact ⟨y, rfl, cOpnd_ok hy⟩
      · cases h
    · split at h
      · rename_i y ys' hy hys; simp at hys
      · cases h
  · rcases ts with _ | ⟨t, _ | ⟨t2, ts⟩⟩ <;> simp only [cOpnds] at h
    · cases h
    · split at h
      · rename_i y ys' hy hys; simp at h hys; subst hys; subst h
        refine ⟨by simp, fun l2 e _ => ?_, by simp, by simp⟩
        cases e
        exact ⟨y, rfl, cOpnd_ok hy⟩
      · cases h
    · split at h
      · rename_i y ys' hy hys; simp at hys
      · cases h
  · rcases ts with _ | ⟨t, _ | ⟨t2, _ | ⟨t3, ts⟩⟩⟩ <;> simp only [cOpnds] at h
    · cases h
    · split at h
      · rename_i y ys' hy hys; simp at hys
      · cases h
    · split at h
      · rename_i y ys' hy hys
        split at hys
        · rename_i z zs hz hzs
          simp at h hys hzs; subst hzs; subst hys; subst h
          refine ⟨by simp, by simp, by simp, fun l2 h2 e1 e2 => ?_⟩
          cases e1; cases e2
          exact ⟨y, z, rfl, cOpnd_ok hy, cOpnd_ok hz⟩
        · cases hys
      · cases h
    · split at h
      · rename_i y ys' hy hys
        split at hys
        · rename_i z zs hz hzs; simp at hzs
        · cases hys
      · cases h

/-- What 'bnds' says, the model's bounds say. -/
theorem run_bnds {len cap : Nat} {lo hi : Option Operand} {ts : List TypeId} {ys : List Opnd} {l h : Nat} (isl : Bool) (hF : FRel w G β ω σ a.tmps) (hc : cOpnds P ts (lo.toList ++ hi.toList) = some ys) (hcap : len ≤ cap)
    (hb : bnds len lo.isSome hi.isSome (ys.map (·.ev σ.tmps)) = some (l, h)) :
    (Instr.sliceBounds isl len cap (lo.map a.eval) (hi.map a.eval) none).run P w = .ok (l, h, cap) w ∧ l ≤ h ∧ h ≤ len := by
  obtain ⟨c1, c2, c3, c4⟩ := opts_ok hc
  rcases lo with _ | lo <;> rcases hi with _ | hi
  · obtain rfl := c1 rfl rfl
    simp [bnds] at hb
    obtain ⟨rfl, rfl⟩ := hb
    refine ⟨by simp [Instr.sliceBounds], by omega, by omega⟩
  · obtain ⟨h', rfl, oh⟩ := c3 hi rfl rfl
    simp only [bnds, Option.isSome, List.map_cons, List.map_nil] at hb
    generalize hv : h'.ev σ.tmps = vh at hb
    match vh, hb with
    | .val (.int k i), hb =>
      simp at hb
      obtain ⟨⟨h1, h2⟩, rfl, rfl⟩ := hb
      have e := Rep.int_inv (oh.val hF hv)
      refine ⟨?_, by omega, by omega⟩
      simp only [Instr.sliceBounds, Option.map_none, Option.map_some, Sem.run_bind, Sem.run_pure, Result.andThen_ok, run_bnd e cap _ h1 (by omega)]
  · obtain ⟨l', rfl, ol⟩ := c2 lo rfl rfl
    simp only [bnds, Option.isSome, List.map_cons, List.map_nil] at hb
    generalize hv : l'.ev σ.tmps = vl at hb
    match vl, hb with
    | .val (.int k i), hb =>
      simp at hb
      obtain ⟨⟨h1, h2⟩, rfl, rfl⟩ := hb
      have e := Rep.int_inv (ol.val hF hv)
      refine ⟨?_, by omega, by omega⟩
      simp only [Instr.sliceBounds, Option.map_none, Option.map_some, Sem.run_bind, Sem.run_pure, Result.andThen_ok, run_bnd e len _ h1 (by omega)]
  · obtain ⟨l', h', rfl, ol, oh⟩ := c4 lo hi rfl rfl
    simp only [bnds, Option.isSome, List.map_cons, List.map_nil] at hb
    generalize hv : l'.ev σ.tmps = vl at hb
    generalize hv2 : h'.ev σ.tmps = vh at hb
    match vl, vh, hb with
    | .val (.int k i), .val (.int k2 j), hb =>
      simp at hb
      obtain ⟨⟨h1, h2, h3⟩, rfl, rfl⟩ := hb
      have e := Rep.int_inv (ol.val hF hv)
      have e2 := Rep.int_inv (oh.val hF hv2)
      refine ⟨?_, by omega, by omega⟩
      simp only [Instr.sliceBounds, Option.map_none, Option.map_some, Sem.run_bind, Sem.run_pure, Result.andThen_ok, run_bnd e2 cap _ (by omega) (by omega), run_bnd e j.toNat _ h1 (by omega)]

theorem ok_slices {t : TypeId} {x : Operand} {x' : Opnd} {lo hi : Option Operand} {ts : List TypeId} {ys : List Opnd} {s : List UInt8} {l h : Nat} (hF : FRel w G β ω σ a.tmps) (hd : ∀ d, o.dst = some d → d < a.tmps.size)
    (ho : o.op = .slice t x lo hi none) (hu : P.underlying t = some .string) (hx : OOk x x') (ex : x'.ev σ.tmps = .val (.str s)) (hc : cOpnds P ts (lo.toList ++ hi.toList) = some ys)
    (hb : bnds s.length lo.isSome hi.isSome (ys.map (·.ev σ.tmps)) = some (l, h)) :
    StepOk P w G ω β a o σ (σ.put o.dst (.val (.str ((s.drop l).take (h - l))))) := by
  have e1 := Rep.str_inv (hx.val hF ex)
  obtain ⟨hr, h1, h2⟩ := run_bnds (P := P) (cap := s.length) false hF hc (Nat.le_refl _) hb
  have hs : ByteArray.size ⟨⟨s⟩⟩ = s.length := rfl
  have hex : (⟨⟨s⟩⟩ : ByteArray).extract l h = ⟨⟨(s.drop l).take (h - l)⟩⟩ := by
    apply ByteArray.ext
    simp [ByteArray.data_extract, List.extract]
  refine ok_val hF hd ?_ (Rep.str _)
  simp only [execOp, ho, Instr.sliceAt, Sem.run_bind, run_underlying hu, Result.andThen_ok, e1, Instr.slice, hs, Option.map_none, Option.isSome_none, Bool.false_eq_true, if_false, hr, Sem.run_pure, hex]

theorem flat_drop {c : Nat} {rows : List (List PV)} (hc : ∀ r ∈ rows, r.length = c) (l : Nat) : (rows.drop l).flatten = rows.flatten.drop (l * c) := by
  induction rows generalizing l with
  | nil => simp
  | cons q rows ih =>
    cases l with
    | zero => simp
    | succ l =>
      have hq : q.length = c := hc q (by simp)
      have h1 : q.drop ((l + 1) * c) = [] := List.drop_eq_nil_of_le (by rw [hq, Nat.add_mul]; omega)
      have h2 : (l + 1) * c - q.length = l * c := by rw [hq, Nat.add_mul]; omega
      rw [List.drop_succ_cons, ih (fun r hr => hc r (by simp [hr])), List.flatten_cons, List.drop_append, h1, h2, List.nil_append]
theorem flat_take {c : Nat} {rows : List (List PV)} (hc : ∀ r ∈ rows, r.length = c) (l : Nat) : (rows.take l).flatten = rows.flatten.take (l * c) := by
  induction rows generalizing l with
  | nil => simp
  | cons q rows ih =>
    cases l with
    | zero => simp
    | succ l =>
      have hq : q.length = c := hc q (by simp)
      have h1 : q.take ((l + 1) * c) = q := List.take_of_length_le (by rw [hq, Nat.add_mul]; omega)
      have h2 : (l + 1) * c - q.length = l * c := by rw [hq, Nat.add_mul]; omega
      rw [List.take_succ_cons, List.flatten_cons, ih (fun r hr => hc r (by simp [hr])), List.flatten_cons, List.take_append, h1, h2]

theorem Rep.slice {c : Nat} {rows : List (List PV)} {A : Option Addr} {cap l h : Nat} (hr : Rep w G (.sl c rows) (.slice A rows.length cap)) (h1 : l ≤ h) (h2 : h ≤ rows.length) :
    Rep w G (.sl c ((rows.drop l).take (h - l))) (.slice (if cap = l then A else A.map (·.add (l * c))) (h - l) (cap - l)) := by
  obtain ⟨A', cap', e, hc, ho, hcap, hcell⟩ := Rep.sl_inv hr
  cases e
  have hlen : ((rows.drop l).take (h - l)).length = h - l := by simp; omega
  have hmem : ∀ r ∈ (rows.drop l).take (h - l), r ∈ rows := fun r hr => List.mem_of_mem_drop (List.mem_of_mem_take hr)
  have hfl : ((rows.drop l).take (h - l)).flatten = (rows.flatten.drop (l * c)).take ((h - l) * c) := by
    rw [flat_take (fun r hr => hc r (List.mem_of_mem_drop hr)), flat_drop hc]
  have := Rep.sl_mk (w := w) (G := G) (c := c) (rows := (rows.drop l).take (h - l)) (A := if cap = l then A else A.map (·.add (l * c))) (cap := cap - l) (fun r hr => hc r (hmem r hr))
    (fun p hp => ?_) (by rw [hlen]; omega) (fun hne => ?_)
  · rw [hlen] at this; exact this
  · rw [hfl] at hp
    exact ho p (List.mem_of_mem_drop (List.mem_of_mem_take hp))
  · have hlt : l < h := by
      rcases Nat.lt_or_ge l h with h' | h'
      · exact h'
      · exact absurd (List.eq_nil_of_length_eq_zero (by rw [hlen]; omega)) hne
    have hne' : rows ≠ [] := by intro e; subst e; simp at h2; omega
    obtain ⟨b, off, rfl, hG, hcell⟩ := hcell hne'
    have hfull := flat_len hc
    have hle : l * c + (h - l) * c ≤ rows.length * c := by rw [← Nat.add_mul]; exact Nat.mul_le_mul_right _ (by omega)
    refine ⟨b, off + l * c, ?_, ?_, fun j p hp => ?_⟩
    · rw [if_neg (by omega)]; simp [addr_add]
    · rw [hfl, List.length_take, List.length_drop]; omega
    · rw [hfl] at hp
      have hj : j < (h - l) * c := by have := (List.getElem?_eq_some_iff.1 hp).1; simp at this; omega
      rw [List.getElem?_take, if_pos hj, List.getElem?_drop] at hp
      have := hcell _ p hp
      simpa [Nat.add_assoc] using this
theorem ok_slice {t e : TypeId} {c : Nat} {x : Operand} {x' : Opnd} {lo hi : Option Operand} {ts : List TypeId} {ys : List Opnd} {rows : List (List PV)} {l h : Nat} (hF : FRel w G β ω σ a.tmps) (hd : ∀ d, o.dst = some d → d < a.tmps.size)
    (ho : o.op = .slice t x lo hi none) (hu : P.underlying t = some (.slice e)) (hn : szT P e = some c) (hx : OOk x x') (ex : (x'.ev σ.tmps).ro = .val (.sl c rows)) (hc : cOpnds P ts (lo.toList ++ hi.toList) = some ys)
    (hb : bnds rows.length lo.isSome hi.isSome (ys.map (·.ev σ.tmps)) = some (l, h)) :
    StepOk P w G ω β a o σ (σ.put o.dst (.val (.sl c ((rows.drop l).take (h - l))))) := by
  have hrep := hx.valro hF ex
  obtain ⟨A, cap, e1, _, _, hcap, _⟩ := Rep.sl_inv hrep
  rw [e1] at hrep
  obtain ⟨hr, h1, h2⟩ := run_bnds (P := P) (cap := cap) true hF hc hcap hb
  refine ok_val hF hd ?_ (hrep.slice h1 h2)
  simp only [execOp, ho, Instr.sliceAt, Sem.run_bind, run_underlying hu, Result.andThen_ok, e1, Instr.slice, Option.map_none, hr, Sem.run_pure, run_szT hn]

theorem bytesOf_get : ∀ {rows : List (List PV)} {l : List UInt8}, bytesOf rows = some l → ∃ xs : List Int, rows = xs.map (fun n => [.int .u8 n]) ∧ l = xs.map fun n => UInt8.ofNat n.toNat := by
  intro rows
  induction rows with
  | nil => intro l h; simp [bytesOf] at h; subst h; exact ⟨[], rfl, rfl⟩
  | cons r rows ih =>
    intro l h
    unfold bytesOf at h
    split at h
    · simp_all
    · rename_i n r' he
      simp only [List.cons.injEq] at he
      obtain ⟨rfl, rfl⟩ := he
      split at h
      · rename_i l' hl'
        simp at h; subst h
        obtain ⟨xs, rfl, rfl⟩ := ih hl'
        exact ⟨n :: xs, rfl, rfl⟩
      · cases h
    · cases h
theorem flat_one (f : Int → PV) : ∀ xs : List Int, (xs.map fun n => [f n]).flatten = xs.map f
  | [] => rfl
  | x :: xs => by simp [flat_one f xs]
theorem ok_b2s {s d e : TypeId} {x : Operand} {x' : Opnd} {c : Nat} {rows : List (List PV)} {l : List UInt8} (hF : FRel w G β ω σ a.tmps) (hd : ∀ d, o.dst = some d → d < a.tmps.size)
    (ho : o.op = .convert s d x) (hs : P.underlying s = some (.slice e)) (he : P.underlying e = some (.int .u8)) (hu : P.underlying d = some .string) (hx : OOk x x') (ex : (x'.ev σ.tmps).ro = .val (.sl c rows)) (hb : bytesOf rows = some l) :
    StepOk P w G ω β a o σ (σ.put o.dst (.val (.str l))) := by
  have hrep := hx.valro hF ex
  obtain ⟨A, cap, e1, hc, _, hcap, hcell⟩ := Rep.sl_inv hrep
  obtain ⟨xs, rfl, rfl⟩ := bytesOf_get hb
  have : (convert s d (a.eval x)).run P w = .ok (.string ⟨⟨xs.map fun n => UInt8.ofNat n.toNat⟩⟩) w := by
    rw [e1]
    by_cases hne : xs = []
    · subst hne
      rcases A with _ | A
      · exact run_convert_bytes_nil w s e hs he _ _ d hu
      · simp [convert, run_underlying hs, run_underlying hu, run_underlying he, Conv.bytesToString, loadCells, loadCellsFrom]
        rfl
    · obtain ⟨b, off, rfl, hG, hcell⟩ := hcell (by simpa using hne)
      have := run_convert_bytes_arg (P := P) w s e hs he b off xs.length cap xs rfl (fun i hi => ?_) d hu
      · simpa [strOfNums] using this
      · obtain ⟨v, hv, hr⟩ := hcell i (.int .u8 (xs.getD i 0)) (by
          rw [flat_one]; simp [List.getElem?_eq_getElem hi, List.getD_eq_getElem?_getD])
        rw [hv, Rep.int_inv hr]
  refine ok_val hF hd ?_ (Rep.str _)
  simp [execOp, ho, this]
end ops
end Go.AR
