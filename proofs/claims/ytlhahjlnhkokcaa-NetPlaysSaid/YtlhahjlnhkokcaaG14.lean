import Derived.Test.YtlhahjlnhkokcaaG13
import Derived.Laws.BytesArg
set_option linter.all false
namespace Go.AR
open Go
section ops
variable {P : Program} {w : World} {G β : Nat → Nat} {ω : Nat → Option Occ} {σ σ' : Fr} {a : Act} {o : Oper}

theorem run_bnd {x : Value} {k : IntKind} {i : Int} (h : x = .int k i) (y : Nat) (code : BoundsCode) (h0 : 0 ≤ i) (h1 : i ≤ y) : (Instr.sliceBound x y code).run P w = .ok i.toNat w := by
  subst h
  simp [Instr.sliceBound, asIntOf, h0, h1]
theorem opts_ok {lo hi : Option Operand} {ts : List TypeId} {ys : List Opnd} (h : cOpnds P ts (lo.toList ++ hi.toList) = some ys) :
    (lo = none → hi = none → ys = []) ∧ (∀ l, lo = some l → hi = none → ∃ l', ys = [l'] ∧ OOk l l') ∧ (∀ h, lo = none → hi = some h → ∃ h', ys = [h'] ∧ OOk h h') ∧
    (∀ l h, lo = some l → hi = some h → ∃ l' h', ys = [l', h'] ∧ OOk l l' ∧ OOk h h') := by
  rcases lo with _ | l <;> rcases hi with _ | h' <;> simp only [Option.toList, List.nil_append, List.cons_append] at h
  · rcases ts with _ | ⟨t, ts⟩ <;> simp [cOpnds] at h
    subst h; simp
  · rcases ts with _ | ⟨t, _ | ⟨t2, ts⟩⟩ <;> simp only [cOpnds] at h
    · cases h
    · split at h
      · rename_i y ys' hy hys; simp at h hys; subst hys; subst h
        refine ⟨by simp, by simp, fun h2 _ e => ?_, by simp⟩
        cases e
        exact ⟨y, rfl, cOpnd_ok hy⟩
      · cases h
    · split at h
      · rename_i y ys' hy hys; simp at hys
      · cases h
  · rcases ts with _ | ⟨t, _ | ⟨t2, ts⟩⟩ <;> simp only [cOpnds] at h
    · cases h
    · split at h
      · rename_i y ys' hy hys; simp at h hys; subst hys; subst h
        refine ⟨by simp, fun l2 e _ => ?_, by simp, by simp⟩
        cases e
        exact ⟨y, rfl, cOpnd_ok hy⟩
      · cases h
    · split at h
      · rename_i y ys' hy hys; simp at hys
      · cases h
  · rcases ts with _ | ⟨t, _ | ⟨t2, _ | ⟨t3, ts⟩⟩⟩ <;> simp only [cOpnds] at h
    · cases h
    · split at h
      · rename_i y ys' hy hys; simp at hys
      · cases h
    · split at h
      · rename_i y ys' hy hys
        split at hys
        · rename_i z zs hz hzs
          simp at h hys hzs; subst hzs; subst hys; subst h
          refine ⟨by simp, by simp, by simp, fun l2 h2 e1 e2 => ?_⟩
          cases e1; cases e2
          exact ⟨y, z, rfl, cOpnd_ok hy, cOpnd_ok hz⟩
        · cases hys
      · cases h
    · split at h
      · rename_i y ys' hy hys
        split at hys
        · rename_i z zs hz hzs; simp at hzs
        · cases hys
      · cases h

/-- What 'bnds' says, the model's bounds say. -/
theorem run_bnds {len cap : Nat} {lo hi : Option Operand} {ts : List TypeId} {ys : List Opnd} {l h : Nat} (isl : Bool) (hF : FRel w G β ω σ a.tmps) (hc : cOpnds P ts (lo.toList ++ hi.toList) = some ys) (hcap : len ≤ cap)
    (hb : bnds len lo.isSome hi.isSome (ys.map (·.ev σ.tmps)) = some (l, h)) :
    (Instr.sliceBounds isl len cap (lo.map a.eval) (hi.map a.eval) none).run P w = .ok (l, h, cap) w ∧ l ≤ h ∧ h ≤ len := by
  obtain ⟨c1, c2, c3, c4⟩ := opts_ok hc
  rcases lo with _ | lo <;> rcases hi with _ | hi
  · obtain rfl := c1 rfl rfl
    simp [bnds] at hb
    obtain ⟨rfl, rfl⟩ := hb
    refine ⟨by simp [Instr.sliceBounds], by omega, by omega⟩
  · obtain ⟨h', rfl, oh⟩ := c3 hi rfl rfl
    simp only [bnds, Option.isSome, List.map_cons, List.map_nil] at hb
    generalize hv : h'.ev σ.tmps = vh at hb
    match vh, hb with
    | .val (.int k i), hb =>
      simp at hb
      obtain ⟨⟨h1, h2⟩, rfl, rfl⟩ := hb
      have e := Rep.int_inv (oh.val hF hv)
      refine ⟨?_, by omega, by omega⟩
      simp only [Instr.sliceBounds, Option.map_none, Option.map_some, Sem.run_bind, Sem.run_pure, Result.andThen_ok, run_bnd e cap _ h1 (by omega)]
  · obtain ⟨l', rfl, ol⟩ := c2 lo rfl rfl
    simp only [bnds, Option.isSome, List.map_cons, List.map_nil] at hb
    generalize hv : l'.ev σ.tmps = vl at hb
    match vl, hb with
    | .val (.int k i), hb =>
      simp at hb
      obtain ⟨⟨h1, h2⟩, rfl, rfl⟩ := hb
      have e := Rep.int_inv (ol.val hF hv)
      refine ⟨?_, by omega, by omega⟩
      simp only [Instr.sliceBounds, Option.map_none, Option.map_some, Sem.run_bind, Sem.run_pure, Result.andThen_ok, run_bnd e len _ h1 (by omega)]
  · obtain ⟨l', h', rfl, ol, oh⟩ := c4 lo hi rfl rfl
    simp only [bnds, Option.isSome, List.map_cons, List.map_nil] at hb
    generalize hv : l'.ev σ.tmps = vl at hb
    generalize hv2 : h'.ev σ.tmps = vh at hb
    match vl, vh, hb with
    | .val (.int k i), .val (.int k2 j), hb =>
      simp at hb
      obtain ⟨⟨h1, h2, h3⟩, rfl, rfl⟩ := hb
      have e := Rep.int_inv (ol.val hF hv)
      have e2 := Rep.int_inv (oh.val hF hv2)
      refine ⟨?_, by omega, by omega⟩
      simp only [Instr.sliceBounds, Option.map_none, Option.map_some, Sem.run_bind, Sem.run_pure, Result.andThen_ok, run_bnd e2 cap _ (by omega) (by omega), run_bnd e j.toNat _ h1 (by omega)]

theorem ok_slices {t : TypeId} {x : Operand} {x' : Opnd} {lo hi : Option Operand} {ts : List TypeId} {ys : List Opnd} {s : List UInt8} {l h : Nat} (hF : FRel w G β ω σ a.tmps) (hd : ∀ d, o.dst = some d → d < a.tmps.size)
    (ho : o.op = .slice t x lo hi none) (hu : P.underlying t = some .string) (hx : OOk x x') (ex : x'.ev σ.tmps = .val (.str s)) (hc : cOpnds P ts (lo.toList ++ hi.toList) = some ys)
    (hb : bnds s.length lo.isSome hi.isSome (ys.map (·.ev σ.tmps)) = some (l, h)) :
    StepOk P w G ω β a o σ (σ.put o.dst (.val (.str ((s.drop l).take (h - l))))) := by
  have e1 := Rep.str_inv (hx.val hF ex)
  obtain ⟨hr, h1, h2⟩ := run_bnds (P := P) (cap := s.length) false hF hc (Nat.le_refl _) hb
  have hs : ByteArray.size ⟨⟨s⟩⟩ = s.length := rfl
  have hex : (⟨⟨s⟩⟩ : ByteArray).extract l h = ⟨⟨(s.drop l).take (h - l)⟩⟩ := by
    apply ByteArray.ext
    simp [ByteArray.data_extract, List.extract]
  refine ok_val hF hd ?_ (Rep.str _)
  simp only [execOp, ho, Instr.sliceAt, Sem.run_bind, run_underlying hu, Result.andThen_ok, e1, Instr.slice, hs, Option.map_none, Option.isSome_none, Bool.false_eq_true, if_false, hr, Sem.run_pure, hex]

theorem flat_drop {c : Nat} {rows : List (List PV)} (hc : ∀ r ∈ rows, r.length = c) (l : Nat) : (rows.drop l).flatten = rows.flatten.drop (l * c) := by
  induction rows generalizing l with
  | nil => simp
  | cons q rows ih =>
    cases l with
    | zero => simp
    | succ l =>
      have hq : q.length = c := hc q (by simp)
      have h1 : q.drop ((l + 1) * c) = [] := List.drop_eq_nil_of_le (by rw [hq, Nat.add_mul]; omega)
      have h2 : (l + 1) * c - q.length = l * c := by rw [hq, Nat.add_mul]; omega
      rw [List.drop_succ_cons, ih (fun r hr => hc r (by simp [hr])), List.flatten_cons, List.drop_append, h1, h2, List.nil_append]
theorem flat_take {c : Nat} {rows : List (List PV)} (hc : ∀ r ∈ rows, r.length = c) (l : Nat) : (rows.take l).flatten = rows.flatten.take (l * c) := by
  induction rows generalizing l with
  | nil => simp
  | cons q rows ih =>
    cases l with
    | zero => simp
    | succ l =>
      have hq : q.length = c := hc q (by simp)
      have h1 : q.take ((l + 1) * c) = q := List.take_of_length_le (by rw [hq, Nat.add_mul]; omega)
      have h2 : (l + 1) * c - q.length = l * c := by rw [hq, Nat.add_mul]; omega
      rw [List.take_succ_cons, List.flatten_cons, ih (fun r hr => hc r (by simp [hr])), List.flatten_cons, List.take_append, h1, h2]

theorem Rep.slice {c : Nat} {rows : List (List PV)} {A : Option Addr} {cap l h : Nat} (hr : Rep w G (.sl c rows) (.slice A rows.length cap)) (h1 : l ≤ h) (h2 : h ≤ rows.length) :
    Rep w G (.sl c ((rows.drop l).take (h - l))) (.slice (if cap = l then A else A.map (·.add (l * c))) (h - l) (cap - l)) := by
  obtain ⟨A', cap', e, hc, ho, hcap, hcell⟩ := Rep.sl_inv hr
  cases e
  have hlen : ((rows.drop l).take (h - l)).length = h - l := by simp; omega
  have hmem : ∀ r ∈ (rows.drop l).take (h - l), r ∈ rows := fun r hr => List.mem_of_mem_drop (List.mem_of_mem_take hr)
  have hfl : ((rows.drop l).take (h - l)).flatten = (rows.flatten.drop (l * c)).take ((h - l) * c) := by
    rw [flat_take (fun r hr => hc r (List.mem_of_mem_drop hr)), flat_drop hc]
  have := Rep.sl_mk (w := w) (G := G) (c := c) (rows := (rows.drop l).take (h - l)) (A := if cap = l then A else A.map (·.add (l * c))) (cap := cap - l) (fun r hr => hc r (hmem r hr))
    (fun p hp => ?_) (by rw [hlen]; omega) (fun hne => ?_)
  · rw [hlen] at this; exact this
  · rw [hfl] at hp
    exact ho p (List.mem_of_mem_drop (List.mem_of_mem_take hp))
  · have hlt : l < h := by
      rcases Nat.lt_or_ge l h with h' | h'
      · exact h'
      · exact absurd (List.eq_nil_of_length_eq_zero (by rw [hlen]; omega)) hne
    have hne' : rows ≠ [] := by intro e; subst e; simp at h2; omega
    obtain ⟨b, off, rfl, hG, hcell⟩ := hcell hne'
    have hfull := flat_len hc
    have hle : l * c + (h - l) * c ≤ rows.length * c := by rw [← Nat.add_mul]; exact Nat.mul_le_mul_right _ (by omega)
    refine ⟨b, off + l * c, ?_, ?_, fun j p hp => ?_⟩
    · rw [if_neg (by omega)]; simp [addr_add]
    · rw [hfl, List.length_take, List.length_drop]; omega
    · rw [hfl] at hp
      have hj : j < (h - l) * c := by have := (List.getElem?_eq_some_iff.1 hp).1; simp at this; omega
      rw [List.getElem?_take, if_pos hj, List.getElem?_drop] at hp
      have := hcell _ p hp
      simpa [Nat.add_assoc] using this
theorem ok_slice {t e : TypeId} {c : Nat} {x : Operand} {x' : Opnd} {lo hi : Option Operand} {ts : List TypeId} {ys : List Opnd} {rows : List (List PV)} {l h : Nat} (hF : FRel w G β ω σ a.tmps) (hd : ∀ d, o.dst = some d → d < a.tmps.size)
    (ho : o.op = .slice t x lo hi none) (hu : P.underlying t = some (.slice e)) (hn : szT P e = some c) (hx : OOk x x') (ex : (x'.ev σ.tmps).ro = .val (.sl c rows)) (hc : cOpnds P ts (lo.toList ++ hi.toList) = some ys)
    (hb : bnds rows.length lo.isSome hi.isSome (ys.map (·.ev σ.tmps)) = some (l, h)) :
    StepOk P w G ω β a o σ (σ.put o.dst (.val (.sl c ((rows.drop l).take (h - l))))) := by
  have hrep := hx.valro hF ex
  obtain ⟨A, cap, e1, _, _, hcap, _⟩ := Rep.sl_inv hrep
  rw [e1] at hrep
  obtain ⟨hr, h1, h2⟩ := run_bnds (P := P) (cap := cap) true hF hc hcap hb
  refine ok_val hF hd ?_ (hrep.slice h1 h2)
  simp only [execOp, ho, Instr.sliceAt, Sem.run_bind, run_underlying hu, Result.andThen_ok, e1, Instr.slice, Option.map_none, hr, Sem.run_pure, run_szT hn]

theorem bytesOf_get : ∀ {rows : List (List PV)} {l : List UInt8}, bytesOf rows = some l → ∃ xs : List Int, rows = xs.map (fun n => [.int .u8 n]) ∧ l = xs.map fun n => UInt8.ofNat n.toNat := by
  intro rows
  induction rows with
  | nil => intro l h; simp [bytesOf] at h; subst h; exact ⟨[], rfl, rfl⟩
  | cons r rows ih =>
    intro l h
    unfold bytesOf at h
    split at h
    · simp_all
    · rename_i n r' he
      simp only [List.cons.injEq] at he
      obtain ⟨rfl, rfl⟩ := he
      split at h
      · rename_i l' hl'
        simp at h; subst h
        obtain ⟨xs, rfl, rfl⟩ := ih hl'
        exact ⟨n :: xs, rfl, rfl⟩
      · cases h
    · cases h
theorem flat_one (f : Int → PV) : ∀ xs : List Int, (xs.map fun n => [f n]).flatten = xs.map f
  | [] => rfl
  | x :: xs => by simp [flat_one f xs]
theorem ok_b2s {s d e : TypeId} {x : Operand} {x' : Opnd} {c : Nat} {rows : List (List PV)} {l : List UInt8} (hF : FRel w G β ω σ a.tmps) (hd : ∀ d, o.dst = some d → d < a.tmps.size)
    (ho : o.op = .convert s d x) (hs : P.underlying s = some (.slice e)) (he : P.underlying e = some (.int .u8)) (hu : P.underlying d = some .string) (hx : OOk x x') (ex : (x'.ev σ.tmps).ro = .val (.sl c rows)) (hb : bytesOf rows = some l) :
    StepOk P w G ω β a o σ (σ.put o.dst (.val (.str l))) := by
  have hrep := hx.valro hF ex
  obtain ⟨A, cap, e1, hc, _, hcap, hcell⟩ := Rep.sl_inv hrep
  obtain ⟨xs, rfl, rfl⟩ := bytesOf_get hb
  have : (convert s d (a.eval x)).run P w = .ok (.string ⟨⟨xs.map fun n => UInt8.ofNat n.toNat⟩⟩) w := by
    rw [e1]
    by_cases hne : xs = []
    · subst hne
      rcases A with _ | A
      · exact run_convert_bytes_nil w s e hs he _ _ d hu
      · simp [convert, run_underlying hs, run_underlying hu, run_underlying he, Conv.bytesToString, loadCells, loadCellsFrom]
        rfl
    · obtain ⟨b, off, rfl, hG, hcell⟩ := hcell (by simpa using hne)
      have := run_convert_bytes_arg (P := P) w s e hs he b off xs.length cap xs rfl (fun i hi => ?_) d hu
      · simpa [strOfNums] using this
      · obtain ⟨v, hv, hr⟩ := hcell i (.int .u8 (xs.getD i 0)) (by
          rw [flat_one]; simp [List.getElem?_eq_getElem hi, List.getD_eq_getElem?_getD])
        rw [hv, Rep.int_inv hr]
  refine ok_val hF hd ?_ (Rep.str _)
  simp [execOp, ho, this]
end ops
end Go.AR

namespace Go.AR
open Go

theorem TRep.mono {w G β ω w' G' β' ω' occ occ'} {x : TV} {v : Value} (h : TRep w G β ω occ x v) (hx : GExt w G w' G') (hβ : ∀ s, x.rf = some s → β' s = β s)
    (hk : ∀ g, ω g = some occ → w'.heap[g]? = w.heap[g]? ∧ G' g = G g ∧ ω' g = some occ') : TRep w' G' β' ω' occ' x v := by
  cases x with
  | val p => exact Rep.mono hx h
  | ownE e1 c r => exact ORepE.mono h hx hk
  | lp s off => simp only [TRep] at h ⊢; rw [hβ s rfl]; exact h
  | rp cs off => exact PRep.mono h hx
  | self => exact h
  | undef => trivial
  | exc c r => exact ORepX.mono h hx hk
  | xs s c n =>
    obtain ⟨cap, e, h1, h2, h3, h4⟩ := h
    exact ⟨cap, e, by rw [hβ s rfl]; exact h1, h2, h3, by rw [hβ s rfl]; exact hx.shape _ _ h4⟩
  | anyb => exact h
  | mp s => simp only [TRep] at h ⊢; rw [hβ s rfl]; exact h
  | tag cs ns => obtain ⟨h1, xs, e, h2⟩ := h; exact ⟨Rep.mono hx h1, xs, e, h2⟩
theorem CRep.mono {w G ω w' G' ω'} {bb s i s' i' : Nat} {x : TV} {v : Value} (h : CRep w G ω bb s i x v) (hx : GExt w G w' G')
    (hk : ∀ g, ω g = some (.cell s i) → w'.heap[g]? = w.heap[g]? ∧ G' g = G g ∧ ω' g = some (.cell s' i')) : CRep w' G' ω' bb s' i' x v := by
  cases x with
  | val p => exact ⟨h.1.mono hx, h.2⟩
  | ownE e1 c r => exact ORepE.mono h hx hk
  | self => exact h
  | lp s off => exact h
  | rp cs off => exact h
  | undef => exact h
  | exc _ _ => exact h
  | xs _ _ _ => exact h
  | anyb => exact h
  | mp _ => exact h
  | tag _ _ => exact h
theorem BRep.mono {w G ω w' G' ω'} {bb s s' : Nat} {b : Blk} (h : BRep w G ω bb s b) (hx : GExt w G w' G') (hh : w'.heap[bb]? = w.heap[bb]?) (hg : G' bb = G bb)
    (hk : ∀ g i, ω g = some (.cell s i) → w'.heap[g]? = w.heap[g]? ∧ G' g = G g ∧ ω' g = some (.cell s' i)) : BRep w' G' ω' bb s' b := by
  cases b with
  | cellsE e0 cs =>
    obtain ⟨arr, e, h1, h2, h3, h4⟩ := h
    exact ⟨arr, e, by rw [hh]; exact h1, h2, by rw [hg]; exact h3, fun i t x ht hxx => (h4 i t x ht hxx).mono hx (fun g hg' => hk g i hg')⟩
  | frozen cs =>
    obtain ⟨arr, e, h1, h2, h3, h4, h5⟩ := h
    exact ⟨arr, e, by rw [hh]; exact h1, h2, by rw [hg]; exact h3, h4, fun i t x ht hxx => (h5 i t x ht hxx).mono hx⟩
  | iter l pos =>
    obtain ⟨h1, h2⟩ := h
    exact ⟨by rw [hh]; exact h1, by rw [hg]; exact h2⟩
  | map kvs =>
    obtain ⟨es, clock, h1, h2, h3, h4⟩ := h
    exact ⟨es, clock, by rw [hh]; exact h1, by rw [hg]; exact h2, h3, fun i kv e ha hb => ⟨(h4 i kv e ha hb).1.mono hx, (h4 i kv e ha hb).2.mono hx⟩⟩

def upd {α : Type} (f : Nat → α) (i : Nat) (x : α) : Nat → α := fun b => if b = i then x else f b
theorem upd_eq {α : Type} (f : Nat → α) (i : Nat) (x : α) : upd f i x i = x := by simp [upd]
theorem upd_ne {α : Type} (f : Nat → α) (i b : Nat) (x : α) (h : b ≠ i) : upd f i x b = f b := by simp [upd, h]

/-- What an operation may have written: temporaries 'XT', blocks 'XB' (and their cells). All else reads as it did. -/
structure Same (XT XB : Nat → Prop) (w : World) (G : Nat → Nat) (β : Nat → Nat) (ω : Nat → Option Occ) (w' : World) (G' : Nat → Nat) (β' : Nat → Nat) (ω' : Nat → Option Occ) : Prop where
  ext : GExt w G w' G'
  tmp : ∀ g t, ω g = some (.tmp t) → ¬ XT t → w'.heap[g]? = w.heap[g]? ∧ G' g = G g ∧ ω' g = some (.tmp t)
  blk : ∀ g s, ω g = some (.blk s) → ¬ XB s → w'.heap[g]? = w.heap[g]? ∧ G' g = G g ∧ ω' g = some (.blk s)
  cell : ∀ g s i, ω g = some (.cell s i) → ¬ XB s → w'.heap[g]? = w.heap[g]? ∧ G' g = G g ∧ ω' g = some (.cell s i)
theorem FRel.rest_tmp {XT XB w G β ω w' G' β' ω' σ tm} (hF : FRel w G β ω σ tm) (hs : Same XT XB w G β ω w' G' β' ω') (hβ : ∀ s, get σ.mem s ≠ none → β' s = β s) (t : Nat) (ht : ¬ XT t) :
    TRep w' G' β' ω' (.tmp t) (tget σ.tmps t) (tm.getD t undef) :=
  (hF.tmp t).mono hs.ext (fun s e => hβ s (hF.live t s e)) (fun g hg => hs.tmp g t hg ht)
theorem FRel.rest_blk {XT XB w G β ω w' G' β' ω' σ tm} (hF : FRel w G β ω σ tm) (hs : Same XT XB w G β ω w' G' β' ω') (hβ : ∀ s, get σ.mem s ≠ none → β' s = β s) (s : Nat) (hsx : ¬ XB s) (b : Blk)
    (hb : get σ.mem s = some b) : ω' (β' s) = some (.blk s) ∧ BRep w' G' ω' (β' s) s b := by
  obtain ⟨h1, h2⟩ := hF.blk s b hb
  rw [hβ s (by rw [hb]; simp)]
  obtain ⟨k1, k2, k3⟩ := hs.blk _ s h1 hsx
  exact ⟨k3, h2.mono hs.ext k1 k2 (fun g i hg => hs.cell g s i hg hsx)⟩

section ops
variable {P : Program} {w : World} {G β : Nat → Nat} {ω : Nat → Option Occ} {σ σ' : Fr} {a : Act} {o : Oper}

/-- The right to append moves from one temporary to another one. -/
theorem ok_mv {s d : Nat} (hF : FRel w G β ω σ a.tmps) (hd : d < a.tmps.size) (hs : s < a.tmps.size) (hdst : o.dst = some d) (hne : d ≠ s) (ho : o.op = .move (.tmp s) ∨ o.op = .assign (.tmp s)) :
    StepOk P w G ω β a o σ { σ with tmps := set (set σ.tmps d (tget σ.tmps s)) s (tget σ.tmps s).ro } := by
  let ω' : Nat → Option Occ := fun g => if ω g = some (.tmp s) then some (.tmp d) else ω g
  have hsame : Same (fun t => t = s) (fun _ => False) w G β ω w G β ω' := by
    refine ⟨.refl _ _, fun g t hg ht => ⟨rfl, rfl, ?_⟩, fun g t hg _ => ⟨rfl, rfl, ?_⟩, fun g t i hg _ => ⟨rfl, rfl, ?_⟩⟩ <;> simp only [ω', hg]
    · rw [if_neg (by simpa using ht)]
    · rw [if_neg (by simp)]
    · rw [if_neg (by simp)]
  refine ⟨.value (a.eval (.tmp s)), a.eval (.tmp s), w, G, β, ω', ?_, .inl rfl, .refl _ _ _, fun b hb => ?_, fun _ _ => rfl, ?_⟩
  · rcases ho with ho | ho <;> simp [execOp, ho]
  · simp only [ω'] at hb
    split at hb
    · rename_i h; exact .inl (by rw [h]; simp)
    · exact .inl hb
  · refine ⟨fun t => ?_, fun t s' h => ?_, fun s' b hb => hF.rest_blk hsame (fun _ _ => rfl) s' id b hb, hF.gnew, fun b hb => ?_⟩
    · simp only [hdst, Act.put]
      rw [tget_set, tget_set]
      by_cases e1 : t = s
      · subst e1
        rw [if_pos rfl, getD_set_ne _ _ _ _ _ hne]
        have h0 := hF.tmp t
        exact TRep.ro h0
      · rw [if_neg e1]
        by_cases e2 : t = d
        · subst e2
          rw [if_pos rfl, getD_set_eq _ _ _ _ hd]
          exact (hF.tmp s).mono (.refl _ _) (fun _ _ => rfl) (fun g hg => ⟨rfl, rfl, by simp only [ω', hg, if_true]⟩)
        · rw [if_neg e2, getD_set_ne _ _ _ _ _ (Ne.symm e2)]
          exact hF.rest_tmp hsame (fun _ _ => rfl) t e1
    · rw [tget_set, tget_set] at h
      split at h
      · exact hF.live s _ (TV.rf_ro h)
      · split at h
        · exact hF.live s _ h
        · exact hF.live t _ h
    · simp only [ω'] at hb
      split at hb
      · rename_i h; exact hF.ωnew b (by rw [h]; simp)
      · exact hF.ωnew b hb

theorem alloc_evo {T : Nat → Prop} (ob : Obj) (n : Nat) (hG : ∀ b, w.heap.size ≤ b → G b = 0) :
    Evo T w G (w.alloc ob) (upd G w.heap.size n) := by
  refine ⟨rfl, rfl, rfl, by simp, ⟨fun b => ?_, fun b off h => ?_, fun b sh hs => (shape_of_block (heap_alloc_old w ob (shape_lt hs))).trans hs⟩, fun b hb _ => ⟨heap_alloc_old w ob hb, upd_ne _ _ _ _ (by omega)⟩⟩
  · by_cases e : b = w.heap.size
    · subst e; rw [upd_eq, hG _ (Nat.le_refl _)]; omega
    · rw [upd_ne _ _ _ _ e]; exact Nat.le_refl _
  · have hb : b < w.heap.size := by
      rcases Nat.lt_or_ge b w.heap.size with h' | h'
      · exact h'
      · have := hG b h'; omega
    exact World.cell?_of_block (w := w) (heap_alloc_old w ob hb)

/-- A new block for an owner who had none. -/
theorem alloc_same {XT XB : Nat → Prop} {ob : Obj} {n d : Nat} {occ : Occ} (hF : FRel w G β ω σ a.tmps) :
    Same XT XB w G β ω (w.alloc ob) (upd G w.heap.size n) (upd β d w.heap.size) (upd ω w.heap.size (some occ)) := by
  have hlt : ∀ g, ω g ≠ none → g < w.heap.size := hF.ωnew
  refine ⟨(alloc_evo (T := fun _ => True) ob n hF.gnew).ext, fun g t hg _ => ?_, fun g t hg _ => ?_, fun g t i hg _ => ?_⟩ <;>
    (have := hlt g (by rw [hg]; simp); exact ⟨heap_alloc_old w ob this, upd_ne _ _ _ _ (by omega), by rw [upd_ne _ _ _ _ (by omega)]; exact hg⟩)

/-- A new block of cells at its own temporary. -/
theorem ok_newblk {d : Nat} {zs : List TV} {arr : Array Value} {e : TypeId} (hF : FRel w G β ω σ a.tmps) (hd : d < a.tmps.size) (hdst : o.dst = some d) (hm : get σ.mem d = none)
    (hr : (execOp a.eval o).run P w = .ok (.value (.pointer (some ⟨w.heap.size, 0, none⟩))) (w.alloc (.cells arr e))) (hl : arr.size = zs.length)
    (hz : ∀ (i : Nat) (t : TV) (x : Value), zs[i]? = some t → arr[i]? = some x → (∃ p, t = .val p ∧ Rep w G p x ∧ p.one = true) ∨ (∃ eo c, t = .ownE eo c [] ∧ x = .slice none 0 0)) {e0 : Option TypeId} (he : e0.getD e = e) :
    StepOk P w G ω β a o σ { tmps := set σ.tmps d (.lp d 0), mem := set σ.mem d (.cellsE e0 zs) } := by
  have hsame := alloc_same (XT := fun _ => False) (XB := fun _ => False) (ob := .cells arr e) (n := 0) (d := d) (occ := .blk d) (σ := σ) (a := a) hF
  have hβ : ∀ s, get σ.mem s ≠ none → upd β d w.heap.size s = β s := fun s hs => upd_ne _ _ _ _ (fun e => by rw [e] at hs; exact hs hm)
  refine ⟨.value (.pointer (some ⟨w.heap.size, 0, none⟩)), .pointer (some ⟨w.heap.size, 0, none⟩), w.alloc (.cells arr e), upd G w.heap.size 0, upd β d w.heap.size, upd ω w.heap.size (some (.blk d)), hr, .inl rfl, alloc_evo _ 0 hF.gnew, fun b hb => ?_, hβ, ?_⟩
  · by_cases e : b = w.heap.size
    · exact .inr (by omega)
    · rw [upd_ne _ _ _ _ e] at hb; exact .inl hb
  · refine ⟨fun t => ?_, fun t s h => ?_, fun s b hb => ?_, fun b hb => ?_, fun b hb => ?_⟩
    · simp only [hdst, Act.put]
      rw [tget_set]
      by_cases e1 : t = d
      · subst e1
        rw [if_pos rfl, getD_set_eq _ _ _ _ hd]
        simp [TRep, upd_eq]
      · rw [if_neg e1, getD_set_ne _ _ _ _ _ (Ne.symm e1)]
        exact hF.rest_tmp hsame hβ t id
    · rw [tget_set] at h
      rw [get_set]
      split at h
      · cases h; simp
      · have := hF.live t s h
        split
        · simp
        · exact this
    · rw [get_set] at hb
      split at hb
      · rename_i e1
        subst e1
        cases hb
        refine ⟨by rw [upd_eq, upd_eq], ?_⟩
        rw [upd_eq]
        refine ⟨arr, e, by rw [he]; exact heap_alloc_new w _, ⟨Nat.le_of_eq hl.symm, fun _ => hl⟩, by rw [upd_eq], fun i t x ht hx => ?_⟩
        rcases hz i t x ht hx with ⟨p, rfl, hp, h1⟩ | ⟨eo, c, rfl, rfl⟩
        · exact ⟨hp.mono hsame.ext, h1⟩
        · exact ⟨e, [], World.ownsRow_nil _ _ _ _, by simp, by simp, by simp, by simp, fun g hg => by simp [Value.ownBlock] at hg⟩
      · exact hF.rest_blk hsame hβ s id b hb
    · simp only [World.size_alloc] at hb
      rw [upd_ne _ _ _ _ (by omega)]; exact hF.gnew b (by omega)
    · simp only [World.size_alloc]
      by_cases e : b = w.heap.size
      · omega
      · rw [upd_ne _ _ _ _ e] at hb
        have := hF.ωnew b hb; omega
end ops
end Go.AR
