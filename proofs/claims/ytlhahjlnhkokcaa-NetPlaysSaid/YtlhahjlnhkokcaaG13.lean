import Derived.Test.YtlhahjlnhkokcaaG12
set_option linter.all false
namespace Go.AR
open Go
section ops
variable {P : Program} {w : World} {G β : Nat → Nat} {ω : Nat → Option Occ} {σ σ' : Fr} {a : Act} {o : Oper}

theorem run_isAggT {t : TypeId} {g : Bool} (h : isAggT P t = some g) : (isAgg t).run P w = .ok g w := by
  unfold isAggT uT at h
  cases hu : P.underlying t with
  | none => simp [hu] at h
  | some d => cases d <;> simp [hu] at h <;> subst h <;> simp [isAgg, run_underlying hu]
theorem run_szT {t : TypeId} {n : Nat} (h : szT P t = some n) : (sizeOf t).run P w = .ok n w := by
  unfold szT at h
  cases hi : P.info? t with
  | none => simp [hi] at h
  | some i => simp [hi] at h; subst h; simp [sizeOf, typeInfo, hi]
theorem szT_info {t : TypeId} {n : Nat} (h : szT P t = some n) : ∃ i, P.info? t = some i ∧ i.size = n := by
  unfold szT at h
  cases hi : P.info? t with
  | none => simp [hi] at h
  | some i => simp [hi] at h; exact ⟨i, rfl, h⟩
theorem addr_add (b o n : Nat) : (⟨b, o, none⟩ : Addr).add n = ⟨b, o + n, none⟩ := by unfold Addr.add; split <;> simp_all

/-- Cells that read, loaded at once. -/
theorem load_rows {b off : Nat} {ps : List PV} (h : ∀ (j : Nat) (p : PV), ps[j]? = some p → ∃ x, w.cell? ⟨b, off + j, none⟩ = some x ∧ Rep w G p x ∧ p.one = true) :
    ∃ vs : Array Value, (loadCells ⟨b, off, none⟩ ps.length).run P w = .ok vs w ∧ Rep w G (.agg ps) (.agg vs) := by
  refine ⟨_, run_loadCells w ⟨b, off, none⟩ ps.length (fun j => (w.cell? ⟨b, off + j, none⟩).getD undef) (fun j hj => ?_), ?_⟩
  · obtain ⟨x, hx, _⟩ := h j _ (List.getElem?_eq_getElem hj)
    rw [addr_add]; simp [hx]
  · refine .agg ps _ (by simp) (fun i p v hp hv => ?_) (fun p hp => ?_)
    · have hi : i < ps.length := (List.getElem?_eq_some_iff.1 hp).1
      obtain ⟨x, hx, hr, _⟩ := h i p hp
      simp [hi, hx] at hv
      subst hv; exact hr
    · obtain ⟨j, hj⟩ := List.getElem?_of_mem hp
      exact (h j p hj).choose_spec.2.2
theorem ok_loada {t : TypeId} {x : Operand} {b off n : Nat} {ps : List PV} (hF : FRel w G β ω σ a.tmps) (hd : ∀ d, o.dst = some d → d < a.tmps.size)
    (ho : o.op = .load t x) (hg : isAggT P t = some true) (hn : szT P t = some n) (ex : a.eval x = .pointer (some ⟨b, off, none⟩)) (hl : ps.length = n)
    (h : ∀ (j : Nat) (p : PV), ps[j]? = some p → ∃ x, w.cell? ⟨b, off + j, none⟩ = some x ∧ Rep w G p x ∧ p.one = true) : StepOk P w G ω β a o σ (σ.put o.dst (.val (.agg ps))) := by
  obtain ⟨vs, hr, hp⟩ := load_rows (P := P) (ps := ps) h
  refine ok_val hF hd ?_ hp
  rw [hl] at hr
  simp [execOp, ho, ex, Instr.loadAt, Instr.sureAddr, loadVar, run_isAggT hg, run_szT hn, hr]
theorem ok_loads {t : TypeId} {x : Operand} {b off : Nat} {v : Value} {tv : TV} (hF : FRel w G β ω σ a.tmps) (hd : ∀ d, o.dst = some d → d < a.tmps.size)
    (ho : o.op = .load t x) (hg : isAggT P t = some false) (ex : a.eval x = .pointer (some ⟨b, off, none⟩)) (hc : w.cell? ⟨b, off, none⟩ = some v) (hv : ∀ d, TRep w G β ω (.tmp d) tv v)
    (hl : ∀ s, tv.rf = some s → get σ.mem s ≠ none) : StepOk P w G ω β a o σ (σ.put o.dst tv) := by
  refine .pure (v := v) hF hd ?_ hv hl
  simp [execOp, ho, ex, Instr.loadAt, Instr.sureAddr, loadVar, run_isAggT hg, hc]

theorem cell_of_block {b : Nat} {arr : Array Value} {e : TypeId} {fr : Nat × Nat} (h : w.heap[b]? = some (.cells arr e fr)) (i : Nat) : w.cell? ⟨b, i, none⟩ = arr[i]? := by simp [World.cell?, h]

theorem pvs_get : ∀ {l : List TV} {ps : List PV}, pvs l = some ps → ps.length = l.length ∧ ∀ (i : Nat) (p : PV), ps[i]? = some p → ∃ t, l[i]? = some t ∧ t.pv = some p := by
  intro l
  induction l with
  | nil => intro ps h; simp [pvs] at h; subst h; simp
  | cons x xs ih =>
    intro ps h
    simp only [pvs] at h
    split at h
    · rename_i p qs hp hq
      simp at h; subst h
      obtain ⟨h1, h2⟩ := ih hq
      refine ⟨by simp [h1], fun i q hq => ?_⟩
      cases i with
      | zero => simp at hq; subst hq; exact ⟨x, rfl, hp⟩
      | succ i => simpa using h2 i q (by simpa using hq)
    · cases h
theorem CRep.pv {bb s i : Nat} {t : TV} {x : Value} {p : PV} (h : CRep w G ω bb s i t x) (hp : t.pv = some p) : Rep w G p x ∧ p.one = true := by
  cases t <;> simp [TV.pv] at hp
  · subst hp; exact h
  · subst hp; exact ⟨ORepE.rep h, rfl⟩
  · exact h.elim
theorem CRep.ro {bb s i : Nat} {t : TV} {x : Value} (h : CRep w G ω bb s i t x) (occ : Occ) : TRep w G β ω occ t.ro x := by
  cases t with
  | val p => exact h.1
  | ownE e1 c r => exact ORepE.rep h
  | self => trivial
  | lp _ _ => exact h.elim
  | rp _ _ => exact h.elim
  | undef => exact h.elim
  | exc _ _ => exact h.elim
  | xs _ _ _ => exact h.elim
  | anyb => exact h.elim
  | mp _ => exact h.elim
  | tag _ _ => exact h.elim

/-- What a pointer points to, part by part. -/
theorem ok_load {t : TypeId} {x : Operand} {x' : Opnd} {g : Bool} {n : Nat} {mr : List Nat} {d : Option Nat} {v : TV} {ws : List TV} {bs : List Blk} (hF : FRel w G β ω σ a.tmps) (hd : ∀ d, o.dst = some d → d < a.tmps.size)
    (ho : o.op = .load t x) (hg : isAggT P t = some g) (hn : szT P t = some n) (hx : OOk x x')
    (hs : sem (.load g n) d mr [] [x'.ev σ.tmps] (mr.map (get σ.mem)) [] = some (v, ws, bs)) : ws = [] ∧ bs = [] ∧ StepOk P w G ω β a o σ (σ.put o.dst v) := by
  have h0 := hx.trep hF
  generalize hp : x'.ev σ.tmps = tv at hs h0
  cases tv with
  | lp s off =>
    have e1 : a.eval x = .pointer (some ⟨β s, off, none⟩) := h0
    rcases mr with _ | ⟨s', _ | ⟨s2, ms⟩⟩
    · simp [sem] at hs
    · simp only [List.map_cons, List.map_nil] at hs
      rcases hb : get σ.mem s' with _ | (⟨e0, cs⟩ | cs | ⟨l, pos⟩ | kvs) <;> rw [hb] at hs
      · simp [sem] at hs
      · simp only [sem] at hs
        split at hs
        · rename_i hss
          subst hss
          obtain ⟨hω, arr, e, hh, ⟨hsz, _⟩, hG, hc⟩ := hF.blk s _ hb
          cases g with
          | true =>
            simp only [if_true] at hs
            split at hs
            · rename_i ps hps
              split at hs
              · rename_i hpl
                simp at hs; obtain ⟨rfl, rfl, rfl⟩ := hs
                refine ⟨rfl, rfl, ok_loada hF hd ho hg hn e1 hpl (fun j p hj => ?_)⟩
                obtain ⟨hl, hget⟩ := pvs_get hps
                obtain ⟨tv, ht, htp⟩ := hget j p hj
                have hjn : j < n := by rw [← hpl]; exact (List.getElem?_eq_some_iff.1 hj).1
                rw [List.getElem?_take, if_pos hjn, List.getElem?_drop] at ht
                have hlt : off + j < arr.size := Nat.lt_of_lt_of_le (List.getElem?_eq_some_iff.1 ht).1 hsz
                have := CRep.pv (hc (off + j) tv _ ht (Array.getElem?_eq_getElem hlt)) htp
                exact ⟨_, by rw [cell_of_block hh, Array.getElem?_eq_getElem hlt], this⟩
              · cases hs
            · cases hs
          | false =>
            simp only [Bool.false_eq_true, if_false] at hs
            split at hs
            · rename_i tv ht
              simp at hs; obtain ⟨rfl, rfl, rfl⟩ := hs
              have hlt : off < arr.size := Nat.lt_of_lt_of_le (List.getElem?_eq_some_iff.1 ht).1 hsz
              have hcr := hc off tv _ ht (Array.getElem?_eq_getElem hlt)
              refine ⟨rfl, rfl, ok_loads hF hd ho hg e1 (by rw [cell_of_block hh, Array.getElem?_eq_getElem hlt]) (fun d => hcr.ro _) (fun s' e => ?_)⟩
              cases tv <;> simp [TV.ro, TV.rf] at e
              all_goals exact (id hcr : False).elim
            · cases hs
        · cases hs
      · simp only [sem] at hs
        split at hs
        · rename_i hss
          subst hss
          obtain ⟨hω, arr, e, hh, hsz, hG, h1, hc⟩ := hF.blk s _ hb
          cases g with
          | true =>
            simp only [if_true] at hs
            split at hs
            · rename_i hle
              simp at hs; obtain ⟨rfl, rfl, rfl⟩ := hs
              refine ⟨rfl, rfl, ok_loada hF hd ho hg hn e1 (by simp; omega) (fun j p hj => ?_)⟩
              have hjn : j < n := by have := (List.getElem?_eq_some_iff.1 hj).1; simp at this; omega
              rw [List.getElem?_take, if_pos hjn, List.getElem?_drop] at hj
              have hlt : off + j < arr.size := Nat.lt_of_lt_of_le (List.getElem?_eq_some_iff.1 hj).1 hsz
              exact ⟨_, by rw [cell_of_block hh, Array.getElem?_eq_getElem hlt], hc _ _ _ hj (Array.getElem?_eq_getElem hlt), h1 p (List.mem_of_getElem? hj)⟩
            · cases hs
          | false =>
            simp only [Bool.false_eq_true, if_false] at hs
            split at hs
            · rename_i p ht
              simp at hs; obtain ⟨rfl, rfl, rfl⟩ := hs
              have hlt : off < arr.size := Nat.lt_of_lt_of_le (List.getElem?_eq_some_iff.1 ht).1 hsz
              exact ⟨rfl, rfl, ok_loads hF hd ho hg e1 (by rw [cell_of_block hh, Array.getElem?_eq_getElem hlt]) (fun d => hc off p _ ht (Array.getElem?_eq_getElem hlt)) (fun s' e => by cases e)⟩
            · cases hs
        · cases hs
      · simp [sem] at hs
      · simp [sem] at hs
    · simp [sem] at hs
  | rp cs off =>
    obtain ⟨b, o', e1, hG, h1, hc⟩ := (id h0 : PRep w G cs off (a.eval x))
    rcases mr with _ | ⟨s', ms⟩
    · simp only [List.map_nil, sem] at hs
      cases g with
      | true =>
        simp only [if_true] at hs
        split at hs
        · rename_i hle
          simp at hs; obtain ⟨rfl, rfl, rfl⟩ := hs
          refine ⟨rfl, rfl, ok_loada hF hd ho hg hn e1 (by simp; omega) (fun j p hj => ?_)⟩
          have hjn : j < n := by have := (List.getElem?_eq_some_iff.1 hj).1; simp at this; omega
          rw [List.getElem?_take, if_pos hjn, List.getElem?_drop] at hj
          obtain ⟨y, hy, hr⟩ := hc _ _ hj
          exact ⟨y, by rw [Nat.add_assoc]; exact hy, hr, h1 p (List.mem_of_getElem? hj)⟩
        · cases hs
      | false =>
        simp only [Bool.false_eq_true, if_false] at hs
        split at hs
        · rename_i p ht
          simp at hs; obtain ⟨rfl, rfl, rfl⟩ := hs
          obtain ⟨y, hy, hr⟩ := hc _ _ ht
          exact ⟨rfl, rfl, ok_loads hF hd ho hg e1 hy (fun d => hr) (fun s' e => by cases e)⟩
        · cases hs
    · simp [sem] at hs
  | val p => rcases mr with _ | ⟨s', _ | ⟨s2, ms⟩⟩ <;> simp [sem] at hs
  | ownE e1 c r => rcases mr with _ | ⟨s', _ | ⟨s2, ms⟩⟩ <;> simp [sem] at hs
  | self => rcases mr with _ | ⟨s', _ | ⟨s2, ms⟩⟩ <;> simp [sem] at hs
  | undef => rcases mr with _ | ⟨s', _ | ⟨s2, ms⟩⟩ <;> simp [sem] at hs
  | exc _ _ => rcases mr with _ | ⟨s', _ | ⟨s2, ms⟩⟩ <;> simp [sem] at hs
  | xs _ _ _ => rcases mr with _ | ⟨s', _ | ⟨s2, ms⟩⟩ <;> simp [sem] at hs
  | anyb => rcases mr with _ | ⟨s', _ | ⟨s2, ms⟩⟩ <;> simp [sem] at hs
  | mp _ => rcases mr with _ | ⟨s', _ | ⟨s2, ms⟩⟩ <;> simp [sem] at hs
  | tag _ _ => rcases mr with _ | ⟨s', _ | ⟨s2, ms⟩⟩ <;> simp [sem] at hs

theorem Rep.part {cs : List PV} {vs : Array Value} (h : Rep w G (.agg cs) (.agg vs)) (off n : Nat) (hle : off + n ≤ cs.length) : Rep w G (.agg ((cs.drop off).take n)) (.agg (vs.extract off (off + n))) := by
  obtain ⟨vs', e, hl, h, h1⟩ := Rep.agg_inv h
  cases e
  refine .agg _ _ (by simp; omega) (fun i p v hp hv => ?_) (fun p hp => h1 p (List.mem_of_mem_drop (List.mem_of_mem_take hp)))
  have hin : i < n := by have := (List.getElem?_eq_some_iff.1 hp).1; simp at this; omega
  rw [List.getElem?_take, if_pos hin, List.getElem?_drop] at hp
  rw [Array.getElem?_extract] at hv
  split at hv
  · exact h _ p v hp hv
  · cases hv
theorem ok_field {t : TypeId} {x : Operand} {x' : Opnd} {f : Nat} {fs : Array Field} {fd : Field} {n : Nat} {g : Bool} {cs : List PV} {p : PV} (hF : FRel w G β ω σ a.tmps) (hd : ∀ d, o.dst = some d → d < a.tmps.size)
    (ho : o.op = .field t x f) (hu : P.underlying t = some (.struct fs)) (hf : fs[f]? = some fd) (hn : szT P fd.type = some n) (hg : isAggT P fd.type = some g) (hx : OOk x x') (ex : x'.ev σ.tmps = .val (.agg cs))
    (hp : (g = true ∧ fd.offset + n ≤ cs.length ∧ p = .agg ((cs.drop fd.offset).take n)) ∨ (g = false ∧ cs[fd.offset]? = some p)) :
    StepOk P w G ω β a o σ (σ.put o.dst (.val p)) := by
  have hr := hx.val hF ex
  obtain ⟨vs, e1, hl, h, h1⟩ := Rep.agg_inv hr
  rcases hp with ⟨rfl, hle, rfl⟩ | ⟨rfl, hp⟩
  · rw [e1] at hr
    refine ok_val hF hd ?_ (hr.part _ _ hle)
    simp [execOp, ho, e1, Instr.field, run_underlying hu, hf, asAgg, part, run_isAggT hg, run_szT hn]
  · have hlt : fd.offset < vs.size := by rw [hl]; exact (List.getElem?_eq_some_iff.1 hp).1
    refine ok_val hF hd ?_ (h _ p _ hp (Array.getElem?_eq_getElem hlt))
    simp [execOp, ho, e1, Instr.field, run_underlying hu, hf, asAgg, part, run_isAggT hg, Array.getElem?_eq_getElem hlt]
theorem ok_indexa {t e : TypeId} {x y : Operand} {x' y' : Opnd} {len c : Nat} {g : Bool} {k : IntKind} {i : Int} {cs : List PV} {p : PV} (hF : FRel w G β ω σ a.tmps) (hd : ∀ d, o.dst = some d → d < a.tmps.size)
    (ho : o.op = .index t x y) (hu : P.underlying t = some (.array len e)) (hn : szT P e = some c) (hg : isAggT P e = some g) (hx : OOk x x') (hy : OOk y y') (ex : x'.ev σ.tmps = .val (.agg cs)) (ey : y'.ev σ.tmps = .val (.int k i))
    (hb : 0 ≤ i ∧ i < len) (hp : (g = true ∧ i.toNat * c + c ≤ cs.length ∧ p = .agg ((cs.drop (i.toNat * c)).take c)) ∨ (g = false ∧ cs[i.toNat * c]? = some p)) :
    StepOk P w G ω β a o σ (σ.put o.dst (.val p)) := by
  have hr := hx.val hF ex
  have e2 := Rep.int_inv (hy.val hF ey)
  obtain ⟨vs, e1, hl, h, h1⟩ := Rep.agg_inv hr
  rcases hp with ⟨rfl, hle, rfl⟩ | ⟨rfl, hp⟩
  · rw [e1] at hr
    refine ok_val hF hd ?_ (hr.part _ _ hle)
    simp [execOp, ho, e1, e2, Instr.index, asIntOf, run_underlying hu, hb, part, run_isAggT hg, run_szT hn]
  · have hlt : i.toNat * c < vs.size := by rw [hl]; exact (List.getElem?_eq_some_iff.1 hp).1
    refine ok_val hF hd ?_ (h _ p _ hp (Array.getElem?_eq_getElem hlt))
    simp [execOp, ho, e1, e2, Instr.index, asIntOf, run_underlying hu, hb, part, run_isAggT hg, run_szT hn, Array.getElem?_eq_getElem hlt]
end ops
end Go.AR
