import Derived.Test.YtlhahjlnhkokcaaG11
import Derived.Test.YtlhahjlnhkokcaaG02
import Derived.Laws.Entries
import Derived.Laws.Cells
import Derived.ChangeKeysEq
import Derived.Laws.StructEq
import Derived.Lib.ConvBytes
set_option linter.all false
/-! Each operation of the abstract machine is the model's: first those that leave the world alone. -/
namespace Go.AR
open Go

theorem TRep.ro {w G β ω ω' occ occ'} : ∀ {x : TV} {v : Value}, TRep w G β ω occ x v → TRep w G β ω' occ' x.ro v
  | .val _, _, h => h
  | .ownE _ _ _, _, h => ORepE.rep h
  | .lp _ _, _, h => h
  | .rp _ _, _, h => h
  | .self, _, h => h.elim
  | .undef, _, _ => trivial
  | .exc _ _, _, _ => trivial
  | .xs _ _ _, _, h => h
  | .anyb, _, h => h
  | .mp _, _, h => h
  | .tag _ _, _, h => h.1
theorem TRep.pv {w G β ω occ} {x : TV} {v : Value} {p : PV} (h : TRep w G β ω occ x v) (hp : x.pv = some p) : Rep w G p v := by
  cases x <;> simp [TV.pv] at hp
  · subst hp; exact h
  · subst hp; exact ORepE.rep h
  · subst hp; exact h.1
theorem TRep.ro_val {w G β ω occ} {x : TV} {v : Value} {p : PV} (h : TRep w G β ω occ x v) (hp : x.ro = .val p) : Rep w G p v := by
  have := TRep.ro (ω' := ω) (occ' := occ) h
  rw [hp] at this
  exact this

theorem Rep.int_inv {w G k n v} (h : Rep w G (.int k n) v) : v = .int k n := by cases h; rfl
theorem Rep.bool_inv {w G b v} (h : Rep w G (.bool b) v) : v = .bool b := by cases h; rfl
theorem Rep.str_inv {w G l v} (h : Rep w G (.str l) v) : v = .string ⟨⟨l⟩⟩ := by cases h; rfl
theorem Rep.nilp_inv {w G v} (h : Rep w G .nilp v) : v = .pointer none := by cases h; rfl
theorem Rep.fn_inv {w G f v} (h : Rep w G (.fn f) v) : v = .func (.func f) #[] #[] := by cases h; rfl
theorem Rep.agg_inv {w G cs v} (h : Rep w G (.agg cs) v) : ∃ vs, v = .agg vs ∧ vs.size = cs.length ∧ (∀ (i : Nat) (p : PV) (x : Value), cs[i]? = some p → vs[i]? = some x → Rep w G p x) ∧ ∀ p ∈ cs, p.one = true := by
  cases h with
  | agg cs vs hl h h1 => exact ⟨vs, rfl, hl, h, h1⟩
theorem Rep.tup_inv {w G cs v} (h : Rep w G (.tup cs) v) : ∃ vs, v = .tuple vs ∧ vs.size = cs.length ∧ (∀ (i : Nat) (p : PV) (x : Value), cs[i]? = some p → vs[i]? = some x → Rep w G p x) := by
  cases h with
  | tup cs vs hl h => exact ⟨vs, rfl, hl, h⟩
/-- A slice: where it lies, if there is anything in it. -/
theorem Rep.sl_inv {w G c rows v} (h : Rep w G (.sl c rows) v) : ∃ A cap, v = .slice A rows.length cap ∧ (∀ r ∈ rows, r.length = c) ∧ (∀ p ∈ rows.flatten, p.one = true) ∧ rows.length ≤ cap ∧
    (rows ≠ [] → ∃ b off, A = some ⟨b, off, none⟩ ∧ off + rows.flatten.length ≤ G b ∧ ∀ (j : Nat) (p : PV), rows.flatten[j]? = some p → ∃ x, w.cell? ⟨b, off + j, none⟩ = some x ∧ Rep w G p x) := by
  cases h with
  | sl0 c A cap => exact ⟨A, cap, rfl, by simp, by simp, by simp, fun h => absurd rfl h⟩
  | sl c rows b off cap f hc hG hv h h1 hcap =>
    refine ⟨_, cap, rfl, hc, h1, hcap, fun _ => ⟨b, off, rfl, hG, fun j p hp => ?_⟩⟩
    have hj := (List.getElem?_eq_some_iff.1 hp).1
    exact ⟨f j, hv j hj, h j p hp⟩
theorem Rep.sl_mk {w G c rows A cap} (hc : ∀ r ∈ rows, r.length = c) (h1 : ∀ p ∈ rows.flatten, p.one = true) (hcap : rows.length ≤ cap)
    (h : rows ≠ [] → ∃ b off, A = some ⟨b, off, none⟩ ∧ off + rows.flatten.length ≤ G b ∧ ∀ (j : Nat) (p : PV), rows.flatten[j]? = some p → ∃ x, w.cell? ⟨b, off + j, none⟩ = some x ∧ Rep w G p x) :
    Rep w G (.sl c rows) (.slice A rows.length cap) := by
  by_cases e : rows = []
  · subst e; exact .sl0 c A cap
  · obtain ⟨b, off, rfl, hG, h⟩ := h e
    refine .sl c rows b off cap (fun j => (w.cell? ⟨b, off + j, none⟩).getD undef) hc hG (fun j hj => ?_) (fun j p hp => ?_) h1 hcap
    · obtain ⟨x, hx, _⟩ := h j _ (List.getElem?_eq_getElem hj)
      simp [hx]
    · obtain ⟨x, hx, hr⟩ := h j p hp
      simpa [hx] using hr

/-- How an operand of the code reads. -/
def OOk : Operand → Opnd → Prop
  | .tmp n, .t m => n = m
  | .func f, .c p => p = .fn f
  | .const v, .c p => ∀ w G, Rep w G p v
  | _, _ => False

theorem cVal_rep {c : Nat} {v : Value} {p : PV} (h : cVal c v = some p) (w : World) (G : Nat → Nat) : Rep w G p v ∧ p.one = true := by
  unfold cVal at h
  split at h <;> simp at h <;> subst h
  · exact ⟨.int _ _, rfl⟩
  · exact ⟨.bool _, rfl⟩
  · rename_i s
    obtain ⟨⟨l⟩⟩ := s
    exact ⟨.str l, rfl⟩
  · exact ⟨.nilp, rfl⟩
  · exact ⟨.nilif, rfl⟩
  · exact ⟨.sl0 _ _ _, rfl⟩
theorem cCells_rep : ∀ {cs : List Nat} {vs : List Value} {ps : List PV}, cCells cs vs = some ps → vs.length = ps.length ∧ (∀ p ∈ ps, p.one = true) ∧
    ∀ w G (i : Nat) (p : PV) (v : Value), ps[i]? = some p → vs[i]? = some v → Rep w G p v := by
  intro cs vs
  induction vs generalizing cs with
  | nil =>
    intro ps h
    cases cs <;> simp [cCells] at h
    subst h
    exact ⟨rfl, by simp, fun w G i p v hp => by simp at hp⟩
  | cons v vs ih =>
    intro ps h
    cases cs with
    | nil => simp [cCells] at h
    | cons c cs =>
      simp only [cCells] at h
      split at h
      · rename_i q qs hq hqs
        simp at h; subst h
        obtain ⟨h1, h2, h3⟩ := ih hqs
        refine ⟨by simp [h1], fun p hp => ?_, fun w G i p x hp hx => ?_⟩
        · rcases List.mem_cons.1 hp with rfl | hp
          · exact (cVal_rep hq default (fun _ => 0)).2
          · exact h2 p hp
        · cases i with
          | zero => simp at hp hx; subst hp; subst hx; exact (cVal_rep hq w G).1
          | succ i => exact h3 w G i p x (by simpa using hp) (by simpa using hx)
      · cases h
theorem cConst_rep {P : Program} {t : TypeId} {v : Value} {p : PV} (h : cConst P t v = some p) (w : World) (G : Nat → Nat) : Rep w G p v := by
  unfold cConst at h
  split at h
  · rename_i cs
    cases hc : cCells (leafs P 8 t) cs.toList with
    | none => simp [hc] at h
    | some ps =>
      simp [hc] at h; subst h
      obtain ⟨h1, h2, h3⟩ := cCells_rep hc
      exact .agg ps cs (by simpa using h1) (fun i p v hp hv => h3 w G i p v hp (by simpa using hv)) h2
  · exact (cVal_rep h w G).1
theorem cOpnd_ok {P : Program} {t : TypeId} {x : Operand} {y : Opnd} (h : cOpnd P t x = some y) : OOk x y := by
  unfold cOpnd at h
  split at h
  · simp at h; subst h; rfl
  · rename_i v
    cases hc : cConst P t v with
    | none => simp [hc] at h
    | some p => simp [hc] at h; subst h; exact fun w G => cConst_rep hc w G
  · simp at h; subst h; rfl
  · cases h

/-- The place an operand's value has. -/
def Opnd.occ : Opnd → Occ
  | .t n => .tmp n
  | .c _ => .tmp 0

theorem OOk.trep {w G β ω σ} {a : Act} {x : Operand} {y : Opnd} (hF : FRel w G β ω σ a.tmps) (h : OOk x y) : TRep w G β ω y.occ (y.ev σ.tmps) (a.eval x) := by
  cases x <;> cases y <;> simp only [OOk] at h
  · subst h; exact hF.tmp _
  · exact h w G
  · subst h; exact Rep.fn _
theorem TV.rf_ro {x : TV} {s : Nat} (h : x.ro.rf = some s) : x.rf = some s := by cases x <;> simp [TV.ro, TV.rf] at h ⊢ <;> exact h
theorem OOk.liveR {w G β ω σ} {a : Act} {y : Opnd} (hF : FRel w G β ω σ a.tmps) {s : Nat} (h : (y.ev σ.tmps).rf = some s) : get σ.mem s ≠ none := by
  cases y with
  | t n => exact hF.live n s h
  | c p => simp [Opnd.ev, TV.rf] at h
theorem OOk.live {w G β ω σ} {a : Act} {y : Opnd} (hF : FRel w G β ω σ a.tmps) {s off : Nat} (h : y.ev σ.tmps = .lp s off) : get σ.mem s ≠ none := OOk.liveR hF (by rw [h]; rfl)
/-- Whatever is read of an operand may be put anywhere. -/
theorem OOk.trep_ro {w G β ω σ} {a : Act} {x : Operand} {y : Opnd} (hF : FRel w G β ω σ a.tmps) (h : OOk x y) (occ : Occ) : TRep w G β ω occ (y.ev σ.tmps).ro (a.eval x) :=
  (h.trep hF).ro

/-- One step of an operation, done. -/
def StepOk (P : Program) (w : World) (G : Nat → Nat) (ω : Nat → Option Occ) (β : Nat → Nat) (a : Act) (o : Oper) (σ σ' : Fr) : Prop :=
  ∃ nx v w' G' β' ω', (execOp a.eval o).run P w = .ok nx w' ∧ (nx = .value v ∨ (nx = .skip ∧ v = undef)) ∧
    Evo (fun b => ω b ≠ none) w G w' G' ∧ (∀ b, ω' b ≠ none → ω b ≠ none ∨ w.heap.size ≤ b) ∧ (∀ s, get σ.mem s ≠ none → β' s = β s) ∧ FRel w' G' β' ω' σ' (a.put o.dst v).tmps

theorem getD_set_eq (tm : Array Value) (d : Nat) (v x : Value) (h : d < tm.size) : (tm.setIfInBounds d v).getD d x = v := by
  simp [Array.getD_eq_getD_getElem?, h]
theorem getD_set_ne (tm : Array Value) (d t : Nat) (v x : Value) (h : d ≠ t) : (tm.setIfInBounds d v).getD t x = tm.getD t x := by
  simp [Array.getD_eq_getD_getElem?, Array.getElem?_setIfInBounds_ne h]

theorem FRel.put {w G β ω σ tm} (h : FRel w G β ω σ tm) (d : Nat) (hd : d < tm.size) (x : TV) (v : Value) (hx : TRep w G β ω (.tmp d) x v)
    (hl : ∀ s, x.rf = some s → get σ.mem s ≠ none) : FRel w G β ω { σ with tmps := set σ.tmps d x } (tm.setIfInBounds d v) := by
  refine ⟨fun t => ?_, fun t s ht => ?_, h.blk, h.gnew, h.ωnew⟩
  · dsimp only; rw [tget_set]
    by_cases e : t = d
    · subst e; rw [if_pos rfl, getD_set_eq _ _ _ _ hd]; exact hx
    · rw [if_neg e, getD_set_ne _ _ _ _ _ (Ne.symm e)]; exact h.tmp t
  · dsimp only at ht ⊢; rw [tget_set] at ht
    split at ht
    · exact hl s ht
    · exact h.live t s ht
theorem FRel.putO {w G β ω σ} {a : Act} (h : FRel w G β ω σ a.tmps) (d : Option Nat) (hd : ∀ x, d = some x → x < a.tmps.size) (x : TV) (v : Value) (hx : ∀ d, TRep w G β ω (.tmp d) x v)
    (hl : ∀ s, x.rf = some s → get σ.mem s ≠ none) : FRel w G β ω (σ.put d x) (a.put d v).tmps := by
  cases d with
  | none => exact h
  | some d => exact h.put d (hd d rfl) x v (hx d) hl

/-- An operation that gives a value and leaves all as it is. -/
theorem StepOk.pure {P w G ω β} {a : Act} {o : Oper} {σ : Fr} {x : TV} {v : Value} (hF : FRel w G β ω σ a.tmps) (hd : ∀ d, o.dst = some d → d < a.tmps.size)
    (hr : (execOp a.eval o).run P w = .ok (.value v) w) (hx : ∀ d, TRep w G β ω (.tmp d) x v) (hl : ∀ s, x.rf = some s → get σ.mem s ≠ none) :
    StepOk P w G ω β a o σ (σ.put o.dst x) :=
  ⟨.value v, v, w, G, β, ω, hr, .inl rfl, .refl _ _ _, fun _ h => .inl h, fun _ _ => rfl, hF.putO o.dst hd x v hx hl⟩

theorem setAll_nil {α : Type} (m : List (Nat × α)) (is : List Nat) : setAll m is [] = m := by cases is <;> rfl

section ops
variable {P : Program} {w : World} {G β : Nat → Nat} {ω : Nat → Option Occ} {σ σ' : Fr} {a : Act} {o : Oper}

theorem ok_cp {x : Operand} {y : Opnd} (hF : FRel w G β ω σ a.tmps) (hd : ∀ d, o.dst = some d → d < a.tmps.size) (ho : o.op = .move x ∨ o.op = .assign x) (h : OOk x y) :
    StepOk P w G ω β a o σ (σ.put o.dst (y.ev σ.tmps).ro) := by
  refine .pure (v := a.eval x) hF hd ?_ (fun d => h.trep_ro hF _) (fun s e => OOk.liveR hF (TV.rf_ro e))
  rcases ho with ho | ho <;> simp [execOp, ho]

theorem ok_pick {c x y : Operand} {c' x' y' : Opnd} (hF : FRel w G β ω σ a.tmps) (hd : ∀ d, o.dst = some d → d < a.tmps.size) (ho : o.op = .pick c x y)
    (hc : OOk c c') (hx : OOk x x') (hy : OOk y y') {b : Bool} (hb : c'.ev σ.tmps = .val (.bool b)) :
    StepOk P w G ω β a o σ (σ.put o.dst (if b then (x'.ev σ.tmps).ro else (y'.ev σ.tmps).ro)) := by
  have h0 := hc.trep hF
  rw [hb] at h0
  have h1 : a.eval c = .bool b := Rep.bool_inv h0
  refine .pure (v := if b then a.eval x else a.eval y) hF hd ?_ (fun d => ?_) (fun s e => ?_)
  · simp [execOp, ho, h1, asBool]
  · cases b
    · exact hy.trep_ro hF _
    · exact hx.trep_ro hF _
  · cases b
    · exact OOk.liveR hF (TV.rf_ro e)
    · exact OOk.liveR hF (TV.rf_ro e)

/-- An operation on values: the operands read, the answer reads. -/
theorem ok_val {p : PV} {v : Value} (hF : FRel w G β ω σ a.tmps) (hd : ∀ d, o.dst = some d → d < a.tmps.size) (hr : (execOp a.eval o).run P w = .ok (.value v) w) (hp : Rep w G p v) :
    StepOk P w G ω β a o σ (σ.put o.dst (.val p)) := .pure hF hd hr (fun _ => hp) (fun s e => by cases e)
theorem OOk.val {x : Operand} {y : Opnd} {p : PV} (hF : FRel w G β ω σ a.tmps) (h : OOk x y) (hy : y.ev σ.tmps = .val p) : Rep w G p (a.eval x) := by
  have := h.trep hF
  rw [hy] at this
  exact this
theorem OOk.valro {x : Operand} {y : Opnd} {p : PV} (hF : FRel w G β ω σ a.tmps) (h : OOk x y) (hy : (y.ev σ.tmps).ro = .val p) : Rep w G p (a.eval x) := (h.trep hF).ro_val hy

theorem bini_run {op : BinOp} {t t' : TypeId} {x y : Operand} {k : IntKind} {m n : Int} {p : PV} (ho : o.op = .binOp op t x y t') (e1 : a.eval x = .int k m) (e2 : a.eval y = .int k n)
    (hop : ¬ (op = .shl ∨ op = .shr)) (hp : bini op k m n = some p) : ∃ v, Rep w G p v ∧ (execOp a.eval o).run P w = .ok (.value v) w := by
  cases op <;> simp only [bini] at hp <;> (try (exfalso; simp at hop; done)) <;> (try split at hp) <;> simp at hp <;> subst hp <;>
    first
      | (refine ⟨_, Rep.int _ _, ?_⟩; simp [execOp, ho, e1, e2, eqGuard, binOp, Op.intArith, Op.intBits, Op.intCmp, Op.intDiv, *]; done)
      | (refine ⟨_, Rep.bool _, ?_⟩; simp [execOp, ho, e1, e2, eqGuard, binOp, Op.intArith, Op.intBits, Op.intCmp, Op.intDiv, *]; done)
theorem ok_int {op : BinOp} {t t' : TypeId} {x y : Operand} {x' y' : Opnd} {k : IntKind} {m n : Int} {p : PV} (hF : FRel w G β ω σ a.tmps) (hd : ∀ d, o.dst = some d → d < a.tmps.size)
    (ho : o.op = .binOp op t x y t') (hx : OOk x x') (hy : OOk y y') (ex : x'.ev σ.tmps = .val (.int k m)) (ey : y'.ev σ.tmps = .val (.int k n)) (hop : ¬ (op = .shl ∨ op = .shr)) (hp : bini op k m n = some p) :
    StepOk P w G ω β a o σ (σ.put o.dst (.val p)) := by
  obtain ⟨v, hv, hr⟩ := bini_run (P := P) (w := w) (G := G) ho (Rep.int_inv (hx.val hF ex)) (Rep.int_inv (hy.val hF ey)) hop hp
  exact ok_val hF hd hr hv
theorem ok_shift {op : BinOp} {t t' : TypeId} {x y : Operand} {x' y' : Opnd} {k k' : IntKind} {m n : Int} {p : PV} (hF : FRel w G β ω σ a.tmps) (hd : ∀ d, o.dst = some d → d < a.tmps.size)
    (ho : o.op = .binOp op t x y t') (hx : OOk x x') (hy : OOk y y') (ex : x'.ev σ.tmps = .val (.int k m)) (ey : y'.ev σ.tmps = .val (.int k' n)) (hp : shiftA op k m n = some p) :
    StepOk P w G ω β a o σ (σ.put o.dst (.val p)) := by
  have e1 := Rep.int_inv (hx.val hF ex)
  have e2 := Rep.int_inv (hy.val hF ey)
  have : ∃ v, Rep w G p v ∧ (execOp a.eval o).run P w = .ok (.value v) w := by
    unfold shiftA at hp
    split at hp
    · cases hp
    · rename_i h0
      cases op <;> simp at hp <;> subst hp <;> (refine ⟨_, Rep.int _ _, ?_⟩; simp [execOp, ho, e1, e2, eqGuard, binOp, Op.shift, h0])
  obtain ⟨v, hv, hr⟩ := this
  exact ok_val hF hd hr hv
theorem ok_bins {op : BinOp} {t t' : TypeId} {x y : Operand} {x' y' : Opnd} {m n : List UInt8} {p : PV} (hF : FRel w G β ω σ a.tmps) (hd : ∀ d, o.dst = some d → d < a.tmps.size)
    (ho : o.op = .binOp op t x y t') (hx : OOk x x') (hy : OOk y y') (ex : x'.ev σ.tmps = .val (.str m)) (ey : y'.ev σ.tmps = .val (.str n)) (hp : bins op m n = some p) :
    StepOk P w G ω β a o σ (σ.put o.dst (.val p)) := by
  have e1 := Rep.str_inv (hx.val hF ex)
  have e2 := Rep.str_inv (hy.val hF ey)
  have hs : ∀ l : List UInt8, ByteArray.size ⟨⟨l⟩⟩ = l.length := fun l => rfl
  have happ : ∀ l m : List UInt8, (⟨⟨l⟩⟩ : ByteArray) ++ ⟨⟨m⟩⟩ = ⟨⟨l ++ m⟩⟩ := fun l m => by
    apply ByteArray.ext; simp [ByteArray.data_append]
  have : ∃ v, Rep w G p v ∧ (execOp a.eval o).run P w = .ok (.value v) w := by
    cases op <;> simp only [bins] at hp <;> (try split at hp) <;> simp at hp <;> subst hp <;>
    first
      | (refine ⟨_, Rep.bool _, ?_⟩; simp [execOp, ho, e1, e2, eqGuard, binOp, Op.stringOp]; done)
      | (refine ⟨_, Rep.str _, ?_⟩; simp [execOp, ho, e1, e2, eqGuard, binOp, Op.stringOp, IntKind.max, IntKind.signed, IntKind.bits, hs, happ]; omega)
  obtain ⟨v, hv, hr⟩ := this
  exact ok_val hF hd hr hv
end ops
end Go.AR

namespace Go.AR
open Go
section ops
variable {P : Program} {w : World} {G β : Nat → Nat} {ω : Nat → Option Occ} {σ σ' : Fr} {a : Act} {o : Oper}

theorem ok_binb {n : Bool} {op : BinOp} {t t' : TypeId} {x y : Operand} {x' y' : Opnd} {b c : Bool} (hF : FRel w G β ω σ a.tmps) (hd : ∀ d, o.dst = some d → d < a.tmps.size)
    (ho : o.op = .binOp op t x y t') (hu : P.underlying t = some .bool) (hop : op = if n then .neq else .eql) (hx : OOk x x') (hy : OOk y y') (ex : x'.ev σ.tmps = .val (.bool b)) (ey : y'.ev σ.tmps = .val (.bool c)) :
    StepOk P w G ω β a o σ (σ.put o.dst (.val (.bool (if n then !(b == c) else b == c)))) := by
  have e1 := Rep.bool_inv (hx.val hF ex)
  have e2 := Rep.bool_inv (hy.val hF ey)
  cases n <;> simp at hop <;> subst hop <;> refine ok_val hF hd ?_ (Rep.bool _) <;> simp [execOp, ho, e1, e2, eqGuard, binOp, run_equal_bool w t b c hu]
theorem ok_not {t : TypeId} {x : Operand} {x' : Opnd} {b : Bool} (hF : FRel w G β ω σ a.tmps) (hd : ∀ d, o.dst = some d → d < a.tmps.size)
    (ho : o.op = .unOp .not t x) (hx : OOk x x') (ex : x'.ev σ.tmps = .val (.bool b)) :
    StepOk P w G ω β a o σ (σ.put o.dst (.val (.bool (!b)))) := by
  have e1 := Rep.bool_inv (hx.val hF ex)
  refine ok_val hF hd ?_ (Rep.bool _)
  simp [execOp, ho, e1, Op.unary]
theorem ok_neg {t : TypeId} {x : Operand} {x' : Opnd} {k : IntKind} {n : Int} (hF : FRel w G β ω σ a.tmps) (hd : ∀ d, o.dst = some d → d < a.tmps.size)
    (ho : o.op = .unOp .neg t x) (hx : OOk x x') (ex : x'.ev σ.tmps = .val (.int k n)) :
    StepOk P w G ω β a o σ (σ.put o.dst (.val (.int k (k.wrap (0 - n))))) := by
  have e1 := Rep.int_inv (hx.val hF ex)
  refine ok_val hF hd ?_ (Rep.int _ _)
  simp [execOp, ho, e1, Op.unary, Op.intArith]
theorem ok_xor {t : TypeId} {x : Operand} {x' : Opnd} {k : IntKind} {n : Int} (hF : FRel w G β ω σ a.tmps) (hd : ∀ d, o.dst = some d → d < a.tmps.size)
    (ho : o.op = .unOp .xor t x) (hx : OOk x x') (ex : x'.ev σ.tmps = .val (.int k n)) :
    StepOk P w G ω β a o σ (σ.put o.dst (.val (.int k (k.wrap (BitVec.ofInt k.bits (if k.signed then -1 else k.max) ^^^ BitVec.ofInt k.bits n).toNat)))) := by
  have e1 := Rep.int_inv (hx.val hF ex)
  refine ok_val hF hd ?_ (Rep.int _ _)
  simp [execOp, ho, e1, Op.unary, Op.intBits]
theorem ok_conv {t d : TypeId} {x : Operand} {x' : Opnd} {k k' q : IntKind} {n : Int} (hF : FRel w G β ω σ a.tmps) (hd : ∀ d, o.dst = some d → d < a.tmps.size)
    (ho : o.op = .convert t d x) (hs : P.underlying t = some (.int q)) (hu : P.underlying d = some (.int k)) (hx : OOk x x') (ex : x'.ev σ.tmps = .val (.int k' n)) :
    StepOk P w G ω β a o σ (σ.put o.dst (.val (.int k (k.wrap n)))) := by
  have e1 := Rep.int_inv (hx.val hF ex)
  refine ok_val hF hd ?_ (Rep.int _ _)
  simp [execOp, ho, e1, convert, run_underlying hs, run_underlying hu, Conv.intToInt]
theorem ok_same {t d : TypeId} {x : Operand} {x' : Opnd} {l : List UInt8} (hF : FRel w G β ω σ a.tmps) (hd : ∀ d, o.dst = some d → d < a.tmps.size)
    (ho : o.op = .convert t d x) (hs : P.underlying t = some .string) (hu : P.underlying d = some .string) (hx : OOk x x') (ex : (x'.ev σ.tmps).ro = .val (.str l)) :
    StepOk P w G ω β a o σ (σ.put o.dst (.val (.str l))) := by
  have e1 := Rep.str_inv (hx.valro hF ex)
  refine ok_val hF hd ?_ (Rep.str _)
  simp [execOp, ho, e1, convert, run_underlying hs, run_underlying hu]
theorem ok_lenstr {c : Call} {t : TypeId} {x : Operand} {x' : Opnd} {l : List UInt8} (hF : FRel w G β ω σ a.tmps) (hd : ∀ d, o.dst = some d → d < a.tmps.size)
    (ho : o.op = .call c) (hc : c.callee = .builtin .len) (ha : c.argTypes = #[t]) (hxs : c.args = #[x]) (hu : P.underlying t = some .string) (hx : OOk x x') (ex : (x'.ev σ.tmps).ro = .val (.str l)) :
    StepOk P w G ω β a o σ (σ.put o.dst (.val (.int .i64 l.length))) := by
  have e1 := Rep.str_inv (hx.valro hF ex)
  have hs : ByteArray.size ⟨⟨l⟩⟩ = l.length := rfl
  refine ok_val hF hd ?_ (Rep.int _ _)
  simp [execOp, ho, resolve, hc, hxs, ha, invoke, builtin, Builtin.len_, run_underlying hu, e1, goInt, hs]
theorem ok_lensl {c : Call} {t e : TypeId} {x : Operand} {x' : Opnd} {n : Nat} {rows : List (List PV)} (hF : FRel w G β ω σ a.tmps) (hd : ∀ d, o.dst = some d → d < a.tmps.size)
    (ho : o.op = .call c) (hc : c.callee = .builtin .len) (ha : c.argTypes = #[t]) (hxs : c.args = #[x]) (hu : P.underlying t = some (.slice e)) (hx : OOk x x') (ex : (x'.ev σ.tmps).ro = .val (.sl n rows)) :
    StepOk P w G ω β a o σ (σ.put o.dst (.val (.int .i64 rows.length))) := by
  obtain ⟨A, cap, e1, _⟩ := Rep.sl_inv (hx.valro hF ex)
  refine ok_val hF hd ?_ (Rep.int _ _)
  simp [execOp, ho, resolve, hc, hxs, ha, invoke, builtin, Builtin.len_, run_underlying hu, e1, goInt]
theorem ok_lenarr {c : Call} {t e : TypeId} {x : Operand} {n : Nat} (hF : FRel w G β ω σ a.tmps) (hd : ∀ d, o.dst = some d → d < a.tmps.size)
    (ho : o.op = .call c) (hc : c.callee = .builtin .len) (ha : c.argTypes = #[t]) (hxs : c.args = #[x]) (hu : P.underlying t = some (.array n e)) :
    StepOk P w G ω β a o σ (σ.put o.dst (.val (.int .i64 n))) := by
  refine ok_val hF hd ?_ (Rep.int _ _)
  simp [execOp, ho, resolve, hc, hxs, ha, invoke, builtin, Builtin.len_, run_underlying hu, goInt]
theorem ok_max {c : Call} {x y : Operand} {x' y' : Opnd} {k k' : IntKind} {m n : Int} (hF : FRel w G β ω σ a.tmps) (hd : ∀ d, o.dst = some d → d < a.tmps.size)
    (ho : o.op = .call c) (hc : c.callee = .builtin .max) (hxs : c.args = #[x, y]) (hx : OOk x x') (hy : OOk y y') (ex : x'.ev σ.tmps = .val (.int k m)) (ey : y'.ev σ.tmps = .val (.int k' n)) :
    StepOk P w G ω β a o σ (σ.put o.dst (.val (.int k (if n > m then n else m)))) := by
  have e1 := Rep.int_inv (hx.val hF ex)
  have e2 := Rep.int_inv (hy.val hF ey)
  refine ok_val hF hd ?_ (Rep.int _ _)
  simp [execOp, ho, resolve, hc, hxs, invoke, builtin, Builtin.max_, Builtin.max2, e1, e2]
theorem ok_min {c : Call} {x y : Operand} {x' y' : Opnd} {k k' : IntKind} {m n : Int} (hF : FRel w G β ω σ a.tmps) (hd : ∀ d, o.dst = some d → d < a.tmps.size)
    (ho : o.op = .call c) (hc : c.callee = .builtin .min) (hxs : c.args = #[x, y]) (hx : OOk x x') (hy : OOk y y') (ex : x'.ev σ.tmps = .val (.int k m)) (ey : y'.ev σ.tmps = .val (.int k' n)) :
    StepOk P w G ω β a o σ (σ.put o.dst (.val (.int k (if n < m then n else m)))) := by
  have e1 := Rep.int_inv (hx.val hF ex)
  have e2 := Rep.int_inv (hy.val hF ey)
  refine ok_val hF hd ?_ (Rep.int _ _)
  simp [execOp, ho, resolve, hc, hxs, invoke, builtin, Builtin.min_, Builtin.min2, e1, e2]
theorem ok_extract {x : Operand} {x' : Opnd} {i : Nat} {vs : List PV} {p : PV} (hF : FRel w G β ω σ a.tmps) (hd : ∀ d, o.dst = some d → d < a.tmps.size)
    (ho : o.op = .extract x i) (hx : OOk x x') (ex : x'.ev σ.tmps = .val (.tup vs)) (hp : vs[i]? = some p) :
    StepOk P w G ω β a o σ (σ.put o.dst (.val p)) := by
  obtain ⟨us, e1, hl, h⟩ := Rep.tup_inv (hx.val hF ex)
  have hi : i < us.size := by rw [hl]; exact (List.getElem?_eq_some_iff.1 hp).1
  refine ok_val hF hd ?_ (h i p _ hp (Array.getElem?_eq_getElem hi))
  simp [execOp, ho, e1, Instr.extract, Array.getElem?_eq_getElem hi]
theorem ok_nilck {x : Operand} {x' : Opnd} {v : TV} (hF : FRel w G β ω σ a.tmps) (hd : ∀ d, o.dst = some d → d < a.tmps.size)
    (ho : o.op = .nilCheck x) (hx : OOk x x') (ex : x'.ev σ.tmps = v) (hv : (∃ s off, v = .lp s off) ∨ (∃ cs off, v = .rp cs off) ∨ (∃ f, v = .val (.fn f))) :
    StepOk P w G ω β a o σ (σ.put o.dst v) := by
  have h := hx.trep hF
  rw [ex] at h
  rcases hv with ⟨s, off, rfl⟩ | ⟨cs, off, rfl⟩ | ⟨f, rfl⟩
  · have e1 : a.eval x = .pointer (some ⟨β s, off, none⟩) := h
    refine .pure (v := a.eval x) hF hd ?_ (fun _ => h) (fun s' e => by cases e; exact OOk.live hF ex)
    simp [execOp, ho, e1]
  · obtain ⟨b, o', e1, _⟩ := (id h : PRep w G cs off (a.eval x))
    refine .pure (v := a.eval x) hF hd ?_ (fun _ => h) (fun s' e => by cases e)
    simp [execOp, ho, e1]
  · have e1 := Rep.fn_inv (id h : Rep w G (.fn f) (a.eval x))
    refine .pure (v := a.eval x) hF hd ?_ (fun _ => h) (fun s' e => by cases e)
    simp [execOp, ho, e1]
theorem run_equalIn_nil {t e : TypeId} (hu : P.underlying t = some (.pointer e)) (p : Option Addr) (d : Nat) : (Op.equalIn (d + 1) t (.pointer p) (.pointer none)).run P w = .ok p.isNone w := by
  cases p <;> simp [Op.equalIn, run_underlying hu]
theorem run_equal_nil {t e : TypeId} (hu : P.underlying t = some (.pointer e)) (p : Option Addr) : (Op.equal t (.pointer p) (.pointer none)).run P w = .ok p.isNone w := run_equalIn_nil hu p 9999
theorem ok_eqn {n : Bool} {op : BinOp} {t t' e : TypeId} {x y : Operand} {x' y' : Opnd} {r : Bool} (hF : FRel w G β ω σ a.tmps) (hd : ∀ d, o.dst = some d → d < a.tmps.size)
    (ho : o.op = .binOp op t x y t') (hu : P.underlying t = some (.pointer e)) (hop : op = if n then .neq else .eql) (hx : OOk x x') (hy : OOk y y') (ey : y'.ev σ.tmps = .val .nilp)
    (h : (x'.ev σ.tmps = .val .nilp ∧ r = true) ∨ ((∃ s off, x'.ev σ.tmps = .lp s off) ∧ r = false) ∨ ((∃ s off, x'.ev σ.tmps = .rp s off) ∧ r = false)) :
    StepOk P w G ω β a o σ (σ.put o.dst (.val (.bool (if n then !r else r)))) := by
  have e2 := Rep.nilp_inv (hy.val hF ey)
  have h' : (a.eval x = .pointer none ∧ r = true) ∨ (∃ ad, a.eval x = .pointer (some ad)) ∧ r = false := by
    rcases h with ⟨h, hr⟩ | ⟨⟨s, off, h⟩, hr⟩ | ⟨⟨s, off, h⟩, hr⟩
    · exact .inl ⟨Rep.nilp_inv (hx.val hF h), hr⟩
    · have := hx.trep hF
      rw [h] at this
      exact .inr ⟨⟨_, this⟩, hr⟩
    · have := hx.trep hF
      rw [h] at this
      obtain ⟨b, o', e1, _⟩ := (id this : PRep w G s off (a.eval x))
      exact .inr ⟨⟨_, e1⟩, hr⟩
  rcases h' with ⟨e1, rfl⟩ | ⟨⟨ad, e1⟩, rfl⟩ <;> cases n <;> simp at hop <;> subst hop <;> refine ok_val hF hd ?_ (Rep.bool _) <;>
    simp [execOp, ho, e1, e2, eqGuard, binOp, run_equal_nil hu]
theorem ok_faddr {t : TypeId} {x : Operand} {x' : Opnd} {f : Nat} {fs : Array Field} {fd : Field} {i : TypeInfo} {v : TV} (hF : FRel w G β ω σ a.tmps) (hd : ∀ d, o.dst = some d → d < a.tmps.size)
    (ho : o.op = .fieldAddr t x f) (hu : P.underlying t = some (.struct fs)) (hf : fs[f]? = some fd) (hi : P.info? fd.type = some i) (hs : i.size ≠ 0) (hx : OOk x x')
    (hv : (∃ s off, x'.ev σ.tmps = .lp s off ∧ v = .lp s (off + fd.offset)) ∨ (∃ cs off, x'.ev σ.tmps = .rp cs off ∧ v = .rp cs (off + fd.offset))) :
    StepOk P w G ω β a o σ (σ.put o.dst v) := by
  have h := hx.trep hF
  have hadd : ∀ b o, (⟨b, o, none⟩ : Addr).add fd.offset = ⟨b, o + fd.offset, none⟩ := fun b o => by unfold Addr.add; split <;> simp_all
  rcases hv with ⟨s, off, ex, rfl⟩ | ⟨cs, off, ex, rfl⟩
  · rw [ex] at h
    have e1 : a.eval x = .pointer (some ⟨β s, off, none⟩) := h
    refine .pure (v := .pointer (some ⟨β s, off + fd.offset, none⟩)) hF hd ?_ (fun _ => rfl) (fun s' e => by cases e; exact OOk.live hF ex)
    simp [execOp, ho, e1, Instr.fieldAt, run_underlying hu, hf, Instr.sureAddr, fieldPlace, sizeOf, typeInfo, hi, hs, hadd]
  · rw [ex] at h
    obtain ⟨b, o', e1, hr⟩ := (id h : PRep w G cs off (a.eval x))
    refine .pure (v := .pointer (some ⟨b, o' + (off + fd.offset), none⟩)) hF hd ?_ (fun _ => ⟨b, o', rfl, hr⟩) (fun s' e => by cases e)
    simp [execOp, ho, e1, Instr.fieldAt, run_underlying hu, hf, Instr.sureAddr, fieldPlace, sizeOf, typeInfo, hi, hs, hadd, Nat.add_assoc]

theorem flat_at {c : Nat} : ∀ {rows : List (List PV)}, (∀ r ∈ rows, r.length = c) → ∀ {i j : Nat} {r : List PV}, rows[i]? = some r → j < c → rows.flatten[i * c + j]? = r[j]? := by
  intro rows
  induction rows with
  | nil => intro _ i j r h; simp at h
  | cons q rows ih =>
    intro hc i j r h hj
    have hq : q.length = c := hc q (by simp)
    cases i with
    | zero =>
      simp at h; subst h
      simp [List.getElem?_append_left (show j < q.length by omega)]
    | succ i =>
      have := ih (fun r hr => hc r (by simp [hr])) (i := i) (j := j) (r := r) (by simpa using h) hj
      rw [← this, List.flatten_cons, List.getElem?_append_right (by rw [hq, Nat.add_mul]; omega)]
      congr 1
      rw [hq, Nat.add_mul]; omega
theorem flat_len {c : Nat} : ∀ {rows : List (List PV)}, (∀ r ∈ rows, r.length = c) → rows.flatten.length = rows.length * c := by
  intro rows
  induction rows with
  | nil => intro _; simp
  | cons q rows ih => intro hc; simp [ih (fun r hr => hc r (by simp [hr])), hc q (by simp), Nat.add_mul, Nat.add_comm]

theorem ok_iaddra {t e : TypeId} {x y : Operand} {x' y' : Opnd} {n : Nat} {k : IntKind} {i : Int} {ti : TypeInfo} {v : TV} (hF : FRel w G β ω σ a.tmps) (hd : ∀ d, o.dst = some d → d < a.tmps.size)
    (ho : o.op = .indexAddr t x y) (hu : P.underlying t = some (.array n e)) (hi : P.info? e = some ti) (hx : OOk x x') (hy : OOk y y') (ey : y'.ev σ.tmps = .val (.int k i)) (hb : 0 ≤ i ∧ i < n)
    (hv : (∃ s off, x'.ev σ.tmps = .lp s off ∧ v = .lp s (off + i.toNat * ti.size)) ∨ (∃ cs off, x'.ev σ.tmps = .rp cs off ∧ v = .rp cs (off + i.toNat * ti.size))) :
    StepOk P w G ω β a o σ (σ.put o.dst v) := by
  have h := hx.trep hF
  have e2 := Rep.int_inv (hy.val hF ey)
  have hadd : ∀ b o, (⟨b, o, none⟩ : Addr).add (i.toNat * ti.size) = ⟨b, o + i.toNat * ti.size, none⟩ := fun b o => by unfold Addr.add; split <;> simp_all
  rcases hv with ⟨s, off, ex, rfl⟩ | ⟨cs, off, ex, rfl⟩
  · rw [ex] at h
    have e1 : a.eval x = .pointer (some ⟨β s, off, none⟩) := h
    refine .pure (v := .pointer (some ⟨β s, off + i.toNat * ti.size, none⟩)) hF hd ?_ (fun _ => rfl) (fun s' e => by cases e; exact OOk.live hF ex)
    simp [execOp, ho, e1, e2, Instr.indexAt, asIntOf, run_underlying hu, Instr.sureAddr, sizeOf, typeInfo, hi, hb, hadd]
  · rw [ex] at h
    obtain ⟨b, o', e1, hr⟩ := (id h : PRep w G cs off (a.eval x))
    refine .pure (v := .pointer (some ⟨b, o' + (off + i.toNat * ti.size), none⟩)) hF hd ?_ (fun _ => ⟨b, o', rfl, hr⟩) (fun s' e => by cases e)
    simp [execOp, ho, e1, e2, Instr.indexAt, asIntOf, run_underlying hu, Instr.sureAddr, sizeOf, typeInfo, hi, hb, hadd, Nat.add_assoc]
theorem ok_iaddrs {t e : TypeId} {x y : Operand} {x' y' : Opnd} {k : IntKind} {i : Int} {ti : TypeInfo} {rows : List (List PV)} {r : List PV} (hF : FRel w G β ω σ a.tmps) (hd : ∀ d, o.dst = some d → d < a.tmps.size)
    (ho : o.op = .indexAddr t x y) (hu : P.underlying t = some (.slice e)) (hi : P.info? e = some ti) (hx : OOk x x') (hy : OOk y y') (ey : y'.ev σ.tmps = .val (.int k i)) (hb : 0 ≤ i)
    (ex : (x'.ev σ.tmps).ro = .val (.sl ti.size rows)) (hr : rows[i.toNat]? = some r) :
    StepOk P w G ω β a o σ (σ.put o.dst (.rp r 0)) := by
  have e2 := Rep.int_inv (hy.val hF ey)
  obtain ⟨A, cap, e1, hc, h1, hcap, h⟩ := Rep.sl_inv (hx.valro hF ex)
  have hlt : i.toNat < rows.length := (List.getElem?_eq_some_iff.1 hr).1
  have hne : rows ≠ [] := by intro e; subst e; simp at hlt
  obtain ⟨b, off, rfl, hG, hcell⟩ := h hne
  have hadd : (⟨b, off, none⟩ : Addr).add (i.toNat * ti.size) = ⟨b, off + i.toNat * ti.size, none⟩ := by unfold Addr.add; split <;> simp_all
  have hil : i < rows.length := by omega
  have hrl : r.length = ti.size := hc r (List.mem_of_getElem? hr)
  have hfl := flat_len hc
  have hle : i.toNat * ti.size + ti.size ≤ rows.length * ti.size := by rw [← Nat.succ_mul]; exact Nat.mul_le_mul_right _ hlt
  refine .pure (v := .pointer (some ⟨b, off + i.toNat * ti.size, none⟩)) hF hd ?_ (fun _ => ⟨b, off + i.toNat * ti.size, rfl, by omega, fun p hp => ?_, fun j p hp => ?_⟩) (fun s' e => by cases e)
  · simp [execOp, ho, e1, e2, Instr.indexAt, asIntOf, run_underlying hu, sizeOf, typeInfo, hi, hb, hadd, hil]
  · obtain ⟨j, hj⟩ := List.getElem?_of_mem hp
    have hjl : j < r.length := (List.getElem?_eq_some_iff.1 hj).1
    exact h1 p (List.mem_of_getElem? ((flat_at hc hr (show j < ti.size by omega)).trans hj))
  · have hjl : j < r.length := (List.getElem?_eq_some_iff.1 hp).1
    have := hcell (i.toNat * ti.size + j) p ((flat_at hc hr (show j < ti.size by omega)).trans hp)
    simpa [Nat.add_assoc] using this
theorem ok_indexs {t : TypeId} {x y : Operand} {x' y' : Opnd} {k : IntKind} {i : Int} {l : List UInt8} {b : UInt8} (hF : FRel w G β ω σ a.tmps) (hd : ∀ d, o.dst = some d → d < a.tmps.size)
    (ho : o.op = .index t x y) (hu : P.underlying t = some .string) (hx : OOk x x') (hy : OOk y y') (ex : x'.ev σ.tmps = .val (.str l)) (ey : y'.ev σ.tmps = .val (.int k i)) (hb : 0 ≤ i) (hl : l[i.toNat]? = some b) :
    StepOk P w G ω β a o σ (σ.put o.dst (.val (.int .u8 b.toNat))) := by
  have e1 := Rep.str_inv (hx.val hF ex)
  have e2 := Rep.int_inv (hy.val hF ey)
  have hg : (⟨⟨l⟩⟩ : ByteArray)[i.toNat]? = some b := by
    have hlt : i.toNat < l.length := (List.getElem?_eq_some_iff.1 hl).1
    have h2 : i.toNat < (⟨⟨l⟩⟩ : ByteArray).size := hlt
    rw [getElem?_pos (⟨⟨l⟩⟩ : ByteArray) i.toNat h2]
    obtain ⟨_, h⟩ := List.getElem_of_getElem? hl
    exact congrArg some h
  refine ok_val hF hd ?_ (Rep.int _ _)
  simp [execOp, ho, e1, e2, Instr.index, asIntOf, run_underlying hu, hb, hg]
end ops
end Go.AR
