import Derived.Test.YtojhbllkhljggaaS08
set_option linter.all false
/-! Counts of dots: loops. -/
namespace Go.AR
open Go
section
variable {C : CallRel} {F : Nat → FuncId}
def bigL : Nat := 1000000
/-- slices.BinarySearchFunc, asked for a count by its dot. -/
def S_bsf (C : CallRel) (R : Rel) : Prop := ∀ (f : Nat), S_ucmp (C f) → ∀ (l : List Ud) (u : Ud), sortU l → l.length ≤ bigL → R [.v (usP l), .v (uP u), .v (.fn f)] (.val (.tup [.int .i64 (lowU l u.1), .bool (hasU l u.1)])) []
def S_uAt (R : Rel) : Prop := ∀ (l : List Ud) (d : Dt), sortU l → l.length ≤ bigL → R [.v (usP l), .v (dP d)] (.val (.tup [.int .i64 (lowU l d), .bool (hasU l d)])) []
def S_uGet (R : Rel) : Prop := ∀ (l : List Ud) (d : Dt), sortU l → l.length ≤ bigL → R [.v (usP l), .v (dP d)] (.val (.int .i64 (getU l d))) []
def S_uSeen (R : Rel) : Prop := ∀ (l : List Ud) (d : Dt), sortU l → l.length ≤ bigL → R [.v (usP l), .v (dP d)] (.val (.bool (decide ((getU l d).tmod 2 = 0)))) []
def S_uRight (R : Rel) : Prop := ∀ (l : List Ud), l.length ≤ bigL → R [.v (usP l)] (.val (.bool (rightU l))) []
def S_rGet (R : Rel) : Prop := ∀ (l : List Ud) (d : Dt), l.length ≤ bigL → R [.v (usP l), .v (dP d)] (.val (.int .i64 (getU l d))) []
def S_rSeen (R : Rel) : Prop := ∀ (l : List Ud) (d : Dt), l.length ≤ bigL → R [.v (usP l), .v (dP d)] (.val (.bool (decide ((getU l d).tmod 2 = 0)))) []
def S_uSame (R : Rel) : Prop := ∀ (a b : List Ud), a.length ≤ bigL → R [.v (usP a), .v (usP b)] (.val (.bool (decide (a = b)))) []
def S_uClone (R : Rel) : Prop := ∀ (l : List Ud), l.length ≤ bigL → R [.v (usP l)] (.exc 3 (uRows l)) []
def S_uMerge (R : Rel) : Prop := ∀ (a b : List Ud), a.length + b.length ≤ bigL → R [.v (usP a), .v (usP b)] (.val (usP (mergeU a b))) []
def S_uOver (R : Rel) : Prop := ∀ (a b : List Ud), sortU b → a.length ≤ bigL → b.length ≤ bigL → R [.v (usP a), .v (usP b)] (.val (usP (overU a b))) []
def S_rOver (R : Rel) : Prop := ∀ (a b : List Ud), a.length ≤ bigL → b.length ≤ bigL → R [.v (usP a), .v (usP b)] (.val (usP (overU a b))) []
def S_rPut (R : Rel) : Prop := ∀ (l : List Ud) (u : Ud), l.length + 1 ≤ bigL → R [.v (usP l), .v (uP u)] (.val (usP (rPut l u))) []
def S_rJoin (R : Rel) : Prop := ∀ (a b : List Ud), a.length + b.length ≤ bigL → R [.v (usP a), .v (usP b)] (.val (usP (rJoin a b))) []
def S_uPut (R : Rel) : Prop := ∀ (l : List Ud) (u : Ud), sortU l → l.length + 1 ≤ bigL → R [.v (usP l), .v (uP u)] (.val (usP (putU l u))) []
def S_uRaise (R : Rel) : Prop := ∀ (l : List Ud) (d : Dt), sortU l → l.length ≤ bigL → R [.v (usP l), .v (dP d)] (.val (.tup [uP (raiseU l d).1, .int .u8 (raiseU l d).2])) []
def S_rRaise (R : Rel) : Prop := ∀ (l : List Ud) (d : Dt), l.length ≤ bigL → R [.v (usP l), .v (dP d)] (.val (.tup [uP (raiseU l d).1, .int .i64 (raiseU l d).2])) []
theorem g_slices_BinarySearchFunc_api_Undo_api_Undo_api_Undo : S_bsf C ((c_slices_BinarySearchFunc_api_Undo_api_Undo_api_Undo F).gives C) := by
  intro f hf l u hs hl
  refine gives_of rfl ?_
  unfold c_slices_BinarySearchFunc_api_Undo_api_Undo_api_Undo
  simp only [walk, Nat.reduceLT, Nat.reduceBEq, Nat.reduceAdd, Nat.reduceLeDiff, reduceIte, Int.reduceLT, Int.reduceLE, Int.reduceEq, Int.reduceToNat, Int.reduceBEq, uRows_len]
  refine awp_loop_ind (X := Nat × Nat) (fun x => ⟨[(0, .val (usP l)), (1, .val (uP u)), (2, .val (.fn f)), (4, .lp 4 0), (6, .val (.int .i64 0)), (7, .val (.bool false)), (8, .val (.int .i64 l.length)), (9, .val (.int .i64 x.1)), (10, .val (.int .i64 x.2))],
      [(4, .cells [.val (.int .i64 u.1.1), .val (.int .i64 u.1.2), .val (.int .i64 u.2)])]⟩)
      (fun x => x.1 ≤ x.2 ∧ x.2 ≤ l.length ∧ (∀ k, k < x.1 → dcmp (l.getD k z3).1 u.1 < 0) ∧ ∀ k, x.2 ≤ k → k < l.length → ¬ dcmp (l.getD k z3).1 u.1 < 0) (fun x => x.2 - x.1) (0, l.length) ⟨by omega, Nat.le_refl _, by omega, by omega⟩ rfl ?_
  rintro R ⟨i, j⟩ ⟨h1, h2, h3, h4⟩ ih
  simp only at h1 h2 h3 h4
  unfold bigL at hl
  simp only [walk, Nat.reduceLT, Nat.reduceBEq, Nat.reduceAdd, Nat.reduceLeDiff, reduceIte, Int.reduceLT, Int.reduceLE, Int.reduceEq, Int.reduceToNat, Int.reduceBEq]
  by_cases hij : i < j
  · have c1 : (i : Int) < j := by omega
    have e1 : IntKind.i64.wrap ((i : Int) + j) = ((i + j : Nat) : Int) := wrap64 (by omega) (by omega)
    have e2 : IntKind.u64.wrap ((i + j : Nat) : Int) = ((i + j : Nat) : Int) := by unfold IntKind.wrap; simp [IntKind.bits, IntKind.signed]; omega
    have e3 : ((i + j : Nat) : Int).fdiv (2 ^ (min (1 : Nat) IntKind.u64.bits)) = (((i + j) / 2 : Nat) : Int) := by
      simp [IntKind.bits, Int.fdiv_eq_ediv]
    have e4 : IntKind.i64.wrap (((i + j) / 2 : Nat) : Int) = (((i + j) / 2 : Nat) : Int) := wrap64 (by omega) (by omega)
    obtain ⟨h, hh⟩ : ∃ h, h = (i + j) / 2 := ⟨_, rfl⟩
    have hb : i ≤ h ∧ h < j := by omega
    have hlt : h < l.length := by omega
    rw [← hh] at e3 e4
    have e5 : IntKind.i64.wrap ((h : Int) + 1) = ((h + 1 : Nat) : Int) := wrap64 (by omega) (by omega)
    simp only [walk, Nat.reduceLT, Nat.reduceBEq, Nat.reduceAdd, Nat.reduceLeDiff, reduceIte, Int.reduceLT, Int.reduceLE, Int.reduceEq, Int.reduceToNat, Int.reduceBEq, c1, e1, e2, e3, e4, uRows_get hlt]
    refine callWp_of (hf _ u) ?_
    simp only [walk, Nat.reduceLT, Nat.reduceBEq, Nat.reduceAdd, Nat.reduceLeDiff, reduceIte, Int.reduceLT, Int.reduceLE, Int.reduceEq, Int.reduceToNat, Int.reduceBEq]
    by_cases c2 : dcmp (l.getD h z3).1 u.1 < 0
    · simp only [walk, Nat.reduceLT, Nat.reduceBEq, Nat.reduceAdd, Nat.reduceLeDiff, reduceIte, Int.reduceLT, Int.reduceLE, Int.reduceEq, Int.reduceToNat, Int.reduceBEq, c2, e5]
      refine ih (h + 1, j) ⟨by simp only; omega, h2, fun k hk => ?_, h4⟩ (by simp only; omega)
      simp only at hk
      by_cases e : k = h
      · subst e; exact c2
      · exact dcmp_trans (hs k h (by omega) hlt) c2
    · simp only [walk, Nat.reduceLT, Nat.reduceBEq, Nat.reduceAdd, Nat.reduceLeDiff, reduceIte, Int.reduceLT, Int.reduceLE, Int.reduceEq, Int.reduceToNat, Int.reduceBEq, c2]
      refine ih (i, h) ⟨by simp only; omega, by simp only; omega, h3, fun k hk hl' => ?_⟩ (by simp only; omega)
      simp only at hk
      by_cases e : k = h
      · subst e; exact c2
      · intro hc
        exact c2 (dcmp_trans (hs h k (by omega) hl') hc)
  · have hij' : i = j := by omega
    subst hij'
    have c1 : ¬ ((i : Int) < i) := by omega
    have q1 : lowU l u.1 = i := lowU_of h2 h3 h4
    have q2 := hasU_low h2 h3 h4 hs
    simp only [walk, Nat.reduceLT, Nat.reduceBEq, Nat.reduceAdd, Nat.reduceLeDiff, reduceIte, Int.reduceLT, Int.reduceLE, Int.reduceEq, Int.reduceToNat, Int.reduceBEq, c1]
    by_cases hlt : i < l.length
    · have c2 : (i : Int) < l.length := by omega
      have c0 : (0 : Int) ≤ i := by omega
      simp only [walk, Nat.reduceLT, Nat.reduceBEq, Nat.reduceAdd, Nat.reduceLeDiff, reduceIte, Int.reduceLT, Int.reduceLE, Int.reduceEq, Int.reduceToNat, Int.reduceBEq, c2, uRows_get hlt]
      refine callWp_of (hf _ u) ?_
      have q3 : (decide (i < l.length)) = true := by simpa using hlt
      rw [q3, Bool.true_and] at q2
      have q4 : ∀ x : Int, (x == 0) = decide (x = 0) := fun x => by rw [Bool.eq_iff_iff]; simp
      simp only [walk, Nat.reduceLT, Nat.reduceBEq, Nat.reduceAdd, Nat.reduceLeDiff, reduceIte, Int.reduceLT, Int.reduceLE, Int.reduceEq, Int.reduceToNat, Int.reduceBEq, q1, q2, q4]
    · have c2 : ¬ ((i : Int) < l.length) := by omega
      have q3 : (decide (i < l.length)) = false := by simpa using hlt
      rw [q3, Bool.false_and] at q2
      simp only [walk, Nat.reduceLT, Nat.reduceBEq, Nat.reduceAdd, Nat.reduceLeDiff, reduceIte, Int.reduceLT, Int.reduceLE, Int.reduceEq, Int.reduceToNat, Int.reduceBEq, c2, q1, q2]
theorem uRow_eq {a b : List Ud} {j : Nat} : ([PV.int .i64 (a.getD j z3).1.1, .int .i64 (a.getD j z3).1.2, .int .i64 (a.getD j z3).2] = [PV.int .i64 (b.getD j z3).1.1, .int .i64 (b.getD j z3).1.2, .int .i64 (b.getD j z3).2]) ↔ a.getD j z3 = b.getD j z3 := by
  simp only [List.cons.injEq, PV.int.injEq, true_and, and_true]
  constructor
  · rintro ⟨h1, h2, h3⟩; exact Prod.ext (Prod.ext h1 h2) h3
  · intro h; rw [h]; exact ⟨rfl, rfl, rfl⟩
theorem ext_z3 {a b : List Ud} (hl : a.length = b.length) (h : ∀ j, j < a.length → a.getD j z3 = b.getD j z3) : a = b := by
  apply List.ext_getElem hl
  intro j h1 h2
  have := h j h1
  simpa [List.getD_eq_getElem?_getD, h1, h2] using this
theorem eqCells_u {x1 x2 x3 y1 y2 y3 : Int} : eqCells [.i, .i, .i] [.int .i64 x1, .int .i64 x2, .int .i64 x3] [.int .i64 y1, .int .i64 y2, .int .i64 y3] = some (decide (((x1, x2), x3) = ((y1, y2), y3))) := by
  simp [eqCells, eqB, Bool.decide_and]
  rw [Bool.eq_iff_iff]; simp [and_assoc]
theorem eqCells_d {x1 x2 y1 y2 : Int} : eqCells [.i, .i] [.int .i64 x1, .int .i64 x2] [.int .i64 y1, .int .i64 y2] = some (decide ((x1, x2) = (y1, y2))) := by
  simp [eqCells, eqB, Bool.decide_and]
  rw [Bool.eq_iff_iff]; simp
theorem g_slices_Equal_api_Undo_api_Undo : S_uSame ((c_slices_Equal_api_Undo_api_Undo F).gives C) := by
  intro a b ha
  refine gives_of rfl ?_
  unfold c_slices_Equal_api_Undo_api_Undo
  simp only [walk, Nat.reduceLT, Nat.reduceBEq, Nat.reduceAdd, Nat.reduceLeDiff, reduceIte, Int.reduceLT, Int.reduceLE, Int.reduceEq, Int.reduceToNat, Int.reduceBEq, uRows_len]
  by_cases hl : a.length = b.length
  · have e : ((a.length : Int) != b.length) = false := by simp [hl]
    simp only [walk, Nat.reduceLT, Nat.reduceBEq, Nat.reduceAdd, Nat.reduceLeDiff, reduceIte, Int.reduceLT, Int.reduceLE, Int.reduceEq, Int.reduceToNat, Int.reduceBEq, e, uRows_len]
    unfold bigL at ha
    refine awp_loop_ind (X := Nat) (fun k => ⟨[(0, .val (usP a)), (1, .val (usP b)), (4, .val (.bool false)), (10, .val (.bool false)), (12, .val (.int .i64 a.length)), (13, .val (.int .i64 k))], []⟩)
      (fun k => k ≤ a.length ∧ ∀ j, j < k → a.getD j z3 = b.getD j z3) (fun k => a.length - k) 0 ⟨by omega, by omega⟩ rfl ?_
    rintro R k ⟨hk, hj⟩ ih
    simp only [walk, Nat.reduceLT, Nat.reduceBEq, Nat.reduceAdd, Nat.reduceLeDiff, reduceIte, Int.reduceLT, Int.reduceLE, Int.reduceEq, Int.reduceToNat, Int.reduceBEq, uRows_len]
    by_cases c : k < a.length
    · have c1 : (k : Int) < a.length := by omega
      have c0 : (0 : Int) ≤ k := by omega
      have e1 : IntKind.i64.wrap ((k : Int) + 1) = ((k + 1 : Nat) : Int) := wrap64 (by omega) (by omega)
      simp only [walk, Nat.reduceLT, Nat.reduceBEq, Nat.reduceAdd, Nat.reduceLeDiff, reduceIte, Int.reduceLT, Int.reduceLE, Int.reduceEq, Int.reduceToNat, Int.reduceBEq, c1, uRows_get c, uRows_get (hl ▸ c : k < b.length), eqCells_u]
      by_cases q : a.getD k z3 = b.getD k z3
      · have q' : decide (((((a.getD k z3).1.1, (a.getD k z3).1.2), (a.getD k z3).2) : Ud) = (((b.getD k z3).1.1, (b.getD k z3).1.2), (b.getD k z3).2)) = true := by rw [decide_eq_true_eq]; exact q
        simp only [walk, Nat.reduceLT, Nat.reduceBEq, Nat.reduceAdd, Nat.reduceLeDiff, reduceIte, Int.reduceLT, Int.reduceLE, Int.reduceEq, Int.reduceToNat, Int.reduceBEq, q', e1]
        refine ih (k + 1) ⟨by omega, fun j hj' => ?_⟩ (by omega)
        by_cases e : j = k
        · subst e; exact q
        · exact hj j (by omega)
      · have q' : decide (((((a.getD k z3).1.1, (a.getD k z3).1.2), (a.getD k z3).2) : Ud) = (((b.getD k z3).1.1, (b.getD k z3).1.2), (b.getD k z3).2)) = false := by rw [decide_eq_false_iff_not]; exact q
        have e2 : (a = b) = False := by simp; rintro rfl; exact q rfl
        simp only [walk, Nat.reduceLT, Nat.reduceBEq, Nat.reduceAdd, Nat.reduceLeDiff, reduceIte, Int.reduceLT, Int.reduceLE, Int.reduceEq, Int.reduceToNat, Int.reduceBEq, q', e2]
    · have c1 : ¬ ((k : Int) < a.length) := by omega
      have e2 : (a = b) = True := by simp; exact ext_z3 hl (fun j h => hj j (by omega))
      simp only [walk, Nat.reduceLT, Nat.reduceBEq, Nat.reduceAdd, Nat.reduceLeDiff, reduceIte, Int.reduceLT, Int.reduceLE, Int.reduceEq, Int.reduceToNat, Int.reduceBEq, c1, e2]
  · have e : ((a.length : Int) != b.length) = true := by simp; omega
    have e2 : (a = b) = False := by simp; rintro rfl; exact hl rfl
    simp only [walk, Nat.reduceLT, Nat.reduceBEq, Nat.reduceAdd, Nat.reduceLeDiff, reduceIte, Int.reduceLT, Int.reduceLE, Int.reduceEq, Int.reduceToNat, Int.reduceBEq, e, e2]
theorem g_pref08_Same : S_uSame ((c_pref08_Same F).gives C) := by
  intro a b ha
  refine gives_of rfl ?_
  unfold c_pref08_Same
  simp only [walk, Nat.reduceLT, Nat.reduceBEq, Nat.reduceAdd, Nat.reduceLeDiff, reduceIte, Int.reduceLT, Int.reduceLE, Int.reduceEq, Int.reduceToNat, Int.reduceBEq, uRows_len]
  by_cases hl : a.length = b.length
  · have e : ((a.length : Int) != b.length) = false := by simp [hl]
    simp only [walk, Nat.reduceLT, Nat.reduceBEq, Nat.reduceAdd, Nat.reduceLeDiff, reduceIte, Int.reduceLT, Int.reduceLE, Int.reduceEq, Int.reduceToNat, Int.reduceBEq, e, uRows_len]
    unfold bigL at ha
    refine awp_loop_ind (X := Nat) (fun k => ⟨[(0, .val (usP a)), (1, .val (usP b)), (4, .val (.bool false)), (5, .val (.int .i64 k)), (10, .val (.bool false))], []⟩)
      (fun k => k ≤ a.length ∧ ∀ j, j < k → a.getD j z3 = b.getD j z3) (fun k => a.length - k) 0 ⟨by omega, by omega⟩ rfl ?_
    rintro R k ⟨hk, hj⟩ ih
    simp only [walk, Nat.reduceLT, Nat.reduceBEq, Nat.reduceAdd, Nat.reduceLeDiff, reduceIte, Int.reduceLT, Int.reduceLE, Int.reduceEq, Int.reduceToNat, Int.reduceBEq, uRows_len]
    by_cases c : k < a.length
    · have c1 : (k : Int) < a.length := by omega
      have c0 : (0 : Int) ≤ k := by omega
      have e1 : IntKind.i64.wrap ((k : Int) + 1) = ((k + 1 : Nat) : Int) := wrap64 (by omega) (by omega)
      simp only [walk, Nat.reduceLT, Nat.reduceBEq, Nat.reduceAdd, Nat.reduceLeDiff, reduceIte, Int.reduceLT, Int.reduceLE, Int.reduceEq, Int.reduceToNat, Int.reduceBEq, c1, uRows_get c, uRows_get (hl ▸ c : k < b.length), eqCells_u]
      by_cases q : a.getD k z3 = b.getD k z3
      · have q' : decide (((((a.getD k z3).1.1, (a.getD k z3).1.2), (a.getD k z3).2) : Ud) = (((b.getD k z3).1.1, (b.getD k z3).1.2), (b.getD k z3).2)) = true := by rw [decide_eq_true_eq]; exact q
        simp only [walk, Nat.reduceLT, Nat.reduceBEq, Nat.reduceAdd, Nat.reduceLeDiff, reduceIte, Int.reduceLT, Int.reduceLE, Int.reduceEq, Int.reduceToNat, Int.reduceBEq, q', e1]
        refine ih (k + 1) ⟨by omega, fun j hj' => ?_⟩ (by omega)
        by_cases e : j = k
        · subst e; exact q
        · exact hj j (by omega)
      · have q' : decide (((((a.getD k z3).1.1, (a.getD k z3).1.2), (a.getD k z3).2) : Ud) = (((b.getD k z3).1.1, (b.getD k z3).1.2), (b.getD k z3).2)) = false := by rw [decide_eq_false_iff_not]; exact q
        have e2 : (a = b) = False := by simp; rintro rfl; exact q rfl
        simp only [walk, Nat.reduceLT, Nat.reduceBEq, Nat.reduceAdd, Nat.reduceLeDiff, reduceIte, Int.reduceLT, Int.reduceLE, Int.reduceEq, Int.reduceToNat, Int.reduceBEq, q', e2]
    · have c1 : ¬ ((k : Int) < a.length) := by omega
      have e2 : (a = b) = True := by simp; exact ext_z3 hl (fun j h => hj j (by omega))
      simp only [walk, Nat.reduceLT, Nat.reduceBEq, Nat.reduceAdd, Nat.reduceLeDiff, reduceIte, Int.reduceLT, Int.reduceLE, Int.reduceEq, Int.reduceToNat, Int.reduceBEq, c1, e2]
  · have e : ((a.length : Int) != b.length) = true := by simp; omega
    have e2 : (a = b) = False := by simp; rintro rfl; exact hl rfl
    simp only [walk, Nat.reduceLT, Nat.reduceBEq, Nat.reduceAdd, Nat.reduceLeDiff, reduceIte, Int.reduceLT, Int.reduceLE, Int.reduceEq, Int.reduceToNat, Int.reduceBEq, e, e2]
theorem g_tally_Right (h : S_dotOk (C (F n_dot_Right))) (hc : S_ucmp (C (F n_tally_compare))) : S_uRight ((c_tally_Right F).gives C) := by
  intro l hl
  refine gives_of rfl ?_
  unfold c_tally_Right
  simp only [walk, Nat.reduceLT, Nat.reduceBEq, Nat.reduceAdd, Nat.reduceLeDiff, reduceIte, Int.reduceLT, Int.reduceLE, Int.reduceEq, Int.reduceToNat, Int.reduceBEq, uRows_len]
  unfold bigL at hl
  refine awp_loop_ind (X := Nat) (fun k => ⟨[(0, .val (usP l)), (2, .val (.bool false)), (5, .val (usP l)), (6, .val (.int .i64 l.length)), (7, .val (.int .i64 k))], []⟩)
    (fun k => k ≤ l.length ∧ ∀ j, j < k → okAt l j = true) (fun k => l.length - k) 0 ⟨by omega, by omega⟩ rfl ?_
  rintro R k ⟨hk, hj⟩ ih
  simp only [walk, Nat.reduceLT, Nat.reduceBEq, Nat.reduceAdd, Nat.reduceLeDiff, reduceIte, Int.reduceLT, Int.reduceLE, Int.reduceEq, Int.reduceToNat, Int.reduceBEq, uRows_len]
  by_cases c : k < l.length
  · have c1 : (k : Int) < l.length := by omega
    have c0 : (0 : Int) ≤ k := by omega
    have e1 : IntKind.i64.wrap ((k : Int) + 1) = ((k + 1 : Nat) : Int) := wrap64 (by omega) (by omega)
    have step : okAt l k = true → R (⟨[(0, .val (usP l)), (2, .val (.bool false)), (5, .val (usP l)), (6, .val (.int .i64 l.length)), (7, .val (.int .i64 ((k + 1 : Nat) : Int)))], []⟩) := fun h => ih (k + 1) ⟨by omega, fun j hj' => by
      by_cases e : j = k
      · subst e; exact h
      · exact hj j (by omega)⟩ (by omega)
    simp only [walk, Nat.reduceLT, Nat.reduceBEq, Nat.reduceAdd, Nat.reduceLeDiff, reduceIte, Int.reduceLT, Int.reduceLE, Int.reduceEq, Int.reduceToNat, Int.reduceBEq, c1, uRows_get c]
    refine callWp_of (h (l.getD k z3).1) ?_
    cases q1 : dotOk (l.getD k z3).1 with
    | false =>
      have q2 := rightU_no c (by unfold okAt uOk; rw [q1]; rfl)
      simp only [walk, Nat.reduceLT, Nat.reduceBEq, Nat.reduceAdd, Nat.reduceLeDiff, reduceIte, Int.reduceLT, Int.reduceLE, Int.reduceEq, Int.reduceToNat, Int.reduceBEq, q2]
    | true =>
      simp only [walk, Nat.reduceLT, Nat.reduceBEq, Nat.reduceAdd, Nat.reduceLeDiff, reduceIte, Int.reduceLT, Int.reduceLE, Int.reduceEq, Int.reduceToNat, Int.reduceBEq]
      by_cases q3 : (l.getD k z3).2 < 1
      · have q2 := rightU_no c (by unfold okAt uOk; rw [q1, show decide (1 ≤ (l.getD k z3).2) = false from decide_eq_false (by omega)]; rfl)
        simp only [walk, Nat.reduceLT, Nat.reduceBEq, Nat.reduceAdd, Nat.reduceLeDiff, reduceIte, Int.reduceLT, Int.reduceLE, Int.reduceEq, Int.reduceToNat, Int.reduceBEq, q3, q2]
      · have q3' : decide (1 ≤ (l.getD k z3).2) = true := decide_eq_true (by omega)
        simp only [walk, Nat.reduceLT, Nat.reduceBEq, Nat.reduceAdd, Nat.reduceLeDiff, reduceIte, Int.reduceLT, Int.reduceLE, Int.reduceEq, Int.reduceToNat, Int.reduceBEq, q3]
        by_cases q4 : (l.getD k z3).2 > 64
        · have q2 := rightU_no c (by unfold okAt uOk; rw [q1, q3', show decide ((l.getD k z3).2 ≤ 64) = false from decide_eq_false (by omega)]; rfl)
          simp only [walk, Nat.reduceLT, Nat.reduceBEq, Nat.reduceAdd, Nat.reduceLeDiff, reduceIte, Int.reduceLT, Int.reduceLE, Int.reduceEq, Int.reduceToNat, Int.reduceBEq, q4, q2]
        · have q4' : decide ((l.getD k z3).2 ≤ 64) = true := decide_eq_true (by omega)
          simp only [walk, Nat.reduceLT, Nat.reduceBEq, Nat.reduceAdd, Nat.reduceLeDiff, reduceIte, Int.reduceLT, Int.reduceLE, Int.reduceEq, Int.reduceToNat, Int.reduceBEq, q4]
          by_cases k0 : k = 0
          · have g0 : ¬ ((k : Int) > 0) := by omega
            simp only [walk, Nat.reduceLT, Nat.reduceBEq, Nat.reduceAdd, Nat.reduceLeDiff, reduceIte, Int.reduceLT, Int.reduceLE, Int.reduceEq, Int.reduceToNat, Int.reduceBEq, g0, e1]
            exact step (by unfold okAt uOk; rw [q1, q3', q4', show (k == 0) = true by simpa using k0]; rfl)
          · have g0 : ((k : Nat) : Int) > 0 := by omega
            have e2 : IntKind.i64.wrap ((k : Int) - 1) = ((k - 1 : Nat) : Int) := by rw [wrap64 (by omega) (by omega)]; omega
            have c' : k - 1 < l.length := by omega
            simp only [walk, Nat.reduceLT, Nat.reduceBEq, Nat.reduceAdd, Nat.reduceLeDiff, reduceIte, Int.reduceLT, Int.reduceLE, Int.reduceEq, Int.reduceToNat, Int.reduceBEq, g0, e2, uRows_get c']
            refine callWp_of (hc (l.getD (k - 1) z3) (l.getD k z3)) ?_
            simp only [walk, Nat.reduceLT, Nat.reduceBEq, Nat.reduceAdd, Nat.reduceLeDiff, reduceIte, Int.reduceLT, Int.reduceLE, Int.reduceEq, Int.reduceToNat, Int.reduceBEq]
            by_cases q5 : dcmp (l.getD (k - 1) z3).1 (l.getD k z3).1 ≥ 0
            · have q2 := rightU_no c (by unfold okAt uOk; rw [q1, q3', q4', show (k == 0) = false by simpa using k0, show decide (dcmp (l.getD (k - 1) z3).1 (l.getD k z3).1 < 0) = false from decide_eq_false (by omega)]; rfl)
              simp only [walk, Nat.reduceLT, Nat.reduceBEq, Nat.reduceAdd, Nat.reduceLeDiff, reduceIte, Int.reduceLT, Int.reduceLE, Int.reduceEq, Int.reduceToNat, Int.reduceBEq, q5, q2]
            · simp only [walk, Nat.reduceLT, Nat.reduceBEq, Nat.reduceAdd, Nat.reduceLeDiff, reduceIte, Int.reduceLT, Int.reduceLE, Int.reduceEq, Int.reduceToNat, Int.reduceBEq, q5, e1]
              exact step (by unfold okAt uOk; rw [q1, q3', q4', show decide (dcmp (l.getD (k - 1) z3).1 (l.getD k z3).1 < 0) = true from decide_eq_true (by omega)]; simp)
  · have c1 : ¬ ((k : Int) < l.length) := by omega
    have q2 : rightU l = true := rightU_iff.2 (fun j h => hj j (by omega))
    simp only [walk, Nat.reduceLT, Nat.reduceBEq, Nat.reduceAdd, Nat.reduceLeDiff, reduceIte, Int.reduceLT, Int.reduceLE, Int.reduceEq, Int.reduceToNat, Int.reduceBEq, c1, q2]
theorem g_pref08_Right (h : S_uOk (C (F n_pref08_one))) (hc : S_dcmp (C (F n_pref04_Compare))) : S_uRight ((c_pref08_Right F).gives C) := by
  intro l hl
  refine gives_of rfl ?_
  unfold c_pref08_Right
  simp only [walk, Nat.reduceLT, Nat.reduceBEq, Nat.reduceAdd, Nat.reduceLeDiff, reduceIte, Int.reduceLT, Int.reduceLE, Int.reduceEq, Int.reduceToNat, Int.reduceBEq, uRows_len]
  unfold bigL at hl
  refine awp_loop_ind (X := Nat) (fun k => ⟨[(0, .val (usP l)), (2, .val (.bool false)), (3, .val (.int .i64 k))], []⟩)
    (fun k => k ≤ l.length ∧ ∀ j, j < k → okAt l j = true) (fun k => l.length - k) 0 ⟨by omega, by omega⟩ rfl ?_
  rintro R k ⟨hk, hj⟩ ih
  simp only [walk, Nat.reduceLT, Nat.reduceBEq, Nat.reduceAdd, Nat.reduceLeDiff, reduceIte, Int.reduceLT, Int.reduceLE, Int.reduceEq, Int.reduceToNat, Int.reduceBEq, uRows_len]
  by_cases c : k < l.length
  · have c1 : (k : Int) < l.length := by omega
    have c0 : (0 : Int) ≤ k := by omega
    have e1 : IntKind.i64.wrap ((k : Int) + 1) = ((k + 1 : Nat) : Int) := wrap64 (by omega) (by omega)
    have step : okAt l k = true → R (⟨[(0, .val (usP l)), (2, .val (.bool false)), (3, .val (.int .i64 ((k + 1 : Nat) : Int)))], []⟩) := fun h => ih (k + 1) ⟨by omega, fun j hj' => by
      by_cases e : j = k
      · subst e; exact h
      · exact hj j (by omega)⟩ (by omega)
    simp only [walk, Nat.reduceLT, Nat.reduceBEq, Nat.reduceAdd, Nat.reduceLeDiff, reduceIte, Int.reduceLT, Int.reduceLE, Int.reduceEq, Int.reduceToNat, Int.reduceBEq, c1, uRows_get c]
    refine callWp_of (h (l.getD k z3)) ?_
    cases q1 : uOk (l.getD k z3) with
    | false =>
      have q2 := rightU_no c (by unfold okAt; rw [q1]; rfl)
      simp only [walk, Nat.reduceLT, Nat.reduceBEq, Nat.reduceAdd, Nat.reduceLeDiff, reduceIte, Int.reduceLT, Int.reduceLE, Int.reduceEq, Int.reduceToNat, Int.reduceBEq, q2]
    | true =>
      simp only [walk, Nat.reduceLT, Nat.reduceBEq, Nat.reduceAdd, Nat.reduceLeDiff, reduceIte, Int.reduceLT, Int.reduceLE, Int.reduceEq, Int.reduceToNat, Int.reduceBEq]
      by_cases k0 : k = 0
      · have g0 : ¬ ((k : Int) > 0) := by omega
        simp only [walk, Nat.reduceLT, Nat.reduceBEq, Nat.reduceAdd, Nat.reduceLeDiff, reduceIte, Int.reduceLT, Int.reduceLE, Int.reduceEq, Int.reduceToNat, Int.reduceBEq, g0, e1]
        exact step (by unfold okAt; rw [q1, show (k == 0) = true by simpa using k0]; rfl)
      · have g0 : ((k : Nat) : Int) > 0 := by omega
        have e2 : IntKind.i64.wrap ((k : Int) - 1) = ((k - 1 : Nat) : Int) := by rw [wrap64 (by omega) (by omega)]; omega
        have c' : k - 1 < l.length := by omega
        simp only [walk, Nat.reduceLT, Nat.reduceBEq, Nat.reduceAdd, Nat.reduceLeDiff, reduceIte, Int.reduceLT, Int.reduceLE, Int.reduceEq, Int.reduceToNat, Int.reduceBEq, g0, e2, uRows_get c', uRows_get c]
        refine callWp_of (hc (l.getD (k - 1) z3).1 (l.getD k z3).1) ?_
        by_cases q5 : dcmp (l.getD (k - 1) z3).1 (l.getD k z3).1 < 0
        · have q6 : (dcmp (l.getD (k - 1) z3).1 (l.getD k z3).1 != -1) = false := by simp; exact dcmp_m1.2 q5
          simp only [walk, Nat.reduceLT, Nat.reduceBEq, Nat.reduceAdd, Nat.reduceLeDiff, reduceIte, Int.reduceLT, Int.reduceLE, Int.reduceEq, Int.reduceToNat, Int.reduceBEq, q6, e1]
          exact step (by unfold okAt; rw [q1, show decide (dcmp (l.getD (k - 1) z3).1 (l.getD k z3).1 < 0) = true from decide_eq_true q5]; simp)
        · have q6 : (dcmp (l.getD (k - 1) z3).1 (l.getD k z3).1 != -1) = true := by simp; exact fun h => q5 (dcmp_m1.1 h)
          have q2 := rightU_no c (by unfold okAt; rw [q1, show (k == 0) = false by simpa using k0, show decide (dcmp (l.getD (k - 1) z3).1 (l.getD k z3).1 < 0) = false from decide_eq_false q5]; rfl)
          simp only [walk, Nat.reduceLT, Nat.reduceBEq, Nat.reduceAdd, Nat.reduceLeDiff, reduceIte, Int.reduceLT, Int.reduceLE, Int.reduceEq, Int.reduceToNat, Int.reduceBEq, q6, q2]
  · have c1 : ¬ ((k : Int) < l.length) := by omega
    have q2 : rightU l = true := rightU_iff.2 (fun j h => hj j (by omega))
    simp only [walk, Nat.reduceLT, Nat.reduceBEq, Nat.reduceAdd, Nat.reduceLeDiff, reduceIte, Int.reduceLT, Int.reduceLE, Int.reduceEq, Int.reduceToNat, Int.reduceBEq, c1, q2]
theorem g_pref08_Get : S_rGet ((c_pref08_Get F).gives C) := by
  intro l d hl
  refine gives_of rfl ?_
  unfold c_pref08_Get
  simp only [walk, Nat.reduceLT, Nat.reduceBEq, Nat.reduceAdd, Nat.reduceLeDiff, reduceIte, Int.reduceLT, Int.reduceLE, Int.reduceEq, Int.reduceToNat, Int.reduceBEq, uRows_len]
  unfold bigL at hl
  refine awp_loop_ind (X := Nat) (fun k => ⟨[(0, .val (usP l)), (1, .val (dP d)), (3, .lp 3 0), (4, .val (.int .i64 0)), (5, .val (.int .i64 k))], [(3, .cells [.val (.int .i64 d.1), .val (.int .i64 d.2)])]⟩)
    (fun k => k ≤ l.length ∧ ∀ j, j < k → (l.getD j z3).1 ≠ d) (fun k => l.length - k) 0 ⟨by omega, by omega⟩ rfl ?_
  rintro R k ⟨hk, hj⟩ ih
  simp only [walk, Nat.reduceLT, Nat.reduceBEq, Nat.reduceAdd, Nat.reduceLeDiff, reduceIte, Int.reduceLT, Int.reduceLE, Int.reduceEq, Int.reduceToNat, Int.reduceBEq, uRows_len]
  by_cases c : k < l.length
  · have c1 : (k : Int) < l.length := by omega
    have c0 : (0 : Int) ≤ k := by omega
    have e1 : IntKind.i64.wrap ((k : Int) + 1) = ((k + 1 : Nat) : Int) := wrap64 (by omega) (by omega)
    simp only [walk, Nat.reduceLT, Nat.reduceBEq, Nat.reduceAdd, Nat.reduceLeDiff, reduceIte, Int.reduceLT, Int.reduceLE, Int.reduceEq, Int.reduceToNat, Int.reduceBEq, c1, uRows_get c, eqCells_d]
    by_cases q : (l.getD k z3).1 = d
    · have q' : decide ((((l.getD k z3).1.1, (l.getD k z3).1.2) : Dt) = (d.1, d.2)) = true := by rw [decide_eq_true_eq]; exact q
      simp only [walk, Nat.reduceLT, Nat.reduceBEq, Nat.reduceAdd, Nat.reduceLeDiff, reduceIte, Int.reduceLT, Int.reduceLE, Int.reduceEq, Int.reduceToNat, Int.reduceBEq, q', getU_at hj c q, uRows_get c]
    · have q' : decide ((((l.getD k z3).1.1, (l.getD k z3).1.2) : Dt) = (d.1, d.2)) = false := by rw [decide_eq_false_iff_not]; exact q
      simp only [walk, Nat.reduceLT, Nat.reduceBEq, Nat.reduceAdd, Nat.reduceLeDiff, reduceIte, Int.reduceLT, Int.reduceLE, Int.reduceEq, Int.reduceToNat, Int.reduceBEq, q', e1]
      refine ih (k + 1) ⟨by omega, fun j hj' => ?_⟩ (by omega)
      by_cases e : j = k
      · subst e; exact q
      · exact hj j (by omega)
  · have c1 : ¬ ((k : Int) < l.length) := by omega
    simp only [walk, Nat.reduceLT, Nat.reduceBEq, Nat.reduceAdd, Nat.reduceLeDiff, reduceIte, Int.reduceLT, Int.reduceLE, Int.reduceEq, Int.reduceToNat, Int.reduceBEq, c1, getU_none (fun j h => hj j (by omega : j < k))]
end
end Go.AR
