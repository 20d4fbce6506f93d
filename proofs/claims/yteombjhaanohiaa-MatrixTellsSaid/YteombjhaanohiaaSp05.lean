import Derived.Test.YteombjhaanohiaaKp05
import Derived.Test.YteombjhaanohiaaSvec
set_option linter.all false
/-! The document's vectors: what the functions give. -/
namespace Go.AR
open Go
section
variable {C : CallRel} {F : Nat → FuncId}
theorem g_pref04_Right : S_dot_Right ((c_pref04_Right F).gives C) := by
  intro r n
  refine gives_of rfl ?_
  unfold c_pref04_Right dotB
  simp only [walk, Nat.reduceLT, Nat.reduceBEq, Nat.reduceAdd, Nat.reduceLeDiff, reduceIte, Int.reduceLT, Int.reduceLE, Int.reduceEq, Int.reduceToNat, Int.reduceBEq]
  have e : decide (r < 16) = decide (r ≤ 15) := by simp only [decide_eq_decide]; omega
  rw [e]
  by_cases h1 : r ≥ 0 <;> simp only [walk, Nat.reduceLT, Nat.reduceBEq, Nat.reduceAdd, Nat.reduceLeDiff, reduceIte, Int.reduceLT, Int.reduceLE, Int.reduceEq, Int.reduceToNat, Int.reduceBEq, h1]
  by_cases h2 : r ≤ 15 <;> simp only [walk, Nat.reduceLT, Nat.reduceBEq, Nat.reduceAdd, Nat.reduceLeDiff, reduceIte, Int.reduceLT, Int.reduceLE, Int.reduceEq, Int.reduceToNat, Int.reduceBEq, h2]
  by_cases h3 : n ≥ 1 <;> simp only [walk, Nat.reduceLT, Nat.reduceBEq, Nat.reduceAdd, Nat.reduceLeDiff, reduceIte, Int.reduceLT, Int.reduceLE, Int.reduceEq, Int.reduceToNat, Int.reduceBEq, h3]
theorem g_pref05_Has (hR : S_dot_Right (C (F n_pref04_Right))) : S_vec_Has ((c_pref05_Has F).gives C) := by
  intro v r n hv
  refine gives_of rfl ?_
  unfold c_pref05_Has hasB
  simp only [walk, Nat.reduceLT, Nat.reduceBEq, Nat.reduceAdd, Nat.reduceLeDiff, reduceIte, Int.reduceLT, Int.reduceLE, Int.reduceEq, Int.reduceToNat, Int.reduceBEq]
  refine callWp_of (hR r n) ?_
  simp only [walk, Nat.reduceLT, Nat.reduceBEq, Nat.reduceAdd, Nat.reduceLeDiff, reduceIte, Int.reduceLT, Int.reduceLE, Int.reduceEq, Int.reduceToNat, Int.reduceBEq]
  cases hd : dotB r n
  · simp only [walk, Nat.reduceLT, Nat.reduceBEq, Nat.reduceAdd, Nat.reduceLeDiff, reduceIte, Int.reduceLT, Int.reduceLE, Int.reduceEq, Int.reduceToNat, Int.reduceBEq]
  · obtain ⟨h1, h2, h3, h4⟩ := dotB_iff.1 hd
    have h5 : v[r.toNat]? = some (v.getD r.toNat 0) := by
      rw [List.getD_eq_getElem?_getD, List.getElem?_eq_getElem (by omega)]; rfl
    simp only [walk, Nat.reduceLT, Nat.reduceBEq, Nat.reduceAdd, Nat.reduceLeDiff, reduceIte, Int.reduceLT, Int.reduceLE, Int.reduceEq, Int.reduceToNat, Int.reduceBEq, h1, h2, h5]
/-- No number of the one is greater. -/
def leV (a b : List Int) : Bool := List.zipWith min a b == a
theorem leV_iff {a b : List Int} (ha : a.length = 16) (hb : b.length = 16) : leV a b = true ↔ ∀ i, i < 16 → a.getD i 0 ≤ b.getD i 0 := by
  unfold leV
  rw [beq_iff_eq]
  constructor
  · intro h i hi
    have := getD_zw (g := min) (a := a) (b := b) (i := i) (by omega) (by omega)
    rw [h] at this
    omega
  · intro h
    apply List.ext_getElem?
    intro i
    by_cases hi : i < 16
    · have := h i hi
      simp only [List.getD_eq_getElem?_getD, List.getElem?_eq_getElem (show i < a.length by omega), List.getElem?_eq_getElem (show i < b.length by omega), Option.getD_some] at this
      simp only [List.getElem?_zipWith, List.getElem?_eq_getElem (show i < a.length by omega), List.getElem?_eq_getElem (show i < b.length by omega)]
      congr 1; omega
    · rw [List.getElem?_eq_none (by simp; omega), List.getElem?_eq_none (by omega)]
theorem g_pref05_Within : S_vec_Within ((c_pref05_Within F).gives C) := by
  intro a b ha hb
  refine gives_of rfl ?_
  unfold c_pref05_Within
  simp only [walk, Nat.reduceLT, Nat.reduceBEq, Nat.reduceAdd, Nat.reduceLeDiff, reduceIte, Int.reduceLT, Int.reduceLE, Int.reduceEq, Int.reduceToNat, Int.reduceBEq]
  refine awp_loop_ind (X := Nat) (fun i => ⟨[(0, .val (vecP a)), (1, .val (vecP b)), (2, .lp 2 0), (3, .lp 3 0), (4, .val (.bool false)), (5, .val (.int .i64 i))], [(2, .cells ((a.map (.int .i64)).map .val)), (3, .cells ((b.map (.int .i64)).map .val))]⟩)
    (fun i => i ≤ 16 ∧ ∀ j, j < i → a.getD j 0 ≤ b.getD j 0) (fun i => 16 - i) 0 ⟨by omega, by intro j hj; omega⟩ rfl ?_
  rintro R i ⟨hi, hj⟩ ih
  simp only [walk, Nat.reduceLT, Nat.reduceBEq, Nat.reduceAdd, Nat.reduceLeDiff, reduceIte, Int.reduceLT, Int.reduceLE, Int.reduceEq, Int.reduceToNat, Int.reduceBEq]
  by_cases h : i = 16
  · have h1 : ¬ ((i : Int) < 16) := by omega
    have e : (List.zipWith min a b == a) = true := (leV_iff ha hb).2 (fun j h => hj j (by omega))
    simp only [h1, e, walk, Nat.reduceLT, Nat.reduceBEq, Nat.reduceAdd, Nat.reduceLeDiff, reduceIte, Int.reduceLT, Int.reduceLE, Int.reduceEq, Int.reduceToNat, Int.reduceBEq]
  · have h1 : ((i : Int) < 16) := by omega
    have h4 : a[i]? = some (a.getD i 0) := by
      rw [List.getD_eq_getElem?_getD, List.getElem?_eq_getElem (by omega)]; rfl
    have h5 : b[i]? = some (b.getD i 0) := by
      rw [List.getD_eq_getElem?_getD, List.getElem?_eq_getElem (by omega)]; rfl
    by_cases h6 : a.getD i 0 > b.getD i 0
    · have e : (List.zipWith min a b == a) = false := by
        rw [← Bool.not_eq_true]
        intro e
        have := (leV_iff ha hb).1 e i (by omega)
        omega
      simp only [h1, h4, h5, h6, e, walk, Nat.reduceLT, Nat.reduceBEq, Nat.reduceAdd, Nat.reduceLeDiff, reduceIte, Int.reduceLT, Int.reduceLE, Int.reduceEq, Int.reduceToNat, Int.reduceBEq]
    · simp only [h1, h4, h5, h6, walk, Nat.reduceLT, Nat.reduceBEq, Nat.reduceAdd, Nat.reduceLeDiff, reduceIte, Int.reduceLT, Int.reduceLE, Int.reduceEq, Int.reduceToNat, Int.reduceBEq]
      rw [wrap64 (by omega) (by omega)]
      refine ih (i + 1) ⟨by omega, fun j hj' => ?_⟩ (by omega)
      by_cases hji : j = i
      · subst hji; omega
      · exact hj j (by omega)
end
end Go.AR
