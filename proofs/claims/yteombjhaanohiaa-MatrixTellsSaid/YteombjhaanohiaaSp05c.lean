import Derived.Test.YteombjhaanohiaaSp05b
set_option linter.all false
/-! The count of a right vector. -/
namespace Go.AR
open Go
section
variable {C : CallRel} {F : Nat → FuncId}
/-- The sum of the first numbers. -/
def sumTo (v : List Int) : Nat → Int
  | 0 => 0
  | i + 1 => sumTo v i + v.getD i 0
def cnt (v : List Int) : Int := sumTo v 16
theorem okN_iff {x : Int} : okN x = true ↔ 0 ≤ x ∧ x ≤ 1048576 := by simp [okN]
theorem right_at {v : List Int} (hv : v.length = 16) (h : rightV v = true) {i : Nat} (hi : i < 16) : 0 ≤ v.getD i 0 ∧ v.getD i 0 ≤ 1048576 := by
  rw [← okN_iff]
  unfold rightV at h
  rw [List.all_eq_true] at h
  exact h _ (List.mem_iff_getElem?.2 ⟨i, getE (by omega)⟩)
theorem sumTo_le {v : List Int} (hv : v.length = 16) (h : rightV v = true) : ∀ i, i ≤ 16 → 0 ≤ sumTo v i ∧ sumTo v i ≤ i * 1048576
  | 0, _ => by simp [sumTo]
  | i + 1, hi => by
    have ih := sumTo_le hv h i (by omega)
    have := right_at hv h (i := i) (by omega)
    simp only [sumTo]
    omega
def S_vec_Count (R : Rel) : Prop := ∀ v : List Int, v.length = 16 → rightV v = true → R [.v (vecP v)] (.val (.int .i64 (cnt v))) []
theorem g_vec_Count : S_vec_Count ((c_vec_Count F).gives C) := by
  intro v hv hr
  refine gives_of rfl ?_
  unfold c_vec_Count
  simp only [walk, Nat.reduceLT, Nat.reduceBEq, Nat.reduceAdd, Nat.reduceLeDiff, reduceIte, Int.reduceLT, Int.reduceLE, Int.reduceEq, Int.reduceToNat, Int.reduceBEq, hv]
  refine awp_loop_ind (X := Nat) (fun i => ⟨[(0, .val (vecP v)), (1, .lp 1 0), (2, .val (.int .i64 0)), (3, .val (.int .i64 (sumTo v i))), (6, .val (vecP v)), (7, .val (.int .i64 i))], [(1, .cells ((v.map (.int .i64)).map .val))]⟩)
    (fun i => i ≤ 16) (fun i => 16 - i) 0 (by omega) rfl ?_
  intro R i hi ih
  simp only [walk, Nat.reduceLT, Nat.reduceBEq, Nat.reduceAdd, Nat.reduceLeDiff, reduceIte, Int.reduceLT, Int.reduceLE, Int.reduceEq, Int.reduceToNat, Int.reduceBEq]
  have hs := sumTo_le hv hr i hi
  by_cases h : i = 16
  · have h1 : ¬ ((i : Int) < 16) := by omega
    subst h
    simp only [h1, walk, Nat.reduceLT, Nat.reduceBEq, Nat.reduceAdd, Nat.reduceLeDiff, reduceIte, Int.reduceLT, Int.reduceLE, Int.reduceEq, Int.reduceToNat, Int.reduceBEq]
    rfl
  · have h1 : ((i : Int) < 16) := by omega
    have h2 := getE (a := v) (i := i) (by omega)
    have h3 := right_at hv hr (i := i) (by omega)
    have h4 : max 0 (v.getD i 0) = v.getD i 0 := by omega
    simp only [h1, h2, h4, walk, Nat.reduceLT, Nat.reduceBEq, Nat.reduceAdd, Nat.reduceLeDiff, reduceIte, Int.reduceLT, Int.reduceLE, Int.reduceEq, Int.reduceToNat, Int.reduceBEq]
    rw [wrap64 (n := sumTo v i + v.getD i 0) (by omega) (by omega), wrap64 (by omega) (by omega)]
    exact ih (i + 1) (by omega) (by omega)
end
end Go.AR
