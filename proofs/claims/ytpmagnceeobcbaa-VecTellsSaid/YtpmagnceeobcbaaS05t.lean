import Derived.Test.YtpmagnceeobcbaaSp05c
import Derived.Test.YtpmagnceeobcbaaS02
set_option linter.all false
/-! The rest of chapter 5: bytes of vectors, the document's meet and count. -/
namespace Go.AR
open Go
section
variable {C : CallRel} {F : Nat → FuncId}
theorem g_vec_Right : S_vec_Right ((c_vec_Right F).gives C) := by
  intro v hv
  refine gives_of rfl ?_
  unfold c_vec_Right
  simp only [walk, Nat.reduceLT, Nat.reduceBEq, Nat.reduceAdd, Nat.reduceLeDiff, reduceIte, Int.reduceLT, Int.reduceLE, Int.reduceEq, Int.reduceToNat, Int.reduceBEq, hv]
  refine awp_loop_ind (X := Nat) (fun i => ⟨[(0, .val (vecP v)), (1, .lp 1 0), (2, .val (.bool false)), (5, .val (vecP v)), (6, .val (.int .i64 i))], [(1, .cells ((v.map (.int .i64)).map .val))]⟩)
    (fun i => i ≤ 16 ∧ ∀ j, j < i → okN (v.getD j 0) = true) (fun i => 16 - i) 0 ⟨by omega, by intro j hj; omega⟩ rfl ?_
  rintro R i ⟨hi, hj⟩ ih
  simp only [walk, Nat.reduceLT, Nat.reduceBEq, Nat.reduceAdd, Nat.reduceLeDiff, reduceIte, Int.reduceLT, Int.reduceLE, Int.reduceEq, Int.reduceToNat, Int.reduceBEq]
  by_cases h : i = 16
  · have h1 : ¬ ((i : Int) < 16) := by omega
    have e : rightV v = true := rightV_of hv (fun j h => hj j (by omega))
    simp only [h1, e, walk, Nat.reduceLT, Nat.reduceBEq, Nat.reduceAdd, Nat.reduceLeDiff, reduceIte, Int.reduceLT, Int.reduceLE, Int.reduceEq, Int.reduceToNat, Int.reduceBEq]
  · have h1 : ((i : Int) < 16) := by omega
    have h2 := getE (a := v) (i := i) (by omega)
    by_cases h3 : v.getD i 0 < 0
    · have e : rightV v = false := rightV_not hv (j := i) (by omega) (by unfold okN; rw [← Bool.not_eq_true, Bool.and_eq_true, decide_eq_true_eq]; omega)
      simp only [h1, h2, h3, e, walk, Nat.reduceLT, Nat.reduceBEq, Nat.reduceAdd, Nat.reduceLeDiff, reduceIte, Int.reduceLT, Int.reduceLE, Int.reduceEq, Int.reduceToNat, Int.reduceBEq]
    · by_cases h4 : v.getD i 0 > 1048576
      · have e : rightV v = false := rightV_not hv (j := i) (by omega) (by unfold okN; rw [← Bool.not_eq_true, Bool.and_eq_true, decide_eq_true_eq, decide_eq_true_eq]; omega)
        simp only [h1, h2, h3, h4, e, walk, Nat.reduceLT, Nat.reduceBEq, Nat.reduceAdd, Nat.reduceLeDiff, reduceIte, Int.reduceLT, Int.reduceLE, Int.reduceEq, Int.reduceToNat, Int.reduceBEq]
      · simp only [h1, h2, h3, h4, walk, Nat.reduceLT, Nat.reduceBEq, Nat.reduceAdd, Nat.reduceLeDiff, reduceIte, Int.reduceLT, Int.reduceLE, Int.reduceEq, Int.reduceToNat, Int.reduceBEq]
        rw [wrap64 (by omega) (by omega)]
        refine ih (i + 1) ⟨by omega, fun j hj' => ?_⟩ (by omega)
        by_cases hji : j = i
        · subst hji; unfold okN; rw [Bool.and_eq_true, decide_eq_true_eq, decide_eq_true_eq]; omega
        · exact hj j (by omega)
def allI (v : List Int) : Prop := ∀ i, i < 16 → i64ok (v.getD i 0)
def vcode (v : List Int) : Nat → List UInt8
  | 0 => []
  | i + 1 => vcode v i ++ pInt (v.getD i 0)
theorem vcode_len {v : List Int} (h : allI v) : ∀ i, i ≤ 16 → (vcode v i).length ≤ 11 * i
  | 0, _ => by simp [vcode]
  | i + 1, hi => by
    have := vcode_len h i (by omega)
    have := pInt_len (h i (by omega))
    simp only [vcode, List.length_append]; omega
def S_vec_Code (R : Rel) : Prop := ∀ v : List Int, v.length = 16 → allI v → R [.v (vecP v)] (.val (.str (vcode v 16))) []
theorem g_vec_Code (hI : S_i2s (C (F n_pack_Int))) : S_vec_Code ((c_vec_Code F).gives C) := by
  intro v hv ha
  refine gives_of rfl ?_
  unfold c_vec_Code
  simp only [walk, Nat.reduceLT, Nat.reduceBEq, Nat.reduceAdd, Nat.reduceLeDiff, reduceIte, Int.reduceLT, Int.reduceLE, Int.reduceEq, Int.reduceToNat, Int.reduceBEq, hv]
  refine awp_loop_ind (X := Nat) (fun i => ⟨[(0, .val (vecP v)), (1, .lp 1 0), (2, .val (.str [])), (3, .val (.str (vcode v i))), (6, .val (vecP v)), (7, .val (.int .i64 i))], [(1, .cells ((v.map (.int .i64)).map .val))]⟩)
    (fun i => i ≤ 16) (fun i => 16 - i) 0 (by omega) rfl ?_
  intro R i hi ih
  simp only [walk, Nat.reduceLT, Nat.reduceBEq, Nat.reduceAdd, Nat.reduceLeDiff, reduceIte, Int.reduceLT, Int.reduceLE, Int.reduceEq, Int.reduceToNat, Int.reduceBEq]
  by_cases h : i = 16
  · have h1 : ¬ ((i : Int) < 16) := by omega
    subst h
    simp only [h1, walk, Nat.reduceLT, Nat.reduceBEq, Nat.reduceAdd, Nat.reduceLeDiff, reduceIte, Int.reduceLT, Int.reduceLE, Int.reduceEq, Int.reduceToNat, Int.reduceBEq]
  · have h1 : ((i : Int) < 16) := by omega
    have h2 := getE (a := v) (i := i) (by omega)
    have h3 := ha i (by omega)
    have h4 := pInt_len h3
    have h5 := vcode_len ha i hi
    simp only [h1, h2, walk, Nat.reduceLT, Nat.reduceBEq, Nat.reduceAdd, Nat.reduceLeDiff, reduceIte, Int.reduceLT, Int.reduceLE, Int.reduceEq, Int.reduceToNat, Int.reduceBEq]
    refine callWp_of (hI _ h3) ?_
    simp only [walk, Nat.reduceLT, Nat.reduceBEq, Nat.reduceAdd, Nat.reduceLeDiff, reduceIte, Int.reduceLT, Int.reduceLE, Int.reduceEq, Int.reduceToNat, Int.reduceBEq]
    rw [bins_add (by omega)]
    simp only [walk, Nat.reduceLT, Nat.reduceBEq, Nat.reduceAdd, Nat.reduceLeDiff, reduceIte, Int.reduceLT, Int.reduceLE, Int.reduceEq, Int.reduceToNat, Int.reduceBEq]
    rw [wrap64 (by omega) (by omega)]
    exact ih (i + 1) (by omega) (by omega)
theorem g_pref05_Code (hI : S_i2s (C (F n_pref02_Int))) : S_vec_Code ((c_pref05_Code F).gives C) := by
  intro v hv ha
  refine gives_of rfl ?_
  unfold c_pref05_Code
  simp only [walk, Nat.reduceLT, Nat.reduceBEq, Nat.reduceAdd, Nat.reduceLeDiff, reduceIte, Int.reduceLT, Int.reduceLE, Int.reduceEq, Int.reduceToNat, Int.reduceBEq, hv]
  refine awp_loop_ind (X := Nat) (fun i => ⟨[(0, .val (vecP v)), (1, .lp 1 0), (2, .val (.str [])), (3, .val (.str (vcode v i))), (4, .val (.int .i64 i))], [(1, .cells ((v.map (.int .i64)).map .val))]⟩)
    (fun i => i ≤ 16) (fun i => 16 - i) 0 (by omega) rfl ?_
  intro R i hi ih
  simp only [walk, Nat.reduceLT, Nat.reduceBEq, Nat.reduceAdd, Nat.reduceLeDiff, reduceIte, Int.reduceLT, Int.reduceLE, Int.reduceEq, Int.reduceToNat, Int.reduceBEq]
  by_cases h : i = 16
  · have h1 : ¬ ((i : Int) < 16) := by omega
    subst h
    simp only [h1, walk, Nat.reduceLT, Nat.reduceBEq, Nat.reduceAdd, Nat.reduceLeDiff, reduceIte, Int.reduceLT, Int.reduceLE, Int.reduceEq, Int.reduceToNat, Int.reduceBEq]
  · have h1 : ((i : Int) < 16) := by omega
    have h2 := getE (a := v) (i := i) (by omega)
    have h3 := ha i (by omega)
    have h4 := pInt_len h3
    have h5 := vcode_len ha i hi
    simp only [h1, h2, walk, Nat.reduceLT, Nat.reduceBEq, Nat.reduceAdd, Nat.reduceLeDiff, reduceIte, Int.reduceLT, Int.reduceLE, Int.reduceEq, Int.reduceToNat, Int.reduceBEq]
    refine callWp_of (hI _ h3) ?_
    simp only [walk, Nat.reduceLT, Nat.reduceBEq, Nat.reduceAdd, Nat.reduceLeDiff, reduceIte, Int.reduceLT, Int.reduceLE, Int.reduceEq, Int.reduceToNat, Int.reduceBEq]
    rw [bins_add (by omega)]
    simp only [walk, Nat.reduceLT, Nat.reduceBEq, Nat.reduceAdd, Nat.reduceLeDiff, reduceIte, Int.reduceLT, Int.reduceLE, Int.reduceEq, Int.reduceToNat, Int.reduceBEq]
    rw [wrap64 (by omega) (by omega)]
    exact ih (i + 1) (by omega) (by omega)
theorem g_pref05_Meet : S_vec_op ((c_pref05_Meet F).gives C) min := by
  intro a b ha hb
  refine gives_of rfl ?_
  unfold c_pref05_Meet
  simp only [walk, Nat.reduceLT, Nat.reduceBEq, Nat.reduceAdd, Nat.reduceLeDiff, reduceIte, Int.reduceLT, Int.reduceLE, Int.reduceEq, Int.reduceToNat, Int.reduceBEq, ha, hb]
  refine awp_loop_ind (X := Nat × List Int) (fun x => ⟨[(0, .val (vecP a)), (1, .val (vecP b)), (2, .lp 2 0), (3, .lp 3 0), (4, .lp 4 0), (5, .lp 5 0), (6, .val (.int .i64 x.1))],
      [(2, .cells ((a.map (.int .i64)).map .val)), (3, .cells ((b.map (.int .i64)).map .val)), (4, .cells (List.replicate 16 (.val (.int .i64 0)))), (5, .cells ((x.2.map (.int .i64)).map .val))]⟩)
    (fun x => x.1 ≤ 16 ∧ Upto x.1 x.2 (List.zipWith min a b) a) (fun x => 16 - x.1) (0, a) ⟨by omega, ha, by simp⟩ rfl ?_
  rintro R ⟨i, c⟩ ⟨hi, hu⟩ ih
  simp only at hi hu ih ⊢
  simp only [walk, Nat.reduceLT, Nat.reduceBEq, Nat.reduceAdd, Nat.reduceLeDiff, reduceIte, Int.reduceLT, Int.reduceLE, Int.reduceEq, Int.reduceToNat, Int.reduceBEq]
  by_cases h : i = 16
  · have h1 : ¬ ((i : Int) < 16) := by omega
    subst h
    have e := hu.done (by simp [ha, hb])
    simp only [h1, walk, Nat.reduceLT, Nat.reduceBEq, Nat.reduceAdd, Nat.reduceLeDiff, reduceIte, Int.reduceLT, Int.reduceLE, Int.reduceEq, Int.reduceToNat, Int.reduceBEq, hu.1]
    rw [e]
  · have h1 : ((i : Int) < 16) := by omega
    have h0 : i < 16 := by omega
    have h2 := getE (a := a) (i := i) (by omega)
    have h3 := getE (a := b) (i := i) (by omega)
    have hz : (List.zipWith min a b)[i]? = some (min (a.getD i 0) (b.getD i 0)) := by rw [List.getElem?_zipWith, h2, h3]
    have hc := hu.1
    simp only [h1, h2, h3, walk, Nat.reduceLT, Nat.reduceBEq, Nat.reduceAdd, Nat.reduceLeDiff, reduceIte, Int.reduceLT, Int.reduceLE, Int.reduceEq, Int.reduceToNat, Int.reduceBEq]
    by_cases h4 : b.getD i 0 < a.getD i 0
    · simp only [h0, h1, h2, h3, h4, hc, walk, Nat.reduceLT, Nat.reduceBEq, Nat.reduceAdd, Nat.reduceLeDiff, reduceIte, Int.reduceLT, Int.reduceLE, Int.reduceEq, Int.reduceToNat, Int.reduceBEq]
      rw [wrap64 (by omega) (by omega)]
      refine ih (i + 1, c.set i (b.getD i 0)) ⟨by simp only; omega, ?_⟩ (by simp only; omega)
      exact hu.next h0 (by rw [hz]; congr 1; omega)
    · simp only [h0, h1, h2, h3, h4, hc, walk, Nat.reduceLT, Nat.reduceBEq, Nat.reduceAdd, Nat.reduceLeDiff, reduceIte, Int.reduceLT, Int.reduceLE, Int.reduceEq, Int.reduceToNat, Int.reduceBEq]
      rw [wrap64 (by omega) (by omega)]
      refine ih (i + 1, c) ⟨by simp only; omega, ?_⟩ (by simp only; omega)
      exact hu.same (by rw [hz, h2]; congr 1; omega)
theorem g_pref05_Count : S_vec_Count ((c_pref05_Count F).gives C) := by
  intro v hv hr
  refine gives_of rfl ?_
  unfold c_pref05_Count
  simp only [walk, Nat.reduceLT, Nat.reduceBEq, Nat.reduceAdd, Nat.reduceLeDiff, reduceIte, Int.reduceLT, Int.reduceLE, Int.reduceEq, Int.reduceToNat, Int.reduceBEq, hv]
  refine awp_loop_ind (X := Nat) (fun i => ⟨[(0, .val (vecP v)), (1, .lp 1 0), (2, .val (.int .i64 0)), (3, .val (.int .i64 (sumTo v i))), (4, .val (.int .i64 i))], [(1, .cells ((v.map (.int .i64)).map .val))]⟩)
    (fun i => i ≤ 16) (fun i => 16 - i) 0 (by omega) rfl ?_
  intro R i hi ih
  simp only [walk, Nat.reduceLT, Nat.reduceBEq, Nat.reduceAdd, Nat.reduceLeDiff, reduceIte, Int.reduceLT, Int.reduceLE, Int.reduceEq, Int.reduceToNat, Int.reduceBEq]
  have hs := sumTo_le hv hr i hi
  by_cases h : i = 16
  · have h1 : ¬ ((i : Int) < 16) := by omega
    subst h
    simp only [h1, walk, Nat.reduceLT, Nat.reduceBEq, Nat.reduceAdd, Nat.reduceLeDiff, reduceIte, Int.reduceLT, Int.reduceLE, Int.reduceEq, Int.reduceToNat, Int.reduceBEq]
    rfl
  · have h1 : ((i : Int) < 16) := by omega
    have h2 := getE (a := v) (i := i) (by omega)
    have h3 := right_at hv hr (i := i) (by omega)
    by_cases h4 : v.getD i 0 > 0
    · simp only [h1, h2, h4, walk, Nat.reduceLT, Nat.reduceBEq, Nat.reduceAdd, Nat.reduceLeDiff, reduceIte, Int.reduceLT, Int.reduceLE, Int.reduceEq, Int.reduceToNat, Int.reduceBEq]
      rw [wrap64 (n := sumTo v i + v.getD i 0) (by omega) (by omega), wrap64 (by omega) (by omega)]
      exact ih (i + 1) (by omega) (by omega)
    · simp only [h1, h2, h4, walk, Nat.reduceLT, Nat.reduceBEq, Nat.reduceAdd, Nat.reduceLeDiff, reduceIte, Int.reduceLT, Int.reduceLE, Int.reduceEq, Int.reduceToNat, Int.reduceBEq]
      rw [wrap64 (by omega) (by omega)]
      have := ih (i + 1) (by omega) (by omega)
      simp only [sumTo, show v.getD i 0 = 0 by omega, Int.add_zero] at this
      exact this
end
end Go.AR
