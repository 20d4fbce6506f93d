import Derived.Test.YteombjhaanohiaaP07
set_option linter.all false
namespace Go.AR
open Go
theorem frontN_has {m : List Int} (hm : m.length = 256) (r q : Int) : ∀ k, k < 16 → hasB (frontN m k) r q = (List.range (k + 1)).all fun j => hasB (rowOf m j) r q
  | 0, _ => by simp [frontN]
  | k + 1, h => by
    rw [frontN_succ, has_meet (frontN_len hm k (by omega)) (rowOf_len hm (by omega)), frontN_has hm r q k (by omega), List.range_succ (n := k + 1), List.all_append]
    simp [Nat.add_comm]
theorem front_has {m : List Int} (hm : m.length = 256) (n r q : Int) : hasB (front m n) r q = (decide (n ≥ 1) && decide (n ≤ 16) && (List.range (min n.toNat 16)).all fun j => hasB (rowOf m j) r q) := by
  by_cases h : n < 1 ∨ n > 16
  · have e : front m n = zero16 := by unfold front; rw [if_pos h]
    have e2 : (decide (n ≥ 1) && decide (n ≤ 16)) = false := by
      rw [← Bool.not_eq_true, Bool.and_eq_true, decide_eq_true_eq, decide_eq_true_eq]; omega
    rw [e, e2, Bool.false_and]
    unfold hasB
    rw [← Bool.not_eq_true, Bool.and_eq_true]
    rintro ⟨hd, hk⟩
    obtain ⟨h1, h2, h3, h4⟩ := dotB_iff.1 hd
    have : zero16.getD r.toNat 0 = 0 := by
      simp only [zero16, List.getD_eq_getElem?_getD, List.getElem?_replicate]
      split <;> rfl
    rw [this] at hk
    simp only [decide_eq_true_eq] at hk
    omega
  · have e : front m n = frontN m (n.toNat - 1) := by unfold front; rw [if_neg h]; rfl
    have e2 : (decide (n ≥ 1) && decide (n ≤ 16)) = true := by
      rw [Bool.and_eq_true, decide_eq_true_eq, decide_eq_true_eq]; omega
    rw [e, e2, Bool.true_and, frontN_has hm r q _ (by omega), show n.toNat - 1 + 1 = min n.toNat 16 by omega]
section
variable {C : CallRel} {F : Nat → FuncId}
def S_lawStable (R : Rel) : Prop := ∀ (m : List Int) (n r k : Int), m.length = 256 → R [.v (vecP m), .v (.int .i64 n), .v (.agg [.int .i64 r, .int .i64 k])] (.val (.bool true)) []
set_option maxHeartbeats 4000000 in
theorem g_MatrixStable (hA : S_yes (C (F n_plaw07_awake))) (hH : S_vec_Has (C (F n_pref05_Has))) (hS : S_mstable (C (F n_matrix_Matrix_Stable))) : S_lawStable ((c_plaw07_MatrixStable F).gives C) := by
  intro m n r k hm
  refine gives_of rfl ?_
  unfold c_plaw07_MatrixStable
  simp only [walk, Nat.reduceLT, Nat.reduceBEq, Nat.reduceAdd, Nat.reduceLeDiff, reduceIte, Int.reduceLT, Int.reduceLE, Int.reduceEq, Int.reduceToNat, Int.reduceBEq, hm]
  obtain ⟨A, hA'⟩ : ∃ A, (decide (n ≥ 1) && decide (n ≤ 16)) = A := ⟨_, rfl⟩
  by_cases g1 : n ≥ 1
  · have eA : decide (n ≤ 16) = A := by rw [← hA']; simp [g1]
    simp only [walk, Nat.reduceLT, Nat.reduceBEq, Nat.reduceAdd, Nat.reduceLeDiff, reduceIte, Int.reduceLT, Int.reduceLE, Int.reduceEq, Int.reduceToNat, Int.reduceBEq, hm, g1]
    refine awp_loop_ind (X := Nat) (fun i => ⟨[(0, .val (vecP m)), (1, .val (.int .i64 n)), (2, .val (.agg [.int .i64 r, .int .i64 k])), (3, .lp 3 0), (5, .lp 5 0), (6, .val (.bool false)), (7, .lp 7 0), (8, .val (.bool (A && (List.range i).all fun j => hasB (rowOf m j) r k))), (9, .val (.int .i64 i))],
      [(3, .cells ((m.map (.int .i64)).map .val)), (5, .cells [.val (.int .i64 r), .val (.int .i64 k)]), (7, .cells ((m.map (.int .i64)).map .val))]⟩)
      (fun i => i ≤ min n.toNat 16) (fun i => min n.toNat 16 - i) 0 (by omega) ?_ ?_
    · simp [hA', eA]
    intro R i hi ih
    simp only [walk, Nat.reduceLT, Nat.reduceBEq, Nat.reduceAdd, Nat.reduceLeDiff, reduceIte, Int.reduceLT, Int.reduceLE, Int.reduceEq, Int.reduceToNat, Int.reduceBEq]
    by_cases h1 : (i : Int) < 16
    · by_cases h2 : (i : Int) < n
      · have hl := rowOf_len hm (i := i) (by omega)
        have hr : (List.range (i + 1)).all (fun j => hasB (rowOf m j) r k) = ((List.range i).all (fun j => hasB (rowOf m j) r k) && hasB (rowOf m i) r k) := by
          rw [List.range_succ, List.all_append]; simp
        have nx := ih (i + 1) (by omega) (by omega)
        rw [hr, ← Bool.and_assoc] at nx
        simp only [walk, Nat.reduceLT, Nat.reduceBEq, Nat.reduceAdd, Nat.reduceLeDiff, reduceIte, Int.reduceLT, Int.reduceLE, Int.reduceEq, Int.reduceToNat, Int.reduceBEq, h1, h2]
        cases hc : (A && (List.range i).all fun j => hasB (rowOf m j) r k)
        · rw [hc] at nx
          simp only [walk, Nat.reduceLT, Nat.reduceBEq, Nat.reduceAdd, Nat.reduceLeDiff, reduceIte, Int.reduceLT, Int.reduceLE, Int.reduceEq, Int.reduceToNat, Int.reduceBEq, hm]
          rw [wrap64 (by omega) (by omega)]
          simpa using nx
        · rw [hc] at nx
          simp only [walk, Nat.reduceLT, Nat.reduceBEq, Nat.reduceAdd, Nat.reduceLeDiff, reduceIte, Int.reduceLT, Int.reduceLE, Int.reduceEq, Int.reduceToNat, Int.reduceBEq, hm, load_row, hl, h1]
          refine callWp_of (hH _ r k hl) ?_
          simp only [walk, Nat.reduceLT, Nat.reduceBEq, Nat.reduceAdd, Nat.reduceLeDiff, reduceIte, Int.reduceLT, Int.reduceLE, Int.reduceEq, Int.reduceToNat, Int.reduceBEq, hm]
          rw [wrap64 (by omega) (by omega)]
          simpa using nx
      · have hm' : i = min n.toNat 16 := by omega
        simp only [walk, Nat.reduceLT, Nat.reduceBEq, Nat.reduceAdd, Nat.reduceLeDiff, reduceIte, Int.reduceLT, Int.reduceLE, Int.reduceEq, Int.reduceToNat, Int.reduceBEq, h1, h2, hm]
        refine callWp_of (hS m n r k hm) ?_
        rw [front_has hm, ← hm', hA']
        simp only [walk, Nat.reduceLT, Nat.reduceBEq, Nat.reduceAdd, Nat.reduceLeDiff, reduceIte, Int.reduceLT, Int.reduceLE, Int.reduceEq, Int.reduceToNat, Int.reduceBEq, beq_self_eq_true]
        refine callWp_of hA ?_
        simp only [walk, Nat.reduceLT, Nat.reduceBEq, Nat.reduceAdd, Nat.reduceLeDiff, reduceIte, Int.reduceLT, Int.reduceLE, Int.reduceEq, Int.reduceToNat, Int.reduceBEq]
    · have hm' : i = min n.toNat 16 := by omega
      simp only [walk, Nat.reduceLT, Nat.reduceBEq, Nat.reduceAdd, Nat.reduceLeDiff, reduceIte, Int.reduceLT, Int.reduceLE, Int.reduceEq, Int.reduceToNat, Int.reduceBEq, h1, hm]
      refine callWp_of (hS m n r k hm) ?_
      rw [front_has hm, ← hm', hA']
      simp only [walk, Nat.reduceLT, Nat.reduceBEq, Nat.reduceAdd, Nat.reduceLeDiff, reduceIte, Int.reduceLT, Int.reduceLE, Int.reduceEq, Int.reduceToNat, Int.reduceBEq, beq_self_eq_true]
      refine callWp_of hA ?_
      simp only [walk, Nat.reduceLT, Nat.reduceBEq, Nat.reduceAdd, Nat.reduceLeDiff, reduceIte, Int.reduceLT, Int.reduceLE, Int.reduceEq, Int.reduceToNat, Int.reduceBEq]
  · have eA : false = A := by rw [← hA']; simp [g1]
    simp only [walk, Nat.reduceLT, Nat.reduceBEq, Nat.reduceAdd, Nat.reduceLeDiff, reduceIte, Int.reduceLT, Int.reduceLE, Int.reduceEq, Int.reduceToNat, Int.reduceBEq, hm, g1]
    refine awp_loop_ind (X := Nat) (fun i => ⟨[(0, .val (vecP m)), (1, .val (.int .i64 n)), (2, .val (.agg [.int .i64 r, .int .i64 k])), (3, .lp 3 0), (5, .lp 5 0), (6, .val (.bool false)), (7, .lp 7 0), (8, .val (.bool (A && (List.range i).all fun j => hasB (rowOf m j) r k))), (9, .val (.int .i64 i))],
      [(3, .cells ((m.map (.int .i64)).map .val)), (5, .cells [.val (.int .i64 r), .val (.int .i64 k)]), (7, .cells ((m.map (.int .i64)).map .val))]⟩)
      (fun i => i ≤ min n.toNat 16) (fun i => min n.toNat 16 - i) 0 (by omega) ?_ ?_
    · simp [hA', eA]
    intro R i hi ih
    simp only [walk, Nat.reduceLT, Nat.reduceBEq, Nat.reduceAdd, Nat.reduceLeDiff, reduceIte, Int.reduceLT, Int.reduceLE, Int.reduceEq, Int.reduceToNat, Int.reduceBEq]
    by_cases h1 : (i : Int) < 16
    · by_cases h2 : (i : Int) < n
      · have hl := rowOf_len hm (i := i) (by omega)
        have hr : (List.range (i + 1)).all (fun j => hasB (rowOf m j) r k) = ((List.range i).all (fun j => hasB (rowOf m j) r k) && hasB (rowOf m i) r k) := by
          rw [List.range_succ, List.all_append]; simp
        have nx := ih (i + 1) (by omega) (by omega)
        rw [hr, ← Bool.and_assoc] at nx
        simp only [walk, Nat.reduceLT, Nat.reduceBEq, Nat.reduceAdd, Nat.reduceLeDiff, reduceIte, Int.reduceLT, Int.reduceLE, Int.reduceEq, Int.reduceToNat, Int.reduceBEq, h1, h2]
        cases hc : (A && (List.range i).all fun j => hasB (rowOf m j) r k)
        · rw [hc] at nx
          simp only [walk, Nat.reduceLT, Nat.reduceBEq, Nat.reduceAdd, Nat.reduceLeDiff, reduceIte, Int.reduceLT, Int.reduceLE, Int.reduceEq, Int.reduceToNat, Int.reduceBEq, hm]
          rw [wrap64 (by omega) (by omega)]
          simpa using nx
        · rw [hc] at nx
          simp only [walk, Nat.reduceLT, Nat.reduceBEq, Nat.reduceAdd, Nat.reduceLeDiff, reduceIte, Int.reduceLT, Int.reduceLE, Int.reduceEq, Int.reduceToNat, Int.reduceBEq, hm, load_row, hl, h1]
          refine callWp_of (hH _ r k hl) ?_
          simp only [walk, Nat.reduceLT, Nat.reduceBEq, Nat.reduceAdd, Nat.reduceLeDiff, reduceIte, Int.reduceLT, Int.reduceLE, Int.reduceEq, Int.reduceToNat, Int.reduceBEq, hm]
          rw [wrap64 (by omega) (by omega)]
          simpa using nx
      · have hm' : i = min n.toNat 16 := by omega
        simp only [walk, Nat.reduceLT, Nat.reduceBEq, Nat.reduceAdd, Nat.reduceLeDiff, reduceIte, Int.reduceLT, Int.reduceLE, Int.reduceEq, Int.reduceToNat, Int.reduceBEq, h1, h2, hm]
        refine callWp_of (hS m n r k hm) ?_
        rw [front_has hm, ← hm', hA']
        simp only [walk, Nat.reduceLT, Nat.reduceBEq, Nat.reduceAdd, Nat.reduceLeDiff, reduceIte, Int.reduceLT, Int.reduceLE, Int.reduceEq, Int.reduceToNat, Int.reduceBEq, beq_self_eq_true]
        refine callWp_of hA ?_
        simp only [walk, Nat.reduceLT, Nat.reduceBEq, Nat.reduceAdd, Nat.reduceLeDiff, reduceIte, Int.reduceLT, Int.reduceLE, Int.reduceEq, Int.reduceToNat, Int.reduceBEq]
    · have hm' : i = min n.toNat 16 := by omega
      simp only [walk, Nat.reduceLT, Nat.reduceBEq, Nat.reduceAdd, Nat.reduceLeDiff, reduceIte, Int.reduceLT, Int.reduceLE, Int.reduceEq, Int.reduceToNat, Int.reduceBEq, h1, hm]
      refine callWp_of (hS m n r k hm) ?_
      rw [front_has hm, ← hm', hA']
      simp only [walk, Nat.reduceLT, Nat.reduceBEq, Nat.reduceAdd, Nat.reduceLeDiff, reduceIte, Int.reduceLT, Int.reduceLE, Int.reduceEq, Int.reduceToNat, Int.reduceBEq, beq_self_eq_true]
      refine callWp_of hA ?_
      simp only [walk, Nat.reduceLT, Nat.reduceBEq, Nat.reduceAdd, Nat.reduceLeDiff, reduceIte, Int.reduceLT, Int.reduceLE, Int.reduceEq, Int.reduceToNat, Int.reduceBEq]
end
end Go.AR
