import Derived.Test.YteombjhaanohiaaS07b
set_option linter.all false
/-! The document's matrices. -/
namespace Go.AR
open Go
section
variable {C : CallRel} {F : Nat → FuncId}
theorem g_pref07_Learn (hJ : S_vec_op (C (F n_pref05_Join)) max) : S_mlearn ((c_pref07_Learn F).gives C) := by
  intro m i v hm hv
  have hlen := learn_len (i := i) hm hv
  refine gives_of rfl ?_
  unfold c_pref07_Learn
  simp only [walk, Nat.reduceLT, Nat.reduceBEq, Nat.reduceAdd, Nat.reduceLeDiff, reduceIte, Int.reduceLT, Int.reduceLE, Int.reduceEq, Int.reduceToNat, Int.reduceBEq]
  by_cases h0 : i ≥ 0
  · by_cases h1 : i ≤ 15
    · have h : isRep i = true := isRep_iff.2 ⟨h0, by omega⟩
      have h0' : 0 ≤ i := h0
      have h1' : i < 16 := by omega
      have hl := rowOf_len hm (i := i.toNat) (by omega)
      have e : learn m i v = m.take (i.toNat * 16) ++ List.zipWith max (rowOf m i.toNat) v ++ m.drop (i.toNat * 16 + 16) := by unfold learn; rw [h]; rfl
      simp only [walk, Nat.reduceLT, Nat.reduceBEq, Nat.reduceAdd, Nat.reduceLeDiff, reduceIte, Int.reduceLT, Int.reduceLE, Int.reduceEq, Int.reduceToNat, Int.reduceBEq, h0, h1, h0', h1', load_row, hl, hv]
      refine callWp_of (hJ _ v hl hv) ?_
      have h2 : i.toNat * 16 + 16 ≤ 256 := by omega
      have h3 : (List.zipWith max (rowOf m i.toNat) v).length = 16 := by simp [hl, hv]
      simp only [walk, Nat.reduceLT, Nat.reduceBEq, Nat.reduceAdd, Nat.reduceLeDiff, reduceIte, Int.reduceLT, Int.reduceLE, Int.reduceEq, Int.reduceToNat, Int.reduceBEq, h0', h1', h2, hl, hv, hm]
      rw [lay_row (by rw [h3]; omega), h3, ← e]
      simp only [walk, Nat.reduceLT, Nat.reduceBEq, Nat.reduceAdd, Nat.reduceLeDiff, reduceIte, Int.reduceLT, Int.reduceLE, Int.reduceEq, Int.reduceToNat, Int.reduceBEq, hlen]
    · have h : isRep i = false := by rw [← Bool.not_eq_true, isRep_iff]; omega
      have e : learn m i v = m := by unfold learn; rw [h]; rfl
      simp only [walk, Nat.reduceLT, Nat.reduceBEq, Nat.reduceAdd, Nat.reduceLeDiff, reduceIte, Int.reduceLT, Int.reduceLE, Int.reduceEq, Int.reduceToNat, Int.reduceBEq, h0, h1, hm, e]
  · have h : isRep i = false := by rw [← Bool.not_eq_true, isRep_iff]; omega
    have e : learn m i v = m := by unfold learn; rw [h]; rfl
    simp only [walk, Nat.reduceLT, Nat.reduceBEq, Nat.reduceAdd, Nat.reduceLeDiff, reduceIte, Int.reduceLT, Int.reduceLE, Int.reduceEq, Int.reduceToNat, Int.reduceBEq, h0, hm, e]
/-- The least of the first k + 1 rows' numbers at a place. -/
theorem frontN_at {m : List Int} (hm : m.length = 256) {j : Nat} (hj : j < 16) (k : Nat) (hk : k + 1 < 16) : (frontN m (k + 1)).getD j 0 = min ((frontN m k).getD j 0) (m.getD ((k + 1) * 16 + j) 0) := by
  have l1 := frontN_len hm k (by omega)
  have r1 := rowOf_len hm (i := 1 + k) (by omega)
  rw [frontN_succ, getD_zw (by omega) (by omega), rowOf_getD hj, Nat.add_comm 1 k]
theorem g_pref07_Frontier : S_mfront ((c_pref07_Frontier F).gives C) := by
  intro m n hm
  refine gives_of rfl ?_
  unfold c_pref07_Frontier
  simp only [walk, Nat.reduceLT, Nat.reduceBEq, Nat.reduceAdd, Nat.reduceLeDiff, reduceIte, Int.reduceLT, Int.reduceLE, Int.reduceEq, Int.reduceToNat, Int.reduceBEq]
  by_cases h1 : n < 1
  · have e : front m n = zero16 := by unfold front; rw [if_pos (.inl h1)]
    simp only [walk, Nat.reduceLT, Nat.reduceBEq, Nat.reduceAdd, Nat.reduceLeDiff, reduceIte, Int.reduceLT, Int.reduceLE, Int.reduceEq, Int.reduceToNat, Int.reduceBEq, h1, e]
    simp [vecP, zero16]
  · by_cases h2 : n > 16
    · have e : front m n = zero16 := by unfold front; rw [if_pos (.inr h2)]
      simp only [walk, Nat.reduceLT, Nat.reduceBEq, Nat.reduceAdd, Nat.reduceLeDiff, reduceIte, Int.reduceLT, Int.reduceLE, Int.reduceEq, Int.reduceToNat, Int.reduceBEq, h1, h2, e]
      simp [vecP, zero16]
    · have e : front m n = frontN m (n.toNat - 1) := by unfold front; rw [if_neg (fun h => h.elim h1 h2)]; rfl
      have hn0 : 1 ≤ n.toNat := by omega
      have hn16 : n.toNat ≤ 16 := by omega
      have nN : n = (n.toNat : Int) := by omega
      have hfl := frontN_len hm (n.toNat - 1) (by omega)
      simp only [walk, Nat.reduceLT, Nat.reduceBEq, Nat.reduceAdd, Nat.reduceLeDiff, reduceIte, Int.reduceLT, Int.reduceLE, Int.reduceEq, Int.reduceToNat, Int.reduceBEq, h1, h2]
      refine awp_loop_ind (X := Nat × List Int) (fun x => ⟨[(0, .val (vecP m)), (1, .val (.int .i64 n)), (2, .lp 2 0), (4, .lp 4 0), (5, .lp 5 0), (6, .val (.int .i64 x.1)), (15, .val (.bool false))],
        [(2, .cells ((m.map (.int .i64)).map .val)), (4, .cells (List.replicate 16 (.val (.int .i64 0)))), (5, .cells ((x.2.map (.int .i64)).map .val))]⟩)
        (fun x => x.1 ≤ 16 ∧ Upto x.1 x.2 (frontN m (n.toNat - 1)) zero16) (fun x => 16 - x.1) (0, zero16) ⟨by omega, rfl, by simp⟩ (by simp [zero16]) ?_
      rintro R ⟨j, c⟩ ⟨hj, hu⟩ ih
      simp only at hj hu ih ⊢
      simp only [walk, Nat.reduceLT, Nat.reduceBEq, Nat.reduceAdd, Nat.reduceLeDiff, reduceIte, Int.reduceLT, Int.reduceLE, Int.reduceEq, Int.reduceToNat, Int.reduceBEq]
      by_cases h : j = 16
      · have h3 : ¬ ((j : Int) < 16) := by omega
        subst h
        have ec := hu.done hfl
        simp only [h3, walk, Nat.reduceLT, Nat.reduceBEq, Nat.reduceAdd, Nat.reduceLeDiff, reduceIte, Int.reduceLT, Int.reduceLE, Int.reduceEq, Int.reduceToNat, Int.reduceBEq, hu.1]
        rw [ec, e]
      · have h3 : ((j : Int) < 16) := by omega
        have hj16 : j < 16 := by omega
        have j0 : (0 : Int) ≤ j := by omega
        have g0 := getE (a := m) (i := j) (by omega)
        simp only [h3, j0, walk, Nat.reduceLT, Nat.reduceBEq, Nat.reduceAdd, Nat.reduceLeDiff, reduceIte, Int.reduceLT, Int.reduceLE, Int.reduceEq, Int.reduceToNat, Int.reduceBEq, Nat.zero_mul, g0]
        refine awp_loop_ind (X := Nat) (fun i => ⟨[(0, .val (vecP m)), (1, .val (.int .i64 n)), (2, .lp 2 0), (4, .lp 4 0), (5, .lp 5 0), (6, .val (.int .i64 j)), (7, .val (.int .i64 ((frontN m i).getD j 0))), (8, .val (.int .i64 ((i + 1 : Nat) : Int))), (15, .val (.bool false)), (18, .val (.bool true))],
          [(2, .cells ((m.map (.int .i64)).map .val)), (4, .cells (List.replicate 16 (.val (.int .i64 0)))), (5, .cells ((c.map (.int .i64)).map .val))]⟩)
          (fun i => i + 1 ≤ n.toNat) (fun i => n.toNat - i) 0 (by omega) ?_ ?_
        · have e0 : (frontN m 0).getD j 0 = m.getD j 0 := by
            have := rowOf_getD (m := m) (k := 0) hj16
            simpa [frontN] using this
          simp only [e0]
          rfl
        intro R2 i hi ih2
        simp only [walk, Nat.reduceLT, Nat.reduceBEq, Nat.reduceAdd, Nat.reduceLeDiff, reduceIte, Int.reduceLT, Int.reduceLE, Int.reduceEq, Int.reduceToNat, Int.reduceBEq]
        by_cases h4 : i + 1 = n.toNat
        · have h5 : ¬ (((i + 1 : Nat) : Int) < n) := by omega
          have hx : (frontN m (n.toNat - 1))[j]? = some ((frontN m i).getD j 0) := by rw [show n.toNat - 1 = i by omega]; exact getE (by rw [frontN_len hm i (by omega)]; omega)
          simp only [walk, Nat.reduceLT, Nat.reduceBEq, Nat.reduceAdd, Nat.reduceLeDiff, reduceIte, Int.reduceLT, Int.reduceLE, Int.reduceEq, Int.reduceToNat, Int.reduceBEq, h5, h3, j0, hu.1, hj16]
          rw [wrap64 (by omega) (by omega)]
          exact ih (j + 1, c.set j ((frontN m i).getD j 0)) ⟨by simp only; omega, hu.next hj16 hx⟩ (by simp only; omega)
        · have h5 : (((i + 1 : Nat) : Int) < n) := by omega
          have h6 : (((i + 1 : Nat) : Int) < 16) := by omega
          have i0 : (0 : Int) ≤ ((i + 1 : Nat) : Int) := by omega
          have g1 := getE (a := m) (i := (i + 1) * 16 + j) (by omega)
          have fa := frontN_at hm hj16 i (by omega)
          by_cases h7 : m.getD ((i + 1) * 16 + j) 0 < (frontN m i).getD j 0
          · simp only [walk, Nat.reduceLT, Nat.reduceBEq, Nat.reduceAdd, Nat.reduceLeDiff, reduceIte, Int.reduceLT, Int.reduceLE, Int.reduceEq, Int.reduceToNat, Int.reduceBEq, h5, h6, h3, i0, j0, g1, h7]
            rw [wrap64 (by omega) (by omega)]
            have := ih2 (i + 1) (by omega) (by omega)
            rw [fa, show min ((frontN m i).getD j 0) (m.getD ((i + 1) * 16 + j) 0) = m.getD ((i + 1) * 16 + j) 0 by omega] at this
            exact this
          · simp only [walk, Nat.reduceLT, Nat.reduceBEq, Nat.reduceAdd, Nat.reduceLeDiff, reduceIte, Int.reduceLT, Int.reduceLE, Int.reduceEq, Int.reduceToNat, Int.reduceBEq, h5, h6, h3, i0, j0, g1, h7]
            rw [wrap64 (by omega) (by omega)]
            have := ih2 (i + 1) (by omega) (by omega)
            rw [fa, show min ((frontN m i).getD j 0) (m.getD ((i + 1) * 16 + j) 0) = (frontN m i).getD j 0 by omega] at this
            exact this
end
end Go.AR
