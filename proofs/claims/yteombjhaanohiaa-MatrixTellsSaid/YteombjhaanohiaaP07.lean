import Derived.Test.YteombjhaanohiaaS07
import Derived.Test.YteombjhaanohiaaSp05
set_option linter.all false
/-! Matrices: plain facts, and the laws. -/
namespace Go.AR
open Go
theorem rowOf_getD {m : List Int} {k j : Nat} (hj : j < 16) : (rowOf m k).getD j 0 = m.getD (k * 16 + j) 0 := by
  simp only [rowOf, List.getD_eq_getElem?_getD, List.getElem?_take, hj, if_true, List.getElem?_drop]
theorem learn_get {m v : List Int} {i : Int} (hm : m.length = 256) (hv : v.length = 16) {p : Nat} (hp : p < 256) : m.getD p 0 ≤ (learn m i v).getD p 0 := by
  unfold learn
  split
  · rename_i h
    obtain ⟨h0, h1⟩ := isRep_iff.1 h
    have hl := rowOf_len hm (i := i.toNat) (by omega)
    have hz : (List.zipWith max (rowOf m i.toNat) v).length = 16 := by simp [hl, hv]
    have ht : (m.take (i.toNat * 16)).length = i.toNat * 16 := by simp only [List.length_take, hm]; omega
    simp only [List.getD_eq_getElem?_getD]
    by_cases h2 : p < i.toNat * 16
    · rw [List.append_assoc, List.getElem?_append_left (by omega), List.getElem?_take, if_pos h2]; exact Int.le_refl _
    · by_cases h3 : p < i.toNat * 16 + 16
      · rw [List.append_assoc, List.getElem?_append_right (by omega), List.getElem?_append_left (by omega), ht]
        have := getD_zw (g := max) (a := rowOf m i.toNat) (b := v) (i := p - i.toNat * 16) (by omega) (by omega)
        rw [List.getD_eq_getElem?_getD, rowOf_getD (by omega), show i.toNat * 16 + (p - i.toNat * 16) = p by omega, List.getD_eq_getElem?_getD] at this
        rw [this]
        omega
      · rw [List.getElem?_append_right (by rw [List.length_append]; omega), List.length_append, ht, hz, List.getElem?_drop, show i.toNat * 16 + 16 + (p - (i.toNat * 16 + 16)) = p by omega]
        exact Int.le_refl _
  · exact Int.le_refl _
theorem frontN_mono {m y : List Int} (hm : m.length = 256) (hy : y.length = 256) (h : ∀ p, p < 256 → m.getD p 0 ≤ y.getD p 0) : ∀ k, k < 16 → ∀ j, j < 16 → (frontN m k).getD j 0 ≤ (frontN y k).getD j 0
  | 0, _, j, hj => by
    show (rowOf m 0).getD j 0 ≤ (rowOf y 0).getD j 0
    rw [rowOf_getD hj, rowOf_getD hj]; exact h _ (by omega)
  | k + 1, hk, j, hj => by
    have ih := frontN_mono hm hy h k (by omega) j hj
    have l1 := frontN_len hm k (by omega); have l2 := frontN_len hy k (by omega)
    have r1 := rowOf_len hm (i := 1 + k) (by omega); have r2 := rowOf_len hy (i := 1 + k) (by omega)
    rw [frontN_succ, frontN_succ, getD_zw (by omega) (by omega), getD_zw (by omega) (by omega), rowOf_getD hj, rowOf_getD hj]
    have := h ((1 + k) * 16 + j) (by omega)
    omega
theorem front_mono {m y : List Int} (hm : m.length = 256) (hy : y.length = 256) (h : ∀ p, p < 256 → m.getD p 0 ≤ y.getD p 0) (n : Int) : leV (front m n) (front y n) = true := by
  rw [leV_iff (front_len hm n) (front_len hy n)]
  intro j hj
  unfold front
  split
  · exact Int.le_refl _
  · exact frontN_mono hm hy h (n.toNat - 1) (by omega) j hj
theorem front_less {m : List Int} (hm : m.length = 256) {n : Int} (h1 : ¬ n < 1) (h2 : ¬ n > 15) : leV (front m (n + 1)) (front m n) = true := by
  rw [leV_iff (front_len hm _) (front_len hm _)]
  intro j hj
  unfold front
  rw [if_neg (by omega), if_neg (by omega)]
  show (frontN m ((n + 1).toNat - 1)).getD j 0 ≤ (frontN m (n.toNat - 1)).getD j 0
  rw [show (n + 1).toNat - 1 = (n.toNat - 1) + 1 by omega, frontN_succ]
  have l1 := frontN_len hm (n.toNat - 1) (by omega)
  have r1 := rowOf_len hm (i := 1 + (n.toNat - 1)) (by omega)
  rw [getD_zw (by omega) (by omega)]
  omega
theorem has_mono {a b : List Int} (ha : a.length = 16) (hb : b.length = 16) (h : leV a b = true) (r k : Int) (hh : hasB a r k = true) : hasB b r k = true := by
  unfold hasB at *
  rw [Bool.and_eq_true] at *
  obtain ⟨hd, hk⟩ := hh
  refine ⟨hd, ?_⟩
  obtain ⟨h1, h2, _⟩ := dotB_iff.1 hd
  have := (leV_iff ha hb).1 h r.toNat (by omega)
  simp only [decide_eq_true_eq] at *
  omega
section
variable {C : CallRel} {F : Nat → FuncId}
def S_lawRises (R : Rel) : Prop := ∀ (m : List Int) (i : Int) (v : List Int) (n r k : Int), m.length = 256 → v.length = 16 → R [.v (vecP m), .v (.int .i64 i), .v (vecP v), .v (.int .i64 n), .v (.agg [.int .i64 r, .int .i64 k])] (.val (.bool true)) []
set_option maxHeartbeats 4000000 in
theorem g_MatrixRises (hA : S_yes (C (F n_plaw07_awake))) (hL : S_mlearn (C (F n_matrix_Matrix_Learn))) (hF : S_mfront (C (F n_matrix_Matrix_Frontier))) (hS : S_mstable (C (F n_matrix_Matrix_Stable))) (hW : S_vec_Within (C (F n_pref05_Within))) : S_lawRises ((c_plaw07_MatrixRises F).gives C) := by
  intro m i v n r k hm hv
  have hy := learn_len (i := i) hm hv
  refine gives_of rfl ?_
  unfold c_plaw07_MatrixRises
  simp only [walk, Nat.reduceLT, Nat.reduceBEq, Nat.reduceAdd, Nat.reduceLeDiff, reduceIte, Int.reduceLT, Int.reduceLE, Int.reduceEq, Int.reduceToNat, Int.reduceBEq, hm, hv]
  have hy' : ((learn m i v).map (PV.int .i64)).length = 256 := by simp [hy]
  have w1 : (List.zipWith min (front m n) (front (learn m i v) n) == front m n) = true := front_mono hm hy (fun p hp => learn_get hm hv hp) n
  have st : hasB (front m n) r k = true → hasB (front (learn m i v) n) r k = true := has_mono (front_len hm n) (front_len hy n) w1 r k
  refine callWp_of (hL m i v hm hv) ?_
  simp only [walk, Nat.reduceLT, Nat.reduceBEq, Nat.reduceAdd, Nat.reduceLeDiff, reduceIte, Int.reduceLT, Int.reduceLE, Int.reduceEq, Int.reduceToNat, Int.reduceBEq, hm, hv, hy]
  refine callWp_of (hF m n hm) ?_
  simp only [walk, Nat.reduceLT, Nat.reduceBEq, Nat.reduceAdd, Nat.reduceLeDiff, reduceIte, Int.reduceLT, Int.reduceLE, Int.reduceEq, Int.reduceToNat, Int.reduceBEq, hm, hv, hy]
  refine callWp_of (hF _ n hy) ?_
  simp only [walk, Nat.reduceLT, Nat.reduceBEq, Nat.reduceAdd, Nat.reduceLeDiff, reduceIte, Int.reduceLT, Int.reduceLE, Int.reduceEq, Int.reduceToNat, Int.reduceBEq, hm, hv, hy]
  refine callWp_of (hW _ _ (front_len hm n) (front_len hy n)) ?_
  simp only [walk, Nat.reduceLT, Nat.reduceBEq, Nat.reduceAdd, Nat.reduceLeDiff, reduceIte, Int.reduceLT, Int.reduceLE, Int.reduceEq, Int.reduceToNat, Int.reduceBEq, hm, hv, hy, w1]
  refine callWp_of (hS m n r k hm) ?_
  cases hb : hasB (front m n) r k
  · simp only [walk, Nat.reduceLT, Nat.reduceBEq, Nat.reduceAdd, Nat.reduceLeDiff, reduceIte, Int.reduceLT, Int.reduceLE, Int.reduceEq, Int.reduceToNat, Int.reduceBEq, hm, hv, hy]
    by_cases h1 : n < 1
    · simp only [walk, Nat.reduceLT, Nat.reduceBEq, Nat.reduceAdd, Nat.reduceLeDiff, reduceIte, Int.reduceLT, Int.reduceLE, Int.reduceEq, Int.reduceToNat, Int.reduceBEq, hm, hv, hy, h1]
      refine callWp_of hA ?_
      simp only [walk, Nat.reduceLT, Nat.reduceBEq, Nat.reduceAdd, Nat.reduceLeDiff, reduceIte, Int.reduceLT, Int.reduceLE, Int.reduceEq, Int.reduceToNat, Int.reduceBEq]
    · by_cases h2 : n > 15
      · simp only [walk, Nat.reduceLT, Nat.reduceBEq, Nat.reduceAdd, Nat.reduceLeDiff, reduceIte, Int.reduceLT, Int.reduceLE, Int.reduceEq, Int.reduceToNat, Int.reduceBEq, hm, hv, hy, h1, h2]
        refine callWp_of hA ?_
        simp only [walk, Nat.reduceLT, Nat.reduceBEq, Nat.reduceAdd, Nat.reduceLeDiff, reduceIte, Int.reduceLT, Int.reduceLE, Int.reduceEq, Int.reduceToNat, Int.reduceBEq]
      · have h3 : hasB (front m (n + 1)) r k = false := by
          rw [← Bool.not_eq_true]
          intro e
          have := has_mono (front_len hm _) (front_len hm _) (front_less hm h1 h2) r k e
          rw [hb] at this; cases this
        have h4 : IntKind.i64.wrap (n + 1) = n + 1 := wrap64 (by omega) (by omega)
        simp only [walk, Nat.reduceLT, Nat.reduceBEq, Nat.reduceAdd, Nat.reduceLeDiff, reduceIte, Int.reduceLT, Int.reduceLE, Int.reduceEq, Int.reduceToNat, Int.reduceBEq, hm, hv, hy, h1, h2, h4]
        refine callWp_of (hS m (n + 1) r k hm) ?_
        simp only [walk, Nat.reduceLT, Nat.reduceBEq, Nat.reduceAdd, Nat.reduceLeDiff, reduceIte, Int.reduceLT, Int.reduceLE, Int.reduceEq, Int.reduceToNat, Int.reduceBEq, hm, h3]
        refine callWp_of hA ?_
        simp only [walk, Nat.reduceLT, Nat.reduceBEq, Nat.reduceAdd, Nat.reduceLeDiff, reduceIte, Int.reduceLT, Int.reduceLE, Int.reduceEq, Int.reduceToNat, Int.reduceBEq]
  · simp only [walk, Nat.reduceLT, Nat.reduceBEq, Nat.reduceAdd, Nat.reduceLeDiff, reduceIte, Int.reduceLT, Int.reduceLE, Int.reduceEq, Int.reduceToNat, Int.reduceBEq, hm, hv, hy]
    refine callWp_of (hS _ n r k hy) ?_
    rw [st hb]
    simp only [walk, Nat.reduceLT, Nat.reduceBEq, Nat.reduceAdd, Nat.reduceLeDiff, reduceIte, Int.reduceLT, Int.reduceLE, Int.reduceEq, Int.reduceToNat, Int.reduceBEq, hm, hv, hy]
    by_cases h1 : n < 1
    · simp only [walk, Nat.reduceLT, Nat.reduceBEq, Nat.reduceAdd, Nat.reduceLeDiff, reduceIte, Int.reduceLT, Int.reduceLE, Int.reduceEq, Int.reduceToNat, Int.reduceBEq, hm, hv, hy, h1]
      refine callWp_of hA ?_
      simp only [walk, Nat.reduceLT, Nat.reduceBEq, Nat.reduceAdd, Nat.reduceLeDiff, reduceIte, Int.reduceLT, Int.reduceLE, Int.reduceEq, Int.reduceToNat, Int.reduceBEq]
    · by_cases h2 : n > 15
      · simp only [walk, Nat.reduceLT, Nat.reduceBEq, Nat.reduceAdd, Nat.reduceLeDiff, reduceIte, Int.reduceLT, Int.reduceLE, Int.reduceEq, Int.reduceToNat, Int.reduceBEq, hm, hv, hy, h1, h2]
        refine callWp_of hA ?_
        simp only [walk, Nat.reduceLT, Nat.reduceBEq, Nat.reduceAdd, Nat.reduceLeDiff, reduceIte, Int.reduceLT, Int.reduceLE, Int.reduceEq, Int.reduceToNat, Int.reduceBEq]
      · have h4 : IntKind.i64.wrap (n + 1) = n + 1 := wrap64 (by omega) (by omega)
        simp only [walk, Nat.reduceLT, Nat.reduceBEq, Nat.reduceAdd, Nat.reduceLeDiff, reduceIte, Int.reduceLT, Int.reduceLE, Int.reduceEq, Int.reduceToNat, Int.reduceBEq, hm, hv, hy, h1, h2, h4]
        refine callWp_of (hS m (n + 1) r k hm) ?_
        cases hc : hasB (front m (n + 1)) r k
        · simp only [walk, Nat.reduceLT, Nat.reduceBEq, Nat.reduceAdd, Nat.reduceLeDiff, reduceIte, Int.reduceLT, Int.reduceLE, Int.reduceEq, Int.reduceToNat, Int.reduceBEq, hm]
          refine callWp_of hA ?_
          simp only [walk, Nat.reduceLT, Nat.reduceBEq, Nat.reduceAdd, Nat.reduceLeDiff, reduceIte, Int.reduceLT, Int.reduceLE, Int.reduceEq, Int.reduceToNat, Int.reduceBEq]
        · simp only [walk, Nat.reduceLT, Nat.reduceBEq, Nat.reduceAdd, Nat.reduceLeDiff, reduceIte, Int.reduceLT, Int.reduceLE, Int.reduceEq, Int.reduceToNat, Int.reduceBEq, hm]
          refine callWp_of (hS m n r k hm) ?_
          simp only [walk, Nat.reduceLT, Nat.reduceBEq, Nat.reduceAdd, Nat.reduceLeDiff, reduceIte, Int.reduceLT, Int.reduceLE, Int.reduceEq, Int.reduceToNat, Int.reduceBEq, hm, hb]
          refine callWp_of hA ?_
          simp only [walk, Nat.reduceLT, Nat.reduceBEq, Nat.reduceAdd, Nat.reduceLeDiff, reduceIte, Int.reduceLT, Int.reduceLE, Int.reduceEq, Int.reduceToNat, Int.reduceBEq]
theorem g_law07_awake (hL : S_mlearn (C (F n_matrix_Matrix_Learn))) (hF : S_mfront (C (F n_matrix_Matrix_Frontier))) (hS : S_mstable (C (F n_matrix_Matrix_Stable))) : S_yes ((c_plaw07_awake F).gives C) := by
  refine gives_of rfl ?_
  unfold c_plaw07_awake
  simp only [walk, Nat.reduceLT, Nat.reduceBEq, Nat.reduceAdd, Nat.reduceLeDiff, reduceIte, Int.reduceLT, Int.reduceLE, Int.reduceEq, Int.reduceToNat, Int.reduceBEq]
  have l0 : (List.replicate 256 (0 : Int)).length = 256 := List.length_replicate
  have v1 := hL (List.replicate 256 0) 0 [2, 1, 0, 0, 0, 0, 0, 0, 0, 0, 0, 0, 0, 0, 0, 0] l0 rfl
  rw [vecP, List.map_replicate] at v1
  refine callWp_of v1 ?_
  simp only [walk, Nat.reduceLT, Nat.reduceBEq, Nat.reduceAdd, Nat.reduceLeDiff, reduceIte, Int.reduceLT, Int.reduceLE, Int.reduceEq, Int.reduceToNat, Int.reduceBEq]
  have l1 := learn_len (m := List.replicate 256 0) (v := [2, 1, 0, 0, 0, 0, 0, 0, 0, 0, 0, 0, 0, 0, 0, 0]) (i := 0) l0 rfl
  have l2 := learn_len (m := learn (List.replicate 256 0) 0 [2, 1, 0, 0, 0, 0, 0, 0, 0, 0, 0, 0, 0, 0, 0, 0]) (v := [1, 3, 0, 0, 0, 0, 0, 0, 0, 0, 0, 0, 0, 0, 0, 0]) (i := 1) l1 rfl
  refine callWp_of (hL _ 1 [1, 3, 0, 0, 0, 0, 0, 0, 0, 0, 0, 0, 0, 0, 0, 0] l1 rfl) ?_
  have f1 : front (learn (learn (List.replicate 256 0) 0 [2, 1, 0, 0, 0, 0, 0, 0, 0, 0, 0, 0, 0, 0, 0, 0]) 1 [1, 3, 0, 0, 0, 0, 0, 0, 0, 0, 0, 0, 0, 0, 0, 0]) 2 = [1, 1, 0, 0, 0, 0, 0, 0, 0, 0, 0, 0, 0, 0, 0, 0] := by decide +kernel
  have f2 : hasB (front (learn (learn (List.replicate 256 0) 0 [2, 1, 0, 0, 0, 0, 0, 0, 0, 0, 0, 0, 0, 0, 0, 0]) 1 [1, 3, 0, 0, 0, 0, 0, 0, 0, 0, 0, 0, 0, 0, 0, 0]) 2) 1 1 = true := by rw [f1]; rfl
  have f3 : hasB (front (learn (learn (List.replicate 256 0) 0 [2, 1, 0, 0, 0, 0, 0, 0, 0, 0, 0, 0, 0, 0, 0, 0]) 1 [1, 3, 0, 0, 0, 0, 0, 0, 0, 0, 0, 0, 0, 0, 0, 0]) 3) 1 1 = false := by decide +kernel
  generalize learn (learn (List.replicate 256 0) 0 [2, 1, 0, 0, 0, 0, 0, 0, 0, 0, 0, 0, 0, 0, 0, 0]) 1 [1, 3, 0, 0, 0, 0, 0, 0, 0, 0, 0, 0, 0, 0, 0, 0] = M at *
  simp only [walk, Nat.reduceLT, Nat.reduceBEq, Nat.reduceAdd, Nat.reduceLeDiff, reduceIte, Int.reduceLT, Int.reduceLE, Int.reduceEq, Int.reduceToNat, Int.reduceBEq, l2]
  refine callWp_of (hF M 2 l2) ?_
  rw [f1, vecP]
  simp only [walk, Nat.reduceLT, Nat.reduceBEq, Nat.reduceAdd, Nat.reduceLeDiff, reduceIte, Int.reduceLT, Int.reduceLE, Int.reduceEq, Int.reduceToNat, Int.reduceBEq, l2]
  generalize he : eqCells _ _ _ = q
  obtain rfl : q = some true := he.symm.trans rfl
  simp only [walk, Nat.reduceLT, Nat.reduceBEq, Nat.reduceAdd, Nat.reduceLeDiff, reduceIte, Int.reduceLT, Int.reduceLE, Int.reduceEq, Int.reduceToNat, Int.reduceBEq, l2]
  refine callWp_of (hS M 2 1 1 l2) ?_
  simp only [walk, Nat.reduceLT, Nat.reduceBEq, Nat.reduceAdd, Nat.reduceLeDiff, reduceIte, Int.reduceLT, Int.reduceLE, Int.reduceEq, Int.reduceToNat, Int.reduceBEq, l2, f2]
  refine callWp_of (hS M 3 1 1 l2) ?_
  simp only [walk, Nat.reduceLT, Nat.reduceBEq, Nat.reduceAdd, Nat.reduceLeDiff, reduceIte, Int.reduceLT, Int.reduceLE, Int.reduceEq, Int.reduceToNat, Int.reduceBEq, l2, f3]
end
end Go.AR
