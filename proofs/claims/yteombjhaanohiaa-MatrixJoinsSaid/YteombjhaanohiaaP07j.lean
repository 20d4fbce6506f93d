import Derived.Test.YteombjhaanohiaaS07d
set_option linter.all false
/-! MatrixJoins. -/
namespace Go.AR
open Go
section
variable {C : CallRel} {F : Nat → FuncId}
theorem zmax_comm : ∀ a b : List Int, List.zipWith max a b = List.zipWith max b a
  | [], [] => rfl
  | [], _ :: _ => rfl
  | _ :: _, [] => rfl
  | x :: a, y :: b => by simp only [List.zipWith_cons_cons]; rw [zmax_comm a b, show max x y = max y x by omega]
theorem zmax_take : ∀ a b : List Int, a.length = b.length → List.zipWith max (List.zipWith max a b) a = List.zipWith max a b
  | [], [], _ => rfl
  | [], _ :: _, h => by simp at h
  | _ :: _, [], h => by simp at h
  | x :: a, y :: b, h => by
    simp only [List.zipWith_cons_cons]
    rw [zmax_take a b (by simpa using h), show max (max x y) x = max x y by omega]
theorem rowOf_zmax (a b : List Int) (k : Nat) : rowOf (List.zipWith max a b) k = List.zipWith max (rowOf a k) (rowOf b k) := by
  unfold rowOf; rw [List.drop_zipWith, List.take_zipWith]
theorem allM_ge {m : List Int} (hm : m.length = 256) {j : Nat} (hj : j < 16) : ∀ n k, k < n → n ≤ 16 → (rowOf m k).getD j 0 ≤ (allM m n).getD j 0
  | n + 1, k, hk, hn => by
    have l1 := allM_len hm n (by omega)
    have r1 := rowOf_len hm (i := n) (by omega)
    rw [allM, getD_zw (by omega) (by omega)]
    rcases Nat.lt_or_ge k n with h | h
    · have := allM_ge hm hj n k h (by omega); omega
    · rw [show k = n by omega]; omega
theorem over_zero {a b : List Int} : ∀ j, overTo a b j ≥ 0 ∧ (overTo a b j = 0 → ∀ q, q < j → a.getD q 0 ≤ b.getD q 0)
  | 0 => ⟨by simp [overTo], fun _ q h => by omega⟩
  | j + 1 => by
    obtain ⟨h1, h2⟩ := over_zero (a := a) (b := b) j
    simp only [overTo]
    split
    · refine ⟨by omega, fun h q hq => by omega⟩
    · refine ⟨by omega, fun h q hq => ?_⟩
      rcases Nat.lt_or_ge q j with hlt | hge
      · exact h2 (by omega) q hlt
      · rw [show q = j by omega]; omega
theorem behind_none {m : List Int} (hm : m.length = 256) {n i : Int} (h1 : ¬ n < 1) (h2 : ¬ n > 16) (h3 : ¬ i < 0) (h4 : ¬ i ≥ n) (hb : behind m n i = 0) {k : Nat} (hk : (k : Int) < n) : leV (rowOf m k) (rowOf m i.toNat) = true := by
  have hrep : isRep i = true := isRep_iff.2 ⟨by omega, by omega⟩
  unfold behind at hb
  rw [if_neg (by rw [hrep]; simp; omega)] at hb
  rw [leV_iff (rowOf_len hm (by omega)) (rowOf_len hm (by omega))]
  intro j hj
  have a1 := allM_ge hm hj n.toNat k (by omega) (by omega)
  have a2 := (over_zero 16).2 hb j hj
  omega
def S_lawMJoins (R : Rel) : Prop := ∀ (a b : List Int) (n i : Int), a.length = 256 → b.length = 256 → R [.v (vecP a), .v (vecP b), .v (.int .i64 n), .v (.int .i64 i)] (.val (.bool true)) []
theorem eqlI2 {l : List Int} : (l == l) = true := by simp
set_option maxHeartbeats 8000000 in
theorem g_MatrixJoins (hA : S_yes (C (F n_plaw07_awake))) (h1 : S_mjoin (C (F n_matrix_Matrix_Join))) (h3 : S_mrow (C (F n_matrix_Matrix_Row))) (h4 : S_vec_op (C (F n_pref05_Join)) max) (h5 : S_vec_Within (C (F n_pref05_Within))) (h8 : S_mright (C (F n_plaw07_right))) (h9 : S_mbehind (C (F n_matrix_Matrix_Behind))) : S_lawMJoins ((c_plaw07_MatrixJoins F).gives C) := by
  intro a b n i ha hb
  have hz : (List.zipWith max a b).length = 256 := by simp [ha, hb]
  refine gives_of rfl ?_
  unfold c_plaw07_MatrixJoins
  simp only [walk, Nat.reduceLT, Nat.reduceBEq, Nat.reduceAdd, Nat.reduceLeDiff, reduceIte, Int.reduceLT, Int.reduceLE, Int.reduceEq, Int.reduceToNat, Int.reduceBEq, ha, hb]
  refine callWp_of (h1 a b ha hb) ?_
  simp only [walk, Nat.reduceLT, Nat.reduceBEq, Nat.reduceAdd, Nat.reduceLeDiff, reduceIte, Int.reduceLT, Int.reduceLE, Int.reduceEq, Int.reduceToNat, Int.reduceBEq, ha, hb, hz]
  have j2 := h1 b a hb ha
  rw [zmax_comm b a] at j2
  refine callWp_of j2 ?_
  simp only [walk, Nat.reduceLT, Nat.reduceBEq, Nat.reduceAdd, Nat.reduceLeDiff, reduceIte, Int.reduceLT, Int.reduceLE, Int.reduceEq, Int.reduceToNat, Int.reduceBEq, ha, hb, hz, eqlI2]
  have j3 := h1 (List.zipWith max a b) a hz ha
  rw [zmax_take a b (by omega)] at j3
  refine callWp_of j3 ?_
  simp only [walk, Nat.reduceLT, Nat.reduceBEq, Nat.reduceAdd, Nat.reduceLeDiff, reduceIte, Int.reduceLT, Int.reduceLE, Int.reduceEq, Int.reduceToNat, Int.reduceBEq, ha, hb, hz, eqlI2]
  refine awp_loop_ind (X := Nat) (fun k => ⟨[(0, .val (vecP a)), (1, .val (vecP b)), (2, .val (.int .i64 n)), (3, .val (.int .i64 i)), (4, .lp 4 0), (5, .lp 5 0), (8, .val (.bool false)), (9, .lp 9 0), (10, .lp 10 0), (11, .lp 11 0), (12, .val (.int .i64 k)), (30, .val (.bool false))],
      [(4, .cells ((a.map (.int .i64)).map .val)), (5, .cells ((b.map (.int .i64)).map .val)), (9, .cells ((a.map (.int .i64)).map .val)), (10, .cells ((b.map (.int .i64)).map .val)), (11, .cells (((List.zipWith max a b).map (.int .i64)).map .val))]⟩)
      (fun k => k ≤ 16) (fun k => 16 - k) 0 (by omega) rfl ?_
  intro R k hk ih
  simp only [walk, Nat.reduceLT, Nat.reduceBEq, Nat.reduceAdd, Nat.reduceLeDiff, reduceIte, Int.reduceLT, Int.reduceLE, Int.reduceEq, Int.reduceToNat, Int.reduceBEq]
  by_cases h : k = 16
  · have c5 : ¬ ((k : Int) < 16) := by omega
    simp only [c5, walk, Nat.reduceLT, Nat.reduceBEq, Nat.reduceAdd, Nat.reduceLeDiff, reduceIte, Int.reduceLT, Int.reduceLE, Int.reduceEq, Int.reduceToNat, Int.reduceBEq, ha]
    refine callWp_of (h8 a ha) ?_
    cases hr : rightM a
    · simp only [walk, Nat.reduceLT, Nat.reduceBEq, Nat.reduceAdd, Nat.reduceLeDiff, reduceIte, Int.reduceLT, Int.reduceLE, Int.reduceEq, Int.reduceToNat, Int.reduceBEq]
      refine callWp_of hA ?_
      simp only [walk, Nat.reduceLT, Nat.reduceBEq, Nat.reduceAdd, Nat.reduceLeDiff, reduceIte, Int.reduceLT, Int.reduceLE, Int.reduceEq, Int.reduceToNat, Int.reduceBEq]
    by_cases c1 : n < 1
    · simp only [walk, Nat.reduceLT, Nat.reduceBEq, Nat.reduceAdd, Nat.reduceLeDiff, reduceIte, Int.reduceLT, Int.reduceLE, Int.reduceEq, Int.reduceToNat, Int.reduceBEq, c1]
      refine callWp_of hA ?_
      simp only [walk, Nat.reduceLT, Nat.reduceBEq, Nat.reduceAdd, Nat.reduceLeDiff, reduceIte, Int.reduceLT, Int.reduceLE, Int.reduceEq, Int.reduceToNat, Int.reduceBEq]
    by_cases c2 : n > 16
    · simp only [walk, Nat.reduceLT, Nat.reduceBEq, Nat.reduceAdd, Nat.reduceLeDiff, reduceIte, Int.reduceLT, Int.reduceLE, Int.reduceEq, Int.reduceToNat, Int.reduceBEq, c1, c2]
      refine callWp_of hA ?_
      simp only [walk, Nat.reduceLT, Nat.reduceBEq, Nat.reduceAdd, Nat.reduceLeDiff, reduceIte, Int.reduceLT, Int.reduceLE, Int.reduceEq, Int.reduceToNat, Int.reduceBEq]
    by_cases c3 : i < 0
    · simp only [walk, Nat.reduceLT, Nat.reduceBEq, Nat.reduceAdd, Nat.reduceLeDiff, reduceIte, Int.reduceLT, Int.reduceLE, Int.reduceEq, Int.reduceToNat, Int.reduceBEq, c1, c2, c3]
      refine callWp_of hA ?_
      simp only [walk, Nat.reduceLT, Nat.reduceBEq, Nat.reduceAdd, Nat.reduceLeDiff, reduceIte, Int.reduceLT, Int.reduceLE, Int.reduceEq, Int.reduceToNat, Int.reduceBEq]
    by_cases c4 : i ≥ n
    · simp only [walk, Nat.reduceLT, Nat.reduceBEq, Nat.reduceAdd, Nat.reduceLeDiff, reduceIte, Int.reduceLT, Int.reduceLE, Int.reduceEq, Int.reduceToNat, Int.reduceBEq, c1, c2, c3, c4]
      refine callWp_of hA ?_
      simp only [walk, Nat.reduceLT, Nat.reduceBEq, Nat.reduceAdd, Nat.reduceLeDiff, reduceIte, Int.reduceLT, Int.reduceLE, Int.reduceEq, Int.reduceToNat, Int.reduceBEq]
    simp only [walk, Nat.reduceLT, Nat.reduceBEq, Nat.reduceAdd, Nat.reduceLeDiff, reduceIte, Int.reduceLT, Int.reduceLE, Int.reduceEq, Int.reduceToNat, Int.reduceBEq, c1, c2, c3, c4, ha]
    refine callWp_of (h9 a n i ha hr) ?_
    by_cases c6 : behind a n i = 0
    · have e0 : (behind a n i != 0) = false := by rw [c6]; rfl
      simp only [walk, Nat.reduceLT, Nat.reduceBEq, Nat.reduceAdd, Nat.reduceLeDiff, reduceIte, Int.reduceLT, Int.reduceLE, Int.reduceEq, Int.reduceToNat, Int.reduceBEq, e0]
      refine awp_loop_ind (X := Nat) (fun q => ⟨[(0, .val (vecP a)), (1, .val (vecP b)), (2, .val (.int .i64 n)), (3, .val (.int .i64 i)), (4, .lp 4 0), (5, .lp 5 0), (8, .val (.bool false)), (9, .lp 9 0), (10, .lp 10 0), (11, .lp 11 0), (12, .val (.int .i64 k)), (13, .val (.int .i64 q)), (30, .val (.bool false)), (32, .val (.bool false)), (72, .val (.bool false))],
          [(4, .cells ((a.map (.int .i64)).map .val)), (5, .cells ((b.map (.int .i64)).map .val)), (9, .cells ((a.map (.int .i64)).map .val)), (10, .cells ((b.map (.int .i64)).map .val)), (11, .cells (((List.zipWith max a b).map (.int .i64)).map .val))]⟩)
          (fun q => q ≤ n.toNat) (fun q => n.toNat - q) 0 (by omega) rfl ?_
      intro R2 q hq ih2
      simp only [walk, Nat.reduceLT, Nat.reduceBEq, Nat.reduceAdd, Nat.reduceLeDiff, reduceIte, Int.reduceLT, Int.reduceLE, Int.reduceEq, Int.reduceToNat, Int.reduceBEq]
      by_cases c7 : (q : Int) < n
      · have q0 : (0 : Int) ≤ q := by omega
        have q16 : (q : Int) < 16 := by omega
        have i0 : (0 : Int) ≤ i := by omega
        have i16 : i < 16 := by omega
        have r1 := rowOf_len ha (i := q) (by omega)
        have r2 := rowOf_len ha (i := i.toNat) (by omega)
        have w := behind_none ha c1 c2 c3 c4 c6 c7
        have w' : (List.zipWith min (rowOf a q) (rowOf a i.toNat) == rowOf a q) = true := w
        simp only [walk, Nat.reduceLT, Nat.reduceBEq, Nat.reduceAdd, Nat.reduceLeDiff, reduceIte, Int.reduceLT, Int.reduceLE, Int.reduceEq, Int.reduceToNat, Int.reduceBEq, c7, q0, q16, i0, i16, load_row, r1, r2]
        refine callWp_of (h5 _ _ r1 r2) ?_
        simp only [walk, Nat.reduceLT, Nat.reduceBEq, Nat.reduceAdd, Nat.reduceLeDiff, reduceIte, Int.reduceLT, Int.reduceLE, Int.reduceEq, Int.reduceToNat, Int.reduceBEq, w']
        rw [wrap64 (by omega) (by omega)]
        exact ih2 (q + 1) (by omega) (by omega)
      · simp only [walk, Nat.reduceLT, Nat.reduceBEq, Nat.reduceAdd, Nat.reduceLeDiff, reduceIte, Int.reduceLT, Int.reduceLE, Int.reduceEq, Int.reduceToNat, Int.reduceBEq, c7]
        refine callWp_of hA ?_
        simp only [walk, Nat.reduceLT, Nat.reduceBEq, Nat.reduceAdd, Nat.reduceLeDiff, reduceIte, Int.reduceLT, Int.reduceLE, Int.reduceEq, Int.reduceToNat, Int.reduceBEq]
    · have e0 : (behind a n i != 0) = true := by simp [c6]
      simp only [walk, Nat.reduceLT, Nat.reduceBEq, Nat.reduceAdd, Nat.reduceLeDiff, reduceIte, Int.reduceLT, Int.reduceLE, Int.reduceEq, Int.reduceToNat, Int.reduceBEq, e0]
      refine callWp_of hA ?_
      simp only [walk, Nat.reduceLT, Nat.reduceBEq, Nat.reduceAdd, Nat.reduceLeDiff, reduceIte, Int.reduceLT, Int.reduceLE, Int.reduceEq, Int.reduceToNat, Int.reduceBEq]
  · have c5 : ((k : Int) < 16) := by omega
    have k0 : (0 : Int) ≤ k := by omega
    have r1 := rowOf_len ha (i := k) (by omega)
    have r2 := rowOf_len hb (i := k) (by omega)
    have hrep : isRep k = true := isRep_iff.2 ⟨by omega, by omega⟩
    have rz : (List.zipWith max (rowOf a k) (rowOf b k)).length = 16 := by simp [r1, r2]
    have h3k := h3 (List.zipWith max a b) k hz
    rw [hrep, if_pos rfl, Int.toNat_natCast, rowOf_zmax] at h3k
    simp only [c5, k0, walk, Nat.reduceLT, Nat.reduceBEq, Nat.reduceAdd, Nat.reduceLeDiff, reduceIte, Int.reduceLT, Int.reduceLE, Int.reduceEq, Int.reduceToNat, Int.reduceBEq, hz]
    refine callWp_of h3k ?_
    simp only [walk, Nat.reduceLT, Nat.reduceBEq, Nat.reduceAdd, Nat.reduceLeDiff, reduceIte, Int.reduceLT, Int.reduceLE, Int.reduceEq, Int.reduceToNat, Int.reduceBEq, c5, k0, load_row, r1, r2]
    refine callWp_of (h4 _ _ r1 r2) ?_
    simp only [walk, Nat.reduceLT, Nat.reduceBEq, Nat.reduceAdd, Nat.reduceLeDiff, reduceIte, Int.reduceLT, Int.reduceLE, Int.reduceEq, Int.reduceToNat, Int.reduceBEq, r1, r2, rz, eqlI2]
    rw [wrap64 (by omega) (by omega)]
    exact ih (k + 1) (by omega) (by omega)
end
end Go.AR
