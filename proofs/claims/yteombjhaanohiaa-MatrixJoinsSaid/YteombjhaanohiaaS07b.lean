import Derived.Test.YteombjhaanohiaaP07
import Derived.Test.YteombjhaanohiaaSp05c
set_option linter.all false
/-! Matrices: how far a replica is behind; the document's functions. -/
namespace Go.AR
open Go
/-- What any of the first rows has. -/
def allM (m : List Int) : Nat → List Int
  | 0 => zero16
  | k + 1 => List.zipWith max (allM m k) (rowOf m k)
theorem allM_len {m : List Int} (hm : m.length = 256) : ∀ k, k ≤ 16 → (allM m k).length = 16
  | 0, _ => rfl
  | k + 1, h => by simp [allM, allM_len hm k (by omega), rowOf_len hm (i := k) (by omega)]
def rightM (m : List Int) : Bool := (List.range 16).all fun i => rightV (rowOf m i)
theorem rightM_at {m : List Int} (h : rightM m = true) {i : Nat} (hi : i < 16) : rightV (rowOf m i) = true := by
  unfold rightM at h
  rw [List.all_eq_true] at h
  exact h i (by simpa using hi)
theorem right_of {v : List Int} (hv : v.length = 16) (h : ∀ j, j < 16 → 0 ≤ v.getD j 0 ∧ v.getD j 0 ≤ 1048576) : rightV v = true := rightV_of hv fun j hj => okN_iff.2 (h j hj)
theorem zero16_getD {j : Nat} : zero16.getD j 0 = 0 := by
  simp only [zero16, List.getD_eq_getElem?_getD, List.getElem?_replicate]
  split <;> rfl
theorem allM_right {m : List Int} (hm : m.length = 256) (hr : rightM m = true) : ∀ k, k ≤ 16 → rightV (allM m k) = true
  | 0, _ => right_of rfl fun j _ => by show 0 ≤ zero16.getD j 0 ∧ zero16.getD j 0 ≤ 1048576; rw [zero16_getD]; omega
  | k + 1, h => by
    have ih := allM_right hm hr k (by omega)
    have l1 := allM_len hm k (by omega); have l2 := rowOf_len hm (i := k) (by omega)
    refine right_of (allM_len hm (k + 1) h) fun j hj => ?_
    have a1 := right_at l1 ih hj; have a2 := right_at l2 (rightM_at hr (i := k) (by omega)) hj
    rw [allM, getD_zw (by omega) (by omega)]
    omega
/-- By how much the one is more than the other, in the first numbers. -/
def overTo (a b : List Int) : Nat → Int
  | 0 => 0
  | j + 1 => overTo a b j + (if a.getD j 0 > b.getD j 0 then a.getD j 0 - b.getD j 0 else 0)
theorem over_sum {a b : List Int} (ha : a.length = 16) (hb : b.length = 16) : ∀ j, j ≤ 16 → sumTo a j - sumTo (List.zipWith min a b) j = overTo a b j
  | 0, _ => rfl
  | j + 1, h => by
    have ih := over_sum ha hb j (by omega)
    simp only [sumTo, overTo]
    rw [getD_zw (by omega) (by omega)]
    split <;> omega
def behind (m : List Int) (n i : Int) : Int := if n < 1 ∨ n > 16 ∨ isRep i = false then 0 else overTo (allM m n.toNat) (rowOf m i.toNat) 16
section
variable {C : CallRel} {F : Nat → FuncId}
def S_mright (R : Rel) : Prop := ∀ m : List Int, m.length = 256 → R [.v (vecP m)] (.val (.bool (rightM m))) []
def S_mbehind (R : Rel) : Prop := ∀ (m : List Int) (n i : Int), m.length = 256 → rightM m = true → R [.v (vecP m), .v (.int .i64 n), .v (.int .i64 i)] (.val (.int .i64 (behind m n i))) []
theorem g_right (hR : S_vec_Right (C (F n_pref05_Right))) : S_mright ((c_plaw07_right F).gives C) := by
  intro m hm
  refine gives_of rfl ?_
  unfold c_plaw07_right
  simp only [walk, Nat.reduceLT, Nat.reduceBEq, Nat.reduceAdd, Nat.reduceLeDiff, reduceIte, Int.reduceLT, Int.reduceLE, Int.reduceEq, Int.reduceToNat, Int.reduceBEq]
  refine awp_loop_ind (X := Nat) (fun i => ⟨[(0, .val (vecP m)), (1, .lp 1 0), (2, .val (.bool false)), (3, .val (.int .i64 i))], [(1, .cells ((m.map (.int .i64)).map .val))]⟩)
    (fun i => i ≤ 16 ∧ ∀ j, j < i → rightV (rowOf m j) = true) (fun i => 16 - i) 0 ⟨by omega, by intro j hj; omega⟩ rfl ?_
  rintro R i ⟨hi, hj⟩ ih
  simp only [walk, Nat.reduceLT, Nat.reduceBEq, Nat.reduceAdd, Nat.reduceLeDiff, reduceIte, Int.reduceLT, Int.reduceLE, Int.reduceEq, Int.reduceToNat, Int.reduceBEq]
  by_cases h : i = 16
  · have h1 : ¬ ((i : Int) < 16) := by omega
    have e : rightM m = true := by
      unfold rightM; rw [List.all_eq_true]; intro j h'; exact hj j (by simp at h'; omega)
    simp only [h1, e, walk, Nat.reduceLT, Nat.reduceBEq, Nat.reduceAdd, Nat.reduceLeDiff, reduceIte, Int.reduceLT, Int.reduceLE, Int.reduceEq, Int.reduceToNat, Int.reduceBEq]
  · have h1 : ((i : Int) < 16) := by omega
    have hl := rowOf_len hm (i := i) (by omega)
    simp only [h1, load_row, hl, walk, Nat.reduceLT, Nat.reduceBEq, Nat.reduceAdd, Nat.reduceLeDiff, reduceIte, Int.reduceLT, Int.reduceLE, Int.reduceEq, Int.reduceToNat, Int.reduceBEq]
    refine callWp_of (hR _ hl) ?_
    cases hc : rightV (rowOf m i)
    · have e : rightM m = false := by
        rw [← Bool.not_eq_true]; intro e
        have := rightM_at e (i := i) (by omega)
        rw [hc] at this; cases this
      simp only [e, walk, Nat.reduceLT, Nat.reduceBEq, Nat.reduceAdd, Nat.reduceLeDiff, reduceIte, Int.reduceLT, Int.reduceLE, Int.reduceEq, Int.reduceToNat, Int.reduceBEq]
    · simp only [walk, Nat.reduceLT, Nat.reduceBEq, Nat.reduceAdd, Nat.reduceLeDiff, reduceIte, Int.reduceLT, Int.reduceLE, Int.reduceEq, Int.reduceToNat, Int.reduceBEq]
      rw [wrap64 (by omega) (by omega)]
      refine ih (i + 1) ⟨by omega, fun j hj' => ?_⟩ (by omega)
      by_cases hji : j = i
      · subst hji; exact hc
      · exact hj j (by omega)
theorem g_Behind (hR : S_replica (C (F n_matrix_replica))) (hJ : S_vec_op (C (F n_vec_Join)) max) (hM : S_vec_op (C (F n_vec_Meet)) min) (hC : S_vec_Count (C (F n_vec_Count))) : S_mbehind ((c_matrix_Matrix_Behind F).gives C) := by
  intro m n i hm hr
  refine gives_of rfl ?_
  unfold c_matrix_Matrix_Behind
  simp only [walk, Nat.reduceLT, Nat.reduceBEq, Nat.reduceAdd, Nat.reduceLeDiff, reduceIte, Int.reduceLT, Int.reduceLE, Int.reduceEq, Int.reduceToNat, Int.reduceBEq]
  by_cases h1 : n < 1
  · have e : behind m n i = 0 := by unfold behind; rw [if_pos (.inl h1)]
    simp only [walk, Nat.reduceLT, Nat.reduceBEq, Nat.reduceAdd, Nat.reduceLeDiff, reduceIte, Int.reduceLT, Int.reduceLE, Int.reduceEq, Int.reduceToNat, Int.reduceBEq, h1, e]
  · by_cases h2 : n > 16
    · have e : behind m n i = 0 := by unfold behind; rw [if_pos (.inr (.inl h2))]
      simp only [walk, Nat.reduceLT, Nat.reduceBEq, Nat.reduceAdd, Nat.reduceLeDiff, reduceIte, Int.reduceLT, Int.reduceLE, Int.reduceEq, Int.reduceToNat, Int.reduceBEq, h1, h2, e]
    · simp only [walk, Nat.reduceLT, Nat.reduceBEq, Nat.reduceAdd, Nat.reduceLeDiff, reduceIte, Int.reduceLT, Int.reduceLE, Int.reduceEq, Int.reduceToNat, Int.reduceBEq, h1, h2]
      refine callWp_of (hR i) ?_
      cases hi : isRep i
      · have e : behind m n i = 0 := by unfold behind; rw [if_pos (.inr (.inr hi))]
        simp only [walk, Nat.reduceLT, Nat.reduceBEq, Nat.reduceAdd, Nat.reduceLeDiff, reduceIte, Int.reduceLT, Int.reduceLE, Int.reduceEq, Int.reduceToNat, Int.reduceBEq, e]
      · obtain ⟨i0, i1⟩ := isRep_iff.1 hi
        have e : behind m n i = overTo (allM m n.toNat) (rowOf m i.toNat) 16 := by unfold behind; rw [if_neg (by rw [hi]; simp; omega)]
        have h3 : 0 ≤ n := by omega
        have h4 : n ≤ 16 := by omega
        simp only [walk, Nat.reduceLT, Nat.reduceBEq, Nat.reduceAdd, Nat.reduceLeDiff, reduceIte, Int.reduceLT, Int.reduceLE, Int.reduceEq, Int.reduceToNat, Int.reduceBEq, sliceaR, hm, bnds_h, h3, h4]
        have hc : ∀ k, k < n.toNat → (cutA 16 16 (m.map (.int .i64)) 0 n.toNat)[k]? = some ((rowOf m k).map (.int .i64)) := fun k hk => by
          rw [cutA_get (by omega) (by omega), Nat.zero_add, ← List.map_drop, ← List.map_take]; rfl
        have hlen : (cutA 16 16 (m.map (.int .i64)) 0 n.toNat).length = n.toNat := cutA_len (by omega)
        generalize hcut : cutA 16 16 (m.map (.int .i64)) 0 n.toNat = rows at hc hlen
        refine awp_loop_ind (X := Nat) (fun k => ⟨[(0, .val (vecP m)), (1, .val (.int .i64 n)), (2, .val (.int .i64 i)), (3, .lp 3 0), (6, .val (.int .i64 0)), (7, .lp 7 0), (20, .val (.bool false)), (22, .val (.sl 16 rows)), (23, .val (.int .i64 rows.length)), (24, .val (.int .i64 k))],
          [(3, .frozen (m.map (.int .i64))), (7, .cells (((allM m k).map (.int .i64)).map .val))]⟩)
          (fun k => k ≤ rows.length) (fun k => rows.length - k) 0 (by omega) (by simp [allM, zero16]) ?_
        intro R k hk ih
        have hal := allM_len hm k (by omega)
        simp only [walk, Nat.reduceLT, Nat.reduceBEq, Nat.reduceAdd, Nat.reduceLeDiff, reduceIte, Int.reduceLT, Int.reduceLE, Int.reduceEq, Int.reduceToNat, Int.reduceBEq]
        by_cases h5 : (k : Int) < rows.length
        · have hrl := rowOf_len hm (i := k) (by omega)
          simp only [walk, Nat.reduceLT, Nat.reduceBEq, Nat.reduceAdd, Nat.reduceLeDiff, reduceIte, Int.reduceLT, Int.reduceLE, Int.reduceEq, Int.reduceToNat, Int.reduceBEq, h5, hc k (by omega), hrl, hal]
          refine callWp_of (hJ _ _ hal hrl) ?_
          simp only [walk, Nat.reduceLT, Nat.reduceBEq, Nat.reduceAdd, Nat.reduceLeDiff, reduceIte, Int.reduceLT, Int.reduceLE, Int.reduceEq, Int.reduceToNat, Int.reduceBEq, hal, hrl]
          rw [wrap64 (by omega) (by omega)]
          exact ih (k + 1) (by omega) (by omega)
        · have h6 : k = n.toNat := by omega
          have hrl := rowOf_len hm (i := i.toNat) (by omega)
          have rr := allM_right hm hr k (by omega)
          have rz : rightV (List.zipWith min (allM m k) (rowOf m i.toNat)) = true := right_of (by simp [hal, hrl]) fun j hj => by
            have a1 := right_at hal rr hj; have a2 := right_at hrl (rightM_at hr (i := i.toNat) (by omega)) hj
            rw [getD_zw (by omega) (by omega)]; omega
          have hz : (List.zipWith min (allM m k) (rowOf m i.toNat)).length = 16 := by simp [hal, hrl]
          simp only [walk, Nat.reduceLT, Nat.reduceBEq, Nat.reduceAdd, Nat.reduceLeDiff, reduceIte, Int.reduceLT, Int.reduceLE, Int.reduceEq, Int.reduceToNat, Int.reduceBEq, h5, hal]
          refine callWp_of (hC _ hal rr) ?_
          have h7 : i.toNat * 16 + 16 ≤ 256 := by omega
          have hfr : ((m.map (PV.int .i64)).drop (i.toNat * 16)).take 16 = (rowOf m i.toNat).map (.int .i64) := by rw [← List.map_drop, ← List.map_take]; rfl
          simp only [walk, Nat.reduceLT, Nat.reduceBEq, Nat.reduceAdd, Nat.reduceLeDiff, reduceIte, Int.reduceLT, Int.reduceLE, Int.reduceEq, Int.reduceToNat, Int.reduceBEq, i0, i1, h7, hm, hal, hfr]
          refine callWp_of (hM _ _ hal hrl) ?_
          simp only [walk, Nat.reduceLT, Nat.reduceBEq, Nat.reduceAdd, Nat.reduceLeDiff, reduceIte, Int.reduceLT, Int.reduceLE, Int.reduceEq, Int.reduceToNat, Int.reduceBEq]
          refine callWp_of (hC _ hz rz) ?_
          have s1 := sumTo_le hal rr 16 (by omega)
          have s2 := sumTo_le hz rz 16 (by omega)
          have ov := over_sum hal hrl 16 (by omega)
          simp only [walk, Nat.reduceLT, Nat.reduceBEq, Nat.reduceAdd, Nat.reduceLeDiff, reduceIte, Int.reduceLT, Int.reduceLE, Int.reduceEq, Int.reduceToNat, Int.reduceBEq]
          unfold cnt
          rw [wrap64 (by omega) (by omega), ov, e, ← h6]
end
end Go.AR
