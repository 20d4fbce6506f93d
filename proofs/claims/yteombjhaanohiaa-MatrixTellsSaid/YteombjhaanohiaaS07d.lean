import Derived.Test.YteombjhaanohiaaS07c
set_option linter.all false
/-! The document's Behind; joined matrices. -/
namespace Go.AR
open Go
section
variable {C : CallRel} {F : Nat → FuncId}
theorem allM_at {m : List Int} (hm : m.length = 256) {j : Nat} (hj : j < 16) (k : Nat) (hk : k < 16) : (allM m (k + 1)).getD j 0 = max ((allM m k).getD j 0) (m.getD (k * 16 + j) 0) := by
  have l1 := allM_len hm k (by omega)
  have r1 := rowOf_len hm (i := k) hk
  rw [allM, getD_zw (by omega) (by omega), rowOf_getD hj]
theorem overTo_le {a b : List Int} (ha : a.length = 16) (hb : b.length = 16) (ra : rightV a = true) (rb : rightV b = true) : ∀ j, j ≤ 16 → 0 ≤ overTo a b j ∧ overTo a b j ≤ j * 1048576
  | 0, _ => by simp [overTo]
  | j + 1, h => by
    have ih := overTo_le ha hb ra rb j (by omega)
    have a1 := right_at ha ra (i := j) (by omega); have a2 := right_at hb rb (i := j) (by omega)
    simp only [overTo]
    split <;> omega
theorem g_pref07_Behind : S_mbehind ((c_pref07_Behind F).gives C) := by
  intro m n i hm hr
  refine gives_of rfl ?_
  unfold c_pref07_Behind
  simp only [walk, Nat.reduceLT, Nat.reduceBEq, Nat.reduceAdd, Nat.reduceLeDiff, reduceIte, Int.reduceLT, Int.reduceLE, Int.reduceEq, Int.reduceToNat, Int.reduceBEq]
  by_cases h1 : n < 1
  · have e : behind m n i = 0 := by unfold behind; rw [if_pos (.inl h1)]
    simp only [walk, Nat.reduceLT, Nat.reduceBEq, Nat.reduceAdd, Nat.reduceLeDiff, reduceIte, Int.reduceLT, Int.reduceLE, Int.reduceEq, Int.reduceToNat, Int.reduceBEq, h1, e]
  by_cases h2 : n > 16
  · have e : behind m n i = 0 := by unfold behind; rw [if_pos (.inr (.inl h2))]
    simp only [walk, Nat.reduceLT, Nat.reduceBEq, Nat.reduceAdd, Nat.reduceLeDiff, reduceIte, Int.reduceLT, Int.reduceLE, Int.reduceEq, Int.reduceToNat, Int.reduceBEq, h1, h2, e]
  by_cases h3 : i < 0
  · have e : behind m n i = 0 := by unfold behind; rw [if_pos (.inr (.inr (by rw [← Bool.not_eq_true, isRep_iff]; omega)))]
    simp only [walk, Nat.reduceLT, Nat.reduceBEq, Nat.reduceAdd, Nat.reduceLeDiff, reduceIte, Int.reduceLT, Int.reduceLE, Int.reduceEq, Int.reduceToNat, Int.reduceBEq, h1, h2, h3, e]
  by_cases h4 : i > 15
  · have e : behind m n i = 0 := by unfold behind; rw [if_pos (.inr (.inr (by rw [← Bool.not_eq_true, isRep_iff]; omega)))]
    simp only [walk, Nat.reduceLT, Nat.reduceBEq, Nat.reduceAdd, Nat.reduceLeDiff, reduceIte, Int.reduceLT, Int.reduceLE, Int.reduceEq, Int.reduceToNat, Int.reduceBEq, h1, h2, h3, h4, e]
  obtain ⟨r, rfl⟩ : ∃ r : Nat, i = r := ⟨i.toNat, by omega⟩
  have hrep : isRep r = true := isRep_iff.2 ⟨by omega, by omega⟩
  have e : behind m n r = overTo (allM m n.toNat) (rowOf m r) 16 := by unfold behind; rw [if_neg (by rw [hrep]; simp; omega)]; rfl
  have nN : n = (n.toNat : Int) := by omega
  have hal := allM_len hm n.toNat (by omega)
  have har := allM_right hm hr n.toNat (by omega)
  have hrl := rowOf_len hm (i := r) (by omega)
  have hrr := rightM_at hr (i := r) (by omega)
  simp only [walk, Nat.reduceLT, Nat.reduceBEq, Nat.reduceAdd, Nat.reduceLeDiff, reduceIte, Int.reduceLT, Int.reduceLE, Int.reduceEq, Int.reduceToNat, Int.reduceBEq, h1, h2, h3, h4]
  refine awp_loop_ind (X := Nat) (fun j => ⟨[(0, .val (vecP m)), (1, .val (.int .i64 n)), (2, .val (.int .i64 r)), (3, .lp 3 0), (6, .val (.int .i64 0)), (7, .val (.int .i64 (overTo (allM m n.toNat) (rowOf m r) j))), (8, .val (.int .i64 j)), (24, .val (.bool false))],
      [(3, .cells ((m.map (.int .i64)).map .val))]⟩)
      (fun j => j ≤ 16) (fun j => 16 - j) 0 (by omega) rfl ?_
  intro R j hj ih
  simp only [walk, Nat.reduceLT, Nat.reduceBEq, Nat.reduceAdd, Nat.reduceLeDiff, reduceIte, Int.reduceLT, Int.reduceLE, Int.reduceEq, Int.reduceToNat, Int.reduceBEq]
  by_cases h : j = 16
  · have h5 : ¬ ((j : Int) < 16) := by omega
    subst h
    simp only [h5, walk, Nat.reduceLT, Nat.reduceBEq, Nat.reduceAdd, Nat.reduceLeDiff, reduceIte, Int.reduceLT, Int.reduceLE, Int.reduceEq, Int.reduceToNat, Int.reduceBEq]
    rw [e]
  · have h5 : ((j : Int) < 16) := by omega
    have hj16 : j < 16 := by omega
    have j0 : (0 : Int) ≤ j := by omega
    simp only [h5, walk, Nat.reduceLT, Nat.reduceBEq, Nat.reduceAdd, Nat.reduceLeDiff, reduceIte, Int.reduceLT, Int.reduceLE, Int.reduceEq, Int.reduceToNat, Int.reduceBEq]
    refine awp_loop_ind (X := Nat) (fun k => ⟨[(0, .val (vecP m)), (1, .val (.int .i64 n)), (2, .val (.int .i64 r)), (3, .lp 3 0), (6, .val (.int .i64 0)), (7, .val (.int .i64 (overTo (allM m n.toNat) (rowOf m r) j))), (8, .val (.int .i64 j)), (9, .val (.int .i64 ((allM m k).getD j 0))), (10, .val (.int .i64 k)), (24, .val (.bool false)), (26, .val (.bool true))],
        [(3, .cells ((m.map (.int .i64)).map .val))]⟩)
        (fun k => k ≤ n.toNat) (fun k => n.toNat - k) 0 (by omega) ?_ ?_
    · have e0 : (allM m 0).getD j 0 = 0 := zero16_getD
      simp only [e0]
      rfl
    intro R2 k hk ih2
    simp only [walk, Nat.reduceLT, Nat.reduceBEq, Nat.reduceAdd, Nat.reduceLeDiff, reduceIte, Int.reduceLT, Int.reduceLE, Int.reduceEq, Int.reduceToNat, Int.reduceBEq]
    by_cases h6 : k = n.toNat
    · have h7 : ¬ ((k : Int) < n) := by omega
      subst h6
      have r0 : (0 : Int) ≤ r := by omega
      have r16 : (r : Int) < 16 := by omega
      have g1 := getE (a := m) (i := r * 16 + j) (by omega)
      have ro := overTo_le hal hrl har hrr j (by omega)
      have a1 := right_at hal har (i := j) hj16
      have a2 := right_at hrl hrr (i := j) hj16
      have rg := rowOf_getD (m := m) (k := r) hj16
      by_cases h8 : (allM m n.toNat).getD j 0 > m.getD (r * 16 + j) 0
      · have w1 : IntKind.i64.wrap (overTo (allM m n.toNat) (rowOf m r) j + (allM m n.toNat).getD j 0) = overTo (allM m n.toNat) (rowOf m r) j + (allM m n.toNat).getD j 0 := wrap64 (by omega) (by omega)
        have w2 : IntKind.i64.wrap (overTo (allM m n.toNat) (rowOf m r) j + (allM m n.toNat).getD j 0 - m.getD (r * 16 + j) 0) = overTo (allM m n.toNat) (rowOf m r) j + (allM m n.toNat).getD j 0 - m.getD (r * 16 + j) 0 := wrap64 (by omega) (by omega)
        simp only [walk, Nat.reduceLT, Nat.reduceBEq, Nat.reduceAdd, Nat.reduceLeDiff, reduceIte, Int.reduceLT, Int.reduceLE, Int.reduceEq, Int.reduceToNat, Int.reduceBEq, h7, r0, r16, j0, h5, g1, h8, w1, w2]
        rw [wrap64 (by omega) (by omega)]
        have := ih (j + 1) (by omega) (by omega)
        simp only [overTo] at this
        rw [if_pos (by rw [rg]; exact h8), rg] at this
        rw [show overTo (allM m n.toNat) (rowOf m r) j + (allM m n.toNat).getD j 0 - m.getD (r * 16 + j) 0 = overTo (allM m n.toNat) (rowOf m r) j + ((allM m n.toNat).getD j 0 - m.getD (r * 16 + j) 0) by omega]
        exact this
      · simp only [walk, Nat.reduceLT, Nat.reduceBEq, Nat.reduceAdd, Nat.reduceLeDiff, reduceIte, Int.reduceLT, Int.reduceLE, Int.reduceEq, Int.reduceToNat, Int.reduceBEq, h7, r0, r16, j0, h5, g1, h8]
        rw [wrap64 (by omega) (by omega)]
        have := ih (j + 1) (by omega) (by omega)
        simp only [overTo] at this
        rw [if_neg (by rw [rg]; exact h8), Int.add_zero] at this
        exact this
    · have h7 : ((k : Int) < n) := by omega
      have k16 : (k : Int) < 16 := by omega
      have k0 : (0 : Int) ≤ k := by omega
      have g1 := getE (a := m) (i := k * 16 + j) (by omega)
      have fa := allM_at hm hj16 k (by omega)
      by_cases h8 : m.getD (k * 16 + j) 0 > (allM m k).getD j 0
      · simp only [walk, Nat.reduceLT, Nat.reduceBEq, Nat.reduceAdd, Nat.reduceLeDiff, reduceIte, Int.reduceLT, Int.reduceLE, Int.reduceEq, Int.reduceToNat, Int.reduceBEq, h7, k16, h5, k0, j0, g1, h8]
        rw [wrap64 (by omega) (by omega)]
        have := ih2 (k + 1) (by omega) (by omega)
        rw [fa, show max ((allM m k).getD j 0) (m.getD (k * 16 + j) 0) = m.getD (k * 16 + j) 0 by omega] at this
        exact this
      · simp only [walk, Nat.reduceLT, Nat.reduceBEq, Nat.reduceAdd, Nat.reduceLeDiff, reduceIte, Int.reduceLT, Int.reduceLE, Int.reduceEq, Int.reduceToNat, Int.reduceBEq, h7, k16, h5, k0, j0, g1, h8]
        rw [wrap64 (by omega) (by omega)]
        have := ih2 (k + 1) (by omega) (by omega)
        rw [fa, show max ((allM m k).getD j 0) (m.getD (k * 16 + j) 0) = (allM m k).getD j 0 by omega] at this
        exact this
/-- A matrix of which the first rows are joined. -/
def half (m o : List Int) (k : Nat) : List Int := (List.zipWith max m o).take (k * 16) ++ m.drop (k * 16)
theorem half_len {m o : List Int} (hm : m.length = 256) (ho : o.length = 256) (k : Nat) (hk : k ≤ 16) : (half m o k).length = 256 := by
  simp only [half, List.length_append, List.length_take, List.length_zipWith, List.length_drop, hm, ho]; omega
theorem half_step {m o : List Int} (hm : m.length = 256) (ho : o.length = 256) (k : Nat) (hk : k < 16) : learn (half m o k) k (rowOf o k) = half m o (k + 1) := by
  have hz : ((List.zipWith max m o).take (k * 16)).length = k * 16 := by simp only [List.length_take, List.length_zipWith, hm, ho]; omega
  unfold learn
  rw [if_pos (isRep_iff.2 ⟨by omega, by omega⟩)]
  have e1 : (half m o k).take (k * 16) = (List.zipWith max m o).take (k * 16) := List.take_left' hz
  have e2 : rowOf (half m o k) k = (m.drop (k * 16)).take 16 := by unfold rowOf half; rw [List.drop_left' hz]
  have e3 : (half m o k).drop (k * 16 + 16) = m.drop (k * 16 + 16) := by unfold half; rw [← List.drop_drop, List.drop_left' hz, List.drop_drop]
  have e4 : List.zipWith max ((m.drop (k * 16)).take 16) (rowOf o k) = ((List.zipWith max m o).drop (k * 16)).take 16 := by
    unfold rowOf; rw [← List.take_zipWith, ← List.drop_zipWith]
  simp only [Int.toNat_natCast]
  rw [e1, e2, e3, e4, half, show (k + 1) * 16 = k * 16 + 16 by omega, List.take_add]
def S_mjoin (R : Rel) : Prop := ∀ m o : List Int, m.length = 256 → o.length = 256 → R [.v (vecP m), .v (vecP o)] (.val (vecP (List.zipWith max m o))) []
theorem half_0 (m o : List Int) : half m o 0 = m := by simp [half]
theorem half_16 {m o : List Int} (hm : m.length = 256) (ho : o.length = 256) : half m o 16 = List.zipWith max m o := by
  unfold half
  rw [List.take_of_length_le (by simp [hm, ho]), List.drop_eq_nil_of_le (by omega), List.append_nil]
theorem g_matrix_Join (hL : S_mlearn (C (F n_matrix_Matrix_Learn))) : S_mjoin ((c_matrix_Matrix_Join F).gives C) := by
  intro m o hm ho
  refine gives_of rfl ?_
  unfold c_matrix_Matrix_Join
  simp only [walk, Nat.reduceLT, Nat.reduceBEq, Nat.reduceAdd, Nat.reduceLeDiff, reduceIte, Int.reduceLT, Int.reduceLE, Int.reduceEq, Int.reduceToNat, Int.reduceBEq, hm, ho]
  refine awp_loop_ind (X := Nat) (fun k => ⟨[(0, .val (vecP m)), (1, .val (vecP o)), (2, .lp 2 0), (3, .lp 3 0), (4, .lp 4 0), (7, .val (vecP o)), (8, .val (.int .i64 k))],
      [(2, .cells (((half m o k).map (.int .i64)).map .val)), (3, .cells ((o.map (.int .i64)).map .val)), (4, .cells (List.replicate 256 (.val (.int .i64 0))))]⟩)
      (fun k => k ≤ 16) (fun k => 16 - k) 0 (by omega) (by rw [half_0]; rfl) ?_
  intro R k hk ih
  have hl := half_len hm ho k hk
  simp only [walk, Nat.reduceLT, Nat.reduceBEq, Nat.reduceAdd, Nat.reduceLeDiff, reduceIte, Int.reduceLT, Int.reduceLE, Int.reduceEq, Int.reduceToNat, Int.reduceBEq]
  by_cases h : k = 16
  · have h5 : ¬ ((k : Int) < 16) := by omega
    subst h
    simp only [h5, walk, Nat.reduceLT, Nat.reduceBEq, Nat.reduceAdd, Nat.reduceLeDiff, reduceIte, Int.reduceLT, Int.reduceLE, Int.reduceEq, Int.reduceToNat, Int.reduceBEq, hl]
    rw [half_16 hm ho]
  · have h5 : ((k : Int) < 16) := by omega
    have k0 : (0 : Int) ≤ k := by omega
    have h6 : k * 16 + 16 ≤ 256 := by omega
    have hrl := rowOf_len ho (i := k) (by omega)
    have hfr : ((o.map (PV.int .i64)).drop (k * 16)).take 16 = (rowOf o k).map (.int .i64) := by rw [← List.map_drop, ← List.map_take]; rfl
    have hl2 := half_len hm ho (k + 1) (by omega)
    simp only [h5, k0, h6, walk, Nat.reduceLT, Nat.reduceBEq, Nat.reduceAdd, Nat.reduceLeDiff, reduceIte, Int.reduceLT, Int.reduceLE, Int.reduceEq, Int.reduceToNat, Int.reduceBEq, ho, hl, hfr, hrl]
    refine callWp_of (hL (half m o k) k (rowOf o k) hl hrl) ?_
    rw [half_step hm ho k (by omega)]
    simp only [walk, Nat.reduceLT, Nat.reduceBEq, Nat.reduceAdd, Nat.reduceLeDiff, reduceIte, Int.reduceLT, Int.reduceLE, Int.reduceEq, Int.reduceToNat, Int.reduceBEq, hl, hl2]
    rw [wrap64 (by omega) (by omega)]
    exact ih (k + 1) (by omega) (by omega)
end
end Go.AR
