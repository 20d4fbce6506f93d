import Derived.Test.YteombjhaanohiaaK07
import Derived.Test.YteombjhaanohiaaSvec
set_option linter.all false
/-! Matrices: what the functions give. -/
namespace Go.AR
open Go
section
variable {C : CallRel} {F : Nat → FuncId}
def rowOf (m : List Int) (i : Nat) : List Int := (m.drop (i * 16)).take 16
def isRep (i : Int) : Bool := decide (0 ≤ i) && decide (i < 16)
def learn (m : List Int) (i : Int) (v : List Int) : List Int := if isRep i = true then m.take (i.toNat * 16) ++ List.zipWith max (rowOf m i.toNat) v ++ m.drop (i.toNat * 16 + 16) else m
def zero16 : List Int := List.replicate 16 0
def front (m : List Int) (n : Int) : List Int := if n < 1 ∨ n > 16 then zero16 else (List.range' 1 (n.toNat - 1)).foldl (fun a k => List.zipWith min a (rowOf m k)) (rowOf m 0)
theorem rowOf_len {m : List Int} (hm : m.length = 256) {i : Nat} (hi : i < 16) : (rowOf m i).length = 16 := by
  simp only [rowOf, List.length_take, List.length_drop, hm]; omega
def S_replica (R : Rel) : Prop := ∀ i : Int, R [.v (.int .i64 i)] (.val (.bool (isRep i))) []
def S_mlearn (R : Rel) : Prop := ∀ (m : List Int) (i : Int) (v : List Int), m.length = 256 → v.length = 16 → R [.v (vecP m), .v (.int .i64 i), .v (vecP v)] (.val (vecP (learn m i v))) []
def S_mrow (R : Rel) : Prop := ∀ (m : List Int) (i : Int), m.length = 256 → R [.v (vecP m), .v (.int .i64 i)] (.val (vecP (if isRep i = true then rowOf m i.toNat else zero16))) []
def S_mfront (R : Rel) : Prop := ∀ (m : List Int) (n : Int), m.length = 256 → R [.v (vecP m), .v (.int .i64 n)] (.val (vecP (front m n))) []
def S_mstable (R : Rel) : Prop := ∀ (m : List Int) (n : Int) (r k : Int), m.length = 256 → R [.v (vecP m), .v (.int .i64 n), .v (.agg [.int .i64 r, .int .i64 k])] (.val (.bool (hasB (front m n) r k))) []
theorem isRep_iff {i : Int} : isRep i = true ↔ 0 ≤ i ∧ i < 16 := by simp [isRep]
theorem g_replica : S_replica ((c_matrix_replica F).gives C) := by
  intro i
  refine gives_of rfl ?_
  unfold c_matrix_replica isRep
  simp only [walk, Nat.reduceLT, Nat.reduceBEq, Nat.reduceAdd, Nat.reduceLeDiff, reduceIte, Int.reduceLT, Int.reduceLE, Int.reduceEq, Int.reduceToNat, Int.reduceBEq]
  by_cases h : i ≥ 0
  · have h' : 0 ≤ i := h
    simp only [walk, Nat.reduceLT, Nat.reduceBEq, Nat.reduceAdd, Nat.reduceLeDiff, reduceIte, Int.reduceLT, Int.reduceLE, Int.reduceEq, Int.reduceToNat, Int.reduceBEq, h, h']
  · have h' : ¬ 0 ≤ i := h
    simp only [walk, Nat.reduceLT, Nat.reduceBEq, Nat.reduceAdd, Nat.reduceLeDiff, reduceIte, Int.reduceLT, Int.reduceLE, Int.reduceEq, Int.reduceToNat, Int.reduceBEq, h, h']
/-- A row of a matrix, as it is loaded. -/
theorem load_row {m : List Int} {i : Nat} : pvs ((((m.map (.int .i64)).map TV.val).drop (i * 16)).take 16) = some ((rowOf m i).map (.int .i64)) := by
  rw [← List.map_drop, ← List.map_take, ← List.map_drop, ← List.map_take, pvs_vals]; rfl
theorem load_row0 {m : List Int} : pvs (((m.map (.int .i64)).map TV.val).take 16) = some ((rowOf m 0).map (.int .i64)) := by
  rw [← List.map_take, ← List.map_take, pvs_vals]; simp [rowOf]
theorem layT_eq : ∀ (ps : List PV) (ts : List TV) (o : Nat), o + ps.length ≤ ts.length → layT ts o ps = ts.take o ++ ps.map .val ++ ts.drop (o + ps.length)
  | [], ts, o, _ => by simp [layT]
  | p :: ps, ts, o, h => by
    simp only [List.length_cons] at h
    rw [layT, layT_eq ps (ts.set o (.val p)) (o + 1) (by simp only [List.length_set]; omega)]
    have e1 : (ts.set o (.val p)).take (o + 1) = ts.take o ++ [.val p] := by
      rw [List.take_add_one, List.take_set_of_le (by omega)]
      simp [List.getElem?_set, show o < ts.length by omega]
    have e2 : (ts.set o (.val p)).drop (o + 1 + ps.length) = ts.drop (o + (ps.length + 1)) := by
      rw [List.drop_set_of_lt (by omega)]; congr 1; omega
    rw [e1, e2]
    simp
theorem lay_row {m a : List Int} {o : Nat} (h : o + a.length ≤ m.length) : layT ((m.map (.int .i64)).map TV.val) o (a.map (.int .i64)) = ((m.take o ++ a ++ m.drop (o + a.length)).map (.int .i64)).map .val := by
  rw [layT_eq _ _ _ (by simpa using h)]
  simp [List.map_take, List.map_drop]
theorem g_Row (hR : S_replica (C (F n_matrix_replica))) : S_mrow ((c_matrix_Matrix_Row F).gives C) := by
  intro m i hm
  refine gives_of rfl ?_
  unfold c_matrix_Matrix_Row
  simp only [walk, Nat.reduceLT, Nat.reduceBEq, Nat.reduceAdd, Nat.reduceLeDiff, reduceIte, Int.reduceLT, Int.reduceLE, Int.reduceEq, Int.reduceToNat, Int.reduceBEq]
  refine callWp_of (hR i) ?_
  cases h : isRep i
  · simp only [walk, Nat.reduceLT, Nat.reduceBEq, Nat.reduceAdd, Nat.reduceLeDiff, reduceIte, Int.reduceLT, Int.reduceLE, Int.reduceEq, Int.reduceToNat, Int.reduceBEq]
    simp [vecP, zero16]
  · obtain ⟨h0, h1⟩ := isRep_iff.1 h
    have hl := rowOf_len hm (i := i.toNat) (by omega)
    simp only [walk, Nat.reduceLT, Nat.reduceBEq, Nat.reduceAdd, Nat.reduceLeDiff, reduceIte, Int.reduceLT, Int.reduceLE, Int.reduceEq, Int.reduceToNat, Int.reduceBEq, h0, h1, load_row, hl]
theorem learn_len {m v : List Int} {i : Int} (hm : m.length = 256) (hv : v.length = 16) : (learn m i v).length = 256 := by
  unfold learn
  split
  · rename_i h
    obtain ⟨h0, h1⟩ := isRep_iff.1 h
    have hl := rowOf_len hm (i := i.toNat) (by omega)
    simp only [List.length_append, List.length_take, List.length_drop, List.length_zipWith, hl, hv, hm]; omega
  · exact hm
theorem g_Learn (hR : S_replica (C (F n_matrix_replica))) (hJ : S_vec_op (C (F n_vec_Join)) max) : S_mlearn ((c_matrix_Matrix_Learn F).gives C) := by
  intro m i v hm hv
  have hlen := learn_len (i := i) hm hv
  refine gives_of rfl ?_
  unfold c_matrix_Matrix_Learn
  simp only [walk, Nat.reduceLT, Nat.reduceBEq, Nat.reduceAdd, Nat.reduceLeDiff, reduceIte, Int.reduceLT, Int.reduceLE, Int.reduceEq, Int.reduceToNat, Int.reduceBEq]
  refine callWp_of (hR i) ?_
  cases h : isRep i
  · have e : learn m i v = m := by unfold learn; rw [h]; rfl
    simp only [walk, Nat.reduceLT, Nat.reduceBEq, Nat.reduceAdd, Nat.reduceLeDiff, reduceIte, Int.reduceLT, Int.reduceLE, Int.reduceEq, Int.reduceToNat, Int.reduceBEq, hm, e]
  · obtain ⟨h0, h1⟩ := isRep_iff.1 h
    have hl := rowOf_len hm (i := i.toNat) (by omega)
    have e : learn m i v = m.take (i.toNat * 16) ++ List.zipWith max (rowOf m i.toNat) v ++ m.drop (i.toNat * 16 + 16) := by unfold learn; rw [h]; rfl
    simp only [walk, Nat.reduceLT, Nat.reduceBEq, Nat.reduceAdd, Nat.reduceLeDiff, reduceIte, Int.reduceLT, Int.reduceLE, Int.reduceEq, Int.reduceToNat, Int.reduceBEq, h0, h1, load_row, hl, hv]
    refine callWp_of (hJ _ v hl hv) ?_
    have h2 : i.toNat * 16 + 16 ≤ 256 := by omega
    have h3 : (List.zipWith max (rowOf m i.toNat) v).length = 16 := by simp [hl, hv]
    rw [e] at hlen
    simp only [walk, Nat.reduceLT, Nat.reduceBEq, Nat.reduceAdd, Nat.reduceLeDiff, reduceIte, Int.reduceLT, Int.reduceLE, Int.reduceEq, Int.reduceToNat, Int.reduceBEq, h0, h1, h2, hl, hv, hm]
    rw [lay_row (by rw [h3]; omega), h3, ← e]
    rw [← e] at hlen
    simp only [walk, Nat.reduceLT, Nat.reduceBEq, Nat.reduceAdd, Nat.reduceLeDiff, reduceIte, Int.reduceLT, Int.reduceLE, Int.reduceEq, Int.reduceToNat, Int.reduceBEq, hlen]
/-- The frontier of the first k + 1 rows. -/
def frontN (m : List Int) (k : Nat) : List Int := (List.range' 1 k).foldl (fun a j => List.zipWith min a (rowOf m j)) (rowOf m 0)
theorem frontN_succ (m : List Int) (k : Nat) : frontN m (k + 1) = List.zipWith min (frontN m k) (rowOf m (1 + k)) := by
  simp [frontN, List.range'_concat]
theorem frontN_len {m : List Int} (hm : m.length = 256) : ∀ k, k < 16 → (frontN m k).length = 16
  | 0, _ => rowOf_len hm (by omega)
  | k + 1, h => by rw [frontN_succ]; simp [frontN_len hm k (by omega), rowOf_len hm (i := 1 + k) (by omega)]
theorem front_len {m : List Int} (hm : m.length = 256) (n : Int) : (front m n).length = 16 := by
  unfold front
  split
  · simp [zero16]
  · exact frontN_len hm (n.toNat - 1) (by omega)
theorem g_Frontier (hM : S_vec_op (C (F n_vec_Meet)) min) : S_mfront ((c_matrix_Matrix_Frontier F).gives C) := by
  intro m n hm
  refine gives_of rfl ?_
  unfold c_matrix_Matrix_Frontier
  simp only [walk, Nat.reduceLT, Nat.reduceBEq, Nat.reduceAdd, Nat.reduceLeDiff, reduceIte, Int.reduceLT, Int.reduceLE, Int.reduceEq, Int.reduceToNat, Int.reduceBEq]
  by_cases h1 : n < 1
  · have e : front m n = zero16 := by unfold front; rw [if_pos (.inl h1)]
    simp only [walk, Nat.reduceLT, Nat.reduceBEq, Nat.reduceAdd, Nat.reduceLeDiff, reduceIte, Int.reduceLT, Int.reduceLE, Int.reduceEq, Int.reduceToNat, Int.reduceBEq, h1, e]
    simp [vecP, zero16]
  · by_cases h2 : n > 16
    · have e : front m n = zero16 := by unfold front; rw [if_pos (.inr h2)]
      simp only [walk, Nat.reduceLT, Nat.reduceBEq, Nat.reduceAdd, Nat.reduceLeDiff, reduceIte, Int.reduceLT, Int.reduceLE, Int.reduceEq, Int.reduceToNat, Int.reduceBEq, h1, h2, e]
      simp [vecP, zero16]
    · have e : front m n = (List.range' 1 (n.toNat - 1)).foldl (fun a k => List.zipWith min a (rowOf m k)) (rowOf m 0) := by unfold front; rw [if_neg (fun h => h.elim h1 h2)]
      have hl0 := rowOf_len hm (i := 0) (by omega)
      have h3 : (1 : Int) ≤ n := by omega
      have h4 : n ≤ 16 := by omega
      simp only [walk, Nat.reduceLT, Nat.reduceBEq, Nat.reduceAdd, Nat.reduceLeDiff, reduceIte, Int.reduceLT, Int.reduceLE, Int.reduceEq, Int.reduceToNat, Int.reduceBEq, h1, h2, load_row, load_row0, hl0, sliceaR, hm, bnds_lh, h3, h4, Nat.reduceMul, Nat.zero_mul]
      have hc : ∀ k, 1 + k < n.toNat → (cutA 16 16 (m.map (.int .i64)) 1 n.toNat)[k]? = some ((rowOf m (1 + k)).map (.int .i64)) := fun k hk => by
        rw [cutA_get (by omega) hk, ← List.map_drop, ← List.map_take]; rfl
      have hlen : (cutA 16 16 (m.map (.int .i64)) 1 n.toNat).length = n.toNat - 1 := cutA_len (by omega)
      generalize hcut : cutA 16 16 (m.map (.int .i64)) 1 n.toNat = rows at hc hlen
      have ff : ∀ k, k + 1 ≤ n.toNat → frontN m k = (List.range' 1 k).foldl (fun a j => List.zipWith min a (rowOf m j)) (rowOf m 0) := fun k _ => rfl
      refine awp_loop_ind (X := Nat) (fun k => ⟨[(0, .val (vecP m)), (1, .val (.int .i64 n)), (2, .lp 2 0), (4, .lp 4 0), (5, .lp 5 0), (13, .val (.bool false)), (18, .val (.sl 16 rows)), (19, .val (.int .i64 rows.length)), (20, .val (.int .i64 k))],
        [(2, .frozen (m.map (.int .i64))), (4, .cells (List.replicate 16 (.val (.int .i64 0)))), (5, .cells (((frontN m k).map (.int .i64)).map .val))]⟩)
        (fun k => k ≤ rows.length) (fun k => rows.length - k) 0 (by omega) rfl ?_
      intro R k hk ih
      have hfl : (frontN m k).length = 16 := frontN_len hm k (by omega)
      simp only [walk, Nat.reduceLT, Nat.reduceBEq, Nat.reduceAdd, Nat.reduceLeDiff, reduceIte, Int.reduceLT, Int.reduceLE, Int.reduceEq, Int.reduceToNat, Int.reduceBEq]
      by_cases h5 : (k : Int) < rows.length
      · have hrl := rowOf_len hm (i := 1 + k) (by omega)
        simp only [walk, Nat.reduceLT, Nat.reduceBEq, Nat.reduceAdd, Nat.reduceLeDiff, reduceIte, Int.reduceLT, Int.reduceLE, Int.reduceEq, Int.reduceToNat, Int.reduceBEq, h5, hc k (by omega), hrl, hfl]
        refine callWp_of (hM _ _ hfl hrl) ?_
        have hz : (List.zipWith min (frontN m k) (rowOf m (1 + k))).length = 16 := by simp [hfl, hrl]
        simp only [walk, Nat.reduceLT, Nat.reduceBEq, Nat.reduceAdd, Nat.reduceLeDiff, reduceIte, Int.reduceLT, Int.reduceLE, Int.reduceEq, Int.reduceToNat, Int.reduceBEq, hfl, hrl]
        rw [wrap64 (by omega) (by omega)]
        have := ih (k + 1) (by omega) (by omega)
        rw [frontN_succ] at this
        exact this
      · have h6 : k = n.toNat - 1 := by omega
        simp only [walk, Nat.reduceLT, Nat.reduceBEq, Nat.reduceAdd, Nat.reduceLeDiff, reduceIte, Int.reduceLT, Int.reduceLE, Int.reduceEq, Int.reduceToNat, Int.reduceBEq, h5, hfl]
        rw [e, ← h6]
        rfl
theorem g_Stable (hF : S_mfront (C (F n_matrix_Matrix_Frontier))) (hH : S_vec_Has (C (F n_vec_Has))) : S_mstable ((c_matrix_Matrix_Stable F).gives C) := by
  intro m n r k hm
  refine gives_of rfl ?_
  unfold c_matrix_Matrix_Stable
  simp only [walk, Nat.reduceLT, Nat.reduceBEq, Nat.reduceAdd, Nat.reduceLeDiff, reduceIte, Int.reduceLT, Int.reduceLE, Int.reduceEq, Int.reduceToNat, Int.reduceBEq, hm]
  refine callWp_of (hF m n hm) ?_
  simp only [walk, Nat.reduceLT, Nat.reduceBEq, Nat.reduceAdd, Nat.reduceLeDiff, reduceIte, Int.reduceLT, Int.reduceLE, Int.reduceEq, Int.reduceToNat, Int.reduceBEq]
  refine callWp_of (hH _ r k (front_len hm n)) ?_
  simp only [walk, Nat.reduceLT, Nat.reduceBEq, Nat.reduceAdd, Nat.reduceLeDiff, reduceIte, Int.reduceLT, Int.reduceLE, Int.reduceEq, Int.reduceToNat, Int.reduceBEq]
end
end Go.AR
