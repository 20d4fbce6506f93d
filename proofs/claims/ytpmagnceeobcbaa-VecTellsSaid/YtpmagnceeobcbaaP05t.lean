import Derived.Test.YtpmagnceeobcbaaS05t
set_option linter.all false
/-! VecTells. -/
namespace Go.AR
open Go
section
variable {C : CallRel} {F : Nat → FuncId}
def S_lawVecTells (R : Rel) : Prop := ∀ (a b : List Int) (r n : Int), a.length = 16 → b.length = 16 → allI a → R [.v (vecP a), .v (vecP b), .v (.agg [.int .i64 r, .int .i64 n])] (.val (.bool true)) []
theorem eqb_self {b : Bool} : (b == b) = true := by cases b <;> rfl
theorem eqi_self {x : Int} : (x == x) = true := by simp
theorem eqs_self {l : List UInt8} : (l == l) = true := by simp
theorem eql_self {l : List Int} : (l == l) = true := by simp
set_option maxHeartbeats 4000000 in
theorem g_VecTells (hA : S_yes (C (F n_plaw05_awake))) (h1 : S_vec_Right (C (F n_vec_Right))) (h2 : S_vec_Right (C (F n_pref05_Right))) (h3 : S_vec_Has (C (F n_vec_Has))) (h4 : S_vec_Has (C (F n_pref05_Has))) (h5 : S_vec_op (C (F n_vec_Join)) max) (h6 : S_vec_op (C (F n_pref05_Join)) max) (h7 : S_vec_op (C (F n_vec_Meet)) min) (h8 : S_vec_op (C (F n_pref05_Meet)) min) (h9 : S_vec_Within (C (F n_vec_Within))) (h10 : S_vec_Within (C (F n_pref05_Within))) (h11 : S_vec_Code (C (F n_vec_Code))) (h12 : S_vec_Code (C (F n_pref05_Code))) (h13 : S_vec_Count (C (F n_vec_Count))) (h14 : S_vec_Count (C (F n_pref05_Count))) : S_lawVecTells ((c_plaw05_VecTells F).gives C) := by
  intro a b r n ha hb hi
  refine gives_of rfl ?_
  unfold c_plaw05_VecTells
  have z1 : (List.zipWith max a b).length = 16 := by simp [ha, hb]
  have z2 : (List.zipWith min a b).length = 16 := by simp [ha, hb]
  simp only [walk, Nat.reduceLT, Nat.reduceBEq, Nat.reduceAdd, Nat.reduceLeDiff, reduceIte, Int.reduceLT, Int.reduceLE, Int.reduceEq, Int.reduceToNat, Int.reduceBEq, ha, hb]
  refine callWp_of (h1 a ha) ?_
  simp only [walk, Nat.reduceLT, Nat.reduceBEq, Nat.reduceAdd, Nat.reduceLeDiff, reduceIte, Int.reduceLT, Int.reduceLE, Int.reduceEq, Int.reduceToNat, Int.reduceBEq, ha, hb]
  refine callWp_of (h2 a ha) ?_
  simp only [walk, Nat.reduceLT, Nat.reduceBEq, Nat.reduceAdd, Nat.reduceLeDiff, reduceIte, Int.reduceLT, Int.reduceLE, Int.reduceEq, Int.reduceToNat, Int.reduceBEq, ha, hb, eqb_self]
  refine callWp_of (h3 a r n ha) ?_
  simp only [walk, Nat.reduceLT, Nat.reduceBEq, Nat.reduceAdd, Nat.reduceLeDiff, reduceIte, Int.reduceLT, Int.reduceLE, Int.reduceEq, Int.reduceToNat, Int.reduceBEq, ha, hb]
  refine callWp_of (h4 a r n ha) ?_
  simp only [walk, Nat.reduceLT, Nat.reduceBEq, Nat.reduceAdd, Nat.reduceLeDiff, reduceIte, Int.reduceLT, Int.reduceLE, Int.reduceEq, Int.reduceToNat, Int.reduceBEq, ha, hb, eqb_self]
  refine callWp_of (h5 a b ha hb) ?_
  simp only [walk, Nat.reduceLT, Nat.reduceBEq, Nat.reduceAdd, Nat.reduceLeDiff, reduceIte, Int.reduceLT, Int.reduceLE, Int.reduceEq, Int.reduceToNat, Int.reduceBEq, ha, hb]
  refine callWp_of (h6 a b ha hb) ?_
  simp only [walk, Nat.reduceLT, Nat.reduceBEq, Nat.reduceAdd, Nat.reduceLeDiff, reduceIte, Int.reduceLT, Int.reduceLE, Int.reduceEq, Int.reduceToNat, Int.reduceBEq, ha, hb, eql_self]
  refine callWp_of (h7 a b ha hb) ?_
  simp only [walk, Nat.reduceLT, Nat.reduceBEq, Nat.reduceAdd, Nat.reduceLeDiff, reduceIte, Int.reduceLT, Int.reduceLE, Int.reduceEq, Int.reduceToNat, Int.reduceBEq, ha, hb]
  refine callWp_of (h8 a b ha hb) ?_
  simp only [walk, Nat.reduceLT, Nat.reduceBEq, Nat.reduceAdd, Nat.reduceLeDiff, reduceIte, Int.reduceLT, Int.reduceLE, Int.reduceEq, Int.reduceToNat, Int.reduceBEq, ha, hb, eql_self]
  refine callWp_of (h9 a b ha hb) ?_
  simp only [walk, Nat.reduceLT, Nat.reduceBEq, Nat.reduceAdd, Nat.reduceLeDiff, reduceIte, Int.reduceLT, Int.reduceLE, Int.reduceEq, Int.reduceToNat, Int.reduceBEq, ha, hb]
  refine callWp_of (h10 a b ha hb) ?_
  simp only [walk, Nat.reduceLT, Nat.reduceBEq, Nat.reduceAdd, Nat.reduceLeDiff, reduceIte, Int.reduceLT, Int.reduceLE, Int.reduceEq, Int.reduceToNat, Int.reduceBEq, ha, hb, eqb_self]
  refine callWp_of (h11 a ha hi) ?_
  simp only [walk, Nat.reduceLT, Nat.reduceBEq, Nat.reduceAdd, Nat.reduceLeDiff, reduceIte, Int.reduceLT, Int.reduceLE, Int.reduceEq, Int.reduceToNat, Int.reduceBEq, ha, hb]
  refine callWp_of (h12 a ha hi) ?_
  simp only [walk, Nat.reduceLT, Nat.reduceBEq, Nat.reduceAdd, Nat.reduceLeDiff, reduceIte, Int.reduceLT, Int.reduceLE, Int.reduceEq, Int.reduceToNat, Int.reduceBEq, ha, hb, eqs_self]
  refine callWp_of (h2 a ha) ?_
  cases hr : rightV a
  · simp only [walk, Nat.reduceLT, Nat.reduceBEq, Nat.reduceAdd, Nat.reduceLeDiff, reduceIte, Int.reduceLT, Int.reduceLE, Int.reduceEq, Int.reduceToNat, Int.reduceBEq]
    refine callWp_of hA ?_
    simp only [walk, Nat.reduceLT, Nat.reduceBEq, Nat.reduceAdd, Nat.reduceLeDiff, reduceIte, Int.reduceLT, Int.reduceLE, Int.reduceEq, Int.reduceToNat, Int.reduceBEq]
  · simp only [walk, Nat.reduceLT, Nat.reduceBEq, Nat.reduceAdd, Nat.reduceLeDiff, reduceIte, Int.reduceLT, Int.reduceLE, Int.reduceEq, Int.reduceToNat, Int.reduceBEq, ha]
    refine callWp_of (h13 a ha hr) ?_
    simp only [walk, Nat.reduceLT, Nat.reduceBEq, Nat.reduceAdd, Nat.reduceLeDiff, reduceIte, Int.reduceLT, Int.reduceLE, Int.reduceEq, Int.reduceToNat, Int.reduceBEq, ha]
    refine callWp_of (h14 a ha hr) ?_
    simp only [walk, Nat.reduceLT, Nat.reduceBEq, Nat.reduceAdd, Nat.reduceLeDiff, reduceIte, Int.reduceLT, Int.reduceLE, Int.reduceEq, Int.reduceToNat, Int.reduceBEq, eqi_self]
    refine callWp_of hA ?_
    simp only [walk, Nat.reduceLT, Nat.reduceBEq, Nat.reduceAdd, Nat.reduceLeDiff, reduceIte, Int.reduceLT, Int.reduceLE, Int.reduceEq, Int.reduceToNat, Int.reduceBEq]
end
end Go.AR
