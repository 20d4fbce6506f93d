import Derived.Test.YtcpflnhmdpfdkaaS02r
set_option linter.all false
/-! Readers that are not there. -/
namespace Go.AR
open Go
section
variable {C : CallRel} {F : Nat → FuncId}
def S_nfine (R : Rel) : Prop := R [.v .nilp] (.val (.bool false)) []
def S_nFail (R : Rel) : Prop := ∀ e, R [.v .nilp, .v (.int .i64 e)] (.val (.tup [])) []
def S_nInt (R : Rel) : Prop := R [.v .nilp] (.val (.int .i64 0)) []
def S_nText (R : Rel) : Prop := R [.v .nilp] (.val (.str [])) []
def S_nMany (R : Rel) : Prop := ∀ m, R [.v .nilp, .v (.int .i64 m)] (.val (.int .i64 0)) []
def S_nFault (R : Rel) : Prop := R [.v .nilp] (.val (.int .i64 1)) []
theorem g_nfine : S_nfine ((c_pack_Reader_fine__nil F).gives C) := by
  refine gives_of rfl ?_
  unfold c_pack_Reader_fine__nil
  simp only [walk, Nat.reduceLT, Nat.reduceBEq, Nat.reduceAdd, Nat.reduceLeDiff, reduceIte, Int.reduceLT, Int.reduceLE, Int.reduceEq, Int.reduceToNat, Int.reduceBEq]
theorem g_nFail (hF : S_nfine (C (F n_pack_Reader_fine))) : S_nFail ((c_pack_Reader_Fail__nil F).gives C) := by
  intro e
  refine gives_of rfl ?_
  unfold c_pack_Reader_Fail__nil
  simp only [walk, Nat.reduceLT, Nat.reduceBEq, Nat.reduceAdd, Nat.reduceLeDiff, reduceIte, Int.reduceLT, Int.reduceLE, Int.reduceEq, Int.reduceToNat, Int.reduceBEq]
  refine callWp_of hF ?_
  simp only [walk, Nat.reduceLT, Nat.reduceBEq, Nat.reduceAdd, Nat.reduceLeDiff, reduceIte, Int.reduceLT, Int.reduceLE, Int.reduceEq, Int.reduceToNat, Int.reduceBEq]
theorem g_nFault : S_nFault ((c_pack_Reader_Fault__nil F).gives C) := by
  refine gives_of rfl ?_
  unfold c_pack_Reader_Fault__nil
  simp only [walk, Nat.reduceLT, Nat.reduceBEq, Nat.reduceAdd, Nat.reduceLeDiff, reduceIte, Int.reduceLT, Int.reduceLE, Int.reduceEq, Int.reduceToNat, Int.reduceBEq]
theorem g_nLeft (hF : S_nfine (C (F n_pack_Reader_fine))) : S_nInt ((c_pack_Reader_Left__nil F).gives C) := by
  refine gives_of rfl ?_
  unfold c_pack_Reader_Left__nil
  simp only [walk, Nat.reduceLT, Nat.reduceBEq, Nat.reduceAdd, Nat.reduceLeDiff, reduceIte, Int.reduceLT, Int.reduceLE, Int.reduceEq, Int.reduceToNat, Int.reduceBEq]
  refine callWp_of hF ?_
  simp only [walk, Nat.reduceLT, Nat.reduceBEq, Nat.reduceAdd, Nat.reduceLeDiff, reduceIte, Int.reduceLT, Int.reduceLE, Int.reduceEq, Int.reduceToNat, Int.reduceBEq]
theorem g_nEnd (hL : S_nInt (C (F n_pack_Reader_Left))) (hU : S_nFault (C (F n_pack_Reader_Fault))) : S_nFault ((c_pack_Reader_End__nil F).gives C) := by
  refine gives_of rfl ?_
  unfold c_pack_Reader_End__nil
  simp only [walk, Nat.reduceLT, Nat.reduceBEq, Nat.reduceAdd, Nat.reduceLeDiff, reduceIte, Int.reduceLT, Int.reduceLE, Int.reduceEq, Int.reduceToNat, Int.reduceBEq]
  refine callWp_of hL ?_
  have d0 : decide ((0 : Int) > 0) = false := rfl
  simp only [walk, Nat.reduceLT, Nat.reduceBEq, Nat.reduceAdd, Nat.reduceLeDiff, reduceIte, Int.reduceLT, Int.reduceLE, Int.reduceEq, Int.reduceToNat, Int.reduceBEq, d0]
  refine callWp_of hU ?_
  simp only [walk, Nat.reduceLT, Nat.reduceBEq, Nat.reduceAdd, Nat.reduceLeDiff, reduceIte, Int.reduceLT, Int.reduceLE, Int.reduceEq, Int.reduceToNat, Int.reduceBEq]
theorem g_nInt (hF : S_nfine (C (F n_pack_Reader_fine))) : S_nInt ((c_pack_Reader_Int__nil F).gives C) := by
  refine gives_of rfl ?_
  unfold c_pack_Reader_Int__nil
  simp only [walk, Nat.reduceLT, Nat.reduceBEq, Nat.reduceAdd, Nat.reduceLeDiff, reduceIte, Int.reduceLT, Int.reduceLE, Int.reduceEq, Int.reduceToNat, Int.reduceBEq]
  refine awp_loop_ind (X := Unit) (fun x => ⟨[(0, .val .nilp), (2, .val (.int .i64 0)), (3, .val (.int .i64 0)), (4, .val (.int .i64 0))], []⟩) (fun _ => True) (fun _ => 0) () trivial rfl ?_
  rintro R ⟨⟩ _ _
  simp only [walk, Nat.reduceLT, Nat.reduceBEq, Nat.reduceAdd, Nat.reduceLeDiff, reduceIte, Int.reduceLT, Int.reduceLE, Int.reduceEq, Int.reduceToNat, Int.reduceBEq]
  refine callWp_of hF ?_
  simp only [walk, Nat.reduceLT, Nat.reduceBEq, Nat.reduceAdd, Nat.reduceLeDiff, reduceIte, Int.reduceLT, Int.reduceLE, Int.reduceEq, Int.reduceToNat, Int.reduceBEq]
theorem g_nText (hI : S_nInt (C (F n_pack_Reader_Int))) (hF : S_nfine (C (F n_pack_Reader_fine))) : S_nText ((c_pack_Reader_Text__nil F).gives C) := by
  refine gives_of rfl ?_
  unfold c_pack_Reader_Text__nil
  simp only [walk, Nat.reduceLT, Nat.reduceBEq, Nat.reduceAdd, Nat.reduceLeDiff, reduceIte, Int.reduceLT, Int.reduceLE, Int.reduceEq, Int.reduceToNat, Int.reduceBEq]
  refine callWp_of hI ?_
  simp only [walk, Nat.reduceLT, Nat.reduceBEq, Nat.reduceAdd, Nat.reduceLeDiff, reduceIte, Int.reduceLT, Int.reduceLE, Int.reduceEq, Int.reduceToNat, Int.reduceBEq]
  refine callWp_of hF ?_
  simp only [walk, Nat.reduceLT, Nat.reduceBEq, Nat.reduceAdd, Nat.reduceLeDiff, reduceIte, Int.reduceLT, Int.reduceLE, Int.reduceEq, Int.reduceToNat, Int.reduceBEq]
  refine callWp_of hF ?_
  simp only [walk, Nat.reduceLT, Nat.reduceBEq, Nat.reduceAdd, Nat.reduceLeDiff, reduceIte, Int.reduceLT, Int.reduceLE, Int.reduceEq, Int.reduceToNat, Int.reduceBEq]
theorem g_nMany (hI : S_nInt (C (F n_pack_Reader_Int))) (hF : S_nfine (C (F n_pack_Reader_fine))) : S_nMany ((c_pack_Reader_Many__nil F).gives C) := by
  intro m
  refine gives_of rfl ?_
  unfold c_pack_Reader_Many__nil
  simp only [walk, Nat.reduceLT, Nat.reduceBEq, Nat.reduceAdd, Nat.reduceLeDiff, reduceIte, Int.reduceLT, Int.reduceLE, Int.reduceEq, Int.reduceToNat, Int.reduceBEq]
  refine callWp_of hI ?_
  simp only [walk, Nat.reduceLT, Nat.reduceBEq, Nat.reduceAdd, Nat.reduceLeDiff, reduceIte, Int.reduceLT, Int.reduceLE, Int.reduceEq, Int.reduceToNat, Int.reduceBEq]
  refine callWp_of hF ?_
  simp only [walk, Nat.reduceLT, Nat.reduceBEq, Nat.reduceAdd, Nat.reduceLeDiff, reduceIte, Int.reduceLT, Int.reduceLE, Int.reduceEq, Int.reduceToNat, Int.reduceBEq]
end
end Go.AR
