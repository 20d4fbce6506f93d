import Derived.Test.YtcpflnhmdpfdkaaP21
set_option linter.all false
/-! FrameFinds, and chapter 21's example. -/
namespace Go.AR
open Go
section
variable {C : CallRel} {F : Nat → FuncId}
def S_lawF4 (R : Rel) : Prop := ∀ (l : List (List UInt8)) (s : List UInt8) (a : Int) (x : UInt8), l.length ≤ 9223372036854775807 → R [.v (.sl 1 (tRows l)), .v (.str s), .v (.int .i64 a), .v (.int .u8 x.toNat)] (.val (.bool true)) []
set_option maxHeartbeats 1000000 in
theorem g_FrameFinds (hA : S_yes (C (F n_plaw21_awake))) (h1 : S_joined (C (F n_plaw21_joined))) (h2 : S_fCut (C (F n_frame_Cut))) (h3 : S_fScan (C (F n_frame_Scan))) (h5 : S_fOf (C (F n_frame_Of))) (h6 : S_changed (C (F n_pref01_Changed))) (h7 : S_same (C (F n_pref03_Same))) : S_lawF4 ((c_plaw21_FrameFinds F).gives C) := by
  intro l s a x hl
  refine gives_of rfl ?_
  unfold c_plaw21_FrameFinds
  simp only [walk, Nat.reduceLT, Nat.reduceBEq, Nat.reduceAdd, Nat.reduceLeDiff, reduceIte, Int.reduceLT, Int.reduceLE, Int.reduceEq, Int.reduceToNat, Int.reduceBEq]
  refine callWp_of (h1 l hl) ?_
  cases hj : jOk l
  · simp only [walk, Nat.reduceLT, Nat.reduceBEq, Nat.reduceAdd, Nat.reduceLeDiff, reduceIte, Int.reduceLT, Int.reduceLE, Int.reduceEq, Int.reduceToNat, Int.reduceBEq]
    refine callWp_of hA ?_
    simp only [walk, Nat.reduceLT, Nat.reduceBEq, Nat.reduceAdd, Nat.reduceLeDiff, reduceIte, Int.reduceLT, Int.reduceLE, Int.reduceEq, Int.reduceToNat, Int.reduceBEq]
  obtain ⟨j1, j2⟩ := jOk_iff hj
  have hf := frames_len l j2
  by_cases c1 : (s.length : Int) > 500
  · simp only [walk, Nat.reduceLT, Nat.reduceBEq, Nat.reduceAdd, Nat.reduceLeDiff, reduceIte, Int.reduceLT, Int.reduceLE, Int.reduceEq, Int.reduceToNat, Int.reduceBEq, c1]
    refine callWp_of hA ?_
    simp only [walk, Nat.reduceLT, Nat.reduceBEq, Nat.reduceAdd, Nat.reduceLeDiff, reduceIte, Int.reduceLT, Int.reduceLE, Int.reduceEq, Int.reduceToNat, Int.reduceBEq]
  by_cases c2 : x = 0
  · have e : (((x.toNat : Nat) : Int) == 0) = true := by subst c2; rfl
    simp only [walk, Nat.reduceLT, Nat.reduceBEq, Nat.reduceAdd, Nat.reduceLeDiff, reduceIte, Int.reduceLT, Int.reduceLE, Int.reduceEq, Int.reduceToNat, Int.reduceBEq, c1, e]
    refine callWp_of hA ?_
    simp only [walk, Nat.reduceLT, Nat.reduceBEq, Nat.reduceAdd, Nat.reduceLeDiff, reduceIte, Int.reduceLT, Int.reduceLE, Int.reduceEq, Int.reduceToNat, Int.reduceBEq]
  have e0 : (((x.toNat : Nat) : Int) == 0) = false := by
    rw [← Bool.not_eq_true, beq_iff_eq]
    intro e
    exact c2 (UInt8.toNat_inj.1 (by show x.toNat = 0; omega))
  have hfl := fOf_len s
  have hv := vint_len 10 s.length (by omega)
  have hvp := vint_pos s.length
  simp only [walk, Nat.reduceLT, Nat.reduceBEq, Nat.reduceAdd, Nat.reduceLeDiff, reduceIte, Int.reduceLT, Int.reduceLE, Int.reduceEq, Int.reduceToNat, Int.reduceBEq, c1, e0]
  refine callWp_of (h5 s (by unfold bigLen; omega)) ?_
  have e1 : IntKind.i64.wrap (((fOf s).length : Int) - 4) = (fOf s).length - 4 := wrap64 (by omega) (by omega)
  have e2 : IntKind.i64.wrap (((fOf s).length : Int) - 4 - s.length) = (((vint s.length).length : Nat) : Int) := by rw [wrap64 (by omega) (by omega)]; omega
  by_cases c3 : a < (((vint s.length).length : Nat) : Int)
  · simp only [walk, Nat.reduceLT, Nat.reduceBEq, Nat.reduceAdd, Nat.reduceLeDiff, reduceIte, Int.reduceLT, Int.reduceLE, Int.reduceEq, Int.reduceToNat, Int.reduceBEq, e1, e2, c3]
    refine callWp_of hA ?_
    simp only [walk, Nat.reduceLT, Nat.reduceBEq, Nat.reduceAdd, Nat.reduceLeDiff, reduceIte, Int.reduceLT, Int.reduceLE, Int.reduceEq, Int.reduceToNat, Int.reduceBEq]
  by_cases c4 : a ≥ ((fOf s).length : Int)
  · simp only [walk, Nat.reduceLT, Nat.reduceBEq, Nat.reduceAdd, Nat.reduceLeDiff, reduceIte, Int.reduceLT, Int.reduceLE, Int.reduceEq, Int.reduceToNat, Int.reduceBEq, e1, e2, c3, c4]
    refine callWp_of hA ?_
    simp only [walk, Nat.reduceLT, Nat.reduceBEq, Nat.reduceAdd, Nat.reduceLeDiff, reduceIte, Int.reduceLT, Int.reduceLE, Int.reduceEq, Int.reduceToNat, Int.reduceBEq]
  simp only [walk, Nat.reduceLT, Nat.reduceBEq, Nat.reduceAdd, Nat.reduceLeDiff, reduceIte, Int.reduceLT, Int.reduceLE, Int.reduceEq, Int.reduceToNat, Int.reduceBEq, e1, e2, c3, c4]
  refine callWp_of (h6 (fOf s) a x (by omega)) ?_
  have hcl : (changed (fOf s) a x).length = (fOf s).length := changed_len _ _ _
  have hcb := cut_bad s a x (by omega) c2 (by omega) (by omega)
  simp only [walk, Nat.reduceLT, Nat.reduceBEq, Nat.reduceAdd, Nat.reduceLeDiff, reduceIte, Int.reduceLT, Int.reduceLE, Int.reduceEq, Int.reduceToNat, Int.reduceBEq]
  refine callWp_of (h2 _ (by unfold bigLen; omega)) ?_
  rw [hcb]
  simp only [walk, Nat.reduceLT, Nat.reduceBEq, Nat.reduceAdd, Nat.reduceLeDiff, reduceIte, Int.reduceLT, Int.reduceLE, Int.reduceEq, Int.reduceToNat, Int.reduceBEq]
  rw [bins_add (by omega)]
  simp only [walk, Nat.reduceLT, Nat.reduceBEq, Nat.reduceAdd, Nat.reduceLeDiff, reduceIte, Int.reduceLT, Int.reduceLE, Int.reduceEq, Int.reduceToNat, Int.reduceBEq]
  refine callWp_of (h3 _ (by unfold bigLen; rw [List.length_append]; omega)) ?_
  have hne : changed (fOf s) a x ≠ [] := fun e => by rw [e] at hcl; simp at hcl; omega
  have hsb : fScan (changed (fOf s) a x) = ([], changed (fOf s) a x) := by unfold fScan; rw [scanF_bad hne (by rw [hcb]; simp)]
  have hsc := scan_frames l (changed (fOf s) a x) (fun s hs => by have := j2 s hs; omega)
  rw [hsb, List.append_nil] at hsc
  rw [hsc]
  have e5 : ((5 : Int) == 5) = true := rfl
  have e6 : (frames l).length + (changed (fOf s) a x).length - (changed (fOf s) a x).length = (frames l).length := Nat.add_sub_cancel _ _
  simp only [e6, walk, Nat.reduceLT, Nat.reduceBEq, Nat.reduceAdd, Nat.reduceLeDiff, reduceIte, Int.reduceLT, Int.reduceLE, Int.reduceEq, Int.reduceToNat, Int.reduceBEq, tP_eq, e5]
  refine callWp_of (h7 _ _ hl) ?_
  simp only [walk, Nat.reduceLT, Nat.reduceBEq, Nat.reduceAdd, Nat.reduceLeDiff, reduceIte, Int.reduceLT, Int.reduceLE, Int.reduceEq, Int.reduceToNat, Int.reduceBEq, beq_self_eq_true]
  refine callWp_of hA ?_
  simp only [walk, Nat.reduceLT, Nat.reduceBEq, Nat.reduceAdd, Nat.reduceLeDiff, reduceIte, Int.reduceLT, Int.reduceLE, Int.reduceEq, Int.reduceToNat, Int.reduceBEq]
theorem g_law21_awake (h2 : S_fCut (C (F n_frame_Cut))) (h5 : S_fOf (C (F n_frame_Of))) : S_yes ((c_plaw21_awake F).gives C) := by
  refine gives_of rfl ?_
  unfold c_plaw21_awake
  simp only [walk, Nat.reduceLT, Nat.reduceBEq, Nat.reduceAdd, Nat.reduceLeDiff, reduceIte, Int.reduceLT, Int.reduceLE, Int.reduceEq, Int.reduceToNat, Int.reduceBEq]
  refine callWp_of (h5 [97, 98] (by unfold bigLen; decide)) ?_
  have hl : (fOf [97, 98]).length = (vint 2).length + 2 + 4 := fOf_len _
  have hv := vint_len 10 2 (by decide)
  simp only [walk, Nat.reduceLT, Nat.reduceBEq, Nat.reduceAdd, Nat.reduceLeDiff, reduceIte, Int.reduceLT, Int.reduceLE, Int.reduceEq, Int.reduceToNat, Int.reduceBEq]
  rw [bins_add (by simp only [List.length_cons, List.length_nil]; omega)]
  simp only [walk, Nat.reduceLT, Nat.reduceBEq, Nat.reduceAdd, Nat.reduceLeDiff, reduceIte, Int.reduceLT, Int.reduceLE, Int.reduceEq, Int.reduceToNat, Int.reduceBEq]
  refine callWp_of (h2 _ (by unfold bigLen; rw [List.length_append]; simp only [List.length_cons, List.length_nil]; omega)) ?_
  rw [cut_fOf [97, 98] [120] (by decide)]
  simp only [walk, Nat.reduceLT, Nat.reduceBEq, Nat.reduceAdd, Nat.reduceLeDiff, reduceIte, Int.reduceLT, Int.reduceLE, Int.reduceEq, Int.reduceToNat, Int.reduceBEq]
  refine callWp_of (h5 [] (by unfold bigLen; decide)) ?_
  have e1 : (((fOf []).length : Int) == 5) = true := by
    rw [fOf_len]
    have := vint_small (n := 0) (by decide)
    simp only [List.length_nil, this]
    rfl
  have e2 : ((0 : Int) == 0) = true := rfl
  simp only [walk, Nat.reduceLT, Nat.reduceBEq, Nat.reduceAdd, Nat.reduceLeDiff, reduceIte, Int.reduceLT, Int.reduceLE, Int.reduceEq, Int.reduceToNat, Int.reduceBEq, e1, e2, beq_self_eq_true]
end
end Go.AR
