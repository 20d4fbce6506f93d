import Derived.Test.YtcpflnhmdpfdkaaS21b
set_option linter.all false
/-! Scans of frames. -/
namespace Go.AR
open Go
section
variable {C : CallRel} {F : Nat → FuncId}
theorem fCut_rest {s : List UInt8} (h : (fCut s).2.2 = 0) : (fCut s).2.1 = s.drop (s.length - (fCut s).2.1.length) ∧ (fCut s).2.1.length + 4 ≤ s.length := by
  have hl := rI_lt s 0
  have hd := rI_drop s
  unfold fCut at h ⊢
  generalize rI s 0 = r at hl hd h
  obtain ⟨n, s1, b⟩ := r
  simp only at hl hd h ⊢
  by_cases c0 : b ≠ 0
  · rw [if_pos c0] at h; exact absurd h c0
  · rw [if_neg c0] at h ⊢
    by_cases c1 : n > 1048576
    · rw [if_pos c1] at h; simp at h
    · rw [if_neg c1] at h ⊢
      by_cases c2 : n + 4 > s1.length
      · rw [if_pos c2] at h; simp at h
      · rw [if_neg c2] at h ⊢
        split at h
        · rename_i c3
          rw [if_pos c3]
          simp only [List.length_drop]
          refine ⟨?_, by omega⟩
          conv => lhs; rw [hd]
          rw [List.drop_drop]
          congr 1
          omega
        · simp at h
theorem scanF_nil (k : Nat) : scanF k [] = ([], []) := by cases k <;> simp [scanF]
theorem scanF_bad {k : Nat} {s : List UInt8} (h0 : s ≠ []) (h : (fCut s).2.2 ≠ 0) : scanF k s = ([], s) := by
  cases k with
  | zero => rfl
  | succ k => unfold scanF; rw [if_neg h0, if_pos h]
theorem scanF_good {k : Nat} {s : List UInt8} (h0 : s ≠ []) (h : (fCut s).2.2 = 0) (hk : s.length ≤ k) : scanF k s = ((fCut s).1 :: (scanF (k - 1) (fCut s).2.1).1, (scanF (k - 1) (fCut s).2.1).2) := by
  cases k with
  | zero => exact absurd (List.eq_nil_of_length_eq_zero (by omega)) h0
  | succ k => conv => lhs; unfold scanF
              rw [if_neg h0, if_neg (by simp [h])]; rfl
theorem scanF_fuel : ∀ (k : Nat) (s : List UInt8), s.length ≤ k → scanF k s = scanF s.length s := by
  intro k
  induction k using Nat.strongRecOn with
  | _ k ih =>
    intro s hk
    by_cases h0 : s = []
    · subst h0; rw [scanF_nil, scanF_nil]
    · have hs : 0 < s.length := List.length_pos_iff.2 h0
      by_cases h : (fCut s).2.2 = 0
      · have hr := (fCut_rest h).2
        rw [scanF_good h0 h hk, scanF_good h0 h (Nat.le_refl _), ih (k - 1) (by omega) _ (by omega)]
        rcases Nat.lt_or_ge s.length k with hlt | hge
        · rw [ih (s.length - 1) (by omega) _ (by omega)]
        · rw [show s.length = k by omega, ih (k - 1) (by omega) _ (by omega)]
      · rw [scanF_bad h0 h, scanF_bad h0 h]
theorem fScan_step {s : List UInt8} (h0 : s ≠ []) (h : (fCut s).2.2 = 0) : fScan s = ((fCut s).1 :: (fScan (fCut s).2.1).1, (fScan (fCut s).2.1).2) := by
  have hr := (fCut_rest h).2
  unfold fScan
  rw [scanF_good h0 h (Nat.le_refl _), scanF_fuel (s.length - 1) _ (by omega)]
theorem fScan_len : ∀ (k : Nat) (s : List UInt8), s.length ≤ k → (fScan s).2.length ≤ s.length
  | 0, s, h => by rw [List.eq_nil_of_length_eq_zero (show s.length = 0 by omega), fScan, scanF_nil]; simp
  | k + 1, s, h => by
    by_cases h0 : s = []
    · subst h0; rw [fScan, scanF_nil]; simp
    · by_cases h1 : (fCut s).2.2 = 0
      · rw [fScan_step h0 h1]
        have hr := (fCut_rest h1).2
        have := fScan_len k (fCut s).2.1 (by omega)
        simp only; omega
      · rw [fScan, scanF_bad h0 h1]; simp
theorem g_frame_Scan (hC : S_fCut (C (F n_frame_Cut))) : S_fScan ((c_frame_Scan F).gives C) := by
  intro s hs
  unfold bigLen at hs
  refine gives_of rfl ?_
  unfold c_frame_Scan
  have hfl := fScan_len s.length s (Nat.le_refl _)
  simp only [walk, Nat.reduceLT, Nat.reduceBEq, Nat.reduceAdd, Nat.reduceLeDiff, reduceIte, Int.reduceLT, Int.reduceLE, Int.reduceEq, Int.reduceToNat, Int.reduceBEq]
  refine awp_loop_ind (X := List (List UInt8) × List UInt8) (fun x => ⟨[(0, .val (.str s)), (2, .own 1 []), (3, .val (.int .i64 0)), (4, .own 1 (tRows x.1)), (5, .val (.str x.2))], []⟩)
    (fun x => fScan s = (x.1 ++ (fScan x.2).1, (fScan x.2).2) ∧ x.1.length + x.2.length ≤ s.length) (fun x => x.2.length) ([], s) ⟨rfl, by simp⟩ rfl ?_
  rintro R ⟨acc, rest⟩ ⟨he, hl⟩ ih
  simp only at he hl ih ⊢
  simp only [walk, Nat.reduceLT, Nat.reduceBEq, Nat.reduceAdd, Nat.reduceLeDiff, reduceIte, Int.reduceLT, Int.reduceLE, Int.reduceEq, Int.reduceToNat, Int.reduceBEq]
  by_cases h0 : rest = []
  · subst h0
    have e1 : (([] : List UInt8) == []) = true := rfl
    simp only [walk, Nat.reduceLT, Nat.reduceBEq, Nat.reduceAdd, Nat.reduceLeDiff, reduceIte, Int.reduceLT, Int.reduceLE, Int.reduceEq, Int.reduceToNat, Int.reduceBEq, e1]
    have e2 : fScan ([] : List UInt8) = ([], []) := rfl
    rw [e2, List.append_nil] at he
    have e3 : IntKind.i64.wrap ((s.length : Int) - 0) = ((s.length - 0 : Nat) : Int) := by rw [wrap64 (by omega) (by omega)]; omega
    rw [e3, he]
    rfl
  · have e1 : (rest == []) = false := by rw [← Bool.not_eq_true, beq_iff_eq]; exact h0
    simp only [walk, Nat.reduceLT, Nat.reduceBEq, Nat.reduceAdd, Nat.reduceLeDiff, reduceIte, Int.reduceLT, Int.reduceLE, Int.reduceEq, Int.reduceToNat, Int.reduceBEq, e1]
    refine callWp_of (hC rest (by unfold bigLen; omega)) ?_
    by_cases h : (fCut rest).2.2 = 0
    · have hb : ((fCut rest).2.2 != 0) = false := by rw [h]; rfl
      have hr := (fCut_rest h).2
      have hcap : ((tRows acc).length + 1) * 16 ≤ 140737488355328 := by rw [tRows_len]; omega
      simp only [walk, Nat.reduceLT, Nat.reduceBEq, Nat.reduceAdd, Nat.reduceLeDiff, reduceIte, Int.reduceLT, Int.reduceLE, Int.reduceEq, Int.reduceToNat, Int.reduceBEq, hb, hcap, tRows_app]
      refine ih (acc ++ [(fCut rest).1], (fCut rest).2.1) ⟨?_, ?_⟩ ?_
      · rw [he, fScan_step h0 h]; simp
      · simp only [List.length_append, List.length_cons, List.length_nil]; omega
      · simp only; omega
    · have hb : ((fCut rest).2.2 != 0) = true := by simp [h]
      have e2 : fScan rest = ([], rest) := by unfold fScan; rw [scanF_bad h0 h]
      have e3 : IntKind.i64.wrap ((s.length : Int) - rest.length) = ((s.length - rest.length : Nat) : Int) := by rw [wrap64 (by omega) (by omega)]; omega
      simp only [walk, Nat.reduceLT, Nat.reduceBEq, Nat.reduceAdd, Nat.reduceLeDiff, reduceIte, Int.reduceLT, Int.reduceLE, Int.reduceEq, Int.reduceToNat, Int.reduceBEq, hb, e3]
      rw [he, e2, List.append_nil]
      rfl
theorem g_pref21_Scan (hC : S_fCut (C (F n_pref21_Cut))) : S_fScan ((c_pref21_Scan F).gives C) := by
  intro s hs
  unfold bigLen at hs
  refine gives_of rfl ?_
  unfold c_pref21_Scan
  have hfl := fScan_len s.length s (Nat.le_refl _)
  simp only [walk, Nat.reduceLT, Nat.reduceBEq, Nat.reduceAdd, Nat.reduceLeDiff, reduceIte, Int.reduceLT, Int.reduceLE, Int.reduceEq, Int.reduceToNat, Int.reduceBEq]
  refine awp_loop_ind (X := List (List UInt8) × Nat) (fun x => ⟨[(0, .val (.str s)), (2, .own 1 []), (3, .val (.int .i64 0)), (4, .own 1 (tRows x.1)), (5, .val (.int .i64 x.2))], []⟩)
    (fun x => fScan s = (x.1 ++ (fScan (s.drop x.2)).1, (fScan (s.drop x.2)).2) ∧ x.2 ≤ s.length ∧ x.1.length ≤ x.2) (fun x => s.length - x.2) ([], 0) ⟨rfl, by simp, by simp⟩ rfl ?_
  rintro R ⟨acc, k⟩ ⟨he, hk, hl⟩ ih
  simp only at he hk hl ih ⊢
  simp only [walk, Nat.reduceLT, Nat.reduceBEq, Nat.reduceAdd, Nat.reduceLeDiff, reduceIte, Int.reduceLT, Int.reduceLE, Int.reduceEq, Int.reduceToNat, Int.reduceBEq]
  have hdl : (s.drop k).length = s.length - k := List.length_drop
  by_cases h1 : (k : Int) < s.length
  · have h0 : s.drop k ≠ [] := fun e => by rw [e] at hdl; simp at hdl; omega
    have e1 : (0 : Int) ≤ k := by omega
    have e2 : (k : Int) ≤ s.length := by omega
    simp only [walk, Nat.reduceLT, Nat.reduceBEq, Nat.reduceAdd, Nat.reduceLeDiff, reduceIte, Int.reduceLT, Int.reduceLE, Int.reduceEq, Int.reduceToNat, Int.reduceBEq, h1, e1, e2]
    refine callWp_of (hC _ (by unfold bigLen; omega)) ?_
    by_cases h : (fCut (s.drop k)).2.2 = 0
    · have hb : ((fCut (s.drop k)).2.2 != 0) = false := by rw [h]; rfl
      obtain ⟨hr1, hr⟩ := fCut_rest h
      have hcap : ((tRows acc).length + 1) * 16 ≤ 140737488355328 := by rw [tRows_len]; omega
      have e3 : IntKind.i64.wrap ((s.length : Int) - (fCut (s.drop k)).2.1.length) = ((s.length - (fCut (s.drop k)).2.1.length : Nat) : Int) := by rw [wrap64 (by omega) (by omega)]; omega
      simp only [walk, Nat.reduceLT, Nat.reduceBEq, Nat.reduceAdd, Nat.reduceLeDiff, reduceIte, Int.reduceLT, Int.reduceLE, Int.reduceEq, Int.reduceToNat, Int.reduceBEq, hb, hcap, tRows_app, e3]
      refine ih (acc ++ [(fCut (s.drop k)).1], s.length - (fCut (s.drop k)).2.1.length) ⟨?_, ?_, ?_⟩ ?_
      · have e4 : s.drop (s.length - (fCut (s.drop k)).2.1.length) = (fCut (s.drop k)).2.1 := by
          conv => rhs; rw [hr1]
          rw [List.drop_drop, hdl]
          congr 1; omega
        simp only
        rw [he, fScan_step h0 h, e4]; simp
      · simp only; omega
      · simp only [List.length_append, List.length_cons, List.length_nil]; omega
      · simp only; omega
    · have hb : ((fCut (s.drop k)).2.2 != 0) = true := by simp [h]
      have e4 : fScan (s.drop k) = ([], s.drop k) := by unfold fScan; rw [scanF_bad h0 h]
      simp only [walk, Nat.reduceLT, Nat.reduceBEq, Nat.reduceAdd, Nat.reduceLeDiff, reduceIte, Int.reduceLT, Int.reduceLE, Int.reduceEq, Int.reduceToNat, Int.reduceBEq, hb]
      rw [he, e4, List.append_nil]
      simp only [hdl]
      rw [show s.length - (s.length - k) = k by omega]
      rfl
  · have e0 : s.drop k = [] := List.eq_nil_of_length_eq_zero (by omega)
    simp only [walk, Nat.reduceLT, Nat.reduceBEq, Nat.reduceAdd, Nat.reduceLeDiff, reduceIte, Int.reduceLT, Int.reduceLE, Int.reduceEq, Int.reduceToNat, Int.reduceBEq, h1]
    have e2 : fScan ([] : List UInt8) = ([], []) := rfl
    rw [he, e0, e2, List.append_nil]
    rw [show k = s.length by omega]
    rfl
end
end Go.AR
