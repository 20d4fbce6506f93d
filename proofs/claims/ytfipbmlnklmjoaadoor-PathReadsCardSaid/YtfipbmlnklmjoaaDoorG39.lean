import Derived.Test.YtfipbmlnklmjoaaDoorG38
set_option linter.all false
/-! Paths: the laws. -/
namespace Go.AR
open Go
theorem lead_le {c k least c0 : Nat} (h : lead c = some (k, least, c0)) : k ≤ 3 := by
  unfold lead at h
  split at h
  · cases h; omega
  · split at h
    · cases h; omega
    · split at h
      · cases h; omega
      · cases h
theorem chr4 (l : List UInt8) : (chr l).2 ≤ 4 := by
  unfold chr
  repeat' split
  all_goals simp
  rename_i h1 _ _ _ _ _
  exact lead_le h1
theorem Wd.len {l : List UInt8} {n : Nat} (h : Wd l n) : l.length ≤ 4 * n := by
  induction h with
  | nil => simp
  | cons h hm hr ih =>
    rename_i l n
    have := chr4 l
    rw [List.length_drop] at ih
    omega
theorem right_len {s : List UInt8} (h : rightB s = true) : s.length ≤ 96 ∧ s ≠ [] := by
  obtain ⟨n, hw, h1, h2⟩ := (right_iff s).1 h
  have := hw.len
  refine ⟨by omega, ?_⟩
  rintro rfl
  cases hw with
  | nil => omega
  | cons h => exact h rfl
theorem pCheck_zero {p : List (List UInt8)} (h : pCheck p = 0) : p ≠ [] ∧ p.length ≤ 8 ∧ ∀ s ∈ p, rightB s = true := by
  unfold pCheck at h
  by_cases h0 : p.length = 0
  · rw [if_pos h0] at h; cases h
  · rw [if_neg h0] at h
    by_cases h8 : 8 < p.length
    · rw [if_pos h8] at h; cases h
    · rw [if_neg h8] at h
      by_cases ha : p.all rightB = true
      · exact ⟨by rintro rfl; exact h0 rfl, by omega, List.all_eq_true.1 ha⟩
      · rw [if_neg ha] at h; cases h
theorem check_ok {p : List (List UInt8)} (h : pCheck p = 0) : pOk p := by
  obtain ⟨_, h1, h2⟩ := pCheck_zero h
  exact ⟨by omega, fun s hs => by have := (right_len (h2 s hs)).1; omega⟩
theorem short_ok {p : List (List UInt8)} (h : pShort p = true) : pOk p := by
  unfold pShort at h
  simp only [Bool.and_eq_true, decide_eq_true_eq, List.all_eq_true] at h
  exact ⟨by omega, fun s hs => by have := h.2 s hs; omega⟩
theorem rdTexts_parts : ∀ (p : List (List UInt8)) (rest : List UInt8), (∀ s ∈ p, s.length < 72057594037927936) → rdTexts p.length ((p.map pText).flatten ++ rest) 0 = (p, rest, 0)
  | [], rest, _ => rfl
  | s :: p, rest, h => by
    rw [List.length_cons, rdTexts, List.map_cons, List.flatten_cons, List.append_assoc, rText_pText s _ (h s (by simp))]
    simp only
    rw [rdTexts_parts p rest (fun t ht => h t (by simp [ht]))]
theorem parts_ge : ∀ (p : List (List UInt8)), p.length ≤ ((p.map pText).flatten).length
  | [] => by simp
  | s :: p => by
    have := parts_ge p
    have h := vint_pos s.length
    rw [List.map_cons, List.flatten_cons, List.length_append, List.length_cons, pText, List.length_append]
    omega
theorem rMany_vint (m : Int) (n : Nat) (rest : List UInt8) (h : n < 72057594037927936) (hm : (n : Int) ≤ m) (hr : n ≤ rest.length) : rMany m (vint n ++ rest) 0 = ((n : Int), rest, 0) := by
  unfold rMany
  rw [rI_vint n h rest]
  simp only [if_true]
  rw [if_neg (by omega), if_neg (by omega)]
theorem rPath_code {p : List (List UInt8)} (h : pCheck p = 0) (rest : List UInt8) : rPath (pCode p ++ rest) 0 = (p, rest, 0) := by
  obtain ⟨_, h1, h2⟩ := pCheck_zero h
  have hl := parts_ge p
  rw [rPath_eq, pCode, pInt, List.append_assoc, Int.toNat_natCast, rMany_vint 8 p.length _ (by omega) (by omega) (by rw [List.length_append]; omega)]
  simp only [Int.toNat_natCast]
  rw [rdTexts_parts p rest (fun s hs => by have := (right_len (h2 s hs)).1; omega)]
  simp [rPathOf, h]
theorem joinQ_ne {p : List (List UInt8)} (h : pCheck p = 0) : joinQ p ≠ [] := by
  obtain ⟨h0, _, h2⟩ := pCheck_zero h
  have hq : ∀ w : List UInt8, w ≠ [] → quo w ≠ [] := by
    intro w hw
    cases w with
    | nil => exact absurd rfl hw
    | cons c w =>
      unfold quo
      rw [List.flatMap_cons]
      split <;> simp
  rcases p with _ | ⟨a, _ | ⟨b, p⟩⟩
  · exact absurd rfl h0
  · simpa [joinQ] using hq a (right_len (h2 a (by simp))).2
  · rw [joinQ]
    · simp
    · simp
theorem pParse_join {p : List (List UInt8)} (h : pCheck p = 0) : pParse (joinQ p) = (p, 0) := by
  unfold pParse
  rw [if_neg (joinQ_ne h), spl_join p (pCheck_zero h).1]
  simp [h]
theorem join_small {p : List (List UInt8)} (h : pCheck p = 0) : (joinQ p).length ≤ 1000000 := by
  obtain ⟨_, h1, h2⟩ := pCheck_zero h
  have key : ∀ (p : List (List UInt8)), (∀ s ∈ p, s.length ≤ 96) → (joinQ p).length ≤ p.length * 193 := by
    intro p
    induction p with
    | nil => simp [joinQ]
    | cons a p ih =>
      intro h
      have h1 := quo_len a
      have h2 := h a (by simp)
      have ih := ih (fun s hs => h s (by simp [hs]))
      cases p with
      | nil => simp [joinQ]; omega
      | cons b p =>
        rw [joinQ]
        · simp only [List.length_append, List.length_cons] at ih ⊢; omega
        · simp
  have := key p (fun s hs => (right_len (h2 s hs)).1)
  omega
section
variable {C : CallRel} {F : Nat → FuncId}
theorem right_abc : rightB [97, 47, 98] = true ∧ rightB [99] = true :=
  ⟨(right_iff _).2 ⟨3, .cons (by decide) (by decide) (.cons (by decide) (by decide) (.cons (by decide) (by decide) .nil)), by omega, by omega⟩,
   (right_iff _).2 ⟨1, .cons (by decide) (by decide) .nil, by omega, by omega⟩⟩
theorem check_abc : pCheck [[97, 47, 98], [99]] = 0 := by
  unfold pCheck
  simp [right_abc.1, right_abc.2]
theorem g_plaw10_awake (h1 : S_pParse (C (F n_path_Parse))) (h2 : S_xSame (C (F n_pref03_Same))) (h3 : S_pText (C (F n_path_Text))) (h4 : S_pCheck (C (F n_path_Check))) (h5 : S_under (C (F n_path_Under))) : S_yes ((c_plaw10_awake F).gives C) := by
  refine gives_of rfl ?_
  unfold c_plaw10_awake
  simp only [walk, Nat.reduceLT, Nat.reduceBEq, Nat.reduceAdd, Nat.reduceLeDiff, reduceIte, Int.reduceLT, Int.reduceLE, Int.reduceEq, Int.reduceToNat, Int.reduceBEq]
  have e1 : [97, 92, 47, 98, 47, 99] = joinQ [[97, 47, 98], [99]] := by decide
  have e2 : pParse [97, 92, 47, 98, 47, 99] = ([[97, 47, 98], [99]], 0) := by rw [e1]; exact pParse_join check_abc
  have e3 : joinQ [[97, 47, 98], [99]] = [97, 92, 47, 98, 47, 99] := by decide
  have hok := check_ok check_abc
  refine callWp_of (h1 _ (by simp)) ?_
  simp only [walk, Nat.reduceLT, Nat.reduceBEq, Nat.reduceAdd, Nat.reduceLeDiff, reduceIte, Int.reduceLT, Int.reduceLE, Int.reduceEq, Int.reduceToNat, Int.reduceBEq, e2, parP]
  have r1 : [[PV.str [97, 47, 98]], [PV.str [99]]] = xRows [[97, 47, 98], [99]] := rfl
  rw [r1]
  refine callWp_of (h2 _ _ (by simp)) ?_
  simp only [walk, Nat.reduceLT, Nat.reduceBEq, Nat.reduceAdd, Nat.reduceLeDiff, reduceIte, Int.reduceLT, Int.reduceLE, Int.reduceEq, Int.reduceToNat, Int.reduceBEq, beq_self_eq_true]
  refine callWp_of (h3 _ hok) ?_
  simp only [walk, Nat.reduceLT, Nat.reduceBEq, Nat.reduceAdd, Nat.reduceLeDiff, reduceIte, Int.reduceLT, Int.reduceLE, Int.reduceEq, Int.reduceToNat, Int.reduceBEq, e3, beq_self_eq_true]
  refine callWp_of (h4 _ hok) ?_
  simp only [walk, Nat.reduceLT, Nat.reduceBEq, Nat.reduceAdd, Nat.reduceLeDiff, reduceIte, Int.reduceLT, Int.reduceLE, Int.reduceEq, Int.reduceToNat, Int.reduceBEq, check_abc, xRows_len, List.length_cons, List.length_nil]
  have r2 : List.take 1 (xRows [[97, 47, 98], [99]]) = xRows [[97, 47, 98]] := rfl
  rw [r2]
  refine callWp_of (h5 _ [[97, 47, 98]] hok ⟨by simp, by simp⟩) ?_
  have e4 : under [[97, 47, 98], [99]] [[97, 47, 98]] = true := by decide
  simp only [walk, Nat.reduceLT, Nat.reduceBEq, Nat.reduceAdd, Nat.reduceLeDiff, reduceIte, Int.reduceLT, Int.reduceLE, Int.reduceEq, Int.reduceToNat, Int.reduceBEq, e4]
theorem g_PathParses (hA : S_yes (C (F n_plaw10_awake))) (h1 : S_pParse (C (F n_path_Parse))) (h2 : S_pParse (C (F n_pref10_Parse))) (h3 : S_xSame (C (F n_pref03_Same))) : S_n1 ((c_plaw10_PathParses F).gives C) := by
  intro s
  refine gives_of rfl ?_
  unfold c_plaw10_PathParses
  simp only [walk, Nat.reduceLT, Nat.reduceBEq, Nat.reduceAdd, Nat.reduceLeDiff, reduceIte, Int.reduceLT, Int.reduceLE, Int.reduceEq, Int.reduceToNat, Int.reduceBEq, gt_iff_lt]
  by_cases hl : 500 < s.length
  · have hl' : (500 : Int) < s.length := by omega
    simp only [walk, Nat.reduceLT, Nat.reduceBEq, Nat.reduceAdd, Nat.reduceLeDiff, reduceIte, Int.reduceLT, Int.reduceLE, Int.reduceEq, Int.reduceToNat, Int.reduceBEq, hl']
    refine callWp_of hA ?_
    simp only [walk, Nat.reduceLT, Nat.reduceBEq, Nat.reduceAdd, Nat.reduceLeDiff, reduceIte, Int.reduceLT, Int.reduceLE, Int.reduceEq, Int.reduceToNat, Int.reduceBEq]
  have hl' : ¬ (500 : Int) < s.length := by omega
  simp only [walk, Nat.reduceLT, Nat.reduceBEq, Nat.reduceAdd, Nat.reduceLeDiff, reduceIte, Int.reduceLT, Int.reduceLE, Int.reduceEq, Int.reduceToNat, Int.reduceBEq, hl']
  refine callWp_of (h1 s (by omega)) ?_
  have hok : (pParse s).1.length ≤ 20000000 := by
    unfold pParse
    split
    · simp
    · split
      · simp
      · rename_i p hp
        have := (spl_ok (by omega) hp).1
        split
        · simp only; omega
        · simp
  simp only [walk, Nat.reduceLT, Nat.reduceBEq, Nat.reduceAdd, Nat.reduceLeDiff, reduceIte, Int.reduceLT, Int.reduceLE, Int.reduceEq, Int.reduceToNat, Int.reduceBEq, parP]
  refine callWp_of (h2 s (by omega)) ?_
  simp only [walk, Nat.reduceLT, Nat.reduceBEq, Nat.reduceAdd, Nat.reduceLeDiff, reduceIte, Int.reduceLT, Int.reduceLE, Int.reduceEq, Int.reduceToNat, Int.reduceBEq, parP]
  refine callWp_of (h3 _ _ hok) ?_
  simp only [walk, Nat.reduceLT, Nat.reduceBEq, Nat.reduceAdd, Nat.reduceLeDiff, reduceIte, Int.reduceLT, Int.reduceLE, Int.reduceEq, Int.reduceToNat, Int.reduceBEq, beq_self_eq_true]
  refine callWp_of hA ?_
  simp only [walk, Nat.reduceLT, Nat.reduceBEq, Nat.reduceAdd, Nat.reduceLeDiff, reduceIte, Int.reduceLT, Int.reduceLE, Int.reduceEq, Int.reduceToNat, Int.reduceBEq]
def S_p2 (R : Rel) : Prop := ∀ a b : List (List UInt8), R [.v (ptP a), .v (ptP b)] (.val (.bool true)) []
def S_p3 (R : Rel) : Prop := ∀ a b c : List (List UInt8), R [.v (ptP a), .v (ptP b), .v (ptP c)] (.val (.bool true)) []
theorem g_PathTells (hA : S_yes (C (F n_plaw10_awake))) (h0 : S_pShort (C (F n_pref10_Short))) (h1 : S_pCheck (C (F n_path_Check))) (h2 : S_pCheck (C (F n_pref10_Check))) (h3 : S_pCmp (C (F n_path_Compare))) (h4 : S_pCmp (C (F n_pref10_Compare))) (h5 : S_pSame (C (F n_path_Same))) (h6 : S_xSame (C (F n_pref03_Same))) (h7 : S_under (C (F n_path_Under))) (h8 : S_under (C (F n_pref10_Under))) (h9 : S_pText (C (F n_path_Text))) (h10 : S_pText (C (F n_pref10_Text))) (h11 : S_pCode (C (F n_path_Code))) (h12 : S_pCode (C (F n_pref10_Code))) : S_p2 ((c_plaw10_PathTells F).gives C) := by
  intro a b
  refine gives_of rfl ?_
  unfold c_plaw10_PathTells
  simp only [walk, Nat.reduceLT, Nat.reduceBEq, Nat.reduceAdd, Nat.reduceLeDiff, reduceIte, Int.reduceLT, Int.reduceLE, Int.reduceEq, Int.reduceToNat, Int.reduceBEq]
  refine callWp_of (h0 a) ?_
  cases ha : pShort a with
  | false =>
    simp only [walk, Nat.reduceLT, Nat.reduceBEq, Nat.reduceAdd, Nat.reduceLeDiff, reduceIte, Int.reduceLT, Int.reduceLE, Int.reduceEq, Int.reduceToNat, Int.reduceBEq]
    refine callWp_of hA ?_
    simp only [walk, Nat.reduceLT, Nat.reduceBEq, Nat.reduceAdd, Nat.reduceLeDiff, reduceIte, Int.reduceLT, Int.reduceLE, Int.reduceEq, Int.reduceToNat, Int.reduceBEq]
  | true =>
  simp only [walk, Nat.reduceLT, Nat.reduceBEq, Nat.reduceAdd, Nat.reduceLeDiff, reduceIte, Int.reduceLT, Int.reduceLE, Int.reduceEq, Int.reduceToNat, Int.reduceBEq]
  refine callWp_of (h0 b) ?_
  cases hb : pShort b with
  | false =>
    simp only [walk, Nat.reduceLT, Nat.reduceBEq, Nat.reduceAdd, Nat.reduceLeDiff, reduceIte, Int.reduceLT, Int.reduceLE, Int.reduceEq, Int.reduceToNat, Int.reduceBEq]
    refine callWp_of hA ?_
    simp only [walk, Nat.reduceLT, Nat.reduceBEq, Nat.reduceAdd, Nat.reduceLeDiff, reduceIte, Int.reduceLT, Int.reduceLE, Int.reduceEq, Int.reduceToNat, Int.reduceBEq]
  | true =>
  have ka := short_ok ha
  have kb := short_ok hb
  have kl : a.length ≤ 20000000 := by have := ka.1; omega
  simp only [walk, Nat.reduceLT, Nat.reduceBEq, Nat.reduceAdd, Nat.reduceLeDiff, reduceIte, Int.reduceLT, Int.reduceLE, Int.reduceEq, Int.reduceToNat, Int.reduceBEq]
  refine callWp_of (h1 a ka) ?_
  simp only [walk, Nat.reduceLT, Nat.reduceBEq, Nat.reduceAdd, Nat.reduceLeDiff, reduceIte, Int.reduceLT, Int.reduceLE, Int.reduceEq, Int.reduceToNat, Int.reduceBEq]
  refine callWp_of (h2 a ka) ?_
  simp only [walk, Nat.reduceLT, Nat.reduceBEq, Nat.reduceAdd, Nat.reduceLeDiff, reduceIte, Int.reduceLT, Int.reduceLE, Int.reduceEq, Int.reduceToNat, Int.reduceBEq, beq_self_eq_true]
  refine callWp_of (h3 a b ka kb) ?_
  simp only [walk, Nat.reduceLT, Nat.reduceBEq, Nat.reduceAdd, Nat.reduceLeDiff, reduceIte, Int.reduceLT, Int.reduceLE, Int.reduceEq, Int.reduceToNat, Int.reduceBEq]
  refine callWp_of (h4 a b ka kb) ?_
  simp only [walk, Nat.reduceLT, Nat.reduceBEq, Nat.reduceAdd, Nat.reduceLeDiff, reduceIte, Int.reduceLT, Int.reduceLE, Int.reduceEq, Int.reduceToNat, Int.reduceBEq, beq_self_eq_true]
  refine callWp_of (h5 a b ka) ?_
  simp only [walk, Nat.reduceLT, Nat.reduceBEq, Nat.reduceAdd, Nat.reduceLeDiff, reduceIte, Int.reduceLT, Int.reduceLE, Int.reduceEq, Int.reduceToNat, Int.reduceBEq]
  refine callWp_of (h6 a b kl) ?_
  simp only [walk, Nat.reduceLT, Nat.reduceBEq, Nat.reduceAdd, Nat.reduceLeDiff, reduceIte, Int.reduceLT, Int.reduceLE, Int.reduceEq, Int.reduceToNat, Int.reduceBEq, beq_self_eq_true]
  refine callWp_of (h7 a b ka kb) ?_
  simp only [walk, Nat.reduceLT, Nat.reduceBEq, Nat.reduceAdd, Nat.reduceLeDiff, reduceIte, Int.reduceLT, Int.reduceLE, Int.reduceEq, Int.reduceToNat, Int.reduceBEq]
  refine callWp_of (h8 a b ka kb) ?_
  simp only [walk, Nat.reduceLT, Nat.reduceBEq, Nat.reduceAdd, Nat.reduceLeDiff, reduceIte, Int.reduceLT, Int.reduceLE, Int.reduceEq, Int.reduceToNat, Int.reduceBEq, beq_self_eq_true]
  refine callWp_of (h9 a ka) ?_
  simp only [walk, Nat.reduceLT, Nat.reduceBEq, Nat.reduceAdd, Nat.reduceLeDiff, reduceIte, Int.reduceLT, Int.reduceLE, Int.reduceEq, Int.reduceToNat, Int.reduceBEq]
  refine callWp_of (h10 a ka) ?_
  simp only [walk, Nat.reduceLT, Nat.reduceBEq, Nat.reduceAdd, Nat.reduceLeDiff, reduceIte, Int.reduceLT, Int.reduceLE, Int.reduceEq, Int.reduceToNat, Int.reduceBEq, beq_self_eq_true]
  refine callWp_of (h11 a ka) ?_
  simp only [walk, Nat.reduceLT, Nat.reduceBEq, Nat.reduceAdd, Nat.reduceLeDiff, reduceIte, Int.reduceLT, Int.reduceLE, Int.reduceEq, Int.reduceToNat, Int.reduceBEq]
  refine callWp_of (h12 a ka) ?_
  simp only [walk, Nat.reduceLT, Nat.reduceBEq, Nat.reduceAdd, Nat.reduceLeDiff, reduceIte, Int.reduceLT, Int.reduceLE, Int.reduceEq, Int.reduceToNat, Int.reduceBEq, beq_self_eq_true]
  refine callWp_of hA ?_
  simp only [walk, Nat.reduceLT, Nat.reduceBEq, Nat.reduceAdd, Nat.reduceLeDiff, reduceIte, Int.reduceLT, Int.reduceLE, Int.reduceEq, Int.reduceToNat, Int.reduceBEq]
end
end Go.AR

/-! Paths: how they stand, the law. -/
namespace Go.AR
open Go
section
variable {C : CallRel} {F : Nat → FuncId}
set_option maxHeartbeats 800000 in
theorem g_PathRow (hA : S_yes (C (F n_plaw10_awake))) (h0 : S_pShort (C (F n_pref10_Short))) (h3 : S_pCmp (C (F n_path_Compare))) (h5 : S_pSame (C (F n_path_Same))) (h7 : S_under (C (F n_path_Under))) : S_p3 ((c_plaw10_PathRow F).gives C) := by
  intro a b c
  refine gives_of rfl ?_
  unfold c_plaw10_PathRow
  simp only [walk, Nat.reduceLT, Nat.reduceBEq, Nat.reduceAdd, Nat.reduceLeDiff, reduceIte, Int.reduceLT, Int.reduceLE, Int.reduceEq, Int.reduceToNat, Int.reduceBEq]
  refine callWp_of (h0 a) ?_
  cases ha : pShort a with
  | false =>
    simp only [walk, Nat.reduceLT, Nat.reduceBEq, Nat.reduceAdd, Nat.reduceLeDiff, reduceIte, Int.reduceLT, Int.reduceLE, Int.reduceEq, Int.reduceToNat, Int.reduceBEq]
    refine callWp_of hA ?_
    simp only [walk, Nat.reduceLT, Nat.reduceBEq, Nat.reduceAdd, Nat.reduceLeDiff, reduceIte, Int.reduceLT, Int.reduceLE, Int.reduceEq, Int.reduceToNat, Int.reduceBEq]
  | true =>
  simp only [walk, Nat.reduceLT, Nat.reduceBEq, Nat.reduceAdd, Nat.reduceLeDiff, reduceIte, Int.reduceLT, Int.reduceLE, Int.reduceEq, Int.reduceToNat, Int.reduceBEq]
  refine callWp_of (h0 b) ?_
  cases hb : pShort b with
  | false =>
    simp only [walk, Nat.reduceLT, Nat.reduceBEq, Nat.reduceAdd, Nat.reduceLeDiff, reduceIte, Int.reduceLT, Int.reduceLE, Int.reduceEq, Int.reduceToNat, Int.reduceBEq]
    refine callWp_of hA ?_
    simp only [walk, Nat.reduceLT, Nat.reduceBEq, Nat.reduceAdd, Nat.reduceLeDiff, reduceIte, Int.reduceLT, Int.reduceLE, Int.reduceEq, Int.reduceToNat, Int.reduceBEq]
  | true =>
  simp only [walk, Nat.reduceLT, Nat.reduceBEq, Nat.reduceAdd, Nat.reduceLeDiff, reduceIte, Int.reduceLT, Int.reduceLE, Int.reduceEq, Int.reduceToNat, Int.reduceBEq]
  refine callWp_of (h0 c) ?_
  cases hc : pShort c with
  | false =>
    simp only [walk, Nat.reduceLT, Nat.reduceBEq, Nat.reduceAdd, Nat.reduceLeDiff, reduceIte, Int.reduceLT, Int.reduceLE, Int.reduceEq, Int.reduceToNat, Int.reduceBEq]
    refine callWp_of hA ?_
    simp only [walk, Nat.reduceLT, Nat.reduceBEq, Nat.reduceAdd, Nat.reduceLeDiff, reduceIte, Int.reduceLT, Int.reduceLE, Int.reduceEq, Int.reduceToNat, Int.reduceBEq]
  | true =>
  have ka := short_ok ha
  have kb := short_ok hb
  have kc := short_ok hc
  simp only [walk, Nat.reduceLT, Nat.reduceBEq, Nat.reduceAdd, Nat.reduceLeDiff, reduceIte, Int.reduceLT, Int.reduceLE, Int.reduceEq, Int.reduceToNat, Int.reduceBEq]
  refine callWp_of (h3 a b ka kb) ?_
  simp only [walk, Nat.reduceLT, Nat.reduceBEq, Nat.reduceAdd, Nat.reduceLeDiff, reduceIte, Int.reduceLT, Int.reduceLE, Int.reduceEq, Int.reduceToNat, Int.reduceBEq]
  refine callWp_of (h3 b c kb kc) ?_
  simp only [walk, Nat.reduceLT, Nat.reduceBEq, Nat.reduceAdd, Nat.reduceLeDiff, reduceIte, Int.reduceLT, Int.reduceLE, Int.reduceEq, Int.reduceToNat, Int.reduceBEq]
  refine callWp_of (h3 a c ka kc) ?_
  simp only [walk, Nat.reduceLT, Nat.reduceBEq, Nat.reduceAdd, Nat.reduceLeDiff, reduceIte, Int.reduceLT, Int.reduceLE, Int.reduceEq, Int.reduceToNat, Int.reduceBEq]
  refine callWp_of (h3 b a kb ka) ?_
  have hn := pCmp_neg a b
  have hx := pCmp_cases a b
  have hy := pCmp_cases b c
  have hxyz : pCmp a b ≤ 0 → pCmp b c ≤ 0 → ¬ pCmp a c > 0 := by
    intro h1 h2 h3
    rcases hx with e | e | e
    · rcases hy with f | f | f
      · have := pCmp_trans e f; omega
      · have := pCmp_zero.1 f; subst this; omega
      · omega
    · have := pCmp_zero.1 e; subst this; omega
    · omega
  have hu : under a b = true → ¬ pCmp a b < 0 := under_cmp
  have hs : (a == b) = (pCmp a b == 0) := by
    rw [Bool.eq_iff_iff, beq_iff_eq, beq_iff_eq, pCmp_zero]
  have h2 : under c a = true → under c b = true → under a b = true ∨ under b a = true := under_two
  rw [hn]
  generalize hX : pCmp a b = x at *
  generalize hY : pCmp b c = y at *
  generalize hZ : pCmp a c = z at *
  have w1 : IntKind.i64.wrap (0 - x) = -x := by rw [wrap64 (by omega) (by omega)]; omega
  have g1 : (-x != -x) = false := bne_self_eq_false _
  have hux : under a b = true → decide (x < 0) = false := fun h => decide_eq_false (hu h)
  clear hu hn hX hY hZ
  have cases3 : (x ≤ 0 ∧ y ≤ 0 ∧ ¬ z > 0) ∨ (x ≤ 0 ∧ ¬ y ≤ 0) ∨ ¬ x ≤ 0 := by
    by_cases d1 : x ≤ 0
    · by_cases d2 : y ≤ 0
      · exact .inl ⟨d1, d2, hxyz d1 d2⟩
      · exact .inr (.inl ⟨d1, d2⟩)
    · exact .inr (.inr d1)
  clear hxyz hx hy
  rcases cases3 with ⟨d1, d2, d3⟩ | ⟨d1, d2⟩ | d1
  · simp only [walk, Nat.reduceLT, Nat.reduceBEq, Nat.reduceAdd, Nat.reduceLeDiff, reduceIte, Int.reduceLT, Int.reduceLE, Int.reduceEq, Int.reduceToNat, Int.reduceBEq, w1, g1, d1, d2, d3]
    refine callWp_of (h7 a b ka kb) ?_
    cases hab : under a b
    all_goals rw [hab] at hux h2
    rotate_left
    have d4 := of_decide_eq_false (hux rfl)
    simp only [walk, Nat.reduceLT, Nat.reduceBEq, Nat.reduceAdd, Nat.reduceLeDiff, reduceIte, Int.reduceLT, Int.reduceLE, Int.reduceEq, Int.reduceToNat, Int.reduceBEq, d4]
    rotate_right
    simp only [walk, Nat.reduceLT, Nat.reduceBEq, Nat.reduceAdd, Nat.reduceLeDiff, reduceIte, Int.reduceLT, Int.reduceLE, Int.reduceEq, Int.reduceToNat, Int.reduceBEq]
    all_goals refine callWp_of (h7 c a kc ka) ?_
    all_goals cases hca : under c a
    all_goals simp only [walk, Nat.reduceLT, Nat.reduceBEq, Nat.reduceAdd, Nat.reduceLeDiff, reduceIte, Int.reduceLT, Int.reduceLE, Int.reduceEq, Int.reduceToNat, Int.reduceBEq]
    all_goals first | (refine callWp_of (h7 c b kc kb) ?_; cases hcb : under c b <;> simp only [walk, Nat.reduceLT, Nat.reduceBEq, Nat.reduceAdd, Nat.reduceLeDiff, reduceIte, Int.reduceLT, Int.reduceLE, Int.reduceEq, Int.reduceToNat, Int.reduceBEq]) | skip
    all_goals first | (refine callWp_of (h7 a b ka kb) ?_; simp only [walk, Nat.reduceLT, Nat.reduceBEq, Nat.reduceAdd, Nat.reduceLeDiff, reduceIte, Int.reduceLT, Int.reduceLE, Int.reduceEq, Int.reduceToNat, Int.reduceBEq, hab]) | skip
    all_goals first | (refine callWp_of (h7 b a kb ka) ?_; simp only [walk, Nat.reduceLT, Nat.reduceBEq, Nat.reduceAdd, Nat.reduceLeDiff, reduceIte, Int.reduceLT, Int.reduceLE, Int.reduceEq, Int.reduceToNat, Int.reduceBEq, (h2 hca hcb).resolve_left (by simp)]) | skip
    all_goals refine callWp_of (h5 a b ka) ?_
    all_goals simp only [walk, Nat.reduceLT, Nat.reduceBEq, Nat.reduceAdd, Nat.reduceLeDiff, reduceIte, Int.reduceLT, Int.reduceLE, Int.reduceEq, Int.reduceToNat, Int.reduceBEq, hs, beq_self_eq_true]
    all_goals refine callWp_of hA ?_
    all_goals simp only [walk, Nat.reduceLT, Nat.reduceBEq, Nat.reduceAdd, Nat.reduceLeDiff, reduceIte, Int.reduceLT, Int.reduceLE, Int.reduceEq, Int.reduceToNat, Int.reduceBEq]
  · simp only [walk, Nat.reduceLT, Nat.reduceBEq, Nat.reduceAdd, Nat.reduceLeDiff, reduceIte, Int.reduceLT, Int.reduceLE, Int.reduceEq, Int.reduceToNat, Int.reduceBEq, w1, g1, d1, d2]
    refine callWp_of (h7 a b ka kb) ?_
    cases hab : under a b
    all_goals rw [hab] at hux h2
    rotate_left
    have d4 := of_decide_eq_false (hux rfl)
    simp only [walk, Nat.reduceLT, Nat.reduceBEq, Nat.reduceAdd, Nat.reduceLeDiff, reduceIte, Int.reduceLT, Int.reduceLE, Int.reduceEq, Int.reduceToNat, Int.reduceBEq, d4]
    rotate_right
    simp only [walk, Nat.reduceLT, Nat.reduceBEq, Nat.reduceAdd, Nat.reduceLeDiff, reduceIte, Int.reduceLT, Int.reduceLE, Int.reduceEq, Int.reduceToNat, Int.reduceBEq]
    all_goals refine callWp_of (h7 c a kc ka) ?_
    all_goals cases hca : under c a
    all_goals simp only [walk, Nat.reduceLT, Nat.reduceBEq, Nat.reduceAdd, Nat.reduceLeDiff, reduceIte, Int.reduceLT, Int.reduceLE, Int.reduceEq, Int.reduceToNat, Int.reduceBEq]
    all_goals first | (refine callWp_of (h7 c b kc kb) ?_; cases hcb : under c b <;> simp only [walk, Nat.reduceLT, Nat.reduceBEq, Nat.reduceAdd, Nat.reduceLeDiff, reduceIte, Int.reduceLT, Int.reduceLE, Int.reduceEq, Int.reduceToNat, Int.reduceBEq]) | skip
    all_goals first | (refine callWp_of (h7 a b ka kb) ?_; simp only [walk, Nat.reduceLT, Nat.reduceBEq, Nat.reduceAdd, Nat.reduceLeDiff, reduceIte, Int.reduceLT, Int.reduceLE, Int.reduceEq, Int.reduceToNat, Int.reduceBEq, hab]) | skip
    all_goals first | (refine callWp_of (h7 b a kb ka) ?_; simp only [walk, Nat.reduceLT, Nat.reduceBEq, Nat.reduceAdd, Nat.reduceLeDiff, reduceIte, Int.reduceLT, Int.reduceLE, Int.reduceEq, Int.reduceToNat, Int.reduceBEq, (h2 hca hcb).resolve_left (by simp)]) | skip
    all_goals refine callWp_of (h5 a b ka) ?_
    all_goals simp only [walk, Nat.reduceLT, Nat.reduceBEq, Nat.reduceAdd, Nat.reduceLeDiff, reduceIte, Int.reduceLT, Int.reduceLE, Int.reduceEq, Int.reduceToNat, Int.reduceBEq, hs, beq_self_eq_true]
    all_goals refine callWp_of hA ?_
    all_goals simp only [walk, Nat.reduceLT, Nat.reduceBEq, Nat.reduceAdd, Nat.reduceLeDiff, reduceIte, Int.reduceLT, Int.reduceLE, Int.reduceEq, Int.reduceToNat, Int.reduceBEq]
  · simp only [walk, Nat.reduceLT, Nat.reduceBEq, Nat.reduceAdd, Nat.reduceLeDiff, reduceIte, Int.reduceLT, Int.reduceLE, Int.reduceEq, Int.reduceToNat, Int.reduceBEq, w1, g1, d1]
    refine callWp_of (h7 a b ka kb) ?_
    cases hab : under a b
    all_goals rw [hab] at hux h2
    rotate_left
    have d4 := of_decide_eq_false (hux rfl)
    simp only [walk, Nat.reduceLT, Nat.reduceBEq, Nat.reduceAdd, Nat.reduceLeDiff, reduceIte, Int.reduceLT, Int.reduceLE, Int.reduceEq, Int.reduceToNat, Int.reduceBEq, d4]
    rotate_right
    simp only [walk, Nat.reduceLT, Nat.reduceBEq, Nat.reduceAdd, Nat.reduceLeDiff, reduceIte, Int.reduceLT, Int.reduceLE, Int.reduceEq, Int.reduceToNat, Int.reduceBEq]
    all_goals refine callWp_of (h7 c a kc ka) ?_
    all_goals cases hca : under c a
    all_goals simp only [walk, Nat.reduceLT, Nat.reduceBEq, Nat.reduceAdd, Nat.reduceLeDiff, reduceIte, Int.reduceLT, Int.reduceLE, Int.reduceEq, Int.reduceToNat, Int.reduceBEq]
    all_goals first | (refine callWp_of (h7 c b kc kb) ?_; cases hcb : under c b <;> simp only [walk, Nat.reduceLT, Nat.reduceBEq, Nat.reduceAdd, Nat.reduceLeDiff, reduceIte, Int.reduceLT, Int.reduceLE, Int.reduceEq, Int.reduceToNat, Int.reduceBEq]) | skip
    all_goals first | (refine callWp_of (h7 a b ka kb) ?_; simp only [walk, Nat.reduceLT, Nat.reduceBEq, Nat.reduceAdd, Nat.reduceLeDiff, reduceIte, Int.reduceLT, Int.reduceLE, Int.reduceEq, Int.reduceToNat, Int.reduceBEq, hab]) | skip
    all_goals first | (refine callWp_of (h7 b a kb ka) ?_; simp only [walk, Nat.reduceLT, Nat.reduceBEq, Nat.reduceAdd, Nat.reduceLeDiff, reduceIte, Int.reduceLT, Int.reduceLE, Int.reduceEq, Int.reduceToNat, Int.reduceBEq, (h2 hca hcb).resolve_left (by simp)]) | skip
    all_goals refine callWp_of (h5 a b ka) ?_
    all_goals simp only [walk, Nat.reduceLT, Nat.reduceBEq, Nat.reduceAdd, Nat.reduceLeDiff, reduceIte, Int.reduceLT, Int.reduceLE, Int.reduceEq, Int.reduceToNat, Int.reduceBEq, hs, beq_self_eq_true]
    all_goals refine callWp_of hA ?_
    all_goals simp only [walk, Nat.reduceLT, Nat.reduceBEq, Nat.reduceAdd, Nat.reduceLeDiff, reduceIte, Int.reduceLT, Int.reduceLE, Int.reduceEq, Int.reduceToNat, Int.reduceBEq]
end
end Go.AR

/-! Paths: what is read. -/
namespace Go.AR
open Go
section
variable {C : CallRel} {F : Nat → FuncId}
theorem rPath_ok {s : List UInt8} {b : Int} (hs : s.length ≤ 20000000) : pOk (rPath s b).1 := by
  have := rd_ok (b := b) hs
  rw [rPath_eq]
  unfold rPathOf
  generalize rdTexts (rMany 8 s b).1.toNat (rMany 8 s b).2.1 (rMany 8 s b).2.2 = q at *
  dsimp only
  by_cases h : (if q.2.2 = 0 then pCheck q.1 else q.2.2) = 0
  · rw [if_pos h]; exact this
  · rw [if_neg h]; exact ⟨by simp, by simp⟩
theorem g_PathReads (hA : S_yes (C (F n_plaw10_awake))) (h1 : S_Open (C (F n_pack_Open))) (h2 : S_pRead (C (F n_path_Read))) (h3 : S_XPath (C (F n_pref10_Read))) (h4 : S_xSame (C (F n_pref03_Same))) (h5 : S_Fault (C (F n_pack_Reader_Fault))) (h6 : S_Left (C (F n_pack_Reader_Left))) (h7 : S_XLeft (C (F n_pref02_Reader_Left))) : S_n1 ((c_plaw10_PathReads F).gives C) := by
  intro s
  refine gives_of rfl ?_
  unfold c_plaw10_PathReads
  simp only [walk, Nat.reduceLT, Nat.reduceBEq, Nat.reduceAdd, Nat.reduceLeDiff, reduceIte, Int.reduceLT, Int.reduceLE, Int.reduceEq, Int.reduceToNat, Int.reduceBEq, gt_iff_lt]
  by_cases hl : 500 < s.length
  · have hl' : (500 : Int) < s.length := by omega
    have c0 : (500 : Int) ≤ s.length := by omega
    simp only [walk, Nat.reduceLT, Nat.reduceBEq, Nat.reduceAdd, Nat.reduceLeDiff, reduceIte, Int.reduceLT, Int.reduceLE, Int.reduceEq, Int.reduceToNat, Int.reduceBEq, hl', c0]
    have hlen : (s.take 500).length ≤ 500 := by rw [List.length_take]; omega
    generalize s.take 500 = u at *
    refine callWp_of (h1 _) ?_
    have hX : X u u 0 = .cells [.val (.str u), .val (.int .i64 0), .val (.int .i64 0)] := by simp [X, xdr]
    have k3 := h3 u u 0 (by omega) (List.suffix_refl _)
    have hsuf := rPath_suf u 0
    have hok := (rPath_ok (s := u) (b := 0) (by omega)).1
    rw [hX] at k3
    simp only [walk, Nat.reduceLT, Nat.reduceBEq, Nat.reduceAdd, Nat.reduceLeDiff, reduceIte, Int.reduceLT, Int.reduceLE, Int.reduceEq, Int.reduceToNat, Int.reduceBEq]
    refine callWp_of (h2 u 0 (by omega)) ?_
    simp only [walk, Nat.reduceLT, Nat.reduceBEq, Nat.reduceAdd, Nat.reduceLeDiff, reduceIte, Int.reduceLT, Int.reduceLE, Int.reduceEq, Int.reduceToNat, Int.reduceBEq]
    refine callWp_of k3 ?_
    generalize rPath u 0 = r at *
    have hl := hsuf.length_le
    simp only [walk, Nat.reduceLT, Nat.reduceBEq, Nat.reduceAdd, Nat.reduceLeDiff, reduceIte, Int.reduceLT, Int.reduceLE, Int.reduceEq, Int.reduceToNat, Int.reduceBEq]
    refine callWp_of (h4 _ _ (by omega)) ?_
    simp only [walk, Nat.reduceLT, Nat.reduceBEq, Nat.reduceAdd, Nat.reduceLeDiff, reduceIte, Int.reduceLT, Int.reduceLE, Int.reduceEq, Int.reduceToNat, Int.reduceBEq, beq_self_eq_true]
    refine callWp_of (h5 _ _) ?_
    simp only [walk, Nat.reduceLT, Nat.reduceBEq, Nat.reduceAdd, Nat.reduceLeDiff, reduceIte, Int.reduceLT, Int.reduceLE, Int.reduceEq, Int.reduceToNat, Int.reduceBEq, X, xdr, beq_self_eq_true]
    refine callWp_of (h6 _ _ (by unfold sLen; omega)) ?_
    simp only [walk, Nat.reduceLT, Nat.reduceBEq, Nat.reduceAdd, Nat.reduceLeDiff, reduceIte, Int.reduceLT, Int.reduceLE, Int.reduceEq, Int.reduceToNat, Int.reduceBEq]
    refine callWp_of (h7 u r.2.1 r.2.2 (by unfold sLen; omega) hsuf) ?_
    simp only [walk, Nat.reduceLT, Nat.reduceBEq, Nat.reduceAdd, Nat.reduceLeDiff, reduceIte, Int.reduceLT, Int.reduceLE, Int.reduceEq, Int.reduceToNat, Int.reduceBEq, beq_self_eq_true]
    refine callWp_of hA ?_
    simp only [walk, Nat.reduceLT, Nat.reduceBEq, Nat.reduceAdd, Nat.reduceLeDiff, reduceIte, Int.reduceLT, Int.reduceLE, Int.reduceEq, Int.reduceToNat, Int.reduceBEq]
  · have hl' : ¬ (500 : Int) < s.length := by omega
    have hlen : s.length ≤ 500 := by omega
    simp only [walk, Nat.reduceLT, Nat.reduceBEq, Nat.reduceAdd, Nat.reduceLeDiff, reduceIte, Int.reduceLT, Int.reduceLE, Int.reduceEq, Int.reduceToNat, Int.reduceBEq, hl']
    generalize s = u at *
    refine callWp_of (h1 _) ?_
    have hX : X u u 0 = .cells [.val (.str u), .val (.int .i64 0), .val (.int .i64 0)] := by simp [X, xdr]
    have k3 := h3 u u 0 (by omega) (List.suffix_refl _)
    have hsuf := rPath_suf u 0
    have hok := (rPath_ok (s := u) (b := 0) (by omega)).1
    rw [hX] at k3
    simp only [walk, Nat.reduceLT, Nat.reduceBEq, Nat.reduceAdd, Nat.reduceLeDiff, reduceIte, Int.reduceLT, Int.reduceLE, Int.reduceEq, Int.reduceToNat, Int.reduceBEq]
    refine callWp_of (h2 u 0 (by omega)) ?_
    simp only [walk, Nat.reduceLT, Nat.reduceBEq, Nat.reduceAdd, Nat.reduceLeDiff, reduceIte, Int.reduceLT, Int.reduceLE, Int.reduceEq, Int.reduceToNat, Int.reduceBEq]
    refine callWp_of k3 ?_
    generalize rPath u 0 = r at *
    have hl := hsuf.length_le
    simp only [walk, Nat.reduceLT, Nat.reduceBEq, Nat.reduceAdd, Nat.reduceLeDiff, reduceIte, Int.reduceLT, Int.reduceLE, Int.reduceEq, Int.reduceToNat, Int.reduceBEq]
    refine callWp_of (h4 _ _ (by omega)) ?_
    simp only [walk, Nat.reduceLT, Nat.reduceBEq, Nat.reduceAdd, Nat.reduceLeDiff, reduceIte, Int.reduceLT, Int.reduceLE, Int.reduceEq, Int.reduceToNat, Int.reduceBEq, beq_self_eq_true]
    refine callWp_of (h5 _ _) ?_
    simp only [walk, Nat.reduceLT, Nat.reduceBEq, Nat.reduceAdd, Nat.reduceLeDiff, reduceIte, Int.reduceLT, Int.reduceLE, Int.reduceEq, Int.reduceToNat, Int.reduceBEq, X, xdr, beq_self_eq_true]
    refine callWp_of (h6 _ _ (by unfold sLen; omega)) ?_
    simp only [walk, Nat.reduceLT, Nat.reduceBEq, Nat.reduceAdd, Nat.reduceLeDiff, reduceIte, Int.reduceLT, Int.reduceLE, Int.reduceEq, Int.reduceToNat, Int.reduceBEq]
    refine callWp_of (h7 u r.2.1 r.2.2 (by unfold sLen; omega) hsuf) ?_
    simp only [walk, Nat.reduceLT, Nat.reduceBEq, Nat.reduceAdd, Nat.reduceLeDiff, reduceIte, Int.reduceLT, Int.reduceLE, Int.reduceEq, Int.reduceToNat, Int.reduceBEq, beq_self_eq_true]
    refine callWp_of hA ?_
    simp only [walk, Nat.reduceLT, Nat.reduceBEq, Nat.reduceAdd, Nat.reduceLeDiff, reduceIte, Int.reduceLT, Int.reduceLE, Int.reduceEq, Int.reduceToNat, Int.reduceBEq]
def S_pBack (R : Rel) : Prop := ∀ p, pOk p → R [.v (ptP p)] (.val (.bool true)) []
theorem g_PathBack (hA : S_yes (C (F n_plaw10_awake))) (h0 : S_pCheck (C (F n_pref10_Check))) (h1 : S_pText (C (F n_path_Text))) (h2 : S_pParse (C (F n_path_Parse))) (h3 : S_pCode (C (F n_path_Code))) (h4 : S_Open (C (F n_pack_Open))) (h5 : S_xSame (C (F n_pref03_Same))) (h6 : S_pRead (C (F n_path_Read))) (h7 : S_End (C (F n_pack_Reader_End))) : S_pBack ((c_plaw10_PathBack F).gives C) := by
  intro p hp
  refine gives_of rfl ?_
  unfold c_plaw10_PathBack
  simp only [walk, Nat.reduceLT, Nat.reduceBEq, Nat.reduceAdd, Nat.reduceLeDiff, reduceIte, Int.reduceLT, Int.reduceLE, Int.reduceEq, Int.reduceToNat, Int.reduceBEq]
  refine callWp_of (h0 p hp) ?_
  by_cases hc : pCheck p = 0
  · have hl := hp.1
    have hcl : (pCode p).length ≤ 20000000 := by
      obtain ⟨_, k1, k2⟩ := pCheck_zero hc
      have key : ∀ (p : List (List UInt8)), (∀ s ∈ p, s.length ≤ 96) → ((p.map pText).flatten).length ≤ p.length * 200 := by
        intro p
        induction p with
        | nil => simp
        | cons a p ih =>
          intro h
          have h2 := h a (by simp)
          have h3 : (vint a.length).length ≤ 11 := vint_len 10 _ (by omega)
          have ih := ih (fun s hs => h s (by simp [hs]))
          rw [List.map_cons, List.flatten_cons, List.length_append, pText, List.length_append, List.length_cons]
          omega
      have := key p (fun s hs => (right_len (k2 s hs)).1)
      have h3 := pInt_len (n := p.length) (i64ok_nat (by omega))
      rw [pCode, List.length_append]; omega
    simp only [walk, Nat.reduceLT, Nat.reduceBEq, Nat.reduceAdd, Nat.reduceLeDiff, reduceIte, Int.reduceLT, Int.reduceLE, Int.reduceEq, Int.reduceToNat, Int.reduceBEq, hc, bne_self_eq_false]
    refine callWp_of (h1 p hp) ?_
    simp only [walk, Nat.reduceLT, Nat.reduceBEq, Nat.reduceAdd, Nat.reduceLeDiff, reduceIte, Int.reduceLT, Int.reduceLE, Int.reduceEq, Int.reduceToNat, Int.reduceBEq]
    refine callWp_of (h2 _ (join_small hc)) ?_
    simp only [walk, Nat.reduceLT, Nat.reduceBEq, Nat.reduceAdd, Nat.reduceLeDiff, reduceIte, Int.reduceLT, Int.reduceLE, Int.reduceEq, Int.reduceToNat, Int.reduceBEq, pParse_join hc, parP]
    refine callWp_of (h3 p hp) ?_
    simp only [walk, Nat.reduceLT, Nat.reduceBEq, Nat.reduceAdd, Nat.reduceLeDiff, reduceIte, Int.reduceLT, Int.reduceLE, Int.reduceEq, Int.reduceToNat, Int.reduceBEq]
    refine callWp_of (h4 _) ?_
    simp only [walk, Nat.reduceLT, Nat.reduceBEq, Nat.reduceAdd, Nat.reduceLeDiff, reduceIte, Int.reduceLT, Int.reduceLE, Int.reduceEq, Int.reduceToNat, Int.reduceBEq]
    refine callWp_of (h5 p p (by omega)) ?_
    simp only [walk, Nat.reduceLT, Nat.reduceBEq, Nat.reduceAdd, Nat.reduceLeDiff, reduceIte, Int.reduceLT, Int.reduceLE, Int.reduceEq, Int.reduceToNat, Int.reduceBEq, beq_self_eq_true]
    refine callWp_of (h6 _ _ hcl) ?_
    have hr := rPath_code hc []
    rw [List.append_nil] at hr
    simp only [walk, Nat.reduceLT, Nat.reduceBEq, Nat.reduceAdd, Nat.reduceLeDiff, reduceIte, Int.reduceLT, Int.reduceLE, Int.reduceEq, Int.reduceToNat, Int.reduceBEq, hr]
    refine callWp_of (h5 p p (by omega)) ?_
    simp only [walk, Nat.reduceLT, Nat.reduceBEq, Nat.reduceAdd, Nat.reduceLeDiff, reduceIte, Int.reduceLT, Int.reduceLE, Int.reduceEq, Int.reduceToNat, Int.reduceBEq, beq_self_eq_true]
    refine callWp_of (h7 _ _ (by unfold sLen; simp)) ?_
    have he : rEnd [] 0 = 0 := rfl
    simp only [walk, Nat.reduceLT, Nat.reduceBEq, Nat.reduceAdd, Nat.reduceLeDiff, reduceIte, Int.reduceLT, Int.reduceLE, Int.reduceEq, Int.reduceToNat, Int.reduceBEq, he]
    refine callWp_of hA ?_
    simp only [walk, Nat.reduceLT, Nat.reduceBEq, Nat.reduceAdd, Nat.reduceLeDiff, reduceIte, Int.reduceLT, Int.reduceLE, Int.reduceEq, Int.reduceToNat, Int.reduceBEq]
  · have hc' : (pCheck p != 0) = true := by simp [hc]
    simp only [walk, Nat.reduceLT, Nat.reduceBEq, Nat.reduceAdd, Nat.reduceLeDiff, reduceIte, Int.reduceLT, Int.reduceLE, Int.reduceEq, Int.reduceToNat, Int.reduceBEq, hc']
    refine callWp_of hA ?_
    simp only [walk, Nat.reduceLT, Nat.reduceBEq, Nat.reduceAdd, Nat.reduceLeDiff, reduceIte, Int.reduceLT, Int.reduceLE, Int.reduceEq, Int.reduceToNat, Int.reduceBEq]
end
end Go.AR
