import Derived.Test.YtkankogmljifiaaDoorG34
set_option linter.all false
/-! Operations: what is read. -/
namespace Go.AR
open Go
section
variable {C : CallRel} {F : Nat → FuncId}
def S_oRead (R : Rel) : Prop := ∀ s b, s.length ≤ 20000000 → R [.r (rdr s b)] (.val (oP (rdOp s b).1)) [rdr (rdOp s b).2.1 (rdOp s b).2.2]
def S_XOp (R : Rel) : Prop := ∀ S s b, S.length ≤ 20000000 → s <:+ S → R [.r (X S s b)] (.val (oP (rdOp s b).1)) [X S (rdOp s b).2.1 (rdOp s b).2.2]
theorem rPath_ok {s : List UInt8} {b : Int} (hs : s.length ≤ 20000000) : pOk (rPath s b).1 := by
  have := rd_ok (b := b) hs
  rw [rPath_eq]
  unfold rPathOf
  generalize rdTexts (rMany 8 s b).1.toNat (rMany 8 s b).2.1 (rMany 8 s b).2.2 = q at *
  dsimp only
  by_cases h : (if q.2.2 = 0 then pCheck q.1 else q.2.2) = 0
  · rw [if_pos h]; exact this
  · rw [if_neg h]; exact ⟨by simp, by simp⟩
theorem rdVal_suf (s : List UInt8) (b : Int) : (rdVal s b).2.1 <:+ s := by
  unfold rdVal
  dsimp only
  by_cases h : (rI s b).1 = 2
  · rw [if_pos h]; exact (rText_suf _ _).trans (rI_suf s b)
  · rw [if_neg h]; exact (rI_suf _ _).trans (rI_suf s b)
theorem rdVal_len (s : List UInt8) (b : Int) : (rdVal s b).1.2.2.length ≤ s.length := by
  have key : ∀ (e : Int) (v : Vl), (if e = 0 then v else z0).2.2.length ≤ v.2.2.length := by
    intro e v; by_cases h : e = 0 <;> simp [h, z0]
  unfold rdVal
  dsimp only
  have h0 := (rI_suf s b).length_le
  have h1 := rText_ok (rI s b).2.1 (rI s b).2.2
  by_cases h : (rI s b).1 = 2
  · rw [if_pos h]
    exact Nat.le_trans (key _ _) (by dsimp only; omega)
  · rw [if_neg h]
    exact Nat.le_trans (key _ _) (by simp)
theorem rdRefs_suf : ∀ (n : Nat) (s : List UInt8) (b : Int), (rdRefs n s b).2.1 <:+ s
  | 0, s, b => List.suffix_refl _
  | n + 1, s, b => (rdRefs_suf n _ _).trans ((rI_suf _ _).trans (rdDot_suf s b))
theorem rdRefs_len : ∀ (n : Nat) (s : List UInt8) (b : Int), (rdRefs n s b).1.length = n
  | 0, s, b => rfl
  | n + 1, s, b => by simp [rdRefs, rdRefs_len n]
theorem rdSeen_suf (s : List UInt8) (b : Int) : (rdSeen s b).2.1 <:+ s := (rdRefs_suf _ _ _).trans (rMany_suf 256 s b)
theorem rdSeen_len (s : List UInt8) (b : Int) : (rdSeen s b).1.length ≤ 256 := by
  have := rMany_lt 256 s b (by omega)
  unfold rdSeen
  rw [rdRefs_len]; omega
/-- What is left once the inside is read. -/
def rdEnd (q : Ov × List UInt8 × Int) : Ov × List UInt8 × Int :=
  (if (if q.2.2 = 0 then oCheck q.1 else q.2.2) = 0 then q.1 else zop, q.2.1, if q.2.2 = 0 then oCheck q.1 else q.2.2)
theorem rdOp_eq (s : List UInt8) (b : Int) : rdOp s b = if (rI s b).1 = 0 then (zop, (rI s b).2) else rdEnd (rdIn (rI s b).1 (rPath (rI s b).2.1 (rI s b).2.2).1 (rPath (rI s b).2.1 (rI s b).2.2).2.1 (rPath (rI s b).2.1 (rI s b).2.2).2.2) := rfl
theorem g_op_Read (hI : S_rInt (C (F n_pack_Reader_Int))) (hP : S_pRead (C (F n_path_Read))) (hU : S_unfold (C (F n_value_Unfold))) (hV : S_vRead (C (F n_value_Read))) (hS : S_seen (C (F n_op_seen))) (hF : S_Fault (C (F n_pack_Reader_Fault))) (hC : S_oCheck (C (F n_op_Check))) (hX : S_Fail (C (F n_pack_Reader_Fail))) : S_oRead ((c_op_Read F).gives C) := by
  intro s b hs
  have hsL : sLen s := by unfold sLen; omega
  refine gives_of rfl ?_
  unfold c_op_Read
  simp only [walk, Nat.reduceLT, Nat.reduceBEq, Nat.reduceAdd, Nat.reduceLeDiff, reduceIte, Int.reduceLT, Int.reduceLE, Int.reduceEq, Int.reduceToNat, Int.reduceBEq]
  refine callWp_of (hI s b hsL) ?_
  rw [rdOp_eq]
  have h1 := (rI_suf s b).length_le
  generalize rI s b = x at *
  obtain ⟨k, s1, b1⟩ := x
  simp only at h1
  simp only [walk, Nat.reduceLT, Nat.reduceBEq, Nat.reduceAdd, Nat.reduceLeDiff, reduceIte, Int.reduceLT, Int.reduceLE, Int.reduceEq, Int.reduceToNat, Int.reduceBEq, layT, vCells, ieq]
  by_cases k0 : k = 0
  · subst k0
    simp only [walk, Nat.reduceLT, Nat.reduceBEq, Nat.reduceAdd, Nat.reduceLeDiff, reduceIte, Int.reduceLT, Int.reduceLE, Int.reduceEq, Int.reduceToNat, Int.reduceBEq]
    rfl
  simp only [walk, Nat.reduceLT, Nat.reduceBEq, Nat.reduceAdd, Nat.reduceLeDiff, reduceIte, Int.reduceLT, Int.reduceLE, Int.reduceEq, Int.reduceToNat, Int.reduceBEq, k0]
  refine callWp_of (hP s1 b1 (by omega)) ?_
  have h2 := (rPath_suf s1 b1).length_le
  have hpo := rPath_ok (s := s1) (b := b1) (by omega)
  generalize rPath s1 b1 = y at *
  obtain ⟨p, s2, b2⟩ := y
  simp only at h2 hpo
  simp only [walk, Nat.reduceLT, Nat.reduceBEq, Nat.reduceAdd, Nat.reduceLeDiff, reduceIte, Int.reduceLT, Int.reduceLE, Int.reduceEq, Int.reduceToNat, Int.reduceBEq, layT, vCells, ieq]
  unfold rdIn
  by_cases k3 : k = 3
  · subst k3
    simp only [walk, Nat.reduceLT, Nat.reduceBEq, Nat.reduceAdd, Nat.reduceLeDiff, reduceIte, Int.reduceLT, Int.reduceLE, Int.reduceEq, Int.reduceToNat, Int.reduceBEq]
    refine callWp_of (hI s2 b2 (by unfold sLen; omega)) ?_
    have h3 := rI_lt s2 b2
    generalize rI s2 b2 = z at *
    obtain ⟨n, s9, b9⟩ := z
    simp only at h3
    simp only [walk, Nat.reduceLT, Nat.reduceBEq, Nat.reduceAdd, Nat.reduceLeDiff, reduceIte, Int.reduceLT, Int.reduceLE, Int.reduceEq, Int.reduceToNat, Int.reduceBEq]
    refine callWp_of (hU n h3.1 h3.2.1) ?_
    simp only [walk, Nat.reduceLT, Nat.reduceBEq, Nat.reduceAdd, Nat.reduceLeDiff, reduceIte, Int.reduceLT, Int.reduceLE, Int.reduceEq, Int.reduceToNat, Int.reduceBEq, layT, vCells, ieq]
    refine callWp_of (hF _ _) ?_
    have hok : oOk ⟨3, p, z0, unfoldI n, []⟩ := ⟨hpo, by simp [z0], by simp⟩
    unfold rdEnd
    by_cases hb : b9 = 0
    · have e : (b9 == 0) = true := by simp [hb]
      simp only [walk, Nat.reduceLT, Nat.reduceBEq, Nat.reduceAdd, Nat.reduceLeDiff, reduceIte, Int.reduceLT, Int.reduceLE, Int.reduceEq, Int.reduceToNat, Int.reduceBEq, e]
      refine callWp_of (hC ⟨3, p, z0, unfoldI n, []⟩ hok) ?_
      generalize hc : oCheck ⟨3, p, z0, unfoldI n, []⟩ = c
      simp only [walk, Nat.reduceLT, Nat.reduceBEq, Nat.reduceAdd, Nat.reduceLeDiff, reduceIte, Int.reduceLT, Int.reduceLE, Int.reduceEq, Int.reduceToNat, Int.reduceBEq]
      refine callWp_of (hX _ _ _) ?_
      simp only [walk, Nat.reduceLT, Nat.reduceBEq, Nat.reduceAdd, Nat.reduceLeDiff, reduceIte, Int.reduceLT, Int.reduceLE, Int.reduceEq, Int.reduceToNat, Int.reduceBEq]
      refine callWp_of (hF _ _) ?_
      rw [failB, if_pos hb]
      by_cases h0 : c = 0
      · simp only [walk, Nat.reduceLT, Nat.reduceBEq, Nat.reduceAdd, Nat.reduceLeDiff, reduceIte, Int.reduceLT, Int.reduceLE, Int.reduceEq, Int.reduceToNat, Int.reduceBEq, bne_self_eq_false, hb, hc, h0]
        all_goals rfl
      · have e2 : (c != 0) = true := by simp [h0]
        simp only [walk, Nat.reduceLT, Nat.reduceBEq, Nat.reduceAdd, Nat.reduceLeDiff, reduceIte, Int.reduceLT, Int.reduceLE, Int.reduceEq, Int.reduceToNat, Int.reduceBEq, e2, hb, hc, h0]
        rfl
    · have e : (b9 == 0) = false := by rw [beq_eq_false_iff_ne]; exact hb
      have e2 : (b9 != 0) = true := by simp [hb]
      simp only [walk, Nat.reduceLT, Nat.reduceBEq, Nat.reduceAdd, Nat.reduceLeDiff, reduceIte, Int.reduceLT, Int.reduceLE, Int.reduceEq, Int.reduceToNat, Int.reduceBEq, e]
      refine callWp_of (hF _ _) ?_
      simp only [walk, Nat.reduceLT, Nat.reduceBEq, Nat.reduceAdd, Nat.reduceLeDiff, reduceIte, Int.reduceLT, Int.reduceLE, Int.reduceEq, Int.reduceToNat, Int.reduceBEq, e2, hb]
      rfl
  by_cases k1 : k = 1
  · subst k1
    simp only [walk, Nat.reduceLT, Nat.reduceBEq, Nat.reduceAdd, Nat.reduceLeDiff, reduceIte, Int.reduceLT, Int.reduceLE, Int.reduceEq, Int.reduceToNat, Int.reduceBEq, layT, vCells, ieq, or_true, true_or, or_false, false_or]
    refine callWp_of (hV s2 b2 (by omega)) ?_
    have h3 := rdVal_len s2 b2
    have h4 := (rdVal_suf s2 b2).length_le
    generalize rdVal s2 b2 = w at *
    obtain ⟨v, s3, b3⟩ := w
    simp only at h3 h4
    simp only [walk, Nat.reduceLT, Nat.reduceBEq, Nat.reduceAdd, Nat.reduceLeDiff, reduceIte, Int.reduceLT, Int.reduceLE, Int.reduceEq, Int.reduceToNat, Int.reduceBEq]
    refine callWp_of (hS s3 b3 (by unfold sLen; omega)) ?_
    have h5 := rdSeen_len s3 b3
    generalize rdSeen s3 b3 = z at *
    obtain ⟨rs, s9, b9⟩ := z
    simp only at h5
    simp only [walk, Nat.reduceLT, Nat.reduceBEq, Nat.reduceAdd, Nat.reduceLeDiff, reduceIte, Int.reduceLT, Int.reduceLE, Int.reduceEq, Int.reduceToNat, Int.reduceBEq, layT, vCells, ieq]
    refine callWp_of (hF _ _) ?_
    have hok : oOk ⟨1, p, v, 0, rs⟩ := ⟨hpo, by simp only; omega, by simp only; omega⟩
    unfold rdEnd
    by_cases hb : b9 = 0
    · have e : (b9 == 0) = true := by simp [hb]
      simp only [walk, Nat.reduceLT, Nat.reduceBEq, Nat.reduceAdd, Nat.reduceLeDiff, reduceIte, Int.reduceLT, Int.reduceLE, Int.reduceEq, Int.reduceToNat, Int.reduceBEq, e]
      refine callWp_of (hC ⟨1, p, v, 0, rs⟩ hok) ?_
      generalize hc : oCheck ⟨1, p, v, 0, rs⟩ = c
      simp only [walk, Nat.reduceLT, Nat.reduceBEq, Nat.reduceAdd, Nat.reduceLeDiff, reduceIte, Int.reduceLT, Int.reduceLE, Int.reduceEq, Int.reduceToNat, Int.reduceBEq]
      refine callWp_of (hX _ _ _) ?_
      simp only [walk, Nat.reduceLT, Nat.reduceBEq, Nat.reduceAdd, Nat.reduceLeDiff, reduceIte, Int.reduceLT, Int.reduceLE, Int.reduceEq, Int.reduceToNat, Int.reduceBEq]
      refine callWp_of (hF _ _) ?_
      rw [failB, if_pos hb]
      by_cases h0 : c = 0
      · simp only [walk, Nat.reduceLT, Nat.reduceBEq, Nat.reduceAdd, Nat.reduceLeDiff, reduceIte, Int.reduceLT, Int.reduceLE, Int.reduceEq, Int.reduceToNat, Int.reduceBEq, bne_self_eq_false, hb, hc, h0]
        all_goals rfl
      · have e2 : (c != 0) = true := by simp [h0]
        simp only [walk, Nat.reduceLT, Nat.reduceBEq, Nat.reduceAdd, Nat.reduceLeDiff, reduceIte, Int.reduceLT, Int.reduceLE, Int.reduceEq, Int.reduceToNat, Int.reduceBEq, e2, hb, hc, h0]
        rfl
    · have e : (b9 == 0) = false := by rw [beq_eq_false_iff_ne]; exact hb
      have e2 : (b9 != 0) = true := by simp [hb]
      simp only [walk, Nat.reduceLT, Nat.reduceBEq, Nat.reduceAdd, Nat.reduceLeDiff, reduceIte, Int.reduceLT, Int.reduceLE, Int.reduceEq, Int.reduceToNat, Int.reduceBEq, e]
      refine callWp_of (hF _ _) ?_
      simp only [walk, Nat.reduceLT, Nat.reduceBEq, Nat.reduceAdd, Nat.reduceLeDiff, reduceIte, Int.reduceLT, Int.reduceLE, Int.reduceEq, Int.reduceToNat, Int.reduceBEq, e2, hb]
      rfl
  by_cases k4 : k = 4
  · subst k4
    simp only [walk, Nat.reduceLT, Nat.reduceBEq, Nat.reduceAdd, Nat.reduceLeDiff, reduceIte, Int.reduceLT, Int.reduceLE, Int.reduceEq, Int.reduceToNat, Int.reduceBEq, layT, vCells, ieq, or_true, true_or, or_false, false_or]
    refine callWp_of (hV s2 b2 (by omega)) ?_
    have h3 := rdVal_len s2 b2
    have h4 := (rdVal_suf s2 b2).length_le
    generalize rdVal s2 b2 = w at *
    obtain ⟨v, s3, b3⟩ := w
    simp only at h3 h4
    simp only [walk, Nat.reduceLT, Nat.reduceBEq, Nat.reduceAdd, Nat.reduceLeDiff, reduceIte, Int.reduceLT, Int.reduceLE, Int.reduceEq, Int.reduceToNat, Int.reduceBEq]
    refine callWp_of (hS s3 b3 (by unfold sLen; omega)) ?_
    have h5 := rdSeen_len s3 b3
    generalize rdSeen s3 b3 = z at *
    obtain ⟨rs, s9, b9⟩ := z
    simp only at h5
    simp only [walk, Nat.reduceLT, Nat.reduceBEq, Nat.reduceAdd, Nat.reduceLeDiff, reduceIte, Int.reduceLT, Int.reduceLE, Int.reduceEq, Int.reduceToNat, Int.reduceBEq, layT, vCells, ieq]
    refine callWp_of (hF _ _) ?_
    have hok : oOk ⟨4, p, v, 0, rs⟩ := ⟨hpo, by simp only; omega, by simp only; omega⟩
    unfold rdEnd
    by_cases hb : b9 = 0
    · have e : (b9 == 0) = true := by simp [hb]
      simp only [walk, Nat.reduceLT, Nat.reduceBEq, Nat.reduceAdd, Nat.reduceLeDiff, reduceIte, Int.reduceLT, Int.reduceLE, Int.reduceEq, Int.reduceToNat, Int.reduceBEq, e]
      refine callWp_of (hC ⟨4, p, v, 0, rs⟩ hok) ?_
      generalize hc : oCheck ⟨4, p, v, 0, rs⟩ = c
      simp only [walk, Nat.reduceLT, Nat.reduceBEq, Nat.reduceAdd, Nat.reduceLeDiff, reduceIte, Int.reduceLT, Int.reduceLE, Int.reduceEq, Int.reduceToNat, Int.reduceBEq]
      refine callWp_of (hX _ _ _) ?_
      simp only [walk, Nat.reduceLT, Nat.reduceBEq, Nat.reduceAdd, Nat.reduceLeDiff, reduceIte, Int.reduceLT, Int.reduceLE, Int.reduceEq, Int.reduceToNat, Int.reduceBEq]
      refine callWp_of (hF _ _) ?_
      rw [failB, if_pos hb]
      by_cases h0 : c = 0
      · simp only [walk, Nat.reduceLT, Nat.reduceBEq, Nat.reduceAdd, Nat.reduceLeDiff, reduceIte, Int.reduceLT, Int.reduceLE, Int.reduceEq, Int.reduceToNat, Int.reduceBEq, bne_self_eq_false, hb, hc, h0]
        all_goals rfl
      · have e2 : (c != 0) = true := by simp [h0]
        simp only [walk, Nat.reduceLT, Nat.reduceBEq, Nat.reduceAdd, Nat.reduceLeDiff, reduceIte, Int.reduceLT, Int.reduceLE, Int.reduceEq, Int.reduceToNat, Int.reduceBEq, e2, hb, hc, h0]
        rfl
    · have e : (b9 == 0) = false := by rw [beq_eq_false_iff_ne]; exact hb
      have e2 : (b9 != 0) = true := by simp [hb]
      simp only [walk, Nat.reduceLT, Nat.reduceBEq, Nat.reduceAdd, Nat.reduceLeDiff, reduceIte, Int.reduceLT, Int.reduceLE, Int.reduceEq, Int.reduceToNat, Int.reduceBEq, e]
      refine callWp_of (hF _ _) ?_
      simp only [walk, Nat.reduceLT, Nat.reduceBEq, Nat.reduceAdd, Nat.reduceLeDiff, reduceIte, Int.reduceLT, Int.reduceLE, Int.reduceEq, Int.reduceToNat, Int.reduceBEq, e2, hb]
      rfl
  by_cases k2 : k = 2
  · subst k2
    simp only [walk, Nat.reduceLT, Nat.reduceBEq, Nat.reduceAdd, Nat.reduceLeDiff, reduceIte, Int.reduceLT, Int.reduceLE, Int.reduceEq, Int.reduceToNat, Int.reduceBEq, layT, vCells, ieq, or_self]
    refine callWp_of (hV s2 b2 (by omega)) ?_
    have h3 := rdVal_len s2 b2
    generalize rdVal s2 b2 = w at *
    obtain ⟨v, s9, b9⟩ := w
    simp only at h3
    simp only [walk, Nat.reduceLT, Nat.reduceBEq, Nat.reduceAdd, Nat.reduceLeDiff, reduceIte, Int.reduceLT, Int.reduceLE, Int.reduceEq, Int.reduceToNat, Int.reduceBEq, layT, vCells, ieq]
    refine callWp_of (hF _ _) ?_
    have hok : oOk ⟨2, p, v, 0, []⟩ := ⟨hpo, by simp only; omega, by simp⟩
    unfold rdEnd
    by_cases hb : b9 = 0
    · have e : (b9 == 0) = true := by simp [hb]
      simp only [walk, Nat.reduceLT, Nat.reduceBEq, Nat.reduceAdd, Nat.reduceLeDiff, reduceIte, Int.reduceLT, Int.reduceLE, Int.reduceEq, Int.reduceToNat, Int.reduceBEq, e]
      refine callWp_of (hC ⟨2, p, v, 0, []⟩ hok) ?_
      generalize hc : oCheck ⟨2, p, v, 0, []⟩ = c
      simp only [walk, Nat.reduceLT, Nat.reduceBEq, Nat.reduceAdd, Nat.reduceLeDiff, reduceIte, Int.reduceLT, Int.reduceLE, Int.reduceEq, Int.reduceToNat, Int.reduceBEq]
      refine callWp_of (hX _ _ _) ?_
      simp only [walk, Nat.reduceLT, Nat.reduceBEq, Nat.reduceAdd, Nat.reduceLeDiff, reduceIte, Int.reduceLT, Int.reduceLE, Int.reduceEq, Int.reduceToNat, Int.reduceBEq]
      refine callWp_of (hF _ _) ?_
      rw [failB, if_pos hb]
      by_cases h0 : c = 0
      · simp only [walk, Nat.reduceLT, Nat.reduceBEq, Nat.reduceAdd, Nat.reduceLeDiff, reduceIte, Int.reduceLT, Int.reduceLE, Int.reduceEq, Int.reduceToNat, Int.reduceBEq, bne_self_eq_false, hb, hc, h0]
        all_goals rfl
      · have e2 : (c != 0) = true := by simp [h0]
        simp only [walk, Nat.reduceLT, Nat.reduceBEq, Nat.reduceAdd, Nat.reduceLeDiff, reduceIte, Int.reduceLT, Int.reduceLE, Int.reduceEq, Int.reduceToNat, Int.reduceBEq, e2, hb, hc, h0]
        rfl
    · have e : (b9 == 0) = false := by rw [beq_eq_false_iff_ne]; exact hb
      have e2 : (b9 != 0) = true := by simp [hb]
      simp only [walk, Nat.reduceLT, Nat.reduceBEq, Nat.reduceAdd, Nat.reduceLeDiff, reduceIte, Int.reduceLT, Int.reduceLE, Int.reduceEq, Int.reduceToNat, Int.reduceBEq, e]
      refine callWp_of (hF _ _) ?_
      simp only [walk, Nat.reduceLT, Nat.reduceBEq, Nat.reduceAdd, Nat.reduceLeDiff, reduceIte, Int.reduceLT, Int.reduceLE, Int.reduceEq, Int.reduceToNat, Int.reduceBEq, e2, hb]
      rfl
  by_cases k5 : k = 5
  · subst k5
    simp only [walk, Nat.reduceLT, Nat.reduceBEq, Nat.reduceAdd, Nat.reduceLeDiff, reduceIte, Int.reduceLT, Int.reduceLE, Int.reduceEq, Int.reduceToNat, Int.reduceBEq, layT, vCells, ieq, or_self]
    refine callWp_of (hS s2 b2 (by unfold sLen; omega)) ?_
    have h5 := rdSeen_len s2 b2
    generalize rdSeen s2 b2 = z at *
    obtain ⟨rs, s9, b9⟩ := z
    simp only at h5
    simp only [walk, Nat.reduceLT, Nat.reduceBEq, Nat.reduceAdd, Nat.reduceLeDiff, reduceIte, Int.reduceLT, Int.reduceLE, Int.reduceEq, Int.reduceToNat, Int.reduceBEq, layT, vCells, ieq]
    refine callWp_of (hF _ _) ?_
    have hok : oOk ⟨5, p, z0, 0, rs⟩ := ⟨hpo, by simp [z0], by simp only; omega⟩
    unfold rdEnd
    by_cases hb : b9 = 0
    · have e : (b9 == 0) = true := by simp [hb]
      simp only [walk, Nat.reduceLT, Nat.reduceBEq, Nat.reduceAdd, Nat.reduceLeDiff, reduceIte, Int.reduceLT, Int.reduceLE, Int.reduceEq, Int.reduceToNat, Int.reduceBEq, e]
      refine callWp_of (hC ⟨5, p, z0, 0, rs⟩ hok) ?_
      generalize hc : oCheck ⟨5, p, z0, 0, rs⟩ = c
      simp only [walk, Nat.reduceLT, Nat.reduceBEq, Nat.reduceAdd, Nat.reduceLeDiff, reduceIte, Int.reduceLT, Int.reduceLE, Int.reduceEq, Int.reduceToNat, Int.reduceBEq]
      refine callWp_of (hX _ _ _) ?_
      simp only [walk, Nat.reduceLT, Nat.reduceBEq, Nat.reduceAdd, Nat.reduceLeDiff, reduceIte, Int.reduceLT, Int.reduceLE, Int.reduceEq, Int.reduceToNat, Int.reduceBEq]
      refine callWp_of (hF _ _) ?_
      rw [failB, if_pos hb]
      by_cases h0 : c = 0
      · simp only [walk, Nat.reduceLT, Nat.reduceBEq, Nat.reduceAdd, Nat.reduceLeDiff, reduceIte, Int.reduceLT, Int.reduceLE, Int.reduceEq, Int.reduceToNat, Int.reduceBEq, bne_self_eq_false, hb, hc, h0]
        all_goals rfl
      · have e2 : (c != 0) = true := by simp [h0]
        simp only [walk, Nat.reduceLT, Nat.reduceBEq, Nat.reduceAdd, Nat.reduceLeDiff, reduceIte, Int.reduceLT, Int.reduceLE, Int.reduceEq, Int.reduceToNat, Int.reduceBEq, e2, hb, hc, h0]
        rfl
    · have e : (b9 == 0) = false := by rw [beq_eq_false_iff_ne]; exact hb
      have e2 : (b9 != 0) = true := by simp [hb]
      simp only [walk, Nat.reduceLT, Nat.reduceBEq, Nat.reduceAdd, Nat.reduceLeDiff, reduceIte, Int.reduceLT, Int.reduceLE, Int.reduceEq, Int.reduceToNat, Int.reduceBEq, e]
      refine callWp_of (hF _ _) ?_
      simp only [walk, Nat.reduceLT, Nat.reduceBEq, Nat.reduceAdd, Nat.reduceLeDiff, reduceIte, Int.reduceLT, Int.reduceLE, Int.reduceEq, Int.reduceToNat, Int.reduceBEq, e2, hb]
      rfl
  simp only [walk, Nat.reduceLT, Nat.reduceBEq, Nat.reduceAdd, Nat.reduceLeDiff, reduceIte, Int.reduceLT, Int.reduceLE, Int.reduceEq, Int.reduceToNat, Int.reduceBEq, layT, vCells, ieq, k3, k1, k4, k2, k5, or_self]
  generalize s2 = s9 at *
  generalize b2 = b9 at *
  refine callWp_of (hF _ _) ?_
  have hok : oOk ⟨k, p, z0, 0, []⟩ := ⟨hpo, by simp [z0], by simp⟩
  unfold rdEnd
  by_cases hb : b9 = 0
  · have e : (b9 == 0) = true := by simp [hb]
    simp only [walk, Nat.reduceLT, Nat.reduceBEq, Nat.reduceAdd, Nat.reduceLeDiff, reduceIte, Int.reduceLT, Int.reduceLE, Int.reduceEq, Int.reduceToNat, Int.reduceBEq, e]
    refine callWp_of (hC ⟨k, p, z0, 0, []⟩ hok) ?_
    generalize hc : oCheck ⟨k, p, z0, 0, []⟩ = c
    simp only [walk, Nat.reduceLT, Nat.reduceBEq, Nat.reduceAdd, Nat.reduceLeDiff, reduceIte, Int.reduceLT, Int.reduceLE, Int.reduceEq, Int.reduceToNat, Int.reduceBEq]
    refine callWp_of (hX _ _ _) ?_
    simp only [walk, Nat.reduceLT, Nat.reduceBEq, Nat.reduceAdd, Nat.reduceLeDiff, reduceIte, Int.reduceLT, Int.reduceLE, Int.reduceEq, Int.reduceToNat, Int.reduceBEq]
    refine callWp_of (hF _ _) ?_
    rw [failB, if_pos hb]
    by_cases h0 : c = 0
    · simp only [walk, Nat.reduceLT, Nat.reduceBEq, Nat.reduceAdd, Nat.reduceLeDiff, reduceIte, Int.reduceLT, Int.reduceLE, Int.reduceEq, Int.reduceToNat, Int.reduceBEq, bne_self_eq_false, hb, hc, h0]
      all_goals rfl
    · have e2 : (c != 0) = true := by simp [h0]
      simp only [walk, Nat.reduceLT, Nat.reduceBEq, Nat.reduceAdd, Nat.reduceLeDiff, reduceIte, Int.reduceLT, Int.reduceLE, Int.reduceEq, Int.reduceToNat, Int.reduceBEq, e2, hb, hc, h0]
      rfl
  · have e : (b9 == 0) = false := by rw [beq_eq_false_iff_ne]; exact hb
    have e2 : (b9 != 0) = true := by simp [hb]
    simp only [walk, Nat.reduceLT, Nat.reduceBEq, Nat.reduceAdd, Nat.reduceLeDiff, reduceIte, Int.reduceLT, Int.reduceLE, Int.reduceEq, Int.reduceToNat, Int.reduceBEq, e]
    refine callWp_of (hF _ _) ?_
    simp only [walk, Nat.reduceLT, Nat.reduceBEq, Nat.reduceAdd, Nat.reduceLeDiff, reduceIte, Int.reduceLT, Int.reduceLE, Int.reduceEq, Int.reduceToNat, Int.reduceBEq, e2, hb]
    rfl
end
end Go.AR

/-! Operations: what the document reads. -/
namespace Go.AR
open Go
section
variable {C : CallRel} {F : Nat → FuncId}
theorem nils7 : nilsOf [.int .i64 0, .sl 1 [], .int .i64 0, .int .i64 0, .str [], .int .i64 0, .sl 3 []] [] = [1, 6] := rfl
theorem tag7 : tagT [.int .i64 0, .sl 1 [], .int .i64 0, .int .i64 0, .str [], .int .i64 0, .sl 3 []] [1, 6] 0 = [.val (.int .i64 0), .own 1 [], .val (.int .i64 0), .val (.int .i64 0), .val (.str []), .val (.int .i64 0), .own 3 []] := rfl
abbrev z7B : Blk := .cells [.val (.int .i64 0), .own 1 [], .val (.int .i64 0), .val (.int .i64 0), .val (.str []), .val (.int .i64 0), .own 3 []]
abbrev oB' (k : Int) (p : List (List UInt8)) (v : Vl) (am : Int) (l : List Ud) : Blk := .cells [.val (.int .i64 k), .val (ptP p), .val (.int .i64 v.1), .val (.int .i64 v.2.1), .val (.str v.2.2), .val (.int .i64 am), .own 3 (uRows l)]
theorem rdSeen_eq (s : List UInt8) (b : Int) : rdSeen s b = rdRefs (rMany 256 s b).1.toNat (rMany 256 s b).2.1 (rMany 256 s b).2.2 := rfl
theorem g_pref11_Read (hI : S_XInt (C (F n_pref02_Reader_Int))) (hP : S_XPath (C (F n_pref10_Read))) (hU : S_unfold (C (F n_pref09_Unfold))) (hV : S_XVal (C (F n_pref09_Read))) (hM : S_XMany (C (F n_pref02_Reader_Many))) (hD : S_XDot (C (F n_pref04_Read))) (hC : S_oCheck (C (F n_pref11_Check))) (hX : S_XFail (C (F n_pref02_Reader_Fail))) : S_XOp ((c_pref11_Read F).gives C) := by
  intro S s b hS hs
  have hSL : sLen S := by unfold sLen; omega
  refine gives_of rfl ?_
  unfold c_pref11_Read
  simp only [walk, Nat.reduceLT, Nat.reduceBEq, Nat.reduceAdd, Nat.reduceLeDiff, reduceIte, Int.reduceLT, Int.reduceLE, Int.reduceEq, Int.reduceToNat, Int.reduceBEq, nils7, tag7]
  refine callWp_of (hI S s b hSL hs) ?_
  rw [rdOp_eq]
  have h1 := (rI_suf s b).trans hs
  generalize rI s b = x at *
  obtain ⟨k, s1, b1⟩ := x
  simp only at h1
  simp only [walk, Nat.reduceLT, Nat.reduceBEq, Nat.reduceAdd, Nat.reduceLeDiff, reduceIte, Int.reduceLT, Int.reduceLE, Int.reduceEq, Int.reduceToNat, Int.reduceBEq, ieq]
  by_cases k0 : k = 0
  · subst k0
    simp only [walk, Nat.reduceLT, Nat.reduceBEq, Nat.reduceAdd, Nat.reduceLeDiff, reduceIte, Int.reduceLT, Int.reduceLE, Int.reduceEq, Int.reduceToNat, Int.reduceBEq]
    rfl
  simp only [walk, Nat.reduceLT, Nat.reduceBEq, Nat.reduceAdd, Nat.reduceLeDiff, reduceIte, Int.reduceLT, Int.reduceLE, Int.reduceEq, Int.reduceToNat, Int.reduceBEq, k0]
  refine callWp_of (hP S s1 b1 hS h1) ?_
  have h2 := (rPath_suf s1 b1).trans h1
  have hpo := rPath_ok (s := s1) (b := b1) (by have := h1.length_le; omega)
  generalize rPath s1 b1 = y at *
  obtain ⟨p, s2, b2⟩ := y
  simp only at h2 hpo
  simp only [walk, Nat.reduceLT, Nat.reduceBEq, Nat.reduceAdd, Nat.reduceLeDiff, reduceIte, Int.reduceLT, Int.reduceLE, Int.reduceEq, Int.reduceToNat, Int.reduceBEq, ieq]
  unfold rdIn
  by_cases k3 : k = 3
  · subst k3
    simp only [walk, Nat.reduceLT, Nat.reduceBEq, Nat.reduceAdd, Nat.reduceLeDiff, reduceIte, Int.reduceLT, Int.reduceLE, Int.reduceEq, Int.reduceToNat, Int.reduceBEq]
    refine callWp_of (hI S s2 b2 hSL h2) ?_
    have h3 := rI_lt s2 b2
    have h4 := (rI_suf s2 b2).trans h2
    generalize rI s2 b2 = z at *
    obtain ⟨n, s9, b9⟩ := z
    simp only at h3 h4
    simp only [walk, Nat.reduceLT, Nat.reduceBEq, Nat.reduceAdd, Nat.reduceLeDiff, reduceIte, Int.reduceLT, Int.reduceLE, Int.reduceEq, Int.reduceToNat, Int.reduceBEq]
    refine callWp_of (hU n h3.1 h3.2.1) ?_
    simp only [walk, Nat.reduceLT, Nat.reduceBEq, Nat.reduceAdd, Nat.reduceLeDiff, reduceIte, Int.reduceLT, Int.reduceLE, Int.reduceEq, Int.reduceToNat, Int.reduceBEq, layT, vCells, ieq, X, xdr]
    have hok : oOk ⟨3, p, z0, unfoldI n, []⟩ := ⟨hpo, by simp [z0], by simp⟩
    unfold rdEnd
    by_cases hb : b9 = 0
    · simp only [walk, Nat.reduceLT, Nat.reduceBEq, Nat.reduceAdd, Nat.reduceLeDiff, reduceIte, Int.reduceLT, Int.reduceLE, Int.reduceEq, Int.reduceToNat, Int.reduceBEq, hb]
      refine callWp_of (hC ⟨3, p, z0, unfoldI n, []⟩ hok) ?_
      generalize hc : oCheck ⟨3, p, z0, unfoldI n, []⟩ = c
      simp only [walk, Nat.reduceLT, Nat.reduceBEq, Nat.reduceAdd, Nat.reduceLeDiff, reduceIte, Int.reduceLT, Int.reduceLE, Int.reduceEq, Int.reduceToNat, Int.reduceBEq]
      refine callWp_of (hX S s9 0 c) ?_
      simp only [walk, Nat.reduceLT, Nat.reduceBEq, Nat.reduceAdd, Nat.reduceLeDiff, reduceIte, Int.reduceLT, Int.reduceLE, Int.reduceEq, Int.reduceToNat, Int.reduceBEq, X, xdr, failB, ine, ne_eq, decide_not]
      by_cases h0 : c = 0
      · simp only [walk, Nat.reduceLT, Nat.reduceBEq, Nat.reduceAdd, Nat.reduceLeDiff, reduceIte, Int.reduceLT, Int.reduceLE, Int.reduceEq, Int.reduceToNat, Int.reduceBEq, hc, h0]
        all_goals rfl
      · simp only [walk, Nat.reduceLT, Nat.reduceBEq, Nat.reduceAdd, Nat.reduceLeDiff, reduceIte, Int.reduceLT, Int.reduceLE, Int.reduceEq, Int.reduceToNat, Int.reduceBEq, hc, h0]
        all_goals rfl
    · simp only [walk, Nat.reduceLT, Nat.reduceBEq, Nat.reduceAdd, Nat.reduceLeDiff, reduceIte, Int.reduceLT, Int.reduceLE, Int.reduceEq, Int.reduceToNat, Int.reduceBEq, hb, ine, ne_eq, decide_not]
      all_goals rfl
  by_cases k1 : k = 1
  · subst k1
    simp only [walk, Nat.reduceLT, Nat.reduceBEq, Nat.reduceAdd, Nat.reduceLeDiff, reduceIte, Int.reduceLT, Int.reduceLE, Int.reduceEq, Int.reduceToNat, Int.reduceBEq, ieq]
    refine callWp_of (hV S s2 b2 hS h2) ?_
    have h3 := rdVal_len s2 b2
    have h4 := (rdVal_suf s2 b2).trans h2
    generalize rdVal s2 b2 = w at *
    obtain ⟨v, s3, b3⟩ := w
    simp only at h3 h4
    have hvl : v.2.2.length ≤ 20000000 := by have := h2.length_le; omega
    simp only [walk, Nat.reduceLT, Nat.reduceBEq, Nat.reduceAdd, Nat.reduceLeDiff, reduceIte, Int.reduceLT, Int.reduceLE, Int.reduceEq, Int.reduceToNat, Int.reduceBEq, layT, vCells, ieq, or_true, true_or, or_false, false_or, or_self]
    refine callWp_of (hM S s3 b3 256 hSL h4) ?_
    have hm := rMany_lt 256 s3 b3 (by omega)
    have hsl := rdSeen_len s3 b3
    rw [rdSeen_eq] at hsl ⊢
    have hsuf := (rMany_suf 256 s3 b3).trans h4
    generalize rMany 256 s3 b3 = m at *
    obtain ⟨m1, s4, b4⟩ := m
    simp only at hm hsuf hsl
    simp only [walk, Nat.reduceLT, Nat.reduceBEq, Nat.reduceAdd, Nat.reduceLeDiff, reduceIte, Int.reduceLT, Int.reduceLE, Int.reduceEq, Int.reduceToNat, Int.reduceBEq, layT, vCells, ieq]
    generalize hq : rdRefs m1.toNat s4 b4 = q at *
    refine awp_loop_ind (X := Nat × List Ud × List UInt8 × Int) (fun x => ⟨[(0, .lp 0 0), (2, .lp 2 0), (3, .lp 3 0), (4, .val (.int .i64 m1)), (5, .val (.int .i64 x.1)), (13, .val (.bool false)), (20, .val (.bool false)), (37, .val (.bool true)), (53, .val (.bool true))], [(0, X S x.2.2.1 x.2.2.2), (2, z7B), (3, oB' 1 p v 0 x.2.1)]⟩)
      (fun x => x.1 ≤ m1.toNat ∧ x.2.1.length = x.1 ∧ x.2.2.1 <:+ S ∧ (x.2.1 ++ (rdRefs (m1.toNat - x.1) x.2.2.1 x.2.2.2).1, (rdRefs (m1.toNat - x.1) x.2.2.1 x.2.2.2).2) = q) (fun x => m1.toNat - x.1) (0, [], s4, b4) ⟨by omega, by simp, hsuf, by simpa using hq⟩ rfl ?_
    rintro R ⟨j, l, t, e⟩ ⟨g1, g2, g3, hJ⟩ ih
    simp only at g1 g2 g3 hJ
    have hb2 : (l.length + 1) * 24 ≤ 140737488355328 := by omega
    simp only [walk, Nat.reduceLT, Nat.reduceBEq, Nat.reduceAdd, Nat.reduceLeDiff, reduceIte, Int.reduceLT, Int.reduceLE, Int.reduceEq, Int.reduceToNat, Int.reduceBEq]
    by_cases c : j < m1.toNat
    · have c1 : (j : Int) < m1 := by omega
      have e1 : IntKind.i64.wrap ((j : Int) + 1) = ((j + 1 : Nat) : Int) := wrap64 (by omega) (by omega)
      simp only [walk, Nat.reduceLT, Nat.reduceBEq, Nat.reduceAdd, Nat.reduceLeDiff, reduceIte, Int.reduceLT, Int.reduceLE, Int.reduceEq, Int.reduceToNat, Int.reduceBEq, c1]
      refine callWp_of (hD S t e hSL g3) ?_
      rw [rdRefs_step _ _ _ _ _ c] at hJ
      have h5 := (rdDot_suf t e).trans g3
      have h6 := (rI_suf (rdDot t e).2.1 (rdDot t e).2.2).trans h5
      have step := ih (j + 1, l ++ [((rdDot t e).1, (rI (rdDot t e).2.1 (rdDot t e).2.2).1)], (rI (rdDot t e).2.1 (rdDot t e).2.2).2.1, (rI (rdDot t e).2.1 (rdDot t e).2.2).2.2) ⟨by simp only; omega, by simp; omega, h6, hJ⟩ (by simp only; omega)
      unfold oB' at step
      rw [← uRows_app] at step
      simp only [walk, Nat.reduceLT, Nat.reduceBEq, Nat.reduceAdd, Nat.reduceLeDiff, reduceIte, Int.reduceLT, Int.reduceLE, Int.reduceEq, Int.reduceToNat, Int.reduceBEq, layT]
      refine callWp_of (hI S _ _ hSL h5) ?_
      simp only [walk, Nat.reduceLT, Nat.reduceBEq, Nat.reduceAdd, Nat.reduceLeDiff, reduceIte, Int.reduceLT, Int.reduceLE, Int.reduceEq, Int.reduceToNat, Int.reduceBEq, uRows_len, hb2, e1]
      exact step
    · have c1 : ¬ (j : Int) < m1 := by omega
      rw [show m1.toNat - j = 0 by omega, rdRefs] at hJ
      simp only [List.append_nil] at hJ
      subst hJ
      simp only at hsl
      simp only [walk, Nat.reduceLT, Nat.reduceBEq, Nat.reduceAdd, Nat.reduceLeDiff, reduceIte, Int.reduceLT, Int.reduceLE, Int.reduceEq, Int.reduceToNat, Int.reduceBEq, c1, ieq, X, xdr]
      generalize t = s9 at *
      generalize e = b9 at *
      have hok : oOk ⟨1, p, v, 0, l⟩ := ⟨hpo, hvl, by simp only; omega⟩
      unfold rdEnd
      by_cases hb : b9 = 0
      · simp only [walk, Nat.reduceLT, Nat.reduceBEq, Nat.reduceAdd, Nat.reduceLeDiff, reduceIte, Int.reduceLT, Int.reduceLE, Int.reduceEq, Int.reduceToNat, Int.reduceBEq, hb]
        refine callWp_of (hC ⟨1, p, v, 0, l⟩ hok) ?_
        generalize hc : oCheck ⟨1, p, v, 0, l⟩ = c
        simp only [walk, Nat.reduceLT, Nat.reduceBEq, Nat.reduceAdd, Nat.reduceLeDiff, reduceIte, Int.reduceLT, Int.reduceLE, Int.reduceEq, Int.reduceToNat, Int.reduceBEq]
        refine callWp_of (hX S s9 0 c) ?_
        simp only [walk, Nat.reduceLT, Nat.reduceBEq, Nat.reduceAdd, Nat.reduceLeDiff, reduceIte, Int.reduceLT, Int.reduceLE, Int.reduceEq, Int.reduceToNat, Int.reduceBEq, X, xdr, failB, ine, ne_eq, decide_not]
        by_cases h0 : c = 0
        · simp only [walk, Nat.reduceLT, Nat.reduceBEq, Nat.reduceAdd, Nat.reduceLeDiff, reduceIte, Int.reduceLT, Int.reduceLE, Int.reduceEq, Int.reduceToNat, Int.reduceBEq, hc, h0]
          all_goals rfl
        · simp only [walk, Nat.reduceLT, Nat.reduceBEq, Nat.reduceAdd, Nat.reduceLeDiff, reduceIte, Int.reduceLT, Int.reduceLE, Int.reduceEq, Int.reduceToNat, Int.reduceBEq, hc, h0]
          all_goals rfl
      · simp only [walk, Nat.reduceLT, Nat.reduceBEq, Nat.reduceAdd, Nat.reduceLeDiff, reduceIte, Int.reduceLT, Int.reduceLE, Int.reduceEq, Int.reduceToNat, Int.reduceBEq, hb, ine, ne_eq, decide_not]
        all_goals rfl
  by_cases k4 : k = 4
  · subst k4
    simp only [walk, Nat.reduceLT, Nat.reduceBEq, Nat.reduceAdd, Nat.reduceLeDiff, reduceIte, Int.reduceLT, Int.reduceLE, Int.reduceEq, Int.reduceToNat, Int.reduceBEq, ieq]
    refine callWp_of (hV S s2 b2 hS h2) ?_
    have h3 := rdVal_len s2 b2
    have h4 := (rdVal_suf s2 b2).trans h2
    generalize rdVal s2 b2 = w at *
    obtain ⟨v, s3, b3⟩ := w
    simp only at h3 h4
    have hvl : v.2.2.length ≤ 20000000 := by have := h2.length_le; omega
    simp only [walk, Nat.reduceLT, Nat.reduceBEq, Nat.reduceAdd, Nat.reduceLeDiff, reduceIte, Int.reduceLT, Int.reduceLE, Int.reduceEq, Int.reduceToNat, Int.reduceBEq, layT, vCells, ieq, or_true, true_or, or_false, false_or, or_self]
    refine callWp_of (hM S s3 b3 256 hSL h4) ?_
    have hm := rMany_lt 256 s3 b3 (by omega)
    have hsl := rdSeen_len s3 b3
    rw [rdSeen_eq] at hsl ⊢
    have hsuf := (rMany_suf 256 s3 b3).trans h4
    generalize rMany 256 s3 b3 = m at *
    obtain ⟨m1, s4, b4⟩ := m
    simp only at hm hsuf hsl
    simp only [walk, Nat.reduceLT, Nat.reduceBEq, Nat.reduceAdd, Nat.reduceLeDiff, reduceIte, Int.reduceLT, Int.reduceLE, Int.reduceEq, Int.reduceToNat, Int.reduceBEq, layT, vCells, ieq]
    generalize hq : rdRefs m1.toNat s4 b4 = q at *
    refine awp_loop_ind (X := Nat × List Ud × List UInt8 × Int) (fun x => ⟨[(0, .lp 0 0), (2, .lp 2 0), (3, .lp 3 0), (4, .val (.int .i64 m1)), (5, .val (.int .i64 x.1)), (13, .val (.bool false)), (20, .val (.bool false)), (37, .val (.bool true)), (53, .val (.bool true))], [(0, X S x.2.2.1 x.2.2.2), (2, z7B), (3, oB' 4 p v 0 x.2.1)]⟩)
      (fun x => x.1 ≤ m1.toNat ∧ x.2.1.length = x.1 ∧ x.2.2.1 <:+ S ∧ (x.2.1 ++ (rdRefs (m1.toNat - x.1) x.2.2.1 x.2.2.2).1, (rdRefs (m1.toNat - x.1) x.2.2.1 x.2.2.2).2) = q) (fun x => m1.toNat - x.1) (0, [], s4, b4) ⟨by omega, by simp, hsuf, by simpa using hq⟩ rfl ?_
    rintro R ⟨j, l, t, e⟩ ⟨g1, g2, g3, hJ⟩ ih
    simp only at g1 g2 g3 hJ
    have hb2 : (l.length + 1) * 24 ≤ 140737488355328 := by omega
    simp only [walk, Nat.reduceLT, Nat.reduceBEq, Nat.reduceAdd, Nat.reduceLeDiff, reduceIte, Int.reduceLT, Int.reduceLE, Int.reduceEq, Int.reduceToNat, Int.reduceBEq]
    by_cases c : j < m1.toNat
    · have c1 : (j : Int) < m1 := by omega
      have e1 : IntKind.i64.wrap ((j : Int) + 1) = ((j + 1 : Nat) : Int) := wrap64 (by omega) (by omega)
      simp only [walk, Nat.reduceLT, Nat.reduceBEq, Nat.reduceAdd, Nat.reduceLeDiff, reduceIte, Int.reduceLT, Int.reduceLE, Int.reduceEq, Int.reduceToNat, Int.reduceBEq, c1]
      refine callWp_of (hD S t e hSL g3) ?_
      rw [rdRefs_step _ _ _ _ _ c] at hJ
      have h5 := (rdDot_suf t e).trans g3
      have h6 := (rI_suf (rdDot t e).2.1 (rdDot t e).2.2).trans h5
      have step := ih (j + 1, l ++ [((rdDot t e).1, (rI (rdDot t e).2.1 (rdDot t e).2.2).1)], (rI (rdDot t e).2.1 (rdDot t e).2.2).2.1, (rI (rdDot t e).2.1 (rdDot t e).2.2).2.2) ⟨by simp only; omega, by simp; omega, h6, hJ⟩ (by simp only; omega)
      unfold oB' at step
      rw [← uRows_app] at step
      simp only [walk, Nat.reduceLT, Nat.reduceBEq, Nat.reduceAdd, Nat.reduceLeDiff, reduceIte, Int.reduceLT, Int.reduceLE, Int.reduceEq, Int.reduceToNat, Int.reduceBEq, layT]
      refine callWp_of (hI S _ _ hSL h5) ?_
      simp only [walk, Nat.reduceLT, Nat.reduceBEq, Nat.reduceAdd, Nat.reduceLeDiff, reduceIte, Int.reduceLT, Int.reduceLE, Int.reduceEq, Int.reduceToNat, Int.reduceBEq, uRows_len, hb2, e1]
      exact step
    · have c1 : ¬ (j : Int) < m1 := by omega
      rw [show m1.toNat - j = 0 by omega, rdRefs] at hJ
      simp only [List.append_nil] at hJ
      subst hJ
      simp only at hsl
      simp only [walk, Nat.reduceLT, Nat.reduceBEq, Nat.reduceAdd, Nat.reduceLeDiff, reduceIte, Int.reduceLT, Int.reduceLE, Int.reduceEq, Int.reduceToNat, Int.reduceBEq, c1, ieq, X, xdr]
      generalize t = s9 at *
      generalize e = b9 at *
      have hok : oOk ⟨4, p, v, 0, l⟩ := ⟨hpo, hvl, by simp only; omega⟩
      unfold rdEnd
      by_cases hb : b9 = 0
      · simp only [walk, Nat.reduceLT, Nat.reduceBEq, Nat.reduceAdd, Nat.reduceLeDiff, reduceIte, Int.reduceLT, Int.reduceLE, Int.reduceEq, Int.reduceToNat, Int.reduceBEq, hb]
        refine callWp_of (hC ⟨4, p, v, 0, l⟩ hok) ?_
        generalize hc : oCheck ⟨4, p, v, 0, l⟩ = c
        simp only [walk, Nat.reduceLT, Nat.reduceBEq, Nat.reduceAdd, Nat.reduceLeDiff, reduceIte, Int.reduceLT, Int.reduceLE, Int.reduceEq, Int.reduceToNat, Int.reduceBEq]
        refine callWp_of (hX S s9 0 c) ?_
        simp only [walk, Nat.reduceLT, Nat.reduceBEq, Nat.reduceAdd, Nat.reduceLeDiff, reduceIte, Int.reduceLT, Int.reduceLE, Int.reduceEq, Int.reduceToNat, Int.reduceBEq, X, xdr, failB, ine, ne_eq, decide_not]
        by_cases h0 : c = 0
        · simp only [walk, Nat.reduceLT, Nat.reduceBEq, Nat.reduceAdd, Nat.reduceLeDiff, reduceIte, Int.reduceLT, Int.reduceLE, Int.reduceEq, Int.reduceToNat, Int.reduceBEq, hc, h0]
          all_goals rfl
        · simp only [walk, Nat.reduceLT, Nat.reduceBEq, Nat.reduceAdd, Nat.reduceLeDiff, reduceIte, Int.reduceLT, Int.reduceLE, Int.reduceEq, Int.reduceToNat, Int.reduceBEq, hc, h0]
          all_goals rfl
      · simp only [walk, Nat.reduceLT, Nat.reduceBEq, Nat.reduceAdd, Nat.reduceLeDiff, reduceIte, Int.reduceLT, Int.reduceLE, Int.reduceEq, Int.reduceToNat, Int.reduceBEq, hb, ine, ne_eq, decide_not]
        all_goals rfl
  by_cases k2 : k = 2
  · subst k2
    simp only [walk, Nat.reduceLT, Nat.reduceBEq, Nat.reduceAdd, Nat.reduceLeDiff, reduceIte, Int.reduceLT, Int.reduceLE, Int.reduceEq, Int.reduceToNat, Int.reduceBEq, ieq]
    refine callWp_of (hV S s2 b2 hS h2) ?_
    have h3 := rdVal_len s2 b2
    generalize rdVal s2 b2 = w at *
    obtain ⟨v, s9, b9⟩ := w
    simp only at h3
    have hvl : v.2.2.length ≤ 20000000 := by have := h2.length_le; omega
    simp only [walk, Nat.reduceLT, Nat.reduceBEq, Nat.reduceAdd, Nat.reduceLeDiff, reduceIte, Int.reduceLT, Int.reduceLE, Int.reduceEq, Int.reduceToNat, Int.reduceBEq, layT, vCells, ieq, or_self, X, xdr]
    have hok : oOk ⟨2, p, v, 0, []⟩ := ⟨hpo, hvl, by simp⟩
    unfold rdEnd
    by_cases hb : b9 = 0
    · simp only [walk, Nat.reduceLT, Nat.reduceBEq, Nat.reduceAdd, Nat.reduceLeDiff, reduceIte, Int.reduceLT, Int.reduceLE, Int.reduceEq, Int.reduceToNat, Int.reduceBEq, hb]
      refine callWp_of (hC ⟨2, p, v, 0, []⟩ hok) ?_
      generalize hc : oCheck ⟨2, p, v, 0, []⟩ = c
      simp only [walk, Nat.reduceLT, Nat.reduceBEq, Nat.reduceAdd, Nat.reduceLeDiff, reduceIte, Int.reduceLT, Int.reduceLE, Int.reduceEq, Int.reduceToNat, Int.reduceBEq]
      refine callWp_of (hX S s9 0 c) ?_
      simp only [walk, Nat.reduceLT, Nat.reduceBEq, Nat.reduceAdd, Nat.reduceLeDiff, reduceIte, Int.reduceLT, Int.reduceLE, Int.reduceEq, Int.reduceToNat, Int.reduceBEq, X, xdr, failB, ine, ne_eq, decide_not]
      by_cases h0 : c = 0
      · simp only [walk, Nat.reduceLT, Nat.reduceBEq, Nat.reduceAdd, Nat.reduceLeDiff, reduceIte, Int.reduceLT, Int.reduceLE, Int.reduceEq, Int.reduceToNat, Int.reduceBEq, hc, h0]
        all_goals rfl
      · simp only [walk, Nat.reduceLT, Nat.reduceBEq, Nat.reduceAdd, Nat.reduceLeDiff, reduceIte, Int.reduceLT, Int.reduceLE, Int.reduceEq, Int.reduceToNat, Int.reduceBEq, hc, h0]
        all_goals rfl
    · simp only [walk, Nat.reduceLT, Nat.reduceBEq, Nat.reduceAdd, Nat.reduceLeDiff, reduceIte, Int.reduceLT, Int.reduceLE, Int.reduceEq, Int.reduceToNat, Int.reduceBEq, hb, ine, ne_eq, decide_not]
      all_goals rfl
  by_cases k5 : k = 5
  · subst k5
    have h4 := h2
    have hvl : z0.2.2.length ≤ 20000000 := by simp [z0]
    simp only [walk, Nat.reduceLT, Nat.reduceBEq, Nat.reduceAdd, Nat.reduceLeDiff, reduceIte, Int.reduceLT, Int.reduceLE, Int.reduceEq, Int.reduceToNat, Int.reduceBEq, layT, vCells, ieq, or_true, true_or, or_false, false_or, or_self]
    refine callWp_of (hM S s2 b2 256 hSL h4) ?_
    have hm := rMany_lt 256 s2 b2 (by omega)
    have hsl := rdSeen_len s2 b2
    rw [rdSeen_eq] at hsl ⊢
    have hsuf := (rMany_suf 256 s2 b2).trans h4
    generalize rMany 256 s2 b2 = m at *
    obtain ⟨m1, s4, b4⟩ := m
    simp only at hm hsuf hsl
    simp only [walk, Nat.reduceLT, Nat.reduceBEq, Nat.reduceAdd, Nat.reduceLeDiff, reduceIte, Int.reduceLT, Int.reduceLE, Int.reduceEq, Int.reduceToNat, Int.reduceBEq, layT, vCells, ieq]
    generalize hq : rdRefs m1.toNat s4 b4 = q at *
    refine awp_loop_ind (X := Nat × List Ud × List UInt8 × Int) (fun x => ⟨[(0, .lp 0 0), (2, .lp 2 0), (3, .lp 3 0), (4, .val (.int .i64 m1)), (5, .val (.int .i64 x.1)), (13, .val (.bool false)), (20, .val (.bool false)), (37, .val (.bool false)), (53, .val (.bool true))], [(0, X S x.2.2.1 x.2.2.2), (2, z7B), (3, oB' 5 p z0 0 x.2.1)]⟩)
      (fun x => x.1 ≤ m1.toNat ∧ x.2.1.length = x.1 ∧ x.2.2.1 <:+ S ∧ (x.2.1 ++ (rdRefs (m1.toNat - x.1) x.2.2.1 x.2.2.2).1, (rdRefs (m1.toNat - x.1) x.2.2.1 x.2.2.2).2) = q) (fun x => m1.toNat - x.1) (0, [], s4, b4) ⟨by omega, by simp, hsuf, by simpa using hq⟩ rfl ?_
    rintro R ⟨j, l, t, e⟩ ⟨g1, g2, g3, hJ⟩ ih
    simp only at g1 g2 g3 hJ
    have hb2 : (l.length + 1) * 24 ≤ 140737488355328 := by omega
    simp only [walk, Nat.reduceLT, Nat.reduceBEq, Nat.reduceAdd, Nat.reduceLeDiff, reduceIte, Int.reduceLT, Int.reduceLE, Int.reduceEq, Int.reduceToNat, Int.reduceBEq]
    by_cases c : j < m1.toNat
    · have c1 : (j : Int) < m1 := by omega
      have e1 : IntKind.i64.wrap ((j : Int) + 1) = ((j + 1 : Nat) : Int) := wrap64 (by omega) (by omega)
      simp only [walk, Nat.reduceLT, Nat.reduceBEq, Nat.reduceAdd, Nat.reduceLeDiff, reduceIte, Int.reduceLT, Int.reduceLE, Int.reduceEq, Int.reduceToNat, Int.reduceBEq, c1]
      refine callWp_of (hD S t e hSL g3) ?_
      rw [rdRefs_step _ _ _ _ _ c] at hJ
      have h5 := (rdDot_suf t e).trans g3
      have h6 := (rI_suf (rdDot t e).2.1 (rdDot t e).2.2).trans h5
      have step := ih (j + 1, l ++ [((rdDot t e).1, (rI (rdDot t e).2.1 (rdDot t e).2.2).1)], (rI (rdDot t e).2.1 (rdDot t e).2.2).2.1, (rI (rdDot t e).2.1 (rdDot t e).2.2).2.2) ⟨by simp only; omega, by simp; omega, h6, hJ⟩ (by simp only; omega)
      unfold oB' at step
      rw [← uRows_app] at step
      simp only [walk, Nat.reduceLT, Nat.reduceBEq, Nat.reduceAdd, Nat.reduceLeDiff, reduceIte, Int.reduceLT, Int.reduceLE, Int.reduceEq, Int.reduceToNat, Int.reduceBEq, layT]
      refine callWp_of (hI S _ _ hSL h5) ?_
      simp only [walk, Nat.reduceLT, Nat.reduceBEq, Nat.reduceAdd, Nat.reduceLeDiff, reduceIte, Int.reduceLT, Int.reduceLE, Int.reduceEq, Int.reduceToNat, Int.reduceBEq, uRows_len, hb2, e1]
      exact step
    · have c1 : ¬ (j : Int) < m1 := by omega
      rw [show m1.toNat - j = 0 by omega, rdRefs] at hJ
      simp only [List.append_nil] at hJ
      subst hJ
      simp only at hsl
      simp only [walk, Nat.reduceLT, Nat.reduceBEq, Nat.reduceAdd, Nat.reduceLeDiff, reduceIte, Int.reduceLT, Int.reduceLE, Int.reduceEq, Int.reduceToNat, Int.reduceBEq, c1, ieq, X, xdr]
      generalize t = s9 at *
      generalize e = b9 at *
      have hok : oOk ⟨5, p, z0, 0, l⟩ := ⟨hpo, hvl, by simp only; omega⟩
      unfold rdEnd
      by_cases hb : b9 = 0
      · simp only [walk, Nat.reduceLT, Nat.reduceBEq, Nat.reduceAdd, Nat.reduceLeDiff, reduceIte, Int.reduceLT, Int.reduceLE, Int.reduceEq, Int.reduceToNat, Int.reduceBEq, hb]
        refine callWp_of (hC ⟨5, p, z0, 0, l⟩ hok) ?_
        generalize hc : oCheck ⟨5, p, z0, 0, l⟩ = c
        simp only [walk, Nat.reduceLT, Nat.reduceBEq, Nat.reduceAdd, Nat.reduceLeDiff, reduceIte, Int.reduceLT, Int.reduceLE, Int.reduceEq, Int.reduceToNat, Int.reduceBEq]
        refine callWp_of (hX S s9 0 c) ?_
        simp only [walk, Nat.reduceLT, Nat.reduceBEq, Nat.reduceAdd, Nat.reduceLeDiff, reduceIte, Int.reduceLT, Int.reduceLE, Int.reduceEq, Int.reduceToNat, Int.reduceBEq, X, xdr, failB, ine, ne_eq, decide_not]
        by_cases h0 : c = 0
        · simp only [walk, Nat.reduceLT, Nat.reduceBEq, Nat.reduceAdd, Nat.reduceLeDiff, reduceIte, Int.reduceLT, Int.reduceLE, Int.reduceEq, Int.reduceToNat, Int.reduceBEq, hc, h0]
          all_goals rfl
        · simp only [walk, Nat.reduceLT, Nat.reduceBEq, Nat.reduceAdd, Nat.reduceLeDiff, reduceIte, Int.reduceLT, Int.reduceLE, Int.reduceEq, Int.reduceToNat, Int.reduceBEq, hc, h0]
          all_goals rfl
      · simp only [walk, Nat.reduceLT, Nat.reduceBEq, Nat.reduceAdd, Nat.reduceLeDiff, reduceIte, Int.reduceLT, Int.reduceLE, Int.reduceEq, Int.reduceToNat, Int.reduceBEq, hb, ine, ne_eq, decide_not]
        all_goals rfl
  simp only [walk, Nat.reduceLT, Nat.reduceBEq, Nat.reduceAdd, Nat.reduceLeDiff, reduceIte, Int.reduceLT, Int.reduceLE, Int.reduceEq, Int.reduceToNat, Int.reduceBEq, layT, vCells, ieq, k3, k1, k4, k2, k5, or_self, X, xdr]
  generalize s2 = s9 at *
  generalize b2 = b9 at *
  have hok : oOk ⟨k, p, z0, 0, []⟩ := ⟨hpo, by simp [z0], by simp⟩
  unfold rdEnd
  by_cases hb : b9 = 0
  · simp only [walk, Nat.reduceLT, Nat.reduceBEq, Nat.reduceAdd, Nat.reduceLeDiff, reduceIte, Int.reduceLT, Int.reduceLE, Int.reduceEq, Int.reduceToNat, Int.reduceBEq, hb]
    refine callWp_of (hC ⟨k, p, z0, 0, []⟩ hok) ?_
    generalize hc : oCheck ⟨k, p, z0, 0, []⟩ = c
    simp only [walk, Nat.reduceLT, Nat.reduceBEq, Nat.reduceAdd, Nat.reduceLeDiff, reduceIte, Int.reduceLT, Int.reduceLE, Int.reduceEq, Int.reduceToNat, Int.reduceBEq]
    refine callWp_of (hX S s9 0 c) ?_
    simp only [walk, Nat.reduceLT, Nat.reduceBEq, Nat.reduceAdd, Nat.reduceLeDiff, reduceIte, Int.reduceLT, Int.reduceLE, Int.reduceEq, Int.reduceToNat, Int.reduceBEq, X, xdr, failB, ine, ne_eq, decide_not]
    by_cases h0 : c = 0
    · simp only [walk, Nat.reduceLT, Nat.reduceBEq, Nat.reduceAdd, Nat.reduceLeDiff, reduceIte, Int.reduceLT, Int.reduceLE, Int.reduceEq, Int.reduceToNat, Int.reduceBEq, hc, h0]
      all_goals rfl
    · simp only [walk, Nat.reduceLT, Nat.reduceBEq, Nat.reduceAdd, Nat.reduceLeDiff, reduceIte, Int.reduceLT, Int.reduceLE, Int.reduceEq, Int.reduceToNat, Int.reduceBEq, hc, h0]
      all_goals rfl
  · simp only [walk, Nat.reduceLT, Nat.reduceBEq, Nat.reduceAdd, Nat.reduceLeDiff, reduceIte, Int.reduceLT, Int.reduceLE, Int.reduceEq, Int.reduceToNat, Int.reduceBEq, hb, ine, ne_eq, decide_not]
    all_goals rfl
end
end Go.AR
