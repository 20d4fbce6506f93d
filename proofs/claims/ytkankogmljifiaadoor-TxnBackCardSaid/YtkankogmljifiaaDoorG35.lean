import Derived.Test.YtkankogmljifiaaDoorG33
import Derived.Test.YtkankogmljifiaaDoorG32
import Derived.Test.YtkankogmljifiaaDoorG34
set_option linter.all false
/-! Operations: what is read. -/
namespace Go.AR
open Go
section
variable {C : CallRel} {F : Nat → FuncId}
def S_oRead (R : Rel) : Prop := ∀ s b, s.length ≤ 20000000 → R [.r (rdr s b)] (.val (oP (rdOp s b).1)) [rdr (rdOp s b).2.1 (rdOp s b).2.2]
theorem rPath_ok {s : List UInt8} {b : Int} (hs : s.length ≤ 20000000) : pOk (rPath s b).1 := by
  have := rd_ok (b := b) hs
  rw [rPath_eq]
  unfold rPathOf
  generalize rdTexts (rMany 8 s b).1.toNat (rMany 8 s b).2.1 (rMany 8 s b).2.2 = q at *
  dsimp only
  by_cases h : (if q.2.2 = 0 then pCheck q.1 else q.2.2) = 0
  · rw [if_pos h]; exact this
  · rw [if_neg h]; exact ⟨by simp, by simp⟩
theorem rdVal_suf (s : List UInt8) (b : Int) : (rdVal s b).2.1 <:+ s := by
  unfold rdVal
  dsimp only
  by_cases h : (rI s b).1 = 2
  · rw [if_pos h]; exact (rText_suf _ _).trans (rI_suf s b)
  · rw [if_neg h]; exact (rI_suf _ _).trans (rI_suf s b)
theorem rdVal_len (s : List UInt8) (b : Int) : (rdVal s b).1.2.2.length ≤ s.length := by
  have key : ∀ (e : Int) (v : Vl), (if e = 0 then v else z0).2.2.length ≤ v.2.2.length := by
    intro e v; by_cases h : e = 0 <;> simp [h, z0]
  unfold rdVal
  dsimp only
  have h0 := (rI_suf s b).length_le
  have h1 := rText_ok (rI s b).2.1 (rI s b).2.2
  by_cases h : (rI s b).1 = 2
  · rw [if_pos h]
    exact Nat.le_trans (key _ _) (by dsimp only; omega)
  · rw [if_neg h]
    exact Nat.le_trans (key _ _) (by simp)
theorem rdRefs_suf : ∀ (n : Nat) (s : List UInt8) (b : Int), (rdRefs n s b).2.1 <:+ s
  | 0, s, b => List.suffix_refl _
  | n + 1, s, b => (rdRefs_suf n _ _).trans ((rI_suf _ _).trans (rdDot_suf s b))
theorem rdRefs_len : ∀ (n : Nat) (s : List UInt8) (b : Int), (rdRefs n s b).1.length = n
  | 0, s, b => rfl
  | n + 1, s, b => by simp [rdRefs, rdRefs_len n]
theorem rdSeen_suf (s : List UInt8) (b : Int) : (rdSeen s b).2.1 <:+ s := (rdRefs_suf _ _ _).trans (rMany_suf 256 s b)
theorem rdSeen_len (s : List UInt8) (b : Int) : (rdSeen s b).1.length ≤ 256 := by
  have := rMany_lt 256 s b (by omega)
  unfold rdSeen
  rw [rdRefs_len]; omega
/-- What is left once the inside is read. -/
def rdEnd (q : Ov × List UInt8 × Int) : Ov × List UInt8 × Int :=
  (if (if q.2.2 = 0 then oCheck q.1 else q.2.2) = 0 then q.1 else zop, q.2.1, if q.2.2 = 0 then oCheck q.1 else q.2.2)
theorem rdOp_eq (s : List UInt8) (b : Int) : rdOp s b = if (rI s b).1 = 0 then (zop, (rI s b).2) else rdEnd (rdIn (rI s b).1 (rPath (rI s b).2.1 (rI s b).2.2).1 (rPath (rI s b).2.1 (rI s b).2.2).2.1 (rPath (rI s b).2.1 (rI s b).2.2).2.2) := rfl
theorem g_op_Read (hI : S_rInt (C (F n_pack_Reader_Int))) (hP : S_pRead (C (F n_path_Read))) (hU : S_unfold (C (F n_value_Unfold))) (hV : S_vRead (C (F n_value_Read))) (hS : S_seen (C (F n_op_seen))) (hF : S_Fault (C (F n_pack_Reader_Fault))) (hC : S_oCheck (C (F n_op_Check))) (hX : S_Fail (C (F n_pack_Reader_Fail))) : S_oRead ((c_op_Read F).gives C) := by
  intro s b hs
  have hsL : sLen s := by unfold sLen; omega
  refine gives_of rfl ?_
  unfold c_op_Read
  simp only [walk, Nat.reduceLT, Nat.reduceBEq, Nat.reduceAdd, Nat.reduceLeDiff, reduceIte, Int.reduceLT, Int.reduceLE, Int.reduceEq, Int.reduceToNat, Int.reduceBEq]
  refine callWp_of (hI s b hsL) ?_
  rw [rdOp_eq]
  have h1 := (rI_suf s b).length_le
  generalize rI s b = x at *
  obtain ⟨k, s1, b1⟩ := x
  simp only at h1
  simp only [walk, Nat.reduceLT, Nat.reduceBEq, Nat.reduceAdd, Nat.reduceLeDiff, reduceIte, Int.reduceLT, Int.reduceLE, Int.reduceEq, Int.reduceToNat, Int.reduceBEq, layT, vCells, ieq]
  by_cases k0 : k = 0
  · subst k0
    simp only [walk, Nat.reduceLT, Nat.reduceBEq, Nat.reduceAdd, Nat.reduceLeDiff, reduceIte, Int.reduceLT, Int.reduceLE, Int.reduceEq, Int.reduceToNat, Int.reduceBEq]
    rfl
  simp only [walk, Nat.reduceLT, Nat.reduceBEq, Nat.reduceAdd, Nat.reduceLeDiff, reduceIte, Int.reduceLT, Int.reduceLE, Int.reduceEq, Int.reduceToNat, Int.reduceBEq, k0]
  refine callWp_of (hP s1 b1 (by omega)) ?_
  have h2 := (rPath_suf s1 b1).length_le
  have hpo := rPath_ok (s := s1) (b := b1) (by omega)
  generalize rPath s1 b1 = y at *
  obtain ⟨p, s2, b2⟩ := y
  simp only at h2 hpo
  simp only [walk, Nat.reduceLT, Nat.reduceBEq, Nat.reduceAdd, Nat.reduceLeDiff, reduceIte, Int.reduceLT, Int.reduceLE, Int.reduceEq, Int.reduceToNat, Int.reduceBEq, layT, vCells, ieq]
  unfold rdIn
  by_cases k3 : k = 3
  · subst k3
    simp only [walk, Nat.reduceLT, Nat.reduceBEq, Nat.reduceAdd, Nat.reduceLeDiff, reduceIte, Int.reduceLT, Int.reduceLE, Int.reduceEq, Int.reduceToNat, Int.reduceBEq]
    refine callWp_of (hI s2 b2 (by unfold sLen; omega)) ?_
    have h3 := rI_lt s2 b2
    generalize rI s2 b2 = z at *
    obtain ⟨n, s9, b9⟩ := z
    simp only at h3
    simp only [walk, Nat.reduceLT, Nat.reduceBEq, Nat.reduceAdd, Nat.reduceLeDiff, reduceIte, Int.reduceLT, Int.reduceLE, Int.reduceEq, Int.reduceToNat, Int.reduceBEq]
    refine callWp_of (hU n h3.1 h3.2.1) ?_
    simp only [walk, Nat.reduceLT, Nat.reduceBEq, Nat.reduceAdd, Nat.reduceLeDiff, reduceIte, Int.reduceLT, Int.reduceLE, Int.reduceEq, Int.reduceToNat, Int.reduceBEq, layT, vCells, ieq]
    refine callWp_of (hF _ _) ?_
    have hok : oOk ⟨3, p, z0, unfoldI n, []⟩ := ⟨hpo, by simp [z0], by simp⟩
    unfold rdEnd
    by_cases hb : b9 = 0
    · have e : (b9 == 0) = true := by simp [hb]
      simp only [walk, Nat.reduceLT, Nat.reduceBEq, Nat.reduceAdd, Nat.reduceLeDiff, reduceIte, Int.reduceLT, Int.reduceLE, Int.reduceEq, Int.reduceToNat, Int.reduceBEq, e]
      refine callWp_of (hC ⟨3, p, z0, unfoldI n, []⟩ hok) ?_
      generalize hc : oCheck ⟨3, p, z0, unfoldI n, []⟩ = c
      simp only [walk, Nat.reduceLT, Nat.reduceBEq, Nat.reduceAdd, Nat.reduceLeDiff, reduceIte, Int.reduceLT, Int.reduceLE, Int.reduceEq, Int.reduceToNat, Int.reduceBEq]
      refine callWp_of (hX _ _ _) ?_
      simp only [walk, Nat.reduceLT, Nat.reduceBEq, Nat.reduceAdd, Nat.reduceLeDiff, reduceIte, Int.reduceLT, Int.reduceLE, Int.reduceEq, Int.reduceToNat, Int.reduceBEq]
      refine callWp_of (hF _ _) ?_
      rw [failB, if_pos hb]
      by_cases h0 : c = 0
      · simp only [walk, Nat.reduceLT, Nat.reduceBEq, Nat.reduceAdd, Nat.reduceLeDiff, reduceIte, Int.reduceLT, Int.reduceLE, Int.reduceEq, Int.reduceToNat, Int.reduceBEq, bne_self_eq_false, hb, hc, h0]
        all_goals rfl
      · have e2 : (c != 0) = true := by simp [h0]
        simp only [walk, Nat.reduceLT, Nat.reduceBEq, Nat.reduceAdd, Nat.reduceLeDiff, reduceIte, Int.reduceLT, Int.reduceLE, Int.reduceEq, Int.reduceToNat, Int.reduceBEq, e2, hb, hc, h0]
        rfl
    · have e : (b9 == 0) = false := by rw [beq_eq_false_iff_ne]; exact hb
      have e2 : (b9 != 0) = true := by simp [hb]
      simp only [walk, Nat.reduceLT, Nat.reduceBEq, Nat.reduceAdd, Nat.reduceLeDiff, reduceIte, Int.reduceLT, Int.reduceLE, Int.reduceEq, Int.reduceToNat, Int.reduceBEq, e]
      refine callWp_of (hF _ _) ?_
      simp only [walk, Nat.reduceLT, Nat.reduceBEq, Nat.reduceAdd, Nat.reduceLeDiff, reduceIte, Int.reduceLT, Int.reduceLE, Int.reduceEq, Int.reduceToNat, Int.reduceBEq, e2, hb]
      rfl
  by_cases k1 : k = 1
  · subst k1
    simp only [walk, Nat.reduceLT, Nat.reduceBEq, Nat.reduceAdd, Nat.reduceLeDiff, reduceIte, Int.reduceLT, Int.reduceLE, Int.reduceEq, Int.reduceToNat, Int.reduceBEq, layT, vCells, ieq, or_true, true_or, or_false, false_or]
    refine callWp_of (hV s2 b2 (by omega)) ?_
    have h3 := rdVal_len s2 b2
    have h4 := (rdVal_suf s2 b2).length_le
    generalize rdVal s2 b2 = w at *
    obtain ⟨v, s3, b3⟩ := w
    simp only at h3 h4
    simp only [walk, Nat.reduceLT, Nat.reduceBEq, Nat.reduceAdd, Nat.reduceLeDiff, reduceIte, Int.reduceLT, Int.reduceLE, Int.reduceEq, Int.reduceToNat, Int.reduceBEq]
    refine callWp_of (hS s3 b3 (by unfold sLen; omega)) ?_
    have h5 := rdSeen_len s3 b3
    generalize rdSeen s3 b3 = z at *
    obtain ⟨rs, s9, b9⟩ := z
    simp only at h5
    simp only [walk, Nat.reduceLT, Nat.reduceBEq, Nat.reduceAdd, Nat.reduceLeDiff, reduceIte, Int.reduceLT, Int.reduceLE, Int.reduceEq, Int.reduceToNat, Int.reduceBEq, layT, vCells, ieq]
    refine callWp_of (hF _ _) ?_
    have hok : oOk ⟨1, p, v, 0, rs⟩ := ⟨hpo, by simp only; omega, by simp only; omega⟩
    unfold rdEnd
    by_cases hb : b9 = 0
    · have e : (b9 == 0) = true := by simp [hb]
      simp only [walk, Nat.reduceLT, Nat.reduceBEq, Nat.reduceAdd, Nat.reduceLeDiff, reduceIte, Int.reduceLT, Int.reduceLE, Int.reduceEq, Int.reduceToNat, Int.reduceBEq, e]
      refine callWp_of (hC ⟨1, p, v, 0, rs⟩ hok) ?_
      generalize hc : oCheck ⟨1, p, v, 0, rs⟩ = c
      simp only [walk, Nat.reduceLT, Nat.reduceBEq, Nat.reduceAdd, Nat.reduceLeDiff, reduceIte, Int.reduceLT, Int.reduceLE, Int.reduceEq, Int.reduceToNat, Int.reduceBEq]
      refine callWp_of (hX _ _ _) ?_
      simp only [walk, Nat.reduceLT, Nat.reduceBEq, Nat.reduceAdd, Nat.reduceLeDiff, reduceIte, Int.reduceLT, Int.reduceLE, Int.reduceEq, Int.reduceToNat, Int.reduceBEq]
      refine callWp_of (hF _ _) ?_
      rw [failB, if_pos hb]
      by_cases h0 : c = 0
      · simp only [walk, Nat.reduceLT, Nat.reduceBEq, Nat.reduceAdd, Nat.reduceLeDiff, reduceIte, Int.reduceLT, Int.reduceLE, Int.reduceEq, Int.reduceToNat, Int.reduceBEq, bne_self_eq_false, hb, hc, h0]
        all_goals rfl
      · have e2 : (c != 0) = true := by simp [h0]
        simp only [walk, Nat.reduceLT, Nat.reduceBEq, Nat.reduceAdd, Nat.reduceLeDiff, reduceIte, Int.reduceLT, Int.reduceLE, Int.reduceEq, Int.reduceToNat, Int.reduceBEq, e2, hb, hc, h0]
        rfl
    · have e : (b9 == 0) = false := by rw [beq_eq_false_iff_ne]; exact hb
      have e2 : (b9 != 0) = true := by simp [hb]
      simp only [walk, Nat.reduceLT, Nat.reduceBEq, Nat.reduceAdd, Nat.reduceLeDiff, reduceIte, Int.reduceLT, Int.reduceLE, Int.reduceEq, Int.reduceToNat, Int.reduceBEq, e]
      refine callWp_of (hF _ _) ?_
      simp only [walk, Nat.reduceLT, Nat.reduceBEq, Nat.reduceAdd, Nat.reduceLeDiff, reduceIte, Int.reduceLT, Int.reduceLE, Int.reduceEq, Int.reduceToNat, Int.reduceBEq, e2, hb]
      rfl
  by_cases k4 : k = 4
  · subst k4
    simp only [walk, Nat.reduceLT, Nat.reduceBEq, Nat.reduceAdd, Nat.reduceLeDiff, reduceIte, Int.reduceLT, Int.reduceLE, Int.reduceEq, Int.reduceToNat, Int.reduceBEq, layT, vCells, ieq, or_true, true_or, or_false, false_or]
    refine callWp_of (hV s2 b2 (by omega)) ?_
    have h3 := rdVal_len s2 b2
    have h4 := (rdVal_suf s2 b2).length_le
    generalize rdVal s2 b2 = w at *
    obtain ⟨v, s3, b3⟩ := w
    simp only at h3 h4
    simp only [walk, Nat.reduceLT, Nat.reduceBEq, Nat.reduceAdd, Nat.reduceLeDiff, reduceIte, Int.reduceLT, Int.reduceLE, Int.reduceEq, Int.reduceToNat, Int.reduceBEq]
    refine callWp_of (hS s3 b3 (by unfold sLen; omega)) ?_
    have h5 := rdSeen_len s3 b3
    generalize rdSeen s3 b3 = z at *
    obtain ⟨rs, s9, b9⟩ := z
    simp only at h5
    simp only [walk, Nat.reduceLT, Nat.reduceBEq, Nat.reduceAdd, Nat.reduceLeDiff, reduceIte, Int.reduceLT, Int.reduceLE, Int.reduceEq, Int.reduceToNat, Int.reduceBEq, layT, vCells, ieq]
    refine callWp_of (hF _ _) ?_
    have hok : oOk ⟨4, p, v, 0, rs⟩ := ⟨hpo, by simp only; omega, by simp only; omega⟩
    unfold rdEnd
    by_cases hb : b9 = 0
    · have e : (b9 == 0) = true := by simp [hb]
      simp only [walk, Nat.reduceLT, Nat.reduceBEq, Nat.reduceAdd, Nat.reduceLeDiff, reduceIte, Int.reduceLT, Int.reduceLE, Int.reduceEq, Int.reduceToNat, Int.reduceBEq, e]
      refine callWp_of (hC ⟨4, p, v, 0, rs⟩ hok) ?_
      generalize hc : oCheck ⟨4, p, v, 0, rs⟩ = c
      simp only [walk, Nat.reduceLT, Nat.reduceBEq, Nat.reduceAdd, Nat.reduceLeDiff, reduceIte, Int.reduceLT, Int.reduceLE, Int.reduceEq, Int.reduceToNat, Int.reduceBEq]
      refine callWp_of (hX _ _ _) ?_
      simp only [walk, Nat.reduceLT, Nat.reduceBEq, Nat.reduceAdd, Nat.reduceLeDiff, reduceIte, Int.reduceLT, Int.reduceLE, Int.reduceEq, Int.reduceToNat, Int.reduceBEq]
      refine callWp_of (hF _ _) ?_
      rw [failB, if_pos hb]
      by_cases h0 : c = 0
      · simp only [walk, Nat.reduceLT, Nat.reduceBEq, Nat.reduceAdd, Nat.reduceLeDiff, reduceIte, Int.reduceLT, Int.reduceLE, Int.reduceEq, Int.reduceToNat, Int.reduceBEq, bne_self_eq_false, hb, hc, h0]
        all_goals rfl
      · have e2 : (c != 0) = true := by simp [h0]
        simp only [walk, Nat.reduceLT, Nat.reduceBEq, Nat.reduceAdd, Nat.reduceLeDiff, reduceIte, Int.reduceLT, Int.reduceLE, Int.reduceEq, Int.reduceToNat, Int.reduceBEq, e2, hb, hc, h0]
        rfl
    · have e : (b9 == 0) = false := by rw [beq_eq_false_iff_ne]; exact hb
      have e2 : (b9 != 0) = true := by simp [hb]
      simp only [walk, Nat.reduceLT, Nat.reduceBEq, Nat.reduceAdd, Nat.reduceLeDiff, reduceIte, Int.reduceLT, Int.reduceLE, Int.reduceEq, Int.reduceToNat, Int.reduceBEq, e]
      refine callWp_of (hF _ _) ?_
      simp only [walk, Nat.reduceLT, Nat.reduceBEq, Nat.reduceAdd, Nat.reduceLeDiff, reduceIte, Int.reduceLT, Int.reduceLE, Int.reduceEq, Int.reduceToNat, Int.reduceBEq, e2, hb]
      rfl
  by_cases k2 : k = 2
  · subst k2
    simp only [walk, Nat.reduceLT, Nat.reduceBEq, Nat.reduceAdd, Nat.reduceLeDiff, reduceIte, Int.reduceLT, Int.reduceLE, Int.reduceEq, Int.reduceToNat, Int.reduceBEq, layT, vCells, ieq, or_self]
    refine callWp_of (hV s2 b2 (by omega)) ?_
    have h3 := rdVal_len s2 b2
    generalize rdVal s2 b2 = w at *
    obtain ⟨v, s9, b9⟩ := w
    simp only at h3
    simp only [walk, Nat.reduceLT, Nat.reduceBEq, Nat.reduceAdd, Nat.reduceLeDiff, reduceIte, Int.reduceLT, Int.reduceLE, Int.reduceEq, Int.reduceToNat, Int.reduceBEq, layT, vCells, ieq]
    refine callWp_of (hF _ _) ?_
    have hok : oOk ⟨2, p, v, 0, []⟩ := ⟨hpo, by simp only; omega, by simp⟩
    unfold rdEnd
    by_cases hb : b9 = 0
    · have e : (b9 == 0) = true := by simp [hb]
      simp only [walk, Nat.reduceLT, Nat.reduceBEq, Nat.reduceAdd, Nat.reduceLeDiff, reduceIte, Int.reduceLT, Int.reduceLE, Int.reduceEq, Int.reduceToNat, Int.reduceBEq, e]
      refine callWp_of (hC ⟨2, p, v, 0, []⟩ hok) ?_
      generalize hc : oCheck ⟨2, p, v, 0, []⟩ = c
      simp only [walk, Nat.reduceLT, Nat.reduceBEq, Nat.reduceAdd, Nat.reduceLeDiff, reduceIte, Int.reduceLT, Int.reduceLE, Int.reduceEq, Int.reduceToNat, Int.reduceBEq]
      refine callWp_of (hX _ _ _) ?_
      simp only [walk, Nat.reduceLT, Nat.reduceBEq, Nat.reduceAdd, Nat.reduceLeDiff, reduceIte, Int.reduceLT, Int.reduceLE, Int.reduceEq, Int.reduceToNat, Int.reduceBEq]
      refine callWp_of (hF _ _) ?_
      rw [failB, if_pos hb]
      by_cases h0 : c = 0
      · simp only [walk, Nat.reduceLT, Nat.reduceBEq, Nat.reduceAdd, Nat.reduceLeDiff, reduceIte, Int.reduceLT, Int.reduceLE, Int.reduceEq, Int.reduceToNat, Int.reduceBEq, bne_self_eq_false, hb, hc, h0]
        all_goals rfl
      · have e2 : (c != 0) = true := by simp [h0]
        simp only [walk, Nat.reduceLT, Nat.reduceBEq, Nat.reduceAdd, Nat.reduceLeDiff, reduceIte, Int.reduceLT, Int.reduceLE, Int.reduceEq, Int.reduceToNat, Int.reduceBEq, e2, hb, hc, h0]
        rfl
    · have e : (b9 == 0) = false := by rw [beq_eq_false_iff_ne]; exact hb
      have e2 : (b9 != 0) = true := by simp [hb]
      simp only [walk, Nat.reduceLT, Nat.reduceBEq, Nat.reduceAdd, Nat.reduceLeDiff, reduceIte, Int.reduceLT, Int.reduceLE, Int.reduceEq, Int.reduceToNat, Int.reduceBEq, e]
      refine callWp_of (hF _ _) ?_
      simp only [walk, Nat.reduceLT, Nat.reduceBEq, Nat.reduceAdd, Nat.reduceLeDiff, reduceIte, Int.reduceLT, Int.reduceLE, Int.reduceEq, Int.reduceToNat, Int.reduceBEq, e2, hb]
      rfl
  by_cases k5 : k = 5
  · subst k5
    simp only [walk, Nat.reduceLT, Nat.reduceBEq, Nat.reduceAdd, Nat.reduceLeDiff, reduceIte, Int.reduceLT, Int.reduceLE, Int.reduceEq, Int.reduceToNat, Int.reduceBEq, layT, vCells, ieq, or_self]
    refine callWp_of (hS s2 b2 (by unfold sLen; omega)) ?_
    have h5 := rdSeen_len s2 b2
    generalize rdSeen s2 b2 = z at *
    obtain ⟨rs, s9, b9⟩ := z
    simp only at h5
    simp only [walk, Nat.reduceLT, Nat.reduceBEq, Nat.reduceAdd, Nat.reduceLeDiff, reduceIte, Int.reduceLT, Int.reduceLE, Int.reduceEq, Int.reduceToNat, Int.reduceBEq, layT, vCells, ieq]
    refine callWp_of (hF _ _) ?_
    have hok : oOk ⟨5, p, z0, 0, rs⟩ := ⟨hpo, by simp [z0], by simp only; omega⟩
    unfold rdEnd
    by_cases hb : b9 = 0
    · have e : (b9 == 0) = true := by simp [hb]
      simp only [walk, Nat.reduceLT, Nat.reduceBEq, Nat.reduceAdd, Nat.reduceLeDiff, reduceIte, Int.reduceLT, Int.reduceLE, Int.reduceEq, Int.reduceToNat, Int.reduceBEq, e]
      refine callWp_of (hC ⟨5, p, z0, 0, rs⟩ hok) ?_
      generalize hc : oCheck ⟨5, p, z0, 0, rs⟩ = c
      simp only [walk, Nat.reduceLT, Nat.reduceBEq, Nat.reduceAdd, Nat.reduceLeDiff, reduceIte, Int.reduceLT, Int.reduceLE, Int.reduceEq, Int.reduceToNat, Int.reduceBEq]
      refine callWp_of (hX _ _ _) ?_
      simp only [walk, Nat.reduceLT, Nat.reduceBEq, Nat.reduceAdd, Nat.reduceLeDiff, reduceIte, Int.reduceLT, Int.reduceLE, Int.reduceEq, Int.reduceToNat, Int.reduceBEq]
      refine callWp_of (hF _ _) ?_
      rw [failB, if_pos hb]
      by_cases h0 : c = 0
      · simp only [walk, Nat.reduceLT, Nat.reduceBEq, Nat.reduceAdd, Nat.reduceLeDiff, reduceIte, Int.reduceLT, Int.reduceLE, Int.reduceEq, Int.reduceToNat, Int.reduceBEq, bne_self_eq_false, hb, hc, h0]
        all_goals rfl
      · have e2 : (c != 0) = true := by simp [h0]
        simp only [walk, Nat.reduceLT, Nat.reduceBEq, Nat.reduceAdd, Nat.reduceLeDiff, reduceIte, Int.reduceLT, Int.reduceLE, Int.reduceEq, Int.reduceToNat, Int.reduceBEq, e2, hb, hc, h0]
        rfl
    · have e : (b9 == 0) = false := by rw [beq_eq_false_iff_ne]; exact hb
      have e2 : (b9 != 0) = true := by simp [hb]
      simp only [walk, Nat.reduceLT, Nat.reduceBEq, Nat.reduceAdd, Nat.reduceLeDiff, reduceIte, Int.reduceLT, Int.reduceLE, Int.reduceEq, Int.reduceToNat, Int.reduceBEq, e]
      refine callWp_of (hF _ _) ?_
      simp only [walk, Nat.reduceLT, Nat.reduceBEq, Nat.reduceAdd, Nat.reduceLeDiff, reduceIte, Int.reduceLT, Int.reduceLE, Int.reduceEq, Int.reduceToNat, Int.reduceBEq, e2, hb]
      rfl
  simp only [walk, Nat.reduceLT, Nat.reduceBEq, Nat.reduceAdd, Nat.reduceLeDiff, reduceIte, Int.reduceLT, Int.reduceLE, Int.reduceEq, Int.reduceToNat, Int.reduceBEq, layT, vCells, ieq, k3, k1, k4, k2, k5, or_self]
  generalize s2 = s9 at *
  generalize b2 = b9 at *
  refine callWp_of (hF _ _) ?_
  have hok : oOk ⟨k, p, z0, 0, []⟩ := ⟨hpo, by simp [z0], by simp⟩
  unfold rdEnd
  by_cases hb : b9 = 0
  · have e : (b9 == 0) = true := by simp [hb]
    simp only [walk, Nat.reduceLT, Nat.reduceBEq, Nat.reduceAdd, Nat.reduceLeDiff, reduceIte, Int.reduceLT, Int.reduceLE, Int.reduceEq, Int.reduceToNat, Int.reduceBEq, e]
    refine callWp_of (hC ⟨k, p, z0, 0, []⟩ hok) ?_
    generalize hc : oCheck ⟨k, p, z0, 0, []⟩ = c
    simp only [walk, Nat.reduceLT, Nat.reduceBEq, Nat.reduceAdd, Nat.reduceLeDiff, reduceIte, Int.reduceLT, Int.reduceLE, Int.reduceEq, Int.reduceToNat, Int.reduceBEq]
    refine callWp_of (hX _ _ _) ?_
    simp only [walk, Nat.reduceLT, Nat.reduceBEq, Nat.reduceAdd, Nat.reduceLeDiff, reduceIte, Int.reduceLT, Int.reduceLE, Int.reduceEq, Int.reduceToNat, Int.reduceBEq]
    refine callWp_of (hF _ _) ?_
    rw [failB, if_pos hb]
    by_cases h0 : c = 0
    · simp only [walk, Nat.reduceLT, Nat.reduceBEq, Nat.reduceAdd, Nat.reduceLeDiff, reduceIte, Int.reduceLT, Int.reduceLE, Int.reduceEq, Int.reduceToNat, Int.reduceBEq, bne_self_eq_false, hb, hc, h0]
      all_goals rfl
    · have e2 : (c != 0) = true := by simp [h0]
      simp only [walk, Nat.reduceLT, Nat.reduceBEq, Nat.reduceAdd, Nat.reduceLeDiff, reduceIte, Int.reduceLT, Int.reduceLE, Int.reduceEq, Int.reduceToNat, Int.reduceBEq, e2, hb, hc, h0]
      rfl
  · have e : (b9 == 0) = false := by rw [beq_eq_false_iff_ne]; exact hb
    have e2 : (b9 != 0) = true := by simp [hb]
    simp only [walk, Nat.reduceLT, Nat.reduceBEq, Nat.reduceAdd, Nat.reduceLeDiff, reduceIte, Int.reduceLT, Int.reduceLE, Int.reduceEq, Int.reduceToNat, Int.reduceBEq, e]
    refine callWp_of (hF _ _) ?_
    simp only [walk, Nat.reduceLT, Nat.reduceBEq, Nat.reduceAdd, Nat.reduceLeDiff, reduceIte, Int.reduceLT, Int.reduceLE, Int.reduceEq, Int.reduceToNat, Int.reduceBEq, e2, hb]
    rfl
end
end Go.AR

/-! Operations: what was told is read again. -/
namespace Go.AR
open Go
theorem rI_pInt {n : Int} (h0 : 0 ≤ n) (h1 : n < 72057594037927936) (rest : List UInt8) : rI (pInt n ++ rest) 0 = (n, rest, 0) := by
  have := rI_vint n.toNat (by omega) rest
  rw [pInt, this, Int.toNat_of_nonneg h0]
theorem dotOk_iff {d : Dt} : dotOk d = true ↔ 0 ≤ d.1 ∧ d.1 < 16 ∧ 1 ≤ d.2 ∧ d.2 ≤ 1048576 := by
  unfold dotOk; simp [and_assoc]
theorem rdDot_code {d : Dt} (h : dotOk d = true) (rest : List UInt8) : rdDot (dCode d ++ rest) 0 = (d, rest, 0) := by
  obtain ⟨h1, h2, h3, h4⟩ := dotOk_iff.1 h
  obtain ⟨a, b⟩ := d
  simp only at h1 h2 h3 h4
  unfold rdDot dCode
  rw [List.append_assoc, rI_pInt h1 (by omega)]
  simp only
  rw [rI_pInt (by omega) (by omega)]
  simp [h]
theorem unfold_fold (n : Int) : unfoldI (fold n) = n := by
  unfold unfoldI fold
  split
  · rw [if_pos (by omega)]; omega
  · rw [if_neg (by omega)]; omega
theorem fold_range {n : Int} (h1 : -2147483648 ≤ n) (h2 : n ≤ 2147483648) : 0 ≤ fold n ∧ fold n < 72057594037927936 := by
  unfold fold; split <;> omega
theorem vOk_cases {v : Vl} (h : vOk v = true) : (v.1 = 1 ∧ v.2.2 = [] ∧ -2147483647 ≤ v.2.1 ∧ v.2.1 ≤ 2147483647) ∨ (v.1 = 2 ∧ v.2.1 = 0 ∧ v.2.2.length ≤ 64) ∨ (v.1 = 3 ∧ v.2.2 = [] ∧ 0 ≤ v.2.1 ∧ v.2.1 ≤ 1) := by
  unfold vOk at h
  by_cases h1 : v.1 = 1
  · rw [if_pos h1] at h
    simp at h
    exact .inl ⟨h1, h.1.1, h.1.2, h.2⟩
  · rw [if_neg h1] at h
    by_cases h2 : v.1 = 2
    · rw [if_pos h2] at h
      simp at h
      exact .inr (.inl ⟨h2, h.1.2, h.2⟩)
    · rw [if_neg h2] at h
      simp at h
      exact .inr (.inr ⟨h.1.1.1, h.1.1.2, h.1.2, h.2⟩)
theorem rdVal_code {v : Vl} (h : vOk v = true) (rest : List UInt8) : rdVal (vCode v ++ rest) 0 = (v, rest, 0) := by
  have hc := vOk_cases h
  obtain ⟨k, n, s⟩ := v
  simp only at hc
  unfold rdVal vCode
  by_cases hk : k = 2
  · subst hk
    have h2 : n = 0 ∧ s.length ≤ 64 := by
      rcases hc with ⟨h, _⟩ | ⟨_, h⟩ | ⟨h, _⟩
      · omega
      · exact h
      · omega
    obtain ⟨rfl, hl⟩ := h2
    simp only [if_true]
    rw [List.append_assoc, rI_pInt (by omega) (by omega)]
    simp only [if_true]
    rw [rText_pText s rest (by omega)]
    simp [h]
  · have h2 : (k = 1 ∨ k = 3) ∧ s = [] ∧ -2147483647 ≤ n ∧ n ≤ 2147483647 := by
      rcases hc with ⟨h, h1, h2, h3⟩ | ⟨h, _⟩ | ⟨h, h1, h2, h3⟩
      · exact ⟨.inl h, h1, h2, h3⟩
      · exact absurd h hk
      · exact ⟨.inr h, h1, by omega, by omega⟩
    obtain ⟨hk2, rfl, h3, h4⟩ := h2
    have hf := fold_range (n := n) (by omega) (by omega)
    simp only [if_neg hk]
    rw [List.append_assoc, rI_pInt (by omega) (by omega)]
    simp only [if_neg hk]
    rw [rI_pInt hf.1 hf.2, unfold_fold]
    simp [h]
theorem rOk_iff {r : Ud} : rOk r = true ↔ dotOk r.1 = true ∧ 0 ≤ r.2 ∧ r.2 < 16 := by
  unfold rOk; simp [and_assoc]
theorem rdRefs_code : ∀ (l : List Ud) (rest : List UInt8), (∀ r ∈ l, rOk r = true) → rdRefs l.length ((l.map rCode).flatten ++ rest) 0 = (l, rest, 0)
  | [], rest, _ => rfl
  | r :: l, rest, h => by
    obtain ⟨h1, h2, h3⟩ := rOk_iff.1 (h r (by simp))
    rw [List.length_cons, rdRefs, List.map_cons, List.flatten_cons, rCode, List.append_assoc, List.append_assoc, rdDot_code h1]
    simp only
    rw [rI_pInt h2 (by omega)]
    simp only
    rw [rdRefs_code l rest (fun t ht => h t (by simp [ht]))]
theorem refs_ge : ∀ (l : List Ud), l.length ≤ ((l.map rCode).flatten).length
  | [] => by simp
  | r :: l => by
    have := refs_ge l
    have h := vint_pos r.2.toNat
    rw [List.map_cons, List.flatten_cons, List.length_append, List.length_cons, rCode, List.length_append, pInt]
    omega
theorem refs_all {l : List Ud} (h : refsOk l = true) : ∀ r ∈ l, rOk r = true := by
  intro r hr
  obtain ⟨k, hk, rfl⟩ := List.getElem_of_mem hr
  have := refsOk_iff.1 h k hk
  rw [refAt, getD_at hk, Bool.and_eq_true] at this
  exact this.1
theorem rdSeen_code {l : List Ud} (h : refsOk l = true) (hl : l.length ≤ 256) (rest : List UInt8) : rdSeen (rsCode l ++ rest) 0 = (l, rest, 0) := by
  have hg := refs_ge l
  unfold rdSeen rsCode
  rw [pInt, List.append_assoc, Int.toNat_natCast, rMany_vint 256 l.length _ (by omega) (by omega) (by rw [List.length_append]; omega)]
  simp only [Int.toNat_natCast]
  exact rdRefs_code l rest (refs_all h)
theorem check_zero {o : Ov} (h : oCheck o = 0) : (1 ≤ o.k ∧ o.k ≤ 5) ∧ pCheck o.p = 0 ∧ ((o.k = 3 ∨ o.k = 5) → o.v = z0) ∧ ((o.k ≠ 3 ∧ o.k ≠ 5) → vOk o.v = true) ∧ (o.k ≠ 3 → o.am = 0) ∧ (o.k = 3 → -2147483647 ≤ o.am ∧ o.am ≤ 2147483647) ∧ ((o.k = 2 ∨ o.k = 3) → o.rs = []) ∧ o.rs.length ≤ 256 ∧ refsOk o.rs = true := by
  unfold oCheck at h
  by_cases h0 : o.k < 1 ∨ o.k > 5
  · rw [if_pos h0] at h; cases h
  rw [if_neg h0] at h
  by_cases h1 : pCheck o.p ≠ 0
  · rw [if_pos h1] at h; exact absurd h h1
  rw [if_neg h1] at h
  by_cases h2 : (o.k = 3 ∨ o.k = 5) ∧ o.v ≠ z0
  · rw [if_pos h2] at h; cases h
  rw [if_neg h2] at h
  by_cases h3 : (o.k ≠ 3 ∧ o.k ≠ 5) ∧ vOk o.v = false
  · rw [if_pos h3] at h; cases h
  rw [if_neg h3] at h
  by_cases h4 : (o.k ≠ 3 ∧ o.am ≠ 0) ∨ (o.k = 3 ∧ (o.am = 0 ∨ o.am > 2147483647 ∨ o.am < -2147483647))
  · rw [if_pos h4] at h; cases h
  rw [if_neg h4] at h
  by_cases h5 : (o.k = 2 ∨ o.k = 3) ∧ o.rs.length > 0
  · rw [if_pos h5] at h; cases h
  rw [if_neg h5] at h
  by_cases h6 : o.rs.length > 256
  · rw [if_pos h6] at h; cases h
  rw [if_neg h6] at h
  by_cases h7 : refsOk o.rs = false
  · rw [if_pos h7] at h; cases h
  refine ⟨by omega, by omega, fun hk => ?_, fun hk => ?_, fun hk => by omega, fun hk => by omega, fun hk => ?_, by omega, by simpa using h7⟩
  · exact Classical.byContradiction fun hv => h2 ⟨hk, hv⟩
  · rw [← Bool.not_eq_false]; exact fun hv => h3 ⟨hk, hv⟩
  · exact List.eq_nil_of_length_eq_zero (by have : ¬ o.rs.length > 0 := fun hr => h5 ⟨hk, hr⟩; omega)
theorem vFit_of {v : Vl} (h : vOk v = true) (hl : v.2.2.length ≤ 20000000) : vFit v := by
  rcases vOk_cases h with ⟨h1, _, h3, h4⟩ | ⟨h1, h3, _⟩ | ⟨h1, _, h3, h4⟩
  all_goals exact ⟨⟨by omega, by omega⟩, by omega, by omega, hl⟩
theorem vFit_z : vFit z0 := ⟨⟨by simp [z0], by simp [z0]⟩, by simp [z0], by simp [z0], by simp [z0]⟩
theorem fit_of_check {o : Ov} (ho : oOk o) (h : oCheck o = 0) : oFit o := by
  obtain ⟨h1, h2, h3, h4, h5, h6, h7, h8, h9⟩ := check_zero h
  have hv : vFit o.v := by
    by_cases hk : o.k = 3 ∨ o.k = 5
    · rw [h3 hk]; exact vFit_z
    · exact vFit_of (h4 (by omega)) ho.2.1
  refine ⟨ho, ⟨by omega, by omega⟩, hv, ?_, ?_, fun r hr => ?_⟩
  · by_cases hk : o.k = 3
    · have := h6 hk; omega
    · have := h5 hk; omega
  · by_cases hk : o.k = 3
    · have := h6 hk; omega
    · have := h5 hk; omega
  · obtain ⟨k1, k2, k3⟩ := rOk_iff.1 (refs_all h9 r hr)
    have := dotOk_iff.1 k1
    exact ⟨⟨⟨by omega, by omega⟩, ⟨by omega, by omega⟩⟩, ⟨by omega, by omega⟩⟩
theorem gone_eq {o : Ov} (h : oGone o = true) : o = zop := of_decide_eq_true h
theorem oOk_z : oOk zop := ⟨⟨by simp [zop], by simp [zop]⟩, by simp [zop, z0], by simp [zop]⟩
theorem fit_z : oFit zop := ⟨oOk_z, ⟨by simp [zop], by simp [zop]⟩, vFit_z, by simp [zop], by simp [zop], by simp [zop]⟩
theorem fit_of {o : Ov} (ho : oOk o) (h : oCheck o = 0 ∨ oGone o = true) : oFit o ∧ (oGone o = true ∨ (1 ≤ o.k ∧ o.k ≤ 5)) := by
  rcases h with h | h
  · exact ⟨fit_of_check ho h, .inr (check_zero h).1⟩
  · exact ⟨by rw [gone_eq h]; exact fit_z, .inl h⟩
theorem rdOp_code {o : Ov} (h : oCheck o = 0 ∨ oGone o = true) (rest : List UInt8) : rdOp (oCode o ++ rest) 0 = (o, rest, 0) := by
  rcases h with h | h
  · obtain ⟨h1, h2, h3, h4, h5, h6, h7, h8, h9⟩ := check_zero h
    have hg : oGone o = false := by
      rw [← Bool.not_eq_true]
      intro hg
      rw [gone_eq hg] at h1
      simp [zop] at h1
    obtain ⟨k, p, v, am, rs⟩ := o
    simp only at *
    rw [rdOp_eq]
    unfold oCode
    rw [hg]
    simp only [Bool.false_eq_true, if_false]
    rw [List.append_assoc, rI_pInt (by omega) (by omega)]
    simp only
    rw [if_neg (by omega), List.append_assoc, rPath_code h2]
    simp only
    have hk : k = 1 ∨ k = 2 ∨ k = 3 ∨ k = 4 ∨ k = 5 := by omega
    rcases hk with rfl | rfl | rfl | rfl | rfl
    · have e5 := h5 (by omega)
      subst e5
      simp only [rdIn, Int.reduceEq, if_false, if_true, or_false, true_or, List.append_assoc]
      rw [rdVal_code (h4 (by omega))]
      simp only
      rw [rdSeen_code h9 h8]
      simp [rdEnd, h]
    · have e5 := h5 (by omega)
      have e7 := h7 (by omega)
      subst e5 e7
      simp only [rdIn, Int.reduceEq, if_false, if_true, or_self, List.append_assoc, List.nil_append]
      rw [rdVal_code (h4 (by omega))]
      simp [rdEnd, h]
    · have e3 := h3 (by omega)
      have e7 := h7 (by omega)
      have hf := h6 rfl
      have hr := fold_range (n := am) (by omega) (by omega)
      subst e3 e7
      simp only [rdIn, if_true]
      rw [rI_pInt hr.1 hr.2]
      simp [rdEnd, h, unfold_fold]
    · have e5 := h5 (by omega)
      subst e5
      simp only [rdIn, Int.reduceEq, if_false, if_true, or_true, List.append_assoc]
      rw [rdVal_code (h4 (by omega))]
      simp only
      rw [rdSeen_code h9 h8]
      simp [rdEnd, h]
    · have e5 := h5 (by omega)
      have e3 := h3 (by omega)
      subst e5 e3
      simp only [rdIn, Int.reduceEq, if_false, if_true, or_self, List.append_assoc, List.nil_append]
      rw [rdSeen_code h9 h8]
      simp [rdEnd, h]
  · have e := gone_eq h
    subst e
    rw [rdOp_eq]
    have : oCode zop = pInt 0 := by unfold oCode; rw [h]; simp [zop]
    rw [this, rI_pInt (by omega) (by omega)]
    simp
end Go.AR

/-! Operations: the laws. -/
namespace Go.AR
open Go
section
variable {C : CallRel} {F : Nat → FuncId}
theorem short_oOk {o : Ov} (h : oShort o = true) : oOk o ∧ o.p.length ≤ 12 := by
  unfold oShort at h
  simp only [Bool.and_eq_true, decide_eq_true_eq] at h
  refine ⟨⟨short_ok h.1.1, by omega, by omega⟩, ?_⟩
  have := h.1.1
  unfold pShort at this
  simp only [Bool.and_eq_true, decide_eq_true_eq] at this
  exact this.1
theorem right_a : rightB [97] = true := (right_iff _).2 ⟨1, .cons (by decide) (by decide) .nil, by omega, by omega⟩
theorem oCode_len31 {o : Ov} (hs : oShort o = true) (hg : oCheck o = 0 ∨ oGone o = true) : (oCode o).length ≤ 31100 := by
  obtain ⟨hok, hpl⟩ := short_oOk hs
  have hf := (fit_of hok hg).1
  obtain ⟨_, h1, h2, h3, h4, h5⟩ := hf
  have l1 := pInt_len h1
  have l3 := pInt_len (fold_ok h3 h4)
  have l5 := pInt_len (n := o.rs.length) (i64ok_nat (by have := hok.2.2; omega))
  have l6 := rsFlat_len o.rs h5
  unfold oShort at hs
  simp only [Bool.and_eq_true, decide_eq_true_eq] at hs
  obtain ⟨⟨s1, s2⟩, s3⟩ := hs
  have hp : (pCode o.p).length ≤ 10000 := by
    unfold pShort at s1
    simp only [Bool.and_eq_true, decide_eq_true_eq, List.all_eq_true] at s1
    have key : ∀ (p : List (List UInt8)), (∀ s ∈ p, s.length ≤ 120) → ((p.map pText).flatten).length ≤ p.length * 131 := by
      intro p
      induction p with
      | nil => simp
      | cons a p ih =>
        intro h
        have h2 := h a (by simp)
        have h3 : (vint a.length).length ≤ 11 := vint_len 10 _ (by omega)
        have ih := ih (fun s hs => h s (by simp [hs]))
        rw [List.map_cons, List.flatten_cons, List.length_append, pText, List.length_append, List.length_cons]
        omega
    have k1 := key o.p s1.2
    have k2 := pInt_len (n := o.p.length) (i64ok_nat (by omega))
    rw [pCode, List.length_append]; omega
  have hv : (vCode o.v).length ≤ 1000 := by
    have k1 := pInt_len h2.1
    have k2 := pInt_len (fold_ok h2.2.1 h2.2.2.1)
    have k3 : (vint o.v.2.2.length).length ≤ 11 := vint_len 10 _ (by omega)
    have k4 := pInt_len (n := 2) ⟨by omega, by omega⟩
    unfold vCode pText
    split <;> simp only [List.length_append] <;> omega
  have hrs : (rsCode o.rs).length ≤ 20000 := by
    rw [rsCode, List.length_append]; omega
  unfold oCode
  rw [List.length_append]
  split
  · simp; omega
  · rw [List.length_append]
    split
    · omega
    · rw [List.length_append]
      split <;> split <;> simp <;> omega
theorem oCode_len {o : Ov} (hs : oShort o = true) (hg : oCheck o = 0 ∨ oGone o = true) : (oCode o).length ≤ 20000000 := Nat.le_trans (oCode_len31 hs hg) (by decide)
end
end Go.AR

/-! Operations: what is read, the law. -/
namespace Go.AR
open Go
theorem rdIn_ok {k : Int} {p : List (List UInt8)} {s : List UInt8} {b : Int} (hp : pOk p) (hs : s.length ≤ 20000000) : oOk (rdIn k p s b).1 ∧ (rdIn k p s b).2.1 <:+ s := by
  have hv := rdVal_len s b
  have hvs := rdVal_suf s b
  have hz : z0.2.2.length ≤ 20000000 := by simp [z0]
  unfold rdIn
  by_cases h3 : k = 3
  · rw [if_pos h3]; exact ⟨⟨hp, hz, by simp⟩, rI_suf s b⟩
  rw [if_neg h3]
  by_cases h1 : k = 1 ∨ k = 4
  · rw [if_pos h1]
    have := rdSeen_len (rdVal s b).2.1 (rdVal s b).2.2
    exact ⟨⟨hp, by simp only; omega, by simp only; omega⟩, (rdSeen_suf _ _).trans hvs⟩
  rw [if_neg h1]
  by_cases h2 : k = 2
  · rw [if_pos h2]; exact ⟨⟨hp, by simp only; omega, by simp⟩, hvs⟩
  rw [if_neg h2]
  by_cases h5 : k = 5
  · rw [if_pos h5]
    have := rdSeen_len s b
    exact ⟨⟨hp, hz, by simp only; omega⟩, rdSeen_suf s b⟩
  rw [if_neg h5]; exact ⟨⟨hp, hz, by simp⟩, List.suffix_refl _⟩
theorem rdOp_ok {s : List UInt8} {b : Int} (hs : s.length ≤ 20000000) : oOk (rdOp s b).1 ∧ (rdOp s b).2.1 <:+ s := by
  rw [rdOp_eq]
  have h1 := rI_suf s b
  have l1 := h1.length_le
  by_cases h0 : (rI s b).1 = 0
  · rw [if_pos h0]; exact ⟨oOk_z, h1⟩
  rw [if_neg h0]
  have h2 := rPath_suf (rI s b).2.1 (rI s b).2.2
  have l2 := h2.length_le
  have hp := rPath_ok (s := (rI s b).2.1) (b := (rI s b).2.2) (by omega)
  have hi := rdIn_ok (k := (rI s b).1) (b := (rPath (rI s b).2.1 (rI s b).2.2).2.2) hp (s := (rPath (rI s b).2.1 (rI s b).2.2).2.1) (by omega)
  generalize rdIn (rI s b).1 (rPath (rI s b).2.1 (rI s b).2.2).1 (rPath (rI s b).2.1 (rI s b).2.2).2.1 (rPath (rI s b).2.1 (rI s b).2.2).2.2 = q at *
  refine ⟨?_, hi.2.trans (h2.trans h1)⟩
  unfold rdEnd
  dsimp only
  by_cases hc : (if q.2.2 = 0 then oCheck q.1 else q.2.2) = 0
  · rw [if_pos hc]; exact hi.1
  · rw [if_neg hc]; exact oOk_z
section
variable {C : CallRel} {F : Nat → FuncId}
end
end Go.AR

/-! Transactions, by definition. -/
namespace Go.AR
open Go
structure Tx where
  d : Dt
  u : Int
  t : Int
  un : Bool
  ops : List Ov
deriving DecidableEq
def zt : Tx := ⟨(0, 0), 0, 0, false, []⟩
/-- What is wrong with the first that may not be. -/
def opsCheck (un : Bool) : List Ov → Int
  | [] => 0
  | o :: l => if oCheck o ≠ 0 ∧ (un && oGone o) = false then oCheck o else opsCheck un l
def tCheck (x : Tx) : Int :=
  if dotOk x.d = false ∨ x.u < 0 ∨ x.u > 7 ∨ x.t < 1 ∨ x.t > 1099511627776 then 2
  else if x.ops.length = 0 then 11 else if x.ops.length > 16 then 7 else opsCheck x.un x.ops
def tShort (x : Tx) : Bool := decide (x.ops.length ≤ 20) && x.ops.all oShort
def tcmpT (a b : Tx) : Int := if icmp a.t b.t ≠ 0 then icmp a.t b.t else dcmp a.d b.d
def unI (b : Bool) : Int := if b = true then 1 else 0
def osCode (l : List Ov) : List UInt8 := pInt l.length ++ (l.map oCode).flatten
def tCode (x : Tx) : List UInt8 := (((dCode x.d ++ pInt x.u) ++ pInt x.t) ++ pInt (unI x.un)) ++ osCode x.ops
theorem opsCheck_split (un : Bool) : ∀ (l : List Ov) (k : Nat), (∀ j, j < k → ∀ h : j < l.length, oCheck l[j] = 0 ∨ (un && oGone l[j]) = true) → opsCheck un l = opsCheck un (l.drop k)
  | l, 0, _ => rfl
  | [], k + 1, _ => rfl
  | o :: l, k + 1, h => by
    have h0 := h 0 (by omega) (by simp)
    simp only [List.getElem_cons_zero] at h0
    have ih := opsCheck_split un l k (fun j hj hl => by have := h (j + 1) (by omega) (by simp; omega); rwa [List.getElem_cons_succ] at this)
    rw [opsCheck, List.drop_succ_cons, ← ih, if_neg]
    rintro ⟨h1, h2⟩
    rcases h0 with h0 | h0
    · exact h1 h0
    · rw [h0] at h2; cases h2
theorem opsCheck_zero {un : Bool} : ∀ {l : List Ov}, opsCheck un l = 0 → ∀ o ∈ l, oCheck o = 0 ∨ (un = true ∧ oGone o = true)
  | [], _, o, h => by cases h
  | o :: l, h, x, hx => by
    rw [opsCheck] at h
    by_cases c : oCheck o ≠ 0 ∧ (un && oGone o) = false
    · rw [if_pos c] at h; exact absurd h c.1
    · rw [if_neg c] at h
      rcases List.mem_cons.1 hx with rfl | hx
      · by_cases e : oCheck x = 0
        · exact .inl e
        · have : (un && oGone x) = true := by rw [← Bool.not_eq_false]; exact fun e2 => c ⟨e, e2⟩
          rw [Bool.and_eq_true] at this
          exact .inr this
      · exact opsCheck_zero h x hx
end Go.AR
