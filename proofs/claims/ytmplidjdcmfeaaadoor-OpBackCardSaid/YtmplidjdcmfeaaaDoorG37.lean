import Derived.Test.YtmplidjdcmfeaaaDoorG36
set_option linter.all false
/-! Operations: the laws. -/
namespace Go.AR
open Go
section
variable {C : CallRel} {F : Nat → FuncId}
theorem short_oOk {o : Ov} (h : oShort o = true) : oOk o ∧ o.p.length ≤ 12 := by
  unfold oShort at h
  simp only [Bool.and_eq_true, decide_eq_true_eq] at h
  refine ⟨⟨short_ok h.1.1, by omega, by omega⟩, ?_⟩
  have := h.1.1
  unfold pShort at this
  simp only [Bool.and_eq_true, decide_eq_true_eq] at this
  exact this.1
def aw11 : Ov := ⟨3, [[97]], z0, 5, []⟩
theorem right_a : rightB [97] = true := (right_iff _).2 ⟨1, .cons (by decide) (by decide) .nil, by omega, by omega⟩
theorem check_aw11 : oCheck aw11 = 0 := by
  have : pCheck [[97]] = 0 := by unfold pCheck; simp [right_a]
  have h : refsOk [] = true := by simp [refsOk]
  unfold oCheck aw11
  simp [this, h]
theorem code_aw11 : oCode aw11 = [3, 1, 1, 97, 10] := by
  have : oGone aw11 = false := by simp [oGone, aw11, zop]
  unfold oCode
  rw [this]
  have v : ∀ n, n < 128 → vint n = [UInt8.ofNat n] := by
    intro n h; unfold vint; rw [if_pos h]
  simp [aw11, pCode, pText, pInt, v, fold]
theorem g_plaw11_awake (h1 : S_oCheck (C (F n_op_Check))) (h2 : S_oCode (C (F n_op_Code))) (h3 : S_leaf (C (F n_op_Leaf))) : S_yes ((c_plaw11_awake F).gives C) := by
  refine gives_of rfl ?_
  unfold c_plaw11_awake
  have hok : oOk aw11 := ⟨check_ok (check_zero check_aw11).2.1, by simp [aw11, z0], by simp [aw11]⟩
  have hf := fit_of hok (.inl check_aw11)
  simp only [walk, Nat.reduceLT, Nat.reduceBEq, Nat.reduceAdd, Nat.reduceLeDiff, reduceIte, Int.reduceLT, Int.reduceLE, Int.reduceEq, Int.reduceToNat, Int.reduceBEq]
  refine callWp_of (h1 aw11 hok) ?_
  simp only [walk, Nat.reduceLT, Nat.reduceBEq, Nat.reduceAdd, Nat.reduceLeDiff, reduceIte, Int.reduceLT, Int.reduceLE, Int.reduceEq, Int.reduceToNat, Int.reduceBEq, check_aw11]
  refine callWp_of (h2 aw11 hf.1 hf.2) ?_
  simp only [walk, Nat.reduceLT, Nat.reduceBEq, Nat.reduceAdd, Nat.reduceLeDiff, reduceIte, Int.reduceLT, Int.reduceLE, Int.reduceEq, Int.reduceToNat, Int.reduceBEq, code_aw11, beq_self_eq_true]
  refine callWp_of (h3 4) ?_
  have e : oLeaf 4 = 2 := by decide
  simp only [walk, Nat.reduceLT, Nat.reduceBEq, Nat.reduceAdd, Nat.reduceLeDiff, reduceIte, Int.reduceLT, Int.reduceLE, Int.reduceEq, Int.reduceToNat, Int.reduceBEq, e]
def S_o1 (R : Rel) : Prop := ∀ o : Ov, R [.v (oP o)] (.val (.bool true)) []
def S_oNames (R : Rel) : Prop := ∀ (o : Ov) (r : Ud), R [.v (oP o), .v (uP r)] (.val (.bool true)) []
def S_oTells (R : Rel) : Prop := ∀ (o b : Ov) (r : Ud) (k : Int), R [.v (oP o), .v (oP b), .v (uP r), .v (.int .i64 k)] (.val (.bool true)) []
theorem oCode_len {o : Ov} (hs : oShort o = true) (hg : oCheck o = 0 ∨ oGone o = true) : (oCode o).length ≤ 20000000 := by
  obtain ⟨hok, hpl⟩ := short_oOk hs
  have hf := (fit_of hok hg).1
  obtain ⟨_, h1, h2, h3, h4, h5⟩ := hf
  have l1 := pInt_len h1
  have l3 := pInt_len (fold_ok h3 h4)
  have l5 := pInt_len (n := o.rs.length) (i64ok_nat (by have := hok.2.2; omega))
  have l6 := rsFlat_len o.rs h5
  unfold oShort at hs
  simp only [Bool.and_eq_true, decide_eq_true_eq] at hs
  obtain ⟨⟨s1, s2⟩, s3⟩ := hs
  have hp : (pCode o.p).length ≤ 10000 := by
    unfold pShort at s1
    simp only [Bool.and_eq_true, decide_eq_true_eq, List.all_eq_true] at s1
    have key : ∀ (p : List (List UInt8)), (∀ s ∈ p, s.length ≤ 120) → ((p.map pText).flatten).length ≤ p.length * 131 := by
      intro p
      induction p with
      | nil => simp
      | cons a p ih =>
        intro h
        have h2 := h a (by simp)
        have h3 : (vint a.length).length ≤ 11 := vint_len 10 _ (by omega)
        have ih := ih (fun s hs => h s (by simp [hs]))
        rw [List.map_cons, List.flatten_cons, List.length_append, pText, List.length_append, List.length_cons]
        omega
    have k1 := key o.p s1.2
    have k2 := pInt_len (n := o.p.length) (i64ok_nat (by omega))
    rw [pCode, List.length_append]; omega
  have hv : (vCode o.v).length ≤ 1000 := by
    have k1 := pInt_len h2.1
    have k2 := pInt_len (fold_ok h2.2.1 h2.2.2.1)
    have k3 : (vint o.v.2.2.length).length ≤ 11 := vint_len 10 _ (by omega)
    have k4 := pInt_len (n := 2) ⟨by omega, by omega⟩
    unfold vCode pText
    split <;> simp only [List.length_append] <;> omega
  have hrs : (rsCode o.rs).length ≤ 20000 := by
    rw [rsCode, List.length_append]; omega
  unfold oCode
  rw [List.length_append]
  split
  · simp; omega
  · rw [List.length_append]
    split
    · omega
    · rw [List.length_append]
      split <;> split <;> simp <;> omega
theorem g_OpBack (hA : S_yes (C (F n_plaw11_awake))) (h1 : S_oShort (C (F n_pref11_Short))) (h2 : S_oCheck (C (F n_pref11_Check))) (h3 : S_oGone (C (F n_pref11_Gone))) (h4 : S_oCode (C (F n_op_Code))) (h5 : S_Open (C (F n_pack_Open))) (h6 : S_oRead (C (F n_op_Read))) (h7 : S_oSame (C (F n_pref11_Same))) (h8 : S_End (C (F n_pack_Reader_End))) : S_o1 ((c_plaw11_OpBack F).gives C) := by
  intro o
  refine gives_of rfl ?_
  unfold c_plaw11_OpBack
  simp only [walk, Nat.reduceLT, Nat.reduceBEq, Nat.reduceAdd, Nat.reduceLeDiff, reduceIte, Int.reduceLT, Int.reduceLE, Int.reduceEq, Int.reduceToNat, Int.reduceBEq]
  refine callWp_of (h1 o) ?_
  cases hs : oShort o with
  | false =>
    simp only [walk, Nat.reduceLT, Nat.reduceBEq, Nat.reduceAdd, Nat.reduceLeDiff, reduceIte, Int.reduceLT, Int.reduceLE, Int.reduceEq, Int.reduceToNat, Int.reduceBEq]
    refine callWp_of hA ?_
    simp only [walk, Nat.reduceLT, Nat.reduceBEq, Nat.reduceAdd, Nat.reduceLeDiff, reduceIte, Int.reduceLT, Int.reduceLE, Int.reduceEq, Int.reduceToNat, Int.reduceBEq]
  | true =>
  obtain ⟨hok, hpl⟩ := short_oOk hs
  simp only [walk, Nat.reduceLT, Nat.reduceBEq, Nat.reduceAdd, Nat.reduceLeDiff, reduceIte, Int.reduceLT, Int.reduceLE, Int.reduceEq, Int.reduceToNat, Int.reduceBEq]
  refine callWp_of (h2 o hok) ?_
  by_cases hc : oCheck o = 0
  · have hg : oCheck o = 0 ∨ oGone o = true := .inl hc
    simp only [walk, Nat.reduceLT, Nat.reduceBEq, Nat.reduceAdd, Nat.reduceLeDiff, reduceIte, Int.reduceLT, Int.reduceLE, Int.reduceEq, Int.reduceToNat, Int.reduceBEq, hc, bne_self_eq_false]
    have hf := fit_of hok hg
    have hr := rdOp_code hg []
    rw [List.append_nil] at hr
    have hcl : (oCode o).length ≤ 20000000 := oCode_len hs hg
    refine callWp_of (h4 o hf.1 hf.2) ?_
    simp only [walk, Nat.reduceLT, Nat.reduceBEq, Nat.reduceAdd, Nat.reduceLeDiff, reduceIte, Int.reduceLT, Int.reduceLE, Int.reduceEq, Int.reduceToNat, Int.reduceBEq]
    refine callWp_of (h5 _) ?_
    simp only [walk, Nat.reduceLT, Nat.reduceBEq, Nat.reduceAdd, Nat.reduceLeDiff, reduceIte, Int.reduceLT, Int.reduceLE, Int.reduceEq, Int.reduceToNat, Int.reduceBEq]
    refine callWp_of (h6 _ _ hcl) ?_
    simp only [walk, Nat.reduceLT, Nat.reduceBEq, Nat.reduceAdd, Nat.reduceLeDiff, reduceIte, Int.reduceLT, Int.reduceLE, Int.reduceEq, Int.reduceToNat, Int.reduceBEq, hr]
    refine callWp_of (h7 o o hok) ?_
    simp only [walk, Nat.reduceLT, Nat.reduceBEq, Nat.reduceAdd, Nat.reduceLeDiff, reduceIte, Int.reduceLT, Int.reduceLE, Int.reduceEq, Int.reduceToNat, Int.reduceBEq]
    refine callWp_of (h8 _ _ (by unfold sLen; simp)) ?_
    have he : rEnd [] 0 = 0 := rfl
    simp only [walk, Nat.reduceLT, Nat.reduceBEq, Nat.reduceAdd, Nat.reduceLeDiff, reduceIte, Int.reduceLT, Int.reduceLE, Int.reduceEq, Int.reduceToNat, Int.reduceBEq, he]
    refine callWp_of hA ?_
    simp only [walk, Nat.reduceLT, Nat.reduceBEq, Nat.reduceAdd, Nat.reduceLeDiff, reduceIte, Int.reduceLT, Int.reduceLE, Int.reduceEq, Int.reduceToNat, Int.reduceBEq]
  · have hc' : (oCheck o != 0) = true := by simp [hc]
    simp only [walk, Nat.reduceLT, Nat.reduceBEq, Nat.reduceAdd, Nat.reduceLeDiff, reduceIte, Int.reduceLT, Int.reduceLE, Int.reduceEq, Int.reduceToNat, Int.reduceBEq, hc']
    refine callWp_of (h3 o) ?_
    cases hgo : oGone o with
    | false =>
      simp only [walk, Nat.reduceLT, Nat.reduceBEq, Nat.reduceAdd, Nat.reduceLeDiff, reduceIte, Int.reduceLT, Int.reduceLE, Int.reduceEq, Int.reduceToNat, Int.reduceBEq]
      refine callWp_of hA ?_
      simp only [walk, Nat.reduceLT, Nat.reduceBEq, Nat.reduceAdd, Nat.reduceLeDiff, reduceIte, Int.reduceLT, Int.reduceLE, Int.reduceEq, Int.reduceToNat, Int.reduceBEq]
    | true =>
    have hg : oCheck o = 0 ∨ oGone o = true := .inr hgo
    simp only [walk, Nat.reduceLT, Nat.reduceBEq, Nat.reduceAdd, Nat.reduceLeDiff, reduceIte, Int.reduceLT, Int.reduceLE, Int.reduceEq, Int.reduceToNat, Int.reduceBEq]
    have hf := fit_of hok hg
    have hr := rdOp_code hg []
    rw [List.append_nil] at hr
    have hcl : (oCode o).length ≤ 20000000 := oCode_len hs hg
    refine callWp_of (h4 o hf.1 hf.2) ?_
    simp only [walk, Nat.reduceLT, Nat.reduceBEq, Nat.reduceAdd, Nat.reduceLeDiff, reduceIte, Int.reduceLT, Int.reduceLE, Int.reduceEq, Int.reduceToNat, Int.reduceBEq]
    refine callWp_of (h5 _) ?_
    simp only [walk, Nat.reduceLT, Nat.reduceBEq, Nat.reduceAdd, Nat.reduceLeDiff, reduceIte, Int.reduceLT, Int.reduceLE, Int.reduceEq, Int.reduceToNat, Int.reduceBEq]
    refine callWp_of (h6 _ _ hcl) ?_
    simp only [walk, Nat.reduceLT, Nat.reduceBEq, Nat.reduceAdd, Nat.reduceLeDiff, reduceIte, Int.reduceLT, Int.reduceLE, Int.reduceEq, Int.reduceToNat, Int.reduceBEq, hr]
    refine callWp_of (h7 o o hok) ?_
    simp only [walk, Nat.reduceLT, Nat.reduceBEq, Nat.reduceAdd, Nat.reduceLeDiff, reduceIte, Int.reduceLT, Int.reduceLE, Int.reduceEq, Int.reduceToNat, Int.reduceBEq]
    refine callWp_of (h8 _ _ (by unfold sLen; simp)) ?_
    have he : rEnd [] 0 = 0 := rfl
    simp only [walk, Nat.reduceLT, Nat.reduceBEq, Nat.reduceAdd, Nat.reduceLeDiff, reduceIte, Int.reduceLT, Int.reduceLE, Int.reduceEq, Int.reduceToNat, Int.reduceBEq, he]
    refine callWp_of hA ?_
    simp only [walk, Nat.reduceLT, Nat.reduceBEq, Nat.reduceAdd, Nat.reduceLeDiff, reduceIte, Int.reduceLT, Int.reduceLE, Int.reduceEq, Int.reduceToNat, Int.reduceBEq]
theorem g_OpTells (hA : S_yes (C (F n_plaw11_awake))) (h1 : S_oShort (C (F n_pref11_Short))) (h2 : S_oCheck (C (F n_pref11_Check))) (h3 : S_oCheck (C (F n_op_Check))) (h4 : S_leaf (C (F n_op_Leaf))) (h5 : S_leaf (C (F n_pref11_Leaf))) (h6 : S_refs (C (F n_op_Refs))) (h7 : S_refs (C (F n_pref11_Refs))) (h8 : S_oSame (C (F n_op_Same))) (h9 : S_oSame (C (F n_pref11_Same))) (h10 : S_oGone (C (F n_op_Gone))) (h11 : S_oGone (C (F n_pref11_Gone))) (h12 : S_oCov (C (F n_op_Covers))) (h13 : S_oCov (C (F n_pref11_Covers))) (h14 : S_oCode (C (F n_op_Code))) (h15 : S_oCode (C (F n_pref11_Code))) : S_oTells ((c_plaw11_OpTells F).gives C) := by
  intro o b r k
  refine gives_of rfl ?_
  unfold c_plaw11_OpTells
  simp only [walk, Nat.reduceLT, Nat.reduceBEq, Nat.reduceAdd, Nat.reduceLeDiff, reduceIte, Int.reduceLT, Int.reduceLE, Int.reduceEq, Int.reduceToNat, Int.reduceBEq]
  refine callWp_of (h1 o) ?_
  cases hs : oShort o with
  | false =>
    simp only [walk, Nat.reduceLT, Nat.reduceBEq, Nat.reduceAdd, Nat.reduceLeDiff, reduceIte, Int.reduceLT, Int.reduceLE, Int.reduceEq, Int.reduceToNat, Int.reduceBEq]
    refine callWp_of hA ?_
    simp only [walk, Nat.reduceLT, Nat.reduceBEq, Nat.reduceAdd, Nat.reduceLeDiff, reduceIte, Int.reduceLT, Int.reduceLE, Int.reduceEq, Int.reduceToNat, Int.reduceBEq]
  | true =>
  simp only [walk, Nat.reduceLT, Nat.reduceBEq, Nat.reduceAdd, Nat.reduceLeDiff, reduceIte, Int.reduceLT, Int.reduceLE, Int.reduceEq, Int.reduceToNat, Int.reduceBEq]
  refine callWp_of (h1 b) ?_
  cases hsb : oShort b with
  | false =>
    simp only [walk, Nat.reduceLT, Nat.reduceBEq, Nat.reduceAdd, Nat.reduceLeDiff, reduceIte, Int.reduceLT, Int.reduceLE, Int.reduceEq, Int.reduceToNat, Int.reduceBEq]
    refine callWp_of hA ?_
    simp only [walk, Nat.reduceLT, Nat.reduceBEq, Nat.reduceAdd, Nat.reduceLeDiff, reduceIte, Int.reduceLT, Int.reduceLE, Int.reduceEq, Int.reduceToNat, Int.reduceBEq]
  | true =>
  have hok := (short_oOk hs).1
  have hokb := (short_oOk hsb).1
  simp only [walk, Nat.reduceLT, Nat.reduceBEq, Nat.reduceAdd, Nat.reduceLeDiff, reduceIte, Int.reduceLT, Int.reduceLE, Int.reduceEq, Int.reduceToNat, Int.reduceBEq]
  refine callWp_of (h2 o hok) ?_
  simp only [walk, Nat.reduceLT, Nat.reduceBEq, Nat.reduceAdd, Nat.reduceLeDiff, reduceIte, Int.reduceLT, Int.reduceLE, Int.reduceEq, Int.reduceToNat, Int.reduceBEq]
  refine callWp_of (h3 o hok) ?_
  simp only [walk, Nat.reduceLT, Nat.reduceBEq, Nat.reduceAdd, Nat.reduceLeDiff, reduceIte, Int.reduceLT, Int.reduceLE, Int.reduceEq, Int.reduceToNat, Int.reduceBEq, bne_self_eq_false]
  refine callWp_of (h4 k) ?_
  simp only [walk, Nat.reduceLT, Nat.reduceBEq, Nat.reduceAdd, Nat.reduceLeDiff, reduceIte, Int.reduceLT, Int.reduceLE, Int.reduceEq, Int.reduceToNat, Int.reduceBEq]
  refine callWp_of (h5 k) ?_
  simp only [walk, Nat.reduceLT, Nat.reduceBEq, Nat.reduceAdd, Nat.reduceLeDiff, reduceIte, Int.reduceLT, Int.reduceLE, Int.reduceEq, Int.reduceToNat, Int.reduceBEq, bne_self_eq_false]
  refine callWp_of (h6 o.rs hok.2.2) ?_
  simp only [walk, Nat.reduceLT, Nat.reduceBEq, Nat.reduceAdd, Nat.reduceLeDiff, reduceIte, Int.reduceLT, Int.reduceLE, Int.reduceEq, Int.reduceToNat, Int.reduceBEq]
  refine callWp_of (h7 o.rs hok.2.2) ?_
  simp only [walk, Nat.reduceLT, Nat.reduceBEq, Nat.reduceAdd, Nat.reduceLeDiff, reduceIte, Int.reduceLT, Int.reduceLE, Int.reduceEq, Int.reduceToNat, Int.reduceBEq, beq_self_eq_true]
  refine callWp_of (h8 o b hok) ?_
  simp only [walk, Nat.reduceLT, Nat.reduceBEq, Nat.reduceAdd, Nat.reduceLeDiff, reduceIte, Int.reduceLT, Int.reduceLE, Int.reduceEq, Int.reduceToNat, Int.reduceBEq]
  refine callWp_of (h9 o b hok) ?_
  simp only [walk, Nat.reduceLT, Nat.reduceBEq, Nat.reduceAdd, Nat.reduceLeDiff, reduceIte, Int.reduceLT, Int.reduceLE, Int.reduceEq, Int.reduceToNat, Int.reduceBEq, beq_self_eq_true]
  refine callWp_of (h10 o) ?_
  simp only [walk, Nat.reduceLT, Nat.reduceBEq, Nat.reduceAdd, Nat.reduceLeDiff, reduceIte, Int.reduceLT, Int.reduceLE, Int.reduceEq, Int.reduceToNat, Int.reduceBEq]
  refine callWp_of (h11 o) ?_
  simp only [walk, Nat.reduceLT, Nat.reduceBEq, Nat.reduceAdd, Nat.reduceLeDiff, reduceIte, Int.reduceLT, Int.reduceLE, Int.reduceEq, Int.reduceToNat, Int.reduceBEq, beq_self_eq_true]
  refine callWp_of (h7 o.rs hok.2.2) ?_
  cases hr : refsOk o.rs
  all_goals simp only [walk, Nat.reduceLT, Nat.reduceBEq, Nat.reduceAdd, Nat.reduceLeDiff, reduceIte, Int.reduceLT, Int.reduceLE, Int.reduceEq, Int.reduceToNat, Int.reduceBEq]
  rotate_left
  refine callWp_of (h12 o r hok hr) ?_
  simp only [walk, Nat.reduceLT, Nat.reduceBEq, Nat.reduceAdd, Nat.reduceLeDiff, reduceIte, Int.reduceLT, Int.reduceLE, Int.reduceEq, Int.reduceToNat, Int.reduceBEq]
  refine callWp_of (h13 o r hok hr) ?_
  simp only [walk, Nat.reduceLT, Nat.reduceBEq, Nat.reduceAdd, Nat.reduceLeDiff, reduceIte, Int.reduceLT, Int.reduceLE, Int.reduceEq, Int.reduceToNat, Int.reduceBEq, beq_self_eq_true]
  all_goals
    by_cases hc : oCheck o = 0
    · have hf := fit_of hok (.inl hc)
      simp only [walk, Nat.reduceLT, Nat.reduceBEq, Nat.reduceAdd, Nat.reduceLeDiff, reduceIte, Int.reduceLT, Int.reduceLE, Int.reduceEq, Int.reduceToNat, Int.reduceBEq, hc, bne_self_eq_false]
      refine callWp_of (h14 o hf.1 hf.2) ?_
      simp only [walk, Nat.reduceLT, Nat.reduceBEq, Nat.reduceAdd, Nat.reduceLeDiff, reduceIte, Int.reduceLT, Int.reduceLE, Int.reduceEq, Int.reduceToNat, Int.reduceBEq]
      refine callWp_of (h15 o hf.1 hf.2) ?_
      simp only [walk, Nat.reduceLT, Nat.reduceBEq, Nat.reduceAdd, Nat.reduceLeDiff, reduceIte, Int.reduceLT, Int.reduceLE, Int.reduceEq, Int.reduceToNat, Int.reduceBEq, beq_self_eq_true]
      refine callWp_of hA ?_
      simp only [walk, Nat.reduceLT, Nat.reduceBEq, Nat.reduceAdd, Nat.reduceLeDiff, reduceIte, Int.reduceLT, Int.reduceLE, Int.reduceEq, Int.reduceToNat, Int.reduceBEq]
    · have hc' : (oCheck o != 0) = true := by simp [hc]
      simp only [walk, Nat.reduceLT, Nat.reduceBEq, Nat.reduceAdd, Nat.reduceLeDiff, reduceIte, Int.reduceLT, Int.reduceLE, Int.reduceEq, Int.reduceToNat, Int.reduceBEq, hc']
      refine callWp_of (h11 o) ?_
      cases hgo : oGone o with
      | false =>
        simp only [walk, Nat.reduceLT, Nat.reduceBEq, Nat.reduceAdd, Nat.reduceLeDiff, reduceIte, Int.reduceLT, Int.reduceLE, Int.reduceEq, Int.reduceToNat, Int.reduceBEq]
        refine callWp_of hA ?_
        simp only [walk, Nat.reduceLT, Nat.reduceBEq, Nat.reduceAdd, Nat.reduceLeDiff, reduceIte, Int.reduceLT, Int.reduceLE, Int.reduceEq, Int.reduceToNat, Int.reduceBEq]
      | true =>
        have hf := fit_of hok (.inr hgo)
        simp only [walk, Nat.reduceLT, Nat.reduceBEq, Nat.reduceAdd, Nat.reduceLeDiff, reduceIte, Int.reduceLT, Int.reduceLE, Int.reduceEq, Int.reduceToNat, Int.reduceBEq]
        refine callWp_of (h14 o hf.1 hf.2) ?_
        simp only [walk, Nat.reduceLT, Nat.reduceBEq, Nat.reduceAdd, Nat.reduceLeDiff, reduceIte, Int.reduceLT, Int.reduceLE, Int.reduceEq, Int.reduceToNat, Int.reduceBEq]
        refine callWp_of (h15 o hf.1 hf.2) ?_
        simp only [walk, Nat.reduceLT, Nat.reduceBEq, Nat.reduceAdd, Nat.reduceLeDiff, reduceIte, Int.reduceLT, Int.reduceLE, Int.reduceEq, Int.reduceToNat, Int.reduceBEq, beq_self_eq_true]
        refine callWp_of hA ?_
        simp only [walk, Nat.reduceLT, Nat.reduceBEq, Nat.reduceAdd, Nat.reduceLeDiff, reduceIte, Int.reduceLT, Int.reduceLE, Int.reduceEq, Int.reduceToNat, Int.reduceBEq]
/-- How many of the first are there. -/
theorem distinct {l : List Ud} (hs : sortR l) {i j : Nat} (hi : i < l.length) (hj : j < l.length) (h : l.getD i z3 = l.getD j z3) : i = j := by
  rcases Nat.lt_trichotomy i j with k | k | k
  · have := hs i j k hj; rw [h, rcmp_neg] at this; omega
  · exact k
  · have := hs j i k hi; rw [h, rcmp_neg] at this; omega
theorem g_OpNames (hA : S_yes (C (F n_plaw11_awake))) (h1 : S_oShort (C (F n_pref11_Short))) (h2 : S_oCheck (C (F n_pref11_Check))) (h3 : S_oCov (C (F n_op_Covers))) : S_oNames ((c_plaw11_OpNames F).gives C) := by
  intro o r
  refine gives_of rfl ?_
  unfold c_plaw11_OpNames
  simp only [walk, Nat.reduceLT, Nat.reduceBEq, Nat.reduceAdd, Nat.reduceLeDiff, reduceIte, Int.reduceLT, Int.reduceLE, Int.reduceEq, Int.reduceToNat, Int.reduceBEq]
  refine callWp_of (h1 o) ?_
  cases hs : oShort o with
  | false =>
    simp only [walk, Nat.reduceLT, Nat.reduceBEq, Nat.reduceAdd, Nat.reduceLeDiff, reduceIte, Int.reduceLT, Int.reduceLE, Int.reduceEq, Int.reduceToNat, Int.reduceBEq]
    refine callWp_of hA ?_
    simp only [walk, Nat.reduceLT, Nat.reduceBEq, Nat.reduceAdd, Nat.reduceLeDiff, reduceIte, Int.reduceLT, Int.reduceLE, Int.reduceEq, Int.reduceToNat, Int.reduceBEq]
  | true =>
  have hok := (short_oOk hs).1
  simp only [walk, Nat.reduceLT, Nat.reduceBEq, Nat.reduceAdd, Nat.reduceLeDiff, reduceIte, Int.reduceLT, Int.reduceLE, Int.reduceEq, Int.reduceToNat, Int.reduceBEq]
  refine callWp_of (h2 o hok) ?_
  by_cases hc : oCheck o = 0
  · have hr : refsOk o.rs = true := (check_zero hc).2.2.2.2.2.2.2.2
    have hsort := sort_of_refs hr
    have hl := hok.2.2
    simp only [walk, Nat.reduceLT, Nat.reduceBEq, Nat.reduceAdd, Nat.reduceLeDiff, reduceIte, Int.reduceLT, Int.reduceLE, Int.reduceEq, Int.reduceToNat, Int.reduceBEq, hc, bne_self_eq_false, uRows_len]
    refine awp_loop_ind (X := Nat × Int) (fun x => ⟨[(0, .val (oP o)), (1, .val (uP r)), (2, .lp 2 0), (3, .lp 3 0), (4, .val (.bool false)), (5, .val (.int .i64 x.2)), (6, .val (.int .i64 x.1)), (14, .val (.bool false))], [(2, oB o), (3, uB r)]⟩)
      (fun x => x.1 ≤ o.rs.length ∧ x.2 = if hasR (o.rs.take x.1) r = true then 1 else 0) (fun x => o.rs.length - x.1) (0, 0) ⟨by omega, by simp [hasR]⟩ rfl ?_
    rintro R ⟨k, n⟩ ⟨hk, hn⟩ ih
    simp only at hk hn
    simp only [walk, Nat.reduceLT, Nat.reduceBEq, Nat.reduceAdd, Nat.reduceLeDiff, reduceIte, Int.reduceLT, Int.reduceLE, Int.reduceEq, Int.reduceToNat, Int.reduceBEq, uRows_len]
    by_cases c : k < o.rs.length
    · have c1 : (k : Int) < o.rs.length := by omega
      have c0 : (0 : Int) ≤ k := by omega
      have e1 : IntKind.i64.wrap ((k : Int) + 1) = ((k + 1 : Nat) : Int) := wrap64 (by omega) (by omega)
      have htk : hasR (o.rs.take (k + 1)) r = (hasR (o.rs.take k) r || decide (o.rs.getD k z3 = r)) := by
        unfold hasR
        rw [List.take_add_one, List.getElem?_eq_getElem c, List.any_append, getD_at c]
        simp
      simp only [walk, Nat.reduceLT, Nat.reduceBEq, Nat.reduceAdd, Nat.reduceLeDiff, reduceIte, Int.reduceLT, Int.reduceLE, Int.reduceEq, Int.reduceToNat, Int.reduceBEq, c1, uRows_get c, uRows_len]
      refine callWp_of (h3 o (o.rs.getD k z3) hok hr) ?_
      have hh : hasR o.rs (o.rs.getD k z3) = true := hasR_iff.2 ⟨k, c, rfl⟩
      simp only [walk, Nat.reduceLT, Nat.reduceBEq, Nat.reduceAdd, Nat.reduceLeDiff, reduceIte, Int.reduceLT, Int.reduceLE, Int.reduceEq, Int.reduceToNat, Int.reduceBEq, hh, c1, uRows_get c, uRows_len, eq_r]
      by_cases he : o.rs.getD k z3 = r
      · have hno : hasR (o.rs.take k) r = false := by
          rw [← Bool.not_eq_true, hasR_iff]
          rintro ⟨j, hj, e⟩
          rw [List.length_take, Nat.min_eq_left (by omega)] at hj
          have ej : (o.rs.take k).getD j z3 = o.rs.getD j z3 := by
            rw [List.getD_eq_getElem?_getD, List.getD_eq_getElem?_getD, List.getElem?_take_of_lt hj]
          rw [ej, ← he] at e
          have := distinct hsort (by omega) c e
          omega
        rw [hno] at hn
        simp only [Bool.false_eq_true, if_false] at hn
        subst hn
        have w1 : IntKind.i64.wrap ((0 : Int) + 1) = 1 := wrap64 (by omega) (by omega)
        simp only [walk, Nat.reduceLT, Nat.reduceBEq, Nat.reduceAdd, Nat.reduceLeDiff, reduceIte, Int.reduceLT, Int.reduceLE, Int.reduceEq, Int.reduceToNat, Int.reduceBEq, he, w1, e1]
        exact ih (k + 1, 1) ⟨by simp only; omega, by simp only; rw [htk, decide_eq_true he, Bool.or_true]; rfl⟩ (by simp only; omega)
      · simp only [walk, Nat.reduceLT, Nat.reduceBEq, Nat.reduceAdd, Nat.reduceLeDiff, reduceIte, Int.reduceLT, Int.reduceLE, Int.reduceEq, Int.reduceToNat, Int.reduceBEq, he, e1]
        exact ih (k + 1, n) ⟨by simp only; omega, by simp only; rw [htk, hn]; simp only [he, decide_false, Bool.or_false]⟩ (by simp only; omega)
    · have c1 : ¬ (k : Int) < o.rs.length := by omega
      rw [List.take_of_length_le (by omega)] at hn
      have n1 : n ≤ 1 := by rw [hn]; split <;> omega
      have hb : hasR o.rs r = (n == 1) := by
        rw [hn]; cases hasR o.rs r <;> rfl
      simp only [walk, Nat.reduceLT, Nat.reduceBEq, Nat.reduceAdd, Nat.reduceLeDiff, reduceIte, Int.reduceLT, Int.reduceLE, Int.reduceEq, Int.reduceToNat, Int.reduceBEq, c1, n1]
      refine callWp_of (h3 o r hok hr) ?_
      simp only [walk, Nat.reduceLT, Nat.reduceBEq, Nat.reduceAdd, Nat.reduceLeDiff, reduceIte, Int.reduceLT, Int.reduceLE, Int.reduceEq, Int.reduceToNat, Int.reduceBEq, hb, beq_self_eq_true]
      refine callWp_of hA ?_
      simp only [walk, Nat.reduceLT, Nat.reduceBEq, Nat.reduceAdd, Nat.reduceLeDiff, reduceIte, Int.reduceLT, Int.reduceLE, Int.reduceEq, Int.reduceToNat, Int.reduceBEq]
  · have hc' : (oCheck o != 0) = true := by simp [hc]
    simp only [walk, Nat.reduceLT, Nat.reduceBEq, Nat.reduceAdd, Nat.reduceLeDiff, reduceIte, Int.reduceLT, Int.reduceLE, Int.reduceEq, Int.reduceToNat, Int.reduceBEq, hc']
    refine callWp_of hA ?_
    simp only [walk, Nat.reduceLT, Nat.reduceBEq, Nat.reduceAdd, Nat.reduceLeDiff, reduceIte, Int.reduceLT, Int.reduceLE, Int.reduceEq, Int.reduceToNat, Int.reduceBEq]
end
end Go.AR
