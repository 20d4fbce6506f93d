import Derived.Test.YtkankogmljifiaaDoorG33
set_option linter.all false
/-! Operations: what is wrong, and the bytes. -/
namespace Go.AR
open Go
section
variable {C : CallRel} {F : Nat → FuncId}
def oVal (o : Ov) : Bool := if o.k = 3 ∨ o.k = 5 then decide (o.v = z0) else vOk o.v
theorem oCheck_eq (o : Ov) : oCheck o = if o.k < 1 ∨ o.k > 5 then 18 else if pCheck o.p ≠ 0 then pCheck o.p
  else if oVal o = false then 2 else if amOk o = false then 2 else if (o.k = 2 ∨ o.k = 3) ∧ o.rs.length > 0 then 2 else if o.rs.length > 256 then 7 else if refsOk o.rs = false then 2 else 0 := by
  unfold oCheck
  by_cases h0 : o.k < 1 ∨ o.k > 5
  · rw [if_pos h0, if_pos h0]
  · rw [if_neg h0, if_neg h0]
    by_cases h1 : pCheck o.p ≠ 0
    · rw [if_pos h1, if_pos h1]
    · rw [if_neg h1, if_neg h1]
      have hv : ((o.k = 3 ∨ o.k = 5) ∧ o.v ≠ z0) ∨ ((o.k ≠ 3 ∧ o.k ≠ 5) ∧ vOk o.v = false) ↔ oVal o = false := by
        unfold oVal
        by_cases h : o.k = 3 ∨ o.k = 5
        · rw [if_pos h]; simp [h]; omega
        · rw [if_neg h]; simp [h]; omega
      have ha : (o.k ≠ 3 ∧ o.am ≠ 0) ∨ (o.k = 3 ∧ (o.am = 0 ∨ o.am > 2147483647 ∨ o.am < -2147483647)) ↔ amOk o = false := by
        unfold amOk
        by_cases h : o.k = 3
        · rw [if_pos h, ← Bool.not_eq_true]; simp [h]; omega
        · rw [if_neg h, ← Bool.not_eq_true]; simp [h]
      have e : ∀ (A B : Prop) [Decidable A] [Decidable B] (x : Int), (if A then 2 else if B then 2 else x) = if A ∨ B then 2 else x := by
        intro A B _ _ x
        by_cases a : A
        · simp [a]
        · by_cases b : B <;> simp [a, b]
      rw [e]
      simp only [hv, ha]
theorem g_op_Check (hP : S_pCheck (C (F n_path_Check))) (hV : S_oVal (C (F n_op_valued))) (hA : S_oAm (C (F n_op_amount))) (hR : S_refs (C (F n_op_Refs))) : S_oCheck ((c_op_Check F).gives C) := by
  intro o ho
  rw [oCheck_eq]
  refine gives_of rfl ?_
  unfold c_op_Check
  have hV := hV o ho
  have hA := hA o
  have hP := hP o.p ho.1
  have hR := hR o.rs ho.2.2
  change C _ _ (.val (.bool (oVal o))) _ at hV
  generalize oVal o = V at *
  generalize amOk o = A at *
  obtain ⟨k, p, v, am, rs⟩ := o
  simp only at hP hR ⊢
  simp only [walk, Nat.reduceLT, Nat.reduceBEq, Nat.reduceAdd, Nat.reduceLeDiff, reduceIte, Int.reduceLT, Int.reduceLE, Int.reduceEq, Int.reduceToNat, Int.reduceBEq, ieq, ine, ne_eq, decide_not]
  by_cases h1 : k < 1
  · simp only [walk, Nat.reduceLT, Nat.reduceBEq, Nat.reduceAdd, Nat.reduceLeDiff, reduceIte, Int.reduceLT, Int.reduceLE, Int.reduceEq, Int.reduceToNat, Int.reduceBEq, h1, true_or]
  by_cases h2 : k > 5
  · simp only [walk, Nat.reduceLT, Nat.reduceBEq, Nat.reduceAdd, Nat.reduceLeDiff, reduceIte, Int.reduceLT, Int.reduceLE, Int.reduceEq, Int.reduceToNat, Int.reduceBEq, h1, h2, or_true]
  simp only [walk, Nat.reduceLT, Nat.reduceBEq, Nat.reduceAdd, Nat.reduceLeDiff, reduceIte, Int.reduceLT, Int.reduceLE, Int.reduceEq, Int.reduceToNat, Int.reduceBEq, h1, h2, or_self]
  refine callWp_of hP ?_
  by_cases hp : pCheck p = 0
  · have hk : k = 1 ∨ k = 2 ∨ k = 3 ∨ k = 4 ∨ k = 5 := by omega
    have e0 : ((rs.length : Int) > 0) = (rs.length > 0) := by apply propext; omega
    have e6 : ((rs.length : Int) > 256) = (rs.length > 256) := by apply propext; omega
    rcases hk with rfl | rfl | rfl | rfl | rfl
    all_goals simp only [walk, Nat.reduceLT, Nat.reduceBEq, Nat.reduceAdd, Nat.reduceLeDiff, reduceIte, Int.reduceLT, Int.reduceLE, Int.reduceEq, Int.reduceToNat, Int.reduceBEq, ieq, ine, ne_eq, decide_not, hp]
    all_goals refine callWp_of hV ?_
    all_goals cases V
    all_goals simp only [walk, Nat.reduceLT, Nat.reduceBEq, Nat.reduceAdd, Nat.reduceLeDiff, reduceIte, Int.reduceLT, Int.reduceLE, Int.reduceEq, Int.reduceToNat, Int.reduceBEq]
    all_goals refine callWp_of hA ?_
    all_goals cases A
    all_goals simp only [walk, Nat.reduceLT, Nat.reduceBEq, Nat.reduceAdd, Nat.reduceLeDiff, reduceIte, Int.reduceLT, Int.reduceLE, Int.reduceEq, Int.reduceToNat, Int.reduceBEq, uRows_len, e0, e6, or_self, or_true, true_or, false_and]
    all_goals try (by_cases d0 : rs.length > 0 <;> simp only [walk, Nat.reduceLT, Nat.reduceBEq, Nat.reduceAdd, Nat.reduceLeDiff, reduceIte, Int.reduceLT, Int.reduceLE, Int.reduceEq, Int.reduceToNat, Int.reduceBEq, d0])
    all_goals try (by_cases d6 : rs.length > 256 <;> simp only [walk, Nat.reduceLT, Nat.reduceBEq, Nat.reduceAdd, Nat.reduceLeDiff, reduceIte, Int.reduceLT, Int.reduceLE, Int.reduceEq, Int.reduceToNat, Int.reduceBEq, uRows_len, e0, e6, d6])
    all_goals try (refine callWp_of hR ?_; cases hr : refsOk rs <;> simp only [walk, Nat.reduceLT, Nat.reduceBEq, Nat.reduceAdd, Nat.reduceLeDiff, reduceIte, Int.reduceLT, Int.reduceLE, Int.reduceEq, Int.reduceToNat, Int.reduceBEq])
  · simp only [walk, Nat.reduceLT, Nat.reduceBEq, Nat.reduceAdd, Nat.reduceLeDiff, reduceIte, Int.reduceLT, Int.reduceLE, Int.reduceEq, Int.reduceToNat, Int.reduceBEq, ieq, ine, ne_eq, decide_not, hp]
set_option maxHeartbeats 1000000 in
theorem g_pref11_Check (hP : S_pCheck (C (F n_pref10_Check))) (hV : S_vOk (C (F n_pref09_Right))) (hR : S_refs (C (F n_pref11_Refs))) : S_oCheck ((c_pref11_Check F).gives C) := by
  intro o ho
  unfold oCheck
  refine gives_of rfl ?_
  unfold c_pref11_Check
  have hV := hV o.v ho.2.1
  have hP := hP o.p ho.1
  have hR := hR o.rs ho.2.2
  obtain ⟨k, p, v, am, rs⟩ := o
  simp only at hP hR hV ⊢
  simp only [walk, Nat.reduceLT, Nat.reduceBEq, Nat.reduceAdd, Nat.reduceLeDiff, reduceIte, Int.reduceLT, Int.reduceLE, Int.reduceEq, Int.reduceToNat, Int.reduceBEq, ieq, ine, ne_eq, decide_not]
  by_cases h1 : k < 1
  · simp only [walk, Nat.reduceLT, Nat.reduceBEq, Nat.reduceAdd, Nat.reduceLeDiff, reduceIte, Int.reduceLT, Int.reduceLE, Int.reduceEq, Int.reduceToNat, Int.reduceBEq, h1, true_or]
  by_cases h2 : k > 5
  · simp only [walk, Nat.reduceLT, Nat.reduceBEq, Nat.reduceAdd, Nat.reduceLeDiff, reduceIte, Int.reduceLT, Int.reduceLE, Int.reduceEq, Int.reduceToNat, Int.reduceBEq, h1, h2, or_true]
  simp only [walk, Nat.reduceLT, Nat.reduceBEq, Nat.reduceAdd, Nat.reduceLeDiff, reduceIte, Int.reduceLT, Int.reduceLE, Int.reduceEq, Int.reduceToNat, Int.reduceBEq, h1, h2, or_self]
  refine callWp_of hP ?_
  by_cases hp : pCheck p = 0
  · have hk : k = 1 ∨ k = 2 ∨ k = 3 ∨ k = 4 ∨ k = 5 := by omega
    have e0 : ((rs.length : Int) > 0) = (rs.length > 0) := by apply propext; omega
    have e6 : ((rs.length : Int) > 256) = (rs.length > 256) := by apply propext; omega
    rcases hk with rfl | rfl | rfl | rfl | rfl
    all_goals simp only [walk, Nat.reduceLT, Nat.reduceBEq, Nat.reduceAdd, Nat.reduceLeDiff, reduceIte, Int.reduceLT, Int.reduceLE, Int.reduceEq, Int.reduceToNat, Int.reduceBEq, ieq, ine, ne_eq, decide_not, hp, eq_v0, or_self, or_true, true_or, false_or, or_false, and_self, false_and, and_false]
    all_goals try (refine callWp_of hV ?_; cases vOk v <;> simp only [walk, Nat.reduceLT, Nat.reduceBEq, Nat.reduceAdd, Nat.reduceLeDiff, reduceIte, Int.reduceLT, Int.reduceLE, Int.reduceEq, Int.reduceToNat, Int.reduceBEq, ieq, ine, ne_eq, decide_not, uRows_len, e0, e6, or_self, or_true, true_or, false_or, or_false, and_self, false_and, and_false])
    all_goals try (by_cases dv : v = z0 <;> simp only [walk, Nat.reduceLT, Nat.reduceBEq, Nat.reduceAdd, Nat.reduceLeDiff, reduceIte, Int.reduceLT, Int.reduceLE, Int.reduceEq, Int.reduceToNat, Int.reduceBEq, ieq, ine, ne_eq, decide_not, uRows_len, e0, e6, or_self, or_true, true_or, false_or, or_false, and_self, false_and, and_false, dv])
    all_goals try (by_cases da : am = 0 <;> simp only [walk, Nat.reduceLT, Nat.reduceBEq, Nat.reduceAdd, Nat.reduceLeDiff, reduceIte, Int.reduceLT, Int.reduceLE, Int.reduceEq, Int.reduceToNat, Int.reduceBEq, ieq, ine, ne_eq, decide_not, uRows_len, e0, e6, or_self, or_true, true_or, false_or, or_false, and_self, false_and, and_false, da])
    all_goals try (by_cases db : am > 2147483647 <;> simp only [walk, Nat.reduceLT, Nat.reduceBEq, Nat.reduceAdd, Nat.reduceLeDiff, reduceIte, Int.reduceLT, Int.reduceLE, Int.reduceEq, Int.reduceToNat, Int.reduceBEq, ieq, ine, ne_eq, decide_not, uRows_len, e0, e6, or_self, or_true, true_or, false_or, or_false, and_self, false_and, and_false, db])
    all_goals try (by_cases dc : am < -2147483647 <;> simp only [walk, Nat.reduceLT, Nat.reduceBEq, Nat.reduceAdd, Nat.reduceLeDiff, reduceIte, Int.reduceLT, Int.reduceLE, Int.reduceEq, Int.reduceToNat, Int.reduceBEq, ieq, ine, ne_eq, decide_not, uRows_len, e0, e6, or_self, or_true, true_or, false_or, or_false, and_self, false_and, and_false, dc])
    all_goals try (by_cases d0 : rs.length > 0 <;> simp only [walk, Nat.reduceLT, Nat.reduceBEq, Nat.reduceAdd, Nat.reduceLeDiff, reduceIte, Int.reduceLT, Int.reduceLE, Int.reduceEq, Int.reduceToNat, Int.reduceBEq, ieq, ine, ne_eq, decide_not, uRows_len, e0, e6, or_self, or_true, true_or, false_or, or_false, and_self, false_and, and_false, d0])
    all_goals try (by_cases d6 : rs.length > 256 <;> simp only [walk, Nat.reduceLT, Nat.reduceBEq, Nat.reduceAdd, Nat.reduceLeDiff, reduceIte, Int.reduceLT, Int.reduceLE, Int.reduceEq, Int.reduceToNat, Int.reduceBEq, ieq, ine, ne_eq, decide_not, uRows_len, e0, e6, or_self, or_true, true_or, false_or, or_false, and_self, false_and, and_false, d6])
    all_goals try (refine callWp_of hR ?_; cases refsOk rs <;> simp only [walk, Nat.reduceLT, Nat.reduceBEq, Nat.reduceAdd, Nat.reduceLeDiff, reduceIte, Int.reduceLT, Int.reduceLE, Int.reduceEq, Int.reduceToNat, Int.reduceBEq, ieq, ine, ne_eq, decide_not, uRows_len, e0, e6, or_self, or_true, true_or, false_or, or_false, and_self, false_and, and_false])
  · simp only [walk, Nat.reduceLT, Nat.reduceBEq, Nat.reduceAdd, Nat.reduceLeDiff, reduceIte, Int.reduceLT, Int.reduceLE, Int.reduceEq, Int.reduceToNat, Int.reduceBEq, ieq, ine, ne_eq, decide_not, hp]
end
end Go.AR

/-! Operations: the bytes. -/
namespace Go.AR
open Go
section
variable {C : CallRel} {F : Nat → FuncId}
/-- Operations of which the bytes fit. -/
def oFit (o : Ov) : Prop := oOk o ∧ i64ok o.k ∧ vFit o.v ∧ -2147483648 ≤ o.am ∧ o.am ≤ 2147483648 ∧ ∀ r ∈ o.rs, dFit r.1 ∧ i64ok r.2
def S_oCode (R : Rel) : Prop := ∀ o : Ov, oFit o → (oGone o = true ∨ (1 ≤ o.k ∧ o.k ≤ 5)) → R [.v (oP o)] (.val (.str (oCode o))) []
theorem rCode_len {r : Ud} (h : dFit r.1 ∧ i64ok r.2) : (dCode r.1).length ≤ 22 ∧ (pInt r.2).length ≤ 11 := by
  have h1 := pInt_len h.1.1
  have h2 := pInt_len h.1.2
  have h3 := pInt_len h.2
  unfold dCode
  rw [List.length_append]
  exact ⟨by omega, h3⟩
theorem rsFlat_len : ∀ (l : List Ud), (∀ r ∈ l, dFit r.1 ∧ i64ok r.2) → ((l.map rCode).flatten).length ≤ l.length * 33
  | [], _ => by simp
  | r :: l, h => by
    have h1 := rCode_len (h r (by simp))
    have h2 := rsFlat_len l (fun t ht => h t (by simp [ht]))
    rw [List.map_cons, List.flatten_cons, List.length_append, List.length_cons, rCode, List.length_append]; omega
theorem pCode_len {p : List (List UInt8)} (h : pOk p) : (pCode p).length ≤ 50000000000000 := by
  have h1 := pParts_len p h.2
  have h2 := pInt_len (n := p.length) (i64ok_nat (by have := h.1; omega))
  have h3 := h.1
  have : p.length * 20000011 ≤ 2000000 * 20000011 := Nat.mul_le_mul h3 (Nat.le_refl _)
  rw [pCode, List.length_append]; omega
theorem vCode_len {v : Vl} (h : vFit v) : (vCode v).length ≤ 20000100 := by
  have h1 := pInt_len h.1
  have h2 := pInt_len (fold_ok h.2.1 h.2.2.1)
  have h3 := pText_len v.2.2 h.2.2.2
  have h4 := pInt_len (n := 2) ⟨by omega, by omega⟩
  unfold vCode; split <;> rw [List.length_append] <;> omega
theorem rs_take (l : List Ud) (k : Nat) (h : k < l.length) (A : List UInt8) : (A ++ ((l.take k).map rCode).flatten) ++ (dCode (l.getD k z3).1 ++ pInt (l.getD k z3).2) = A ++ ((l.take (k + 1)).map rCode).flatten := by
  rw [getD_at h, List.take_add_one, List.getElem?_eq_getElem h, Option.toList_some, List.map_append, List.flatten_append, List.append_assoc]
  simp only [List.map_cons, List.map_nil, List.flatten_cons, List.flatten_nil, List.append_nil, rCode]
theorem g_op_Code (hI : S_i2s (C (F n_pack_Int))) (hG : S_oGone (C (F n_op_Gone))) (hP : S_pCode (C (F n_path_Code))) (hF : S_fold (C (F n_value_Fold))) (hV : S_vCode (C (F n_value_Code))) (hD : S_dCode (C (F n_dot_Code))) : S_oCode ((c_op_Code F).gives C) := by
  intro o ho hk
  have hG := hG o
  refine gives_of rfl ?_
  unfold c_op_Code oCode
  obtain ⟨hok, h1, h2, h3, h4, h5⟩ := ho
  have hP := hP o.p hok.1
  have hF := hF o.am h3 h4
  have hV := hV o.v h2
  have l1 := pInt_len h1
  have l2 := pCode_len hok.1
  have l3 := pInt_len (fold_ok h3 h4)
  have l4 := vCode_len h2
  have hrl := hok.2.2
  have l5 := pInt_len (n := o.rs.length) (i64ok_nat (by omega))
  simp only [walk, Nat.reduceLT, Nat.reduceBEq, Nat.reduceAdd, Nat.reduceLeDiff, reduceIte, Int.reduceLT, Int.reduceLE, Int.reduceEq, Int.reduceToNat, Int.reduceBEq, ieq]
  refine callWp_of (hI o.k h1) ?_
  simp only [walk, Nat.reduceLT, Nat.reduceBEq, Nat.reduceAdd, Nat.reduceLeDiff, reduceIte, Int.reduceLT, Int.reduceLE, Int.reduceEq, Int.reduceToNat, Int.reduceBEq]
  refine callWp_of hG ?_
  cases hg : oGone o with
  | true => simp only [walk, Nat.reduceLT, Nat.reduceBEq, Nat.reduceAdd, Nat.reduceLeDiff, reduceIte, Int.reduceLT, Int.reduceLE, Int.reduceEq, Int.reduceToNat, Int.reduceBEq, List.append_nil]
  | false =>
    have hk := hk.resolve_left (by simp [hg])
    obtain ⟨k, p, v, am, rs⟩ := o
    simp only at *
    simp only [walk, Nat.reduceLT, Nat.reduceBEq, Nat.reduceAdd, Nat.reduceLeDiff, reduceIte, Int.reduceLT, Int.reduceLE, Int.reduceEq, Int.reduceToNat, Int.reduceBEq]
    refine callWp_of hP ?_
    simp only [walk, Nat.reduceLT, Nat.reduceBEq, Nat.reduceAdd, Nat.reduceLeDiff, reduceIte, Int.reduceLT, Int.reduceLE, Int.reduceEq, Int.reduceToNat, Int.reduceBEq]
    rw [bins_add (by omega)]
    have hk : k = 1 ∨ k = 2 ∨ k = 3 ∨ k = 4 ∨ k = 5 := by omega
    generalize hA : pCode p = A at *
    clear hP hG hA
    have q1 : ∀ x : List UInt8, x = x ++ (([] : List UInt8)) := fun x => (List.append_nil x).symm
    rcases hk with rfl | rfl | rfl | rfl | rfl
    · simp only [walk, Nat.reduceLT, Nat.reduceBEq, Nat.reduceAdd, Nat.reduceLeDiff, reduceIte, Int.reduceLT, Int.reduceLE, Int.reduceEq, Int.reduceToNat, Int.reduceBEq, ieq, or_self, or_true, true_or, or_false, false_or]
      refine callWp_of hV ?_
      simp only [walk, Nat.reduceLT, Nat.reduceBEq, Nat.reduceAdd, Nat.reduceLeDiff, reduceIte, Int.reduceLT, Int.reduceLE, Int.reduceEq, Int.reduceToNat, Int.reduceBEq]
      rw [bins_add (by rw [List.length_append]; omega)]
      simp only [walk, Nat.reduceLT, Nat.reduceBEq, Nat.reduceAdd, Nat.reduceLeDiff, reduceIte, Int.reduceLT, Int.reduceLE, Int.reduceEq, Int.reduceToNat, Int.reduceBEq, uRows_len]
      refine callWp_of (hI rs.length (i64ok_nat (by omega))) ?_
      simp only [walk, Nat.reduceLT, Nat.reduceBEq, Nat.reduceAdd, Nat.reduceLeDiff, reduceIte, Int.reduceLT, Int.reduceLE, Int.reduceEq, Int.reduceToNat, Int.reduceBEq]
      rw [bins_add (by simp only [List.length_append] at *; omega)]
      simp only [walk, Nat.reduceLT, Nat.reduceBEq, Nat.reduceAdd, Nat.reduceLeDiff, reduceIte, Int.reduceLT, Int.reduceLE, Int.reduceEq, Int.reduceToNat, Int.reduceBEq, uRows_len]
      refine awp_loop_ind (X := Nat) (fun j => ⟨[(0, .val (oP ⟨1, p, v, am, rs⟩)), (1, .lp 1 0), (2, .val (.str [])), (3, .val (.str ((pInt 1 ++ A ++ vCode v ++ pInt rs.length) ++ ((rs.take j).map rCode).flatten))), (10, .val (.bool false)), (18, .val (.int .i64 1)), (19, .val (.bool false)), (27, .val (.bool true)), (38, .val (.bool false)), (47, .val (usP rs)), (48, .val (.int .i64 rs.length)), (49, .val (.int .i64 j))], [(1, oB ⟨1, p, v, am, rs⟩)]⟩)
        (fun j => j ≤ rs.length) (fun j => rs.length - j) 0 (by omega) (by simp) ?_
      rintro R j hj ih
      simp only [walk, Nat.reduceLT, Nat.reduceBEq, Nat.reduceAdd, Nat.reduceLeDiff, reduceIte, Int.reduceLT, Int.reduceLE, Int.reduceEq, Int.reduceToNat, Int.reduceBEq]
      by_cases c : j < rs.length
      · have c1 : (j : Int) < rs.length := by omega
        have c0 : (0 : Int) ≤ j := by omega
        have e1 : IntKind.i64.wrap ((j : Int) + 1) = ((j + 1 : Nat) : Int) := wrap64 (by omega) (by omega)
        have step := ih (j + 1) (by omega) (by omega)
        rw [← rs_take rs j c] at step
        have hr := h5 _ (List.getElem_mem c)
        rw [← getD_at c] at hr
        have hrl2 := rCode_len hr
        have hpre := rsFlat_len (rs.take j) (fun r hr => h5 r (List.mem_of_mem_take hr))
        rw [List.length_take, Nat.min_eq_left (by omega)] at hpre
        simp only [walk, Nat.reduceLT, Nat.reduceBEq, Nat.reduceAdd, Nat.reduceLeDiff, reduceIte, Int.reduceLT, Int.reduceLE, Int.reduceEq, Int.reduceToNat, Int.reduceBEq, c1, uRows_get c]
        refine callWp_of (hD _ hr.1) ?_
        simp only [walk, Nat.reduceLT, Nat.reduceBEq, Nat.reduceAdd, Nat.reduceLeDiff, reduceIte, Int.reduceLT, Int.reduceLE, Int.reduceEq, Int.reduceToNat, Int.reduceBEq]
        refine callWp_of (hI _ hr.2) ?_
        simp only [walk, Nat.reduceLT, Nat.reduceBEq, Nat.reduceAdd, Nat.reduceLeDiff, reduceIte, Int.reduceLT, Int.reduceLE, Int.reduceEq, Int.reduceToNat, Int.reduceBEq]
        rw [bins_add (by omega)]
        simp only [walk, Nat.reduceLT, Nat.reduceBEq, Nat.reduceAdd, Nat.reduceLeDiff, reduceIte, Int.reduceLT, Int.reduceLE, Int.reduceEq, Int.reduceToNat, Int.reduceBEq]
        rw [bins_add (by simp only [List.length_append] at *; omega)]
        simp only [walk, Nat.reduceLT, Nat.reduceBEq, Nat.reduceAdd, Nat.reduceLeDiff, reduceIte, Int.reduceLT, Int.reduceLE, Int.reduceEq, Int.reduceToNat, Int.reduceBEq, e1]
        exact step
      · have c1 : ¬ (j : Int) < rs.length := by omega
        rw [List.take_of_length_le (by omega)]
        simp only [walk, Nat.reduceLT, Nat.reduceBEq, Nat.reduceAdd, Nat.reduceLeDiff, reduceIte, Int.reduceLT, Int.reduceLE, Int.reduceEq, Int.reduceToNat, Int.reduceBEq, c1, rsCode, List.append_assoc, List.nil_append]
    · simp only [walk, Nat.reduceLT, Nat.reduceBEq, Nat.reduceAdd, Nat.reduceLeDiff, reduceIte, Int.reduceLT, Int.reduceLE, Int.reduceEq, Int.reduceToNat, Int.reduceBEq, ieq]
      refine callWp_of hV ?_
      simp only [walk, Nat.reduceLT, Nat.reduceBEq, Nat.reduceAdd, Nat.reduceLeDiff, reduceIte, Int.reduceLT, Int.reduceLE, Int.reduceEq, Int.reduceToNat, Int.reduceBEq]
      rw [bins_add (by rw [List.length_append]; omega)]
      simp only [walk, Nat.reduceLT, Nat.reduceBEq, Nat.reduceAdd, Nat.reduceLeDiff, reduceIte, Int.reduceLT, Int.reduceLE, Int.reduceEq, Int.reduceToNat, Int.reduceBEq, ieq, List.append_assoc, List.append_nil]
    · simp only [walk, Nat.reduceLT, Nat.reduceBEq, Nat.reduceAdd, Nat.reduceLeDiff, reduceIte, Int.reduceLT, Int.reduceLE, Int.reduceEq, Int.reduceToNat, Int.reduceBEq, ieq]
      refine callWp_of hF ?_
      simp only [walk, Nat.reduceLT, Nat.reduceBEq, Nat.reduceAdd, Nat.reduceLeDiff, reduceIte, Int.reduceLT, Int.reduceLE, Int.reduceEq, Int.reduceToNat, Int.reduceBEq]
      refine callWp_of (hI _ (fold_ok h3 h4)) ?_
      simp only [walk, Nat.reduceLT, Nat.reduceBEq, Nat.reduceAdd, Nat.reduceLeDiff, reduceIte, Int.reduceLT, Int.reduceLE, Int.reduceEq, Int.reduceToNat, Int.reduceBEq]
      rw [bins_add (by rw [List.length_append]; omega)]
      simp only [walk, Nat.reduceLT, Nat.reduceBEq, Nat.reduceAdd, Nat.reduceLeDiff, reduceIte, Int.reduceLT, Int.reduceLE, Int.reduceEq, Int.reduceToNat, Int.reduceBEq, ieq, List.append_assoc]
    · simp only [walk, Nat.reduceLT, Nat.reduceBEq, Nat.reduceAdd, Nat.reduceLeDiff, reduceIte, Int.reduceLT, Int.reduceLE, Int.reduceEq, Int.reduceToNat, Int.reduceBEq, ieq]
      refine callWp_of hV ?_
      simp only [walk, Nat.reduceLT, Nat.reduceBEq, Nat.reduceAdd, Nat.reduceLeDiff, reduceIte, Int.reduceLT, Int.reduceLE, Int.reduceEq, Int.reduceToNat, Int.reduceBEq]
      rw [bins_add (by rw [List.length_append]; omega)]
      simp only [walk, Nat.reduceLT, Nat.reduceBEq, Nat.reduceAdd, Nat.reduceLeDiff, reduceIte, Int.reduceLT, Int.reduceLE, Int.reduceEq, Int.reduceToNat, Int.reduceBEq, uRows_len]
      refine callWp_of (hI rs.length (i64ok_nat (by omega))) ?_
      simp only [walk, Nat.reduceLT, Nat.reduceBEq, Nat.reduceAdd, Nat.reduceLeDiff, reduceIte, Int.reduceLT, Int.reduceLE, Int.reduceEq, Int.reduceToNat, Int.reduceBEq]
      rw [bins_add (by simp only [List.length_append] at *; omega)]
      simp only [walk, Nat.reduceLT, Nat.reduceBEq, Nat.reduceAdd, Nat.reduceLeDiff, reduceIte, Int.reduceLT, Int.reduceLE, Int.reduceEq, Int.reduceToNat, Int.reduceBEq, uRows_len]
      refine awp_loop_ind (X := Nat) (fun j => ⟨[(0, .val (oP ⟨4, p, v, am, rs⟩)), (1, .lp 1 0), (2, .val (.str [])), (3, .val (.str ((pInt 4 ++ A ++ vCode v ++ pInt rs.length) ++ ((rs.take j).map rCode).flatten))), (10, .val (.bool false)), (18, .val (.int .i64 4)), (19, .val (.bool false)), (27, .val (.bool true)), (38, .val (.bool false)), (47, .val (usP rs)), (48, .val (.int .i64 rs.length)), (49, .val (.int .i64 j))], [(1, oB ⟨4, p, v, am, rs⟩)]⟩)
        (fun j => j ≤ rs.length) (fun j => rs.length - j) 0 (by omega) (by simp) ?_
      rintro R j hj ih
      simp only [walk, Nat.reduceLT, Nat.reduceBEq, Nat.reduceAdd, Nat.reduceLeDiff, reduceIte, Int.reduceLT, Int.reduceLE, Int.reduceEq, Int.reduceToNat, Int.reduceBEq]
      by_cases c : j < rs.length
      · have c1 : (j : Int) < rs.length := by omega
        have c0 : (0 : Int) ≤ j := by omega
        have e1 : IntKind.i64.wrap ((j : Int) + 1) = ((j + 1 : Nat) : Int) := wrap64 (by omega) (by omega)
        have step := ih (j + 1) (by omega) (by omega)
        rw [← rs_take rs j c] at step
        have hr := h5 _ (List.getElem_mem c)
        rw [← getD_at c] at hr
        have hrl2 := rCode_len hr
        have hpre := rsFlat_len (rs.take j) (fun r hr => h5 r (List.mem_of_mem_take hr))
        rw [List.length_take, Nat.min_eq_left (by omega)] at hpre
        simp only [walk, Nat.reduceLT, Nat.reduceBEq, Nat.reduceAdd, Nat.reduceLeDiff, reduceIte, Int.reduceLT, Int.reduceLE, Int.reduceEq, Int.reduceToNat, Int.reduceBEq, c1, uRows_get c]
        refine callWp_of (hD _ hr.1) ?_
        simp only [walk, Nat.reduceLT, Nat.reduceBEq, Nat.reduceAdd, Nat.reduceLeDiff, reduceIte, Int.reduceLT, Int.reduceLE, Int.reduceEq, Int.reduceToNat, Int.reduceBEq]
        refine callWp_of (hI _ hr.2) ?_
        simp only [walk, Nat.reduceLT, Nat.reduceBEq, Nat.reduceAdd, Nat.reduceLeDiff, reduceIte, Int.reduceLT, Int.reduceLE, Int.reduceEq, Int.reduceToNat, Int.reduceBEq]
        rw [bins_add (by omega)]
        simp only [walk, Nat.reduceLT, Nat.reduceBEq, Nat.reduceAdd, Nat.reduceLeDiff, reduceIte, Int.reduceLT, Int.reduceLE, Int.reduceEq, Int.reduceToNat, Int.reduceBEq]
        rw [bins_add (by simp only [List.length_append] at *; omega)]
        simp only [walk, Nat.reduceLT, Nat.reduceBEq, Nat.reduceAdd, Nat.reduceLeDiff, reduceIte, Int.reduceLT, Int.reduceLE, Int.reduceEq, Int.reduceToNat, Int.reduceBEq, e1]
        exact step
      · have c1 : ¬ (j : Int) < rs.length := by omega
        rw [List.take_of_length_le (by omega)]
        simp only [walk, Nat.reduceLT, Nat.reduceBEq, Nat.reduceAdd, Nat.reduceLeDiff, reduceIte, Int.reduceLT, Int.reduceLE, Int.reduceEq, Int.reduceToNat, Int.reduceBEq, c1, rsCode, List.append_assoc, List.nil_append]
    · simp only [walk, Nat.reduceLT, Nat.reduceBEq, Nat.reduceAdd, Nat.reduceLeDiff, reduceIte, Int.reduceLT, Int.reduceLE, Int.reduceEq, Int.reduceToNat, Int.reduceBEq, ieq]
      simp only [walk, Nat.reduceLT, Nat.reduceBEq, Nat.reduceAdd, Nat.reduceLeDiff, reduceIte, Int.reduceLT, Int.reduceLE, Int.reduceEq, Int.reduceToNat, Int.reduceBEq, uRows_len]
      refine callWp_of (hI rs.length (i64ok_nat (by omega))) ?_
      simp only [walk, Nat.reduceLT, Nat.reduceBEq, Nat.reduceAdd, Nat.reduceLeDiff, reduceIte, Int.reduceLT, Int.reduceLE, Int.reduceEq, Int.reduceToNat, Int.reduceBEq]
      rw [bins_add (by simp only [List.length_append] at *; omega)]
      simp only [walk, Nat.reduceLT, Nat.reduceBEq, Nat.reduceAdd, Nat.reduceLeDiff, reduceIte, Int.reduceLT, Int.reduceLE, Int.reduceEq, Int.reduceToNat, Int.reduceBEq, uRows_len]
      refine awp_loop_ind (X := Nat) (fun j => ⟨[(0, .val (oP ⟨5, p, v, am, rs⟩)), (1, .lp 1 0), (2, .val (.str [])), (3, .val (.str ((pInt 5 ++ A ++ pInt rs.length) ++ ((rs.take j).map rCode).flatten))), (10, .val (.bool false)), (18, .val (.int .i64 5)), (19, .val (.bool false)), (27, .val (.bool false)), (38, .val (.bool false)), (47, .val (usP rs)), (48, .val (.int .i64 rs.length)), (49, .val (.int .i64 j))], [(1, oB ⟨5, p, v, am, rs⟩)]⟩)
        (fun j => j ≤ rs.length) (fun j => rs.length - j) 0 (by omega) (by simp) ?_
      rintro R j hj ih
      simp only [walk, Nat.reduceLT, Nat.reduceBEq, Nat.reduceAdd, Nat.reduceLeDiff, reduceIte, Int.reduceLT, Int.reduceLE, Int.reduceEq, Int.reduceToNat, Int.reduceBEq]
      by_cases c : j < rs.length
      · have c1 : (j : Int) < rs.length := by omega
        have c0 : (0 : Int) ≤ j := by omega
        have e1 : IntKind.i64.wrap ((j : Int) + 1) = ((j + 1 : Nat) : Int) := wrap64 (by omega) (by omega)
        have step := ih (j + 1) (by omega) (by omega)
        rw [← rs_take rs j c] at step
        have hr := h5 _ (List.getElem_mem c)
        rw [← getD_at c] at hr
        have hrl2 := rCode_len hr
        have hpre := rsFlat_len (rs.take j) (fun r hr => h5 r (List.mem_of_mem_take hr))
        rw [List.length_take, Nat.min_eq_left (by omega)] at hpre
        simp only [walk, Nat.reduceLT, Nat.reduceBEq, Nat.reduceAdd, Nat.reduceLeDiff, reduceIte, Int.reduceLT, Int.reduceLE, Int.reduceEq, Int.reduceToNat, Int.reduceBEq, c1, uRows_get c]
        refine callWp_of (hD _ hr.1) ?_
        simp only [walk, Nat.reduceLT, Nat.reduceBEq, Nat.reduceAdd, Nat.reduceLeDiff, reduceIte, Int.reduceLT, Int.reduceLE, Int.reduceEq, Int.reduceToNat, Int.reduceBEq]
        refine callWp_of (hI _ hr.2) ?_
        simp only [walk, Nat.reduceLT, Nat.reduceBEq, Nat.reduceAdd, Nat.reduceLeDiff, reduceIte, Int.reduceLT, Int.reduceLE, Int.reduceEq, Int.reduceToNat, Int.reduceBEq]
        rw [bins_add (by omega)]
        simp only [walk, Nat.reduceLT, Nat.reduceBEq, Nat.reduceAdd, Nat.reduceLeDiff, reduceIte, Int.reduceLT, Int.reduceLE, Int.reduceEq, Int.reduceToNat, Int.reduceBEq]
        rw [bins_add (by simp only [List.length_append] at *; omega)]
        simp only [walk, Nat.reduceLT, Nat.reduceBEq, Nat.reduceAdd, Nat.reduceLeDiff, reduceIte, Int.reduceLT, Int.reduceLE, Int.reduceEq, Int.reduceToNat, Int.reduceBEq, e1]
        exact step
      · have c1 : ¬ (j : Int) < rs.length := by omega
        rw [List.take_of_length_le (by omega)]
        simp only [walk, Nat.reduceLT, Nat.reduceBEq, Nat.reduceAdd, Nat.reduceLeDiff, reduceIte, Int.reduceLT, Int.reduceLE, Int.reduceEq, Int.reduceToNat, Int.reduceBEq, c1, rsCode, List.append_assoc, List.nil_append]
theorem g_pref11_Code (hI : S_i2s (C (F n_pref02_Int))) (hG : S_oGone (C (F n_pref11_Gone))) (hP : S_pCode (C (F n_pref10_Code))) (hF : S_fold (C (F n_pref09_Fold))) (hV : S_vCode (C (F n_pref09_Code))) (hD : S_dCode (C (F n_pref04_Code))) : S_oCode ((c_pref11_Code F).gives C) := by
  intro o ho hk
  have hG := hG o
  refine gives_of rfl ?_
  unfold c_pref11_Code oCode
  obtain ⟨hok, h1, h2, h3, h4, h5⟩ := ho
  have hP := hP o.p hok.1
  have hF := hF o.am h3 h4
  have hV := hV o.v h2
  have l1 := pInt_len h1
  have l2 := pCode_len hok.1
  have l3 := pInt_len (fold_ok h3 h4)
  have l4 := vCode_len h2
  have hrl := hok.2.2
  have l5 := pInt_len (n := o.rs.length) (i64ok_nat (by omega))
  simp only [walk, Nat.reduceLT, Nat.reduceBEq, Nat.reduceAdd, Nat.reduceLeDiff, reduceIte, Int.reduceLT, Int.reduceLE, Int.reduceEq, Int.reduceToNat, Int.reduceBEq, ieq]
  refine callWp_of (hI o.k h1) ?_
  simp only [walk, Nat.reduceLT, Nat.reduceBEq, Nat.reduceAdd, Nat.reduceLeDiff, reduceIte, Int.reduceLT, Int.reduceLE, Int.reduceEq, Int.reduceToNat, Int.reduceBEq]
  refine callWp_of hG ?_
  cases hg : oGone o with
  | true => simp only [walk, Nat.reduceLT, Nat.reduceBEq, Nat.reduceAdd, Nat.reduceLeDiff, reduceIte, Int.reduceLT, Int.reduceLE, Int.reduceEq, Int.reduceToNat, Int.reduceBEq, List.append_nil]
  | false =>
    have hk := hk.resolve_left (by simp [hg])
    obtain ⟨k, p, v, am, rs⟩ := o
    simp only at *
    simp only [walk, Nat.reduceLT, Nat.reduceBEq, Nat.reduceAdd, Nat.reduceLeDiff, reduceIte, Int.reduceLT, Int.reduceLE, Int.reduceEq, Int.reduceToNat, Int.reduceBEq]
    refine callWp_of hP ?_
    simp only [walk, Nat.reduceLT, Nat.reduceBEq, Nat.reduceAdd, Nat.reduceLeDiff, reduceIte, Int.reduceLT, Int.reduceLE, Int.reduceEq, Int.reduceToNat, Int.reduceBEq]
    rw [bins_add (by omega)]
    have hk : k = 1 ∨ k = 2 ∨ k = 3 ∨ k = 4 ∨ k = 5 := by omega
    generalize hA : pCode p = A at *
    clear hP hG hA
    have q1 : ∀ x : List UInt8, x = x ++ (([] : List UInt8)) := fun x => (List.append_nil x).symm
    rcases hk with rfl | rfl | rfl | rfl | rfl
    · simp only [walk, Nat.reduceLT, Nat.reduceBEq, Nat.reduceAdd, Nat.reduceLeDiff, reduceIte, Int.reduceLT, Int.reduceLE, Int.reduceEq, Int.reduceToNat, Int.reduceBEq, ieq, ine, ne_eq, decide_not]
      refine callWp_of hV ?_
      simp only [walk, Nat.reduceLT, Nat.reduceBEq, Nat.reduceAdd, Nat.reduceLeDiff, reduceIte, Int.reduceLT, Int.reduceLE, Int.reduceEq, Int.reduceToNat, Int.reduceBEq]
      rw [bins_add (by rw [List.length_append]; omega)]
      simp only [walk, Nat.reduceLT, Nat.reduceBEq, Nat.reduceAdd, Nat.reduceLeDiff, reduceIte, Int.reduceLT, Int.reduceLE, Int.reduceEq, Int.reduceToNat, Int.reduceBEq, uRows_len, ieq]
      refine callWp_of (hI rs.length (i64ok_nat (by omega))) ?_
      simp only [walk, Nat.reduceLT, Nat.reduceBEq, Nat.reduceAdd, Nat.reduceLeDiff, reduceIte, Int.reduceLT, Int.reduceLE, Int.reduceEq, Int.reduceToNat, Int.reduceBEq]
      rw [bins_add (by simp only [List.length_append] at *; omega)]
      simp only [walk, Nat.reduceLT, Nat.reduceBEq, Nat.reduceAdd, Nat.reduceLeDiff, reduceIte, Int.reduceLT, Int.reduceLE, Int.reduceEq, Int.reduceToNat, Int.reduceBEq, uRows_len]
      refine awp_loop_ind (X := Nat) (fun j => ⟨[(0, .val (oP ⟨1, p, v, am, rs⟩)), (1, .lp 1 0), (2, .val (.str [])), (3, .val (.str ((pInt 1 ++ A ++ vCode v ++ pInt rs.length) ++ ((rs.take j).map rCode).flatten))), (4, .val (.int .i64 j)), (9, .val (.bool false)), (18, .val (.bool false)), (27, .val (.bool true)), (35, .val (.bool false))], [(1, oB ⟨1, p, v, am, rs⟩)]⟩)
        (fun j => j ≤ rs.length) (fun j => rs.length - j) 0 (by omega) (by simp) ?_
      rintro R j hj ih
      simp only [walk, Nat.reduceLT, Nat.reduceBEq, Nat.reduceAdd, Nat.reduceLeDiff, reduceIte, Int.reduceLT, Int.reduceLE, Int.reduceEq, Int.reduceToNat, Int.reduceBEq, uRows_len]
      by_cases c : j < rs.length
      · have c1 : (j : Int) < rs.length := by omega
        have c0 : (0 : Int) ≤ j := by omega
        have e1 : IntKind.i64.wrap ((j : Int) + 1) = ((j + 1 : Nat) : Int) := wrap64 (by omega) (by omega)
        have step := ih (j + 1) (by omega) (by omega)
        rw [← rs_take rs j c, ← List.append_assoc] at step
        have hr := h5 _ (List.getElem_mem c)
        rw [← getD_at c] at hr
        have hrl2 := rCode_len hr
        have hpre := rsFlat_len (rs.take j) (fun r hr => h5 r (List.mem_of_mem_take hr))
        rw [List.length_take, Nat.min_eq_left (by omega)] at hpre
        simp only [walk, Nat.reduceLT, Nat.reduceBEq, Nat.reduceAdd, Nat.reduceLeDiff, reduceIte, Int.reduceLT, Int.reduceLE, Int.reduceEq, Int.reduceToNat, Int.reduceBEq, c1, uRows_get c, uRows_len]
        refine callWp_of (hD _ hr.1) ?_
        simp only [walk, Nat.reduceLT, Nat.reduceBEq, Nat.reduceAdd, Nat.reduceLeDiff, reduceIte, Int.reduceLT, Int.reduceLE, Int.reduceEq, Int.reduceToNat, Int.reduceBEq]
        rw [bins_add (by simp only [List.length_append] at *; omega)]
        simp only [walk, Nat.reduceLT, Nat.reduceBEq, Nat.reduceAdd, Nat.reduceLeDiff, reduceIte, Int.reduceLT, Int.reduceLE, Int.reduceEq, Int.reduceToNat, Int.reduceBEq, c1, uRows_get c, uRows_len]
        refine callWp_of (hI _ hr.2) ?_
        simp only [walk, Nat.reduceLT, Nat.reduceBEq, Nat.reduceAdd, Nat.reduceLeDiff, reduceIte, Int.reduceLT, Int.reduceLE, Int.reduceEq, Int.reduceToNat, Int.reduceBEq]
        rw [bins_add (by simp only [List.length_append] at *; omega)]
        simp only [walk, Nat.reduceLT, Nat.reduceBEq, Nat.reduceAdd, Nat.reduceLeDiff, reduceIte, Int.reduceLT, Int.reduceLE, Int.reduceEq, Int.reduceToNat, Int.reduceBEq, e1]
        exact step
      · have c1 : ¬ (j : Int) < rs.length := by omega
        rw [List.take_of_length_le (by omega)]
        simp only [walk, Nat.reduceLT, Nat.reduceBEq, Nat.reduceAdd, Nat.reduceLeDiff, reduceIte, Int.reduceLT, Int.reduceLE, Int.reduceEq, Int.reduceToNat, Int.reduceBEq, c1, rsCode, List.append_assoc, List.nil_append]
    · simp only [walk, Nat.reduceLT, Nat.reduceBEq, Nat.reduceAdd, Nat.reduceLeDiff, reduceIte, Int.reduceLT, Int.reduceLE, Int.reduceEq, Int.reduceToNat, Int.reduceBEq, ieq, ine, ne_eq, decide_not]
      refine callWp_of hV ?_
      simp only [walk, Nat.reduceLT, Nat.reduceBEq, Nat.reduceAdd, Nat.reduceLeDiff, reduceIte, Int.reduceLT, Int.reduceLE, Int.reduceEq, Int.reduceToNat, Int.reduceBEq]
      rw [bins_add (by rw [List.length_append]; omega)]
      simp only [walk, Nat.reduceLT, Nat.reduceBEq, Nat.reduceAdd, Nat.reduceLeDiff, reduceIte, Int.reduceLT, Int.reduceLE, Int.reduceEq, Int.reduceToNat, Int.reduceBEq, ieq, List.append_assoc, List.append_nil]
    · simp only [walk, Nat.reduceLT, Nat.reduceBEq, Nat.reduceAdd, Nat.reduceLeDiff, reduceIte, Int.reduceLT, Int.reduceLE, Int.reduceEq, Int.reduceToNat, Int.reduceBEq, ieq]
      refine callWp_of hF ?_
      simp only [walk, Nat.reduceLT, Nat.reduceBEq, Nat.reduceAdd, Nat.reduceLeDiff, reduceIte, Int.reduceLT, Int.reduceLE, Int.reduceEq, Int.reduceToNat, Int.reduceBEq]
      refine callWp_of (hI _ (fold_ok h3 h4)) ?_
      simp only [walk, Nat.reduceLT, Nat.reduceBEq, Nat.reduceAdd, Nat.reduceLeDiff, reduceIte, Int.reduceLT, Int.reduceLE, Int.reduceEq, Int.reduceToNat, Int.reduceBEq]
      rw [bins_add (by rw [List.length_append]; omega)]
      simp only [walk, Nat.reduceLT, Nat.reduceBEq, Nat.reduceAdd, Nat.reduceLeDiff, reduceIte, Int.reduceLT, Int.reduceLE, Int.reduceEq, Int.reduceToNat, Int.reduceBEq, ieq, List.append_assoc]
    · simp only [walk, Nat.reduceLT, Nat.reduceBEq, Nat.reduceAdd, Nat.reduceLeDiff, reduceIte, Int.reduceLT, Int.reduceLE, Int.reduceEq, Int.reduceToNat, Int.reduceBEq, ieq, ine, ne_eq, decide_not]
      refine callWp_of hV ?_
      simp only [walk, Nat.reduceLT, Nat.reduceBEq, Nat.reduceAdd, Nat.reduceLeDiff, reduceIte, Int.reduceLT, Int.reduceLE, Int.reduceEq, Int.reduceToNat, Int.reduceBEq]
      rw [bins_add (by rw [List.length_append]; omega)]
      simp only [walk, Nat.reduceLT, Nat.reduceBEq, Nat.reduceAdd, Nat.reduceLeDiff, reduceIte, Int.reduceLT, Int.reduceLE, Int.reduceEq, Int.reduceToNat, Int.reduceBEq, uRows_len, ieq]
      refine callWp_of (hI rs.length (i64ok_nat (by omega))) ?_
      simp only [walk, Nat.reduceLT, Nat.reduceBEq, Nat.reduceAdd, Nat.reduceLeDiff, reduceIte, Int.reduceLT, Int.reduceLE, Int.reduceEq, Int.reduceToNat, Int.reduceBEq]
      rw [bins_add (by simp only [List.length_append] at *; omega)]
      simp only [walk, Nat.reduceLT, Nat.reduceBEq, Nat.reduceAdd, Nat.reduceLeDiff, reduceIte, Int.reduceLT, Int.reduceLE, Int.reduceEq, Int.reduceToNat, Int.reduceBEq, uRows_len]
      refine awp_loop_ind (X := Nat) (fun j => ⟨[(0, .val (oP ⟨4, p, v, am, rs⟩)), (1, .lp 1 0), (2, .val (.str [])), (3, .val (.str ((pInt 4 ++ A ++ vCode v ++ pInt rs.length) ++ ((rs.take j).map rCode).flatten))), (4, .val (.int .i64 j)), (9, .val (.bool false)), (18, .val (.bool false)), (27, .val (.bool true)), (35, .val (.bool false))], [(1, oB ⟨4, p, v, am, rs⟩)]⟩)
        (fun j => j ≤ rs.length) (fun j => rs.length - j) 0 (by omega) (by simp) ?_
      rintro R j hj ih
      simp only [walk, Nat.reduceLT, Nat.reduceBEq, Nat.reduceAdd, Nat.reduceLeDiff, reduceIte, Int.reduceLT, Int.reduceLE, Int.reduceEq, Int.reduceToNat, Int.reduceBEq, uRows_len]
      by_cases c : j < rs.length
      · have c1 : (j : Int) < rs.length := by omega
        have c0 : (0 : Int) ≤ j := by omega
        have e1 : IntKind.i64.wrap ((j : Int) + 1) = ((j + 1 : Nat) : Int) := wrap64 (by omega) (by omega)
        have step := ih (j + 1) (by omega) (by omega)
        rw [← rs_take rs j c, ← List.append_assoc] at step
        have hr := h5 _ (List.getElem_mem c)
        rw [← getD_at c] at hr
        have hrl2 := rCode_len hr
        have hpre := rsFlat_len (rs.take j) (fun r hr => h5 r (List.mem_of_mem_take hr))
        rw [List.length_take, Nat.min_eq_left (by omega)] at hpre
        simp only [walk, Nat.reduceLT, Nat.reduceBEq, Nat.reduceAdd, Nat.reduceLeDiff, reduceIte, Int.reduceLT, Int.reduceLE, Int.reduceEq, Int.reduceToNat, Int.reduceBEq, c1, uRows_get c, uRows_len]
        refine callWp_of (hD _ hr.1) ?_
        simp only [walk, Nat.reduceLT, Nat.reduceBEq, Nat.reduceAdd, Nat.reduceLeDiff, reduceIte, Int.reduceLT, Int.reduceLE, Int.reduceEq, Int.reduceToNat, Int.reduceBEq]
        rw [bins_add (by simp only [List.length_append] at *; omega)]
        simp only [walk, Nat.reduceLT, Nat.reduceBEq, Nat.reduceAdd, Nat.reduceLeDiff, reduceIte, Int.reduceLT, Int.reduceLE, Int.reduceEq, Int.reduceToNat, Int.reduceBEq, c1, uRows_get c, uRows_len]
        refine callWp_of (hI _ hr.2) ?_
        simp only [walk, Nat.reduceLT, Nat.reduceBEq, Nat.reduceAdd, Nat.reduceLeDiff, reduceIte, Int.reduceLT, Int.reduceLE, Int.reduceEq, Int.reduceToNat, Int.reduceBEq]
        rw [bins_add (by simp only [List.length_append] at *; omega)]
        simp only [walk, Nat.reduceLT, Nat.reduceBEq, Nat.reduceAdd, Nat.reduceLeDiff, reduceIte, Int.reduceLT, Int.reduceLE, Int.reduceEq, Int.reduceToNat, Int.reduceBEq, e1]
        exact step
      · have c1 : ¬ (j : Int) < rs.length := by omega
        rw [List.take_of_length_le (by omega)]
        simp only [walk, Nat.reduceLT, Nat.reduceBEq, Nat.reduceAdd, Nat.reduceLeDiff, reduceIte, Int.reduceLT, Int.reduceLE, Int.reduceEq, Int.reduceToNat, Int.reduceBEq, c1, rsCode, List.append_assoc, List.nil_append]
    · simp only [walk, Nat.reduceLT, Nat.reduceBEq, Nat.reduceAdd, Nat.reduceLeDiff, reduceIte, Int.reduceLT, Int.reduceLE, Int.reduceEq, Int.reduceToNat, Int.reduceBEq, ieq, ine, ne_eq, decide_not]
      simp only [walk, Nat.reduceLT, Nat.reduceBEq, Nat.reduceAdd, Nat.reduceLeDiff, reduceIte, Int.reduceLT, Int.reduceLE, Int.reduceEq, Int.reduceToNat, Int.reduceBEq, uRows_len, ieq]
      refine callWp_of (hI rs.length (i64ok_nat (by omega))) ?_
      simp only [walk, Nat.reduceLT, Nat.reduceBEq, Nat.reduceAdd, Nat.reduceLeDiff, reduceIte, Int.reduceLT, Int.reduceLE, Int.reduceEq, Int.reduceToNat, Int.reduceBEq]
      rw [bins_add (by simp only [List.length_append] at *; omega)]
      simp only [walk, Nat.reduceLT, Nat.reduceBEq, Nat.reduceAdd, Nat.reduceLeDiff, reduceIte, Int.reduceLT, Int.reduceLE, Int.reduceEq, Int.reduceToNat, Int.reduceBEq, uRows_len]
      refine awp_loop_ind (X := Nat) (fun j => ⟨[(0, .val (oP ⟨5, p, v, am, rs⟩)), (1, .lp 1 0), (2, .val (.str [])), (3, .val (.str ((pInt 5 ++ A ++ pInt rs.length) ++ ((rs.take j).map rCode).flatten))), (4, .val (.int .i64 j)), (9, .val (.bool false)), (18, .val (.bool false)), (27, .val (.bool false)), (35, .val (.bool false))], [(1, oB ⟨5, p, v, am, rs⟩)]⟩)
        (fun j => j ≤ rs.length) (fun j => rs.length - j) 0 (by omega) (by simp) ?_
      rintro R j hj ih
      simp only [walk, Nat.reduceLT, Nat.reduceBEq, Nat.reduceAdd, Nat.reduceLeDiff, reduceIte, Int.reduceLT, Int.reduceLE, Int.reduceEq, Int.reduceToNat, Int.reduceBEq, uRows_len]
      by_cases c : j < rs.length
      · have c1 : (j : Int) < rs.length := by omega
        have c0 : (0 : Int) ≤ j := by omega
        have e1 : IntKind.i64.wrap ((j : Int) + 1) = ((j + 1 : Nat) : Int) := wrap64 (by omega) (by omega)
        have step := ih (j + 1) (by omega) (by omega)
        rw [← rs_take rs j c, ← List.append_assoc] at step
        have hr := h5 _ (List.getElem_mem c)
        rw [← getD_at c] at hr
        have hrl2 := rCode_len hr
        have hpre := rsFlat_len (rs.take j) (fun r hr => h5 r (List.mem_of_mem_take hr))
        rw [List.length_take, Nat.min_eq_left (by omega)] at hpre
        simp only [walk, Nat.reduceLT, Nat.reduceBEq, Nat.reduceAdd, Nat.reduceLeDiff, reduceIte, Int.reduceLT, Int.reduceLE, Int.reduceEq, Int.reduceToNat, Int.reduceBEq, c1, uRows_get c, uRows_len]
        refine callWp_of (hD _ hr.1) ?_
        simp only [walk, Nat.reduceLT, Nat.reduceBEq, Nat.reduceAdd, Nat.reduceLeDiff, reduceIte, Int.reduceLT, Int.reduceLE, Int.reduceEq, Int.reduceToNat, Int.reduceBEq]
        rw [bins_add (by simp only [List.length_append] at *; omega)]
        simp only [walk, Nat.reduceLT, Nat.reduceBEq, Nat.reduceAdd, Nat.reduceLeDiff, reduceIte, Int.reduceLT, Int.reduceLE, Int.reduceEq, Int.reduceToNat, Int.reduceBEq, c1, uRows_get c, uRows_len]
        refine callWp_of (hI _ hr.2) ?_
        simp only [walk, Nat.reduceLT, Nat.reduceBEq, Nat.reduceAdd, Nat.reduceLeDiff, reduceIte, Int.reduceLT, Int.reduceLE, Int.reduceEq, Int.reduceToNat, Int.reduceBEq]
        rw [bins_add (by simp only [List.length_append] at *; omega)]
        simp only [walk, Nat.reduceLT, Nat.reduceBEq, Nat.reduceAdd, Nat.reduceLeDiff, reduceIte, Int.reduceLT, Int.reduceLE, Int.reduceEq, Int.reduceToNat, Int.reduceBEq, e1]
        exact step
      · have c1 : ¬ (j : Int) < rs.length := by omega
        rw [List.take_of_length_le (by omega)]
        simp only [walk, Nat.reduceLT, Nat.reduceBEq, Nat.reduceAdd, Nat.reduceLeDiff, reduceIte, Int.reduceLT, Int.reduceLE, Int.reduceEq, Int.reduceToNat, Int.reduceBEq, c1, rsCode, List.append_assoc, List.nil_append]
end
end Go.AR
