import Derived.Test.YtkankogmljifiaaDoorG30
set_option linter.all false
/-! Operations: the bytes. -/
namespace Go.AR
open Go
section
variable {C : CallRel} {F : Nat → FuncId}
/-- Operations of which the bytes fit. -/
def oFit (o : Ov) : Prop := oOk o ∧ i64ok o.k ∧ vFit o.v ∧ -2147483648 ≤ o.am ∧ o.am ≤ 2147483648 ∧ ∀ r ∈ o.rs, dFit r.1 ∧ i64ok r.2
def S_oCode (R : Rel) : Prop := ∀ o : Ov, oFit o → (oGone o = true ∨ (1 ≤ o.k ∧ o.k ≤ 5)) → R [.v (oP o)] (.val (.str (oCode o))) []
theorem rCode_len {r : Ud} (h : dFit r.1 ∧ i64ok r.2) : (dCode r.1).length ≤ 22 ∧ (pInt r.2).length ≤ 11 := by
  have h1 := pInt_len h.1.1
  have h2 := pInt_len h.1.2
  have h3 := pInt_len h.2
  unfold dCode
  rw [List.length_append]
  exact ⟨by omega, h3⟩
theorem rsFlat_len : ∀ (l : List Ud), (∀ r ∈ l, dFit r.1 ∧ i64ok r.2) → ((l.map rCode).flatten).length ≤ l.length * 33
  | [], _ => by simp
  | r :: l, h => by
    have h1 := rCode_len (h r (by simp))
    have h2 := rsFlat_len l (fun t ht => h t (by simp [ht]))
    rw [List.map_cons, List.flatten_cons, List.length_append, List.length_cons, rCode, List.length_append]; omega
theorem pCode_len {p : List (List UInt8)} (h : pOk p) : (pCode p).length ≤ 50000000000000 := by
  have h1 := pParts_len p h.2
  have h2 := pInt_len (n := p.length) (i64ok_nat (by have := h.1; omega))
  have h3 := h.1
  have : p.length * 20000011 ≤ 2000000 * 20000011 := Nat.mul_le_mul h3 (Nat.le_refl _)
  rw [pCode, List.length_append]; omega
theorem vCode_len {v : Vl} (h : vFit v) : (vCode v).length ≤ 20000100 := by
  have h1 := pInt_len h.1
  have h2 := pInt_len (fold_ok h.2.1 h.2.2.1)
  have h3 := pText_len v.2.2 h.2.2.2
  have h4 := pInt_len (n := 2) ⟨by omega, by omega⟩
  unfold vCode; split <;> rw [List.length_append] <;> omega
theorem rs_take (l : List Ud) (k : Nat) (h : k < l.length) (A : List UInt8) : (A ++ ((l.take k).map rCode).flatten) ++ (dCode (l.getD k z3).1 ++ pInt (l.getD k z3).2) = A ++ ((l.take (k + 1)).map rCode).flatten := by
  rw [getD_at h, List.take_add_one, List.getElem?_eq_getElem h, Option.toList_some, List.map_append, List.flatten_append, List.append_assoc]
  simp only [List.map_cons, List.map_nil, List.flatten_cons, List.flatten_nil, List.append_nil, rCode]
theorem g_op_Code (hI : S_i2s (C (F n_pack_Int))) (hG : S_oGone (C (F n_op_Gone))) (hP : S_pCode (C (F n_path_Code))) (hF : S_fold (C (F n_value_Fold))) (hV : S_vCode (C (F n_value_Code))) (hD : S_dCode (C (F n_dot_Code))) : S_oCode ((c_op_Code F).gives C) := by
  intro o ho hk
  have hG := hG o
  refine gives_of rfl ?_
  unfold c_op_Code oCode
  obtain ⟨hok, h1, h2, h3, h4, h5⟩ := ho
  have hP := hP o.p hok.1
  have hF := hF o.am h3 h4
  have hV := hV o.v h2
  have l1 := pInt_len h1
  have l2 := pCode_len hok.1
  have l3 := pInt_len (fold_ok h3 h4)
  have l4 := vCode_len h2
  have hrl := hok.2.2
  have l5 := pInt_len (n := o.rs.length) (i64ok_nat (by omega))
  simp only [walk, Nat.reduceLT, Nat.reduceBEq, Nat.reduceAdd, Nat.reduceLeDiff, reduceIte, Int.reduceLT, Int.reduceLE, Int.reduceEq, Int.reduceToNat, Int.reduceBEq, ieq]
  refine callWp_of (hI o.k h1) ?_
  simp only [walk, Nat.reduceLT, Nat.reduceBEq, Nat.reduceAdd, Nat.reduceLeDiff, reduceIte, Int.reduceLT, Int.reduceLE, Int.reduceEq, Int.reduceToNat, Int.reduceBEq]
  refine callWp_of hG ?_
  cases hg : oGone o with
  | true => simp only [walk, Nat.reduceLT, Nat.reduceBEq, Nat.reduceAdd, Nat.reduceLeDiff, reduceIte, Int.reduceLT, Int.reduceLE, Int.reduceEq, Int.reduceToNat, Int.reduceBEq, List.append_nil]
  | false =>
    have hk := hk.resolve_left (by simp [hg])
    obtain ⟨k, p, v, am, rs⟩ := o
    simp only at *
    simp only [walk, Nat.reduceLT, Nat.reduceBEq, Nat.reduceAdd, Nat.reduceLeDiff, reduceIte, Int.reduceLT, Int.reduceLE, Int.reduceEq, Int.reduceToNat, Int.reduceBEq]
    refine callWp_of hP ?_
    simp only [walk, Nat.reduceLT, Nat.reduceBEq, Nat.reduceAdd, Nat.reduceLeDiff, reduceIte, Int.reduceLT, Int.reduceLE, Int.reduceEq, Int.reduceToNat, Int.reduceBEq]
    rw [bins_add (by omega)]
    have hk : k = 1 ∨ k = 2 ∨ k = 3 ∨ k = 4 ∨ k = 5 := by omega
    generalize hA : pCode p = A at *
    clear hP hG hA
    have q1 : ∀ x : List UInt8, x = x ++ (([] : List UInt8)) := fun x => (List.append_nil x).symm
    rcases hk with rfl | rfl | rfl | rfl | rfl
    · simp only [walk, Nat.reduceLT, Nat.reduceBEq, Nat.reduceAdd, Nat.reduceLeDiff, reduceIte, Int.reduceLT, Int.reduceLE, Int.reduceEq, Int.reduceToNat, Int.reduceBEq, ieq, or_self, or_true, true_or, or_false, false_or]
      refine callWp_of hV ?_
      simp only [walk, Nat.reduceLT, Nat.reduceBEq, Nat.reduceAdd, Nat.reduceLeDiff, reduceIte, Int.reduceLT, Int.reduceLE, Int.reduceEq, Int.reduceToNat, Int.reduceBEq]
      rw [bins_add (by rw [List.length_append]; omega)]
      simp only [walk, Nat.reduceLT, Nat.reduceBEq, Nat.reduceAdd, Nat.reduceLeDiff, reduceIte, Int.reduceLT, Int.reduceLE, Int.reduceEq, Int.reduceToNat, Int.reduceBEq, uRows_len]
      refine callWp_of (hI rs.length (i64ok_nat (by omega))) ?_
      simp only [walk, Nat.reduceLT, Nat.reduceBEq, Nat.reduceAdd, Nat.reduceLeDiff, reduceIte, Int.reduceLT, Int.reduceLE, Int.reduceEq, Int.reduceToNat, Int.reduceBEq]
      rw [bins_add (by simp only [List.length_append] at *; omega)]
      simp only [walk, Nat.reduceLT, Nat.reduceBEq, Nat.reduceAdd, Nat.reduceLeDiff, reduceIte, Int.reduceLT, Int.reduceLE, Int.reduceEq, Int.reduceToNat, Int.reduceBEq, uRows_len]
      refine awp_loop_ind (X := Nat) (fun j => ⟨[(0, .val (oP ⟨1, p, v, am, rs⟩)), (1, .lp 1 0), (2, .val (.str [])), (3, .val (.str ((pInt 1 ++ A ++ vCode v ++ pInt rs.length) ++ ((rs.take j).map rCode).flatten))), (10, .val (.bool false)), (18, .val (.int .i64 1)), (19, .val (.bool false)), (27, .val (.bool true)), (38, .val (.bool false)), (47, .val (usP rs)), (48, .val (.int .i64 rs.length)), (49, .val (.int .i64 j))], [(1, oB ⟨1, p, v, am, rs⟩)]⟩)
        (fun j => j ≤ rs.length) (fun j => rs.length - j) 0 (by omega) (by simp) ?_
      rintro R j hj ih
      simp only [walk, Nat.reduceLT, Nat.reduceBEq, Nat.reduceAdd, Nat.reduceLeDiff, reduceIte, Int.reduceLT, Int.reduceLE, Int.reduceEq, Int.reduceToNat, Int.reduceBEq]
      by_cases c : j < rs.length
      · have c1 : (j : Int) < rs.length := by omega
        have c0 : (0 : Int) ≤ j := by omega
        have e1 : IntKind.i64.wrap ((j : Int) + 1) = ((j + 1 : Nat) : Int) := wrap64 (by omega) (by omega)
        have step := ih (j + 1) (by omega) (by omega)
        rw [← rs_take rs j c] at step
        have hr := h5 _ (List.getElem_mem c)
        rw [← getD_at c] at hr
        have hrl2 := rCode_len hr
        have hpre := rsFlat_len (rs.take j) (fun r hr => h5 r (List.mem_of_mem_take hr))
        rw [List.length_take, Nat.min_eq_left (by omega)] at hpre
        simp only [walk, Nat.reduceLT, Nat.reduceBEq, Nat.reduceAdd, Nat.reduceLeDiff, reduceIte, Int.reduceLT, Int.reduceLE, Int.reduceEq, Int.reduceToNat, Int.reduceBEq, c1, uRows_get c]
        refine callWp_of (hD _ hr.1) ?_
        simp only [walk, Nat.reduceLT, Nat.reduceBEq, Nat.reduceAdd, Nat.reduceLeDiff, reduceIte, Int.reduceLT, Int.reduceLE, Int.reduceEq, Int.reduceToNat, Int.reduceBEq]
        refine callWp_of (hI _ hr.2) ?_
        simp only [walk, Nat.reduceLT, Nat.reduceBEq, Nat.reduceAdd, Nat.reduceLeDiff, reduceIte, Int.reduceLT, Int.reduceLE, Int.reduceEq, Int.reduceToNat, Int.reduceBEq]
        rw [bins_add (by omega)]
        simp only [walk, Nat.reduceLT, Nat.reduceBEq, Nat.reduceAdd, Nat.reduceLeDiff, reduceIte, Int.reduceLT, Int.reduceLE, Int.reduceEq, Int.reduceToNat, Int.reduceBEq]
        rw [bins_add (by simp only [List.length_append] at *; omega)]
        simp only [walk, Nat.reduceLT, Nat.reduceBEq, Nat.reduceAdd, Nat.reduceLeDiff, reduceIte, Int.reduceLT, Int.reduceLE, Int.reduceEq, Int.reduceToNat, Int.reduceBEq, e1]
        exact step
      · have c1 : ¬ (j : Int) < rs.length := by omega
        rw [List.take_of_length_le (by omega)]
        simp only [walk, Nat.reduceLT, Nat.reduceBEq, Nat.reduceAdd, Nat.reduceLeDiff, reduceIte, Int.reduceLT, Int.reduceLE, Int.reduceEq, Int.reduceToNat, Int.reduceBEq, c1, rsCode, List.append_assoc, List.nil_append]
    · simp only [walk, Nat.reduceLT, Nat.reduceBEq, Nat.reduceAdd, Nat.reduceLeDiff, reduceIte, Int.reduceLT, Int.reduceLE, Int.reduceEq, Int.reduceToNat, Int.reduceBEq, ieq]
      refine callWp_of hV ?_
      simp only [walk, Nat.reduceLT, Nat.reduceBEq, Nat.reduceAdd, Nat.reduceLeDiff, reduceIte, Int.reduceLT, Int.reduceLE, Int.reduceEq, Int.reduceToNat, Int.reduceBEq]
      rw [bins_add (by rw [List.length_append]; omega)]
      simp only [walk, Nat.reduceLT, Nat.reduceBEq, Nat.reduceAdd, Nat.reduceLeDiff, reduceIte, Int.reduceLT, Int.reduceLE, Int.reduceEq, Int.reduceToNat, Int.reduceBEq, ieq, List.append_assoc, List.append_nil]
    · simp only [walk, Nat.reduceLT, Nat.reduceBEq, Nat.reduceAdd, Nat.reduceLeDiff, reduceIte, Int.reduceLT, Int.reduceLE, Int.reduceEq, Int.reduceToNat, Int.reduceBEq, ieq]
      refine callWp_of hF ?_
      simp only [walk, Nat.reduceLT, Nat.reduceBEq, Nat.reduceAdd, Nat.reduceLeDiff, reduceIte, Int.reduceLT, Int.reduceLE, Int.reduceEq, Int.reduceToNat, Int.reduceBEq]
      refine callWp_of (hI _ (fold_ok h3 h4)) ?_
      simp only [walk, Nat.reduceLT, Nat.reduceBEq, Nat.reduceAdd, Nat.reduceLeDiff, reduceIte, Int.reduceLT, Int.reduceLE, Int.reduceEq, Int.reduceToNat, Int.reduceBEq]
      rw [bins_add (by rw [List.length_append]; omega)]
      simp only [walk, Nat.reduceLT, Nat.reduceBEq, Nat.reduceAdd, Nat.reduceLeDiff, reduceIte, Int.reduceLT, Int.reduceLE, Int.reduceEq, Int.reduceToNat, Int.reduceBEq, ieq, List.append_assoc]
    · simp only [walk, Nat.reduceLT, Nat.reduceBEq, Nat.reduceAdd, Nat.reduceLeDiff, reduceIte, Int.reduceLT, Int.reduceLE, Int.reduceEq, Int.reduceToNat, Int.reduceBEq, ieq]
      refine callWp_of hV ?_
      simp only [walk, Nat.reduceLT, Nat.reduceBEq, Nat.reduceAdd, Nat.reduceLeDiff, reduceIte, Int.reduceLT, Int.reduceLE, Int.reduceEq, Int.reduceToNat, Int.reduceBEq]
      rw [bins_add (by rw [List.length_append]; omega)]
      simp only [walk, Nat.reduceLT, Nat.reduceBEq, Nat.reduceAdd, Nat.reduceLeDiff, reduceIte, Int.reduceLT, Int.reduceLE, Int.reduceEq, Int.reduceToNat, Int.reduceBEq, uRows_len]
      refine callWp_of (hI rs.length (i64ok_nat (by omega))) ?_
      simp only [walk, Nat.reduceLT, Nat.reduceBEq, Nat.reduceAdd, Nat.reduceLeDiff, reduceIte, Int.reduceLT, Int.reduceLE, Int.reduceEq, Int.reduceToNat, Int.reduceBEq]
      rw [bins_add (by simp only [List.length_append] at *; omega)]
      simp only [walk, Nat.reduceLT, Nat.reduceBEq, Nat.reduceAdd, Nat.reduceLeDiff, reduceIte, Int.reduceLT, Int.reduceLE, Int.reduceEq, Int.reduceToNat, Int.reduceBEq, uRows_len]
      refine awp_loop_ind (X := Nat) (fun j => ⟨[(0, .val (oP ⟨4, p, v, am, rs⟩)), (1, .lp 1 0), (2, .val (.str [])), (3, .val (.str ((pInt 4 ++ A ++ vCode v ++ pInt rs.length) ++ ((rs.take j).map rCode).flatten))), (10, .val (.bool false)), (18, .val (.int .i64 4)), (19, .val (.bool false)), (27, .val (.bool true)), (38, .val (.bool false)), (47, .val (usP rs)), (48, .val (.int .i64 rs.length)), (49, .val (.int .i64 j))], [(1, oB ⟨4, p, v, am, rs⟩)]⟩)
        (fun j => j ≤ rs.length) (fun j => rs.length - j) 0 (by omega) (by simp) ?_
      rintro R j hj ih
      simp only [walk, Nat.reduceLT, Nat.reduceBEq, Nat.reduceAdd, Nat.reduceLeDiff, reduceIte, Int.reduceLT, Int.reduceLE, Int.reduceEq, Int.reduceToNat, Int.reduceBEq]
      by_cases c : j < rs.length
      · have c1 : (j : Int) < rs.length := by omega
        have c0 : (0 : Int) ≤ j := by omega
        have e1 : IntKind.i64.wrap ((j : Int) + 1) = ((j + 1 : Nat) : Int) := wrap64 (by omega) (by omega)
        have step := ih (j + 1) (by omega) (by omega)
        rw [← rs_take rs j c] at step
        have hr := h5 _ (List.getElem_mem c)
        rw [← getD_at c] at hr
        have hrl2 := rCode_len hr
        have hpre := rsFlat_len (rs.take j) (fun r hr => h5 r (List.mem_of_mem_take hr))
        rw [List.length_take, Nat.min_eq_left (by omega)] at hpre
        simp only [walk, Nat.reduceLT, Nat.reduceBEq, Nat.reduceAdd, Nat.reduceLeDiff, reduceIte, Int.reduceLT, Int.reduceLE, Int.reduceEq, Int.reduceToNat, Int.reduceBEq, c1, uRows_get c]
        refine callWp_of (hD _ hr.1) ?_
        simp only [walk, Nat.reduceLT, Nat.reduceBEq, Nat.reduceAdd, Nat.reduceLeDiff, reduceIte, Int.reduceLT, Int.reduceLE, Int.reduceEq, Int.reduceToNat, Int.reduceBEq]
        refine callWp_of (hI _ hr.2) ?_
        simp only [walk, Nat.reduceLT, Nat.reduceBEq, Nat.reduceAdd, Nat.reduceLeDiff, reduceIte, Int.reduceLT, Int.reduceLE, Int.reduceEq, Int.reduceToNat, Int.reduceBEq]
        rw [bins_add (by omega)]
        simp only [walk, Nat.reduceLT, Nat.reduceBEq, Nat.reduceAdd, Nat.reduceLeDiff, reduceIte, Int.reduceLT, Int.reduceLE, Int.reduceEq, Int.reduceToNat, Int.reduceBEq]
        rw [bins_add (by simp only [List.length_append] at *; omega)]
        simp only [walk, Nat.reduceLT, Nat.reduceBEq, Nat.reduceAdd, Nat.reduceLeDiff, reduceIte, Int.reduceLT, Int.reduceLE, Int.reduceEq, Int.reduceToNat, Int.reduceBEq, e1]
        exact step
      · have c1 : ¬ (j : Int) < rs.length := by omega
        rw [List.take_of_length_le (by omega)]
        simp only [walk, Nat.reduceLT, Nat.reduceBEq, Nat.reduceAdd, Nat.reduceLeDiff, reduceIte, Int.reduceLT, Int.reduceLE, Int.reduceEq, Int.reduceToNat, Int.reduceBEq, c1, rsCode, List.append_assoc, List.nil_append]
    · simp only [walk, Nat.reduceLT, Nat.reduceBEq, Nat.reduceAdd, Nat.reduceLeDiff, reduceIte, Int.reduceLT, Int.reduceLE, Int.reduceEq, Int.reduceToNat, Int.reduceBEq, ieq]
      simp only [walk, Nat.reduceLT, Nat.reduceBEq, Nat.reduceAdd, Nat.reduceLeDiff, reduceIte, Int.reduceLT, Int.reduceLE, Int.reduceEq, Int.reduceToNat, Int.reduceBEq, uRows_len]
      refine callWp_of (hI rs.length (i64ok_nat (by omega))) ?_
      simp only [walk, Nat.reduceLT, Nat.reduceBEq, Nat.reduceAdd, Nat.reduceLeDiff, reduceIte, Int.reduceLT, Int.reduceLE, Int.reduceEq, Int.reduceToNat, Int.reduceBEq]
      rw [bins_add (by simp only [List.length_append] at *; omega)]
      simp only [walk, Nat.reduceLT, Nat.reduceBEq, Nat.reduceAdd, Nat.reduceLeDiff, reduceIte, Int.reduceLT, Int.reduceLE, Int.reduceEq, Int.reduceToNat, Int.reduceBEq, uRows_len]
      refine awp_loop_ind (X := Nat) (fun j => ⟨[(0, .val (oP ⟨5, p, v, am, rs⟩)), (1, .lp 1 0), (2, .val (.str [])), (3, .val (.str ((pInt 5 ++ A ++ pInt rs.length) ++ ((rs.take j).map rCode).flatten))), (10, .val (.bool false)), (18, .val (.int .i64 5)), (19, .val (.bool false)), (27, .val (.bool false)), (38, .val (.bool false)), (47, .val (usP rs)), (48, .val (.int .i64 rs.length)), (49, .val (.int .i64 j))], [(1, oB ⟨5, p, v, am, rs⟩)]⟩)
        (fun j => j ≤ rs.length) (fun j => rs.length - j) 0 (by omega) (by simp) ?_
      rintro R j hj ih
      simp only [walk, Nat.reduceLT, Nat.reduceBEq, Nat.reduceAdd, Nat.reduceLeDiff, reduceIte, Int.reduceLT, Int.reduceLE, Int.reduceEq, Int.reduceToNat, Int.reduceBEq]
      by_cases c : j < rs.length
      · have c1 : (j : Int) < rs.length := by omega
        have c0 : (0 : Int) ≤ j := by omega
        have e1 : IntKind.i64.wrap ((j : Int) + 1) = ((j + 1 : Nat) : Int) := wrap64 (by omega) (by omega)
        have step := ih (j + 1) (by omega) (by omega)
        rw [← rs_take rs j c] at step
        have hr := h5 _ (List.getElem_mem c)
        rw [← getD_at c] at hr
        have hrl2 := rCode_len hr
        have hpre := rsFlat_len (rs.take j) (fun r hr => h5 r (List.mem_of_mem_take hr))
        rw [List.length_take, Nat.min_eq_left (by omega)] at hpre
        simp only [walk, Nat.reduceLT, Nat.reduceBEq, Nat.reduceAdd, Nat.reduceLeDiff, reduceIte, Int.reduceLT, Int.reduceLE, Int.reduceEq, Int.reduceToNat, Int.reduceBEq, c1, uRows_get c]
        refine callWp_of (hD _ hr.1) ?_
        simp only [walk, Nat.reduceLT, Nat.reduceBEq, Nat.reduceAdd, Nat.reduceLeDiff, reduceIte, Int.reduceLT, Int.reduceLE, Int.reduceEq, Int.reduceToNat, Int.reduceBEq]
        refine callWp_of (hI _ hr.2) ?_
        simp only [walk, Nat.reduceLT, Nat.reduceBEq, Nat.reduceAdd, Nat.reduceLeDiff, reduceIte, Int.reduceLT, Int.reduceLE, Int.reduceEq, Int.reduceToNat, Int.reduceBEq]
        rw [bins_add (by omega)]
        simp only [walk, Nat.reduceLT, Nat.reduceBEq, Nat.reduceAdd, Nat.reduceLeDiff, reduceIte, Int.reduceLT, Int.reduceLE, Int.reduceEq, Int.reduceToNat, Int.reduceBEq]
        rw [bins_add (by simp only [List.length_append] at *; omega)]
        simp only [walk, Nat.reduceLT, Nat.reduceBEq, Nat.reduceAdd, Nat.reduceLeDiff, reduceIte, Int.reduceLT, Int.reduceLE, Int.reduceEq, Int.reduceToNat, Int.reduceBEq, e1]
        exact step
      · have c1 : ¬ (j : Int) < rs.length := by omega
        rw [List.take_of_length_le (by omega)]
        simp only [walk, Nat.reduceLT, Nat.reduceBEq, Nat.reduceAdd, Nat.reduceLeDiff, reduceIte, Int.reduceLT, Int.reduceLE, Int.reduceEq, Int.reduceToNat, Int.reduceBEq, c1, rsCode, List.append_assoc, List.nil_append]
theorem g_pref11_Code (hI : S_i2s (C (F n_pref02_Int))) (hG : S_oGone (C (F n_pref11_Gone))) (hP : S_pCode (C (F n_pref10_Code))) (hF : S_fold (C (F n_pref09_Fold))) (hV : S_vCode (C (F n_pref09_Code))) (hD : S_dCode (C (F n_pref04_Code))) : S_oCode ((c_pref11_Code F).gives C) := by
  intro o ho hk
  have hG := hG o
  refine gives_of rfl ?_
  unfold c_pref11_Code oCode
  obtain ⟨hok, h1, h2, h3, h4, h5⟩ := ho
  have hP := hP o.p hok.1
  have hF := hF o.am h3 h4
  have hV := hV o.v h2
  have l1 := pInt_len h1
  have l2 := pCode_len hok.1
  have l3 := pInt_len (fold_ok h3 h4)
  have l4 := vCode_len h2
  have hrl := hok.2.2
  have l5 := pInt_len (n := o.rs.length) (i64ok_nat (by omega))
  simp only [walk, Nat.reduceLT, Nat.reduceBEq, Nat.reduceAdd, Nat.reduceLeDiff, reduceIte, Int.reduceLT, Int.reduceLE, Int.reduceEq, Int.reduceToNat, Int.reduceBEq, ieq]
  refine callWp_of (hI o.k h1) ?_
  simp only [walk, Nat.reduceLT, Nat.reduceBEq, Nat.reduceAdd, Nat.reduceLeDiff, reduceIte, Int.reduceLT, Int.reduceLE, Int.reduceEq, Int.reduceToNat, Int.reduceBEq]
  refine callWp_of hG ?_
  cases hg : oGone o with
  | true => simp only [walk, Nat.reduceLT, Nat.reduceBEq, Nat.reduceAdd, Nat.reduceLeDiff, reduceIte, Int.reduceLT, Int.reduceLE, Int.reduceEq, Int.reduceToNat, Int.reduceBEq, List.append_nil]
  | false =>
    have hk := hk.resolve_left (by simp [hg])
    obtain ⟨k, p, v, am, rs⟩ := o
    simp only at *
    simp only [walk, Nat.reduceLT, Nat.reduceBEq, Nat.reduceAdd, Nat.reduceLeDiff, reduceIte, Int.reduceLT, Int.reduceLE, Int.reduceEq, Int.reduceToNat, Int.reduceBEq]
    refine callWp_of hP ?_
    simp only [walk, Nat.reduceLT, Nat.reduceBEq, Nat.reduceAdd, Nat.reduceLeDiff, reduceIte, Int.reduceLT, Int.reduceLE, Int.reduceEq, Int.reduceToNat, Int.reduceBEq]
    rw [bins_add (by omega)]
    have hk : k = 1 ∨ k = 2 ∨ k = 3 ∨ k = 4 ∨ k = 5 := by omega
    generalize hA : pCode p = A at *
    clear hP hG hA
    have q1 : ∀ x : List UInt8, x = x ++ (([] : List UInt8)) := fun x => (List.append_nil x).symm
    rcases hk with rfl | rfl | rfl | rfl | rfl
    · simp only [walk, Nat.reduceLT, Nat.reduceBEq, Nat.reduceAdd, Nat.reduceLeDiff, reduceIte, Int.reduceLT, Int.reduceLE, Int.reduceEq, Int.reduceToNat, Int.reduceBEq, ieq, ine, ne_eq, decide_not]
      refine callWp_of hV ?_
      simp only [walk, Nat.reduceLT, Nat.reduceBEq, Nat.reduceAdd, Nat.reduceLeDiff, reduceIte, Int.reduceLT, Int.reduceLE, Int.reduceEq, Int.reduceToNat, Int.reduceBEq]
      rw [bins_add (by rw [List.length_append]; omega)]
      simp only [walk, Nat.reduceLT, Nat.reduceBEq, Nat.reduceAdd, Nat.reduceLeDiff, reduceIte, Int.reduceLT, Int.reduceLE, Int.reduceEq, Int.reduceToNat, Int.reduceBEq, uRows_len, ieq]
      refine callWp_of (hI rs.length (i64ok_nat (by omega))) ?_
      simp only [walk, Nat.reduceLT, Nat.reduceBEq, Nat.reduceAdd, Nat.reduceLeDiff, reduceIte, Int.reduceLT, Int.reduceLE, Int.reduceEq, Int.reduceToNat, Int.reduceBEq]
      rw [bins_add (by simp only [List.length_append] at *; omega)]
      simp only [walk, Nat.reduceLT, Nat.reduceBEq, Nat.reduceAdd, Nat.reduceLeDiff, reduceIte, Int.reduceLT, Int.reduceLE, Int.reduceEq, Int.reduceToNat, Int.reduceBEq, uRows_len]
      refine awp_loop_ind (X := Nat) (fun j => ⟨[(0, .val (oP ⟨1, p, v, am, rs⟩)), (1, .lp 1 0), (2, .val (.str [])), (3, .val (.str ((pInt 1 ++ A ++ vCode v ++ pInt rs.length) ++ ((rs.take j).map rCode).flatten))), (4, .val (.int .i64 j)), (9, .val (.bool false)), (18, .val (.bool false)), (27, .val (.bool true)), (35, .val (.bool false))], [(1, oB ⟨1, p, v, am, rs⟩)]⟩)
        (fun j => j ≤ rs.length) (fun j => rs.length - j) 0 (by omega) (by simp) ?_
      rintro R j hj ih
      simp only [walk, Nat.reduceLT, Nat.reduceBEq, Nat.reduceAdd, Nat.reduceLeDiff, reduceIte, Int.reduceLT, Int.reduceLE, Int.reduceEq, Int.reduceToNat, Int.reduceBEq, uRows_len]
      by_cases c : j < rs.length
      · have c1 : (j : Int) < rs.length := by omega
        have c0 : (0 : Int) ≤ j := by omega
        have e1 : IntKind.i64.wrap ((j : Int) + 1) = ((j + 1 : Nat) : Int) := wrap64 (by omega) (by omega)
        have step := ih (j + 1) (by omega) (by omega)
        rw [← rs_take rs j c, ← List.append_assoc] at step
        have hr := h5 _ (List.getElem_mem c)
        rw [← getD_at c] at hr
        have hrl2 := rCode_len hr
        have hpre := rsFlat_len (rs.take j) (fun r hr => h5 r (List.mem_of_mem_take hr))
        rw [List.length_take, Nat.min_eq_left (by omega)] at hpre
        simp only [walk, Nat.reduceLT, Nat.reduceBEq, Nat.reduceAdd, Nat.reduceLeDiff, reduceIte, Int.reduceLT, Int.reduceLE, Int.reduceEq, Int.reduceToNat, Int.reduceBEq, c1, uRows_get c, uRows_len]
        refine callWp_of (hD _ hr.1) ?_
        simp only [walk, Nat.reduceLT, Nat.reduceBEq, Nat.reduceAdd, Nat.reduceLeDiff, reduceIte, Int.reduceLT, Int.reduceLE, Int.reduceEq, Int.reduceToNat, Int.reduceBEq]
        rw [bins_add (by simp only [List.length_append] at *; omega)]
        simp only [walk, Nat.reduceLT, Nat.reduceBEq, Nat.reduceAdd, Nat.reduceLeDiff, reduceIte, Int.reduceLT, Int.reduceLE, Int.reduceEq, Int.reduceToNat, Int.reduceBEq, c1, uRows_get c, uRows_len]
        refine callWp_of (hI _ hr.2) ?_
        simp only [walk, Nat.reduceLT, Nat.reduceBEq, Nat.reduceAdd, Nat.reduceLeDiff, reduceIte, Int.reduceLT, Int.reduceLE, Int.reduceEq, Int.reduceToNat, Int.reduceBEq]
        rw [bins_add (by simp only [List.length_append] at *; omega)]
        simp only [walk, Nat.reduceLT, Nat.reduceBEq, Nat.reduceAdd, Nat.reduceLeDiff, reduceIte, Int.reduceLT, Int.reduceLE, Int.reduceEq, Int.reduceToNat, Int.reduceBEq, e1]
        exact step
      · have c1 : ¬ (j : Int) < rs.length := by omega
        rw [List.take_of_length_le (by omega)]
        simp only [walk, Nat.reduceLT, Nat.reduceBEq, Nat.reduceAdd, Nat.reduceLeDiff, reduceIte, Int.reduceLT, Int.reduceLE, Int.reduceEq, Int.reduceToNat, Int.reduceBEq, c1, rsCode, List.append_assoc, List.nil_append]
    · simp only [walk, Nat.reduceLT, Nat.reduceBEq, Nat.reduceAdd, Nat.reduceLeDiff, reduceIte, Int.reduceLT, Int.reduceLE, Int.reduceEq, Int.reduceToNat, Int.reduceBEq, ieq, ine, ne_eq, decide_not]
      refine callWp_of hV ?_
      simp only [walk, Nat.reduceLT, Nat.reduceBEq, Nat.reduceAdd, Nat.reduceLeDiff, reduceIte, Int.reduceLT, Int.reduceLE, Int.reduceEq, Int.reduceToNat, Int.reduceBEq]
      rw [bins_add (by rw [List.length_append]; omega)]
      simp only [walk, Nat.reduceLT, Nat.reduceBEq, Nat.reduceAdd, Nat.reduceLeDiff, reduceIte, Int.reduceLT, Int.reduceLE, Int.reduceEq, Int.reduceToNat, Int.reduceBEq, ieq, List.append_assoc, List.append_nil]
    · simp only [walk, Nat.reduceLT, Nat.reduceBEq, Nat.reduceAdd, Nat.reduceLeDiff, reduceIte, Int.reduceLT, Int.reduceLE, Int.reduceEq, Int.reduceToNat, Int.reduceBEq, ieq]
      refine callWp_of hF ?_
      simp only [walk, Nat.reduceLT, Nat.reduceBEq, Nat.reduceAdd, Nat.reduceLeDiff, reduceIte, Int.reduceLT, Int.reduceLE, Int.reduceEq, Int.reduceToNat, Int.reduceBEq]
      refine callWp_of (hI _ (fold_ok h3 h4)) ?_
      simp only [walk, Nat.reduceLT, Nat.reduceBEq, Nat.reduceAdd, Nat.reduceLeDiff, reduceIte, Int.reduceLT, Int.reduceLE, Int.reduceEq, Int.reduceToNat, Int.reduceBEq]
      rw [bins_add (by rw [List.length_append]; omega)]
      simp only [walk, Nat.reduceLT, Nat.reduceBEq, Nat.reduceAdd, Nat.reduceLeDiff, reduceIte, Int.reduceLT, Int.reduceLE, Int.reduceEq, Int.reduceToNat, Int.reduceBEq, ieq, List.append_assoc]
    · simp only [walk, Nat.reduceLT, Nat.reduceBEq, Nat.reduceAdd, Nat.reduceLeDiff, reduceIte, Int.reduceLT, Int.reduceLE, Int.reduceEq, Int.reduceToNat, Int.reduceBEq, ieq, ine, ne_eq, decide_not]
      refine callWp_of hV ?_
      simp only [walk, Nat.reduceLT, Nat.reduceBEq, Nat.reduceAdd, Nat.reduceLeDiff, reduceIte, Int.reduceLT, Int.reduceLE, Int.reduceEq, Int.reduceToNat, Int.reduceBEq]
      rw [bins_add (by rw [List.length_append]; omega)]
      simp only [walk, Nat.reduceLT, Nat.reduceBEq, Nat.reduceAdd, Nat.reduceLeDiff, reduceIte, Int.reduceLT, Int.reduceLE, Int.reduceEq, Int.reduceToNat, Int.reduceBEq, uRows_len, ieq]
      refine callWp_of (hI rs.length (i64ok_nat (by omega))) ?_
      simp only [walk, Nat.reduceLT, Nat.reduceBEq, Nat.reduceAdd, Nat.reduceLeDiff, reduceIte, Int.reduceLT, Int.reduceLE, Int.reduceEq, Int.reduceToNat, Int.reduceBEq]
      rw [bins_add (by simp only [List.length_append] at *; omega)]
      simp only [walk, Nat.reduceLT, Nat.reduceBEq, Nat.reduceAdd, Nat.reduceLeDiff, reduceIte, Int.reduceLT, Int.reduceLE, Int.reduceEq, Int.reduceToNat, Int.reduceBEq, uRows_len]
      refine awp_loop_ind (X := Nat) (fun j => ⟨[(0, .val (oP ⟨4, p, v, am, rs⟩)), (1, .lp 1 0), (2, .val (.str [])), (3, .val (.str ((pInt 4 ++ A ++ vCode v ++ pInt rs.length) ++ ((rs.take j).map rCode).flatten))), (4, .val (.int .i64 j)), (9, .val (.bool false)), (18, .val (.bool false)), (27, .val (.bool true)), (35, .val (.bool false))], [(1, oB ⟨4, p, v, am, rs⟩)]⟩)
        (fun j => j ≤ rs.length) (fun j => rs.length - j) 0 (by omega) (by simp) ?_
      rintro R j hj ih
      simp only [walk, Nat.reduceLT, Nat.reduceBEq, Nat.reduceAdd, Nat.reduceLeDiff, reduceIte, Int.reduceLT, Int.reduceLE, Int.reduceEq, Int.reduceToNat, Int.reduceBEq, uRows_len]
      by_cases c : j < rs.length
      · have c1 : (j : Int) < rs.length := by omega
        have c0 : (0 : Int) ≤ j := by omega
        have e1 : IntKind.i64.wrap ((j : Int) + 1) = ((j + 1 : Nat) : Int) := wrap64 (by omega) (by omega)
        have step := ih (j + 1) (by omega) (by omega)
        rw [← rs_take rs j c, ← List.append_assoc] at step
        have hr := h5 _ (List.getElem_mem c)
        rw [← getD_at c] at hr
        have hrl2 := rCode_len hr
        have hpre := rsFlat_len (rs.take j) (fun r hr => h5 r (List.mem_of_mem_take hr))
        rw [List.length_take, Nat.min_eq_left (by omega)] at hpre
        simp only [walk, Nat.reduceLT, Nat.reduceBEq, Nat.reduceAdd, Nat.reduceLeDiff, reduceIte, Int.reduceLT, Int.reduceLE, Int.reduceEq, Int.reduceToNat, Int.reduceBEq, c1, uRows_get c, uRows_len]
        refine callWp_of (hD _ hr.1) ?_
        simp only [walk, Nat.reduceLT, Nat.reduceBEq, Nat.reduceAdd, Nat.reduceLeDiff, reduceIte, Int.reduceLT, Int.reduceLE, Int.reduceEq, Int.reduceToNat, Int.reduceBEq]
        rw [bins_add (by simp only [List.length_append] at *; omega)]
        simp only [walk, Nat.reduceLT, Nat.reduceBEq, Nat.reduceAdd, Nat.reduceLeDiff, reduceIte, Int.reduceLT, Int.reduceLE, Int.reduceEq, Int.reduceToNat, Int.reduceBEq, c1, uRows_get c, uRows_len]
        refine callWp_of (hI _ hr.2) ?_
        simp only [walk, Nat.reduceLT, Nat.reduceBEq, Nat.reduceAdd, Nat.reduceLeDiff, reduceIte, Int.reduceLT, Int.reduceLE, Int.reduceEq, Int.reduceToNat, Int.reduceBEq]
        rw [bins_add (by simp only [List.length_append] at *; omega)]
        simp only [walk, Nat.reduceLT, Nat.reduceBEq, Nat.reduceAdd, Nat.reduceLeDiff, reduceIte, Int.reduceLT, Int.reduceLE, Int.reduceEq, Int.reduceToNat, Int.reduceBEq, e1]
        exact step
      · have c1 : ¬ (j : Int) < rs.length := by omega
        rw [List.take_of_length_le (by omega)]
        simp only [walk, Nat.reduceLT, Nat.reduceBEq, Nat.reduceAdd, Nat.reduceLeDiff, reduceIte, Int.reduceLT, Int.reduceLE, Int.reduceEq, Int.reduceToNat, Int.reduceBEq, c1, rsCode, List.append_assoc, List.nil_append]
    · simp only [walk, Nat.reduceLT, Nat.reduceBEq, Nat.reduceAdd, Nat.reduceLeDiff, reduceIte, Int.reduceLT, Int.reduceLE, Int.reduceEq, Int.reduceToNat, Int.reduceBEq, ieq, ine, ne_eq, decide_not]
      simp only [walk, Nat.reduceLT, Nat.reduceBEq, Nat.reduceAdd, Nat.reduceLeDiff, reduceIte, Int.reduceLT, Int.reduceLE, Int.reduceEq, Int.reduceToNat, Int.reduceBEq, uRows_len, ieq]
      refine callWp_of (hI rs.length (i64ok_nat (by omega))) ?_
      simp only [walk, Nat.reduceLT, Nat.reduceBEq, Nat.reduceAdd, Nat.reduceLeDiff, reduceIte, Int.reduceLT, Int.reduceLE, Int.reduceEq, Int.reduceToNat, Int.reduceBEq]
      rw [bins_add (by simp only [List.length_append] at *; omega)]
      simp only [walk, Nat.reduceLT, Nat.reduceBEq, Nat.reduceAdd, Nat.reduceLeDiff, reduceIte, Int.reduceLT, Int.reduceLE, Int.reduceEq, Int.reduceToNat, Int.reduceBEq, uRows_len]
      refine awp_loop_ind (X := Nat) (fun j => ⟨[(0, .val (oP ⟨5, p, v, am, rs⟩)), (1, .lp 1 0), (2, .val (.str [])), (3, .val (.str ((pInt 5 ++ A ++ pInt rs.length) ++ ((rs.take j).map rCode).flatten))), (4, .val (.int .i64 j)), (9, .val (.bool false)), (18, .val (.bool false)), (27, .val (.bool false)), (35, .val (.bool false))], [(1, oB ⟨5, p, v, am, rs⟩)]⟩)
        (fun j => j ≤ rs.length) (fun j => rs.length - j) 0 (by omega) (by simp) ?_
      rintro R j hj ih
      simp only [walk, Nat.reduceLT, Nat.reduceBEq, Nat.reduceAdd, Nat.reduceLeDiff, reduceIte, Int.reduceLT, Int.reduceLE, Int.reduceEq, Int.reduceToNat, Int.reduceBEq, uRows_len]
      by_cases c : j < rs.length
      · have c1 : (j : Int) < rs.length := by omega
        have c0 : (0 : Int) ≤ j := by omega
        have e1 : IntKind.i64.wrap ((j : Int) + 1) = ((j + 1 : Nat) : Int) := wrap64 (by omega) (by omega)
        have step := ih (j + 1) (by omega) (by omega)
        rw [← rs_take rs j c, ← List.append_assoc] at step
        have hr := h5 _ (List.getElem_mem c)
        rw [← getD_at c] at hr
        have hrl2 := rCode_len hr
        have hpre := rsFlat_len (rs.take j) (fun r hr => h5 r (List.mem_of_mem_take hr))
        rw [List.length_take, Nat.min_eq_left (by omega)] at hpre
        simp only [walk, Nat.reduceLT, Nat.reduceBEq, Nat.reduceAdd, Nat.reduceLeDiff, reduceIte, Int.reduceLT, Int.reduceLE, Int.reduceEq, Int.reduceToNat, Int.reduceBEq, c1, uRows_get c, uRows_len]
        refine callWp_of (hD _ hr.1) ?_
        simp only [walk, Nat.reduceLT, Nat.reduceBEq, Nat.reduceAdd, Nat.reduceLeDiff, reduceIte, Int.reduceLT, Int.reduceLE, Int.reduceEq, Int.reduceToNat, Int.reduceBEq]
        rw [bins_add (by simp only [List.length_append] at *; omega)]
        simp only [walk, Nat.reduceLT, Nat.reduceBEq, Nat.reduceAdd, Nat.reduceLeDiff, reduceIte, Int.reduceLT, Int.reduceLE, Int.reduceEq, Int.reduceToNat, Int.reduceBEq, c1, uRows_get c, uRows_len]
        refine callWp_of (hI _ hr.2) ?_
        simp only [walk, Nat.reduceLT, Nat.reduceBEq, Nat.reduceAdd, Nat.reduceLeDiff, reduceIte, Int.reduceLT, Int.reduceLE, Int.reduceEq, Int.reduceToNat, Int.reduceBEq]
        rw [bins_add (by simp only [List.length_append] at *; omega)]
        simp only [walk, Nat.reduceLT, Nat.reduceBEq, Nat.reduceAdd, Nat.reduceLeDiff, reduceIte, Int.reduceLT, Int.reduceLE, Int.reduceEq, Int.reduceToNat, Int.reduceBEq, e1]
        exact step
      · have c1 : ¬ (j : Int) < rs.length := by omega
        rw [List.take_of_length_le (by omega)]
        simp only [walk, Nat.reduceLT, Nat.reduceBEq, Nat.reduceAdd, Nat.reduceLeDiff, reduceIte, Int.reduceLT, Int.reduceLE, Int.reduceEq, Int.reduceToNat, Int.reduceBEq, c1, rsCode, List.append_assoc, List.nil_append]
end
end Go.AR

/-! Operations: what was told is read again. -/
namespace Go.AR
open Go
theorem dotOk_iff {d : Dt} : dotOk d = true ↔ 0 ≤ d.1 ∧ d.1 < 16 ∧ 1 ≤ d.2 ∧ d.2 ≤ 1048576 := by
  unfold dotOk; simp [and_assoc]
theorem vOk_cases {v : Vl} (h : vOk v = true) : (v.1 = 1 ∧ v.2.2 = [] ∧ -2147483647 ≤ v.2.1 ∧ v.2.1 ≤ 2147483647) ∨ (v.1 = 2 ∧ v.2.1 = 0 ∧ v.2.2.length ≤ 64) ∨ (v.1 = 3 ∧ v.2.2 = [] ∧ 0 ≤ v.2.1 ∧ v.2.1 ≤ 1) := by
  unfold vOk at h
  by_cases h1 : v.1 = 1
  · rw [if_pos h1] at h
    simp at h
    exact .inl ⟨h1, h.1.1, h.1.2, h.2⟩
  · rw [if_neg h1] at h
    by_cases h2 : v.1 = 2
    · rw [if_pos h2] at h
      simp at h
      exact .inr (.inl ⟨h2, h.1.2, h.2⟩)
    · rw [if_neg h2] at h
      simp at h
      exact .inr (.inr ⟨h.1.1.1, h.1.1.2, h.1.2, h.2⟩)
theorem rOk_iff {r : Ud} : rOk r = true ↔ dotOk r.1 = true ∧ 0 ≤ r.2 ∧ r.2 < 16 := by
  unfold rOk; simp [and_assoc]
theorem refs_all {l : List Ud} (h : refsOk l = true) : ∀ r ∈ l, rOk r = true := by
  intro r hr
  obtain ⟨k, hk, rfl⟩ := List.getElem_of_mem hr
  have := refsOk_iff.1 h k hk
  rw [refAt, getD_at hk, Bool.and_eq_true] at this
  exact this.1
theorem check_zero {o : Ov} (h : oCheck o = 0) : (1 ≤ o.k ∧ o.k ≤ 5) ∧ pCheck o.p = 0 ∧ ((o.k = 3 ∨ o.k = 5) → o.v = z0) ∧ ((o.k ≠ 3 ∧ o.k ≠ 5) → vOk o.v = true) ∧ (o.k ≠ 3 → o.am = 0) ∧ (o.k = 3 → -2147483647 ≤ o.am ∧ o.am ≤ 2147483647) ∧ ((o.k = 2 ∨ o.k = 3) → o.rs = []) ∧ o.rs.length ≤ 256 ∧ refsOk o.rs = true := by
  unfold oCheck at h
  by_cases h0 : o.k < 1 ∨ o.k > 5
  · rw [if_pos h0] at h; cases h
  rw [if_neg h0] at h
  by_cases h1 : pCheck o.p ≠ 0
  · rw [if_pos h1] at h; exact absurd h h1
  rw [if_neg h1] at h
  by_cases h2 : (o.k = 3 ∨ o.k = 5) ∧ o.v ≠ z0
  · rw [if_pos h2] at h; cases h
  rw [if_neg h2] at h
  by_cases h3 : (o.k ≠ 3 ∧ o.k ≠ 5) ∧ vOk o.v = false
  · rw [if_pos h3] at h; cases h
  rw [if_neg h3] at h
  by_cases h4 : (o.k ≠ 3 ∧ o.am ≠ 0) ∨ (o.k = 3 ∧ (o.am = 0 ∨ o.am > 2147483647 ∨ o.am < -2147483647))
  · rw [if_pos h4] at h; cases h
  rw [if_neg h4] at h
  by_cases h5 : (o.k = 2 ∨ o.k = 3) ∧ o.rs.length > 0
  · rw [if_pos h5] at h; cases h
  rw [if_neg h5] at h
  by_cases h6 : o.rs.length > 256
  · rw [if_pos h6] at h; cases h
  rw [if_neg h6] at h
  by_cases h7 : refsOk o.rs = false
  · rw [if_pos h7] at h; cases h
  refine ⟨by omega, by omega, fun hk => ?_, fun hk => ?_, fun hk => by omega, fun hk => by omega, fun hk => ?_, by omega, by simpa using h7⟩
  · exact Classical.byContradiction fun hv => h2 ⟨hk, hv⟩
  · rw [← Bool.not_eq_false]; exact fun hv => h3 ⟨hk, hv⟩
  · exact List.eq_nil_of_length_eq_zero (by have : ¬ o.rs.length > 0 := fun hr => h5 ⟨hk, hr⟩; omega)
theorem vFit_of {v : Vl} (h : vOk v = true) (hl : v.2.2.length ≤ 20000000) : vFit v := by
  rcases vOk_cases h with ⟨h1, _, h3, h4⟩ | ⟨h1, h3, _⟩ | ⟨h1, _, h3, h4⟩
  all_goals exact ⟨⟨by omega, by omega⟩, by omega, by omega, hl⟩
theorem vFit_z : vFit z0 := ⟨⟨by simp [z0], by simp [z0]⟩, by simp [z0], by simp [z0], by simp [z0]⟩
theorem fit_of_check {o : Ov} (ho : oOk o) (h : oCheck o = 0) : oFit o := by
  obtain ⟨h1, h2, h3, h4, h5, h6, h7, h8, h9⟩ := check_zero h
  have hv : vFit o.v := by
    by_cases hk : o.k = 3 ∨ o.k = 5
    · rw [h3 hk]; exact vFit_z
    · exact vFit_of (h4 (by omega)) ho.2.1
  refine ⟨ho, ⟨by omega, by omega⟩, hv, ?_, ?_, fun r hr => ?_⟩
  · by_cases hk : o.k = 3
    · have := h6 hk; omega
    · have := h5 hk; omega
  · by_cases hk : o.k = 3
    · have := h6 hk; omega
    · have := h5 hk; omega
  · obtain ⟨k1, k2, k3⟩ := rOk_iff.1 (refs_all h9 r hr)
    have := dotOk_iff.1 k1
    exact ⟨⟨⟨by omega, by omega⟩, ⟨by omega, by omega⟩⟩, ⟨by omega, by omega⟩⟩
theorem gone_eq {o : Ov} (h : oGone o = true) : o = zop := of_decide_eq_true h
theorem oOk_z : oOk zop := ⟨⟨by simp [zop], by simp [zop]⟩, by simp [zop, z0], by simp [zop]⟩
theorem fit_z : oFit zop := ⟨oOk_z, ⟨by simp [zop], by simp [zop]⟩, vFit_z, by simp [zop], by simp [zop], by simp [zop]⟩
theorem fit_of {o : Ov} (ho : oOk o) (h : oCheck o = 0 ∨ oGone o = true) : oFit o ∧ (oGone o = true ∨ (1 ≤ o.k ∧ o.k ≤ 5)) := by
  rcases h with h | h
  · exact ⟨fit_of_check ho h, .inr (check_zero h).1⟩
  · exact ⟨by rw [gone_eq h]; exact fit_z, .inl h⟩
end Go.AR

/-! Operations: the laws. -/
namespace Go.AR
open Go
section
variable {C : CallRel} {F : Nat → FuncId}
theorem short_oOk {o : Ov} (h : oShort o = true) : oOk o ∧ o.p.length ≤ 12 := by
  unfold oShort at h
  simp only [Bool.and_eq_true, decide_eq_true_eq] at h
  refine ⟨⟨short_ok h.1.1, by omega, by omega⟩, ?_⟩
  have := h.1.1
  unfold pShort at this
  simp only [Bool.and_eq_true, decide_eq_true_eq] at this
  exact this.1
theorem right_a : rightB [97] = true := (right_iff _).2 ⟨1, .cons (by decide) (by decide) .nil, by omega, by omega⟩
theorem oCode_len {o : Ov} (hs : oShort o = true) (hg : oCheck o = 0 ∨ oGone o = true) : (oCode o).length ≤ 20000000 := by
  obtain ⟨hok, hpl⟩ := short_oOk hs
  have hf := (fit_of hok hg).1
  obtain ⟨_, h1, h2, h3, h4, h5⟩ := hf
  have l1 := pInt_len h1
  have l3 := pInt_len (fold_ok h3 h4)
  have l5 := pInt_len (n := o.rs.length) (i64ok_nat (by have := hok.2.2; omega))
  have l6 := rsFlat_len o.rs h5
  unfold oShort at hs
  simp only [Bool.and_eq_true, decide_eq_true_eq] at hs
  obtain ⟨⟨s1, s2⟩, s3⟩ := hs
  have hp : (pCode o.p).length ≤ 10000 := by
    unfold pShort at s1
    simp only [Bool.and_eq_true, decide_eq_true_eq, List.all_eq_true] at s1
    have key : ∀ (p : List (List UInt8)), (∀ s ∈ p, s.length ≤ 120) → ((p.map pText).flatten).length ≤ p.length * 131 := by
      intro p
      induction p with
      | nil => simp
      | cons a p ih =>
        intro h
        have h2 := h a (by simp)
        have h3 : (vint a.length).length ≤ 11 := vint_len 10 _ (by omega)
        have ih := ih (fun s hs => h s (by simp [hs]))
        rw [List.map_cons, List.flatten_cons, List.length_append, pText, List.length_append, List.length_cons]
        omega
    have k1 := key o.p s1.2
    have k2 := pInt_len (n := o.p.length) (i64ok_nat (by omega))
    rw [pCode, List.length_append]; omega
  have hv : (vCode o.v).length ≤ 1000 := by
    have k1 := pInt_len h2.1
    have k2 := pInt_len (fold_ok h2.2.1 h2.2.2.1)
    have k3 : (vint o.v.2.2.length).length ≤ 11 := vint_len 10 _ (by omega)
    have k4 := pInt_len (n := 2) ⟨by omega, by omega⟩
    unfold vCode pText
    split <;> simp only [List.length_append] <;> omega
  have hrs : (rsCode o.rs).length ≤ 20000 := by
    rw [rsCode, List.length_append]; omega
  unfold oCode
  rw [List.length_append]
  split
  · simp; omega
  · rw [List.length_append]
    split
    · omega
    · rw [List.length_append]
      split <;> split <;> simp <;> omega
end
end Go.AR

/-! Transactions, by definition. -/
namespace Go.AR
open Go
structure Tx where
  d : Dt
  u : Int
  t : Int
  un : Bool
  ops : List Ov
deriving DecidableEq
def zt : Tx := ⟨(0, 0), 0, 0, false, []⟩
/-- What is wrong with the first that may not be. -/
def opsCheck (un : Bool) : List Ov → Int
  | [] => 0
  | o :: l => if oCheck o ≠ 0 ∧ (un && oGone o) = false then oCheck o else opsCheck un l
def tCheck (x : Tx) : Int :=
  if dotOk x.d = false ∨ x.u < 0 ∨ x.u > 7 ∨ x.t < 1 ∨ x.t > 1099511627776 then 2
  else if x.ops.length = 0 then 11 else if x.ops.length > 16 then 7 else opsCheck x.un x.ops
def tShort (x : Tx) : Bool := decide (x.ops.length ≤ 20) && x.ops.all oShort
def tcmpT (a b : Tx) : Int := if icmp a.t b.t ≠ 0 then icmp a.t b.t else dcmp a.d b.d
def unI (b : Bool) : Int := if b = true then 1 else 0
def osCode (l : List Ov) : List UInt8 := pInt l.length ++ (l.map oCode).flatten
def tCode (x : Tx) : List UInt8 := (((dCode x.d ++ pInt x.u) ++ pInt x.t) ++ pInt (unI x.un)) ++ osCode x.ops
theorem opsCheck_split (un : Bool) : ∀ (l : List Ov) (k : Nat), (∀ j, j < k → ∀ h : j < l.length, oCheck l[j] = 0 ∨ (un && oGone l[j]) = true) → opsCheck un l = opsCheck un (l.drop k)
  | l, 0, _ => rfl
  | [], k + 1, _ => rfl
  | o :: l, k + 1, h => by
    have h0 := h 0 (by omega) (by simp)
    simp only [List.getElem_cons_zero] at h0
    have ih := opsCheck_split un l k (fun j hj hl => by have := h (j + 1) (by omega) (by simp; omega); rwa [List.getElem_cons_succ] at this)
    rw [opsCheck, List.drop_succ_cons, ← ih, if_neg]
    rintro ⟨h1, h2⟩
    rcases h0 with h0 | h0
    · exact h1 h0
    · rw [h0] at h2; cases h2
theorem opsCheck_zero {un : Bool} : ∀ {l : List Ov}, opsCheck un l = 0 → ∀ o ∈ l, oCheck o = 0 ∨ (un = true ∧ oGone o = true)
  | [], _, o, h => by cases h
  | o :: l, h, x, hx => by
    rw [opsCheck] at h
    by_cases c : oCheck o ≠ 0 ∧ (un && oGone o) = false
    · rw [if_pos c] at h; exact absurd h c.1
    · rw [if_neg c] at h
      rcases List.mem_cons.1 hx with rfl | hx
      · by_cases e : oCheck x = 0
        · exact .inl e
        · have : (un && oGone x) = true := by rw [← Bool.not_eq_false]; exact fun e2 => c ⟨e, e2⟩
          rw [Bool.and_eq_true] at this
          exact .inr this
      · exact opsCheck_zero h x hx
end Go.AR
