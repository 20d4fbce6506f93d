import Derived.Test.YtkankogmljifiaaDoorG37
set_option linter.all false
/-! Transactions: sameness, bytes, places. -/
namespace Go.AR
open Go
section
variable {C : CallRel} {F : Nat → FuncId}
theorem g_pref12_Same (h1 : S_oSame (C (F n_pref11_Same))) : S_tSame ((c_pref12_Same F).gives C) := by
  intro a b ha
  refine gives_of rfl ?_
  unfold c_pref12_Same
  simp only [walk, Nat.reduceLT, Nat.reduceBEq, Nat.reduceAdd, Nat.reduceLeDiff, reduceIte, Int.reduceLT, Int.reduceLE, Int.reduceEq, Int.reduceToNat, Int.reduceBEq, ieq, ine, ne_eq, decide_not, eq_d, beq_dec, oRows_len]
  by_cases d1 : a.d = b.d
  · by_cases d2 : a.u = b.u
    · by_cases d3 : a.t = b.t
      · by_cases d4 : a.un = b.un
        · by_cases d5 : a.ops.length = b.ops.length
          · have d5' : (a.ops.length : Int) = b.ops.length := by omega
            obtain ⟨ad, au, at', aun, os⟩ := a
            obtain ⟨hl, hok⟩ := ha
            simp only at d1 d2 d3 d4 d5 d5' hl hok
            subst d1 d2 d3 d4
            simp only [walk, Nat.reduceLT, Nat.reduceBEq, Nat.reduceAdd, Nat.reduceLeDiff, reduceIte, Int.reduceLT, Int.reduceLE, Int.reduceEq, Int.reduceToNat, Int.reduceBEq, ieq, ine, ne_eq, decide_not, oRows_len, d5', eq_d, beq_dec]
            refine awp_loop_ind (X := Nat) (fun k => ⟨[(0, .val (tP ⟨b.d, b.u, b.t, b.un, os⟩)), (1, .val (tP b)), (2, .lp 2 0), (3, .lp 3 0), (4, .val (.bool false)), (5, .val (.int .i64 k)), (40, .val (.bool false))], [(2, tB ⟨b.d, b.u, b.t, b.un, os⟩), (3, tB b)]⟩)
              (fun k => k ≤ os.length ∧ os.take k = b.ops.take k) (fun k => os.length - k) 0 ⟨by omega, by simp⟩ rfl ?_
            rintro R k ⟨hk, hJ⟩ ih
            simp only [walk, Nat.reduceLT, Nat.reduceBEq, Nat.reduceAdd, Nat.reduceLeDiff, reduceIte, Int.reduceLT, Int.reduceLE, Int.reduceEq, Int.reduceToNat, Int.reduceBEq, oRows_len]
            by_cases c : k < os.length
            · have c1 : (k : Int) < b.ops.length := by omega
              have cb : k < b.ops.length := by omega
              have c0 : (0 : Int) ≤ k := by omega
              have e1 : IntKind.i64.wrap ((k : Int) + 1) = ((k + 1 : Nat) : Int) := wrap64 (by omega) (by omega)
              simp only [walk, Nat.reduceLT, Nat.reduceBEq, Nat.reduceAdd, Nat.reduceLeDiff, reduceIte, Int.reduceLT, Int.reduceLE, Int.reduceEq, Int.reduceToNat, Int.reduceBEq, c1, d5', oRows_get c, oRows_get cb, oRows_len]
              refine callWp_of (h1 os[k] b.ops[k] (hok _ (List.getElem_mem c))) ?_
              by_cases he : os[k] = b.ops[k]
              · simp only [walk, Nat.reduceLT, Nat.reduceBEq, Nat.reduceAdd, Nat.reduceLeDiff, reduceIte, Int.reduceLT, Int.reduceLE, Int.reduceEq, Int.reduceToNat, Int.reduceBEq, he, e1]
                refine ih (k + 1) ⟨by omega, ?_⟩ (by omega)
                rw [List.take_add_one, List.take_add_one, hJ, List.getElem?_eq_getElem c, List.getElem?_eq_getElem cb, he]
              · have hf : decide ((⟨b.d, b.u, b.t, b.un, os⟩ : Tx) = b) = false := by
                  apply tsame_no
                  rintro ⟨_, _, _, _, h⟩
                  simp only at h
                  exact he (by simp only [h])
                simp only [walk, Nat.reduceLT, Nat.reduceBEq, Nat.reduceAdd, Nat.reduceLeDiff, reduceIte, Int.reduceLT, Int.reduceLE, Int.reduceEq, Int.reduceToNat, Int.reduceBEq, he, hf]
            · have c1 : ¬ (k : Int) < b.ops.length := by omega
              rw [List.take_of_length_le (by omega), List.take_of_length_le (by omega)] at hJ
              have hf : decide ((⟨b.d, b.u, b.t, b.un, os⟩ : Tx) = b) = true := tsame_yes ⟨rfl, rfl, rfl, rfl, hJ⟩
              simp only [walk, Nat.reduceLT, Nat.reduceBEq, Nat.reduceAdd, Nat.reduceLeDiff, reduceIte, Int.reduceLT, Int.reduceLE, Int.reduceEq, Int.reduceToNat, Int.reduceBEq, c1, d5', hf]
          · have d5' : ¬ (a.ops.length : Int) = b.ops.length := by omega
            simp only [walk, Nat.reduceLT, Nat.reduceBEq, Nat.reduceAdd, Nat.reduceLeDiff, reduceIte, Int.reduceLT, Int.reduceLE, Int.reduceEq, Int.reduceToNat, Int.reduceBEq, ieq, ine, ne_eq, decide_not, oRows_len, d1, d2, d3, d4, d5', eq_d, beq_dec, tsame_no (a := a) (b := b) (by rintro ⟨_, _, _, _, h⟩; exact d5 (by rw [h]))]
        · simp only [walk, Nat.reduceLT, Nat.reduceBEq, Nat.reduceAdd, Nat.reduceLeDiff, reduceIte, Int.reduceLT, Int.reduceLE, Int.reduceEq, Int.reduceToNat, Int.reduceBEq, ieq, ine, ne_eq, decide_not, d1, d2, d3, d4, eq_d, beq_dec, tsame_no (a := a) (b := b) (by simp [d4])]
      · simp only [walk, Nat.reduceLT, Nat.reduceBEq, Nat.reduceAdd, Nat.reduceLeDiff, reduceIte, Int.reduceLT, Int.reduceLE, Int.reduceEq, Int.reduceToNat, Int.reduceBEq, ieq, ine, ne_eq, decide_not, d1, d2, d3, eq_d, tsame_no (a := a) (b := b) (by simp [d3])]
    · simp only [walk, Nat.reduceLT, Nat.reduceBEq, Nat.reduceAdd, Nat.reduceLeDiff, reduceIte, Int.reduceLT, Int.reduceLE, Int.reduceEq, Int.reduceToNat, Int.reduceBEq, ieq, ine, ne_eq, decide_not, d1, d2, eq_d, tsame_no (a := a) (b := b) (by simp [d2])]
  · simp only [walk, Nat.reduceLT, Nat.reduceBEq, Nat.reduceAdd, Nat.reduceLeDiff, reduceIte, Int.reduceLT, Int.reduceLE, Int.reduceEq, Int.reduceToNat, Int.reduceBEq, ieq, ine, ne_eq, decide_not, eq_d, d1, tsame_no (a := a) (b := b) (by simp [d1])]
/-- Transactions of which the bytes fit. -/
def tFit (x : Tx) : Prop := x.ops.length ≤ 2000000 ∧ dFit x.d ∧ i64ok x.u ∧ i64ok x.t ∧ ∀ o ∈ x.ops, oFit o ∧ (oGone o = true ∨ (1 ≤ o.k ∧ o.k ≤ 5)) ∧ (oCode o).length ≤ 20000000
def S_tCode (R : Rel) : Prop := ∀ x : Tx, tFit x → R [.v (tP x)] (.val (.str (tCode x))) []
theorem osFlat_len : ∀ (l : List Ov), (∀ o ∈ l, (oCode o).length ≤ 20000000) → ((l.map oCode).flatten).length ≤ l.length * 20000000
  | [], _ => by simp
  | r :: l, h => by
    have h1 := h r (by simp)
    have h2 := osFlat_len l (fun t ht => h t (by simp [ht]))
    rw [List.map_cons, List.flatten_cons, List.length_append, List.length_cons]; omega
theorem os_take (l : List Ov) (k : Nat) (h : k < l.length) (A : List UInt8) : (A ++ ((l.take k).map oCode).flatten) ++ oCode l[k] = A ++ ((l.take (k + 1)).map oCode).flatten := by
  rw [List.take_add_one, List.getElem?_eq_getElem h, Option.toList_some, List.map_append, List.flatten_append, List.append_assoc]
  simp only [List.map_cons, List.map_nil, List.flatten_cons, List.flatten_nil, List.append_nil]
theorem dCode_len {d : Dt} (h : dFit d) : (dCode d).length ≤ 22 := by
  have h1 := pInt_len h.1
  have h2 := pInt_len h.2
  rw [dCode, List.length_append]; omega
theorem unI_ok (b : Bool) : i64ok (unI b) := by cases b <;> exact ⟨by decide, by decide⟩
theorem g_txn_Code (hD : S_dCode (C (F n_dot_Code))) (hI : S_i2s (C (F n_pack_Int))) (hO : S_oCode (C (F n_op_Code))) : S_tCode ((c_txn_Code F).gives C) := by
  intro x hx
  obtain ⟨d, u, t, un, ops⟩ := x
  refine gives_of rfl ?_
  unfold c_txn_Code tCode osCode
  obtain ⟨hl, h1, h2, h3, h4⟩ := hx
  simp only at hl h1 h2 h3 h4 ⊢
  have l1 := dCode_len h1
  have l2 := pInt_len h2
  have l3 := pInt_len h3
  have l4 := pInt_len (unI_ok un)
  have l5 := pInt_len (n := ops.length) (i64ok_nat (by omega))
  have hn := i64ok_nat (n := ops.length) (by omega)
  have hu := unI_ok un
  cases un
  · simp only [unI, Bool.false_eq_true, if_false] at l4 hu
    simp only [walk, Nat.reduceLT, Nat.reduceBEq, Nat.reduceAdd, Nat.reduceLeDiff, reduceIte, Int.reduceLT, Int.reduceLE, Int.reduceEq, Int.reduceToNat, Int.reduceBEq, unI, Bool.false_eq_true]
    refine callWp_of (hD d h1) ?_
    simp only [walk, Nat.reduceLT, Nat.reduceBEq, Nat.reduceAdd, Nat.reduceLeDiff, reduceIte, Int.reduceLT, Int.reduceLE, Int.reduceEq, Int.reduceToNat, Int.reduceBEq]
    refine callWp_of (hI u h2) ?_
    simp only [walk, Nat.reduceLT, Nat.reduceBEq, Nat.reduceAdd, Nat.reduceLeDiff, reduceIte, Int.reduceLT, Int.reduceLE, Int.reduceEq, Int.reduceToNat, Int.reduceBEq]
    rw [bins_add (by omega)]
    simp only [walk, Nat.reduceLT, Nat.reduceBEq, Nat.reduceAdd, Nat.reduceLeDiff, reduceIte, Int.reduceLT, Int.reduceLE, Int.reduceEq, Int.reduceToNat, Int.reduceBEq]
    refine callWp_of (hI t h3) ?_
    simp only [walk, Nat.reduceLT, Nat.reduceBEq, Nat.reduceAdd, Nat.reduceLeDiff, reduceIte, Int.reduceLT, Int.reduceLE, Int.reduceEq, Int.reduceToNat, Int.reduceBEq]
    rw [bins_add (by simp only [List.length_append]; omega)]
    simp only [walk, Nat.reduceLT, Nat.reduceBEq, Nat.reduceAdd, Nat.reduceLeDiff, reduceIte, Int.reduceLT, Int.reduceLE, Int.reduceEq, Int.reduceToNat, Int.reduceBEq]
    refine callWp_of (hI _ hu) ?_
    simp only [walk, Nat.reduceLT, Nat.reduceBEq, Nat.reduceAdd, Nat.reduceLeDiff, reduceIte, Int.reduceLT, Int.reduceLE, Int.reduceEq, Int.reduceToNat, Int.reduceBEq]
    rw [bins_add (by simp only [List.length_append]; omega)]
    simp only [walk, Nat.reduceLT, Nat.reduceBEq, Nat.reduceAdd, Nat.reduceLeDiff, reduceIte, Int.reduceLT, Int.reduceLE, Int.reduceEq, Int.reduceToNat, Int.reduceBEq, oRows_len]
    refine callWp_of (hI ops.length hn) ?_
    simp only [walk, Nat.reduceLT, Nat.reduceBEq, Nat.reduceAdd, Nat.reduceLeDiff, reduceIte, Int.reduceLT, Int.reduceLE, Int.reduceEq, Int.reduceToNat, Int.reduceBEq]
    rw [bins_add (by simp only [List.length_append]; omega)]
    simp only [walk, Nat.reduceLT, Nat.reduceBEq, Nat.reduceAdd, Nat.reduceLeDiff, reduceIte, Int.reduceLT, Int.reduceLE, Int.reduceEq, Int.reduceToNat, Int.reduceBEq, oRows_len]
    refine awp_loop_ind (X := Nat) (fun j => ⟨[(0, .val (tP ⟨d, u, t, false, ops⟩)), (1, .lp 1 0), (2, .val (.str [])), (3, .val (.int .i64 0)), (4, .val (.str ((dCode d ++ pInt u ++ pInt t ++ pInt 0 ++ pInt ops.length) ++ ((ops.take j).map oCode).flatten))), (8, .val (.bool false)), (29, .val (osP ops)), (30, .val (.int .i64 ops.length)), (31, .val (.int .i64 j))], [(1, tB ⟨d, u, t, false, ops⟩)]⟩)
      (fun j => j ≤ ops.length) (fun j => ops.length - j) 0 (by omega) (by simp) ?_
    rintro R j hj ih
    simp only [walk, Nat.reduceLT, Nat.reduceBEq, Nat.reduceAdd, Nat.reduceLeDiff, reduceIte, Int.reduceLT, Int.reduceLE, Int.reduceEq, Int.reduceToNat, Int.reduceBEq]
    by_cases c : j < ops.length
    · have c1 : (j : Int) < ops.length := by omega
      have c0 : (0 : Int) ≤ j := by omega
      have e1 : IntKind.i64.wrap ((j : Int) + 1) = ((j + 1 : Nat) : Int) := wrap64 (by omega) (by omega)
      have step := ih (j + 1) (by omega) (by omega)
      rw [← os_take ops j c] at step
      have ho := h4 _ (List.getElem_mem c)
      have hpre := osFlat_len (ops.take j) (fun r hr => (h4 r (List.mem_of_mem_take hr)).2.2)
      rw [List.length_take, Nat.min_eq_left (by omega)] at hpre
      simp only [walk, Nat.reduceLT, Nat.reduceBEq, Nat.reduceAdd, Nat.reduceLeDiff, reduceIte, Int.reduceLT, Int.reduceLE, Int.reduceEq, Int.reduceToNat, Int.reduceBEq, c1, oRows_get c]
      refine callWp_of (hO _ ho.1 ho.2.1) ?_
      have ho3 := ho.2.2
      have hpre2 : (((ops.take j).map oCode).flatten).length ≤ 2000000 * 20000000 := Nat.le_trans hpre (Nat.mul_le_mul (by omega) (Nat.le_refl _))
      clear hpre
      simp only [walk, Nat.reduceLT, Nat.reduceBEq, Nat.reduceAdd, Nat.reduceLeDiff, reduceIte, Int.reduceLT, Int.reduceLE, Int.reduceEq, Int.reduceToNat, Int.reduceBEq]
      rw [bins_add (by simp only [List.length_append]; omega)]
      simp only [walk, Nat.reduceLT, Nat.reduceBEq, Nat.reduceAdd, Nat.reduceLeDiff, reduceIte, Int.reduceLT, Int.reduceLE, Int.reduceEq, Int.reduceToNat, Int.reduceBEq, e1]
      exact step
    · have c1 : ¬ (j : Int) < ops.length := by omega
      rw [List.take_of_length_le (by omega)]
      simp only [walk, Nat.reduceLT, Nat.reduceBEq, Nat.reduceAdd, Nat.reduceLeDiff, reduceIte, Int.reduceLT, Int.reduceLE, Int.reduceEq, Int.reduceToNat, Int.reduceBEq, c1, List.append_assoc]
  · simp only [unI, if_true] at l4 hu
    simp only [walk, Nat.reduceLT, Nat.reduceBEq, Nat.reduceAdd, Nat.reduceLeDiff, reduceIte, Int.reduceLT, Int.reduceLE, Int.reduceEq, Int.reduceToNat, Int.reduceBEq, unI, Bool.false_eq_true]
    refine callWp_of (hD d h1) ?_
    simp only [walk, Nat.reduceLT, Nat.reduceBEq, Nat.reduceAdd, Nat.reduceLeDiff, reduceIte, Int.reduceLT, Int.reduceLE, Int.reduceEq, Int.reduceToNat, Int.reduceBEq]
    refine callWp_of (hI u h2) ?_
    simp only [walk, Nat.reduceLT, Nat.reduceBEq, Nat.reduceAdd, Nat.reduceLeDiff, reduceIte, Int.reduceLT, Int.reduceLE, Int.reduceEq, Int.reduceToNat, Int.reduceBEq]
    rw [bins_add (by omega)]
    simp only [walk, Nat.reduceLT, Nat.reduceBEq, Nat.reduceAdd, Nat.reduceLeDiff, reduceIte, Int.reduceLT, Int.reduceLE, Int.reduceEq, Int.reduceToNat, Int.reduceBEq]
    refine callWp_of (hI t h3) ?_
    simp only [walk, Nat.reduceLT, Nat.reduceBEq, Nat.reduceAdd, Nat.reduceLeDiff, reduceIte, Int.reduceLT, Int.reduceLE, Int.reduceEq, Int.reduceToNat, Int.reduceBEq]
    rw [bins_add (by simp only [List.length_append]; omega)]
    simp only [walk, Nat.reduceLT, Nat.reduceBEq, Nat.reduceAdd, Nat.reduceLeDiff, reduceIte, Int.reduceLT, Int.reduceLE, Int.reduceEq, Int.reduceToNat, Int.reduceBEq]
    refine callWp_of (hI _ hu) ?_
    simp only [walk, Nat.reduceLT, Nat.reduceBEq, Nat.reduceAdd, Nat.reduceLeDiff, reduceIte, Int.reduceLT, Int.reduceLE, Int.reduceEq, Int.reduceToNat, Int.reduceBEq]
    rw [bins_add (by simp only [List.length_append]; omega)]
    simp only [walk, Nat.reduceLT, Nat.reduceBEq, Nat.reduceAdd, Nat.reduceLeDiff, reduceIte, Int.reduceLT, Int.reduceLE, Int.reduceEq, Int.reduceToNat, Int.reduceBEq, oRows_len]
    refine callWp_of (hI ops.length hn) ?_
    simp only [walk, Nat.reduceLT, Nat.reduceBEq, Nat.reduceAdd, Nat.reduceLeDiff, reduceIte, Int.reduceLT, Int.reduceLE, Int.reduceEq, Int.reduceToNat, Int.reduceBEq]
    rw [bins_add (by simp only [List.length_append]; omega)]
    simp only [walk, Nat.reduceLT, Nat.reduceBEq, Nat.reduceAdd, Nat.reduceLeDiff, reduceIte, Int.reduceLT, Int.reduceLE, Int.reduceEq, Int.reduceToNat, Int.reduceBEq, oRows_len]
    refine awp_loop_ind (X := Nat) (fun j => ⟨[(0, .val (tP ⟨d, u, t, true, ops⟩)), (1, .lp 1 0), (2, .val (.str [])), (3, .val (.int .i64 1)), (4, .val (.str ((dCode d ++ pInt u ++ pInt t ++ pInt 1 ++ pInt ops.length) ++ ((ops.take j).map oCode).flatten))), (8, .val (.bool true)), (29, .val (osP ops)), (30, .val (.int .i64 ops.length)), (31, .val (.int .i64 j))], [(1, tB ⟨d, u, t, true, ops⟩)]⟩)
      (fun j => j ≤ ops.length) (fun j => ops.length - j) 0 (by omega) (by simp) ?_
    rintro R j hj ih
    simp only [walk, Nat.reduceLT, Nat.reduceBEq, Nat.reduceAdd, Nat.reduceLeDiff, reduceIte, Int.reduceLT, Int.reduceLE, Int.reduceEq, Int.reduceToNat, Int.reduceBEq]
    by_cases c : j < ops.length
    · have c1 : (j : Int) < ops.length := by omega
      have c0 : (0 : Int) ≤ j := by omega
      have e1 : IntKind.i64.wrap ((j : Int) + 1) = ((j + 1 : Nat) : Int) := wrap64 (by omega) (by omega)
      have step := ih (j + 1) (by omega) (by omega)
      rw [← os_take ops j c] at step
      have ho := h4 _ (List.getElem_mem c)
      have hpre := osFlat_len (ops.take j) (fun r hr => (h4 r (List.mem_of_mem_take hr)).2.2)
      rw [List.length_take, Nat.min_eq_left (by omega)] at hpre
      simp only [walk, Nat.reduceLT, Nat.reduceBEq, Nat.reduceAdd, Nat.reduceLeDiff, reduceIte, Int.reduceLT, Int.reduceLE, Int.reduceEq, Int.reduceToNat, Int.reduceBEq, c1, oRows_get c]
      refine callWp_of (hO _ ho.1 ho.2.1) ?_
      have ho3 := ho.2.2
      have hpre2 : (((ops.take j).map oCode).flatten).length ≤ 2000000 * 20000000 := Nat.le_trans hpre (Nat.mul_le_mul (by omega) (Nat.le_refl _))
      clear hpre
      simp only [walk, Nat.reduceLT, Nat.reduceBEq, Nat.reduceAdd, Nat.reduceLeDiff, reduceIte, Int.reduceLT, Int.reduceLE, Int.reduceEq, Int.reduceToNat, Int.reduceBEq]
      rw [bins_add (by simp only [List.length_append]; omega)]
      simp only [walk, Nat.reduceLT, Nat.reduceBEq, Nat.reduceAdd, Nat.reduceLeDiff, reduceIte, Int.reduceLT, Int.reduceLE, Int.reduceEq, Int.reduceToNat, Int.reduceBEq, e1]
      exact step
    · have c1 : ¬ (j : Int) < ops.length := by omega
      rw [List.take_of_length_le (by omega)]
      simp only [walk, Nat.reduceLT, Nat.reduceBEq, Nat.reduceAdd, Nat.reduceLeDiff, reduceIte, Int.reduceLT, Int.reduceLE, Int.reduceEq, Int.reduceToNat, Int.reduceBEq, c1, List.append_assoc]
theorem g_pref12_Code (hD : S_dCode (C (F n_pref04_Code))) (hI : S_i2s (C (F n_pref02_Int))) (hO : S_oCode (C (F n_pref11_Code))) : S_tCode ((c_pref12_Code F).gives C) := by
  intro x hx
  obtain ⟨d, u, t, un, ops⟩ := x
  refine gives_of rfl ?_
  unfold c_pref12_Code tCode osCode
  obtain ⟨hl, h1, h2, h3, h4⟩ := hx
  simp only at hl h1 h2 h3 h4 ⊢
  have l1 := dCode_len h1
  have l2 := pInt_len h2
  have l3 := pInt_len h3
  have l4 := pInt_len (unI_ok un)
  have l5 := pInt_len (n := ops.length) (i64ok_nat (by omega))
  have hn := i64ok_nat (n := ops.length) (by omega)
  have hu := unI_ok un
  cases un
  · simp only [unI, Bool.false_eq_true, if_false] at l4 hu
    simp only [walk, Nat.reduceLT, Nat.reduceBEq, Nat.reduceAdd, Nat.reduceLeDiff, reduceIte, Int.reduceLT, Int.reduceLE, Int.reduceEq, Int.reduceToNat, Int.reduceBEq, unI, Bool.false_eq_true]
    refine callWp_of (hD d h1) ?_
    simp only [walk, Nat.reduceLT, Nat.reduceBEq, Nat.reduceAdd, Nat.reduceLeDiff, reduceIte, Int.reduceLT, Int.reduceLE, Int.reduceEq, Int.reduceToNat, Int.reduceBEq]
    refine callWp_of (hI u h2) ?_
    simp only [walk, Nat.reduceLT, Nat.reduceBEq, Nat.reduceAdd, Nat.reduceLeDiff, reduceIte, Int.reduceLT, Int.reduceLE, Int.reduceEq, Int.reduceToNat, Int.reduceBEq]
    rw [bins_add (by omega)]
    simp only [walk, Nat.reduceLT, Nat.reduceBEq, Nat.reduceAdd, Nat.reduceLeDiff, reduceIte, Int.reduceLT, Int.reduceLE, Int.reduceEq, Int.reduceToNat, Int.reduceBEq]
    refine callWp_of (hI t h3) ?_
    simp only [walk, Nat.reduceLT, Nat.reduceBEq, Nat.reduceAdd, Nat.reduceLeDiff, reduceIte, Int.reduceLT, Int.reduceLE, Int.reduceEq, Int.reduceToNat, Int.reduceBEq]
    rw [bins_add (by simp only [List.length_append]; omega)]
    simp only [walk, Nat.reduceLT, Nat.reduceBEq, Nat.reduceAdd, Nat.reduceLeDiff, reduceIte, Int.reduceLT, Int.reduceLE, Int.reduceEq, Int.reduceToNat, Int.reduceBEq]
    refine callWp_of (hI _ hu) ?_
    simp only [walk, Nat.reduceLT, Nat.reduceBEq, Nat.reduceAdd, Nat.reduceLeDiff, reduceIte, Int.reduceLT, Int.reduceLE, Int.reduceEq, Int.reduceToNat, Int.reduceBEq]
    rw [bins_add (by simp only [List.length_append]; omega)]
    simp only [walk, Nat.reduceLT, Nat.reduceBEq, Nat.reduceAdd, Nat.reduceLeDiff, reduceIte, Int.reduceLT, Int.reduceLE, Int.reduceEq, Int.reduceToNat, Int.reduceBEq, oRows_len]
    refine callWp_of (hI ops.length hn) ?_
    simp only [walk, Nat.reduceLT, Nat.reduceBEq, Nat.reduceAdd, Nat.reduceLeDiff, reduceIte, Int.reduceLT, Int.reduceLE, Int.reduceEq, Int.reduceToNat, Int.reduceBEq]
    rw [bins_add (by simp only [List.length_append]; omega)]
    simp only [walk, Nat.reduceLT, Nat.reduceBEq, Nat.reduceAdd, Nat.reduceLeDiff, reduceIte, Int.reduceLT, Int.reduceLE, Int.reduceEq, Int.reduceToNat, Int.reduceBEq, oRows_len]
    refine awp_loop_ind (X := Nat) (fun j => ⟨[(0, .val (tP ⟨d, u, t, false, ops⟩)), (1, .lp 1 0), (2, .val (.str [])), (3, .val (.str ((dCode d ++ pInt u ++ pInt t ++ pInt 0 ++ pInt ops.length) ++ ((ops.take j).map oCode).flatten))), (4, .val (.int .i64 j)), (17, .val (.bool false))], [(1, tB ⟨d, u, t, false, ops⟩)]⟩)
      (fun j => j ≤ ops.length) (fun j => ops.length - j) 0 (by omega) (by simp) ?_
    rintro R j hj ih
    simp only [walk, Nat.reduceLT, Nat.reduceBEq, Nat.reduceAdd, Nat.reduceLeDiff, reduceIte, Int.reduceLT, Int.reduceLE, Int.reduceEq, Int.reduceToNat, Int.reduceBEq, oRows_len]
    by_cases c : j < ops.length
    · have c1 : (j : Int) < ops.length := by omega
      have c0 : (0 : Int) ≤ j := by omega
      have e1 : IntKind.i64.wrap ((j : Int) + 1) = ((j + 1 : Nat) : Int) := wrap64 (by omega) (by omega)
      have step := ih (j + 1) (by omega) (by omega)
      rw [← os_take ops j c] at step
      have ho := h4 _ (List.getElem_mem c)
      have hpre := osFlat_len (ops.take j) (fun r hr => (h4 r (List.mem_of_mem_take hr)).2.2)
      rw [List.length_take, Nat.min_eq_left (by omega)] at hpre
      simp only [walk, Nat.reduceLT, Nat.reduceBEq, Nat.reduceAdd, Nat.reduceLeDiff, reduceIte, Int.reduceLT, Int.reduceLE, Int.reduceEq, Int.reduceToNat, Int.reduceBEq, c1, oRows_get c, oRows_len]
      refine callWp_of (hO _ ho.1 ho.2.1) ?_
      have ho3 := ho.2.2
      have hpre2 : (((ops.take j).map oCode).flatten).length ≤ 2000000 * 20000000 := Nat.le_trans hpre (Nat.mul_le_mul (by omega) (Nat.le_refl _))
      clear hpre
      simp only [walk, Nat.reduceLT, Nat.reduceBEq, Nat.reduceAdd, Nat.reduceLeDiff, reduceIte, Int.reduceLT, Int.reduceLE, Int.reduceEq, Int.reduceToNat, Int.reduceBEq]
      rw [bins_add (by simp only [List.length_append]; omega)]
      simp only [walk, Nat.reduceLT, Nat.reduceBEq, Nat.reduceAdd, Nat.reduceLeDiff, reduceIte, Int.reduceLT, Int.reduceLE, Int.reduceEq, Int.reduceToNat, Int.reduceBEq, e1]
      exact step
    · have c1 : ¬ (j : Int) < ops.length := by omega
      rw [List.take_of_length_le (by omega)]
      simp only [walk, Nat.reduceLT, Nat.reduceBEq, Nat.reduceAdd, Nat.reduceLeDiff, reduceIte, Int.reduceLT, Int.reduceLE, Int.reduceEq, Int.reduceToNat, Int.reduceBEq, c1, List.append_assoc]
  · simp only [unI, if_true] at l4 hu
    simp only [walk, Nat.reduceLT, Nat.reduceBEq, Nat.reduceAdd, Nat.reduceLeDiff, reduceIte, Int.reduceLT, Int.reduceLE, Int.reduceEq, Int.reduceToNat, Int.reduceBEq, unI, Bool.false_eq_true]
    refine callWp_of (hD d h1) ?_
    simp only [walk, Nat.reduceLT, Nat.reduceBEq, Nat.reduceAdd, Nat.reduceLeDiff, reduceIte, Int.reduceLT, Int.reduceLE, Int.reduceEq, Int.reduceToNat, Int.reduceBEq]
    refine callWp_of (hI u h2) ?_
    simp only [walk, Nat.reduceLT, Nat.reduceBEq, Nat.reduceAdd, Nat.reduceLeDiff, reduceIte, Int.reduceLT, Int.reduceLE, Int.reduceEq, Int.reduceToNat, Int.reduceBEq]
    rw [bins_add (by omega)]
    simp only [walk, Nat.reduceLT, Nat.reduceBEq, Nat.reduceAdd, Nat.reduceLeDiff, reduceIte, Int.reduceLT, Int.reduceLE, Int.reduceEq, Int.reduceToNat, Int.reduceBEq]
    refine callWp_of (hI t h3) ?_
    simp only [walk, Nat.reduceLT, Nat.reduceBEq, Nat.reduceAdd, Nat.reduceLeDiff, reduceIte, Int.reduceLT, Int.reduceLE, Int.reduceEq, Int.reduceToNat, Int.reduceBEq]
    rw [bins_add (by simp only [List.length_append]; omega)]
    simp only [walk, Nat.reduceLT, Nat.reduceBEq, Nat.reduceAdd, Nat.reduceLeDiff, reduceIte, Int.reduceLT, Int.reduceLE, Int.reduceEq, Int.reduceToNat, Int.reduceBEq]
    refine callWp_of (hI _ hu) ?_
    simp only [walk, Nat.reduceLT, Nat.reduceBEq, Nat.reduceAdd, Nat.reduceLeDiff, reduceIte, Int.reduceLT, Int.reduceLE, Int.reduceEq, Int.reduceToNat, Int.reduceBEq]
    rw [bins_add (by simp only [List.length_append]; omega)]
    simp only [walk, Nat.reduceLT, Nat.reduceBEq, Nat.reduceAdd, Nat.reduceLeDiff, reduceIte, Int.reduceLT, Int.reduceLE, Int.reduceEq, Int.reduceToNat, Int.reduceBEq, oRows_len]
    refine callWp_of (hI ops.length hn) ?_
    simp only [walk, Nat.reduceLT, Nat.reduceBEq, Nat.reduceAdd, Nat.reduceLeDiff, reduceIte, Int.reduceLT, Int.reduceLE, Int.reduceEq, Int.reduceToNat, Int.reduceBEq]
    rw [bins_add (by simp only [List.length_append]; omega)]
    simp only [walk, Nat.reduceLT, Nat.reduceBEq, Nat.reduceAdd, Nat.reduceLeDiff, reduceIte, Int.reduceLT, Int.reduceLE, Int.reduceEq, Int.reduceToNat, Int.reduceBEq, oRows_len]
    refine awp_loop_ind (X := Nat) (fun j => ⟨[(0, .val (tP ⟨d, u, t, true, ops⟩)), (1, .lp 1 0), (2, .val (.str [])), (3, .val (.str ((dCode d ++ pInt u ++ pInt t ++ pInt 1 ++ pInt ops.length) ++ ((ops.take j).map oCode).flatten))), (4, .val (.int .i64 j)), (17, .val (.bool true))], [(1, tB ⟨d, u, t, true, ops⟩)]⟩)
      (fun j => j ≤ ops.length) (fun j => ops.length - j) 0 (by omega) (by simp) ?_
    rintro R j hj ih
    simp only [walk, Nat.reduceLT, Nat.reduceBEq, Nat.reduceAdd, Nat.reduceLeDiff, reduceIte, Int.reduceLT, Int.reduceLE, Int.reduceEq, Int.reduceToNat, Int.reduceBEq, oRows_len]
    by_cases c : j < ops.length
    · have c1 : (j : Int) < ops.length := by omega
      have c0 : (0 : Int) ≤ j := by omega
      have e1 : IntKind.i64.wrap ((j : Int) + 1) = ((j + 1 : Nat) : Int) := wrap64 (by omega) (by omega)
      have step := ih (j + 1) (by omega) (by omega)
      rw [← os_take ops j c] at step
      have ho := h4 _ (List.getElem_mem c)
      have hpre := osFlat_len (ops.take j) (fun r hr => (h4 r (List.mem_of_mem_take hr)).2.2)
      rw [List.length_take, Nat.min_eq_left (by omega)] at hpre
      simp only [walk, Nat.reduceLT, Nat.reduceBEq, Nat.reduceAdd, Nat.reduceLeDiff, reduceIte, Int.reduceLT, Int.reduceLE, Int.reduceEq, Int.reduceToNat, Int.reduceBEq, c1, oRows_get c, oRows_len]
      refine callWp_of (hO _ ho.1 ho.2.1) ?_
      have ho3 := ho.2.2
      have hpre2 : (((ops.take j).map oCode).flatten).length ≤ 2000000 * 20000000 := Nat.le_trans hpre (Nat.mul_le_mul (by omega) (Nat.le_refl _))
      clear hpre
      simp only [walk, Nat.reduceLT, Nat.reduceBEq, Nat.reduceAdd, Nat.reduceLeDiff, reduceIte, Int.reduceLT, Int.reduceLE, Int.reduceEq, Int.reduceToNat, Int.reduceBEq]
      rw [bins_add (by simp only [List.length_append]; omega)]
      simp only [walk, Nat.reduceLT, Nat.reduceBEq, Nat.reduceAdd, Nat.reduceLeDiff, reduceIte, Int.reduceLT, Int.reduceLE, Int.reduceEq, Int.reduceToNat, Int.reduceBEq, e1]
      exact step
    · have c1 : ¬ (j : Int) < ops.length := by omega
      rw [List.take_of_length_le (by omega)]
      simp only [walk, Nat.reduceLT, Nat.reduceBEq, Nat.reduceAdd, Nat.reduceLeDiff, reduceIte, Int.reduceLT, Int.reduceLE, Int.reduceEq, Int.reduceToNat, Int.reduceBEq, c1, List.append_assoc]
end
end Go.AR

/-! Transactions: places. -/
namespace Go.AR
open Go
section
variable {C : CallRel} {F : Nat → FuncId}
def tRows (l : List Tx) : List (List PV) := l.map tCells
theorem tRows_len (l : List Tx) : (tRows l).length = l.length := by simp [tRows]
theorem tRows_get {l : List Tx} {k : Nat} (h : k < l.length) : (tRows l)[k]? = some (tCells l[k]) := by simp [tRows, h]
theorem tRows_app (l : List Tx) (x : Tx) : tRows l ++ [tCells x] = tRows (l ++ [x]) := by simp [tRows]
abbrev tsP (l : List Tx) : PV := .sl 6 (tRows l)
def sortT (l : List Tx) : Prop := ∀ i j, i < j → j < l.length → dcmp (l.getD i zt).d (l.getD j zt).d < 0
def lowT (l : List Tx) (d : Dt) : Nat := (l.filter fun x => decide (dcmp x.d d < 0)).length
def hasT (l : List Tx) (d : Dt) : Bool := l.any fun x => decide (x.d = d)
theorem getT_at {l : List Tx} {k : Nat} (h : k < l.length) : l.getD k zt = l[k] := by simp [List.getD_eq_getElem?_getD, h]
theorem lowT_of : ∀ {l : List Tx} {d : Dt} {i : Nat}, i ≤ l.length → (∀ k, k < i → dcmp (l.getD k zt).d d < 0) → (∀ k, i ≤ k → k < l.length → ¬ dcmp (l.getD k zt).d d < 0) → lowT l d = i
  | [], d, i, h, _, _ => by simp at h; subst h; rfl
  | u :: l, d, 0, _, _, h2 => by
    have h0 := h2 0 (by omega) (by simp)
    simp only [List.getD_cons_zero] at h0
    have := lowT_of (l := l) (d := d) (i := 0) (by omega) (by omega) (fun k _ hk => by simpa using h2 (k + 1) (by omega) (by simpa using hk))
    unfold lowT at this ⊢
    rw [List.filter_cons_of_neg (by simpa using h0)]; exact this
  | u :: l, d, i + 1, hi, h1, h2 => by
    have h0 := h1 0 (by omega)
    simp only [List.getD_cons_zero] at h0
    have := lowT_of (l := l) (d := d) (i := i) (by simpa using hi) (fun k hk => by simpa using h1 (k + 1) (by omega)) (fun k hk hl => by simpa using h2 (k + 1) (by omega) (by simpa using hl))
    unfold lowT at this ⊢
    rw [List.filter_cons_of_pos (by simpa using h0), List.length_cons, this]
theorem hasT_iff {l : List Tx} {d : Dt} : hasT l d = true ↔ ∃ k, k < l.length ∧ (l.getD k zt).d = d := by
  simp only [hasT, List.any_eq_true, decide_eq_true_eq]
  constructor
  · rintro ⟨u, hu, rfl⟩
    obtain ⟨k, hk, rfl⟩ := List.getElem_of_mem hu
    exact ⟨k, hk, by rw [getT_at hk]⟩
  · rintro ⟨k, hk, e⟩
    exact ⟨l[k], List.getElem_mem hk, by rw [← getT_at hk]; exact e⟩
theorem hasT_low {l : List Tx} {d : Dt} {i : Nat} (h1 : ∀ k, k < i → dcmp (l.getD k zt).d d < 0) (h2 : ∀ k, i ≤ k → k < l.length → ¬ dcmp (l.getD k zt).d d < 0) (hs : sortT l) :
    hasT l d = (decide (i < l.length) && decide (dcmp (l.getD i zt).d d = 0)) := by
  rw [Bool.eq_iff_iff, hasT_iff, Bool.and_eq_true, decide_eq_true_eq, decide_eq_true_eq, dcmp_zero]
  constructor
  · rintro ⟨k, hk, e⟩
    have h3 : ¬ k < i := fun h => by have := h1 k h; rw [e, dcmp_neg] at this; omega
    by_cases e2 : k = i
    · subst e2; exact ⟨hk, e⟩
    · have := hs i k (by omega) hk
      rw [e] at this
      exact absurd this (h2 i (Nat.le_refl _) (by omega))
  · rintro ⟨h, e⟩
    exact ⟨i, h, e⟩
def S_tdcmp (R : Rel) : Prop := ∀ (a : Tx) (e : Dt), R [.v (tP a), .v (dP e)] (.val (.int .i64 (dcmp a.d e))) []
def S_tbs (C : CallRel) (R : Rel) : Prop := ∀ (l : List Tx) (d : Dt) (f : FuncId), l.length ≤ 2000000 → sortT l → (∀ (a : Tx) (e : Dt), C f [.v (tP a), .v (dP e)] (.val (.int .i64 (dcmp a.d e))) []) → R [.v (tsP l), .v (dP d), .v (.fn f)] (.val (.tup [.int .i64 ((lowT l d : Nat) : Int), .bool (hasT l d)])) []
theorem g_slices_BinarySearchFunc_Txn : S_tbs C ((c_slices_BinarySearchFunc_api_Txn_api_Txn_api_Dot F).gives C) := by
  intro l d f hl hs hf
  refine gives_of rfl ?_
  unfold c_slices_BinarySearchFunc_api_Txn_api_Txn_api_Dot
  simp only [walk, Nat.reduceLT, Nat.reduceBEq, Nat.reduceAdd, Nat.reduceLeDiff, reduceIte, Int.reduceLT, Int.reduceLE, Int.reduceEq, Int.reduceToNat, Int.reduceBEq, tRows_len]
  refine awp_loop_ind (X := Nat × Nat) (fun x => ⟨[(0, .val (tsP l)), (1, .val (dP d)), (2, .val (.fn f)), (4, .lp 4 0), (6, .val (.int .i64 0)), (7, .val (.bool false)), (8, .val (.int .i64 l.length)), (9, .val (.int .i64 x.1)), (10, .val (.int .i64 x.2))],
      [(4, .cells [.val (.int .i64 d.1), .val (.int .i64 d.2)])]⟩)
      (fun x => x.1 ≤ x.2 ∧ x.2 ≤ l.length ∧ (∀ k, k < x.1 → dcmp (l.getD k zt).d d < 0) ∧ ∀ k, x.2 ≤ k → k < l.length → ¬ dcmp (l.getD k zt).d d < 0) (fun x => x.2 - x.1) (0, l.length) ⟨by omega, Nat.le_refl _, by omega, by omega⟩ rfl ?_
  rintro R ⟨i, j⟩ ⟨h1, h2, h3, h4⟩ ih
  simp only at h1 h2 h3 h4
  simp only [walk, Nat.reduceLT, Nat.reduceBEq, Nat.reduceAdd, Nat.reduceLeDiff, reduceIte, Int.reduceLT, Int.reduceLE, Int.reduceEq, Int.reduceToNat, Int.reduceBEq]
  by_cases hij : i < j
  · have c1 : (i : Int) < j := by omega
    have e1 : IntKind.i64.wrap ((i : Int) + j) = ((i + j : Nat) : Int) := wrap64 (by omega) (by omega)
    have e2 : IntKind.u64.wrap ((i + j : Nat) : Int) = ((i + j : Nat) : Int) := by unfold IntKind.wrap; simp [IntKind.bits, IntKind.signed]; omega
    have e3 : ((i + j : Nat) : Int).fdiv (2 ^ (min (1 : Nat) IntKind.u64.bits)) = (((i + j) / 2 : Nat) : Int) := by
      simp [IntKind.bits, Int.fdiv_eq_ediv]
    have e4 : IntKind.i64.wrap (((i + j) / 2 : Nat) : Int) = (((i + j) / 2 : Nat) : Int) := wrap64 (by omega) (by omega)
    obtain ⟨h, hh⟩ : ∃ h, h = (i + j) / 2 := ⟨_, rfl⟩
    have hb : i ≤ h ∧ h < j := by omega
    have hlt : h < l.length := by omega
    rw [← hh] at e3 e4
    have e5 : IntKind.i64.wrap ((h : Int) + 1) = ((h + 1 : Nat) : Int) := wrap64 (by omega) (by omega)
    simp only [walk, Nat.reduceLT, Nat.reduceBEq, Nat.reduceAdd, Nat.reduceLeDiff, reduceIte, Int.reduceLT, Int.reduceLE, Int.reduceEq, Int.reduceToNat, Int.reduceBEq, c1, e1, e2, e3, e4, tRows_get hlt]
    refine callWp_of (hf _ d) ?_
    simp only [walk, Nat.reduceLT, Nat.reduceBEq, Nat.reduceAdd, Nat.reduceLeDiff, reduceIte, Int.reduceLT, Int.reduceLE, Int.reduceEq, Int.reduceToNat, Int.reduceBEq]
    have hat := getT_at hlt
    by_cases c2 : dcmp l[h].d d < 0
    · simp only [walk, Nat.reduceLT, Nat.reduceBEq, Nat.reduceAdd, Nat.reduceLeDiff, reduceIte, Int.reduceLT, Int.reduceLE, Int.reduceEq, Int.reduceToNat, Int.reduceBEq, c2, e5]
      refine ih (h + 1, j) ⟨by simp only; omega, h2, fun k hk => ?_, h4⟩ (by simp only; omega)
      simp only at hk
      by_cases e : k = h
      · subst e; rw [hat]; exact c2
      · exact dcmp_trans (hs k h (by omega) hlt) (by rw [hat]; exact c2)
    · simp only [walk, Nat.reduceLT, Nat.reduceBEq, Nat.reduceAdd, Nat.reduceLeDiff, reduceIte, Int.reduceLT, Int.reduceLE, Int.reduceEq, Int.reduceToNat, Int.reduceBEq, c2]
      refine ih (i, h) ⟨by simp only; omega, by simp only; omega, h3, fun k hk hl' => ?_⟩ (by simp only; omega)
      simp only at hk
      by_cases e : k = h
      · subst e; rw [hat]; exact c2
      · intro hc
        exact c2 (by rw [← hat]; exact dcmp_trans (hs h k (by omega) hl') hc)
  · have hij' : i = j := by omega
    subst hij'
    have c1 : ¬ ((i : Int) < i) := by omega
    have q1 : lowT l d = i := lowT_of h2 h3 h4
    have q2 := hasT_low h3 h4 hs
    simp only [walk, Nat.reduceLT, Nat.reduceBEq, Nat.reduceAdd, Nat.reduceLeDiff, reduceIte, Int.reduceLT, Int.reduceLE, Int.reduceEq, Int.reduceToNat, Int.reduceBEq, c1]
    by_cases hlt : i < l.length
    · have c2 : (i : Int) < l.length := by omega
      have c0 : (0 : Int) ≤ i := by omega
      simp only [walk, Nat.reduceLT, Nat.reduceBEq, Nat.reduceAdd, Nat.reduceLeDiff, reduceIte, Int.reduceLT, Int.reduceLE, Int.reduceEq, Int.reduceToNat, Int.reduceBEq, c2, tRows_get hlt]
      refine callWp_of (hf _ d) ?_
      have q3 : (decide (i < l.length)) = true := by simpa using hlt
      rw [q3, Bool.true_and, getT_at hlt] at q2
      simp only [walk, Nat.reduceLT, Nat.reduceBEq, Nat.reduceAdd, Nat.reduceLeDiff, reduceIte, Int.reduceLT, Int.reduceLE, Int.reduceEq, Int.reduceToNat, Int.reduceBEq, q1, q2, ieq]
    · have c2 : ¬ ((i : Int) < l.length) := by omega
      have q3 : (decide (i < l.length)) = false := by simpa using hlt
      rw [q3, Bool.false_and] at q2
      simp only [walk, Nat.reduceLT, Nat.reduceBEq, Nat.reduceAdd, Nat.reduceLeDiff, reduceIte, Int.reduceLT, Int.reduceLE, Int.reduceEq, Int.reduceToNat, Int.reduceBEq, c2, q1, q2]
theorem g_txn_Find_1 (h : S_dcmp (C (F n_dot_Compare))) : S_tdcmp ((c_txn_Find_1 F).gives C) := by
  intro a e
  refine gives_of rfl ?_
  unfold c_txn_Find_1
  simp only [walk, Nat.reduceLT, Nat.reduceBEq, Nat.reduceAdd, Nat.reduceLeDiff, reduceIte, Int.reduceLT, Int.reduceLE, Int.reduceEq, Int.reduceToNat, Int.reduceBEq]
  refine callWp_of (h a.d e) ?_
  simp only [walk, Nat.reduceLT, Nat.reduceBEq, Nat.reduceAdd, Nat.reduceLeDiff, reduceIte, Int.reduceLT, Int.reduceLE, Int.reduceEq, Int.reduceToNat, Int.reduceBEq]
def findT (l : List Tx) (d : Dt) : Int := if hasT l d = true then ((lowT l d : Nat) : Int) else -1
def S_tFind (R : Rel) : Prop := ∀ (l : List Tx) (d : Dt), l.length ≤ 2000000 → sortT l → R [.v (tsP l), .v (dP d)] (.val (.int .i64 (findT l d))) []
theorem g_txn_Find (hB : S_tbs C (C (F n_slices_BinarySearchFunc_api_Txn_api_Txn_api_Dot))) (h1 : S_tdcmp (C (F n_txn_Find_1))) : S_tFind ((c_txn_Find F).gives C) := by
  intro l d hl hs
  refine gives_of rfl ?_
  unfold c_txn_Find findT
  simp only [walk, Nat.reduceLT, Nat.reduceBEq, Nat.reduceAdd, Nat.reduceLeDiff, reduceIte, Int.reduceLT, Int.reduceLE, Int.reduceEq, Int.reduceToNat, Int.reduceBEq]
  refine callWp_of (hB l d (F n_txn_Find_1) hl hs h1) ?_
  cases hh : hasT l d <;> simp only [walk, Nat.reduceLT, Nat.reduceBEq, Nat.reduceAdd, Nat.reduceLeDiff, reduceIte, Int.reduceLT, Int.reduceLE, Int.reduceEq, Int.reduceToNat, Int.reduceBEq]
def oneT (a b t : Int) : Tx := ⟨(a, b), 0, t, false, [⟨3, [[97]], z0, 1, []⟩]⟩
def S_one (R : Rel) : Prop := ∀ a b t : Int, R [.v (.int .i64 a), .v (.int .i64 b), .v (.int .i64 t)] (.val (tP (oneT a b t))) []
theorem g_plaw12_one : S_one ((c_plaw12_one F).gives C) := by
  intro a b t
  refine gives_of rfl ?_
  unfold c_plaw12_one oneT
  simp only [walk, Nat.reduceLT, Nat.reduceBEq, Nat.reduceAdd, Nat.reduceLeDiff, reduceIte, Int.reduceLT, Int.reduceLE, Int.reduceEq, Int.reduceToNat, Int.reduceBEq, layT]
  rfl
theorem one_check (a b t : Int) (hd : dotOk (a, b) = true) (h1 : 1 ≤ t) (h2 : t ≤ 1099511627776) : tCheck (oneT a b t) = 0 := by
  have hp : pCheck [[97]] = 0 := by unfold pCheck; simp [right_a]
  have hr : refsOk [] = true := by simp [refsOk]
  unfold tCheck oneT
  simp only [hd, List.length_singleton, opsCheck]
  rw [if_neg (by simp; omega)]
  simp [oCheck, hp, hr]
theorem g_plaw12_awake (h0 : S_one (C (F n_plaw12_one))) (h1 : S_tCheck (C (F n_txn_Check))) (h2 : S_tCmp (C (F n_txn_Compare))) (h3 : S_tFind (C (F n_txn_Find))) (h4 : S_tSame (C (F n_txn_Same))) : S_yes ((c_plaw12_awake F).gives C) := by
  refine gives_of rfl ?_
  unfold c_plaw12_awake
  have hp : pCheck [[97]] = 0 := by unfold pCheck; simp [right_a]
  have ok : ∀ a b t, tOk (oneT a b t) := fun a b t => ⟨by simp [oneT], fun o ho => by
    simp only [oneT, List.mem_singleton] at ho
    subst ho
    exact ⟨check_ok hp, by simp [z0], by simp⟩⟩
  simp only [walk, Nat.reduceLT, Nat.reduceBEq, Nat.reduceAdd, Nat.reduceLeDiff, reduceIte, Int.reduceLT, Int.reduceLE, Int.reduceEq, Int.reduceToNat, Int.reduceBEq]
  refine callWp_of (h0 0 9 5) ?_
  simp only [walk, Nat.reduceLT, Nat.reduceBEq, Nat.reduceAdd, Nat.reduceLeDiff, reduceIte, Int.reduceLT, Int.reduceLE, Int.reduceEq, Int.reduceToNat, Int.reduceBEq]
  refine callWp_of (h0 1 1 5) ?_
  simp only [walk, Nat.reduceLT, Nat.reduceBEq, Nat.reduceAdd, Nat.reduceLeDiff, reduceIte, Int.reduceLT, Int.reduceLE, Int.reduceEq, Int.reduceToNat, Int.reduceBEq, layT]
  refine callWp_of (h1 (oneT 0 9 5) (ok _ _ _)) ?_
  simp only [walk, Nat.reduceLT, Nat.reduceBEq, Nat.reduceAdd, Nat.reduceLeDiff, reduceIte, Int.reduceLT, Int.reduceLE, Int.reduceEq, Int.reduceToNat, Int.reduceBEq, one_check 0 9 5 (by decide) (by omega) (by omega)]
  refine callWp_of (h2 (oneT 0 9 5) (oneT 1 1 5)) ?_
  have e1 : tcmpT (oneT 0 9 5) (oneT 1 1 5) = -1 := by decide
  simp only [walk, Nat.reduceLT, Nat.reduceBEq, Nat.reduceAdd, Nat.reduceLeDiff, reduceIte, Int.reduceLT, Int.reduceLE, Int.reduceEq, Int.reduceToNat, Int.reduceBEq, e1]
  have hs : sortT [oneT 0 9 5, oneT 1 1 5] := by
    intro i j hij hj
    simp only [List.length_cons, List.length_nil] at hj
    have : i = 0 := by omega
    have : j = 1 := by omega
    subst i j
    decide
  refine callWp_of (h3 [oneT 0 9 5, oneT 1 1 5] (1, 1) (by simp) hs) ?_
  have e2 : findT [oneT 0 9 5, oneT 1 1 5] (1, 1) = 1 := by decide
  simp only [walk, Nat.reduceLT, Nat.reduceBEq, Nat.reduceAdd, Nat.reduceLeDiff, reduceIte, Int.reduceLT, Int.reduceLE, Int.reduceEq, Int.reduceToNat, Int.reduceBEq, e2]
  refine callWp_of (h4 (oneT 0 9 5) (oneT 0 9 5) (ok _ _ _)) ?_
  simp only [walk, Nat.reduceLT, Nat.reduceBEq, Nat.reduceAdd, Nat.reduceLeDiff, reduceIte, Int.reduceLT, Int.reduceLE, Int.reduceEq, Int.reduceToNat, Int.reduceBEq]
  refine callWp_of (h4 (oneT 0 9 5) (oneT 1 1 5) (ok _ _ _)) ?_
  have e3 : decide (oneT 0 9 5 = oneT 1 1 5) = false := tsame_no (by simp [oneT])
  simp only [walk, Nat.reduceLT, Nat.reduceBEq, Nat.reduceAdd, Nat.reduceLeDiff, reduceIte, Int.reduceLT, Int.reduceLE, Int.reduceEq, Int.reduceToNat, Int.reduceBEq, e3]
theorem tShort_ok {x : Tx} (h : tShort x = true) : x.ops.length ≤ 20 ∧ (∀ o ∈ x.ops, oShort o = true) ∧ tOk x := by
  unfold tShort at h
  simp only [Bool.and_eq_true, decide_eq_true_eq, List.all_eq_true] at h
  exact ⟨h.1, h.2, by omega, fun o ho => (short_oOk (h.2 o ho)).1⟩
theorem tcheck_zero {x : Tx} (h : tCheck x = 0) : dotOk x.d = true ∧ 0 ≤ x.u ∧ x.u ≤ 7 ∧ 1 ≤ x.t ∧ x.t ≤ 1099511627776 ∧ 1 ≤ x.ops.length ∧ x.ops.length ≤ 16 ∧ ∀ o ∈ x.ops, oCheck o = 0 ∨ (x.un = true ∧ oGone o = true) := by
  unfold tCheck at h
  by_cases h0 : dotOk x.d = false ∨ x.u < 0 ∨ x.u > 7 ∨ x.t < 1 ∨ x.t > 1099511627776
  · rw [if_pos h0] at h; cases h
  rw [if_neg h0] at h
  by_cases h1 : x.ops.length = 0
  · rw [if_pos h1] at h; cases h
  rw [if_neg h1] at h
  by_cases h2 : x.ops.length > 16
  · rw [if_pos h2] at h; cases h
  rw [if_neg h2] at h
  refine ⟨?_, by omega, by omega, by omega, by omega, by omega, by omega, opsCheck_zero h⟩
  rw [← Bool.not_eq_false]
  exact fun e => h0 (.inl e)
theorem tfit_of {x : Tx} (hs : tShort x = true) (h : tCheck x = 0) : tFit x := by
  obtain ⟨s1, s2, s3⟩ := tShort_ok hs
  obtain ⟨c1, c2, c3, c4, c5, c6, c7, c8⟩ := tcheck_zero h
  have hd := dotOk_iff.1 c1
  refine ⟨by omega, ⟨⟨by omega, by omega⟩, ⟨by omega, by omega⟩⟩, ⟨by omega, by omega⟩, ⟨by omega, by omega⟩, fun o ho => ?_⟩
  have hg : oCheck o = 0 ∨ oGone o = true := (c8 o ho).imp id (·.2)
  have hf := fit_of (s3.2 o ho) hg
  exact ⟨hf.1, hf.2, oCode_len (s2 o ho) hg⟩
end
end Go.AR
