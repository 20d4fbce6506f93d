import Derived.Test.YtkankogmljifiaaDoorG40
set_option linter.all false
/-! Transactions, many: told. -/
namespace Go.AR
open Go
section
variable {C : CallRel} {F : Nat → FuncId}
def lFit (l : List Tx) : Prop := l.length ≤ 1000 ∧ ∀ x ∈ l, tFit x ∧ (tCode x).length ≤ 600000
def S_tList (R : Rel) : Prop := ∀ l : List Tx, lFit l → R [.v (tsP l)] (.val (.str (lCode l))) []
def S_tGood (R : Rel) : Prop := ∀ (l : List Tx) (most : Int), most ≤ 2000000 → R [.v (tsP l), .v (.int .i64 most)] (.val (.bool (goodT most l))) []
theorem txFlat_len : ∀ (l : List Tx), (∀ x ∈ l, (tCode x).length ≤ 600000) → ((l.map tCode).flatten).length ≤ l.length * 600000
  | [], _ => by simp
  | r :: l, h => by
    have h1 := h r (by simp)
    have h2 := txFlat_len l (fun t ht => h t (by simp [ht]))
    rw [List.map_cons, List.flatten_cons, List.length_append, List.length_cons]; omega
theorem tx_take (l : List Tx) (k : Nat) (h : k < l.length) (A : List UInt8) : (A ++ ((l.take k).map tCode).flatten) ++ tCode l[k] = A ++ ((l.take (k + 1)).map tCode).flatten := by
  rw [List.take_add_one, List.getElem?_eq_getElem h, Option.toList_some, List.map_append, List.flatten_append, List.append_assoc]
  simp only [List.map_cons, List.map_nil, List.flatten_cons, List.flatten_nil, List.append_nil]
theorem g_txn_List (hI : S_i2s (C (F n_pack_Int))) (hT : S_tCode (C (F n_txn_Code))) : S_tList ((c_txn_List F).gives C) := by
  intro l hl
  refine gives_of rfl ?_
  unfold c_txn_List lCode
  obtain ⟨h1, h2⟩ := hl
  have l5 := pInt_len (n := l.length) (i64ok_nat (by omega))
  simp only [walk, Nat.reduceLT, Nat.reduceBEq, Nat.reduceAdd, Nat.reduceLeDiff, reduceIte, Int.reduceLT, Int.reduceLE, Int.reduceEq, Int.reduceToNat, Int.reduceBEq, tRows_len]
  refine callWp_of (hI l.length (i64ok_nat (by omega))) ?_
  simp only [walk, Nat.reduceLT, Nat.reduceBEq, Nat.reduceAdd, Nat.reduceLeDiff, reduceIte, Int.reduceLT, Int.reduceLE, Int.reduceEq, Int.reduceToNat, Int.reduceBEq, tRows_len]
  refine awp_loop_ind (X := Nat) (fun j => ⟨[(0, .val (tsP l)), (2, .val (.str [])), (3, .val (.str (pInt l.length ++ ((l.take j).map tCode).flatten))), (9, .val (tsP l)), (10, .val (.int .i64 l.length)), (11, .val (.int .i64 j))], []⟩)
    (fun j => j ≤ l.length) (fun j => l.length - j) 0 (by omega) (by simp) ?_
  rintro R j hj ih
  simp only [walk, Nat.reduceLT, Nat.reduceBEq, Nat.reduceAdd, Nat.reduceLeDiff, reduceIte, Int.reduceLT, Int.reduceLE, Int.reduceEq, Int.reduceToNat, Int.reduceBEq]
  by_cases c : j < l.length
  · have c1 : (j : Int) < l.length := by omega
    have c0 : (0 : Int) ≤ j := by omega
    have e1 : IntKind.i64.wrap ((j : Int) + 1) = ((j + 1 : Nat) : Int) := wrap64 (by omega) (by omega)
    have step := ih (j + 1) (by omega) (by omega)
    rw [← tx_take l j c] at step
    have ho := h2 _ (List.getElem_mem c)
    have hpre := txFlat_len (l.take j) (fun r hr => (h2 r (List.mem_of_mem_take hr)).2)
    rw [List.length_take, Nat.min_eq_left (by omega)] at hpre
    have ho2 := ho.2
    simp only [walk, Nat.reduceLT, Nat.reduceBEq, Nat.reduceAdd, Nat.reduceLeDiff, reduceIte, Int.reduceLT, Int.reduceLE, Int.reduceEq, Int.reduceToNat, Int.reduceBEq, c1, tRows_get c]
    refine callWp_of (hT _ ho.1) ?_
    simp only [walk, Nat.reduceLT, Nat.reduceBEq, Nat.reduceAdd, Nat.reduceLeDiff, reduceIte, Int.reduceLT, Int.reduceLE, Int.reduceEq, Int.reduceToNat, Int.reduceBEq]
    rw [bins_add (by rw [List.length_append]; omega)]
    simp only [walk, Nat.reduceLT, Nat.reduceBEq, Nat.reduceAdd, Nat.reduceLeDiff, reduceIte, Int.reduceLT, Int.reduceLE, Int.reduceEq, Int.reduceToNat, Int.reduceBEq, e1]
    exact step
  · have c1 : ¬ (j : Int) < l.length := by omega
    rw [List.take_of_length_le (by omega)]
    simp only [walk, Nat.reduceLT, Nat.reduceBEq, Nat.reduceAdd, Nat.reduceLeDiff, reduceIte, Int.reduceLT, Int.reduceLE, Int.reduceEq, Int.reduceToNat, Int.reduceBEq, c1]
theorem g_pref12_List (hI : S_i2s (C (F n_pref02_Int))) (hT : S_tCode (C (F n_pref12_Code))) : S_tList ((c_pref12_List F).gives C) := by
  intro l hl
  refine gives_of rfl ?_
  unfold c_pref12_List lCode
  obtain ⟨h1, h2⟩ := hl
  have l5 := pInt_len (n := l.length) (i64ok_nat (by omega))
  simp only [walk, Nat.reduceLT, Nat.reduceBEq, Nat.reduceAdd, Nat.reduceLeDiff, reduceIte, Int.reduceLT, Int.reduceLE, Int.reduceEq, Int.reduceToNat, Int.reduceBEq, tRows_len]
  refine callWp_of (hI l.length (i64ok_nat (by omega))) ?_
  simp only [walk, Nat.reduceLT, Nat.reduceBEq, Nat.reduceAdd, Nat.reduceLeDiff, reduceIte, Int.reduceLT, Int.reduceLE, Int.reduceEq, Int.reduceToNat, Int.reduceBEq, tRows_len]
  refine awp_loop_ind (X := Nat) (fun j => ⟨[(0, .val (tsP l)), (2, .val (.str [])), (3, .val (.str (pInt l.length ++ ((l.take j).map tCode).flatten))), (4, .val (.int .i64 j))], []⟩)
    (fun j => j ≤ l.length) (fun j => l.length - j) 0 (by omega) (by simp) ?_
  rintro R j hj ih
  simp only [walk, Nat.reduceLT, Nat.reduceBEq, Nat.reduceAdd, Nat.reduceLeDiff, reduceIte, Int.reduceLT, Int.reduceLE, Int.reduceEq, Int.reduceToNat, Int.reduceBEq, tRows_len]
  by_cases c : j < l.length
  · have c1 : (j : Int) < l.length := by omega
    have c0 : (0 : Int) ≤ j := by omega
    have e1 : IntKind.i64.wrap ((j : Int) + 1) = ((j + 1 : Nat) : Int) := wrap64 (by omega) (by omega)
    have step := ih (j + 1) (by omega) (by omega)
    rw [← tx_take l j c] at step
    have ho := h2 _ (List.getElem_mem c)
    have hpre := txFlat_len (l.take j) (fun r hr => (h2 r (List.mem_of_mem_take hr)).2)
    rw [List.length_take, Nat.min_eq_left (by omega)] at hpre
    have ho2 := ho.2
    simp only [walk, Nat.reduceLT, Nat.reduceBEq, Nat.reduceAdd, Nat.reduceLeDiff, reduceIte, Int.reduceLT, Int.reduceLE, Int.reduceEq, Int.reduceToNat, Int.reduceBEq, c1, tRows_get c, tRows_len]
    refine callWp_of (hT _ ho.1) ?_
    simp only [walk, Nat.reduceLT, Nat.reduceBEq, Nat.reduceAdd, Nat.reduceLeDiff, reduceIte, Int.reduceLT, Int.reduceLE, Int.reduceEq, Int.reduceToNat, Int.reduceBEq]
    rw [bins_add (by rw [List.length_append]; omega)]
    simp only [walk, Nat.reduceLT, Nat.reduceBEq, Nat.reduceAdd, Nat.reduceLeDiff, reduceIte, Int.reduceLT, Int.reduceLE, Int.reduceEq, Int.reduceToNat, Int.reduceBEq, e1]
    exact step
  · have c1 : ¬ (j : Int) < l.length := by omega
    rw [List.take_of_length_le (by omega)]
    simp only [walk, Nat.reduceLT, Nat.reduceBEq, Nat.reduceAdd, Nat.reduceLeDiff, reduceIte, Int.reduceLT, Int.reduceLE, Int.reduceEq, Int.reduceToNat, Int.reduceBEq, c1]
theorem g_pref12_Good (hR : S_tRises (C (F n_pref12_Rises))) (hS : S_tShort (C (F n_pref12_Short))) (hC : S_tCheck (C (F n_pref12_Check))) : S_tGood ((c_pref12_Good F).gives C) := by
  intro l most hm
  refine gives_of rfl ?_
  unfold c_pref12_Good goodT
  simp only [walk, Nat.reduceLT, Nat.reduceBEq, Nat.reduceAdd, Nat.reduceLeDiff, reduceIte, Int.reduceLT, Int.reduceLE, Int.reduceEq, Int.reduceToNat, Int.reduceBEq, tRows_len]
  by_cases hl : (l.length : Int) > most
  · have hl2 : ¬ (l.length : Int) ≤ most := by omega
    simp only [walk, Nat.reduceLT, Nat.reduceBEq, Nat.reduceAdd, Nat.reduceLeDiff, reduceIte, Int.reduceLT, Int.reduceLE, Int.reduceEq, Int.reduceToNat, Int.reduceBEq, hl, hl2]
  · have hl2 : (l.length : Int) ≤ most := by omega
    simp only [walk, Nat.reduceLT, Nat.reduceBEq, Nat.reduceAdd, Nat.reduceLeDiff, reduceIte, Int.reduceLT, Int.reduceLE, Int.reduceEq, Int.reduceToNat, Int.reduceBEq, hl, hl2]
    refine callWp_of (hR l (by omega)) ?_
    cases hr : risesT l with
    | false => simp only [walk, Nat.reduceLT, Nat.reduceBEq, Nat.reduceAdd, Nat.reduceLeDiff, reduceIte, Int.reduceLT, Int.reduceLE, Int.reduceEq, Int.reduceToNat, Int.reduceBEq]
    | true =>
      simp only [walk, Nat.reduceLT, Nat.reduceBEq, Nat.reduceAdd, Nat.reduceLeDiff, reduceIte, Int.reduceLT, Int.reduceLE, Int.reduceEq, Int.reduceToNat, Int.reduceBEq]
      refine awp_loop_ind (X := Nat) (fun k => ⟨[(0, .val (tsP l)), (1, .val (.int .i64 most)), (4, .val (.bool false)), (5, .val (.int .i64 k)), (14, .val (.bool false))], []⟩)
        (fun k => k ≤ l.length ∧ ((l.take k).all fun x => tShort x && decide (tCheck x = 0)) = true) (fun k => l.length - k) 0 ⟨by omega, by simp⟩ rfl ?_
      rintro R k ⟨hk, hJ⟩ ih
      simp only [walk, Nat.reduceLT, Nat.reduceBEq, Nat.reduceAdd, Nat.reduceLeDiff, reduceIte, Int.reduceLT, Int.reduceLE, Int.reduceEq, Int.reduceToNat, Int.reduceBEq, tRows_len]
      by_cases c : k < l.length
      · have c1 : (k : Int) < l.length := by omega
        have c0 : (0 : Int) ≤ k := by omega
        have e1 : IntKind.i64.wrap ((k : Int) + 1) = ((k + 1 : Nat) : Int) := wrap64 (by omega) (by omega)
        have nope : (tShort l[k] && decide (tCheck l[k] = 0)) = false → (l.all fun x => tShort x && decide (tCheck x = 0)) = false := fun hno => by
          rw [Bool.eq_false_iff]; intro h
          have := List.all_eq_true.1 h _ (List.getElem_mem c)
          rw [hno] at this; cases this
        simp only [walk, Nat.reduceLT, Nat.reduceBEq, Nat.reduceAdd, Nat.reduceLeDiff, reduceIte, Int.reduceLT, Int.reduceLE, Int.reduceEq, Int.reduceToNat, Int.reduceBEq, c1, tRows_get c, tRows_len]
        refine callWp_of (hS l[k]) ?_
        cases hs : tShort l[k] with
        | false =>
          have hf := nope (by rw [hs]; rfl)
          simp only [walk, Nat.reduceLT, Nat.reduceBEq, Nat.reduceAdd, Nat.reduceLeDiff, reduceIte, Int.reduceLT, Int.reduceLE, Int.reduceEq, Int.reduceToNat, Int.reduceBEq, hf]
        | true =>
          simp only [walk, Nat.reduceLT, Nat.reduceBEq, Nat.reduceAdd, Nat.reduceLeDiff, reduceIte, Int.reduceLT, Int.reduceLE, Int.reduceEq, Int.reduceToNat, Int.reduceBEq, c1, tRows_get c, tRows_len]
          refine callWp_of (hC l[k] (tShort_ok hs).2.2) ?_
          by_cases hc : tCheck l[k] = 0
          · simp only [walk, Nat.reduceLT, Nat.reduceBEq, Nat.reduceAdd, Nat.reduceLeDiff, reduceIte, Int.reduceLT, Int.reduceLE, Int.reduceEq, Int.reduceToNat, Int.reduceBEq, hc, bne_self_eq_false, e1]
            refine ih (k + 1) ⟨by omega, ?_⟩ (by omega)
            rw [List.take_add_one, List.getElem?_eq_getElem c, List.all_append, hJ]
            simp [hs, hc]
          · have hc' : (tCheck l[k] != 0) = true := by simp [hc]
            have hf := nope (by rw [decide_eq_false hc, Bool.and_false])
            simp only [walk, Nat.reduceLT, Nat.reduceBEq, Nat.reduceAdd, Nat.reduceLeDiff, reduceIte, Int.reduceLT, Int.reduceLE, Int.reduceEq, Int.reduceToNat, Int.reduceBEq, hc', hf]
      · have c1 : ¬ (k : Int) < l.length := by omega
        rw [List.take_of_length_le (by omega)] at hJ
        simp only [walk, Nat.reduceLT, Nat.reduceBEq, Nat.reduceAdd, Nat.reduceLeDiff, reduceIte, Int.reduceLT, Int.reduceLE, Int.reduceEq, Int.reduceToNat, Int.reduceBEq, c1, hJ]
end
end Go.AR

/-! Transactions: told and read, the law. -/
namespace Go.AR
open Go
section
variable {C : CallRel} {F : Nat → FuncId}
theorem g_TxnBack (hA : S_yes (C (F n_plaw12_awake))) (h0 : S_tGood (C (F n_pref12_Good))) (h1 : S_tList (C (F n_txn_List))) (h2 : S_tList (C (F n_pref12_List))) (h3 : S_Open (C (F n_pack_Open))) (h4 : S_tsRead (C (F n_txn_ReadList))) (h5 : S_tAll (C (F n_pref12_All))) (h6 : S_End (C (F n_pack_Reader_End))) (h7 : S_tCode (C (F n_txn_Code))) (h8 : S_tRead (C (F n_txn_Read))) (h9 : S_tSame (C (F n_pref12_Same))) (h10 : S_dotOk (C (F n_pref04_Right))) : S_tOrder ((c_plaw12_TxnBack F).gives C) := by
  intro l
  refine gives_of rfl ?_
  unfold c_plaw12_TxnBack
  simp only [walk, Nat.reduceLT, Nat.reduceBEq, Nat.reduceAdd, Nat.reduceLeDiff, reduceIte, Int.reduceLT, Int.reduceLE, Int.reduceEq, Int.reduceToNat, Int.reduceBEq]
  refine callWp_of (h0 l 30 (by omega)) ?_
  cases hg : goodT 30 l with
  | false =>
    simp only [walk, Nat.reduceLT, Nat.reduceBEq, Nat.reduceAdd, Nat.reduceLeDiff, reduceIte, Int.reduceLT, Int.reduceLE, Int.reduceEq, Int.reduceToNat, Int.reduceBEq]
    refine callWp_of hA ?_
    simp only [walk, Nat.reduceLT, Nat.reduceBEq, Nat.reduceAdd, Nat.reduceLeDiff, reduceIte, Int.reduceLT, Int.reduceLE, Int.reduceEq, Int.reduceToNat, Int.reduceBEq]
  | true =>
  unfold goodT at hg
  simp only [Bool.and_eq_true, decide_eq_true_eq, List.all_eq_true] at hg
  obtain ⟨hl, hr, hall⟩ := hg
  have hl : l.length ≤ 30 := by omega
  have hz : ∀ x ∈ l, tCheck x = 0 := fun x hx => (hall x hx).2
  have hfit : lFit l := ⟨by omega, fun x hx => ⟨tfit_of (hall x hx).1 (hall x hx).2, tCode_len (hall x hx).1 (hall x hx).2⟩⟩
  have hok : ∀ x ∈ l, tOk x := fun x hx => (tShort_ok (hall x hx).1).2.2
  have hflat := txFlat_len l (fun x hx => (hfit.2 x hx).2)
  have hpi := pInt_len (n := l.length) (i64ok_nat (by omega))
  have hcl : (lCode l).length ≤ 20000000 := by unfold lCode; rw [List.length_append]; omega
  have hrl := rList_code hz hr hl
  have he : rEnd [] 0 = 0 := rfl
  simp only [walk, Nat.reduceLT, Nat.reduceBEq, Nat.reduceAdd, Nat.reduceLeDiff, reduceIte, Int.reduceLT, Int.reduceLE, Int.reduceEq, Int.reduceToNat, Int.reduceBEq]
  refine callWp_of (h1 l hfit) ?_
  simp only [walk, Nat.reduceLT, Nat.reduceBEq, Nat.reduceAdd, Nat.reduceLeDiff, reduceIte, Int.reduceLT, Int.reduceLE, Int.reduceEq, Int.reduceToNat, Int.reduceBEq]
  refine callWp_of (h3 _) ?_
  simp only [walk, Nat.reduceLT, Nat.reduceBEq, Nat.reduceAdd, Nat.reduceLeDiff, reduceIte, Int.reduceLT, Int.reduceLE, Int.reduceEq, Int.reduceToNat, Int.reduceBEq]
  refine callWp_of (h1 l hfit) ?_
  simp only [walk, Nat.reduceLT, Nat.reduceBEq, Nat.reduceAdd, Nat.reduceLeDiff, reduceIte, Int.reduceLT, Int.reduceLE, Int.reduceEq, Int.reduceToNat, Int.reduceBEq]
  refine callWp_of (h2 l hfit) ?_
  simp only [walk, Nat.reduceLT, Nat.reduceBEq, Nat.reduceAdd, Nat.reduceLeDiff, reduceIte, Int.reduceLT, Int.reduceLE, Int.reduceEq, Int.reduceToNat, Int.reduceBEq, bne_self_eq_false, beq_self_eq_true]
  refine callWp_of (h4 _ 0 30 hcl (.inl (by omega))) ?_
  simp only [walk, Nat.reduceLT, Nat.reduceBEq, Nat.reduceAdd, Nat.reduceLeDiff, reduceIte, Int.reduceLT, Int.reduceLE, Int.reduceEq, Int.reduceToNat, Int.reduceBEq, hrl]
  refine callWp_of (h5 l l (by omega) hok) ?_
  simp only [walk, Nat.reduceLT, Nat.reduceBEq, Nat.reduceAdd, Nat.reduceLeDiff, reduceIte, Int.reduceLT, Int.reduceLE, Int.reduceEq, Int.reduceToNat, Int.reduceBEq]
  refine callWp_of (h6 _ _ (by unfold sLen; simp)) ?_
  simp only [walk, Nat.reduceLT, Nat.reduceBEq, Nat.reduceAdd, Nat.reduceLeDiff, reduceIte, Int.reduceLT, Int.reduceLE, Int.reduceEq, Int.reduceToNat, Int.reduceBEq, he, bne_self_eq_false]
  refine awp_loop_ind (X := Nat) (fun k => ⟨[(0, .val (tsP l)), (2, .val (.bool false)), (3, .lp 12 0), (4, .val (.int .i64 k)), (8, .val (.bool false)), (29, .val (.bool false))], [(12, rdr [] 0)]⟩)
    (fun k => k ≤ l.length) (fun k => l.length - k) 0 (by omega) rfl ?_
  rintro R k hk ih
  simp only [walk, Nat.reduceLT, Nat.reduceBEq, Nat.reduceAdd, Nat.reduceLeDiff, reduceIte, Int.reduceLT, Int.reduceLE, Int.reduceEq, Int.reduceToNat, Int.reduceBEq, tRows_len]
  by_cases c : k < l.length
  · have c1 : (k : Int) < l.length := by omega
    have c0 : (0 : Int) ≤ k := by omega
    have e1 : IntKind.i64.wrap ((k : Int) + 1) = ((k + 1 : Nat) : Int) := wrap64 (by omega) (by omega)
    have hx := List.getElem_mem c
    have hrd := rdTx_code (hz _ hx) []
    rw [List.append_nil] at hrd
    have hdo := (tcheck_zero (hz _ hx)).1
    have hxf := hfit.2 _ hx
    have step := ih (k + 1) (by omega) (by omega)
    simp only [walk, Nat.reduceLT, Nat.reduceBEq, Nat.reduceAdd, Nat.reduceLeDiff, reduceIte, Int.reduceLT, Int.reduceLE, Int.reduceEq, Int.reduceToNat, Int.reduceBEq, c1, tRows_get c, tRows_len]
    refine callWp_of (h7 _ hxf.1) ?_
    simp only [walk, Nat.reduceLT, Nat.reduceBEq, Nat.reduceAdd, Nat.reduceLeDiff, reduceIte, Int.reduceLT, Int.reduceLE, Int.reduceEq, Int.reduceToNat, Int.reduceBEq]
    refine callWp_of (h3 _) ?_
    simp only [walk, Nat.reduceLT, Nat.reduceBEq, Nat.reduceAdd, Nat.reduceLeDiff, reduceIte, Int.reduceLT, Int.reduceLE, Int.reduceEq, Int.reduceToNat, Int.reduceBEq]
    refine callWp_of (h8 _ 0 (by have := hxf.2; omega)) ?_
    simp only [walk, Nat.reduceLT, Nat.reduceBEq, Nat.reduceAdd, Nat.reduceLeDiff, reduceIte, Int.reduceLT, Int.reduceLE, Int.reduceEq, Int.reduceToNat, Int.reduceBEq, hrd, c1, tRows_get c, tRows_len]
    refine callWp_of (h9 _ _ (hok _ hx)) ?_
    simp only [walk, Nat.reduceLT, Nat.reduceBEq, Nat.reduceAdd, Nat.reduceLeDiff, reduceIte, Int.reduceLT, Int.reduceLE, Int.reduceEq, Int.reduceToNat, Int.reduceBEq]
    refine callWp_of (h6 _ _ (by unfold sLen; simp)) ?_
    simp only [walk, Nat.reduceLT, Nat.reduceBEq, Nat.reduceAdd, Nat.reduceLeDiff, reduceIte, Int.reduceLT, Int.reduceLE, Int.reduceEq, Int.reduceToNat, Int.reduceBEq, he, bne_self_eq_false, c1, tRows_get c, tRows_len]
    refine callWp_of (h10 l[k].d) ?_
    simp only [walk, Nat.reduceLT, Nat.reduceBEq, Nat.reduceAdd, Nat.reduceLeDiff, reduceIte, Int.reduceLT, Int.reduceLE, Int.reduceEq, Int.reduceToNat, Int.reduceBEq, hdo, e1]
    exact step
  · have c1 : ¬ (k : Int) < l.length := by omega
    simp only [walk, Nat.reduceLT, Nat.reduceBEq, Nat.reduceAdd, Nat.reduceLeDiff, reduceIte, Int.reduceLT, Int.reduceLE, Int.reduceEq, Int.reduceToNat, Int.reduceBEq, c1]
    refine callWp_of hA ?_
    simp only [walk, Nat.reduceLT, Nat.reduceBEq, Nat.reduceAdd, Nat.reduceLeDiff, reduceIte, Int.reduceLT, Int.reduceLE, Int.reduceEq, Int.reduceToNat, Int.reduceBEq]
end
end Go.AR
