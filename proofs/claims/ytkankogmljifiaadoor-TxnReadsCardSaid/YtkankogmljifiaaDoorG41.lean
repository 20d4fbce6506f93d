import Derived.Test.YtkankogmljifiaaDoorG40
set_option linter.all false
/-! Transactions: what the document reads. -/
namespace Go.AR
open Go
section
variable {C : CallRel} {F : Nat → FuncId}
theorem g_pref12_Read (hD : S_XDot (C (F n_pref04_Read))) (hI : S_XInt (C (F n_pref02_Reader_Int))) (hX : S_XFail (C (F n_pref02_Reader_Fail))) (hM : S_XMany (C (F n_pref02_Reader_Many))) (hO : S_XOp (C (F n_pref11_Read))) (hC : S_tCheck (C (F n_pref12_Check))) : S_XTx ((c_pref12_Read F).gives C) := by
  intro S s b hS hs
  have hSL : sLen S := by unfold sLen; omega
  refine gives_of rfl ?_
  unfold c_pref12_Read rdTx
  simp only [walk, Nat.reduceLT, Nat.reduceBEq, Nat.reduceAdd, Nat.reduceLeDiff, reduceIte, Int.reduceLT, Int.reduceLE, Int.reduceEq, Int.reduceToNat, Int.reduceBEq, nils6, tag6]
  refine callWp_of (hD S s b hSL hs) ?_
  have l1 := (rdDot_suf s b).trans hs
  generalize rdDot s b = x1 at *
  obtain ⟨d, s1, b1⟩ := x1
  simp only at l1
  simp only [walk, Nat.reduceLT, Nat.reduceBEq, Nat.reduceAdd, Nat.reduceLeDiff, reduceIte, Int.reduceLT, Int.reduceLE, Int.reduceEq, Int.reduceToNat, Int.reduceBEq, layT]
  refine callWp_of (hI S s1 b1 hSL l1) ?_
  have l2 := (rI_suf s1 b1).trans l1
  generalize rI s1 b1 = x2 at *
  obtain ⟨u, s2, b2⟩ := x2
  simp only at l2
  simp only [walk, Nat.reduceLT, Nat.reduceBEq, Nat.reduceAdd, Nat.reduceLeDiff, reduceIte, Int.reduceLT, Int.reduceLE, Int.reduceEq, Int.reduceToNat, Int.reduceBEq, layT]
  refine callWp_of (hI S s2 b2 hSL l2) ?_
  have l3 := (rI_suf s2 b2).trans l2
  generalize rI s2 b2 = x3 at *
  obtain ⟨t, s3, b3⟩ := x3
  simp only at l3
  simp only [walk, Nat.reduceLT, Nat.reduceBEq, Nat.reduceAdd, Nat.reduceLeDiff, reduceIte, Int.reduceLT, Int.reduceLE, Int.reduceEq, Int.reduceToNat, Int.reduceBEq, layT]
  refine callWp_of (hI S s3 b3 hSL l3) ?_
  have l4 := (rI_suf s3 b3).trans l3
  generalize rI s3 b3 = x4 at *
  obtain ⟨m, s4, b4⟩ := x4
  simp only at l4
  simp only [walk, Nat.reduceLT, Nat.reduceBEq, Nat.reduceAdd, Nat.reduceLeDiff, reduceIte, Int.reduceLT, Int.reduceLE, Int.reduceEq, Int.reduceToNat, Int.reduceBEq, ieq, layT]
  by_cases hm : m > 1
  · simp only [walk, Nat.reduceLT, Nat.reduceBEq, Nat.reduceAdd, Nat.reduceLeDiff, reduceIte, Int.reduceLT, Int.reduceLE, Int.reduceEq, Int.reduceToNat, Int.reduceBEq, hm]
    refine callWp_of (hX S s4 b4 3) ?_
    by_cases hb : b4 = 0
    · simp only [walk, Nat.reduceLT, Nat.reduceBEq, Nat.reduceAdd, Nat.reduceLeDiff, reduceIte, Int.reduceLT, Int.reduceLE, Int.reduceEq, Int.reduceToNat, Int.reduceBEq, failB, hb, hm, and_self, layT, ieq]
      refine callWp_of (hM S s4 3 16 hSL l4) ?_
      have hmm := rMany_lt 16 s4 3 (by omega)
      have hsuf := (rMany_suf 16 s4 3).trans l4
      unfold rdIns
      generalize rMany 16 s4 3 = n at *
      obtain ⟨n1, s5, b5⟩ := n
      simp only at hmm hsuf
      simp only [walk, Nat.reduceLT, Nat.reduceBEq, Nat.reduceAdd, Nat.reduceLeDiff, reduceIte, Int.reduceLT, Int.reduceLE, Int.reduceEq, Int.reduceToNat, Int.reduceBEq, layT]
      generalize hq : rdOps n1.toNat s5 b5 = q at *
      refine awp_loop_ind (X := Nat × List Ov × List UInt8 × Int) (fun x => ⟨[(0, .lp 0 0), (2, .lp 2 0), (3, .lp 3 0), (4, .val (.int .i64 m)), (5, .val (.int .i64 n1)), (6, .val (.int .i64 x.1)), (20, .val (.bool true))], [(0, X S x.2.2.1 x.2.2.2), (2, z6B), (3, tB' d u t (decide (m = 1)) x.2.1)]⟩)
        (fun x => x.1 ≤ n1.toNat ∧ x.2.1.length = x.1 ∧ (∀ o ∈ x.2.1, oOk o) ∧ x.2.2.1 <:+ S ∧ (x.2.1 ++ (rdOps (n1.toNat - x.1) x.2.2.1 x.2.2.2).1, (rdOps (n1.toNat - x.1) x.2.2.1 x.2.2.2).2) = q) (fun x => n1.toNat - x.1) (0, [], s5, b5) ⟨by omega, by simp, by simp, hsuf, by simpa using hq⟩ rfl ?_
      rintro R ⟨j, l, tt, e⟩ ⟨g1, g2, g3, g4, hJ⟩ ih
      simp only at g1 g2 g3 g4 hJ
      have hb2 : (l.length + 1) * 96 ≤ 140737488355328 := by omega
      simp only [walk, Nat.reduceLT, Nat.reduceBEq, Nat.reduceAdd, Nat.reduceLeDiff, reduceIte, Int.reduceLT, Int.reduceLE, Int.reduceEq, Int.reduceToNat, Int.reduceBEq]
      by_cases c : j < n1.toNat
      · have c1 : (j : Int) < n1 := by omega
        have e1 : IntKind.i64.wrap ((j : Int) + 1) = ((j + 1 : Nat) : Int) := wrap64 (by omega) (by omega)
        simp only [walk, Nat.reduceLT, Nat.reduceBEq, Nat.reduceAdd, Nat.reduceLeDiff, reduceIte, Int.reduceLT, Int.reduceLE, Int.reduceEq, Int.reduceToNat, Int.reduceBEq, c1]
        refine callWp_of (hO S tt e hS g4) ?_
        rw [rdOps_step _ _ _ _ _ c] at hJ
        obtain ⟨k1, k2⟩ := rdOp_ok (s := tt) (b := e) (Nat.le_trans g4.length_le hS)
        have step := ih (j + 1, l ++ [(rdOp tt e).1], (rdOp tt e).2.1, (rdOp tt e).2.2) ⟨by simp only; omega, by simp; omega, fun o ho => by
          rcases List.mem_append.1 ho with ho | ho
          · exact g3 o ho
          · rw [List.mem_singleton.1 ho]; exact k1, k2.trans g4, hJ⟩ (by simp only; omega)
        unfold tB' at step
        rw [← oRows_app] at step
        simp only [walk, Nat.reduceLT, Nat.reduceBEq, Nat.reduceAdd, Nat.reduceLeDiff, reduceIte, Int.reduceLT, Int.reduceLE, Int.reduceEq, Int.reduceToNat, Int.reduceBEq, oRows_len, hb2, e1]
        exact step
      · have c1 : ¬ (j : Int) < n1 := by omega
        rw [show n1.toNat - j = 0 by omega, rdOps] at hJ
        simp only [List.append_nil] at hJ
        subst hJ
        simp only [walk, Nat.reduceLT, Nat.reduceBEq, Nat.reduceAdd, Nat.reduceLeDiff, reduceIte, Int.reduceLT, Int.reduceLE, Int.reduceEq, Int.reduceToNat, Int.reduceBEq, c1, ieq, X, xdr]
        have hok : tOk ⟨d, u, t, decide (m = 1), l⟩ := ⟨by simp only; omega, g3⟩
        unfold tEnd
        by_cases he : e = 0
        · simp only [walk, Nat.reduceLT, Nat.reduceBEq, Nat.reduceAdd, Nat.reduceLeDiff, reduceIte, Int.reduceLT, Int.reduceLE, Int.reduceEq, Int.reduceToNat, Int.reduceBEq, ieq, he]
          refine callWp_of (hC ⟨d, u, t, decide (m = 1), l⟩ hok) ?_
          generalize hc : tCheck ⟨d, u, t, decide (m = 1), l⟩ = cc
          simp only [walk, Nat.reduceLT, Nat.reduceBEq, Nat.reduceAdd, Nat.reduceLeDiff, reduceIte, Int.reduceLT, Int.reduceLE, Int.reduceEq, Int.reduceToNat, Int.reduceBEq]
          refine callWp_of (hX S tt 0 cc) ?_
          simp only [walk, Nat.reduceLT, Nat.reduceBEq, Nat.reduceAdd, Nat.reduceLeDiff, reduceIte, Int.reduceLT, Int.reduceLE, Int.reduceEq, Int.reduceToNat, Int.reduceBEq, failB, X, xdr]
          by_cases h0 : cc = 0
          · simp only [walk, Nat.reduceLT, Nat.reduceBEq, Nat.reduceAdd, Nat.reduceLeDiff, reduceIte, Int.reduceLT, Int.reduceLE, Int.reduceEq, Int.reduceToNat, Int.reduceBEq, ine, ne_eq, decide_not, hc, h0]
            all_goals rfl
          · simp only [walk, Nat.reduceLT, Nat.reduceBEq, Nat.reduceAdd, Nat.reduceLeDiff, reduceIte, Int.reduceLT, Int.reduceLE, Int.reduceEq, Int.reduceToNat, Int.reduceBEq, ine, ne_eq, decide_not, hc, h0]
            all_goals rfl
        · simp only [walk, Nat.reduceLT, Nat.reduceBEq, Nat.reduceAdd, Nat.reduceLeDiff, reduceIte, Int.reduceLT, Int.reduceLE, Int.reduceEq, Int.reduceToNat, Int.reduceBEq, ine, ne_eq, decide_not, he]
          all_goals rfl
    · simp only [walk, Nat.reduceLT, Nat.reduceBEq, Nat.reduceAdd, Nat.reduceLeDiff, reduceIte, Int.reduceLT, Int.reduceLE, Int.reduceEq, Int.reduceToNat, Int.reduceBEq, failB, hb, hm, false_and, layT, ieq]
      refine callWp_of (hM S s4 b4 16 hSL l4) ?_
      have hmm := rMany_lt 16 s4 b4 (by omega)
      have hsuf := (rMany_suf 16 s4 b4).trans l4
      unfold rdIns
      generalize rMany 16 s4 b4 = n at *
      obtain ⟨n1, s5, b5⟩ := n
      simp only at hmm hsuf
      simp only [walk, Nat.reduceLT, Nat.reduceBEq, Nat.reduceAdd, Nat.reduceLeDiff, reduceIte, Int.reduceLT, Int.reduceLE, Int.reduceEq, Int.reduceToNat, Int.reduceBEq, layT]
      generalize hq : rdOps n1.toNat s5 b5 = q at *
      refine awp_loop_ind (X := Nat × List Ov × List UInt8 × Int) (fun x => ⟨[(0, .lp 0 0), (2, .lp 2 0), (3, .lp 3 0), (4, .val (.int .i64 m)), (5, .val (.int .i64 n1)), (6, .val (.int .i64 x.1)), (20, .val (.bool true))], [(0, X S x.2.2.1 x.2.2.2), (2, z6B), (3, tB' d u t (decide (m = 1)) x.2.1)]⟩)
        (fun x => x.1 ≤ n1.toNat ∧ x.2.1.length = x.1 ∧ (∀ o ∈ x.2.1, oOk o) ∧ x.2.2.1 <:+ S ∧ (x.2.1 ++ (rdOps (n1.toNat - x.1) x.2.2.1 x.2.2.2).1, (rdOps (n1.toNat - x.1) x.2.2.1 x.2.2.2).2) = q) (fun x => n1.toNat - x.1) (0, [], s5, b5) ⟨by omega, by simp, by simp, hsuf, by simpa using hq⟩ rfl ?_
      rintro R ⟨j, l, tt, e⟩ ⟨g1, g2, g3, g4, hJ⟩ ih
      simp only at g1 g2 g3 g4 hJ
      have hb2 : (l.length + 1) * 96 ≤ 140737488355328 := by omega
      simp only [walk, Nat.reduceLT, Nat.reduceBEq, Nat.reduceAdd, Nat.reduceLeDiff, reduceIte, Int.reduceLT, Int.reduceLE, Int.reduceEq, Int.reduceToNat, Int.reduceBEq]
      by_cases c : j < n1.toNat
      · have c1 : (j : Int) < n1 := by omega
        have e1 : IntKind.i64.wrap ((j : Int) + 1) = ((j + 1 : Nat) : Int) := wrap64 (by omega) (by omega)
        simp only [walk, Nat.reduceLT, Nat.reduceBEq, Nat.reduceAdd, Nat.reduceLeDiff, reduceIte, Int.reduceLT, Int.reduceLE, Int.reduceEq, Int.reduceToNat, Int.reduceBEq, c1]
        refine callWp_of (hO S tt e hS g4) ?_
        rw [rdOps_step _ _ _ _ _ c] at hJ
        obtain ⟨k1, k2⟩ := rdOp_ok (s := tt) (b := e) (Nat.le_trans g4.length_le hS)
        have step := ih (j + 1, l ++ [(rdOp tt e).1], (rdOp tt e).2.1, (rdOp tt e).2.2) ⟨by simp only; omega, by simp; omega, fun o ho => by
          rcases List.mem_append.1 ho with ho | ho
          · exact g3 o ho
          · rw [List.mem_singleton.1 ho]; exact k1, k2.trans g4, hJ⟩ (by simp only; omega)
        unfold tB' at step
        rw [← oRows_app] at step
        simp only [walk, Nat.reduceLT, Nat.reduceBEq, Nat.reduceAdd, Nat.reduceLeDiff, reduceIte, Int.reduceLT, Int.reduceLE, Int.reduceEq, Int.reduceToNat, Int.reduceBEq, oRows_len, hb2, e1]
        exact step
      · have c1 : ¬ (j : Int) < n1 := by omega
        rw [show n1.toNat - j = 0 by omega, rdOps] at hJ
        simp only [List.append_nil] at hJ
        subst hJ
        simp only [walk, Nat.reduceLT, Nat.reduceBEq, Nat.reduceAdd, Nat.reduceLeDiff, reduceIte, Int.reduceLT, Int.reduceLE, Int.reduceEq, Int.reduceToNat, Int.reduceBEq, c1, ieq, X, xdr]
        have hok : tOk ⟨d, u, t, decide (m = 1), l⟩ := ⟨by simp only; omega, g3⟩
        unfold tEnd
        by_cases he : e = 0
        · simp only [walk, Nat.reduceLT, Nat.reduceBEq, Nat.reduceAdd, Nat.reduceLeDiff, reduceIte, Int.reduceLT, Int.reduceLE, Int.reduceEq, Int.reduceToNat, Int.reduceBEq, ieq, he]
          refine callWp_of (hC ⟨d, u, t, decide (m = 1), l⟩ hok) ?_
          generalize hc : tCheck ⟨d, u, t, decide (m = 1), l⟩ = cc
          simp only [walk, Nat.reduceLT, Nat.reduceBEq, Nat.reduceAdd, Nat.reduceLeDiff, reduceIte, Int.reduceLT, Int.reduceLE, Int.reduceEq, Int.reduceToNat, Int.reduceBEq]
          refine callWp_of (hX S tt 0 cc) ?_
          simp only [walk, Nat.reduceLT, Nat.reduceBEq, Nat.reduceAdd, Nat.reduceLeDiff, reduceIte, Int.reduceLT, Int.reduceLE, Int.reduceEq, Int.reduceToNat, Int.reduceBEq, failB, X, xdr]
          by_cases h0 : cc = 0
          · simp only [walk, Nat.reduceLT, Nat.reduceBEq, Nat.reduceAdd, Nat.reduceLeDiff, reduceIte, Int.reduceLT, Int.reduceLE, Int.reduceEq, Int.reduceToNat, Int.reduceBEq, ine, ne_eq, decide_not, hc, h0]
            all_goals rfl
          · simp only [walk, Nat.reduceLT, Nat.reduceBEq, Nat.reduceAdd, Nat.reduceLeDiff, reduceIte, Int.reduceLT, Int.reduceLE, Int.reduceEq, Int.reduceToNat, Int.reduceBEq, ine, ne_eq, decide_not, hc, h0]
            all_goals rfl
        · simp only [walk, Nat.reduceLT, Nat.reduceBEq, Nat.reduceAdd, Nat.reduceLeDiff, reduceIte, Int.reduceLT, Int.reduceLE, Int.reduceEq, Int.reduceToNat, Int.reduceBEq, ine, ne_eq, decide_not, he]
          all_goals rfl
  · simp only [walk, Nat.reduceLT, Nat.reduceBEq, Nat.reduceAdd, Nat.reduceLeDiff, reduceIte, Int.reduceLT, Int.reduceLE, Int.reduceEq, Int.reduceToNat, Int.reduceBEq, hm, and_false, layT, ieq]
    refine callWp_of (hM S s4 b4 16 hSL l4) ?_
    have hmm := rMany_lt 16 s4 b4 (by omega)
    have hsuf := (rMany_suf 16 s4 b4).trans l4
    unfold rdIns
    generalize rMany 16 s4 b4 = n at *
    obtain ⟨n1, s5, b5⟩ := n
    simp only at hmm hsuf
    simp only [walk, Nat.reduceLT, Nat.reduceBEq, Nat.reduceAdd, Nat.reduceLeDiff, reduceIte, Int.reduceLT, Int.reduceLE, Int.reduceEq, Int.reduceToNat, Int.reduceBEq, layT]
    generalize hq : rdOps n1.toNat s5 b5 = q at *
    refine awp_loop_ind (X := Nat × List Ov × List UInt8 × Int) (fun x => ⟨[(0, .lp 0 0), (2, .lp 2 0), (3, .lp 3 0), (4, .val (.int .i64 m)), (5, .val (.int .i64 n1)), (6, .val (.int .i64 x.1)), (20, .val (.bool false))], [(0, X S x.2.2.1 x.2.2.2), (2, z6B), (3, tB' d u t (decide (m = 1)) x.2.1)]⟩)
      (fun x => x.1 ≤ n1.toNat ∧ x.2.1.length = x.1 ∧ (∀ o ∈ x.2.1, oOk o) ∧ x.2.2.1 <:+ S ∧ (x.2.1 ++ (rdOps (n1.toNat - x.1) x.2.2.1 x.2.2.2).1, (rdOps (n1.toNat - x.1) x.2.2.1 x.2.2.2).2) = q) (fun x => n1.toNat - x.1) (0, [], s5, b5) ⟨by omega, by simp, by simp, hsuf, by simpa using hq⟩ rfl ?_
    rintro R ⟨j, l, tt, e⟩ ⟨g1, g2, g3, g4, hJ⟩ ih
    simp only at g1 g2 g3 g4 hJ
    have hb2 : (l.length + 1) * 96 ≤ 140737488355328 := by omega
    simp only [walk, Nat.reduceLT, Nat.reduceBEq, Nat.reduceAdd, Nat.reduceLeDiff, reduceIte, Int.reduceLT, Int.reduceLE, Int.reduceEq, Int.reduceToNat, Int.reduceBEq]
    by_cases c : j < n1.toNat
    · have c1 : (j : Int) < n1 := by omega
      have e1 : IntKind.i64.wrap ((j : Int) + 1) = ((j + 1 : Nat) : Int) := wrap64 (by omega) (by omega)
      simp only [walk, Nat.reduceLT, Nat.reduceBEq, Nat.reduceAdd, Nat.reduceLeDiff, reduceIte, Int.reduceLT, Int.reduceLE, Int.reduceEq, Int.reduceToNat, Int.reduceBEq, c1]
      refine callWp_of (hO S tt e hS g4) ?_
      rw [rdOps_step _ _ _ _ _ c] at hJ
      obtain ⟨k1, k2⟩ := rdOp_ok (s := tt) (b := e) (Nat.le_trans g4.length_le hS)
      have step := ih (j + 1, l ++ [(rdOp tt e).1], (rdOp tt e).2.1, (rdOp tt e).2.2) ⟨by simp only; omega, by simp; omega, fun o ho => by
        rcases List.mem_append.1 ho with ho | ho
        · exact g3 o ho
        · rw [List.mem_singleton.1 ho]; exact k1, k2.trans g4, hJ⟩ (by simp only; omega)
      unfold tB' at step
      rw [← oRows_app] at step
      simp only [walk, Nat.reduceLT, Nat.reduceBEq, Nat.reduceAdd, Nat.reduceLeDiff, reduceIte, Int.reduceLT, Int.reduceLE, Int.reduceEq, Int.reduceToNat, Int.reduceBEq, oRows_len, hb2, e1]
      exact step
    · have c1 : ¬ (j : Int) < n1 := by omega
      rw [show n1.toNat - j = 0 by omega, rdOps] at hJ
      simp only [List.append_nil] at hJ
      subst hJ
      simp only [walk, Nat.reduceLT, Nat.reduceBEq, Nat.reduceAdd, Nat.reduceLeDiff, reduceIte, Int.reduceLT, Int.reduceLE, Int.reduceEq, Int.reduceToNat, Int.reduceBEq, c1, ieq, X, xdr]
      have hok : tOk ⟨d, u, t, decide (m = 1), l⟩ := ⟨by simp only; omega, g3⟩
      unfold tEnd
      by_cases he : e = 0
      · simp only [walk, Nat.reduceLT, Nat.reduceBEq, Nat.reduceAdd, Nat.reduceLeDiff, reduceIte, Int.reduceLT, Int.reduceLE, Int.reduceEq, Int.reduceToNat, Int.reduceBEq, ieq, he]
        refine callWp_of (hC ⟨d, u, t, decide (m = 1), l⟩ hok) ?_
        generalize hc : tCheck ⟨d, u, t, decide (m = 1), l⟩ = cc
        simp only [walk, Nat.reduceLT, Nat.reduceBEq, Nat.reduceAdd, Nat.reduceLeDiff, reduceIte, Int.reduceLT, Int.reduceLE, Int.reduceEq, Int.reduceToNat, Int.reduceBEq]
        refine callWp_of (hX S tt 0 cc) ?_
        simp only [walk, Nat.reduceLT, Nat.reduceBEq, Nat.reduceAdd, Nat.reduceLeDiff, reduceIte, Int.reduceLT, Int.reduceLE, Int.reduceEq, Int.reduceToNat, Int.reduceBEq, failB, X, xdr]
        by_cases h0 : cc = 0
        · simp only [walk, Nat.reduceLT, Nat.reduceBEq, Nat.reduceAdd, Nat.reduceLeDiff, reduceIte, Int.reduceLT, Int.reduceLE, Int.reduceEq, Int.reduceToNat, Int.reduceBEq, ine, ne_eq, decide_not, hc, h0]
          all_goals rfl
        · simp only [walk, Nat.reduceLT, Nat.reduceBEq, Nat.reduceAdd, Nat.reduceLeDiff, reduceIte, Int.reduceLT, Int.reduceLE, Int.reduceEq, Int.reduceToNat, Int.reduceBEq, ine, ne_eq, decide_not, hc, h0]
          all_goals rfl
      · simp only [walk, Nat.reduceLT, Nat.reduceBEq, Nat.reduceAdd, Nat.reduceLeDiff, reduceIte, Int.reduceLT, Int.reduceLE, Int.reduceEq, Int.reduceToNat, Int.reduceBEq, ine, ne_eq, decide_not, he]
        all_goals rfl
end
end Go.AR

/-! Transactions, many: read. -/
namespace Go.AR
open Go
def rdTxs : Nat → List UInt8 → Int → List Tx × List UInt8 × Int
  | 0, s, b => ([], s, b)
  | n + 1, s, b => let o := rdTx s b; let r := rdTxs n o.2.1 o.2.2; (o.1 :: r.1, r.2)
def lEnd (q : List Tx × List UInt8 × Int) : List Tx × List UInt8 × Int :=
  (if (if q.2.2 = 0 ∧ risesT q.1 = false then 2 else q.2.2) = 0 then q.1 else [], q.2.1, if q.2.2 = 0 ∧ risesT q.1 = false then 2 else q.2.2)
def rList (most : Int) (s : List UInt8) (b : Int) : List Tx × List UInt8 × Int :=
  let m := rMany most s b; lEnd (rdTxs m.1.toNat m.2.1 m.2.2)
theorem rdTxs_step (n : Nat) (s : List UInt8) (b : Int) (l : List Tx) (k : Nat) (h : k < n) :
    (l ++ (rdTxs (n - k) s b).1, (rdTxs (n - k) s b).2) = ((l ++ [(rdTx s b).1]) ++ (rdTxs (n - (k + 1)) (rdTx s b).2.1 (rdTx s b).2.2).1, (rdTxs (n - (k + 1)) (rdTx s b).2.1 (rdTx s b).2.2).2) := by
  rw [show n - k = (n - (k + 1)) + 1 by omega, rdTxs]
  simp
theorem rdOps_ok : ∀ (n : Nat) {s : List UInt8} {b : Int}, s.length ≤ 20000000 → (∀ o ∈ (rdOps n s b).1, oOk o) ∧ (rdOps n s b).2.1 <:+ s ∧ (rdOps n s b).1.length = n
  | 0, s, b, _ => ⟨by simp [rdOps], List.suffix_refl _, rfl⟩
  | n + 1, s, b, h => by
    obtain ⟨k1, k2⟩ := rdOp_ok (s := s) (b := b) h
    obtain ⟨i1, i2, i3⟩ := rdOps_ok n (s := (rdOp s b).2.1) (b := (rdOp s b).2.2) (by have := k2.length_le; omega)
    refine ⟨fun o ho => ?_, i2.trans k2, by simp [rdOps, i3]⟩
    simp only [rdOps] at ho
    rcases List.mem_cons.1 ho with rfl | ho
    · exact k1
    · exact i1 o ho
theorem tOk_z : tOk zt := ⟨by simp [zt], by simp [zt]⟩
theorem rdTx_ok {s : List UInt8} {b : Int} (hs : s.length ≤ 20000000) : tOk (rdTx s b).1 ∧ (rdTx s b).2.1 <:+ s := by
  unfold rdTx
  dsimp only
  have s1 := rdDot_suf s b
  generalize rdDot s b = x1 at *
  have s2 := (rI_suf x1.2.1 x1.2.2).trans s1
  generalize rI x1.2.1 x1.2.2 = x2 at *
  have s3 := (rI_suf x2.2.1 x2.2.2).trans s2
  generalize rI x2.2.1 x2.2.2 = x3 at *
  have s4 := (rI_suf x3.2.1 x3.2.2).trans s3
  generalize rI x3.2.1 x3.2.2 = x4 at *
  generalize (if x4.2.2 = 0 ∧ x4.1 > 1 then 3 else x4.2.2) = b5
  unfold rdIns
  dsimp only
  have hm := rMany_lt 16 x4.2.1 b5 (by omega)
  have s5 := (rMany_suf 16 x4.2.1 b5).trans s4
  generalize rMany 16 x4.2.1 b5 = m at *
  obtain ⟨i1, i2, i3⟩ := rdOps_ok m.1.toNat (s := m.2.1) (b := m.2.2) (by have := s5.length_le; omega)
  generalize rdOps m.1.toNat m.2.1 m.2.2 = q at *
  refine ⟨?_, i2.trans s5⟩
  have key : ∀ (e : Int) (x : Tx), tOk x → tOk (if e = 0 then x else zt) := by
    intro e x hx; by_cases h : e = 0
    · rw [if_pos h]; exact hx
    · rw [if_neg h]; exact tOk_z
  unfold tEnd
  exact key _ _ ⟨by simp only; omega, i1⟩
theorem rdTxs_ok : ∀ (n : Nat) {s : List UInt8} {b : Int}, s.length ≤ 20000000 → (∀ o ∈ (rdTxs n s b).1, tOk o) ∧ (rdTxs n s b).2.1 <:+ s ∧ (rdTxs n s b).1.length = n
  | 0, s, b, _ => ⟨by simp [rdTxs], List.suffix_refl _, rfl⟩
  | n + 1, s, b, h => by
    obtain ⟨k1, k2⟩ := rdTx_ok (s := s) (b := b) h
    obtain ⟨i1, i2, i3⟩ := rdTxs_ok n (s := (rdTx s b).2.1) (b := (rdTx s b).2.2) (by have := k2.length_le; omega)
    refine ⟨fun o ho => ?_, i2.trans k2, by simp [rdTxs, i3]⟩
    simp only [rdTxs] at ho
    rcases List.mem_cons.1 ho with rfl | ho
    · exact k1
    · exact i1 o ho
/-- How many can be told. -/
theorem rMany_few (most : Int) (s : List UInt8) (b : Int) (h : most ≤ 1000000 ∨ s.length ≤ 1000000) : 0 ≤ (rMany most s b).1 ∧ (rMany most s b).1 ≤ 1000000 := by
  have hr := rI_lt s b
  unfold rMany
  dsimp only
  by_cases h0 : (rI s b).2.2 = 0
  · rw [if_pos h0]
    by_cases h1 : (rI s b).1 > most
    · rw [if_pos h1]; exact ⟨by simp, by simp⟩
    · rw [if_neg h1]
      by_cases h2 : (rI s b).1 > (rI s b).2.1.length
      · rw [if_pos h2]; exact ⟨by simp, by simp⟩
      · rw [if_neg h2]; exact ⟨hr.1, by omega⟩
  · rw [if_neg h0]; exact ⟨by simp, by simp⟩
theorem rList_ok {most : Int} {s : List UInt8} {b : Int} (hs : s.length ≤ 20000000) (h : most ≤ 1000000 ∨ s.length ≤ 1000000) : (∀ x ∈ (rList most s b).1, tOk x) ∧ (rList most s b).2.1 <:+ s ∧ (rList most s b).1.length ≤ 1000000 := by
  have hm := rMany_few most s b h
  have s1 := rMany_suf most s b
  unfold rList
  dsimp only
  generalize rMany most s b = m at *
  obtain ⟨i1, i2, i3⟩ := rdTxs_ok m.1.toNat (s := m.2.1) (b := m.2.2) (by have := s1.length_le; omega)
  generalize rdTxs m.1.toNat m.2.1 m.2.2 = q at *
  unfold lEnd
  dsimp only
  by_cases hc : (if q.2.2 = 0 ∧ risesT q.1 = false then 2 else q.2.2) = 0
  · rw [if_pos hc]; exact ⟨i1, i2.trans s1, by omega⟩
  · rw [if_neg hc]; exact ⟨by simp, i2.trans s1, by simp⟩
section
variable {C : CallRel} {F : Nat → FuncId}
def S_tsRead (R : Rel) : Prop := ∀ s b (most : Int), s.length ≤ 20000000 → (most ≤ 1000000 ∨ s.length ≤ 1000000) → R [.r (rdr s b), .v (.int .i64 most)] (.val (tsP (rList most s b).1)) [rdr (rList most s b).2.1 (rList most s b).2.2]
def S_XTxs (R : Rel) : Prop := ∀ S s b (most : Int), S.length ≤ 20000000 → s <:+ S → (most ≤ 1000000 ∨ s.length ≤ 1000000) → R [.r (X S s b), .v (.int .i64 most)] (.val (tsP (rList most s b).1)) [X S (rList most s b).2.1 (rList most s b).2.2]
theorem g_txn_ReadList (hM : S_rMany (C (F n_pack_Reader_Many))) (hT : S_tRead (C (F n_txn_Read))) (hF : S_Fault (C (F n_pack_Reader_Fault))) (hR : S_tRises (C (F n_txn_Rises))) (hX : S_Fail (C (F n_pack_Reader_Fail))) : S_tsRead ((c_txn_ReadList F).gives C) := by
  intro s b most hs hw
  refine gives_of rfl ?_
  unfold c_txn_ReadList rList
  simp only [walk, Nat.reduceLT, Nat.reduceBEq, Nat.reduceAdd, Nat.reduceLeDiff, reduceIte, Int.reduceLT, Int.reduceLE, Int.reduceEq, Int.reduceToNat, Int.reduceBEq]
  refine callWp_of (hM s b most (by unfold sLen; omega)) ?_
  have hmm := rMany_few most s b hw
  have hsuf := (rMany_suf most s b).length_le
  generalize rMany most s b = n at *
  obtain ⟨n1, s5, b5⟩ := n
  simp only at hmm hsuf
  simp only [walk, Nat.reduceLT, Nat.reduceBEq, Nat.reduceAdd, Nat.reduceLeDiff, reduceIte, Int.reduceLT, Int.reduceLE, Int.reduceEq, Int.reduceToNat, Int.reduceBEq]
  generalize hq : rdTxs n1.toNat s5 b5 = q at *
  refine awp_loop_ind (X := Nat × List Tx × List UInt8 × Int) (fun x => ⟨[(0, .lp 0 0), (1, .val (.int .i64 most)), (4, .val (.sl 6 [])), (5, .own 6 (tRows x.2.1)), (8, .val (.int .i64 n1)), (9, .val (.int .i64 x.1))], [(0, rdr x.2.2.1 x.2.2.2)]⟩)
    (fun x => x.1 ≤ n1.toNat ∧ x.2.1.length = x.1 ∧ x.2.2.1.length ≤ 20000000 ∧ (x.2.1 ++ (rdTxs (n1.toNat - x.1) x.2.2.1 x.2.2.2).1, (rdTxs (n1.toNat - x.1) x.2.2.1 x.2.2.2).2) = q) (fun x => n1.toNat - x.1) (0, [], s5, b5) ⟨by omega, by simp, by simp only; omega, by simpa using hq⟩ rfl ?_
  rintro R ⟨j, l, tt, e⟩ ⟨g1, g2, g4, hJ⟩ ih
  simp only at g1 g2 g4 hJ
  have hb2 : (l.length + 1) * 64 ≤ 140737488355328 := by omega
  simp only [walk, Nat.reduceLT, Nat.reduceBEq, Nat.reduceAdd, Nat.reduceLeDiff, reduceIte, Int.reduceLT, Int.reduceLE, Int.reduceEq, Int.reduceToNat, Int.reduceBEq]
  by_cases c : j < n1.toNat
  · have c1 : (j : Int) < n1 := by omega
    have e1 : IntKind.i64.wrap ((j : Int) + 1) = ((j + 1 : Nat) : Int) := wrap64 (by omega) (by omega)
    simp only [walk, Nat.reduceLT, Nat.reduceBEq, Nat.reduceAdd, Nat.reduceLeDiff, reduceIte, Int.reduceLT, Int.reduceLE, Int.reduceEq, Int.reduceToNat, Int.reduceBEq, c1]
    refine callWp_of (hT tt e g4) ?_
    rw [rdTxs_step _ _ _ _ _ c] at hJ
    obtain ⟨k1, k2⟩ := rdTx_ok (s := tt) (b := e) g4
    have k3 := k2.length_le
    have step := ih (j + 1, l ++ [(rdTx tt e).1], (rdTx tt e).2.1, (rdTx tt e).2.2) ⟨by simp only; omega, by simp; omega, by simp only; omega, hJ⟩ (by simp only; omega)
    rw [← tRows_app] at step
    simp only [walk, Nat.reduceLT, Nat.reduceBEq, Nat.reduceAdd, Nat.reduceLeDiff, reduceIte, Int.reduceLT, Int.reduceLE, Int.reduceEq, Int.reduceToNat, Int.reduceBEq, tRows_len, hb2, e1]
    exact step
  · have c1 : ¬ (j : Int) < n1 := by omega
    rw [show n1.toNat - j = 0 by omega, rdTxs] at hJ
    simp only [List.append_nil] at hJ
    subst hJ
    simp only [walk, Nat.reduceLT, Nat.reduceBEq, Nat.reduceAdd, Nat.reduceLeDiff, reduceIte, Int.reduceLT, Int.reduceLE, Int.reduceEq, Int.reduceToNat, Int.reduceBEq, c1]
    refine callWp_of (hF tt e) ?_
    unfold lEnd
    by_cases he : e = 0
    · simp only [walk, Nat.reduceLT, Nat.reduceBEq, Nat.reduceAdd, Nat.reduceLeDiff, reduceIte, Int.reduceLT, Int.reduceLE, Int.reduceEq, Int.reduceToNat, Int.reduceBEq, ieq, he]
      refine callWp_of (hR l (by omega)) ?_
      cases hr : risesT l with
      | true =>
        simp only [walk, Nat.reduceLT, Nat.reduceBEq, Nat.reduceAdd, Nat.reduceLeDiff, reduceIte, Int.reduceLT, Int.reduceLE, Int.reduceEq, Int.reduceToNat, Int.reduceBEq]
        refine callWp_of (hF tt 0) ?_
        simp only [walk, Nat.reduceLT, Nat.reduceBEq, Nat.reduceAdd, Nat.reduceLeDiff, reduceIte, Int.reduceLT, Int.reduceLE, Int.reduceEq, Int.reduceToNat, Int.reduceBEq, ine, ne_eq, decide_not, and_false]
      | false =>
        simp only [walk, Nat.reduceLT, Nat.reduceBEq, Nat.reduceAdd, Nat.reduceLeDiff, reduceIte, Int.reduceLT, Int.reduceLE, Int.reduceEq, Int.reduceToNat, Int.reduceBEq]
        refine callWp_of (hX tt 0 2) ?_
        simp only [walk, Nat.reduceLT, Nat.reduceBEq, Nat.reduceAdd, Nat.reduceLeDiff, reduceIte, Int.reduceLT, Int.reduceLE, Int.reduceEq, Int.reduceToNat, Int.reduceBEq, failB]
        refine callWp_of (hF tt 2) ?_
        simp only [walk, Nat.reduceLT, Nat.reduceBEq, Nat.reduceAdd, Nat.reduceLeDiff, reduceIte, Int.reduceLT, Int.reduceLE, Int.reduceEq, Int.reduceToNat, Int.reduceBEq, ine, ne_eq, decide_not, and_self]
        all_goals rfl
    · simp only [walk, Nat.reduceLT, Nat.reduceBEq, Nat.reduceAdd, Nat.reduceLeDiff, reduceIte, Int.reduceLT, Int.reduceLE, Int.reduceEq, Int.reduceToNat, Int.reduceBEq, ieq, he]
      refine callWp_of (hF tt e) ?_
      simp only [walk, Nat.reduceLT, Nat.reduceBEq, Nat.reduceAdd, Nat.reduceLeDiff, reduceIte, Int.reduceLT, Int.reduceLE, Int.reduceEq, Int.reduceToNat, Int.reduceBEq, ine, ne_eq, decide_not, he, false_and]
      all_goals rfl
theorem g_pref12_ReadList (hM : S_XMany (C (F n_pref02_Reader_Many))) (hT : S_XTx (C (F n_pref12_Read))) (hR : S_tRises (C (F n_pref12_Rises))) : S_XTxs ((c_pref12_ReadList F).gives C) := by
  intro S s b most hS hs hw
  refine gives_of rfl ?_
  unfold c_pref12_ReadList rList
  simp only [walk, Nat.reduceLT, Nat.reduceBEq, Nat.reduceAdd, Nat.reduceLeDiff, reduceIte, Int.reduceLT, Int.reduceLE, Int.reduceEq, Int.reduceToNat, Int.reduceBEq]
  refine callWp_of (hM S s b most (by unfold sLen; omega) hs) ?_
  have hmm := rMany_few most s b hw
  have hsuf := (rMany_suf most s b).trans hs
  generalize rMany most s b = n at *
  obtain ⟨n1, s5, b5⟩ := n
  simp only at hmm hsuf
  simp only [walk, Nat.reduceLT, Nat.reduceBEq, Nat.reduceAdd, Nat.reduceLeDiff, reduceIte, Int.reduceLT, Int.reduceLE, Int.reduceEq, Int.reduceToNat, Int.reduceBEq]
  generalize hq : rdTxs n1.toNat s5 b5 = q at *
  refine awp_loop_ind (X := Nat × List Tx × List UInt8 × Int) (fun x => ⟨[(0, .lp 0 0), (1, .val (.int .i64 most)), (4, .val (.sl 6 [])), (5, .val (.int .i64 n1)), (6, .own 6 (tRows x.2.1)), (7, .val (.int .i64 x.1))], [(0, X S x.2.2.1 x.2.2.2)]⟩)
    (fun x => x.1 ≤ n1.toNat ∧ x.2.1.length = x.1 ∧ x.2.2.1 <:+ S ∧ (x.2.1 ++ (rdTxs (n1.toNat - x.1) x.2.2.1 x.2.2.2).1, (rdTxs (n1.toNat - x.1) x.2.2.1 x.2.2.2).2) = q) (fun x => n1.toNat - x.1) (0, [], s5, b5) ⟨by omega, by simp, hsuf, by simpa using hq⟩ rfl ?_
  rintro R ⟨j, l, tt, e⟩ ⟨g1, g2, g4, hJ⟩ ih
  simp only at g1 g2 g4 hJ
  have hb2 : (l.length + 1) * 64 ≤ 140737488355328 := by omega
  simp only [walk, Nat.reduceLT, Nat.reduceBEq, Nat.reduceAdd, Nat.reduceLeDiff, reduceIte, Int.reduceLT, Int.reduceLE, Int.reduceEq, Int.reduceToNat, Int.reduceBEq]
  by_cases c : j < n1.toNat
  · have c1 : (j : Int) < n1 := by omega
    have e1 : IntKind.i64.wrap ((j : Int) + 1) = ((j + 1 : Nat) : Int) := wrap64 (by omega) (by omega)
    simp only [walk, Nat.reduceLT, Nat.reduceBEq, Nat.reduceAdd, Nat.reduceLeDiff, reduceIte, Int.reduceLT, Int.reduceLE, Int.reduceEq, Int.reduceToNat, Int.reduceBEq, c1]
    refine callWp_of (hT S tt e hS g4) ?_
    rw [rdTxs_step _ _ _ _ _ c] at hJ
    obtain ⟨k1, k2⟩ := rdTx_ok (s := tt) (b := e) (Nat.le_trans g4.length_le hS)
    have step := ih (j + 1, l ++ [(rdTx tt e).1], (rdTx tt e).2.1, (rdTx tt e).2.2) ⟨by simp only; omega, by simp; omega, k2.trans g4, hJ⟩ (by simp only; omega)
    rw [← tRows_app] at step
    simp only [walk, Nat.reduceLT, Nat.reduceBEq, Nat.reduceAdd, Nat.reduceLeDiff, reduceIte, Int.reduceLT, Int.reduceLE, Int.reduceEq, Int.reduceToNat, Int.reduceBEq, tRows_len, hb2, e1]
    exact step
  · have c1 : ¬ (j : Int) < n1 := by omega
    rw [show n1.toNat - j = 0 by omega, rdTxs] at hJ
    simp only [List.append_nil] at hJ
    subst hJ
    simp only [walk, Nat.reduceLT, Nat.reduceBEq, Nat.reduceAdd, Nat.reduceLeDiff, reduceIte, Int.reduceLT, Int.reduceLE, Int.reduceEq, Int.reduceToNat, Int.reduceBEq, c1, X, xdr, ieq]
    unfold lEnd
    by_cases he : e = 0
    · simp only [walk, Nat.reduceLT, Nat.reduceBEq, Nat.reduceAdd, Nat.reduceLeDiff, reduceIte, Int.reduceLT, Int.reduceLE, Int.reduceEq, Int.reduceToNat, Int.reduceBEq, ieq, he]
      refine callWp_of (hR l (by omega)) ?_
      cases hr : risesT l with
      | true => simp only [walk, Nat.reduceLT, Nat.reduceBEq, Nat.reduceAdd, Nat.reduceLeDiff, reduceIte, Int.reduceLT, Int.reduceLE, Int.reduceEq, Int.reduceToNat, Int.reduceBEq, ine, ne_eq, decide_not, and_false]
      | false =>
        simp only [walk, Nat.reduceLT, Nat.reduceBEq, Nat.reduceAdd, Nat.reduceLeDiff, reduceIte, Int.reduceLT, Int.reduceLE, Int.reduceEq, Int.reduceToNat, Int.reduceBEq, ine, ne_eq, decide_not, and_self]
        all_goals rfl
    · simp only [walk, Nat.reduceLT, Nat.reduceBEq, Nat.reduceAdd, Nat.reduceLeDiff, reduceIte, Int.reduceLT, Int.reduceLE, Int.reduceEq, Int.reduceToNat, Int.reduceBEq, ieq, ine, ne_eq, decide_not, he, false_and]
      all_goals rfl
end
end Go.AR

/-! Transactions: what is read, the law. -/
namespace Go.AR
open Go
section
variable {C : CallRel} {F : Nat → FuncId}
def S_tReads (R : Rel) : Prop := ∀ (s : List UInt8) (most : Int), R [.v (.str s), .v (.int .i64 most)] (.val (.bool true)) []
theorem g_TxnReads (hA : S_yes (C (F n_plaw12_awake))) (h1 : S_Open (C (F n_pack_Open))) (h2 : S_tRead (C (F n_txn_Read))) (h3 : S_XTx (C (F n_pref12_Read))) (h4 : S_tSame (C (F n_pref12_Same))) (h5 : S_Fault (C (F n_pack_Reader_Fault))) (h6 : S_Left (C (F n_pack_Reader_Left))) (h7 : S_XLeft (C (F n_pref02_Reader_Left))) (h8 : S_tsRead (C (F n_txn_ReadList))) (h9 : S_XTxs (C (F n_pref12_ReadList))) (h10 : S_tAll (C (F n_pref12_All))) : S_tReads ((c_plaw12_TxnReads F).gives C) := by
  intro s most
  refine gives_of rfl ?_
  unfold c_plaw12_TxnReads
  simp only [walk, Nat.reduceLT, Nat.reduceBEq, Nat.reduceAdd, Nat.reduceLeDiff, reduceIte, Int.reduceLT, Int.reduceLE, Int.reduceEq, Int.reduceToNat, Int.reduceBEq, gt_iff_lt]
  by_cases hl : 600 < s.length
  · have hl' : (600 : Int) < s.length := by omega
    have c0 : (600 : Int) ≤ s.length := by omega
    simp only [walk, Nat.reduceLT, Nat.reduceBEq, Nat.reduceAdd, Nat.reduceLeDiff, reduceIte, Int.reduceLT, Int.reduceLE, Int.reduceEq, Int.reduceToNat, Int.reduceBEq, hl', c0]
    have hlen : (s.take 600).length ≤ 600 := by rw [List.length_take]; omega
    generalize s.take 600 = u at *
    refine callWp_of (h1 _) ?_
    have hX : X u u 0 = .cells [.val (.str u), .val (.int .i64 0), .val (.int .i64 0)] := by simp [X, xdr]
    have k3 := h3 u u 0 (by omega) (List.suffix_refl _)
    have k9 := h9 u u 0 most (by omega) (List.suffix_refl _) (.inr (by omega))
    obtain ⟨hok, hsuf⟩ := rdTx_ok (s := u) (b := 0) (by omega)
    obtain ⟨hok2, hsuf2, hlen2⟩ := rList_ok (most := most) (s := u) (b := 0) (by omega) (.inr (by omega))
    rw [hX] at k3 k9
    simp only [walk, Nat.reduceLT, Nat.reduceBEq, Nat.reduceAdd, Nat.reduceLeDiff, reduceIte, Int.reduceLT, Int.reduceLE, Int.reduceEq, Int.reduceToNat, Int.reduceBEq]
    refine callWp_of (h2 u 0 (by omega)) ?_
    simp only [walk, Nat.reduceLT, Nat.reduceBEq, Nat.reduceAdd, Nat.reduceLeDiff, reduceIte, Int.reduceLT, Int.reduceLE, Int.reduceEq, Int.reduceToNat, Int.reduceBEq]
    refine callWp_of k3 ?_
    generalize rdTx u 0 = r at *
    have hl := hsuf.length_le
    simp only [walk, Nat.reduceLT, Nat.reduceBEq, Nat.reduceAdd, Nat.reduceLeDiff, reduceIte, Int.reduceLT, Int.reduceLE, Int.reduceEq, Int.reduceToNat, Int.reduceBEq]
    refine callWp_of (h4 _ _ hok) ?_
    simp only [walk, Nat.reduceLT, Nat.reduceBEq, Nat.reduceAdd, Nat.reduceLeDiff, reduceIte, Int.reduceLT, Int.reduceLE, Int.reduceEq, Int.reduceToNat, Int.reduceBEq]
    refine callWp_of (h5 _ _) ?_
    simp only [walk, Nat.reduceLT, Nat.reduceBEq, Nat.reduceAdd, Nat.reduceLeDiff, reduceIte, Int.reduceLT, Int.reduceLE, Int.reduceEq, Int.reduceToNat, Int.reduceBEq, X, xdr, bne_self_eq_false]
    refine callWp_of (h6 _ _ (by unfold sLen; omega)) ?_
    simp only [walk, Nat.reduceLT, Nat.reduceBEq, Nat.reduceAdd, Nat.reduceLeDiff, reduceIte, Int.reduceLT, Int.reduceLE, Int.reduceEq, Int.reduceToNat, Int.reduceBEq]
    refine callWp_of (h7 u r.2.1 r.2.2 (by unfold sLen; omega) hsuf) ?_
    simp only [walk, Nat.reduceLT, Nat.reduceBEq, Nat.reduceAdd, Nat.reduceLeDiff, reduceIte, Int.reduceLT, Int.reduceLE, Int.reduceEq, Int.reduceToNat, Int.reduceBEq, bne_self_eq_false]
    refine callWp_of (h1 _) ?_
    simp only [walk, Nat.reduceLT, Nat.reduceBEq, Nat.reduceAdd, Nat.reduceLeDiff, reduceIte, Int.reduceLT, Int.reduceLE, Int.reduceEq, Int.reduceToNat, Int.reduceBEq]
    refine callWp_of (h8 u 0 most (by omega) (.inr (by omega))) ?_
    simp only [walk, Nat.reduceLT, Nat.reduceBEq, Nat.reduceAdd, Nat.reduceLeDiff, reduceIte, Int.reduceLT, Int.reduceLE, Int.reduceEq, Int.reduceToNat, Int.reduceBEq]
    refine callWp_of k9 ?_
    generalize rList most u 0 = q at *
    have hl2 := hsuf2.length_le
    simp only [walk, Nat.reduceLT, Nat.reduceBEq, Nat.reduceAdd, Nat.reduceLeDiff, reduceIte, Int.reduceLT, Int.reduceLE, Int.reduceEq, Int.reduceToNat, Int.reduceBEq]
    refine callWp_of (h10 _ _ (by omega) hok2) ?_
    simp only [walk, Nat.reduceLT, Nat.reduceBEq, Nat.reduceAdd, Nat.reduceLeDiff, reduceIte, Int.reduceLT, Int.reduceLE, Int.reduceEq, Int.reduceToNat, Int.reduceBEq]
    refine callWp_of (h5 _ _) ?_
    simp only [walk, Nat.reduceLT, Nat.reduceBEq, Nat.reduceAdd, Nat.reduceLeDiff, reduceIte, Int.reduceLT, Int.reduceLE, Int.reduceEq, Int.reduceToNat, Int.reduceBEq, X, xdr, beq_self_eq_true]
    refine callWp_of (h6 _ _ (by unfold sLen; omega)) ?_
    simp only [walk, Nat.reduceLT, Nat.reduceBEq, Nat.reduceAdd, Nat.reduceLeDiff, reduceIte, Int.reduceLT, Int.reduceLE, Int.reduceEq, Int.reduceToNat, Int.reduceBEq]
    refine callWp_of (h7 u q.2.1 q.2.2 (by unfold sLen; omega) hsuf2) ?_
    simp only [walk, Nat.reduceLT, Nat.reduceBEq, Nat.reduceAdd, Nat.reduceLeDiff, reduceIte, Int.reduceLT, Int.reduceLE, Int.reduceEq, Int.reduceToNat, Int.reduceBEq, beq_self_eq_true]
    refine callWp_of hA ?_
    simp only [walk, Nat.reduceLT, Nat.reduceBEq, Nat.reduceAdd, Nat.reduceLeDiff, reduceIte, Int.reduceLT, Int.reduceLE, Int.reduceEq, Int.reduceToNat, Int.reduceBEq]
  · have hl' : ¬ (600 : Int) < s.length := by omega
    have hlen : s.length ≤ 600 := by omega
    simp only [walk, Nat.reduceLT, Nat.reduceBEq, Nat.reduceAdd, Nat.reduceLeDiff, reduceIte, Int.reduceLT, Int.reduceLE, Int.reduceEq, Int.reduceToNat, Int.reduceBEq, hl']
    generalize s = u at *
    refine callWp_of (h1 _) ?_
    have hX : X u u 0 = .cells [.val (.str u), .val (.int .i64 0), .val (.int .i64 0)] := by simp [X, xdr]
    have k3 := h3 u u 0 (by omega) (List.suffix_refl _)
    have k9 := h9 u u 0 most (by omega) (List.suffix_refl _) (.inr (by omega))
    obtain ⟨hok, hsuf⟩ := rdTx_ok (s := u) (b := 0) (by omega)
    obtain ⟨hok2, hsuf2, hlen2⟩ := rList_ok (most := most) (s := u) (b := 0) (by omega) (.inr (by omega))
    rw [hX] at k3 k9
    simp only [walk, Nat.reduceLT, Nat.reduceBEq, Nat.reduceAdd, Nat.reduceLeDiff, reduceIte, Int.reduceLT, Int.reduceLE, Int.reduceEq, Int.reduceToNat, Int.reduceBEq]
    refine callWp_of (h2 u 0 (by omega)) ?_
    simp only [walk, Nat.reduceLT, Nat.reduceBEq, Nat.reduceAdd, Nat.reduceLeDiff, reduceIte, Int.reduceLT, Int.reduceLE, Int.reduceEq, Int.reduceToNat, Int.reduceBEq]
    refine callWp_of k3 ?_
    generalize rdTx u 0 = r at *
    have hl := hsuf.length_le
    simp only [walk, Nat.reduceLT, Nat.reduceBEq, Nat.reduceAdd, Nat.reduceLeDiff, reduceIte, Int.reduceLT, Int.reduceLE, Int.reduceEq, Int.reduceToNat, Int.reduceBEq]
    refine callWp_of (h4 _ _ hok) ?_
    simp only [walk, Nat.reduceLT, Nat.reduceBEq, Nat.reduceAdd, Nat.reduceLeDiff, reduceIte, Int.reduceLT, Int.reduceLE, Int.reduceEq, Int.reduceToNat, Int.reduceBEq]
    refine callWp_of (h5 _ _) ?_
    simp only [walk, Nat.reduceLT, Nat.reduceBEq, Nat.reduceAdd, Nat.reduceLeDiff, reduceIte, Int.reduceLT, Int.reduceLE, Int.reduceEq, Int.reduceToNat, Int.reduceBEq, X, xdr, bne_self_eq_false]
    refine callWp_of (h6 _ _ (by unfold sLen; omega)) ?_
    simp only [walk, Nat.reduceLT, Nat.reduceBEq, Nat.reduceAdd, Nat.reduceLeDiff, reduceIte, Int.reduceLT, Int.reduceLE, Int.reduceEq, Int.reduceToNat, Int.reduceBEq]
    refine callWp_of (h7 u r.2.1 r.2.2 (by unfold sLen; omega) hsuf) ?_
    simp only [walk, Nat.reduceLT, Nat.reduceBEq, Nat.reduceAdd, Nat.reduceLeDiff, reduceIte, Int.reduceLT, Int.reduceLE, Int.reduceEq, Int.reduceToNat, Int.reduceBEq, bne_self_eq_false]
    refine callWp_of (h1 _) ?_
    simp only [walk, Nat.reduceLT, Nat.reduceBEq, Nat.reduceAdd, Nat.reduceLeDiff, reduceIte, Int.reduceLT, Int.reduceLE, Int.reduceEq, Int.reduceToNat, Int.reduceBEq]
    refine callWp_of (h8 u 0 most (by omega) (.inr (by omega))) ?_
    simp only [walk, Nat.reduceLT, Nat.reduceBEq, Nat.reduceAdd, Nat.reduceLeDiff, reduceIte, Int.reduceLT, Int.reduceLE, Int.reduceEq, Int.reduceToNat, Int.reduceBEq]
    refine callWp_of k9 ?_
    generalize rList most u 0 = q at *
    have hl2 := hsuf2.length_le
    simp only [walk, Nat.reduceLT, Nat.reduceBEq, Nat.reduceAdd, Nat.reduceLeDiff, reduceIte, Int.reduceLT, Int.reduceLE, Int.reduceEq, Int.reduceToNat, Int.reduceBEq]
    refine callWp_of (h10 _ _ (by omega) hok2) ?_
    simp only [walk, Nat.reduceLT, Nat.reduceBEq, Nat.reduceAdd, Nat.reduceLeDiff, reduceIte, Int.reduceLT, Int.reduceLE, Int.reduceEq, Int.reduceToNat, Int.reduceBEq]
    refine callWp_of (h5 _ _) ?_
    simp only [walk, Nat.reduceLT, Nat.reduceBEq, Nat.reduceAdd, Nat.reduceLeDiff, reduceIte, Int.reduceLT, Int.reduceLE, Int.reduceEq, Int.reduceToNat, Int.reduceBEq, X, xdr, beq_self_eq_true]
    refine callWp_of (h6 _ _ (by unfold sLen; omega)) ?_
    simp only [walk, Nat.reduceLT, Nat.reduceBEq, Nat.reduceAdd, Nat.reduceLeDiff, reduceIte, Int.reduceLT, Int.reduceLE, Int.reduceEq, Int.reduceToNat, Int.reduceBEq]
    refine callWp_of (h7 u q.2.1 q.2.2 (by unfold sLen; omega) hsuf2) ?_
    simp only [walk, Nat.reduceLT, Nat.reduceBEq, Nat.reduceAdd, Nat.reduceLeDiff, reduceIte, Int.reduceLT, Int.reduceLE, Int.reduceEq, Int.reduceToNat, Int.reduceBEq, beq_self_eq_true]
    refine callWp_of hA ?_
    simp only [walk, Nat.reduceLT, Nat.reduceBEq, Nat.reduceAdd, Nat.reduceLeDiff, reduceIte, Int.reduceLT, Int.reduceLE, Int.reduceEq, Int.reduceToNat, Int.reduceBEq]
end
end Go.AR
