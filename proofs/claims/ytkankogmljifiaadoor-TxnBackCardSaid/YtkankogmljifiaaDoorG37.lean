import Derived.Test.YtkankogmljifiaaDoorG36
import Derived.Test.YtkankogmljifiaaDoorG35
set_option linter.all false
/-! Transactions: the questions. -/
namespace Go.AR
open Go
section
variable {C : CallRel} {F : Nat → FuncId}
def oRows (l : List Ov) : List (List PV) := l.map oCells
theorem oRows_len (l : List Ov) : (oRows l).length = l.length := by simp [oRows]
theorem oRows_get {l : List Ov} {k : Nat} (h : k < l.length) : (oRows l)[k]? = some (oCells l[k]) := by simp [oRows, h]
abbrev osP (l : List Ov) : PV := .sl 7 (oRows l)
abbrev tCells (x : Tx) : List PV := [.int .i64 x.d.1, .int .i64 x.d.2, .int .i64 x.u, .int .i64 x.t, .bool x.un, osP x.ops]
abbrev tP (x : Tx) : PV := .agg (tCells x)
abbrev tB (x : Tx) : Blk := .cells [.val (.int .i64 x.d.1), .val (.int .i64 x.d.2), .val (.int .i64 x.u), .val (.int .i64 x.t), .val (.bool x.un), .val (osP x.ops)]
def tOk (x : Tx) : Prop := x.ops.length ≤ 2000000 ∧ ∀ o ∈ x.ops, oOk o
def S_tShort (R : Rel) : Prop := ∀ x : Tx, R [.v (tP x)] (.val (.bool (tShort x))) []
def S_tCheck (R : Rel) : Prop := ∀ x : Tx, tOk x → R [.v (tP x)] (.val (.int .i64 (tCheck x))) []
def S_tCmp (R : Rel) : Prop := ∀ a b : Tx, R [.v (tP a), .v (tP b)] (.val (.int .i64 (tcmpT a b))) []
def S_tSame (R : Rel) : Prop := ∀ a b : Tx, tOk a → R [.v (tP a), .v (tP b)] (.val (.bool (decide (a = b)))) []
theorem g_pref12_Short (h : S_oShort (C (F n_pref11_Short))) : S_tShort ((c_pref12_Short F).gives C) := by
  intro x
  refine gives_of rfl ?_
  unfold c_pref12_Short tShort
  have e0 : ((x.ops.length : Int) > 20) = (20 < x.ops.length) := by apply propext; omega
  simp only [walk, Nat.reduceLT, Nat.reduceBEq, Nat.reduceAdd, Nat.reduceLeDiff, reduceIte, Int.reduceLT, Int.reduceLE, Int.reduceEq, Int.reduceToNat, Int.reduceBEq, oRows_len, e0]
  by_cases hl : 20 < x.ops.length
  · have : ¬ x.ops.length ≤ 20 := by omega
    simp only [walk, Nat.reduceLT, Nat.reduceBEq, Nat.reduceAdd, Nat.reduceLeDiff, reduceIte, Int.reduceLT, Int.reduceLE, Int.reduceEq, Int.reduceToNat, Int.reduceBEq, hl, this]
  · have hl2 : x.ops.length ≤ 20 := by omega
    simp only [walk, Nat.reduceLT, Nat.reduceBEq, Nat.reduceAdd, Nat.reduceLeDiff, reduceIte, Int.reduceLT, Int.reduceLE, Int.reduceEq, Int.reduceToNat, Int.reduceBEq, hl, hl2]
    refine awp_loop_ind (X := Nat) (fun k => ⟨[(0, .val (tP x)), (1, .lp 1 0), (2, .val (.bool false)), (3, .val (.int .i64 k)), (7, .val (.bool false))], [(1, tB x)]⟩)
      (fun k => k ≤ x.ops.length ∧ (x.ops.take k).all oShort = true) (fun k => x.ops.length - k) 0 ⟨by omega, by simp⟩ rfl ?_
    rintro R k ⟨hk, hJ⟩ ih
    simp only [walk, Nat.reduceLT, Nat.reduceBEq, Nat.reduceAdd, Nat.reduceLeDiff, reduceIte, Int.reduceLT, Int.reduceLE, Int.reduceEq, Int.reduceToNat, Int.reduceBEq, oRows_len]
    by_cases c : k < x.ops.length
    · have c1 : (k : Int) < x.ops.length := by omega
      have c0 : (0 : Int) ≤ k := by omega
      have e1 : IntKind.i64.wrap ((k : Int) + 1) = ((k + 1 : Nat) : Int) := wrap64 (by omega) (by omega)
      simp only [walk, Nat.reduceLT, Nat.reduceBEq, Nat.reduceAdd, Nat.reduceLeDiff, reduceIte, Int.reduceLT, Int.reduceLE, Int.reduceEq, Int.reduceToNat, Int.reduceBEq, c1, oRows_get c, oRows_len]
      refine callWp_of (h x.ops[k]) ?_
      cases hr : oShort x.ops[k] with
      | true =>
        simp only [walk, Nat.reduceLT, Nat.reduceBEq, Nat.reduceAdd, Nat.reduceLeDiff, reduceIte, Int.reduceLT, Int.reduceLE, Int.reduceEq, Int.reduceToNat, Int.reduceBEq, e1]
        refine ih (k + 1) ⟨by omega, ?_⟩ (by omega)
        rw [List.take_add_one, List.getElem?_eq_getElem c, List.all_append, hJ]
        simp [hr]
      | false =>
        have hf : x.ops.all oShort = false := by
          rw [Bool.eq_false_iff]; intro h
          have := List.all_eq_true.1 h _ (List.getElem_mem c)
          rw [hr] at this; cases this
        simp only [walk, Nat.reduceLT, Nat.reduceBEq, Nat.reduceAdd, Nat.reduceLeDiff, reduceIte, Int.reduceLT, Int.reduceLE, Int.reduceEq, Int.reduceToNat, Int.reduceBEq, hf]
    · have c1 : ¬ (k : Int) < x.ops.length := by omega
      rw [List.take_of_length_le (by omega)] at hJ
      simp only [walk, Nat.reduceLT, Nat.reduceBEq, Nat.reduceAdd, Nat.reduceLeDiff, reduceIte, Int.reduceLT, Int.reduceLE, Int.reduceEq, Int.reduceToNat, Int.reduceBEq, c1, hJ]
theorem g_txn_Compare (h : S_icmp (C (F n_cmp_Compare_int))) (h2 : S_dcmp (C (F n_dot_Compare))) (ho : S_or2 (C (F n_cmp_Or_int))) : S_tCmp ((c_txn_Compare F).gives C) := by
  intro a b
  refine gives_of rfl ?_
  unfold c_txn_Compare
  simp only [walk, Nat.reduceLT, Nat.reduceBEq, Nat.reduceAdd, Nat.reduceLeDiff, reduceIte, Int.reduceLT, Int.reduceLE, Int.reduceEq, Int.reduceToNat, Int.reduceBEq]
  refine callWp_of (h _ _) ?_
  simp only [walk, Nat.reduceLT, Nat.reduceBEq, Nat.reduceAdd, Nat.reduceLeDiff, reduceIte, Int.reduceLT, Int.reduceLE, Int.reduceEq, Int.reduceToNat, Int.reduceBEq]
  refine callWp_of (h2 a.d b.d) ?_
  simp only [walk, Nat.reduceLT, Nat.reduceBEq, Nat.reduceAdd, Nat.reduceLeDiff, reduceIte, Int.reduceLT, Int.reduceLE, Int.reduceEq, Int.reduceToNat, Int.reduceBEq]
  refine callWp_of (ho _ _) ?_
  simp only [walk, Nat.reduceLT, Nat.reduceBEq, Nat.reduceAdd, Nat.reduceLeDiff, reduceIte, Int.reduceLT, Int.reduceLE, Int.reduceEq, Int.reduceToNat, Int.reduceBEq, tcmpT]
theorem g_txn_Check (hD : S_dotOk (C (F n_dot_Right))) (hG : S_oGone (C (F n_op_Gone))) (hC : S_oCheck (C (F n_op_Check))) : S_tCheck ((c_txn_Check F).gives C) := by
  intro x hx
  refine gives_of rfl ?_
  unfold c_txn_Check tCheck
  obtain ⟨hl, hok⟩ := hx
  simp only [walk, Nat.reduceLT, Nat.reduceBEq, Nat.reduceAdd, Nat.reduceLeDiff, reduceIte, Int.reduceLT, Int.reduceLE, Int.reduceEq, Int.reduceToNat, Int.reduceBEq]
  refine callWp_of (hD x.d) ?_
  cases hd : dotOk x.d with
  | false => simp only [walk, Nat.reduceLT, Nat.reduceBEq, Nat.reduceAdd, Nat.reduceLeDiff, reduceIte, Int.reduceLT, Int.reduceLE, Int.reduceEq, Int.reduceToNat, Int.reduceBEq, true_or]
  | true =>
  simp only [walk, Nat.reduceLT, Nat.reduceBEq, Nat.reduceAdd, Nat.reduceLeDiff, reduceIte, Int.reduceLT, Int.reduceLE, Int.reduceEq, Int.reduceToNat, Int.reduceBEq]
  by_cases h1 : x.u < 0
  · simp only [walk, Nat.reduceLT, Nat.reduceBEq, Nat.reduceAdd, Nat.reduceLeDiff, reduceIte, Int.reduceLT, Int.reduceLE, Int.reduceEq, Int.reduceToNat, Int.reduceBEq, h1, or_true, true_or]
  by_cases h2 : x.u > 7
  · have h2' : x.u ≥ 8 := by omega
    simp only [walk, Nat.reduceLT, Nat.reduceBEq, Nat.reduceAdd, Nat.reduceLeDiff, reduceIte, Int.reduceLT, Int.reduceLE, Int.reduceEq, Int.reduceToNat, Int.reduceBEq, h1, h2, h2', or_true, true_or]
  have h2' : ¬ x.u ≥ 8 := by omega
  by_cases h3 : x.t < 1
  · simp only [walk, Nat.reduceLT, Nat.reduceBEq, Nat.reduceAdd, Nat.reduceLeDiff, reduceIte, Int.reduceLT, Int.reduceLE, Int.reduceEq, Int.reduceToNat, Int.reduceBEq, h1, h2, h2', h3, or_true, true_or]
  by_cases h4 : x.t > 1099511627776
  · simp only [walk, Nat.reduceLT, Nat.reduceBEq, Nat.reduceAdd, Nat.reduceLeDiff, reduceIte, Int.reduceLT, Int.reduceLE, Int.reduceEq, Int.reduceToNat, Int.reduceBEq, h1, h2, h2', h3, h4, or_true, true_or]
  simp only [walk, Nat.reduceLT, Nat.reduceBEq, Nat.reduceAdd, Nat.reduceLeDiff, reduceIte, Int.reduceLT, Int.reduceLE, Int.reduceEq, Int.reduceToNat, Int.reduceBEq, h1, h2, h2', h3, h4, or_self, oRows_len, ieq]
  by_cases h5 : x.ops.length = 0
  · have h5' : (x.ops.length : Int) = 0 := by omega
    simp only [walk, Nat.reduceLT, Nat.reduceBEq, Nat.reduceAdd, Nat.reduceLeDiff, reduceIte, Int.reduceLT, Int.reduceLE, Int.reduceEq, Int.reduceToNat, Int.reduceBEq, h5, h5', ieq]
  have h5' : ¬ (x.ops.length : Int) = 0 := by omega
  by_cases h6 : x.ops.length > 16
  · have h6' : (x.ops.length : Int) > 16 := by omega
    simp only [walk, Nat.reduceLT, Nat.reduceBEq, Nat.reduceAdd, Nat.reduceLeDiff, reduceIte, Int.reduceLT, Int.reduceLE, Int.reduceEq, Int.reduceToNat, Int.reduceBEq, h5, h5', h6, h6', oRows_len]
  have h6' : ¬ (x.ops.length : Int) > 16 := by omega
  simp only [walk, Nat.reduceLT, Nat.reduceBEq, Nat.reduceAdd, Nat.reduceLeDiff, reduceIte, Int.reduceLT, Int.reduceLE, Int.reduceEq, Int.reduceToNat, Int.reduceBEq, h5, h5', h6, h6', oRows_len]
  refine awp_loop_ind (X := Nat) (fun k => ⟨[(0, .val (tP x)), (1, .lp 1 0), (2, .val (.int .i64 0)), (6, .val (.bool false)), (27, .val (.bool false)), (32, .val (.bool false)), (38, .val (osP x.ops)), (39, .val (.int .i64 x.ops.length)), (40, .val (.int .i64 k))], [(1, tB x)]⟩)
    (fun k => k ≤ x.ops.length ∧ ∀ j, j < k → ∀ h : j < x.ops.length, oCheck x.ops[j] = 0 ∨ (x.un && oGone x.ops[j]) = true) (fun k => x.ops.length - k) 0 ⟨by omega, by omega⟩ rfl ?_
  rintro R k ⟨hk, hJ⟩ ih
  simp only [walk, Nat.reduceLT, Nat.reduceBEq, Nat.reduceAdd, Nat.reduceLeDiff, reduceIte, Int.reduceLT, Int.reduceLE, Int.reduceEq, Int.reduceToNat, Int.reduceBEq]
  rw [opsCheck_split x.un x.ops k hJ]
  by_cases c : k < x.ops.length
  · have c1 : (k : Int) < x.ops.length := by omega
    have c0 : (0 : Int) ≤ k := by omega
    have e1 : IntKind.i64.wrap ((k : Int) + 1) = ((k + 1 : Nat) : Int) := wrap64 (by omega) (by omega)
    have next : (oCheck x.ops[k] = 0 ∨ (x.un && oGone x.ops[k]) = true) → _ := fun h => ih (k + 1) ⟨by omega, fun j hj hl => by
      by_cases e : j = k
      · subst e; exact h
      · exact hJ j (by omega) hl⟩ (by omega)
    rw [List.drop_eq_getElem_cons c, opsCheck]
    have hok := hok _ (List.getElem_mem c)
    have hgk := oRows_get c
    generalize x.ops[k] = o at *
    have hG := hG o
    have hC := hC o hok
    simp only [walk, Nat.reduceLT, Nat.reduceBEq, Nat.reduceAdd, Nat.reduceLeDiff, reduceIte, Int.reduceLT, Int.reduceLE, Int.reduceEq, Int.reduceToNat, Int.reduceBEq, c1, hgk]
    cases hun : x.un with
    | false =>
      simp only [walk, Nat.reduceLT, Nat.reduceBEq, Nat.reduceAdd, Nat.reduceLeDiff, reduceIte, Int.reduceLT, Int.reduceLE, Int.reduceEq, Int.reduceToNat, Int.reduceBEq]
      refine callWp_of hC ?_
      by_cases hc : oCheck o = 0
      · simp only [walk, Nat.reduceLT, Nat.reduceBEq, Nat.reduceAdd, Nat.reduceLeDiff, reduceIte, Int.reduceLT, Int.reduceLE, Int.reduceEq, Int.reduceToNat, Int.reduceBEq, hc, bne_self_eq_false, e1]
        rw [hun] at ih next
        exact next (.inl hc)
      · have hc' : (oCheck o != 0) = true := by simp [hc]
        simp only [walk, Nat.reduceLT, Nat.reduceBEq, Nat.reduceAdd, Nat.reduceLeDiff, reduceIte, Int.reduceLT, Int.reduceLE, Int.reduceEq, Int.reduceToNat, Int.reduceBEq, hc', hc, ne_eq, and_self]
    | true =>
      simp only [walk, Nat.reduceLT, Nat.reduceBEq, Nat.reduceAdd, Nat.reduceLeDiff, reduceIte, Int.reduceLT, Int.reduceLE, Int.reduceEq, Int.reduceToNat, Int.reduceBEq]
      refine callWp_of hG ?_
      cases hg : oGone o with
      | true =>
        simp only [walk, Nat.reduceLT, Nat.reduceBEq, Nat.reduceAdd, Nat.reduceLeDiff, reduceIte, Int.reduceLT, Int.reduceLE, Int.reduceEq, Int.reduceToNat, Int.reduceBEq, e1]
        rw [hun] at next
        exact next (.inr (by simp [hg]))
      | false =>
        simp only [walk, Nat.reduceLT, Nat.reduceBEq, Nat.reduceAdd, Nat.reduceLeDiff, reduceIte, Int.reduceLT, Int.reduceLE, Int.reduceEq, Int.reduceToNat, Int.reduceBEq]
        refine callWp_of hC ?_
        by_cases hc : oCheck o = 0
        · simp only [walk, Nat.reduceLT, Nat.reduceBEq, Nat.reduceAdd, Nat.reduceLeDiff, reduceIte, Int.reduceLT, Int.reduceLE, Int.reduceEq, Int.reduceToNat, Int.reduceBEq, hc, bne_self_eq_false, e1]
          rw [hun] at next
          exact next (.inl hc)
        · have hc' : (oCheck o != 0) = true := by simp [hc]
          simp only [walk, Nat.reduceLT, Nat.reduceBEq, Nat.reduceAdd, Nat.reduceLeDiff, reduceIte, Int.reduceLT, Int.reduceLE, Int.reduceEq, Int.reduceToNat, Int.reduceBEq, hc', hc, ne_eq, and_self]
  · have c1 : ¬ (k : Int) < x.ops.length := by omega
    rw [List.drop_eq_nil_of_le (by omega), opsCheck]
    simp only [walk, Nat.reduceLT, Nat.reduceBEq, Nat.reduceAdd, Nat.reduceLeDiff, reduceIte, Int.reduceLT, Int.reduceLE, Int.reduceEq, Int.reduceToNat, Int.reduceBEq, c1]
end
end Go.AR

/-! Transactions: more questions. -/
namespace Go.AR
open Go
section
variable {C : CallRel} {F : Nat → FuncId}
theorem g_pref12_Check (hD : S_dotOk (C (F n_pref04_Right))) (hG : S_oGone (C (F n_pref11_Gone))) (hC : S_oCheck (C (F n_pref11_Check))) : S_tCheck ((c_pref12_Check F).gives C) := by
  intro x hx
  refine gives_of rfl ?_
  unfold c_pref12_Check tCheck
  obtain ⟨hl, hok⟩ := hx
  simp only [walk, Nat.reduceLT, Nat.reduceBEq, Nat.reduceAdd, Nat.reduceLeDiff, reduceIte, Int.reduceLT, Int.reduceLE, Int.reduceEq, Int.reduceToNat, Int.reduceBEq]
  refine callWp_of (hD x.d) ?_
  cases hd : dotOk x.d with
  | false => simp only [walk, Nat.reduceLT, Nat.reduceBEq, Nat.reduceAdd, Nat.reduceLeDiff, reduceIte, Int.reduceLT, Int.reduceLE, Int.reduceEq, Int.reduceToNat, Int.reduceBEq, true_or]
  | true =>
  simp only [walk, Nat.reduceLT, Nat.reduceBEq, Nat.reduceAdd, Nat.reduceLeDiff, reduceIte, Int.reduceLT, Int.reduceLE, Int.reduceEq, Int.reduceToNat, Int.reduceBEq]
  by_cases h1 : x.u < 0
  · simp only [walk, Nat.reduceLT, Nat.reduceBEq, Nat.reduceAdd, Nat.reduceLeDiff, reduceIte, Int.reduceLT, Int.reduceLE, Int.reduceEq, Int.reduceToNat, Int.reduceBEq, h1, or_true, true_or]
  by_cases h2 : x.u > 7
  · simp only [walk, Nat.reduceLT, Nat.reduceBEq, Nat.reduceAdd, Nat.reduceLeDiff, reduceIte, Int.reduceLT, Int.reduceLE, Int.reduceEq, Int.reduceToNat, Int.reduceBEq, h1, h2, or_true, true_or]
  by_cases h3 : x.t < 1
  · simp only [walk, Nat.reduceLT, Nat.reduceBEq, Nat.reduceAdd, Nat.reduceLeDiff, reduceIte, Int.reduceLT, Int.reduceLE, Int.reduceEq, Int.reduceToNat, Int.reduceBEq, h1, h2, h3, or_true, true_or]
  by_cases h4 : x.t > 1099511627776
  · simp only [walk, Nat.reduceLT, Nat.reduceBEq, Nat.reduceAdd, Nat.reduceLeDiff, reduceIte, Int.reduceLT, Int.reduceLE, Int.reduceEq, Int.reduceToNat, Int.reduceBEq, h1, h2, h3, h4, or_true, true_or]
  simp only [walk, Nat.reduceLT, Nat.reduceBEq, Nat.reduceAdd, Nat.reduceLeDiff, reduceIte, Int.reduceLT, Int.reduceLE, Int.reduceEq, Int.reduceToNat, Int.reduceBEq, h1, h2, h3, h4, or_self, oRows_len, ieq]
  by_cases h5 : x.ops.length = 0
  · have h5' : (x.ops.length : Int) = 0 := by omega
    simp only [walk, Nat.reduceLT, Nat.reduceBEq, Nat.reduceAdd, Nat.reduceLeDiff, reduceIte, Int.reduceLT, Int.reduceLE, Int.reduceEq, Int.reduceToNat, Int.reduceBEq, h5, h5', ieq]
  have h5' : ¬ (x.ops.length : Int) = 0 := by omega
  by_cases h6 : x.ops.length > 16
  · have h6' : (x.ops.length : Int) > 16 := by omega
    simp only [walk, Nat.reduceLT, Nat.reduceBEq, Nat.reduceAdd, Nat.reduceLeDiff, reduceIte, Int.reduceLT, Int.reduceLE, Int.reduceEq, Int.reduceToNat, Int.reduceBEq, h5, h5', h6, h6', oRows_len]
  have h6' : ¬ (x.ops.length : Int) > 16 := by omega
  simp only [walk, Nat.reduceLT, Nat.reduceBEq, Nat.reduceAdd, Nat.reduceLeDiff, reduceIte, Int.reduceLT, Int.reduceLE, Int.reduceEq, Int.reduceToNat, Int.reduceBEq, h5, h5', h6, h6', oRows_len]
  refine awp_loop_ind (X := Nat) (fun k => ⟨[(0, .val (tP x)), (1, .lp 1 0), (2, .val (.int .i64 0)), (3, .val (.int .i64 k)), (28, .val (.bool false)), (32, .val (.bool false)), (36, .val (.bool false))], [(1, tB x)]⟩)
    (fun k => k ≤ x.ops.length ∧ ∀ j, j < k → ∀ h : j < x.ops.length, oCheck x.ops[j] = 0 ∨ (x.un && oGone x.ops[j]) = true) (fun k => x.ops.length - k) 0 ⟨by omega, by omega⟩ rfl ?_
  rintro R k ⟨hk, hJ⟩ ih
  simp only [walk, Nat.reduceLT, Nat.reduceBEq, Nat.reduceAdd, Nat.reduceLeDiff, reduceIte, Int.reduceLT, Int.reduceLE, Int.reduceEq, Int.reduceToNat, Int.reduceBEq, oRows_len]
  rw [opsCheck_split x.un x.ops k hJ]
  by_cases c : k < x.ops.length
  · have c1 : (k : Int) < x.ops.length := by omega
    have c0 : (0 : Int) ≤ k := by omega
    have e1 : IntKind.i64.wrap ((k : Int) + 1) = ((k + 1 : Nat) : Int) := wrap64 (by omega) (by omega)
    have next : (oCheck x.ops[k] = 0 ∨ (x.un && oGone x.ops[k]) = true) → _ := fun h => ih (k + 1) ⟨by omega, fun j hj hl => by
      by_cases e : j = k
      · subst e; exact h
      · exact hJ j (by omega) hl⟩ (by omega)
    rw [List.drop_eq_getElem_cons c, opsCheck]
    have hok := hok _ (List.getElem_mem c)
    have hgk := oRows_get c
    generalize x.ops[k] = o at *
    have hG := hG o
    have hC := hC o hok
    simp only [walk, Nat.reduceLT, Nat.reduceBEq, Nat.reduceAdd, Nat.reduceLeDiff, reduceIte, Int.reduceLT, Int.reduceLE, Int.reduceEq, Int.reduceToNat, Int.reduceBEq, c1, hgk, oRows_len]
    refine callWp_of hC ?_
    by_cases hc : oCheck o = 0
    · cases hun : x.un with
      | false =>
        simp only [walk, Nat.reduceLT, Nat.reduceBEq, Nat.reduceAdd, Nat.reduceLeDiff, reduceIte, Int.reduceLT, Int.reduceLE, Int.reduceEq, Int.reduceToNat, Int.reduceBEq, hc, bne_self_eq_false, e1]
        rw [hun] at next
        exact next (.inl hc)
      | true =>
        simp only [walk, Nat.reduceLT, Nat.reduceBEq, Nat.reduceAdd, Nat.reduceLeDiff, reduceIte, Int.reduceLT, Int.reduceLE, Int.reduceEq, Int.reduceToNat, Int.reduceBEq, hc, bne_self_eq_false, e1]
        rw [hun] at next
        exact next (.inl hc)
    · have hc' : (oCheck o != 0) = true := by simp [hc]
      cases hun : x.un with
      | false => simp only [walk, Nat.reduceLT, Nat.reduceBEq, Nat.reduceAdd, Nat.reduceLeDiff, reduceIte, Int.reduceLT, Int.reduceLE, Int.reduceEq, Int.reduceToNat, Int.reduceBEq, hun, hc', hc, ne_eq, and_self]
      | true =>
        simp only [walk, Nat.reduceLT, Nat.reduceBEq, Nat.reduceAdd, Nat.reduceLeDiff, reduceIte, Int.reduceLT, Int.reduceLE, Int.reduceEq, Int.reduceToNat, Int.reduceBEq, hun, hc', hc, c1, hgk, oRows_len]
        refine callWp_of hG ?_
        cases hg : oGone o with
        | true =>
          simp only [walk, Nat.reduceLT, Nat.reduceBEq, Nat.reduceAdd, Nat.reduceLeDiff, reduceIte, Int.reduceLT, Int.reduceLE, Int.reduceEq, Int.reduceToNat, Int.reduceBEq, e1]
          rw [hun] at next
          exact next (.inr (by simp [hg]))
        | false => simp only [walk, Nat.reduceLT, Nat.reduceBEq, Nat.reduceAdd, Nat.reduceLeDiff, reduceIte, Int.reduceLT, Int.reduceLE, Int.reduceEq, Int.reduceToNat, Int.reduceBEq, hc', hc, ne_eq, and_self]
  · have c1 : ¬ (k : Int) < x.ops.length := by omega
    rw [List.drop_eq_nil_of_le (by omega), opsCheck]
    simp only [walk, Nat.reduceLT, Nat.reduceBEq, Nat.reduceAdd, Nat.reduceLeDiff, reduceIte, Int.reduceLT, Int.reduceLE, Int.reduceEq, Int.reduceToNat, Int.reduceBEq, c1]
def S_opsEq (C : CallRel) (R : Rel) : Prop := ∀ (a b : List Ov) (f : FuncId), a.length ≤ 2000000 → (∀ x y : Ov, x ∈ a → C f [.v (oP x), .v (oP y)] (.val (.bool (decide (x = y)))) []) → R [.v (osP a), .v (osP b), .v (.fn f)] (.val (.bool (decide (a = b)))) []
theorem g_slices_EqualFunc : S_opsEq C ((c_slices_EqualFunc_api_Op_api_Op_api_Op_api_Op F).gives C) := by
  intro a b f ha hf
  refine gives_of rfl ?_
  unfold c_slices_EqualFunc_api_Op_api_Op_api_Op_api_Op
  simp only [walk, Nat.reduceLT, Nat.reduceBEq, Nat.reduceAdd, Nat.reduceLeDiff, reduceIte, Int.reduceLT, Int.reduceLE, Int.reduceEq, Int.reduceToNat, Int.reduceBEq, oRows_len, ine, ne_eq, decide_not]
  by_cases hl : a.length = b.length
  · have hl' : (a.length : Int) = b.length := by omega
    simp only [walk, Nat.reduceLT, Nat.reduceBEq, Nat.reduceAdd, Nat.reduceLeDiff, reduceIte, Int.reduceLT, Int.reduceLE, Int.reduceEq, Int.reduceToNat, Int.reduceBEq, hl', oRows_len]
    refine awp_loop_ind (X := Nat) (fun k => ⟨[(0, .val (osP a)), (1, .val (osP b)), (2, .val (.fn f)), (6, .val (.bool false)), (14, .val (.bool false)), (15, .val (osP a)), (16, .val (.int .i64 b.length)), (17, .val (.int .i64 k))], []⟩)
      (fun k => k ≤ a.length ∧ a.take k = b.take k) (fun k => a.length - k) 0 ⟨by omega, by simp⟩ rfl ?_
    rintro R k ⟨hk, hJ⟩ ih
    simp only [walk, Nat.reduceLT, Nat.reduceBEq, Nat.reduceAdd, Nat.reduceLeDiff, reduceIte, Int.reduceLT, Int.reduceLE, Int.reduceEq, Int.reduceToNat, Int.reduceBEq, oRows_len]
    by_cases c : k < a.length
    · have c1 : (k : Int) < b.length := by omega
      have cb : k < b.length := by omega
      have c0 : (0 : Int) ≤ k := by omega
      have e1 : IntKind.i64.wrap ((k : Int) + 1) = ((k + 1 : Nat) : Int) := wrap64 (by omega) (by omega)
      simp only [walk, Nat.reduceLT, Nat.reduceBEq, Nat.reduceAdd, Nat.reduceLeDiff, reduceIte, Int.reduceLT, Int.reduceLE, Int.reduceEq, Int.reduceToNat, Int.reduceBEq, c1, hl', oRows_get c, oRows_get cb, oRows_len]
      refine callWp_of (hf a[k] b[k] (List.getElem_mem c)) ?_
      by_cases he : a[k] = b[k]
      · simp only [walk, Nat.reduceLT, Nat.reduceBEq, Nat.reduceAdd, Nat.reduceLeDiff, reduceIte, Int.reduceLT, Int.reduceLE, Int.reduceEq, Int.reduceToNat, Int.reduceBEq, he, e1]
        refine ih (k + 1) ⟨by omega, ?_⟩ (by omega)
        rw [List.take_add_one, List.take_add_one, hJ, List.getElem?_eq_getElem c, List.getElem?_eq_getElem cb, he]
      · have hf : ¬ a = b := by
          rintro rfl
          exact he rfl
        simp only [walk, Nat.reduceLT, Nat.reduceBEq, Nat.reduceAdd, Nat.reduceLeDiff, reduceIte, Int.reduceLT, Int.reduceLE, Int.reduceEq, Int.reduceToNat, Int.reduceBEq, he, hf]
    · have c1 : ¬ (k : Int) < b.length := by omega
      rw [List.take_of_length_le (by omega), List.take_of_length_le (by omega)] at hJ
      subst hJ
      simp only [walk, Nat.reduceLT, Nat.reduceBEq, Nat.reduceAdd, Nat.reduceLeDiff, reduceIte, Int.reduceLT, Int.reduceLE, Int.reduceEq, Int.reduceToNat, Int.reduceBEq, c1]
  · have hl' : ¬ (a.length : Int) = b.length := by omega
    have hf : ¬ a = b := by
      rintro rfl
      exact hl rfl
    simp only [walk, Nat.reduceLT, Nat.reduceBEq, Nat.reduceAdd, Nat.reduceLeDiff, reduceIte, Int.reduceLT, Int.reduceLE, Int.reduceEq, Int.reduceToNat, Int.reduceBEq, hl', hf]
theorem eq_d (a b : Dt) : eqCells [.i, .i] [.int .i64 a.1, .int .i64 a.2] [.int .i64 b.1, .int .i64 b.2] = some (decide (a = b)) := by
  obtain ⟨a1, a2⟩ := a; obtain ⟨b1, b2⟩ := b
  simp only [eqCells, eqB, if_true]
  congr 1
  rw [Bool.eq_iff_iff]
  simp
theorem tsame_iff (a b : Tx) : a = b ↔ a.d = b.d ∧ a.u = b.u ∧ a.t = b.t ∧ a.un = b.un ∧ a.ops = b.ops := by
  obtain ⟨d, u, t, un, ops⟩ := a
  obtain ⟨d2, u2, t2, un2, ops2⟩ := b
  simp only [Tx.mk.injEq]
theorem tsame_no {a b : Tx} (h : ¬ (a.d = b.d ∧ a.u = b.u ∧ a.t = b.t ∧ a.un = b.un ∧ a.ops = b.ops)) : decide (a = b) = false := decide_eq_false (fun e => h ((tsame_iff a b).1 e))
theorem tsame_yes {a b : Tx} (h : (a.d = b.d ∧ a.u = b.u ∧ a.t = b.t ∧ a.un = b.un ∧ a.ops = b.ops)) : decide (a = b) = true := decide_eq_true ((tsame_iff a b).2 h)
theorem beq_dec (a b : Bool) : (a == b) = decide (a = b) := by cases a <;> cases b <;> rfl
theorem g_txn_Same (hE : S_opsEq C (C (F n_slices_EqualFunc_api_Op_api_Op_api_Op_api_Op))) (hS : S_oSame (C (F n_op_Same))) : S_tSame ((c_txn_Same F).gives C) := by
  intro a b ha
  refine gives_of rfl ?_
  unfold c_txn_Same
  simp only [walk, Nat.reduceLT, Nat.reduceBEq, Nat.reduceAdd, Nat.reduceLeDiff, reduceIte, Int.reduceLT, Int.reduceLE, Int.reduceEq, Int.reduceToNat, Int.reduceBEq, ieq, eq_d, beq_dec]
  by_cases d1 : a.d = b.d
  · by_cases d2 : a.u = b.u
    · by_cases d3 : a.t = b.t
      · by_cases d4 : a.un = b.un
        · simp only [walk, Nat.reduceLT, Nat.reduceBEq, Nat.reduceAdd, Nat.reduceLeDiff, reduceIte, Int.reduceLT, Int.reduceLE, Int.reduceEq, Int.reduceToNat, Int.reduceBEq, ieq, d1, d2, d3, d4, eq_d, beq_dec]
          refine callWp_of (hE a.ops b.ops (F n_op_Same) ha.1 (fun x y hx => hS x y (ha.2 x hx))) ?_
          by_cases d5 : a.ops = b.ops
          · simp only [walk, Nat.reduceLT, Nat.reduceBEq, Nat.reduceAdd, Nat.reduceLeDiff, reduceIte, Int.reduceLT, Int.reduceLE, Int.reduceEq, Int.reduceToNat, Int.reduceBEq, d5, tsame_yes ⟨d1, d2, d3, d4, d5⟩]
          · simp only [walk, Nat.reduceLT, Nat.reduceBEq, Nat.reduceAdd, Nat.reduceLeDiff, reduceIte, Int.reduceLT, Int.reduceLE, Int.reduceEq, Int.reduceToNat, Int.reduceBEq, d5, tsame_no (a := a) (b := b) (by simp [d5])]
        · simp only [walk, Nat.reduceLT, Nat.reduceBEq, Nat.reduceAdd, Nat.reduceLeDiff, reduceIte, Int.reduceLT, Int.reduceLE, Int.reduceEq, Int.reduceToNat, Int.reduceBEq, ieq, d1, d2, d3, d4, eq_d, beq_dec, tsame_no (a := a) (b := b) (by simp [d4])]
      · simp only [walk, Nat.reduceLT, Nat.reduceBEq, Nat.reduceAdd, Nat.reduceLeDiff, reduceIte, Int.reduceLT, Int.reduceLE, Int.reduceEq, Int.reduceToNat, Int.reduceBEq, ieq, d1, d2, d3, eq_d, tsame_no (a := a) (b := b) (by simp [d3])]
    · simp only [walk, Nat.reduceLT, Nat.reduceBEq, Nat.reduceAdd, Nat.reduceLeDiff, reduceIte, Int.reduceLT, Int.reduceLE, Int.reduceEq, Int.reduceToNat, Int.reduceBEq, ieq, d1, d2, eq_d, tsame_no (a := a) (b := b) (by simp [d2])]
  · simp only [walk, Nat.reduceLT, Nat.reduceBEq, Nat.reduceAdd, Nat.reduceLeDiff, reduceIte, Int.reduceLT, Int.reduceLE, Int.reduceEq, Int.reduceToNat, Int.reduceBEq, d1, tsame_no (a := a) (b := b) (by simp [d1])]
end
end Go.AR
