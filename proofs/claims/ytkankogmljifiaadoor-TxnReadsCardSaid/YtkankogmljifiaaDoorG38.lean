import Derived.Test.YtkankogmljifiaaDoorG37
import Derived.Test.YtkankogmljifiaaDoorG36
set_option linter.all false
/-! Transactions: the questions. -/
namespace Go.AR
open Go
section
variable {C : CallRel} {F : Nat → FuncId}
def oRows (l : List Ov) : List (List PV) := l.map oCells
theorem oRows_len (l : List Ov) : (oRows l).length = l.length := by simp [oRows]
theorem oRows_get {l : List Ov} {k : Nat} (h : k < l.length) : (oRows l)[k]? = some (oCells l[k]) := by simp [oRows, h]
abbrev osP (l : List Ov) : PV := .sl 7 (oRows l)
abbrev tCells (x : Tx) : List PV := [.int .i64 x.d.1, .int .i64 x.d.2, .int .i64 x.u, .int .i64 x.t, .bool x.un, osP x.ops]
abbrev tP (x : Tx) : PV := .agg (tCells x)
abbrev tB (x : Tx) : Blk := .cells [.val (.int .i64 x.d.1), .val (.int .i64 x.d.2), .val (.int .i64 x.u), .val (.int .i64 x.t), .val (.bool x.un), .val (osP x.ops)]
def tOk (x : Tx) : Prop := x.ops.length ≤ 2000000 ∧ ∀ o ∈ x.ops, oOk o
def S_tCheck (R : Rel) : Prop := ∀ x : Tx, tOk x → R [.v (tP x)] (.val (.int .i64 (tCheck x))) []
def S_tCmp (R : Rel) : Prop := ∀ a b : Tx, R [.v (tP a), .v (tP b)] (.val (.int .i64 (tcmpT a b))) []
def S_tSame (R : Rel) : Prop := ∀ a b : Tx, tOk a → R [.v (tP a), .v (tP b)] (.val (.bool (decide (a = b)))) []
theorem g_txn_Compare (h : S_icmp (C (F n_cmp_Compare_int))) (h2 : S_dcmp (C (F n_dot_Compare))) (ho : S_or2 (C (F n_cmp_Or_int))) : S_tCmp ((c_txn_Compare F).gives C) := by
  intro a b
  refine gives_of rfl ?_
  unfold c_txn_Compare
  simp only [walk, Nat.reduceLT, Nat.reduceBEq, Nat.reduceAdd, Nat.reduceLeDiff, reduceIte, Int.reduceLT, Int.reduceLE, Int.reduceEq, Int.reduceToNat, Int.reduceBEq]
  refine callWp_of (h _ _) ?_
  simp only [walk, Nat.reduceLT, Nat.reduceBEq, Nat.reduceAdd, Nat.reduceLeDiff, reduceIte, Int.reduceLT, Int.reduceLE, Int.reduceEq, Int.reduceToNat, Int.reduceBEq]
  refine callWp_of (h2 a.d b.d) ?_
  simp only [walk, Nat.reduceLT, Nat.reduceBEq, Nat.reduceAdd, Nat.reduceLeDiff, reduceIte, Int.reduceLT, Int.reduceLE, Int.reduceEq, Int.reduceToNat, Int.reduceBEq]
  refine callWp_of (ho _ _) ?_
  simp only [walk, Nat.reduceLT, Nat.reduceBEq, Nat.reduceAdd, Nat.reduceLeDiff, reduceIte, Int.reduceLT, Int.reduceLE, Int.reduceEq, Int.reduceToNat, Int.reduceBEq, tcmpT]
theorem g_txn_Check (hD : S_dotOk (C (F n_dot_Right))) (hG : S_oGone (C (F n_op_Gone))) (hC : S_oCheck (C (F n_op_Check))) : S_tCheck ((c_txn_Check F).gives C) := by
  intro x hx
  refine gives_of rfl ?_
  unfold c_txn_Check tCheck
  obtain ⟨hl, hok⟩ := hx
  simp only [walk, Nat.reduceLT, Nat.reduceBEq, Nat.reduceAdd, Nat.reduceLeDiff, reduceIte, Int.reduceLT, Int.reduceLE, Int.reduceEq, Int.reduceToNat, Int.reduceBEq]
  refine callWp_of (hD x.d) ?_
  cases hd : dotOk x.d with
  | false => simp only [walk, Nat.reduceLT, Nat.reduceBEq, Nat.reduceAdd, Nat.reduceLeDiff, reduceIte, Int.reduceLT, Int.reduceLE, Int.reduceEq, Int.reduceToNat, Int.reduceBEq, true_or]
  | true =>
  simp only [walk, Nat.reduceLT, Nat.reduceBEq, Nat.reduceAdd, Nat.reduceLeDiff, reduceIte, Int.reduceLT, Int.reduceLE, Int.reduceEq, Int.reduceToNat, Int.reduceBEq]
  by_cases h1 : x.u < 0
  · simp only [walk, Nat.reduceLT, Nat.reduceBEq, Nat.reduceAdd, Nat.reduceLeDiff, reduceIte, Int.reduceLT, Int.reduceLE, Int.reduceEq, Int.reduceToNat, Int.reduceBEq, h1, or_true, true_or]
  by_cases h2 : x.u > 7
  · have h2' : x.u ≥ 8 := by omega
    simp only [walk, Nat.reduceLT, Nat.reduceBEq, Nat.reduceAdd, Nat.reduceLeDiff, reduceIte, Int.reduceLT, Int.reduceLE, Int.reduceEq, Int.reduceToNat, Int.reduceBEq, h1, h2, h2', or_true, true_or]
  have h2' : ¬ x.u ≥ 8 := by omega
  by_cases h3 : x.t < 1
  · simp only [walk, Nat.reduceLT, Nat.reduceBEq, Nat.reduceAdd, Nat.reduceLeDiff, reduceIte, Int.reduceLT, Int.reduceLE, Int.reduceEq, Int.reduceToNat, Int.reduceBEq, h1, h2, h2', h3, or_true, true_or]
  by_cases h4 : x.t > 1099511627776
  · simp only [walk, Nat.reduceLT, Nat.reduceBEq, Nat.reduceAdd, Nat.reduceLeDiff, reduceIte, Int.reduceLT, Int.reduceLE, Int.reduceEq, Int.reduceToNat, Int.reduceBEq, h1, h2, h2', h3, h4, or_true, true_or]
  simp only [walk, Nat.reduceLT, Nat.reduceBEq, Nat.reduceAdd, Nat.reduceLeDiff, reduceIte, Int.reduceLT, Int.reduceLE, Int.reduceEq, Int.reduceToNat, Int.reduceBEq, h1, h2, h2', h3, h4, or_self, oRows_len, ieq]
  by_cases h5 : x.ops.length = 0
  · have h5' : (x.ops.length : Int) = 0 := by omega
    simp only [walk, Nat.reduceLT, Nat.reduceBEq, Nat.reduceAdd, Nat.reduceLeDiff, reduceIte, Int.reduceLT, Int.reduceLE, Int.reduceEq, Int.reduceToNat, Int.reduceBEq, h5, h5', ieq]
  have h5' : ¬ (x.ops.length : Int) = 0 := by omega
  by_cases h6 : x.ops.length > 16
  · have h6' : (x.ops.length : Int) > 16 := by omega
    simp only [walk, Nat.reduceLT, Nat.reduceBEq, Nat.reduceAdd, Nat.reduceLeDiff, reduceIte, Int.reduceLT, Int.reduceLE, Int.reduceEq, Int.reduceToNat, Int.reduceBEq, h5, h5', h6, h6', oRows_len]
  have h6' : ¬ (x.ops.length : Int) > 16 := by omega
  simp only [walk, Nat.reduceLT, Nat.reduceBEq, Nat.reduceAdd, Nat.reduceLeDiff, reduceIte, Int.reduceLT, Int.reduceLE, Int.reduceEq, Int.reduceToNat, Int.reduceBEq, h5, h5', h6, h6', oRows_len]
  refine awp_loop_ind (X := Nat) (fun k => ⟨[(0, .val (tP x)), (1, .lp 1 0), (2, .val (.int .i64 0)), (6, .val (.bool false)), (27, .val (.bool false)), (32, .val (.bool false)), (38, .val (osP x.ops)), (39, .val (.int .i64 x.ops.length)), (40, .val (.int .i64 k))], [(1, tB x)]⟩)
    (fun k => k ≤ x.ops.length ∧ ∀ j, j < k → ∀ h : j < x.ops.length, oCheck x.ops[j] = 0 ∨ (x.un && oGone x.ops[j]) = true) (fun k => x.ops.length - k) 0 ⟨by omega, by omega⟩ rfl ?_
  rintro R k ⟨hk, hJ⟩ ih
  simp only [walk, Nat.reduceLT, Nat.reduceBEq, Nat.reduceAdd, Nat.reduceLeDiff, reduceIte, Int.reduceLT, Int.reduceLE, Int.reduceEq, Int.reduceToNat, Int.reduceBEq]
  rw [opsCheck_split x.un x.ops k hJ]
  by_cases c : k < x.ops.length
  · have c1 : (k : Int) < x.ops.length := by omega
    have c0 : (0 : Int) ≤ k := by omega
    have e1 : IntKind.i64.wrap ((k : Int) + 1) = ((k + 1 : Nat) : Int) := wrap64 (by omega) (by omega)
    have next : (oCheck x.ops[k] = 0 ∨ (x.un && oGone x.ops[k]) = true) → _ := fun h => ih (k + 1) ⟨by omega, fun j hj hl => by
      by_cases e : j = k
      · subst e; exact h
      · exact hJ j (by omega) hl⟩ (by omega)
    rw [List.drop_eq_getElem_cons c, opsCheck]
    have hok := hok _ (List.getElem_mem c)
    have hgk := oRows_get c
    generalize x.ops[k] = o at *
    have hG := hG o
    have hC := hC o hok
    simp only [walk, Nat.reduceLT, Nat.reduceBEq, Nat.reduceAdd, Nat.reduceLeDiff, reduceIte, Int.reduceLT, Int.reduceLE, Int.reduceEq, Int.reduceToNat, Int.reduceBEq, c1, hgk]
    cases hun : x.un with
    | false =>
      simp only [walk, Nat.reduceLT, Nat.reduceBEq, Nat.reduceAdd, Nat.reduceLeDiff, reduceIte, Int.reduceLT, Int.reduceLE, Int.reduceEq, Int.reduceToNat, Int.reduceBEq]
      refine callWp_of hC ?_
      by_cases hc : oCheck o = 0
      · simp only [walk, Nat.reduceLT, Nat.reduceBEq, Nat.reduceAdd, Nat.reduceLeDiff, reduceIte, Int.reduceLT, Int.reduceLE, Int.reduceEq, Int.reduceToNat, Int.reduceBEq, hc, bne_self_eq_false, e1]
        rw [hun] at ih next
        exact next (.inl hc)
      · have hc' : (oCheck o != 0) = true := by simp [hc]
        simp only [walk, Nat.reduceLT, Nat.reduceBEq, Nat.reduceAdd, Nat.reduceLeDiff, reduceIte, Int.reduceLT, Int.reduceLE, Int.reduceEq, Int.reduceToNat, Int.reduceBEq, hc', hc, ne_eq, and_self]
    | true =>
      simp only [walk, Nat.reduceLT, Nat.reduceBEq, Nat.reduceAdd, Nat.reduceLeDiff, reduceIte, Int.reduceLT, Int.reduceLE, Int.reduceEq, Int.reduceToNat, Int.reduceBEq]
      refine callWp_of hG ?_
      cases hg : oGone o with
      | true =>
        simp only [walk, Nat.reduceLT, Nat.reduceBEq, Nat.reduceAdd, Nat.reduceLeDiff, reduceIte, Int.reduceLT, Int.reduceLE, Int.reduceEq, Int.reduceToNat, Int.reduceBEq, e1]
        rw [hun] at next
        exact next (.inr (by simp [hg]))
      | false =>
        simp only [walk, Nat.reduceLT, Nat.reduceBEq, Nat.reduceAdd, Nat.reduceLeDiff, reduceIte, Int.reduceLT, Int.reduceLE, Int.reduceEq, Int.reduceToNat, Int.reduceBEq]
        refine callWp_of hC ?_
        by_cases hc : oCheck o = 0
        · simp only [walk, Nat.reduceLT, Nat.reduceBEq, Nat.reduceAdd, Nat.reduceLeDiff, reduceIte, Int.reduceLT, Int.reduceLE, Int.reduceEq, Int.reduceToNat, Int.reduceBEq, hc, bne_self_eq_false, e1]
          rw [hun] at next
          exact next (.inl hc)
        · have hc' : (oCheck o != 0) = true := by simp [hc]
          simp only [walk, Nat.reduceLT, Nat.reduceBEq, Nat.reduceAdd, Nat.reduceLeDiff, reduceIte, Int.reduceLT, Int.reduceLE, Int.reduceEq, Int.reduceToNat, Int.reduceBEq, hc', hc, ne_eq, and_self]
  · have c1 : ¬ (k : Int) < x.ops.length := by omega
    rw [List.drop_eq_nil_of_le (by omega), opsCheck]
    simp only [walk, Nat.reduceLT, Nat.reduceBEq, Nat.reduceAdd, Nat.reduceLeDiff, reduceIte, Int.reduceLT, Int.reduceLE, Int.reduceEq, Int.reduceToNat, Int.reduceBEq, c1]
end
end Go.AR

/-! Transactions: more questions. -/
namespace Go.AR
open Go
section
variable {C : CallRel} {F : Nat → FuncId}
theorem g_pref12_Check (hD : S_dotOk (C (F n_pref04_Right))) (hG : S_oGone (C (F n_pref11_Gone))) (hC : S_oCheck (C (F n_pref11_Check))) : S_tCheck ((c_pref12_Check F).gives C) := by
  intro x hx
  refine gives_of rfl ?_
  unfold c_pref12_Check tCheck
  obtain ⟨hl, hok⟩ := hx
  simp only [walk, Nat.reduceLT, Nat.reduceBEq, Nat.reduceAdd, Nat.reduceLeDiff, reduceIte, Int.reduceLT, Int.reduceLE, Int.reduceEq, Int.reduceToNat, Int.reduceBEq]
  refine callWp_of (hD x.d) ?_
  cases hd : dotOk x.d with
  | false => simp only [walk, Nat.reduceLT, Nat.reduceBEq, Nat.reduceAdd, Nat.reduceLeDiff, reduceIte, Int.reduceLT, Int.reduceLE, Int.reduceEq, Int.reduceToNat, Int.reduceBEq, true_or]
  | true =>
  simp only [walk, Nat.reduceLT, Nat.reduceBEq, Nat.reduceAdd, Nat.reduceLeDiff, reduceIte, Int.reduceLT, Int.reduceLE, Int.reduceEq, Int.reduceToNat, Int.reduceBEq]
  by_cases h1 : x.u < 0
  · simp only [walk, Nat.reduceLT, Nat.reduceBEq, Nat.reduceAdd, Nat.reduceLeDiff, reduceIte, Int.reduceLT, Int.reduceLE, Int.reduceEq, Int.reduceToNat, Int.reduceBEq, h1, or_true, true_or]
  by_cases h2 : x.u > 7
  · simp only [walk, Nat.reduceLT, Nat.reduceBEq, Nat.reduceAdd, Nat.reduceLeDiff, reduceIte, Int.reduceLT, Int.reduceLE, Int.reduceEq, Int.reduceToNat, Int.reduceBEq, h1, h2, or_true, true_or]
  by_cases h3 : x.t < 1
  · simp only [walk, Nat.reduceLT, Nat.reduceBEq, Nat.reduceAdd, Nat.reduceLeDiff, reduceIte, Int.reduceLT, Int.reduceLE, Int.reduceEq, Int.reduceToNat, Int.reduceBEq, h1, h2, h3, or_true, true_or]
  by_cases h4 : x.t > 1099511627776
  · simp only [walk, Nat.reduceLT, Nat.reduceBEq, Nat.reduceAdd, Nat.reduceLeDiff, reduceIte, Int.reduceLT, Int.reduceLE, Int.reduceEq, Int.reduceToNat, Int.reduceBEq, h1, h2, h3, h4, or_true, true_or]
  simp only [walk, Nat.reduceLT, Nat.reduceBEq, Nat.reduceAdd, Nat.reduceLeDiff, reduceIte, Int.reduceLT, Int.reduceLE, Int.reduceEq, Int.reduceToNat, Int.reduceBEq, h1, h2, h3, h4, or_self, oRows_len, ieq]
  by_cases h5 : x.ops.length = 0
  · have h5' : (x.ops.length : Int) = 0 := by omega
    simp only [walk, Nat.reduceLT, Nat.reduceBEq, Nat.reduceAdd, Nat.reduceLeDiff, reduceIte, Int.reduceLT, Int.reduceLE, Int.reduceEq, Int.reduceToNat, Int.reduceBEq, h5, h5', ieq]
  have h5' : ¬ (x.ops.length : Int) = 0 := by omega
  by_cases h6 : x.ops.length > 16
  · have h6' : (x.ops.length : Int) > 16 := by omega
    simp only [walk, Nat.reduceLT, Nat.reduceBEq, Nat.reduceAdd, Nat.reduceLeDiff, reduceIte, Int.reduceLT, Int.reduceLE, Int.reduceEq, Int.reduceToNat, Int.reduceBEq, h5, h5', h6, h6', oRows_len]
  have h6' : ¬ (x.ops.length : Int) > 16 := by omega
  simp only [walk, Nat.reduceLT, Nat.reduceBEq, Nat.reduceAdd, Nat.reduceLeDiff, reduceIte, Int.reduceLT, Int.reduceLE, Int.reduceEq, Int.reduceToNat, Int.reduceBEq, h5, h5', h6, h6', oRows_len]
  refine awp_loop_ind (X := Nat) (fun k => ⟨[(0, .val (tP x)), (1, .lp 1 0), (2, .val (.int .i64 0)), (3, .val (.int .i64 k)), (28, .val (.bool false)), (32, .val (.bool false)), (36, .val (.bool false))], [(1, tB x)]⟩)
    (fun k => k ≤ x.ops.length ∧ ∀ j, j < k → ∀ h : j < x.ops.length, oCheck x.ops[j] = 0 ∨ (x.un && oGone x.ops[j]) = true) (fun k => x.ops.length - k) 0 ⟨by omega, by omega⟩ rfl ?_
  rintro R k ⟨hk, hJ⟩ ih
  simp only [walk, Nat.reduceLT, Nat.reduceBEq, Nat.reduceAdd, Nat.reduceLeDiff, reduceIte, Int.reduceLT, Int.reduceLE, Int.reduceEq, Int.reduceToNat, Int.reduceBEq, oRows_len]
  rw [opsCheck_split x.un x.ops k hJ]
  by_cases c : k < x.ops.length
  · have c1 : (k : Int) < x.ops.length := by omega
    have c0 : (0 : Int) ≤ k := by omega
    have e1 : IntKind.i64.wrap ((k : Int) + 1) = ((k + 1 : Nat) : Int) := wrap64 (by omega) (by omega)
    have next : (oCheck x.ops[k] = 0 ∨ (x.un && oGone x.ops[k]) = true) → _ := fun h => ih (k + 1) ⟨by omega, fun j hj hl => by
      by_cases e : j = k
      · subst e; exact h
      · exact hJ j (by omega) hl⟩ (by omega)
    rw [List.drop_eq_getElem_cons c, opsCheck]
    have hok := hok _ (List.getElem_mem c)
    have hgk := oRows_get c
    generalize x.ops[k] = o at *
    have hG := hG o
    have hC := hC o hok
    simp only [walk, Nat.reduceLT, Nat.reduceBEq, Nat.reduceAdd, Nat.reduceLeDiff, reduceIte, Int.reduceLT, Int.reduceLE, Int.reduceEq, Int.reduceToNat, Int.reduceBEq, c1, hgk, oRows_len]
    refine callWp_of hC ?_
    by_cases hc : oCheck o = 0
    · cases hun : x.un with
      | false =>
        simp only [walk, Nat.reduceLT, Nat.reduceBEq, Nat.reduceAdd, Nat.reduceLeDiff, reduceIte, Int.reduceLT, Int.reduceLE, Int.reduceEq, Int.reduceToNat, Int.reduceBEq, hc, bne_self_eq_false, e1]
        rw [hun] at next
        exact next (.inl hc)
      | true =>
        simp only [walk, Nat.reduceLT, Nat.reduceBEq, Nat.reduceAdd, Nat.reduceLeDiff, reduceIte, Int.reduceLT, Int.reduceLE, Int.reduceEq, Int.reduceToNat, Int.reduceBEq, hc, bne_self_eq_false, e1]
        rw [hun] at next
        exact next (.inl hc)
    · have hc' : (oCheck o != 0) = true := by simp [hc]
      cases hun : x.un with
      | false => simp only [walk, Nat.reduceLT, Nat.reduceBEq, Nat.reduceAdd, Nat.reduceLeDiff, reduceIte, Int.reduceLT, Int.reduceLE, Int.reduceEq, Int.reduceToNat, Int.reduceBEq, hun, hc', hc, ne_eq, and_self]
      | true =>
        simp only [walk, Nat.reduceLT, Nat.reduceBEq, Nat.reduceAdd, Nat.reduceLeDiff, reduceIte, Int.reduceLT, Int.reduceLE, Int.reduceEq, Int.reduceToNat, Int.reduceBEq, hun, hc', hc, c1, hgk, oRows_len]
        refine callWp_of hG ?_
        cases hg : oGone o with
        | true =>
          simp only [walk, Nat.reduceLT, Nat.reduceBEq, Nat.reduceAdd, Nat.reduceLeDiff, reduceIte, Int.reduceLT, Int.reduceLE, Int.reduceEq, Int.reduceToNat, Int.reduceBEq, e1]
          rw [hun] at next
          exact next (.inr (by simp [hg]))
        | false => simp only [walk, Nat.reduceLT, Nat.reduceBEq, Nat.reduceAdd, Nat.reduceLeDiff, reduceIte, Int.reduceLT, Int.reduceLE, Int.reduceEq, Int.reduceToNat, Int.reduceBEq, hc', hc, ne_eq, and_self]
  · have c1 : ¬ (k : Int) < x.ops.length := by omega
    rw [List.drop_eq_nil_of_le (by omega), opsCheck]
    simp only [walk, Nat.reduceLT, Nat.reduceBEq, Nat.reduceAdd, Nat.reduceLeDiff, reduceIte, Int.reduceLT, Int.reduceLE, Int.reduceEq, Int.reduceToNat, Int.reduceBEq, c1]
def S_opsEq (C : CallRel) (R : Rel) : Prop := ∀ (a b : List Ov) (f : FuncId), a.length ≤ 2000000 → (∀ x y : Ov, x ∈ a → C f [.v (oP x), .v (oP y)] (.val (.bool (decide (x = y)))) []) → R [.v (osP a), .v (osP b), .v (.fn f)] (.val (.bool (decide (a = b)))) []
theorem g_slices_EqualFunc : S_opsEq C ((c_slices_EqualFunc_api_Op_api_Op_api_Op_api_Op F).gives C) := by
  intro a b f ha hf
  refine gives_of rfl ?_
  unfold c_slices_EqualFunc_api_Op_api_Op_api_Op_api_Op
  simp only [walk, Nat.reduceLT, Nat.reduceBEq, Nat.reduceAdd, Nat.reduceLeDiff, reduceIte, Int.reduceLT, Int.reduceLE, Int.reduceEq, Int.reduceToNat, Int.reduceBEq, oRows_len, ine, ne_eq, decide_not]
  by_cases hl : a.length = b.length
  · have hl' : (a.length : Int) = b.length := by omega
    simp only [walk, Nat.reduceLT, Nat.reduceBEq, Nat.reduceAdd, Nat.reduceLeDiff, reduceIte, Int.reduceLT, Int.reduceLE, Int.reduceEq, Int.reduceToNat, Int.reduceBEq, hl', oRows_len]
    refine awp_loop_ind (X := Nat) (fun k => ⟨[(0, .val (osP a)), (1, .val (osP b)), (2, .val (.fn f)), (6, .val (.bool false)), (14, .val (.bool false)), (15, .val (osP a)), (16, .val (.int .i64 b.length)), (17, .val (.int .i64 k))], []⟩)
      (fun k => k ≤ a.length ∧ a.take k = b.take k) (fun k => a.length - k) 0 ⟨by omega, by simp⟩ rfl ?_
    rintro R k ⟨hk, hJ⟩ ih
    simp only [walk, Nat.reduceLT, Nat.reduceBEq, Nat.reduceAdd, Nat.reduceLeDiff, reduceIte, Int.reduceLT, Int.reduceLE, Int.reduceEq, Int.reduceToNat, Int.reduceBEq, oRows_len]
    by_cases c : k < a.length
    · have c1 : (k : Int) < b.length := by omega
      have cb : k < b.length := by omega
      have c0 : (0 : Int) ≤ k := by omega
      have e1 : IntKind.i64.wrap ((k : Int) + 1) = ((k + 1 : Nat) : Int) := wrap64 (by omega) (by omega)
      simp only [walk, Nat.reduceLT, Nat.reduceBEq, Nat.reduceAdd, Nat.reduceLeDiff, reduceIte, Int.reduceLT, Int.reduceLE, Int.reduceEq, Int.reduceToNat, Int.reduceBEq, c1, hl', oRows_get c, oRows_get cb, oRows_len]
      refine callWp_of (hf a[k] b[k] (List.getElem_mem c)) ?_
      by_cases he : a[k] = b[k]
      · simp only [walk, Nat.reduceLT, Nat.reduceBEq, Nat.reduceAdd, Nat.reduceLeDiff, reduceIte, Int.reduceLT, Int.reduceLE, Int.reduceEq, Int.reduceToNat, Int.reduceBEq, he, e1]
        refine ih (k + 1) ⟨by omega, ?_⟩ (by omega)
        rw [List.take_add_one, List.take_add_one, hJ, List.getElem?_eq_getElem c, List.getElem?_eq_getElem cb, he]
      · have hf : ¬ a = b := by
          rintro rfl
          exact he rfl
        simp only [walk, Nat.reduceLT, Nat.reduceBEq, Nat.reduceAdd, Nat.reduceLeDiff, reduceIte, Int.reduceLT, Int.reduceLE, Int.reduceEq, Int.reduceToNat, Int.reduceBEq, he, hf]
    · have c1 : ¬ (k : Int) < b.length := by omega
      rw [List.take_of_length_le (by omega), List.take_of_length_le (by omega)] at hJ
      subst hJ
      simp only [walk, Nat.reduceLT, Nat.reduceBEq, Nat.reduceAdd, Nat.reduceLeDiff, reduceIte, Int.reduceLT, Int.reduceLE, Int.reduceEq, Int.reduceToNat, Int.reduceBEq, c1]
  · have hl' : ¬ (a.length : Int) = b.length := by omega
    have hf : ¬ a = b := by
      rintro rfl
      exact hl rfl
    simp only [walk, Nat.reduceLT, Nat.reduceBEq, Nat.reduceAdd, Nat.reduceLeDiff, reduceIte, Int.reduceLT, Int.reduceLE, Int.reduceEq, Int.reduceToNat, Int.reduceBEq, hl', hf]
theorem eq_d (a b : Dt) : eqCells [.i, .i] [.int .i64 a.1, .int .i64 a.2] [.int .i64 b.1, .int .i64 b.2] = some (decide (a = b)) := by
  obtain ⟨a1, a2⟩ := a; obtain ⟨b1, b2⟩ := b
  simp only [eqCells, eqB, if_true]
  congr 1
  rw [Bool.eq_iff_iff]
  simp
theorem tsame_iff (a b : Tx) : a = b ↔ a.d = b.d ∧ a.u = b.u ∧ a.t = b.t ∧ a.un = b.un ∧ a.ops = b.ops := by
  obtain ⟨d, u, t, un, ops⟩ := a
  obtain ⟨d2, u2, t2, un2, ops2⟩ := b
  simp only [Tx.mk.injEq]
theorem tsame_no {a b : Tx} (h : ¬ (a.d = b.d ∧ a.u = b.u ∧ a.t = b.t ∧ a.un = b.un ∧ a.ops = b.ops)) : decide (a = b) = false := decide_eq_false (fun e => h ((tsame_iff a b).1 e))
theorem tsame_yes {a b : Tx} (h : (a.d = b.d ∧ a.u = b.u ∧ a.t = b.t ∧ a.un = b.un ∧ a.ops = b.ops)) : decide (a = b) = true := decide_eq_true ((tsame_iff a b).2 h)
theorem beq_dec (a b : Bool) : (a == b) = decide (a = b) := by cases a <;> cases b <;> rfl
theorem g_txn_Same (hE : S_opsEq C (C (F n_slices_EqualFunc_api_Op_api_Op_api_Op_api_Op))) (hS : S_oSame (C (F n_op_Same))) : S_tSame ((c_txn_Same F).gives C) := by
  intro a b ha
  refine gives_of rfl ?_
  unfold c_txn_Same
  simp only [walk, Nat.reduceLT, Nat.reduceBEq, Nat.reduceAdd, Nat.reduceLeDiff, reduceIte, Int.reduceLT, Int.reduceLE, Int.reduceEq, Int.reduceToNat, Int.reduceBEq, ieq, eq_d, beq_dec]
  by_cases d1 : a.d = b.d
  · by_cases d2 : a.u = b.u
    · by_cases d3 : a.t = b.t
      · by_cases d4 : a.un = b.un
        · simp only [walk, Nat.reduceLT, Nat.reduceBEq, Nat.reduceAdd, Nat.reduceLeDiff, reduceIte, Int.reduceLT, Int.reduceLE, Int.reduceEq, Int.reduceToNat, Int.reduceBEq, ieq, d1, d2, d3, d4, eq_d, beq_dec]
          refine callWp_of (hE a.ops b.ops (F n_op_Same) ha.1 (fun x y hx => hS x y (ha.2 x hx))) ?_
          by_cases d5 : a.ops = b.ops
          · simp only [walk, Nat.reduceLT, Nat.reduceBEq, Nat.reduceAdd, Nat.reduceLeDiff, reduceIte, Int.reduceLT, Int.reduceLE, Int.reduceEq, Int.reduceToNat, Int.reduceBEq, d5, tsame_yes ⟨d1, d2, d3, d4, d5⟩]
          · simp only [walk, Nat.reduceLT, Nat.reduceBEq, Nat.reduceAdd, Nat.reduceLeDiff, reduceIte, Int.reduceLT, Int.reduceLE, Int.reduceEq, Int.reduceToNat, Int.reduceBEq, d5, tsame_no (a := a) (b := b) (by simp [d5])]
        · simp only [walk, Nat.reduceLT, Nat.reduceBEq, Nat.reduceAdd, Nat.reduceLeDiff, reduceIte, Int.reduceLT, Int.reduceLE, Int.reduceEq, Int.reduceToNat, Int.reduceBEq, ieq, d1, d2, d3, d4, eq_d, beq_dec, tsame_no (a := a) (b := b) (by simp [d4])]
      · simp only [walk, Nat.reduceLT, Nat.reduceBEq, Nat.reduceAdd, Nat.reduceLeDiff, reduceIte, Int.reduceLT, Int.reduceLE, Int.reduceEq, Int.reduceToNat, Int.reduceBEq, ieq, d1, d2, d3, eq_d, tsame_no (a := a) (b := b) (by simp [d3])]
    · simp only [walk, Nat.reduceLT, Nat.reduceBEq, Nat.reduceAdd, Nat.reduceLeDiff, reduceIte, Int.reduceLT, Int.reduceLE, Int.reduceEq, Int.reduceToNat, Int.reduceBEq, ieq, d1, d2, eq_d, tsame_no (a := a) (b := b) (by simp [d2])]
  · simp only [walk, Nat.reduceLT, Nat.reduceBEq, Nat.reduceAdd, Nat.reduceLeDiff, reduceIte, Int.reduceLT, Int.reduceLE, Int.reduceEq, Int.reduceToNat, Int.reduceBEq, d1, tsame_no (a := a) (b := b) (by simp [d1])]
end
end Go.AR

/-! Transactions: sameness, bytes, places. -/
namespace Go.AR
open Go
section
variable {C : CallRel} {F : Nat → FuncId}
theorem g_pref12_Same (h1 : S_oSame (C (F n_pref11_Same))) : S_tSame ((c_pref12_Same F).gives C) := by
  intro a b ha
  refine gives_of rfl ?_
  unfold c_pref12_Same
  simp only [walk, Nat.reduceLT, Nat.reduceBEq, Nat.reduceAdd, Nat.reduceLeDiff, reduceIte, Int.reduceLT, Int.reduceLE, Int.reduceEq, Int.reduceToNat, Int.reduceBEq, ieq, ine, ne_eq, decide_not, eq_d, beq_dec, oRows_len]
  by_cases d1 : a.d = b.d
  · by_cases d2 : a.u = b.u
    · by_cases d3 : a.t = b.t
      · by_cases d4 : a.un = b.un
        · by_cases d5 : a.ops.length = b.ops.length
          · have d5' : (a.ops.length : Int) = b.ops.length := by omega
            obtain ⟨ad, au, at', aun, os⟩ := a
            obtain ⟨hl, hok⟩ := ha
            simp only at d1 d2 d3 d4 d5 d5' hl hok
            subst d1 d2 d3 d4
            simp only [walk, Nat.reduceLT, Nat.reduceBEq, Nat.reduceAdd, Nat.reduceLeDiff, reduceIte, Int.reduceLT, Int.reduceLE, Int.reduceEq, Int.reduceToNat, Int.reduceBEq, ieq, ine, ne_eq, decide_not, oRows_len, d5', eq_d, beq_dec]
            refine awp_loop_ind (X := Nat) (fun k => ⟨[(0, .val (tP ⟨b.d, b.u, b.t, b.un, os⟩)), (1, .val (tP b)), (2, .lp 2 0), (3, .lp 3 0), (4, .val (.bool false)), (5, .val (.int .i64 k)), (40, .val (.bool false))], [(2, tB ⟨b.d, b.u, b.t, b.un, os⟩), (3, tB b)]⟩)
              (fun k => k ≤ os.length ∧ os.take k = b.ops.take k) (fun k => os.length - k) 0 ⟨by omega, by simp⟩ rfl ?_
            rintro R k ⟨hk, hJ⟩ ih
            simp only [walk, Nat.reduceLT, Nat.reduceBEq, Nat.reduceAdd, Nat.reduceLeDiff, reduceIte, Int.reduceLT, Int.reduceLE, Int.reduceEq, Int.reduceToNat, Int.reduceBEq, oRows_len]
            by_cases c : k < os.length
            · have c1 : (k : Int) < b.ops.length := by omega
              have cb : k < b.ops.length := by omega
              have c0 : (0 : Int) ≤ k := by omega
              have e1 : IntKind.i64.wrap ((k : Int) + 1) = ((k + 1 : Nat) : Int) := wrap64 (by omega) (by omega)
              simp only [walk, Nat.reduceLT, Nat.reduceBEq, Nat.reduceAdd, Nat.reduceLeDiff, reduceIte, Int.reduceLT, Int.reduceLE, Int.reduceEq, Int.reduceToNat, Int.reduceBEq, c1, d5', oRows_get c, oRows_get cb, oRows_len]
              refine callWp_of (h1 os[k] b.ops[k] (hok _ (List.getElem_mem c))) ?_
              by_cases he : os[k] = b.ops[k]
              · simp only [walk, Nat.reduceLT, Nat.reduceBEq, Nat.reduceAdd, Nat.reduceLeDiff, reduceIte, Int.reduceLT, Int.reduceLE, Int.reduceEq, Int.reduceToNat, Int.reduceBEq, he, e1]
                refine ih (k + 1) ⟨by omega, ?_⟩ (by omega)
                rw [List.take_add_one, List.take_add_one, hJ, List.getElem?_eq_getElem c, List.getElem?_eq_getElem cb, he]
              · have hf : decide ((⟨b.d, b.u, b.t, b.un, os⟩ : Tx) = b) = false := by
                  apply tsame_no
                  rintro ⟨_, _, _, _, h⟩
                  simp only at h
                  exact he (by simp only [h])
                simp only [walk, Nat.reduceLT, Nat.reduceBEq, Nat.reduceAdd, Nat.reduceLeDiff, reduceIte, Int.reduceLT, Int.reduceLE, Int.reduceEq, Int.reduceToNat, Int.reduceBEq, he, hf]
            · have c1 : ¬ (k : Int) < b.ops.length := by omega
              rw [List.take_of_length_le (by omega), List.take_of_length_le (by omega)] at hJ
              have hf : decide ((⟨b.d, b.u, b.t, b.un, os⟩ : Tx) = b) = true := tsame_yes ⟨rfl, rfl, rfl, rfl, hJ⟩
              simp only [walk, Nat.reduceLT, Nat.reduceBEq, Nat.reduceAdd, Nat.reduceLeDiff, reduceIte, Int.reduceLT, Int.reduceLE, Int.reduceEq, Int.reduceToNat, Int.reduceBEq, c1, d5', hf]
          · have d5' : ¬ (a.ops.length : Int) = b.ops.length := by omega
            simp only [walk, Nat.reduceLT, Nat.reduceBEq, Nat.reduceAdd, Nat.reduceLeDiff, reduceIte, Int.reduceLT, Int.reduceLE, Int.reduceEq, Int.reduceToNat, Int.reduceBEq, ieq, ine, ne_eq, decide_not, oRows_len, d1, d2, d3, d4, d5', eq_d, beq_dec, tsame_no (a := a) (b := b) (by rintro ⟨_, _, _, _, h⟩; exact d5 (by rw [h]))]
        · simp only [walk, Nat.reduceLT, Nat.reduceBEq, Nat.reduceAdd, Nat.reduceLeDiff, reduceIte, Int.reduceLT, Int.reduceLE, Int.reduceEq, Int.reduceToNat, Int.reduceBEq, ieq, ine, ne_eq, decide_not, d1, d2, d3, d4, eq_d, beq_dec, tsame_no (a := a) (b := b) (by simp [d4])]
      · simp only [walk, Nat.reduceLT, Nat.reduceBEq, Nat.reduceAdd, Nat.reduceLeDiff, reduceIte, Int.reduceLT, Int.reduceLE, Int.reduceEq, Int.reduceToNat, Int.reduceBEq, ieq, ine, ne_eq, decide_not, d1, d2, d3, eq_d, tsame_no (a := a) (b := b) (by simp [d3])]
    · simp only [walk, Nat.reduceLT, Nat.reduceBEq, Nat.reduceAdd, Nat.reduceLeDiff, reduceIte, Int.reduceLT, Int.reduceLE, Int.reduceEq, Int.reduceToNat, Int.reduceBEq, ieq, ine, ne_eq, decide_not, d1, d2, eq_d, tsame_no (a := a) (b := b) (by simp [d2])]
  · simp only [walk, Nat.reduceLT, Nat.reduceBEq, Nat.reduceAdd, Nat.reduceLeDiff, reduceIte, Int.reduceLT, Int.reduceLE, Int.reduceEq, Int.reduceToNat, Int.reduceBEq, ieq, ine, ne_eq, decide_not, eq_d, d1, tsame_no (a := a) (b := b) (by simp [d1])]
end
end Go.AR

/-! Transactions: places. -/
namespace Go.AR
open Go
section
variable {C : CallRel} {F : Nat → FuncId}
def tRows (l : List Tx) : List (List PV) := l.map tCells
theorem tRows_len (l : List Tx) : (tRows l).length = l.length := by simp [tRows]
theorem tRows_get {l : List Tx} {k : Nat} (h : k < l.length) : (tRows l)[k]? = some (tCells l[k]) := by simp [tRows, h]
theorem tRows_app (l : List Tx) (x : Tx) : tRows l ++ [tCells x] = tRows (l ++ [x]) := by simp [tRows]
abbrev tsP (l : List Tx) : PV := .sl 6 (tRows l)
def sortT (l : List Tx) : Prop := ∀ i j, i < j → j < l.length → dcmp (l.getD i zt).d (l.getD j zt).d < 0
def lowT (l : List Tx) (d : Dt) : Nat := (l.filter fun x => decide (dcmp x.d d < 0)).length
def hasT (l : List Tx) (d : Dt) : Bool := l.any fun x => decide (x.d = d)
theorem getT_at {l : List Tx} {k : Nat} (h : k < l.length) : l.getD k zt = l[k] := by simp [List.getD_eq_getElem?_getD, h]
theorem lowT_of : ∀ {l : List Tx} {d : Dt} {i : Nat}, i ≤ l.length → (∀ k, k < i → dcmp (l.getD k zt).d d < 0) → (∀ k, i ≤ k → k < l.length → ¬ dcmp (l.getD k zt).d d < 0) → lowT l d = i
  | [], d, i, h, _, _ => by simp at h; subst h; rfl
  | u :: l, d, 0, _, _, h2 => by
    have h0 := h2 0 (by omega) (by simp)
    simp only [List.getD_cons_zero] at h0
    have := lowT_of (l := l) (d := d) (i := 0) (by omega) (by omega) (fun k _ hk => by simpa using h2 (k + 1) (by omega) (by simpa using hk))
    unfold lowT at this ⊢
    rw [List.filter_cons_of_neg (by simpa using h0)]; exact this
  | u :: l, d, i + 1, hi, h1, h2 => by
    have h0 := h1 0 (by omega)
    simp only [List.getD_cons_zero] at h0
    have := lowT_of (l := l) (d := d) (i := i) (by simpa using hi) (fun k hk => by simpa using h1 (k + 1) (by omega)) (fun k hk hl => by simpa using h2 (k + 1) (by omega) (by simpa using hl))
    unfold lowT at this ⊢
    rw [List.filter_cons_of_pos (by simpa using h0), List.length_cons, this]
theorem hasT_iff {l : List Tx} {d : Dt} : hasT l d = true ↔ ∃ k, k < l.length ∧ (l.getD k zt).d = d := by
  simp only [hasT, List.any_eq_true, decide_eq_true_eq]
  constructor
  · rintro ⟨u, hu, rfl⟩
    obtain ⟨k, hk, rfl⟩ := List.getElem_of_mem hu
    exact ⟨k, hk, by rw [getT_at hk]⟩
  · rintro ⟨k, hk, e⟩
    exact ⟨l[k], List.getElem_mem hk, by rw [← getT_at hk]; exact e⟩
theorem hasT_low {l : List Tx} {d : Dt} {i : Nat} (h1 : ∀ k, k < i → dcmp (l.getD k zt).d d < 0) (h2 : ∀ k, i ≤ k → k < l.length → ¬ dcmp (l.getD k zt).d d < 0) (hs : sortT l) :
    hasT l d = (decide (i < l.length) && decide (dcmp (l.getD i zt).d d = 0)) := by
  rw [Bool.eq_iff_iff, hasT_iff, Bool.and_eq_true, decide_eq_true_eq, decide_eq_true_eq, dcmp_zero]
  constructor
  · rintro ⟨k, hk, e⟩
    have h3 : ¬ k < i := fun h => by have := h1 k h; rw [e, dcmp_neg] at this; omega
    by_cases e2 : k = i
    · subst e2; exact ⟨hk, e⟩
    · have := hs i k (by omega) hk
      rw [e] at this
      exact absurd this (h2 i (Nat.le_refl _) (by omega))
  · rintro ⟨h, e⟩
    exact ⟨i, h, e⟩
def S_tdcmp (R : Rel) : Prop := ∀ (a : Tx) (e : Dt), R [.v (tP a), .v (dP e)] (.val (.int .i64 (dcmp a.d e))) []
def S_tbs (C : CallRel) (R : Rel) : Prop := ∀ (l : List Tx) (d : Dt) (f : FuncId), l.length ≤ 2000000 → sortT l → (∀ (a : Tx) (e : Dt), C f [.v (tP a), .v (dP e)] (.val (.int .i64 (dcmp a.d e))) []) → R [.v (tsP l), .v (dP d), .v (.fn f)] (.val (.tup [.int .i64 ((lowT l d : Nat) : Int), .bool (hasT l d)])) []
theorem g_slices_BinarySearchFunc_Txn : S_tbs C ((c_slices_BinarySearchFunc_api_Txn_api_Txn_api_Dot F).gives C) := by
  intro l d f hl hs hf
  refine gives_of rfl ?_
  unfold c_slices_BinarySearchFunc_api_Txn_api_Txn_api_Dot
  simp only [walk, Nat.reduceLT, Nat.reduceBEq, Nat.reduceAdd, Nat.reduceLeDiff, reduceIte, Int.reduceLT, Int.reduceLE, Int.reduceEq, Int.reduceToNat, Int.reduceBEq, tRows_len]
  refine awp_loop_ind (X := Nat × Nat) (fun x => ⟨[(0, .val (tsP l)), (1, .val (dP d)), (2, .val (.fn f)), (4, .lp 4 0), (6, .val (.int .i64 0)), (7, .val (.bool false)), (8, .val (.int .i64 l.length)), (9, .val (.int .i64 x.1)), (10, .val (.int .i64 x.2))],
      [(4, .cells [.val (.int .i64 d.1), .val (.int .i64 d.2)])]⟩)
      (fun x => x.1 ≤ x.2 ∧ x.2 ≤ l.length ∧ (∀ k, k < x.1 → dcmp (l.getD k zt).d d < 0) ∧ ∀ k, x.2 ≤ k → k < l.length → ¬ dcmp (l.getD k zt).d d < 0) (fun x => x.2 - x.1) (0, l.length) ⟨by omega, Nat.le_refl _, by omega, by omega⟩ rfl ?_
  rintro R ⟨i, j⟩ ⟨h1, h2, h3, h4⟩ ih
  simp only at h1 h2 h3 h4
  simp only [walk, Nat.reduceLT, Nat.reduceBEq, Nat.reduceAdd, Nat.reduceLeDiff, reduceIte, Int.reduceLT, Int.reduceLE, Int.reduceEq, Int.reduceToNat, Int.reduceBEq]
  by_cases hij : i < j
  · have c1 : (i : Int) < j := by omega
    have e1 : IntKind.i64.wrap ((i : Int) + j) = ((i + j : Nat) : Int) := wrap64 (by omega) (by omega)
    have e2 : IntKind.u64.wrap ((i + j : Nat) : Int) = ((i + j : Nat) : Int) := by unfold IntKind.wrap; simp [IntKind.bits, IntKind.signed]; omega
    have e3 : ((i + j : Nat) : Int).fdiv (2 ^ (min (1 : Nat) IntKind.u64.bits)) = (((i + j) / 2 : Nat) : Int) := by
      simp [IntKind.bits, Int.fdiv_eq_ediv]
    have e4 : IntKind.i64.wrap (((i + j) / 2 : Nat) : Int) = (((i + j) / 2 : Nat) : Int) := wrap64 (by omega) (by omega)
    obtain ⟨h, hh⟩ : ∃ h, h = (i + j) / 2 := ⟨_, rfl⟩
    have hb : i ≤ h ∧ h < j := by omega
    have hlt : h < l.length := by omega
    rw [← hh] at e3 e4
    have e5 : IntKind.i64.wrap ((h : Int) + 1) = ((h + 1 : Nat) : Int) := wrap64 (by omega) (by omega)
    simp only [walk, Nat.reduceLT, Nat.reduceBEq, Nat.reduceAdd, Nat.reduceLeDiff, reduceIte, Int.reduceLT, Int.reduceLE, Int.reduceEq, Int.reduceToNat, Int.reduceBEq, c1, e1, e2, e3, e4, tRows_get hlt]
    refine callWp_of (hf _ d) ?_
    simp only [walk, Nat.reduceLT, Nat.reduceBEq, Nat.reduceAdd, Nat.reduceLeDiff, reduceIte, Int.reduceLT, Int.reduceLE, Int.reduceEq, Int.reduceToNat, Int.reduceBEq]
    have hat := getT_at hlt
    by_cases c2 : dcmp l[h].d d < 0
    · simp only [walk, Nat.reduceLT, Nat.reduceBEq, Nat.reduceAdd, Nat.reduceLeDiff, reduceIte, Int.reduceLT, Int.reduceLE, Int.reduceEq, Int.reduceToNat, Int.reduceBEq, c2, e5]
      refine ih (h + 1, j) ⟨by simp only; omega, h2, fun k hk => ?_, h4⟩ (by simp only; omega)
      simp only at hk
      by_cases e : k = h
      · subst e; rw [hat]; exact c2
      · exact dcmp_trans (hs k h (by omega) hlt) (by rw [hat]; exact c2)
    · simp only [walk, Nat.reduceLT, Nat.reduceBEq, Nat.reduceAdd, Nat.reduceLeDiff, reduceIte, Int.reduceLT, Int.reduceLE, Int.reduceEq, Int.reduceToNat, Int.reduceBEq, c2]
      refine ih (i, h) ⟨by simp only; omega, by simp only; omega, h3, fun k hk hl' => ?_⟩ (by simp only; omega)
      simp only at hk
      by_cases e : k = h
      · subst e; rw [hat]; exact c2
      · intro hc
        exact c2 (by rw [← hat]; exact dcmp_trans (hs h k (by omega) hl') hc)
  · have hij' : i = j := by omega
    subst hij'
    have c1 : ¬ ((i : Int) < i) := by omega
    have q1 : lowT l d = i := lowT_of h2 h3 h4
    have q2 := hasT_low h3 h4 hs
    simp only [walk, Nat.reduceLT, Nat.reduceBEq, Nat.reduceAdd, Nat.reduceLeDiff, reduceIte, Int.reduceLT, Int.reduceLE, Int.reduceEq, Int.reduceToNat, Int.reduceBEq, c1]
    by_cases hlt : i < l.length
    · have c2 : (i : Int) < l.length := by omega
      have c0 : (0 : Int) ≤ i := by omega
      simp only [walk, Nat.reduceLT, Nat.reduceBEq, Nat.reduceAdd, Nat.reduceLeDiff, reduceIte, Int.reduceLT, Int.reduceLE, Int.reduceEq, Int.reduceToNat, Int.reduceBEq, c2, tRows_get hlt]
      refine callWp_of (hf _ d) ?_
      have q3 : (decide (i < l.length)) = true := by simpa using hlt
      rw [q3, Bool.true_and, getT_at hlt] at q2
      simp only [walk, Nat.reduceLT, Nat.reduceBEq, Nat.reduceAdd, Nat.reduceLeDiff, reduceIte, Int.reduceLT, Int.reduceLE, Int.reduceEq, Int.reduceToNat, Int.reduceBEq, q1, q2, ieq]
    · have c2 : ¬ ((i : Int) < l.length) := by omega
      have q3 : (decide (i < l.length)) = false := by simpa using hlt
      rw [q3, Bool.false_and] at q2
      simp only [walk, Nat.reduceLT, Nat.reduceBEq, Nat.reduceAdd, Nat.reduceLeDiff, reduceIte, Int.reduceLT, Int.reduceLE, Int.reduceEq, Int.reduceToNat, Int.reduceBEq, c2, q1, q2]
theorem g_txn_Find_1 (h : S_dcmp (C (F n_dot_Compare))) : S_tdcmp ((c_txn_Find_1 F).gives C) := by
  intro a e
  refine gives_of rfl ?_
  unfold c_txn_Find_1
  simp only [walk, Nat.reduceLT, Nat.reduceBEq, Nat.reduceAdd, Nat.reduceLeDiff, reduceIte, Int.reduceLT, Int.reduceLE, Int.reduceEq, Int.reduceToNat, Int.reduceBEq]
  refine callWp_of (h a.d e) ?_
  simp only [walk, Nat.reduceLT, Nat.reduceBEq, Nat.reduceAdd, Nat.reduceLeDiff, reduceIte, Int.reduceLT, Int.reduceLE, Int.reduceEq, Int.reduceToNat, Int.reduceBEq]
def findT (l : List Tx) (d : Dt) : Int := if hasT l d = true then ((lowT l d : Nat) : Int) else -1
def S_tFind (R : Rel) : Prop := ∀ (l : List Tx) (d : Dt), l.length ≤ 2000000 → sortT l → R [.v (tsP l), .v (dP d)] (.val (.int .i64 (findT l d))) []
theorem g_txn_Find (hB : S_tbs C (C (F n_slices_BinarySearchFunc_api_Txn_api_Txn_api_Dot))) (h1 : S_tdcmp (C (F n_txn_Find_1))) : S_tFind ((c_txn_Find F).gives C) := by
  intro l d hl hs
  refine gives_of rfl ?_
  unfold c_txn_Find findT
  simp only [walk, Nat.reduceLT, Nat.reduceBEq, Nat.reduceAdd, Nat.reduceLeDiff, reduceIte, Int.reduceLT, Int.reduceLE, Int.reduceEq, Int.reduceToNat, Int.reduceBEq]
  refine callWp_of (hB l d (F n_txn_Find_1) hl hs h1) ?_
  cases hh : hasT l d <;> simp only [walk, Nat.reduceLT, Nat.reduceBEq, Nat.reduceAdd, Nat.reduceLeDiff, reduceIte, Int.reduceLT, Int.reduceLE, Int.reduceEq, Int.reduceToNat, Int.reduceBEq]
def oneT (a b t : Int) : Tx := ⟨(a, b), 0, t, false, [⟨3, [[97]], z0, 1, []⟩]⟩
def S_one (R : Rel) : Prop := ∀ a b t : Int, R [.v (.int .i64 a), .v (.int .i64 b), .v (.int .i64 t)] (.val (tP (oneT a b t))) []
theorem g_plaw12_one : S_one ((c_plaw12_one F).gives C) := by
  intro a b t
  refine gives_of rfl ?_
  unfold c_plaw12_one oneT
  simp only [walk, Nat.reduceLT, Nat.reduceBEq, Nat.reduceAdd, Nat.reduceLeDiff, reduceIte, Int.reduceLT, Int.reduceLE, Int.reduceEq, Int.reduceToNat, Int.reduceBEq, layT]
  rfl
theorem one_check (a b t : Int) (hd : dotOk (a, b) = true) (h1 : 1 ≤ t) (h2 : t ≤ 1099511627776) : tCheck (oneT a b t) = 0 := by
  have hp : pCheck [[97]] = 0 := by unfold pCheck; simp [right_a]
  have hr : refsOk [] = true := by simp [refsOk]
  unfold tCheck oneT
  simp only [hd, List.length_singleton, opsCheck]
  rw [if_neg (by simp; omega)]
  simp [oCheck, hp, hr]
theorem g_plaw12_awake (h0 : S_one (C (F n_plaw12_one))) (h1 : S_tCheck (C (F n_txn_Check))) (h2 : S_tCmp (C (F n_txn_Compare))) (h3 : S_tFind (C (F n_txn_Find))) (h4 : S_tSame (C (F n_txn_Same))) : S_yes ((c_plaw12_awake F).gives C) := by
  refine gives_of rfl ?_
  unfold c_plaw12_awake
  have hp : pCheck [[97]] = 0 := by unfold pCheck; simp [right_a]
  have ok : ∀ a b t, tOk (oneT a b t) := fun a b t => ⟨by simp [oneT], fun o ho => by
    simp only [oneT, List.mem_singleton] at ho
    subst ho
    exact ⟨check_ok hp, by simp [z0], by simp⟩⟩
  simp only [walk, Nat.reduceLT, Nat.reduceBEq, Nat.reduceAdd, Nat.reduceLeDiff, reduceIte, Int.reduceLT, Int.reduceLE, Int.reduceEq, Int.reduceToNat, Int.reduceBEq]
  refine callWp_of (h0 0 9 5) ?_
  simp only [walk, Nat.reduceLT, Nat.reduceBEq, Nat.reduceAdd, Nat.reduceLeDiff, reduceIte, Int.reduceLT, Int.reduceLE, Int.reduceEq, Int.reduceToNat, Int.reduceBEq]
  refine callWp_of (h0 1 1 5) ?_
  simp only [walk, Nat.reduceLT, Nat.reduceBEq, Nat.reduceAdd, Nat.reduceLeDiff, reduceIte, Int.reduceLT, Int.reduceLE, Int.reduceEq, Int.reduceToNat, Int.reduceBEq, layT]
  refine callWp_of (h1 (oneT 0 9 5) (ok _ _ _)) ?_
  simp only [walk, Nat.reduceLT, Nat.reduceBEq, Nat.reduceAdd, Nat.reduceLeDiff, reduceIte, Int.reduceLT, Int.reduceLE, Int.reduceEq, Int.reduceToNat, Int.reduceBEq, one_check 0 9 5 (by decide) (by omega) (by omega)]
  refine callWp_of (h2 (oneT 0 9 5) (oneT 1 1 5)) ?_
  have e1 : tcmpT (oneT 0 9 5) (oneT 1 1 5) = -1 := by decide
  simp only [walk, Nat.reduceLT, Nat.reduceBEq, Nat.reduceAdd, Nat.reduceLeDiff, reduceIte, Int.reduceLT, Int.reduceLE, Int.reduceEq, Int.reduceToNat, Int.reduceBEq, e1]
  have hs : sortT [oneT 0 9 5, oneT 1 1 5] := by
    intro i j hij hj
    simp only [List.length_cons, List.length_nil] at hj
    have : i = 0 := by omega
    have : j = 1 := by omega
    subst i j
    decide
  refine callWp_of (h3 [oneT 0 9 5, oneT 1 1 5] (1, 1) (by simp) hs) ?_
  have e2 : findT [oneT 0 9 5, oneT 1 1 5] (1, 1) = 1 := by decide
  simp only [walk, Nat.reduceLT, Nat.reduceBEq, Nat.reduceAdd, Nat.reduceLeDiff, reduceIte, Int.reduceLT, Int.reduceLE, Int.reduceEq, Int.reduceToNat, Int.reduceBEq, e2]
  refine callWp_of (h4 (oneT 0 9 5) (oneT 0 9 5) (ok _ _ _)) ?_
  simp only [walk, Nat.reduceLT, Nat.reduceBEq, Nat.reduceAdd, Nat.reduceLeDiff, reduceIte, Int.reduceLT, Int.reduceLE, Int.reduceEq, Int.reduceToNat, Int.reduceBEq]
  refine callWp_of (h4 (oneT 0 9 5) (oneT 1 1 5) (ok _ _ _)) ?_
  have e3 : decide (oneT 0 9 5 = oneT 1 1 5) = false := tsame_no (by simp [oneT])
  simp only [walk, Nat.reduceLT, Nat.reduceBEq, Nat.reduceAdd, Nat.reduceLeDiff, reduceIte, Int.reduceLT, Int.reduceLE, Int.reduceEq, Int.reduceToNat, Int.reduceBEq, e3]
end
end Go.AR
