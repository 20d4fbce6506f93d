import Derived.Test.YtillphnjhefioaaG31
import Derived.Test.YtillphnjhefioaaG29
set_option linter.all false
/-! Transactions: the questions. -/
namespace Go.AR
open Go
section
variable {C : CallRel} {F : Nat → FuncId}
def oRows (l : List Ov) : List (List PV) := l.map oCells
theorem oRows_len (l : List Ov) : (oRows l).length = l.length := by simp [oRows]
theorem oRows_get {l : List Ov} {k : Nat} (h : k < l.length) : (oRows l)[k]? = some (oCells l[k]) := by simp [oRows, h]
abbrev osP (l : List Ov) : PV := .sl 7 (oRows l)
abbrev tCells (x : Tx) : List PV := [.int .i64 x.d.1, .int .i64 x.d.2, .int .i64 x.u, .int .i64 x.t, .bool x.un, osP x.ops]
abbrev tP (x : Tx) : PV := .agg (tCells x)
abbrev tB (x : Tx) : Blk := .cells [.val (.int .i64 x.d.1), .val (.int .i64 x.d.2), .val (.int .i64 x.u), .val (.int .i64 x.t), .val (.bool x.un), .val (osP x.ops)]
def tOk (x : Tx) : Prop := x.ops.length ≤ 2000000 ∧ ∀ o ∈ x.ops, oOk o
def S_tShort (R : Rel) : Prop := ∀ x : Tx, R [.v (tP x)] (.val (.bool (tShort x))) []
def S_tCheck (R : Rel) : Prop := ∀ x : Tx, tOk x → R [.v (tP x)] (.val (.int .i64 (tCheck x))) []
theorem g_pref12_Short (h : S_oShort (C (F n_pref11_Short))) : S_tShort ((c_pref12_Short F).gives C) := by
  intro x
  refine gives_of rfl ?_
  unfold c_pref12_Short tShort
  have e0 : ((x.ops.length : Int) > 20) = (20 < x.ops.length) := by apply propext; omega
  simp only [walk, Nat.reduceLT, Nat.reduceBEq, Nat.reduceAdd, Nat.reduceLeDiff, reduceIte, Int.reduceLT, Int.reduceLE, Int.reduceEq, Int.reduceToNat, Int.reduceBEq, oRows_len, e0]
  by_cases hl : 20 < x.ops.length
  · have : ¬ x.ops.length ≤ 20 := by omega
    simp only [walk, Nat.reduceLT, Nat.reduceBEq, Nat.reduceAdd, Nat.reduceLeDiff, reduceIte, Int.reduceLT, Int.reduceLE, Int.reduceEq, Int.reduceToNat, Int.reduceBEq, hl, this]
  · have hl2 : x.ops.length ≤ 20 := by omega
    simp only [walk, Nat.reduceLT, Nat.reduceBEq, Nat.reduceAdd, Nat.reduceLeDiff, reduceIte, Int.reduceLT, Int.reduceLE, Int.reduceEq, Int.reduceToNat, Int.reduceBEq, hl, hl2]
    refine awp_loop_ind (X := Nat) (fun k => ⟨[(0, .val (tP x)), (1, .lp 1 0), (2, .val (.bool false)), (3, .val (.int .i64 k)), (7, .val (.bool false))], [(1, tB x)]⟩)
      (fun k => k ≤ x.ops.length ∧ (x.ops.take k).all oShort = true) (fun k => x.ops.length - k) 0 ⟨by omega, by simp⟩ rfl ?_
    rintro R k ⟨hk, hJ⟩ ih
    simp only [walk, Nat.reduceLT, Nat.reduceBEq, Nat.reduceAdd, Nat.reduceLeDiff, reduceIte, Int.reduceLT, Int.reduceLE, Int.reduceEq, Int.reduceToNat, Int.reduceBEq, oRows_len]
    by_cases c : k < x.ops.length
    · have c1 : (k : Int) < x.ops.length := by omega
      have c0 : (0 : Int) ≤ k := by omega
      have e1 : IntKind.i64.wrap ((k : Int) + 1) = ((k + 1 : Nat) : Int) := wrap64 (by omega) (by omega)
      simp only [walk, Nat.reduceLT, Nat.reduceBEq, Nat.reduceAdd, Nat.reduceLeDiff, reduceIte, Int.reduceLT, Int.reduceLE, Int.reduceEq, Int.reduceToNat, Int.reduceBEq, c1, oRows_get c, oRows_len]
      refine callWp_of (h x.ops[k]) ?_
      cases hr : oShort x.ops[k] with
      | true =>
        simp only [walk, Nat.reduceLT, Nat.reduceBEq, Nat.reduceAdd, Nat.reduceLeDiff, reduceIte, Int.reduceLT, Int.reduceLE, Int.reduceEq, Int.reduceToNat, Int.reduceBEq, e1]
        refine ih (k + 1) ⟨by omega, ?_⟩ (by omega)
        rw [List.take_add_one, List.getElem?_eq_getElem c, List.all_append, hJ]
        simp [hr]
      | false =>
        have hf : x.ops.all oShort = false := by
          rw [Bool.eq_false_iff]; intro h
          have := List.all_eq_true.1 h _ (List.getElem_mem c)
          rw [hr] at this; cases this
        simp only [walk, Nat.reduceLT, Nat.reduceBEq, Nat.reduceAdd, Nat.reduceLeDiff, reduceIte, Int.reduceLT, Int.reduceLE, Int.reduceEq, Int.reduceToNat, Int.reduceBEq, hf]
    · have c1 : ¬ (k : Int) < x.ops.length := by omega
      rw [List.take_of_length_le (by omega)] at hJ
      simp only [walk, Nat.reduceLT, Nat.reduceBEq, Nat.reduceAdd, Nat.reduceLeDiff, reduceIte, Int.reduceLT, Int.reduceLE, Int.reduceEq, Int.reduceToNat, Int.reduceBEq, c1, hJ]
end
end Go.AR

/-! Transactions: more questions. -/
namespace Go.AR
open Go
section
variable {C : CallRel} {F : Nat → FuncId}
theorem g_pref12_Check (hD : S_dotOk (C (F n_pref04_Right))) (hG : S_oGone (C (F n_pref11_Gone))) (hC : S_oCheck (C (F n_pref11_Check))) : S_tCheck ((c_pref12_Check F).gives C) := by
  intro x hx
  refine gives_of rfl ?_
  unfold c_pref12_Check tCheck
  obtain ⟨hl, hok⟩ := hx
  simp only [walk, Nat.reduceLT, Nat.reduceBEq, Nat.reduceAdd, Nat.reduceLeDiff, reduceIte, Int.reduceLT, Int.reduceLE, Int.reduceEq, Int.reduceToNat, Int.reduceBEq]
  refine callWp_of (hD x.d) ?_
  cases hd : dotOk x.d with
  | false => simp only [walk, Nat.reduceLT, Nat.reduceBEq, Nat.reduceAdd, Nat.reduceLeDiff, reduceIte, Int.reduceLT, Int.reduceLE, Int.reduceEq, Int.reduceToNat, Int.reduceBEq, true_or]
  | true =>
  simp only [walk, Nat.reduceLT, Nat.reduceBEq, Nat.reduceAdd, Nat.reduceLeDiff, reduceIte, Int.reduceLT, Int.reduceLE, Int.reduceEq, Int.reduceToNat, Int.reduceBEq]
  by_cases h1 : x.u < 0
  · simp only [walk, Nat.reduceLT, Nat.reduceBEq, Nat.reduceAdd, Nat.reduceLeDiff, reduceIte, Int.reduceLT, Int.reduceLE, Int.reduceEq, Int.reduceToNat, Int.reduceBEq, h1, or_true, true_or]
  by_cases h2 : x.u > 7
  · simp only [walk, Nat.reduceLT, Nat.reduceBEq, Nat.reduceAdd, Nat.reduceLeDiff, reduceIte, Int.reduceLT, Int.reduceLE, Int.reduceEq, Int.reduceToNat, Int.reduceBEq, h1, h2, or_true, true_or]
  by_cases h3 : x.t < 1
  · simp only [walk, Nat.reduceLT, Nat.reduceBEq, Nat.reduceAdd, Nat.reduceLeDiff, reduceIte, Int.reduceLT, Int.reduceLE, Int.reduceEq, Int.reduceToNat, Int.reduceBEq, h1, h2, h3, or_true, true_or]
  by_cases h4 : x.t > 1099511627776
  · simp only [walk, Nat.reduceLT, Nat.reduceBEq, Nat.reduceAdd, Nat.reduceLeDiff, reduceIte, Int.reduceLT, Int.reduceLE, Int.reduceEq, Int.reduceToNat, Int.reduceBEq, h1, h2, h3, h4, or_true, true_or]
  simp only [walk, Nat.reduceLT, Nat.reduceBEq, Nat.reduceAdd, Nat.reduceLeDiff, reduceIte, Int.reduceLT, Int.reduceLE, Int.reduceEq, Int.reduceToNat, Int.reduceBEq, h1, h2, h3, h4, or_self, oRows_len, ieq]
  by_cases h5 : x.ops.length = 0
  · have h5' : (x.ops.length : Int) = 0 := by omega
    simp only [walk, Nat.reduceLT, Nat.reduceBEq, Nat.reduceAdd, Nat.reduceLeDiff, reduceIte, Int.reduceLT, Int.reduceLE, Int.reduceEq, Int.reduceToNat, Int.reduceBEq, h5, h5', ieq]
  have h5' : ¬ (x.ops.length : Int) = 0 := by omega
  by_cases h6 : x.ops.length > 16
  · have h6' : (x.ops.length : Int) > 16 := by omega
    simp only [walk, Nat.reduceLT, Nat.reduceBEq, Nat.reduceAdd, Nat.reduceLeDiff, reduceIte, Int.reduceLT, Int.reduceLE, Int.reduceEq, Int.reduceToNat, Int.reduceBEq, h5, h5', h6, h6', oRows_len]
  have h6' : ¬ (x.ops.length : Int) > 16 := by omega
  simp only [walk, Nat.reduceLT, Nat.reduceBEq, Nat.reduceAdd, Nat.reduceLeDiff, reduceIte, Int.reduceLT, Int.reduceLE, Int.reduceEq, Int.reduceToNat, Int.reduceBEq, h5, h5', h6, h6', oRows_len]
  refine awp_loop_ind (X := Nat) (fun k => ⟨[(0, .val (tP x)), (1, .lp 1 0), (2, .val (.int .i64 0)), (3, .val (.int .i64 k)), (28, .val (.bool false)), (32, .val (.bool false)), (36, .val (.bool false))], [(1, tB x)]⟩)
    (fun k => k ≤ x.ops.length ∧ ∀ j, j < k → ∀ h : j < x.ops.length, oCheck x.ops[j] = 0 ∨ (x.un && oGone x.ops[j]) = true) (fun k => x.ops.length - k) 0 ⟨by omega, by omega⟩ rfl ?_
  rintro R k ⟨hk, hJ⟩ ih
  simp only [walk, Nat.reduceLT, Nat.reduceBEq, Nat.reduceAdd, Nat.reduceLeDiff, reduceIte, Int.reduceLT, Int.reduceLE, Int.reduceEq, Int.reduceToNat, Int.reduceBEq, oRows_len]
  rw [opsCheck_split x.un x.ops k hJ]
  by_cases c : k < x.ops.length
  · have c1 : (k : Int) < x.ops.length := by omega
    have c0 : (0 : Int) ≤ k := by omega
    have e1 : IntKind.i64.wrap ((k : Int) + 1) = ((k + 1 : Nat) : Int) := wrap64 (by omega) (by omega)
    have next : (oCheck x.ops[k] = 0 ∨ (x.un && oGone x.ops[k]) = true) → _ := fun h => ih (k + 1) ⟨by omega, fun j hj hl => by
      by_cases e : j = k
      · subst e; exact h
      · exact hJ j (by omega) hl⟩ (by omega)
    rw [List.drop_eq_getElem_cons c, opsCheck]
    have hok := hok _ (List.getElem_mem c)
    have hgk := oRows_get c
    generalize x.ops[k] = o at *
    have hG := hG o
    have hC := hC o hok
    simp only [walk, Nat.reduceLT, Nat.reduceBEq, Nat.reduceAdd, Nat.reduceLeDiff, reduceIte, Int.reduceLT, Int.reduceLE, Int.reduceEq, Int.reduceToNat, Int.reduceBEq, c1, hgk, oRows_len]
    refine callWp_of hC ?_
    by_cases hc : oCheck o = 0
    · cases hun : x.un with
      | false =>
        simp only [walk, Nat.reduceLT, Nat.reduceBEq, Nat.reduceAdd, Nat.reduceLeDiff, reduceIte, Int.reduceLT, Int.reduceLE, Int.reduceEq, Int.reduceToNat, Int.reduceBEq, hc, bne_self_eq_false, e1]
        rw [hun] at next
        exact next (.inl hc)
      | true =>
        simp only [walk, Nat.reduceLT, Nat.reduceBEq, Nat.reduceAdd, Nat.reduceLeDiff, reduceIte, Int.reduceLT, Int.reduceLE, Int.reduceEq, Int.reduceToNat, Int.reduceBEq, hc, bne_self_eq_false, e1]
        rw [hun] at next
        exact next (.inl hc)
    · have hc' : (oCheck o != 0) = true := by simp [hc]
      cases hun : x.un with
      | false => simp only [walk, Nat.reduceLT, Nat.reduceBEq, Nat.reduceAdd, Nat.reduceLeDiff, reduceIte, Int.reduceLT, Int.reduceLE, Int.reduceEq, Int.reduceToNat, Int.reduceBEq, hun, hc', hc, ne_eq, and_self]
      | true =>
        simp only [walk, Nat.reduceLT, Nat.reduceBEq, Nat.reduceAdd, Nat.reduceLeDiff, reduceIte, Int.reduceLT, Int.reduceLE, Int.reduceEq, Int.reduceToNat, Int.reduceBEq, hun, hc', hc, c1, hgk, oRows_len]
        refine callWp_of hG ?_
        cases hg : oGone o with
        | true =>
          simp only [walk, Nat.reduceLT, Nat.reduceBEq, Nat.reduceAdd, Nat.reduceLeDiff, reduceIte, Int.reduceLT, Int.reduceLE, Int.reduceEq, Int.reduceToNat, Int.reduceBEq, e1]
          rw [hun] at next
          exact next (.inr (by simp [hg]))
        | false => simp only [walk, Nat.reduceLT, Nat.reduceBEq, Nat.reduceAdd, Nat.reduceLeDiff, reduceIte, Int.reduceLT, Int.reduceLE, Int.reduceEq, Int.reduceToNat, Int.reduceBEq, hc', hc, ne_eq, and_self]
  · have c1 : ¬ (k : Int) < x.ops.length := by omega
    rw [List.drop_eq_nil_of_le (by omega), opsCheck]
    simp only [walk, Nat.reduceLT, Nat.reduceBEq, Nat.reduceAdd, Nat.reduceLeDiff, reduceIte, Int.reduceLT, Int.reduceLE, Int.reduceEq, Int.reduceToNat, Int.reduceBEq, c1]
end
end Go.AR

/-! Transactions: places. -/
namespace Go.AR
open Go
section
variable {C : CallRel} {F : Nat → FuncId}
def tRows (l : List Tx) : List (List PV) := l.map tCells
theorem tRows_len (l : List Tx) : (tRows l).length = l.length := by simp [tRows]
theorem tRows_get {l : List Tx} {k : Nat} (h : k < l.length) : (tRows l)[k]? = some (tCells l[k]) := by simp [tRows, h]
abbrev tsP (l : List Tx) : PV := .sl 6 (tRows l)
theorem getT_at {l : List Tx} {k : Nat} (h : k < l.length) : l.getD k zt = l[k] := by simp [List.getD_eq_getElem?_getD, h]
theorem tShort_ok {x : Tx} (h : tShort x = true) : x.ops.length ≤ 20 ∧ (∀ o ∈ x.ops, oShort o = true) ∧ tOk x := by
  unfold tShort at h
  simp only [Bool.and_eq_true, decide_eq_true_eq, List.all_eq_true] at h
  exact ⟨h.1, h.2, by omega, fun o ho => (short_oOk (h.2 o ho)).1⟩
end
end Go.AR
