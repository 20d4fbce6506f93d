import Derived.Test.YtillphnjhefioaaG10
import Derived.Test.YtillphnjhefioaaG30
set_option linter.all false
/-! Transactions: the questions. -/
namespace Go.AR
open Go
section
variable {C : CallRel} {F : Nat → FuncId}
def oRows (l : List Ov) : List (List PV) := l.map oCells
theorem oRows_len (l : List Ov) : (oRows l).length = l.length := by simp [oRows]
theorem oRows_get {l : List Ov} {k : Nat} (h : k < l.length) : (oRows l)[k]? = some (oCells l[k]) := by simp [oRows, h]
abbrev osP (l : List Ov) : PV := .sl 7 (oRows l)
abbrev tCells (x : Tx) : List PV := [.int .i64 x.d.1, .int .i64 x.d.2, .int .i64 x.u, .int .i64 x.t, .bool x.un, osP x.ops]
abbrev tP (x : Tx) : PV := .agg (tCells x)
abbrev tB (x : Tx) : Blk := .cells [.val (.int .i64 x.d.1), .val (.int .i64 x.d.2), .val (.int .i64 x.u), .val (.int .i64 x.t), .val (.bool x.un), .val (osP x.ops)]
def tOk (x : Tx) : Prop := x.ops.length ≤ 2000000 ∧ ∀ o ∈ x.ops, oOk o
def S_tShort (R : Rel) : Prop := ∀ x : Tx, R [.v (tP x)] (.val (.bool (tShort x))) []
def S_tCheck (R : Rel) : Prop := ∀ x : Tx, tOk x → R [.v (tP x)] (.val (.int .i64 (tCheck x))) []
theorem g_pref12_Short (h : S_oShort (C (F n_pref11_Short))) : S_tShort ((c_pref12_Short F).gives C) := by
  intro x
  refine gives_of rfl ?_
  unfold c_pref12_Short tShort
  have e0 : ((x.ops.length : Int) > 20) = (20 < x.ops.length) := by apply propext; omega
  simp only [walk, Nat.reduceLT, Nat.reduceBEq, Nat.reduceAdd, Nat.reduceLeDiff, reduceIte, Int.reduceLT, Int.reduceLE, Int.reduceEq, Int.reduceToNat, Int.reduceBEq, oRows_len, e0]
  by_cases hl : 20 < x.ops.length
  · have : ¬ x.ops.length ≤ 20 := by omega
    simp only [walk, Nat.reduceLT, Nat.reduceBEq, Nat.reduceAdd, Nat.reduceLeDiff, reduceIte, Int.reduceLT, Int.reduceLE, Int.reduceEq, Int.reduceToNat, Int.reduceBEq, hl, this]
  · have hl2 : x.ops.length ≤ 20 := by omega
    simp only [walk, Nat.reduceLT, Nat.reduceBEq, Nat.reduceAdd, Nat.reduceLeDiff, reduceIte, Int.reduceLT, Int.reduceLE, Int.reduceEq, Int.reduceToNat, Int.reduceBEq, hl, hl2]
    refine awp_loop_ind (X := Nat) (fun k => ⟨[(0, .val (tP x)), (1, .lp 1 0), (2, .val (.bool false)), (3, .val (.int .i64 k)), (7, .val (.bool false))], [(1, tB x)]⟩)
      (fun k => k ≤ x.ops.length ∧ (x.ops.take k).all oShort = true) (fun k => x.ops.length - k) 0 ⟨by omega, by simp⟩ rfl ?_
    rintro R k ⟨hk, hJ⟩ ih
    simp only [walk, Nat.reduceLT, Nat.reduceBEq, Nat.reduceAdd, Nat.reduceLeDiff, reduceIte, Int.reduceLT, Int.reduceLE, Int.reduceEq, Int.reduceToNat, Int.reduceBEq, oRows_len]
    by_cases c : k < x.ops.length
    · have c1 : (k : Int) < x.ops.length := by omega
      have c0 : (0 : Int) ≤ k := by omega
      have e1 : IntKind.i64.wrap ((k : Int) + 1) = ((k + 1 : Nat) : Int) := wrap64 (by omega) (by omega)
      simp only [walk, Nat.reduceLT, Nat.reduceBEq, Nat.reduceAdd, Nat.reduceLeDiff, reduceIte, Int.reduceLT, Int.reduceLE, Int.reduceEq, Int.reduceToNat, Int.reduceBEq, c1, oRows_get c, oRows_len]
      refine callWp_of (h x.ops[k]) ?_
      cases hr : oShort x.ops[k] with
      | true =>
        simp only [walk, Nat.reduceLT, Nat.reduceBEq, Nat.reduceAdd, Nat.reduceLeDiff, reduceIte, Int.reduceLT, Int.reduceLE, Int.reduceEq, Int.reduceToNat, Int.reduceBEq, e1]
        refine ih (k + 1) ⟨by omega, ?_⟩ (by omega)
        rw [List.take_add_one, List.getElem?_eq_getElem c, List.all_append, hJ]
        simp [hr]
      | false =>
        have hf : x.ops.all oShort = false := by
          rw [Bool.eq_false_iff]; intro h
          have := List.all_eq_true.1 h _ (List.getElem_mem c)
          rw [hr] at this; cases this
        simp only [walk, Nat.reduceLT, Nat.reduceBEq, Nat.reduceAdd, Nat.reduceLeDiff, reduceIte, Int.reduceLT, Int.reduceLE, Int.reduceEq, Int.reduceToNat, Int.reduceBEq, hf]
    · have c1 : ¬ (k : Int) < x.ops.length := by omega
      rw [List.take_of_length_le (by omega)] at hJ
      simp only [walk, Nat.reduceLT, Nat.reduceBEq, Nat.reduceAdd, Nat.reduceLeDiff, reduceIte, Int.reduceLT, Int.reduceLE, Int.reduceEq, Int.reduceToNat, Int.reduceBEq, c1, hJ]
end
end Go.AR

/-! Transactions: more questions. -/
namespace Go.AR
open Go
section
variable {C : CallRel} {F : Nat → FuncId}
theorem g_pref12_Check (hD : S_dotOk (C (F n_pref04_Right))) (hG : S_oGone (C (F n_pref11_Gone))) (hC : S_oCheck (C (F n_pref11_Check))) : S_tCheck ((c_pref12_Check F).gives C) := by
  intro x hx
  refine gives_of rfl ?_
  unfold c_pref12_Check tCheck
  obtain ⟨hl, hok⟩ := hx
  simp only [walk, Nat.reduceLT, Nat.reduceBEq, Nat.reduceAdd, Nat.reduceLeDiff, reduceIte, Int.reduceLT, Int.reduceLE, Int.reduceEq, Int.reduceToNat, Int.reduceBEq]
  refine callWp_of (hD x.d) ?_
  cases hd : dotOk x.d with
  | false => simp only [walk, Nat.reduceLT, Nat.reduceBEq, Nat.reduceAdd, Nat.reduceLeDiff, reduceIte, Int.reduceLT, Int.reduceLE, Int.reduceEq, Int.reduceToNat, Int.reduceBEq, true_or]
  | true =>
  simp only [walk, Nat.reduceLT, Nat.reduceBEq, Nat.reduceAdd, Nat.reduceLeDiff, reduceIte, Int.reduceLT, Int.reduceLE, Int.reduceEq, Int.reduceToNat, Int.reduceBEq]
  by_cases h1 : x.u < 0
  · simp only [walk, Nat.reduceLT, Nat.reduceBEq, Nat.reduceAdd, Nat.reduceLeDiff, reduceIte, Int.reduceLT, Int.reduceLE, Int.reduceEq, Int.reduceToNat, Int.reduceBEq, h1, or_true, true_or]
  by_cases h2 : x.u > 7
  · simp only [walk, Nat.reduceLT, Nat.reduceBEq, Nat.reduceAdd, Nat.reduceLeDiff, reduceIte, Int.reduceLT, Int.reduceLE, Int.reduceEq, Int.reduceToNat, Int.reduceBEq, h1, h2, or_true, true_or]
  by_cases h3 : x.t < 1
  · simp only [walk, Nat.reduceLT, Nat.reduceBEq, Nat.reduceAdd, Nat.reduceLeDiff, reduceIte, Int.reduceLT, Int.reduceLE, Int.reduceEq, Int.reduceToNat, Int.reduceBEq, h1, h2, h3, or_true, true_or]
  by_cases h4 : x.t > 1099511627776
  · simp only [walk, Nat.reduceLT, Nat.reduceBEq, Nat.reduceAdd, Nat.reduceLeDiff, reduceIte, Int.reduceLT, Int.reduceLE, Int.reduceEq, Int.reduceToNat, Int.reduceBEq, h1, h2, h3, h4, or_true, true_or]
  simp only [walk, Nat.reduceLT, Nat.reduceBEq, Nat.reduceAdd, Nat.reduceLeDiff, reduceIte, Int.reduceLT, Int.reduceLE, Int.reduceEq, Int.reduceToNat, Int.reduceBEq, h1, h2, h3, h4, or_self, oRows_len, ieq]
  by_cases h5 : x.ops.length = 0
  · have h5' : (x.ops.length : Int) = 0 := by omega
    simp only [walk, Nat.reduceLT, Nat.reduceBEq, Nat.reduceAdd, Nat.reduceLeDiff, reduceIte, Int.reduceLT, Int.reduceLE, Int.reduceEq, Int.reduceToNat, Int.reduceBEq, h5, h5', ieq]
  have h5' : ¬ (x.ops.length : Int) = 0 := by omega
  by_cases h6 : x.ops.length > 16
  · have h6' : (x.ops.length : Int) > 16 := by omega
    simp only [walk, Nat.reduceLT, Nat.reduceBEq, Nat.reduceAdd, Nat.reduceLeDiff, reduceIte, Int.reduceLT, Int.reduceLE, Int.reduceEq, Int.reduceToNat, Int.reduceBEq, h5, h5', h6, h6', oRows_len]
  have h6' : ¬ (x.ops.length : Int) > 16 := by omega
  simp only [walk, Nat.reduceLT, Nat.reduceBEq, Nat.reduceAdd, Nat.reduceLeDiff, reduceIte, Int.reduceLT, Int.reduceLE, Int.reduceEq, Int.reduceToNat, Int.reduceBEq, h5, h5', h6, h6', oRows_len]
  refine awp_loop_ind (X := Nat) (fun k => ⟨[(0, .val (tP x)), (1, .lp 1 0), (2, .val (.int .i64 0)), (3, .val (.int .i64 k)), (28, .val (.bool false)), (32, .val (.bool false)), (36, .val (.bool false))], [(1, tB x)]⟩)
    (fun k => k ≤ x.ops.length ∧ ∀ j, j < k → ∀ h : j < x.ops.length, oCheck x.ops[j] = 0 ∨ (x.un && oGone x.ops[j]) = true) (fun k => x.ops.length - k) 0 ⟨by omega, by omega⟩ rfl ?_
  rintro R k ⟨hk, hJ⟩ ih
  simp only [walk, Nat.reduceLT, Nat.reduceBEq, Nat.reduceAdd, Nat.reduceLeDiff, reduceIte, Int.reduceLT, Int.reduceLE, Int.reduceEq, Int.reduceToNat, Int.reduceBEq, oRows_len]
  rw [opsCheck_split x.un x.ops k hJ]
  by_cases c : k < x.ops.length
  · have c1 : (k : Int) < x.ops.length := by omega
    have c0 : (0 : Int) ≤ k := by omega
    have e1 : IntKind.i64.wrap ((k : Int) + 1) = ((k + 1 : Nat) : Int) := wrap64 (by omega) (by omega)
    have next : (oCheck x.ops[k] = 0 ∨ (x.un && oGone x.ops[k]) = true) → _ := fun h => ih (k + 1) ⟨by omega, fun j hj hl => by
      by_cases e : j = k
      · subst e; exact h
      · exact hJ j (by omega) hl⟩ (by omega)
    rw [List.drop_eq_getElem_cons c, opsCheck]
    have hok := hok _ (List.getElem_mem c)
    have hgk := oRows_get c
    generalize x.ops[k] = o at *
    have hG := hG o
    have hC := hC o hok
    simp only [walk, Nat.reduceLT, Nat.reduceBEq, Nat.reduceAdd, Nat.reduceLeDiff, reduceIte, Int.reduceLT, Int.reduceLE, Int.reduceEq, Int.reduceToNat, Int.reduceBEq, c1, hgk, oRows_len]
    refine callWp_of hC ?_
    by_cases hc : oCheck o = 0
    · cases hun : x.un with
      | false =>
        simp only [walk, Nat.reduceLT, Nat.reduceBEq, Nat.reduceAdd, Nat.reduceLeDiff, reduceIte, Int.reduceLT, Int.reduceLE, Int.reduceEq, Int.reduceToNat, Int.reduceBEq, hc, bne_self_eq_false, e1]
        rw [hun] at next
        exact next (.inl hc)
      | true =>
        simp only [walk, Nat.reduceLT, Nat.reduceBEq, Nat.reduceAdd, Nat.reduceLeDiff, reduceIte, Int.reduceLT, Int.reduceLE, Int.reduceEq, Int.reduceToNat, Int.reduceBEq, hc, bne_self_eq_false, e1]
        rw [hun] at next
        exact next (.inl hc)
    · have hc' : (oCheck o != 0) = true := by simp [hc]
      cases hun : x.un with
      | false => simp only [walk, Nat.reduceLT, Nat.reduceBEq, Nat.reduceAdd, Nat.reduceLeDiff, reduceIte, Int.reduceLT, Int.reduceLE, Int.reduceEq, Int.reduceToNat, Int.reduceBEq, hun, hc', hc, ne_eq, and_self]
      | true =>
        simp only [walk, Nat.reduceLT, Nat.reduceBEq, Nat.reduceAdd, Nat.reduceLeDiff, reduceIte, Int.reduceLT, Int.reduceLE, Int.reduceEq, Int.reduceToNat, Int.reduceBEq, hun, hc', hc, c1, hgk, oRows_len]
        refine callWp_of hG ?_
        cases hg : oGone o with
        | true =>
          simp only [walk, Nat.reduceLT, Nat.reduceBEq, Nat.reduceAdd, Nat.reduceLeDiff, reduceIte, Int.reduceLT, Int.reduceLE, Int.reduceEq, Int.reduceToNat, Int.reduceBEq, e1]
          rw [hun] at next
          exact next (.inr (by simp [hg]))
        | false => simp only [walk, Nat.reduceLT, Nat.reduceBEq, Nat.reduceAdd, Nat.reduceLeDiff, reduceIte, Int.reduceLT, Int.reduceLE, Int.reduceEq, Int.reduceToNat, Int.reduceBEq, hc', hc, ne_eq, and_self]
  · have c1 : ¬ (k : Int) < x.ops.length := by omega
    rw [List.drop_eq_nil_of_le (by omega), opsCheck]
    simp only [walk, Nat.reduceLT, Nat.reduceBEq, Nat.reduceAdd, Nat.reduceLeDiff, reduceIte, Int.reduceLT, Int.reduceLE, Int.reduceEq, Int.reduceToNat, Int.reduceBEq, c1]
theorem eq_d (a b : Dt) : eqCells [.i, .i] [.int .i64 a.1, .int .i64 a.2] [.int .i64 b.1, .int .i64 b.2] = some (decide (a = b)) := by
  obtain ⟨a1, a2⟩ := a; obtain ⟨b1, b2⟩ := b
  simp only [eqCells, eqB, if_true]
  congr 1
  rw [Bool.eq_iff_iff]
  simp
end
end Go.AR

/-! Transactions: places. -/
namespace Go.AR
open Go
section
variable {C : CallRel} {F : Nat → FuncId}
def tRows (l : List Tx) : List (List PV) := l.map tCells
theorem tRows_len (l : List Tx) : (tRows l).length = l.length := by simp [tRows]
theorem tRows_get {l : List Tx} {k : Nat} (h : k < l.length) : (tRows l)[k]? = some (tCells l[k]) := by simp [tRows, h]
theorem tRows_app (l : List Tx) (x : Tx) : tRows l ++ [tCells x] = tRows (l ++ [x]) := by simp [tRows]
abbrev tsP (l : List Tx) : PV := .sl 6 (tRows l)
def sortT (l : List Tx) : Prop := ∀ i j, i < j → j < l.length → dcmp (l.getD i zt).d (l.getD j zt).d < 0
def lowT (l : List Tx) (d : Dt) : Nat := (l.filter fun x => decide (dcmp x.d d < 0)).length
def hasT (l : List Tx) (d : Dt) : Bool := l.any fun x => decide (x.d = d)
theorem getT_at {l : List Tx} {k : Nat} (h : k < l.length) : l.getD k zt = l[k] := by simp [List.getD_eq_getElem?_getD, h]
theorem lowT_of : ∀ {l : List Tx} {d : Dt} {i : Nat}, i ≤ l.length → (∀ k, k < i → dcmp (l.getD k zt).d d < 0) → (∀ k, i ≤ k → k < l.length → ¬ dcmp (l.getD k zt).d d < 0) → lowT l d = i
  | [], d, i, h, _, _ => by simp at h; subst h; rfl
  | u :: l, d, 0, _, _, h2 => by
    have h0 := h2 0 (by omega) (by simp)
    simp only [List.getD_cons_zero] at h0
    have := lowT_of (l := l) (d := d) (i := 0) (by omega) (by omega) (fun k _ hk => by simpa using h2 (k + 1) (by omega) (by simpa using hk))
    unfold lowT at this ⊢
    rw [List.filter_cons_of_neg (by simpa using h0)]; exact this
  | u :: l, d, i + 1, hi, h1, h2 => by
    have h0 := h1 0 (by omega)
    simp only [List.getD_cons_zero] at h0
    have := lowT_of (l := l) (d := d) (i := i) (by simpa using hi) (fun k hk => by simpa using h1 (k + 1) (by omega)) (fun k hk hl => by simpa using h2 (k + 1) (by omega) (by simpa using hl))
    unfold lowT at this ⊢
    rw [List.filter_cons_of_pos (by simpa using h0), List.length_cons, this]
theorem hasT_iff {l : List Tx} {d : Dt} : hasT l d = true ↔ ∃ k, k < l.length ∧ (l.getD k zt).d = d := by
  simp only [hasT, List.any_eq_true, decide_eq_true_eq]
  constructor
  · rintro ⟨u, hu, rfl⟩
    obtain ⟨k, hk, rfl⟩ := List.getElem_of_mem hu
    exact ⟨k, hk, by rw [getT_at hk]⟩
  · rintro ⟨k, hk, e⟩
    exact ⟨l[k], List.getElem_mem hk, by rw [← getT_at hk]; exact e⟩
theorem hasT_low {l : List Tx} {d : Dt} {i : Nat} (h1 : ∀ k, k < i → dcmp (l.getD k zt).d d < 0) (h2 : ∀ k, i ≤ k → k < l.length → ¬ dcmp (l.getD k zt).d d < 0) (hs : sortT l) :
    hasT l d = (decide (i < l.length) && decide (dcmp (l.getD i zt).d d = 0)) := by
  rw [Bool.eq_iff_iff, hasT_iff, Bool.and_eq_true, decide_eq_true_eq, decide_eq_true_eq, dcmp_zero]
  constructor
  · rintro ⟨k, hk, e⟩
    have h3 : ¬ k < i := fun h => by have := h1 k h; rw [e, dcmp_neg] at this; omega
    by_cases e2 : k = i
    · subst e2; exact ⟨hk, e⟩
    · have := hs i k (by omega) hk
      rw [e] at this
      exact absurd this (h2 i (Nat.le_refl _) (by omega))
  · rintro ⟨h, e⟩
    exact ⟨i, h, e⟩
def S_tdcmp (R : Rel) : Prop := ∀ (a : Tx) (e : Dt), R [.v (tP a), .v (dP e)] (.val (.int .i64 (dcmp a.d e))) []
def S_tbs (C : CallRel) (R : Rel) : Prop := ∀ (l : List Tx) (d : Dt) (f : FuncId), l.length ≤ 2000000 → sortT l → (∀ (a : Tx) (e : Dt), C f [.v (tP a), .v (dP e)] (.val (.int .i64 (dcmp a.d e))) []) → R [.v (tsP l), .v (dP d), .v (.fn f)] (.val (.tup [.int .i64 ((lowT l d : Nat) : Int), .bool (hasT l d)])) []
theorem g_slices_BinarySearchFunc_Txn : S_tbs C ((c_slices_BinarySearchFunc_api_Txn_api_Txn_api_Dot F).gives C) := by
  intro l d f hl hs hf
  refine gives_of rfl ?_
  unfold c_slices_BinarySearchFunc_api_Txn_api_Txn_api_Dot
  simp only [walk, Nat.reduceLT, Nat.reduceBEq, Nat.reduceAdd, Nat.reduceLeDiff, reduceIte, Int.reduceLT, Int.reduceLE, Int.reduceEq, Int.reduceToNat, Int.reduceBEq, tRows_len]
  refine awp_loop_ind (X := Nat × Nat) (fun x => ⟨[(0, .val (tsP l)), (1, .val (dP d)), (2, .val (.fn f)), (4, .lp 4 0), (6, .val (.int .i64 0)), (7, .val (.bool false)), (8, .val (.int .i64 l.length)), (9, .val (.int .i64 x.1)), (10, .val (.int .i64 x.2))],
      [(4, .cells [.val (.int .i64 d.1), .val (.int .i64 d.2)])]⟩)
      (fun x => x.1 ≤ x.2 ∧ x.2 ≤ l.length ∧ (∀ k, k < x.1 → dcmp (l.getD k zt).d d < 0) ∧ ∀ k, x.2 ≤ k → k < l.length → ¬ dcmp (l.getD k zt).d d < 0) (fun x => x.2 - x.1) (0, l.length) ⟨by omega, Nat.le_refl _, by omega, by omega⟩ rfl ?_
  rintro R ⟨i, j⟩ ⟨h1, h2, h3, h4⟩ ih
  simp only at h1 h2 h3 h4
  simp only [walk, Nat.reduceLT, Nat.reduceBEq, Nat.reduceAdd, Nat.reduceLeDiff, reduceIte, Int.reduceLT, Int.reduceLE, Int.reduceEq, Int.reduceToNat, Int.reduceBEq]
  by_cases hij : i < j
  · have c1 : (i : Int) < j := by omega
    have e1 : IntKind.i64.wrap ((i : Int) + j) = ((i + j : Nat) : Int) := wrap64 (by omega) (by omega)
    have e2 : IntKind.u64.wrap ((i + j : Nat) : Int) = ((i + j : Nat) : Int) := by unfold IntKind.wrap; simp [IntKind.bits, IntKind.signed]; omega
    have e3 : ((i + j : Nat) : Int).fdiv (2 ^ (min (1 : Nat) IntKind.u64.bits)) = (((i + j) / 2 : Nat) : Int) := by
      simp [IntKind.bits, Int.fdiv_eq_ediv]
    have e4 : IntKind.i64.wrap (((i + j) / 2 : Nat) : Int) = (((i + j) / 2 : Nat) : Int) := wrap64 (by omega) (by omega)
    obtain ⟨h, hh⟩ : ∃ h, h = (i + j) / 2 := ⟨_, rfl⟩
    have hb : i ≤ h ∧ h < j := by omega
    have hlt : h < l.length := by omega
    rw [← hh] at e3 e4
    have e5 : IntKind.i64.wrap ((h : Int) + 1) = ((h + 1 : Nat) : Int) := wrap64 (by omega) (by omega)
    simp only [walk, Nat.reduceLT, Nat.reduceBEq, Nat.reduceAdd, Nat.reduceLeDiff, reduceIte, Int.reduceLT, Int.reduceLE, Int.reduceEq, Int.reduceToNat, Int.reduceBEq, c1, e1, e2, e3, e4, tRows_get hlt]
    refine callWp_of (hf _ d) ?_
    simp only [walk, Nat.reduceLT, Nat.reduceBEq, Nat.reduceAdd, Nat.reduceLeDiff, reduceIte, Int.reduceLT, Int.reduceLE, Int.reduceEq, Int.reduceToNat, Int.reduceBEq]
    have hat := getT_at hlt
    by_cases c2 : dcmp l[h].d d < 0
    · simp only [walk, Nat.reduceLT, Nat.reduceBEq, Nat.reduceAdd, Nat.reduceLeDiff, reduceIte, Int.reduceLT, Int.reduceLE, Int.reduceEq, Int.reduceToNat, Int.reduceBEq, c2, e5]
      refine ih (h + 1, j) ⟨by simp only; omega, h2, fun k hk => ?_, h4⟩ (by simp only; omega)
      simp only at hk
      by_cases e : k = h
      · subst e; rw [hat]; exact c2
      · exact dcmp_trans (hs k h (by omega) hlt) (by rw [hat]; exact c2)
    · simp only [walk, Nat.reduceLT, Nat.reduceBEq, Nat.reduceAdd, Nat.reduceLeDiff, reduceIte, Int.reduceLT, Int.reduceLE, Int.reduceEq, Int.reduceToNat, Int.reduceBEq, c2]
      refine ih (i, h) ⟨by simp only; omega, by simp only; omega, h3, fun k hk hl' => ?_⟩ (by simp only; omega)
      simp only at hk
      by_cases e : k = h
      · subst e; rw [hat]; exact c2
      · intro hc
        exact c2 (by rw [← hat]; exact dcmp_trans (hs h k (by omega) hl') hc)
  · have hij' : i = j := by omega
    subst hij'
    have c1 : ¬ ((i : Int) < i) := by omega
    have q1 : lowT l d = i := lowT_of h2 h3 h4
    have q2 := hasT_low h3 h4 hs
    simp only [walk, Nat.reduceLT, Nat.reduceBEq, Nat.reduceAdd, Nat.reduceLeDiff, reduceIte, Int.reduceLT, Int.reduceLE, Int.reduceEq, Int.reduceToNat, Int.reduceBEq, c1]
    by_cases hlt : i < l.length
    · have c2 : (i : Int) < l.length := by omega
      have c0 : (0 : Int) ≤ i := by omega
      simp only [walk, Nat.reduceLT, Nat.reduceBEq, Nat.reduceAdd, Nat.reduceLeDiff, reduceIte, Int.reduceLT, Int.reduceLE, Int.reduceEq, Int.reduceToNat, Int.reduceBEq, c2, tRows_get hlt]
      refine callWp_of (hf _ d) ?_
      have q3 : (decide (i < l.length)) = true := by simpa using hlt
      rw [q3, Bool.true_and, getT_at hlt] at q2
      simp only [walk, Nat.reduceLT, Nat.reduceBEq, Nat.reduceAdd, Nat.reduceLeDiff, reduceIte, Int.reduceLT, Int.reduceLE, Int.reduceEq, Int.reduceToNat, Int.reduceBEq, q1, q2, ieq]
    · have c2 : ¬ ((i : Int) < l.length) := by omega
      have q3 : (decide (i < l.length)) = false := by simpa using hlt
      rw [q3, Bool.false_and] at q2
      simp only [walk, Nat.reduceLT, Nat.reduceBEq, Nat.reduceAdd, Nat.reduceLeDiff, reduceIte, Int.reduceLT, Int.reduceLE, Int.reduceEq, Int.reduceToNat, Int.reduceBEq, c2, q1, q2]
def findT (l : List Tx) (d : Dt) : Int := if hasT l d = true then ((lowT l d : Nat) : Int) else -1
def S_tFind (R : Rel) : Prop := ∀ (l : List Tx) (d : Dt), l.length ≤ 2000000 → sortT l → R [.v (tsP l), .v (dP d)] (.val (.int .i64 (findT l d))) []
theorem tShort_ok {x : Tx} (h : tShort x = true) : x.ops.length ≤ 20 ∧ (∀ o ∈ x.ops, oShort o = true) ∧ tOk x := by
  unfold tShort at h
  simp only [Bool.and_eq_true, decide_eq_true_eq, List.all_eq_true] at h
  exact ⟨h.1, h.2, by omega, fun o ho => (short_oOk (h.2 o ho)).1⟩
theorem tcheck_zero {x : Tx} (h : tCheck x = 0) : dotOk x.d = true ∧ 0 ≤ x.u ∧ x.u ≤ 7 ∧ 1 ≤ x.t ∧ x.t ≤ 1099511627776 ∧ 1 ≤ x.ops.length ∧ x.ops.length ≤ 16 ∧ ∀ o ∈ x.ops, oCheck o = 0 ∨ (x.un = true ∧ oGone o = true) := by
  unfold tCheck at h
  by_cases h0 : dotOk x.d = false ∨ x.u < 0 ∨ x.u > 7 ∨ x.t < 1 ∨ x.t > 1099511627776
  · rw [if_pos h0] at h; cases h
  rw [if_neg h0] at h
  by_cases h1 : x.ops.length = 0
  · rw [if_pos h1] at h; cases h
  rw [if_neg h1] at h
  by_cases h2 : x.ops.length > 16
  · rw [if_pos h2] at h; cases h
  rw [if_neg h2] at h
  refine ⟨?_, by omega, by omega, by omega, by omega, by omega, by omega, opsCheck_zero h⟩
  rw [← Bool.not_eq_false]
  exact fun e => h0 (.inl e)
end
end Go.AR
