import Derived.Test.YtkankogmljifiaaDoorG34
import Derived.Test.YtkankogmljifiaaDoorG35
set_option linter.all false
/-! Transactions in a row. -/
namespace Go.AR
open Go
def riseAt (l : List Tx) (j : Nat) : Bool := j == 0 || decide (dcmp (l.getD (j - 1) zt).d (l.getD j zt).d < 0)
def risesT (l : List Tx) : Bool := (List.range l.length).all (riseAt l)
theorem rise0 (l : List Tx) (j : Nat) (h : j < 1) : riseAt l j = true := by
  have e : j = 0 := by omega
  subst e
  rfl
theorem risesT_iff {l : List Tx} : risesT l = true ↔ ∀ j, j < l.length → riseAt l j = true := by simp [risesT, List.all_eq_true]
theorem risesT_no {l : List Tx} {j : Nat} (hj : j < l.length) (h : riseAt l j = false) : risesT l = false := by
  rw [← Bool.not_eq_true, risesT_iff]
  intro k
  rw [k j hj] at h; cases h
theorem sort_of_rises {l : List Tx} (h : risesT l = true) : sortT l := by
  intro i j hij hj
  induction j with
  | zero => omega
  | succ j ih =>
    have hs : dcmp (l.getD j zt).d (l.getD (j + 1) zt).d < 0 := by
      have := risesT_iff.1 h (j + 1) hj
      simp only [riseAt, Nat.add_sub_cancel, Bool.or_eq_true, beq_iff_eq, decide_eq_true_eq] at this
      rcases this with h | h
      · omega
      · exact h
    by_cases e : i = j
    · subst e; exact hs
    · exact dcmp_trans (ih (by omega) (by omega)) hs
theorem rises_of_sort {l : List Tx} (h : sortT l) : risesT l = true := by
  rw [risesT_iff]
  intro j hj
  unfold riseAt
  cases j with
  | zero => rfl
  | succ j =>
    have := h j (j + 1) (by omega) hj
    simp only [Nat.add_sub_cancel, this, decide_true, Bool.or_true]
def putT (l : List Tx) (x : Tx) : List Tx := if hasT l x.d = true then l else l.take (lowT l x.d) ++ x :: l.drop (lowT l x.d)
theorem lowT_le (l : List Tx) (d : Dt) : lowT l d ≤ l.length := by unfold lowT; exact List.length_filter_le _ _
section
variable {C : CallRel} {F : Nat → FuncId}
def S_tRises (R : Rel) : Prop := ∀ l : List Tx, l.length ≤ 2000000 → R [.v (tsP l)] (.val (.bool (risesT l))) []
def S_tAll (R : Rel) : Prop := ∀ a b : List Tx, a.length ≤ 2000000 → (∀ x ∈ a, tOk x) → R [.v (tsP a), .v (tsP b)] (.val (.bool (decide (a = b)))) []
def S_tsShort (R : Rel) : Prop := ∀ l : List Tx, R [.v (tsP l)] (.val (.bool (decide (l.length ≤ 30) && l.all tShort))) []
def S_tClone (R : Rel) : Prop := ∀ l : List Tx, l.length ≤ 2000000 → R [.v (tsP l)] (.exc 6 (tRows l)) []
def S_tPut (R : Rel) : Prop := ∀ (l : List Tx) (x : Tx), l.length ≤ 1000000 → sortT l → R [.v (tsP l), .v (tP x)] (.val (tsP (putT l x))) []
theorem g_txn_Put_1 (h : S_dcmp (C (F n_dot_Compare))) : S_tdcmp ((c_txn_Put_1 F).gives C) := by
  intro a e
  refine gives_of rfl ?_
  unfold c_txn_Put_1
  simp only [walk, Nat.reduceLT, Nat.reduceBEq, Nat.reduceAdd, Nat.reduceLeDiff, reduceIte, Int.reduceLT, Int.reduceLE, Int.reduceEq, Int.reduceToNat, Int.reduceBEq]
  refine callWp_of (h a.d e) ?_
  simp only [walk, Nat.reduceLT, Nat.reduceBEq, Nat.reduceAdd, Nat.reduceLeDiff, reduceIte, Int.reduceLT, Int.reduceLE, Int.reduceEq, Int.reduceToNat, Int.reduceBEq]
theorem g_slices_Clone_Txn : S_tClone ((c_slices_Clone_api_Txn_api_Txn F).gives C) := by
  intro l hl
  refine gives_of rfl ?_
  unfold c_slices_Clone_api_Txn_api_Txn
  cases l with
  | nil =>
    have e0 : tsP [] = .sl 6 [] := rfl
    have e1 : tRows [] = [] := rfl
    have hb : (0 + 0) * 64 ≤ 140737488355328 := by decide
    rw [e0, e1]
    simp only [walk, Nat.reduceLT, Nat.reduceBEq, Nat.reduceAdd, Nat.reduceLeDiff, reduceIte, Int.reduceLT, Int.reduceLE, Int.reduceEq, Int.reduceToNat, Int.reduceBEq, hb, List.append_nil, and_self]
  | cons x l =>
    have e0 : tsP (x :: l) = .sl 6 (tCells x :: tRows l) := rfl
    have e1 : tRows (x :: l) = tCells x :: tRows l := rfl
    have hb : (l.length + 1) * 64 ≤ 140737488355328 := by simp only [List.length_cons] at hl; omega
    rw [e0, e1]
    simp only [walk, Nat.reduceLT, Nat.reduceBEq, Nat.reduceAdd, Nat.reduceLeDiff, reduceIte, Int.reduceLT, Int.reduceLE, Int.reduceEq, Int.reduceToNat, Int.reduceBEq, tRows_len, hb, List.nil_append]
theorem g_txn_Put (hB : S_tbs C (C (F n_slices_BinarySearchFunc_api_Txn_api_Txn_api_Dot))) (h1 : S_tdcmp (C (F n_txn_Put_1))) (hc : S_tClone (C (F n_slices_Clone_api_Txn_api_Txn))) (hi : S_Insert 6 64 (C (F n_slices_Insert_api_Txn_api_Txn))) : S_tPut ((c_txn_Put F).gives C) := by
  intro l x hl hs
  refine gives_of rfl ?_
  unfold c_txn_Put putT
  simp only [walk, Nat.reduceLT, Nat.reduceBEq, Nat.reduceAdd, Nat.reduceLeDiff, reduceIte, Int.reduceLT, Int.reduceLE, Int.reduceEq, Int.reduceToNat, Int.reduceBEq]
  refine callWp_of (hB l x.d (F n_txn_Put_1) (by omega) hs h1) ?_
  cases hh : hasT l x.d with
  | true => simp only [walk, Nat.reduceLT, Nat.reduceBEq, Nat.reduceAdd, Nat.reduceLeDiff, reduceIte, Int.reduceLT, Int.reduceLE, Int.reduceEq, Int.reduceToNat, Int.reduceBEq]
  | false =>
    simp only [walk, Nat.reduceLT, Nat.reduceBEq, Nat.reduceAdd, Nat.reduceLeDiff, reduceIte, Int.reduceLT, Int.reduceLE, Int.reduceEq, Int.reduceToNat, Int.reduceBEq, Bool.false_eq_true]
    refine callWp_of (hc l (by omega)) ?_
    have hlo := lowT_le l x.d
    simp only [walk, Nat.reduceLT, Nat.reduceBEq, Nat.reduceAdd, Nat.reduceLeDiff, reduceIte, Int.reduceLT, Int.reduceLE, Int.reduceEq, Int.reduceToNat, Int.reduceBEq]
    refine callWp_of (hi (tRows l) (lowT l x.d) (tCells x) (by rw [tRows_len]; exact hlo) (by rw [tRows_len]; omega) (by rw [tRows_len]; omega)) ?_
    have er : (tRows l).take (lowT l x.d) ++ tCells x :: (tRows l).drop (lowT l x.d) = tRows (l.take (lowT l x.d) ++ x :: l.drop (lowT l x.d)) := by simp [tRows]
    simp only [walk, Nat.reduceLT, Nat.reduceBEq, Nat.reduceAdd, Nat.reduceLeDiff, reduceIte, Int.reduceLT, Int.reduceLE, Int.reduceEq, Int.reduceToNat, Int.reduceBEq]
    rw [show ((tRows l).take (lowT l x.d) ++ [PV.int .i64 x.d.1, .int .i64 x.d.2, .int .i64 x.u, .int .i64 x.t, .bool x.un, osP x.ops] :: (tRows l).drop (lowT l x.d)) = tRows (l.take (lowT l x.d) ++ x :: l.drop (lowT l x.d)) from er]
theorem g_pref12_Rises (h : S_dcmp (C (F n_pref04_Compare))) : S_tRises ((c_pref12_Rises F).gives C) := by
  intro l hl
  refine gives_of rfl ?_
  unfold c_pref12_Rises
  simp only [walk, Nat.reduceLT, Nat.reduceBEq, Nat.reduceAdd, Nat.reduceLeDiff, reduceIte, Int.reduceLT, Int.reduceLE, Int.reduceEq, Int.reduceToNat, Int.reduceBEq]
  refine awp_loop_ind (X := Nat) (fun k => ⟨[(0, .val (tsP l)), (2, .val (.bool false)), (3, .val (.int .i64 k))], []⟩)
    (fun k => 1 ≤ k ∧ ∀ j, j < k → j < l.length → riseAt l j = true) (fun k => l.length - k) 1 ⟨by omega, fun j hj _ => rise0 l j hj⟩ rfl ?_
  rintro R k ⟨hk, hJ⟩ ih
  simp only [walk, Nat.reduceLT, Nat.reduceBEq, Nat.reduceAdd, Nat.reduceLeDiff, reduceIte, Int.reduceLT, Int.reduceLE, Int.reduceEq, Int.reduceToNat, Int.reduceBEq, tRows_len]
  by_cases c : k < l.length
  · have c1 : (k : Int) < l.length := by omega
    have c0 : (0 : Int) ≤ k := by omega
    have e1 : IntKind.i64.wrap ((k : Int) + 1) = ((k + 1 : Nat) : Int) := wrap64 (by omega) (by omega)
    have w1 : IntKind.i64.wrap ((k : Int) - 1) = ((k - 1 : Nat) : Int) := by rw [wrap64 (by omega) (by omega)]; omega
    have c2 : k - 1 < l.length := by omega
    have c3 : ((k - 1 : Nat) : Int) < l.length := by omega
    have c4 : (0 : Int) ≤ ((k - 1 : Nat) : Int) := by omega
    have hat : riseAt l k = decide (dcmp l[k - 1].d l[k].d < 0) := by
      unfold riseAt
      rw [getT_at c, getT_at c2, show (k == 0) = false by rw [beq_eq_false_iff_ne]; omega, Bool.false_or]
    simp only [walk, Nat.reduceLT, Nat.reduceBEq, Nat.reduceAdd, Nat.reduceLeDiff, reduceIte, Int.reduceLT, Int.reduceLE, Int.reduceEq, Int.reduceToNat, Int.reduceBEq, c1, c3, w1, tRows_get c, tRows_get c2, tRows_len]
    refine callWp_of (h l[k - 1].d l[k].d) ?_
    by_cases hd : dcmp l[k - 1].d l[k].d < 0
    · have e2 : (dcmp l[k - 1].d l[k].d != -1) = false := by rw [dcmp_m1.2 hd]; rfl
      simp only [walk, Nat.reduceLT, Nat.reduceBEq, Nat.reduceAdd, Nat.reduceLeDiff, reduceIte, Int.reduceLT, Int.reduceLE, Int.reduceEq, Int.reduceToNat, Int.reduceBEq, e2, e1]
      refine ih (k + 1) ⟨by omega, fun j hj hjl => ?_⟩ (by omega)
      by_cases e : j = k
      · subst e; rw [hat]; simpa using hd
      · exact hJ j (by omega) hjl
    · have e2 : (dcmp l[k - 1].d l[k].d != -1) = true := by
        rw [bne, Bool.not_eq_true', beq_eq_false_iff_ne]
        exact fun e => hd (by omega)
      have hf : risesT l = false := risesT_no c (by rw [hat]; simpa using hd)
      simp only [walk, Nat.reduceLT, Nat.reduceBEq, Nat.reduceAdd, Nat.reduceLeDiff, reduceIte, Int.reduceLT, Int.reduceLE, Int.reduceEq, Int.reduceToNat, Int.reduceBEq, e2, hf]
  · have c1 : ¬ (k : Int) < l.length := by omega
    have ht : risesT l = true := risesT_iff.2 (fun j hj => hJ j (by omega) hj)
    simp only [walk, Nat.reduceLT, Nat.reduceBEq, Nat.reduceAdd, Nat.reduceLeDiff, reduceIte, Int.reduceLT, Int.reduceLE, Int.reduceEq, Int.reduceToNat, Int.reduceBEq, c1, ht]
theorem g_txn_Rises (h : S_dcmp (C (F n_dot_Compare))) : S_tRises ((c_txn_Rises F).gives C) := by
  intro l hl
  refine gives_of rfl ?_
  unfold c_txn_Rises
  simp only [walk, Nat.reduceLT, Nat.reduceBEq, Nat.reduceAdd, Nat.reduceLeDiff, reduceIte, Int.reduceLT, Int.reduceLE, Int.reduceEq, Int.reduceToNat, Int.reduceBEq, tRows_len]
  refine awp_loop_ind (X := Nat) (fun k => ⟨[(0, .val (tsP l)), (2, .val (.bool false)), (5, .val (tsP l)), (6, .val (.int .i64 l.length)), (7, .val (.int .i64 k))], []⟩)
    (fun k => ∀ j, j < k → j < l.length → riseAt l j = true) (fun k => l.length - k) 0 (by omega) rfl ?_
  rintro R k hJ ih
  simp only [walk, Nat.reduceLT, Nat.reduceBEq, Nat.reduceAdd, Nat.reduceLeDiff, reduceIte, Int.reduceLT, Int.reduceLE, Int.reduceEq, Int.reduceToNat, Int.reduceBEq]
  by_cases c : k < l.length
  · have c1 : (k : Int) < l.length := by omega
    have c0 : (0 : Int) ≤ k := by omega
    have e1 : IntKind.i64.wrap ((k : Int) + 1) = ((k + 1 : Nat) : Int) := wrap64 (by omega) (by omega)
    have next : riseAt l k = true → _ := fun h => ih (k + 1) (fun j hj hjl => by
      by_cases e : j = k
      · subst e; exact h
      · exact hJ j (by omega) hjl) (by omega)
    by_cases hk0 : (k : Int) > 0
    · have w1 : IntKind.i64.wrap ((k : Int) - 1) = ((k - 1 : Nat) : Int) := by rw [wrap64 (by omega) (by omega)]; omega
      have c2 : k - 1 < l.length := by omega
      have c3 : ((k - 1 : Nat) : Int) < l.length := by omega
      have c4 : (0 : Int) ≤ ((k - 1 : Nat) : Int) := by omega
      have hat : riseAt l k = decide (dcmp l[k - 1].d l[k].d < 0) := by
        unfold riseAt
        rw [getT_at c, getT_at c2, show (k == 0) = false by rw [beq_eq_false_iff_ne]; omega, Bool.false_or]
      simp only [walk, Nat.reduceLT, Nat.reduceBEq, Nat.reduceAdd, Nat.reduceLeDiff, reduceIte, Int.reduceLT, Int.reduceLE, Int.reduceEq, Int.reduceToNat, Int.reduceBEq, c1, c3, w1, hk0, tRows_get c, tRows_get c2, tRows_len]
      refine callWp_of (h l[k - 1].d l[k].d) ?_
      by_cases hd : dcmp l[k - 1].d l[k].d < 0
      · have e2 : ¬ dcmp l[k - 1].d l[k].d ≥ 0 := by omega
        simp only [walk, Nat.reduceLT, Nat.reduceBEq, Nat.reduceAdd, Nat.reduceLeDiff, reduceIte, Int.reduceLT, Int.reduceLE, Int.reduceEq, Int.reduceToNat, Int.reduceBEq, e2, e1]
        exact next (by rw [hat]; simpa using hd)
      · have e2 : dcmp l[k - 1].d l[k].d ≥ 0 := by omega
        have hf : risesT l = false := risesT_no c (by rw [hat]; simpa using hd)
        simp only [walk, Nat.reduceLT, Nat.reduceBEq, Nat.reduceAdd, Nat.reduceLeDiff, reduceIte, Int.reduceLT, Int.reduceLE, Int.reduceEq, Int.reduceToNat, Int.reduceBEq, e2, hf]
    · have hz : riseAt l k = true := by
        unfold riseAt
        rw [show (k == 0) = true by rw [beq_iff_eq]; omega, Bool.true_or]
      simp only [walk, Nat.reduceLT, Nat.reduceBEq, Nat.reduceAdd, Nat.reduceLeDiff, reduceIte, Int.reduceLT, Int.reduceLE, Int.reduceEq, Int.reduceToNat, Int.reduceBEq, c1, hk0, tRows_get c, e1]
      exact next hz
  · have c1 : ¬ (k : Int) < l.length := by omega
    have ht : risesT l = true := risesT_iff.2 (fun j hj => hJ j (by omega) hj)
    simp only [walk, Nat.reduceLT, Nat.reduceBEq, Nat.reduceAdd, Nat.reduceLeDiff, reduceIte, Int.reduceLT, Int.reduceLE, Int.reduceEq, Int.reduceToNat, Int.reduceBEq, c1, ht]
theorem g_pref12_All (h : S_tSame (C (F n_pref12_Same))) : S_tAll ((c_pref12_All F).gives C) := by
  intro a b ha hok
  refine gives_of rfl ?_
  unfold c_pref12_All
  simp only [walk, Nat.reduceLT, Nat.reduceBEq, Nat.reduceAdd, Nat.reduceLeDiff, reduceIte, Int.reduceLT, Int.reduceLE, Int.reduceEq, Int.reduceToNat, Int.reduceBEq, tRows_len, ine, ne_eq, decide_not]
  by_cases hl : a.length = b.length
  · have hl' : (a.length : Int) = b.length := by omega
    simp only [walk, Nat.reduceLT, Nat.reduceBEq, Nat.reduceAdd, Nat.reduceLeDiff, reduceIte, Int.reduceLT, Int.reduceLE, Int.reduceEq, Int.reduceToNat, Int.reduceBEq, hl', tRows_len]
    refine awp_loop_ind (X := Nat) (fun k => ⟨[(0, .val (tsP a)), (1, .val (tsP b)), (4, .val (.bool false)), (5, .val (.int .i64 k)), (10, .val (.bool false))], []⟩)
      (fun k => k ≤ a.length ∧ a.take k = b.take k) (fun k => a.length - k) 0 ⟨by omega, by simp⟩ rfl ?_
    rintro R k ⟨hk, hJ⟩ ih
    simp only [walk, Nat.reduceLT, Nat.reduceBEq, Nat.reduceAdd, Nat.reduceLeDiff, reduceIte, Int.reduceLT, Int.reduceLE, Int.reduceEq, Int.reduceToNat, Int.reduceBEq, tRows_len]
    by_cases c : k < a.length
    · have c1 : (k : Int) < b.length := by omega
      have cb : k < b.length := by omega
      have c0 : (0 : Int) ≤ k := by omega
      have e1 : IntKind.i64.wrap ((k : Int) + 1) = ((k + 1 : Nat) : Int) := wrap64 (by omega) (by omega)
      simp only [walk, Nat.reduceLT, Nat.reduceBEq, Nat.reduceAdd, Nat.reduceLeDiff, reduceIte, Int.reduceLT, Int.reduceLE, Int.reduceEq, Int.reduceToNat, Int.reduceBEq, c1, hl', tRows_get c, tRows_get cb, tRows_len]
      refine callWp_of (h a[k] b[k] (hok _ (List.getElem_mem c))) ?_
      by_cases he : a[k] = b[k]
      · simp only [walk, Nat.reduceLT, Nat.reduceBEq, Nat.reduceAdd, Nat.reduceLeDiff, reduceIte, Int.reduceLT, Int.reduceLE, Int.reduceEq, Int.reduceToNat, Int.reduceBEq, he, e1]
        refine ih (k + 1) ⟨by omega, ?_⟩ (by omega)
        rw [List.take_add_one, List.take_add_one, hJ, List.getElem?_eq_getElem c, List.getElem?_eq_getElem cb, he]
      · have hf : ¬ a = b := by
          rintro rfl
          exact he rfl
        simp only [walk, Nat.reduceLT, Nat.reduceBEq, Nat.reduceAdd, Nat.reduceLeDiff, reduceIte, Int.reduceLT, Int.reduceLE, Int.reduceEq, Int.reduceToNat, Int.reduceBEq, he, hf]
    · have c1 : ¬ (k : Int) < b.length := by omega
      rw [List.take_of_length_le (by omega), List.take_of_length_le (by omega)] at hJ
      subst hJ
      simp only [walk, Nat.reduceLT, Nat.reduceBEq, Nat.reduceAdd, Nat.reduceLeDiff, reduceIte, Int.reduceLT, Int.reduceLE, Int.reduceEq, Int.reduceToNat, Int.reduceBEq, c1]
  · have hl' : ¬ (a.length : Int) = b.length := by omega
    have hf : ¬ a = b := by
      rintro rfl
      exact hl rfl
    simp only [walk, Nat.reduceLT, Nat.reduceBEq, Nat.reduceAdd, Nat.reduceLeDiff, reduceIte, Int.reduceLT, Int.reduceLE, Int.reduceEq, Int.reduceToNat, Int.reduceBEq, hl', hf]
theorem g_plaw12_short (h : S_tShort (C (F n_pref12_Short))) : S_tsShort ((c_plaw12_short F).gives C) := by
  intro l
  refine gives_of rfl ?_
  unfold c_plaw12_short
  have e0 : ((l.length : Int) > 30) = (30 < l.length) := by apply propext; omega
  simp only [walk, Nat.reduceLT, Nat.reduceBEq, Nat.reduceAdd, Nat.reduceLeDiff, reduceIte, Int.reduceLT, Int.reduceLE, Int.reduceEq, Int.reduceToNat, Int.reduceBEq, tRows_len, e0]
  by_cases hl : 30 < l.length
  · have : ¬ l.length ≤ 30 := by omega
    simp only [walk, Nat.reduceLT, Nat.reduceBEq, Nat.reduceAdd, Nat.reduceLeDiff, reduceIte, Int.reduceLT, Int.reduceLE, Int.reduceEq, Int.reduceToNat, Int.reduceBEq, hl, this]
  · have hl2 : l.length ≤ 30 := by omega
    simp only [walk, Nat.reduceLT, Nat.reduceBEq, Nat.reduceAdd, Nat.reduceLeDiff, reduceIte, Int.reduceLT, Int.reduceLE, Int.reduceEq, Int.reduceToNat, Int.reduceBEq, hl, hl2]
    refine awp_loop_ind (X := Nat) (fun k => ⟨[(0, .val (tsP l)), (2, .val (.bool false)), (3, .val (.int .i64 k)), (6, .val (.bool false))], []⟩)
      (fun k => k ≤ l.length ∧ (l.take k).all tShort = true) (fun k => l.length - k) 0 ⟨by omega, by simp⟩ rfl ?_
    rintro R k ⟨hk, hJ⟩ ih
    simp only [walk, Nat.reduceLT, Nat.reduceBEq, Nat.reduceAdd, Nat.reduceLeDiff, reduceIte, Int.reduceLT, Int.reduceLE, Int.reduceEq, Int.reduceToNat, Int.reduceBEq, tRows_len]
    by_cases c : k < l.length
    · have c1 : (k : Int) < l.length := by omega
      have c0 : (0 : Int) ≤ k := by omega
      have e1 : IntKind.i64.wrap ((k : Int) + 1) = ((k + 1 : Nat) : Int) := wrap64 (by omega) (by omega)
      simp only [walk, Nat.reduceLT, Nat.reduceBEq, Nat.reduceAdd, Nat.reduceLeDiff, reduceIte, Int.reduceLT, Int.reduceLE, Int.reduceEq, Int.reduceToNat, Int.reduceBEq, c1, tRows_get c, tRows_len]
      refine callWp_of (h l[k]) ?_
      cases hr : tShort l[k] with
      | true =>
        simp only [walk, Nat.reduceLT, Nat.reduceBEq, Nat.reduceAdd, Nat.reduceLeDiff, reduceIte, Int.reduceLT, Int.reduceLE, Int.reduceEq, Int.reduceToNat, Int.reduceBEq, e1]
        refine ih (k + 1) ⟨by omega, ?_⟩ (by omega)
        rw [List.take_add_one, List.getElem?_eq_getElem c, List.all_append, hJ]
        simp [hr]
      | false =>
        have hf : l.all tShort = false := by
          rw [Bool.eq_false_iff]; intro h
          have := List.all_eq_true.1 h _ (List.getElem_mem c)
          rw [hr] at this; cases this
        simp only [walk, Nat.reduceLT, Nat.reduceBEq, Nat.reduceAdd, Nat.reduceLeDiff, reduceIte, Int.reduceLT, Int.reduceLE, Int.reduceEq, Int.reduceToNat, Int.reduceBEq, hf]
    · have c1 : ¬ (k : Int) < l.length := by omega
      rw [List.take_of_length_le (by omega)] at hJ
      simp only [walk, Nat.reduceLT, Nat.reduceBEq, Nat.reduceAdd, Nat.reduceLeDiff, reduceIte, Int.reduceLT, Int.reduceLE, Int.reduceEq, Int.reduceToNat, Int.reduceBEq, c1, hJ]
end
end Go.AR

/-! Transactions in a row, the plain laws. -/
namespace Go.AR
open Go
theorem sortT_pw {l : List Tx} : sortT l ↔ l.Pairwise (fun a b => dcmp a.d b.d < 0) := by
  rw [List.pairwise_iff_getElem]
  constructor
  · intro h i j hi hj hij
    have := h i j hij hj
    rw [getT_at hi, getT_at hj] at this
    exact this
  · intro h i j hij hj
    rw [getT_at (by omega), getT_at hj]
    exact h i j (by omega) hj hij
theorem dcmp_self (d : Dt) : dcmp d d = 0 := dcmp_zero.2 rfl
theorem dcmp_asym {a b : Dt} (h : dcmp a b < 0) : ¬ dcmp b a < 0 := by rw [dcmp_neg] at *; omega
theorem dcmp_lt_of {a b : Dt} (h : ¬ dcmp a b < 0) (h2 : a ≠ b) : dcmp b a < 0 := by
  rcases dcmp_cases a b with ⟨k, _⟩ | ⟨_, k⟩ | ⟨k, _⟩
  · omega
  · exact absurd k h2
  · exact dcmp_pos.1 (by omega)
theorem low_ex : ∀ {l : List Tx} (d : Dt), sortT l → ∃ i, i ≤ l.length ∧ (∀ k, k < i → dcmp (l.getD k zt).d d < 0) ∧ ∀ k, i ≤ k → k < l.length → ¬ dcmp (l.getD k zt).d d < 0
  | [], d, _ => ⟨0, by simp, by omega, by simp⟩
  | u :: l, d, hs => by
    have hp := sortT_pw.1 hs
    rw [List.pairwise_cons] at hp
    by_cases hu : dcmp u.d d < 0
    · obtain ⟨i, h1, h2, h3⟩ := low_ex d (sortT_pw.2 hp.2)
      refine ⟨i + 1, by simp; omega, fun k hk => ?_, fun k hk hl => ?_⟩
      · cases k with
        | zero => simpa using hu
        | succ k => simpa using h2 k (by omega)
      · cases k with
        | zero => omega
        | succ k => simpa using h3 k (by omega) (by simpa using hl)
    · refine ⟨0, by omega, by omega, fun k _ hl hc => ?_⟩
      cases k with
      | zero => exact hu (by simpa using hc)
      | succ k =>
        have hl' : k < l.length := by simpa using hl
        simp only [List.getD_cons_succ, getT_at hl'] at hc
        exact hu (dcmp_trans (hp.1 l[k] (List.getElem_mem hl')) hc)
theorem low_spec {l : List Tx} (d : Dt) (hs : sortT l) : (∀ k, k < lowT l d → dcmp (l.getD k zt).d d < 0) ∧ ∀ k, lowT l d ≤ k → k < l.length → ¬ dcmp (l.getD k zt).d d < 0 := by
  obtain ⟨i, h1, h2, h3⟩ := low_ex d hs
  rw [lowT_of h1 h2 h3]
  exact ⟨h2, h3⟩
theorem take_lt {l : List Tx} {d : Dt} (hs : sortT l) {a : Tx} (h : a ∈ l.take (lowT l d)) : dcmp a.d d < 0 := by
  obtain ⟨k, hk, rfl⟩ := List.getElem_of_mem h
  rw [List.length_take] at hk
  rw [List.getElem_take]
  have := (low_spec d hs).1 k (by omega)
  rw [getT_at (by omega)] at this
  exact this
theorem drop_gt {l : List Tx} {d : Dt} (hs : sortT l) (hn : hasT l d = false) {a : Tx} (h : a ∈ l.drop (lowT l d)) : dcmp d a.d < 0 := by
  obtain ⟨k, hk, rfl⟩ := List.getElem_of_mem h
  rw [List.length_drop] at hk
  rw [List.getElem_drop]
  have := (low_spec d hs).2 (lowT l d + k) (by omega) (by omega)
  rw [getT_at (by omega)] at this
  refine dcmp_lt_of this (fun e => ?_)
  have : hasT l d = true := hasT_iff.2 ⟨lowT l d + k, by omega, by rw [getT_at (by omega)]; exact e⟩
  rw [hn] at this; cases this
theorem put_sort {l : List Tx} (x : Tx) (hs : sortT l) : sortT (putT l x) := by
  unfold putT
  cases hn : hasT l x.d with
  | true => rw [if_pos rfl]; exact hs
  | false =>
    rw [if_neg (by simp), sortT_pw]
    have hp := sortT_pw.1 hs
    rw [List.pairwise_append, List.pairwise_cons]
    have hsplit : (l.take (lowT l x.d) ++ l.drop (lowT l x.d)).Pairwise (fun a b => dcmp a.d b.d < 0) := by rw [List.take_append_drop]; exact hp
    rw [List.pairwise_append] at hsplit
    refine ⟨hsplit.1, ⟨fun b hb => drop_gt hs hn hb, hsplit.2.1⟩, fun a ha b hb => ?_⟩
    rcases List.mem_cons.1 hb with rfl | hb
    · exact take_lt hs ha
    · exact hsplit.2.2 a ha b hb
theorem put_mem {l : List Tx} {x y : Tx} (h : y ∈ putT l x) : y = x ∨ y ∈ l := by
  unfold putT at h
  split at h
  · exact .inr h
  · rcases List.mem_append.1 h with h | h
    · exact .inr (List.mem_of_mem_take h)
    · rcases List.mem_cons.1 h with h | h
      · exact .inl h
      · exact .inr (List.mem_of_mem_drop h)
theorem mem_put {l : List Tx} {x y : Tx} (hn : hasT l x.d = false) (h : y = x ∨ y ∈ l) : y ∈ putT l x := by
  unfold putT
  rw [hn, if_neg (by simp)]
  rcases h with rfl | h
  · simp
  · rw [← List.take_append_drop (lowT l x.d) l] at h
    rcases List.mem_append.1 h with h | h
    · exact List.mem_append.2 (.inl h)
    · exact List.mem_append.2 (.inr (List.mem_cons.2 (.inr h)))
theorem put_has (l : List Tx) (x : Tx) : hasT (putT l x) x.d = true := by
  unfold putT
  cases hn : hasT l x.d with
  | true => rw [if_pos rfl]; exact hn
  | false =>
    rw [if_neg (by simp)]
    simp [hasT]
theorem put_len (l : List Tx) (x : Tx) : (putT l x).length = if hasT l x.d = true then l.length else l.length + 1 := by
  unfold putT
  split
  · rfl
  · have := lowT_le l x.d
    simp; omega
theorem hasT_mem {l : List Tx} {d : Dt} : hasT l d = true ↔ ∃ x, x ∈ l ∧ x.d = d := by
  simp [hasT, List.any_eq_true]
/-- Sorted, and with the same members: the same. -/
theorem sort_ext : ∀ {a b : List Tx}, sortT a → sortT b → (∀ x, x ∈ a ↔ x ∈ b) → a = b
  | [], [], _, _, _ => rfl
  | [], y :: b, _, _, h => by have := (h y).2 (by simp); cases this
  | x :: a, [], _, _, h => by have := (h x).1 (by simp); cases this
  | x :: a, y :: b, ha, hb, h => by
    have pa := sortT_pw.1 ha
    have pb := sortT_pw.1 hb
    rw [List.pairwise_cons] at pa pb
    have hxy : x = y := by
      rcases List.mem_cons.1 ((h x).1 (by simp)) with e | e
      · exact e
      · rcases List.mem_cons.1 ((h y).2 (by simp)) with e2 | e2
        · exact e2.symm
        · exact absurd (pa.1 y e2) (dcmp_asym (pb.1 x e))
    subst hxy
    have : a = b := sort_ext (sortT_pw.2 pa.2) (sortT_pw.2 pb.2) (fun z => by
      constructor
      · intro hz
        rcases List.mem_cons.1 ((h z).1 (List.mem_cons_of_mem _ hz)) with e | e
        · subst e; have := pa.1 z hz; rw [dcmp_self] at this; omega
        · exact e
      · intro hz
        rcases List.mem_cons.1 ((h z).2 (List.mem_cons_of_mem _ hz)) with e | e
        · subst e; have := pb.1 z hz; rw [dcmp_self] at this; omega
        · exact e)
    rw [this]
def putAll (l : List Tx) : List Tx := l.foldl putT []
theorem putAll_app (l : List Tx) (x : Tx) : putAll (l ++ [x]) = putT (putAll l) x := by simp [putAll]
def apart (l : List Tx) : Prop := l.Pairwise (fun a b => a.d ≠ b.d)
/-- All unlike ones, put. -/
theorem putAll_spec (l : List Tx) (h : apart l) : ∀ k, k ≤ l.length → sortT (putAll (l.take k)) ∧ (∀ x, x ∈ putAll (l.take k) ↔ x ∈ l.take k) ∧ (putAll (l.take k)).length = k := by
  intro k
  induction k with
  | zero => intro _; exact ⟨by intro i j _ hj; simp [putAll] at hj, by simp [putAll], by simp [putAll]⟩
  | succ k ih =>
    intro hk
    obtain ⟨i1, i2, i3⟩ := ih (by omega)
    have hkl : k < l.length := by omega
    have hno : hasT (putAll (l.take k)) l[k].d = false := by
      rw [← Bool.not_eq_true, hasT_mem]
      rintro ⟨x, hx, e⟩
      rw [i2] at hx
      obtain ⟨j, hj, rfl⟩ := List.getElem_of_mem hx
      rw [List.length_take] at hj
      rw [List.getElem_take] at e
      have := List.pairwise_iff_getElem.1 h j k (by omega) hkl (by omega)
      exact this e
    rw [List.take_add_one, List.getElem?_eq_getElem hkl, Option.toList_some, putAll_app]
    refine ⟨put_sort _ i1, fun x => ?_, ?_⟩
    · constructor
      · intro hx
        rcases put_mem hx with rfl | hx
        · exact List.mem_append.2 (.inr (List.mem_singleton.2 rfl))
        · exact List.mem_append.2 (.inl ((i2 x).1 hx))
      · intro hx
        refine mem_put hno ?_
        rcases List.mem_append.1 hx with hx | hx
        · exact .inr ((i2 x).2 hx)
        · exact .inl (List.mem_singleton.1 hx)
    · rw [put_len, hno, if_neg (by simp), i3]
theorem putAll_rev {l : List Tx} (h : apart l) : putAll l.reverse = putAll l := by
  have h2 : apart l.reverse := by
    unfold apart
    rw [List.pairwise_reverse]
    exact h.imp (fun h e => h e.symm)
  have a := putAll_spec l h l.length (Nat.le_refl _)
  have b := putAll_spec l.reverse h2 l.reverse.length (Nat.le_refl _)
  rw [List.take_length] at a b
  exact sort_ext b.1 a.1 (fun x => by rw [a.2.1, b.2.1, List.mem_reverse])
end Go.AR

/-! Transactions in a row: the document's places. -/
namespace Go.AR
open Go
section
variable {C : CallRel} {F : Nat → FuncId}
theorem g_pref12_Find : S_tFind ((c_pref12_Find F).gives C) := by
  intro l d hl hs
  refine gives_of rfl ?_
  unfold c_pref12_Find
  simp only [walk, Nat.reduceLT, Nat.reduceBEq, Nat.reduceAdd, Nat.reduceLeDiff, reduceIte, Int.reduceLT, Int.reduceLE, Int.reduceEq, Int.reduceToNat, Int.reduceBEq]
  refine awp_loop_ind (X := Nat) (fun k => ⟨[(0, .val (tsP l)), (1, .val (dP d)), (3, .lp 3 0), (4, .val (.int .i64 0)), (5, .val (.int .i64 k))], [(3, .cells [.val (.int .i64 d.1), .val (.int .i64 d.2)])]⟩)
    (fun k => k ≤ l.length ∧ ∀ j, j < k → (l.getD j zt).d ≠ d) (fun k => l.length - k) 0 ⟨by omega, by omega⟩ rfl ?_
  rintro R k ⟨hk, hJ⟩ ih
  simp only [walk, Nat.reduceLT, Nat.reduceBEq, Nat.reduceAdd, Nat.reduceLeDiff, reduceIte, Int.reduceLT, Int.reduceLE, Int.reduceEq, Int.reduceToNat, Int.reduceBEq, tRows_len]
  by_cases c : k < l.length
  · have c1 : (k : Int) < l.length := by omega
    have c0 : (0 : Int) ≤ k := by omega
    have e1 : IntKind.i64.wrap ((k : Int) + 1) = ((k + 1 : Nat) : Int) := wrap64 (by omega) (by omega)
    have hat := getT_at c
    simp only [walk, Nat.reduceLT, Nat.reduceBEq, Nat.reduceAdd, Nat.reduceLeDiff, reduceIte, Int.reduceLT, Int.reduceLE, Int.reduceEq, Int.reduceToNat, Int.reduceBEq, c1, tRows_get c, eq_d]
    by_cases he : l[k].d = d
    · have hh : hasT l d = true := hasT_iff.2 ⟨k, c, by rw [hat]; exact he⟩
      have hlow : lowT l d = k := lowT_of hk (fun j hj => by have := hs j k hj c; rwa [hat, he] at this) (fun j hj hjl hc => by
        by_cases e : j = k
        · subst e; rw [hat, he, dcmp_self] at hc; omega
        · have := hs k j (by omega) hjl
          rw [hat, he] at this
          exact dcmp_asym this hc)
      simp only [walk, Nat.reduceLT, Nat.reduceBEq, Nat.reduceAdd, Nat.reduceLeDiff, reduceIte, Int.reduceLT, Int.reduceLE, Int.reduceEq, Int.reduceToNat, Int.reduceBEq, he, findT, hh, hlow]
    · simp only [walk, Nat.reduceLT, Nat.reduceBEq, Nat.reduceAdd, Nat.reduceLeDiff, reduceIte, Int.reduceLT, Int.reduceLE, Int.reduceEq, Int.reduceToNat, Int.reduceBEq, he, e1]
      exact ih (k + 1) ⟨by omega, fun j hj => by
        by_cases e : j = k
        · subst e; rw [hat]; exact he
        · exact hJ j (by omega)⟩ (by omega)
  · have c1 : ¬ (k : Int) < l.length := by omega
    have hh : hasT l d = false := by
      rw [← Bool.not_eq_true, hasT_iff]
      rintro ⟨j, hj, e⟩
      exact hJ j (by omega) e
    simp only [walk, Nat.reduceLT, Nat.reduceBEq, Nat.reduceAdd, Nat.reduceLeDiff, reduceIte, Int.reduceLT, Int.reduceLE, Int.reduceEq, Int.reduceToNat, Int.reduceBEq, c1, findT, hh, Bool.false_eq_true]
/-- How far the document is, having put in its place what it puts. -/
def accT (l : List Tx) (x : Tx) (i k : Nat) : List Tx := if k ≤ i then l.take k else l.take i ++ x :: (l.drop i).take (k - i)
theorem accT_lo {l : List Tx} {x : Tx} {i k : Nat} (h : k < i) (hk : k < l.length) : accT l x i k ++ [l[k]] = accT l x i (k + 1) := by
  unfold accT
  rw [if_pos (by omega), if_pos (by omega), List.take_add_one, List.getElem?_eq_getElem hk]; rfl
theorem accT_at {l : List Tx} {x : Tx} {i : Nat} (hk : i < l.length) : (accT l x i i ++ [x]) ++ [l[i]] = accT l x i (i + 1) := by
  unfold accT
  rw [if_pos (by omega), if_neg (by omega), show i + 1 - i = 1 by omega, List.drop_eq_getElem_cons hk, List.take_succ_cons, List.take_zero, List.append_assoc]
  rfl
theorem bound64 {n k : Nat} (h : n ≤ k + 1) (hk : k ≤ 1000000) : (n + 1) * 64 ≤ 140737488355328 ∧ (n + 1 + 1) * 64 ≤ 140737488355328 := by omega
theorem accT_hi {l : List Tx} {x : Tx} {i k : Nat} (h : i < k) (hk : k < l.length) : accT l x i k ++ [l[k]] = accT l x i (k + 1) := by
  unfold accT
  rw [if_neg (by omega), if_neg (by omega), show k + 1 - i = (k - i) + 1 by omega, List.take_add_one, List.getElem?_drop, show i + (k - i) = k by omega, List.getElem?_eq_getElem hk]
  simp
theorem accT_len (l : List Tx) (x : Tx) (i k : Nat) (hi : i ≤ l.length) : (accT l x i k).length ≤ k + 1 := by
  unfold accT
  split
  · rw [List.length_take]; omega
  · simp; omega
theorem g_pref12_Put (hF : S_tFind (C (F n_pref12_Find))) (hC : S_dcmp (C (F n_pref04_Compare))) : S_tPut ((c_pref12_Put F).gives C) := by
  intro l x hl hs
  refine gives_of rfl ?_
  unfold c_pref12_Put
  simp only [walk, Nat.reduceLT, Nat.reduceBEq, Nat.reduceAdd, Nat.reduceLeDiff, reduceIte, Int.reduceLT, Int.reduceLE, Int.reduceEq, Int.reduceToNat, Int.reduceBEq]
  refine callWp_of (hF l x.d (by omega) hs) ?_
  unfold putT findT
  cases hh : hasT l x.d with
  | true =>
    have c0 : (0 : Int) ≤ ((lowT l x.d : Nat) : Int) := by omega
    simp only [walk, Nat.reduceLT, Nat.reduceBEq, Nat.reduceAdd, Nat.reduceLeDiff, reduceIte, Int.reduceLT, Int.reduceLE, Int.reduceEq, Int.reduceToNat, Int.reduceBEq, ge_iff_le]
  | false =>
    have hlow := low_spec x.d hs
    have hle := lowT_le l x.d
    have hne : ∀ (k : Nat) (hk : k < l.length), l[k].d ≠ x.d := fun k hk e => by
      have : hasT l x.d = true := hasT_iff.2 ⟨k, hk, by rw [getT_at hk]; exact e⟩
      rw [hh] at this; cases this
    generalize lowT l x.d = i at *
    simp only [walk, Nat.reduceLT, Nat.reduceBEq, Nat.reduceAdd, Nat.reduceLeDiff, reduceIte, Int.reduceLT, Int.reduceLE, Int.reduceEq, Int.reduceToNat, Int.reduceBEq, ge_iff_le, Bool.false_eq_true]
    refine awp_loop_ind (X := Nat × List Tx × Bool) (fun s => ⟨[(0, .val (tsP l)), (1, .val (tP x)), (3, .lp 3 0), (4, .val (.sl 6 [])), (5, .own 6 (tRows s.2.1)), (6, .val (.bool s.2.2)), (7, .val (.int .i64 s.1)), (12, .val (.bool false))], [(3, tB x)]⟩)
      (fun s => s.1 ≤ l.length ∧ s.2.1 = accT l x i s.1 ∧ s.2.2 = decide (i < s.1)) (fun s => l.length - s.1) (0, [], false) ⟨by omega, by simp [accT], by simp⟩ rfl ?_
    rintro R ⟨k, acc, pb⟩ ⟨hk, hacc, hpb⟩ ih
    simp only at hk hacc hpb
    have hpb' : pb = decide (i < k) := hpb
    clear hpb
    subst hacc hpb'
    have hlen := accT_len l x i k hle
    obtain ⟨hb1, hb2⟩ := bound64 hlen (Nat.le_trans hk hl)
    simp only [walk, Nat.reduceLT, Nat.reduceBEq, Nat.reduceAdd, Nat.reduceLeDiff, reduceIte, Int.reduceLT, Int.reduceLE, Int.reduceEq, Int.reduceToNat, Int.reduceBEq, tRows_len]
    by_cases c : k < l.length
    · have c1 : (k : Int) < l.length := by omega
      have c0 : (0 : Int) ≤ k := by omega
      have e1 : IntKind.i64.wrap ((k : Int) + 1) = ((k + 1 : Nat) : Int) := wrap64 (by omega) (by omega)
      have step := ih (k + 1, accT l x i (k + 1), decide (i < k + 1)) ⟨by simp only; omega, rfl, rfl⟩ (by simp only; omega)
      have hat := getT_at c
      by_cases k1 : i < k
      · have k2 : i < k + 1 := by omega
        rw [← accT_hi k1 c] at step
        simp only [k2, decide_true] at step
        simp only [walk, Nat.reduceLT, Nat.reduceBEq, Nat.reduceAdd, Nat.reduceLeDiff, reduceIte, Int.reduceLT, Int.reduceLE, Int.reduceEq, Int.reduceToNat, Int.reduceBEq, k1, c1, tRows_get c, tRows_len, hb1, e1]
        rw [← tRows_app] at step
        exact step
      · simp only [walk, Nat.reduceLT, Nat.reduceBEq, Nat.reduceAdd, Nat.reduceLeDiff, reduceIte, Int.reduceLT, Int.reduceLE, Int.reduceEq, Int.reduceToNat, Int.reduceBEq, k1, c1, tRows_get c]
        refine callWp_of (hC x.d l[k].d) ?_
        by_cases k2 : k < i
        · have k3 : ¬ i < k + 1 := by omega
          have hlt := hlow.1 k k2
          rw [hat] at hlt
          have hnl : ¬ dcmp x.d l[k].d < 0 := dcmp_asym hlt
          rw [← accT_lo k2 c] at step
          simp only [k3, decide_false] at step
          simp only [walk, Nat.reduceLT, Nat.reduceBEq, Nat.reduceAdd, Nat.reduceLeDiff, reduceIte, Int.reduceLT, Int.reduceLE, Int.reduceEq, Int.reduceToNat, Int.reduceBEq, hnl, c1, tRows_get c, tRows_len, hb1, e1]
          rw [← tRows_app] at step
          exact step
        · have k3 : i < k + 1 := by omega
          have hnl := hlow.2 k (by omega) c
          rw [hat] at hnl
          have hlt : dcmp x.d l[k].d < 0 := dcmp_lt_of hnl (hne k c)
          have ek : k = i := by omega
          subst ek
          rw [← accT_at c] at step
          simp only [k3, decide_true] at step
          rw [← tRows_app, ← tRows_app] at step
          simp only [walk, Nat.reduceLT, Nat.reduceBEq, Nat.reduceAdd, Nat.reduceLeDiff, reduceIte, Int.reduceLT, Int.reduceLE, Int.reduceEq, Int.reduceToNat, Int.reduceBEq, hlt, c1, tRows_get c, tRows_len, hb1, hb2, e1, List.length_append, List.length_cons, List.length_nil]
          exact step
    · have c1 : ¬ (k : Int) < l.length := by omega
      have ek : k = l.length := by omega
      subst ek
      by_cases k1 : i < l.length
      · have ea : accT l x i l.length = l.take i ++ x :: l.drop i := by
          unfold accT
          have et : (List.drop i l).take (l.length - i) = List.drop i l := List.take_of_length_le (by rw [List.length_drop]; omega)
          rw [if_neg (by omega), et]
        simp only [walk, Nat.reduceLT, Nat.reduceBEq, Nat.reduceAdd, Nat.reduceLeDiff, reduceIte, Int.reduceLT, Int.reduceLE, Int.reduceEq, Int.reduceToNat, Int.reduceBEq, c1, k1, ea]
      · have ei : i = l.length := by omega
        subst ei
        have ea : accT l x l.length l.length ++ [x] = l.take l.length ++ x :: l.drop l.length := by
          unfold accT
          rw [if_pos (by omega)]; simp
        have er : tRows (accT l x l.length l.length) ++ [tCells x] = tRows (l ++ x :: l.drop l.length) := by rw [tRows_app, ea, List.take_length]
        simp only [walk, Nat.reduceLT, Nat.reduceBEq, Nat.reduceAdd, Nat.reduceLeDiff, reduceIte, Int.reduceLT, Int.reduceLE, Int.reduceEq, Int.reduceToNat, Int.reduceBEq, c1, k1, tRows_len, hb1]
        exact congrArg (fun r => some (RV.val (.sl 6 r))) er
end
end Go.AR
