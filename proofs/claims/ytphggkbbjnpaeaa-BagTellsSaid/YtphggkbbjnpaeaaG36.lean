import Derived.Test.YtphggkbbjnpaeaaG35
import Derived.Test.YtphggkbbjnpaeaaG33
import Derived.Test.YtphggkbbjnpaeaaG32
import Derived.Test.YtphggkbbjnpaeaaG29
set_option linter.all false
/-! Which operations count: those at a path, and under it. -/
namespace Go.AR
open Go
def isOk (l : List It) : Prop := l.length ≤ 1000000 ∧ ∀ i ∈ l, oOk i.o
def atL (l : List It) (p : List (List UInt8)) (leaf : Int) : List It := l.filter fun i => decide (oLeaf i.o.k = leaf) && decide (i.o.p = p)
theorem filter_take {α : Type} (f : α → Bool) (l : List α) (k : Nat) (h : k < l.length) : (l.take (k + 1)).filter f = (l.take k).filter f ++ if f l[k] = true then [l[k]] else [] := by
  rw [List.take_add_one, List.getElem?_eq_getElem h, Option.toList_some, List.filter_append]
  simp only [List.filter_cons, List.filter_nil]
section
variable {C : CallRel} {F : Nat → FuncId}
def S_iAt (R : Rel) : Prop := ∀ (l : List It) (p : List (List UInt8)) (leaf : Int), isOk l → pOk p → R [.v (isP l), .v (ptP p), .v (.int .i64 leaf)] (.val (isP (atL l p leaf))) []
theorem fl_len {α : Type} (f : α → Bool) (l : List α) (k : Nat) : ((l.take k).filter f).length ≤ k := by
  have h1 := List.length_filter_le f (l.take k)
  rw [List.length_take] at h1; omega
theorem g_live_At (hL : S_leaf (C (F n_op_Leaf))) (hS : S_pSame (C (F n_path_Same))) : S_iAt ((c_live_At F).gives C) := by
  intro l p leaf hl hp
  refine gives_of rfl ?_
  unfold c_live_At atL
  obtain ⟨hl1, hl2⟩ := hl
  simp only [walk, Nat.reduceLT, Nat.reduceBEq, Nat.reduceAdd, Nat.reduceLeDiff, reduceIte, Int.reduceLT, Int.reduceLE, Int.reduceEq, Int.reduceToNat, Int.reduceBEq, iRs_len]
  generalize hf : (fun i : It => decide (oLeaf i.o.k = leaf) && decide (i.o.p = p)) = f
  refine awp_loop_ind (X := Nat × List It) (fun x => ⟨[(0, .val (isP l)), (1, .val (ptP p)), (2, .val (.int .i64 leaf)), (6, .val (.sl 11 [])), (7, .own 11 (iRs x.2)), (10, .val (isP l)), (11, .val (.int .i64 l.length)), (12, .val (.int .i64 x.1))], []⟩)
    (fun x => x.1 ≤ l.length ∧ x.2 = (l.take x.1).filter f) (fun x => l.length - x.1) (0, []) ⟨by omega, by simp⟩ rfl ?_
  rintro R ⟨k, acc⟩ ⟨hk, hacc⟩ ih
  simp only at hk hacc
  simp only [walk, Nat.reduceLT, Nat.reduceBEq, Nat.reduceAdd, Nat.reduceLeDiff, reduceIte, Int.reduceLT, Int.reduceLE, Int.reduceEq, Int.reduceToNat, Int.reduceBEq]
  by_cases c : k < l.length
  · have c1 : (k : Int) < l.length := by omega
    have c0 : (0 : Int) ≤ k := by omega
    have e1 : IntKind.i64.wrap ((k : Int) + 1) = ((k + 1 : Nat) : Int) := wrap64 (by omega) (by omega)
    have hal : acc.length ≤ k := by rw [hacc]; exact fl_len f l k
    have hb : (acc.length + 1) * 128 ≤ 140737488355328 := by omega
    have next := ih (k + 1, (l.take (k + 1)).filter f) ⟨by simp only; omega, rfl⟩ (by simp only; omega)
    rw [filter_take f l k c, ← hacc] at next
    have hget := iRs_get c
    have hok := hl2 _ (List.getElem_mem c)
    have hfk : f l[k] = (decide (oLeaf l[k].o.k = leaf) && decide (l[k].o.p = p)) := by rw [← hf]
    rw [hfk] at next
    clear hfk ih hacc
    generalize l[k] = i at *
    simp only [walk, Nat.reduceLT, Nat.reduceBEq, Nat.reduceAdd, Nat.reduceLeDiff, reduceIte, Int.reduceLT, Int.reduceLE, Int.reduceEq, Int.reduceToNat, Int.reduceBEq, c1, hget]
    refine callWp_of (hL i.o.k) ?_
    by_cases h1 : oLeaf i.o.k = leaf
    · simp only [walk, Nat.reduceLT, Nat.reduceBEq, Nat.reduceAdd, Nat.reduceLeDiff, reduceIte, Int.reduceLT, Int.reduceLE, Int.reduceEq, Int.reduceToNat, Int.reduceBEq, ieq, h1]
      refine callWp_of (hS i.o.p p hok.1) ?_
      by_cases h2 : i.o.p = p
      · have h2' : (i.o.p == p) = true := by simp [h2]
        rw [decide_eq_true h1, decide_eq_true h2] at next
        simp only [Bool.and_self, if_true] at next
        rw [← iRs_app] at next
        simp only [walk, Nat.reduceLT, Nat.reduceBEq, Nat.reduceAdd, Nat.reduceLeDiff, reduceIte, Int.reduceLT, Int.reduceLE, Int.reduceEq, Int.reduceToNat, Int.reduceBEq, h2', iRs_len, hb, e1]
        exact next
      · have h2' : (i.o.p == p) = false := by rw [beq_eq_false_iff_ne]; exact h2
        rw [decide_eq_false h2] at next
        simp only [Bool.and_false, Bool.false_eq_true, if_false, List.append_nil] at next
        simp only [walk, Nat.reduceLT, Nat.reduceBEq, Nat.reduceAdd, Nat.reduceLeDiff, reduceIte, Int.reduceLT, Int.reduceLE, Int.reduceEq, Int.reduceToNat, Int.reduceBEq, h2', e1]
        exact next
    · rw [decide_eq_false h1] at next
      simp only [Bool.false_and, Bool.false_eq_true, if_false, List.append_nil] at next
      simp only [walk, Nat.reduceLT, Nat.reduceBEq, Nat.reduceAdd, Nat.reduceLeDiff, reduceIte, Int.reduceLT, Int.reduceLE, Int.reduceEq, Int.reduceToNat, Int.reduceBEq, ieq, h1, e1]
      exact next
  · have c1 : ¬ (k : Int) < l.length := by omega
    rw [List.take_of_length_le (by omega)] at hacc
    subst hacc
    simp only [walk, Nat.reduceLT, Nat.reduceBEq, Nat.reduceAdd, Nat.reduceLeDiff, reduceIte, Int.reduceLT, Int.reduceLE, Int.reduceEq, Int.reduceToNat, Int.reduceBEq, c1]
theorem g_pref13_At (hL : S_leaf (C (F n_pref11_Leaf))) (hS : S_pCmp (C (F n_pref10_Compare))) : S_iAt ((c_pref13_At F).gives C) := by
  intro l p leaf hl hp
  refine gives_of rfl ?_
  unfold c_pref13_At atL
  obtain ⟨hl1, hl2⟩ := hl
  simp only [walk, Nat.reduceLT, Nat.reduceBEq, Nat.reduceAdd, Nat.reduceLeDiff, reduceIte, Int.reduceLT, Int.reduceLE, Int.reduceEq, Int.reduceToNat, Int.reduceBEq]
  generalize hf : (fun i : It => decide (oLeaf i.o.k = leaf) && decide (i.o.p = p)) = f
  refine awp_loop_ind (X := Nat × List It) (fun x => ⟨[(0, .val (isP l)), (1, .val (ptP p)), (2, .val (.int .i64 leaf)), (6, .val (.sl 11 [])), (7, .own 11 (iRs x.2)), (8, .val (.int .i64 x.1))], []⟩)
    (fun x => x.1 ≤ l.length ∧ x.2 = (l.take x.1).filter f) (fun x => l.length - x.1) (0, []) ⟨by omega, by simp⟩ rfl ?_
  rintro R ⟨k, acc⟩ ⟨hk, hacc⟩ ih
  simp only at hk hacc
  simp only [walk, Nat.reduceLT, Nat.reduceBEq, Nat.reduceAdd, Nat.reduceLeDiff, reduceIte, Int.reduceLT, Int.reduceLE, Int.reduceEq, Int.reduceToNat, Int.reduceBEq, iRs_len]
  by_cases c : k < l.length
  · have c1 : (k : Int) < l.length := by omega
    have c0 : (0 : Int) ≤ k := by omega
    have e1 : IntKind.i64.wrap ((k : Int) + 1) = ((k + 1 : Nat) : Int) := wrap64 (by omega) (by omega)
    have hal : acc.length ≤ k := by rw [hacc]; exact fl_len f l k
    have hb : (acc.length + 1) * 128 ≤ 140737488355328 := by omega
    have next := ih (k + 1, (l.take (k + 1)).filter f) ⟨by simp only; omega, rfl⟩ (by simp only; omega)
    rw [filter_take f l k c, ← hacc] at next
    have hget := iRs_get c
    have hok := hl2 _ (List.getElem_mem c)
    have hfk : f l[k] = (decide (oLeaf l[k].o.k = leaf) && decide (l[k].o.p = p)) := by rw [← hf]
    rw [hfk] at next
    clear hfk ih hacc
    generalize l[k] = i at *
    simp only [walk, Nat.reduceLT, Nat.reduceBEq, Nat.reduceAdd, Nat.reduceLeDiff, reduceIte, Int.reduceLT, Int.reduceLE, Int.reduceEq, Int.reduceToNat, Int.reduceBEq, c1, hget, iRs_len]
    refine callWp_of (hL i.o.k) ?_
    by_cases h1 : oLeaf i.o.k = leaf
    · simp only [walk, Nat.reduceLT, Nat.reduceBEq, Nat.reduceAdd, Nat.reduceLeDiff, reduceIte, Int.reduceLT, Int.reduceLE, Int.reduceEq, Int.reduceToNat, Int.reduceBEq, ieq, h1, c1, hget, iRs_len]
      refine callWp_of (hS i.o.p p hok.1 hp) ?_
      by_cases h2 : i.o.p = p
      · have h2' : pCmp i.o.p p = 0 := pCmp_zero.2 h2
        rw [decide_eq_true h1, decide_eq_true h2] at next
        simp only [Bool.and_self, if_true] at next
        rw [← iRs_app] at next
        simp only [walk, Nat.reduceLT, Nat.reduceBEq, Nat.reduceAdd, Nat.reduceLeDiff, reduceIte, Int.reduceLT, Int.reduceLE, Int.reduceEq, Int.reduceToNat, Int.reduceBEq, ieq, h2', iRs_len, c1, hget, hb, e1]
        exact next
      · have h2' : ¬ pCmp i.o.p p = 0 := fun e => h2 (pCmp_zero.1 e)
        rw [decide_eq_false h2] at next
        simp only [Bool.and_false, Bool.false_eq_true, if_false, List.append_nil] at next
        simp only [walk, Nat.reduceLT, Nat.reduceBEq, Nat.reduceAdd, Nat.reduceLeDiff, reduceIte, Int.reduceLT, Int.reduceLE, Int.reduceEq, Int.reduceToNat, Int.reduceBEq, ieq, h2', e1]
        exact next
    · rw [decide_eq_false h1] at next
      simp only [Bool.false_and, Bool.false_eq_true, if_false, List.append_nil] at next
      simp only [walk, Nat.reduceLT, Nat.reduceBEq, Nat.reduceAdd, Nat.reduceLeDiff, reduceIte, Int.reduceLT, Int.reduceLE, Int.reduceEq, Int.reduceToNat, Int.reduceBEq, ieq, h1, e1]
      exact next
  · have c1 : ¬ (k : Int) < l.length := by omega
    rw [List.take_of_length_le (by omega)] at hacc
    subst hacc
    simp only [walk, Nat.reduceLT, Nat.reduceBEq, Nat.reduceAdd, Nat.reduceLeDiff, reduceIte, Int.reduceLT, Int.reduceLE, Int.reduceEq, Int.reduceToNat, Int.reduceBEq, c1]
end
end Go.AR

/-! Which operations count: the law's own sameness. -/
namespace Go.AR
open Go
section
variable {C : CallRel} {F : Nat → FuncId}
theorem g_pref13_SameRefs : S_rsame ((c_pref13_SameRefs F).gives C) := by
  intro a b ha
  refine gives_of rfl ?_
  unfold c_pref13_SameRefs
  simp only [walk, Nat.reduceLT, Nat.reduceBEq, Nat.reduceAdd, Nat.reduceLeDiff, reduceIte, Int.reduceLT, Int.reduceLE, Int.reduceEq, Int.reduceToNat, Int.reduceBEq, uRows_len, ine, ne_eq, decide_not]
  by_cases hl : a.length = b.length
  · have hl' : (a.length : Int) = b.length := by omega
    simp only [walk, Nat.reduceLT, Nat.reduceBEq, Nat.reduceAdd, Nat.reduceLeDiff, reduceIte, Int.reduceLT, Int.reduceLE, Int.reduceEq, Int.reduceToNat, Int.reduceBEq, hl', uRows_len]
    refine awp_loop_ind (X := Nat) (fun k => ⟨[(0, .val (usP a)), (1, .val (usP b)), (4, .val (.bool false)), (5, .val (.int .i64 k)), (10, .val (.bool false))], []⟩)
      (fun k => k ≤ a.length ∧ a.take k = b.take k) (fun k => a.length - k) 0 ⟨by omega, by simp⟩ rfl ?_
    rintro R k ⟨hk, hJ⟩ ih
    simp only [walk, Nat.reduceLT, Nat.reduceBEq, Nat.reduceAdd, Nat.reduceLeDiff, reduceIte, Int.reduceLT, Int.reduceLE, Int.reduceEq, Int.reduceToNat, Int.reduceBEq, uRows_len]
    by_cases c : k < a.length
    · have c1 : (k : Int) < b.length := by omega
      have cb : k < b.length := by omega
      have c0 : (0 : Int) ≤ k := by omega
      have e1 : IntKind.i64.wrap ((k : Int) + 1) = ((k + 1 : Nat) : Int) := wrap64 (by omega) (by omega)
      have ga : a.getD k z3 = a[k] := by simp [List.getD_eq_getElem?_getD, c]
      have gb : b.getD k z3 = b[k] := by simp [List.getD_eq_getElem?_getD, cb]
      simp only [walk, Nat.reduceLT, Nat.reduceBEq, Nat.reduceAdd, Nat.reduceLeDiff, reduceIte, Int.reduceLT, Int.reduceLE, Int.reduceEq, Int.reduceToNat, Int.reduceBEq, c1, hl', uRows_get c, uRows_get cb, uRows_len, eq_r, ga, gb]
      by_cases he : a[k] = b[k]
      · simp only [walk, Nat.reduceLT, Nat.reduceBEq, Nat.reduceAdd, Nat.reduceLeDiff, reduceIte, Int.reduceLT, Int.reduceLE, Int.reduceEq, Int.reduceToNat, Int.reduceBEq, he, e1]
        refine ih (k + 1) ⟨by omega, ?_⟩ (by omega)
        rw [List.take_add_one, List.take_add_one, hJ, List.getElem?_eq_getElem c, List.getElem?_eq_getElem cb, he]
      · have hf : ¬ a = b := by
          rintro rfl
          exact he rfl
        simp only [walk, Nat.reduceLT, Nat.reduceBEq, Nat.reduceAdd, Nat.reduceLeDiff, reduceIte, Int.reduceLT, Int.reduceLE, Int.reduceEq, Int.reduceToNat, Int.reduceBEq, he, hf]
    · have c1 : ¬ (k : Int) < b.length := by omega
      rw [List.take_of_length_le (by omega), List.take_of_length_le (by omega)] at hJ
      subst hJ
      simp only [walk, Nat.reduceLT, Nat.reduceBEq, Nat.reduceAdd, Nat.reduceLeDiff, reduceIte, Int.reduceLT, Int.reduceLE, Int.reduceEq, Int.reduceToNat, Int.reduceBEq, c1]
  · have hl' : ¬ (a.length : Int) = b.length := by omega
    have hf : ¬ a = b := by
      rintro rfl
      exact hl rfl
    simp only [walk, Nat.reduceLT, Nat.reduceBEq, Nat.reduceAdd, Nat.reduceLeDiff, reduceIte, Int.reduceLT, Int.reduceLE, Int.reduceEq, Int.reduceToNat, Int.reduceBEq, hl', hf]
end
end Go.AR

/-! Which operations count: with another transaction; what is asked. -/
namespace Go.AR
open Go
section
variable {C : CallRel} {F : Nat → FuncId}
def S_lGood (R : Rel) : Prop := ∀ (l : List Tx) (u : List Ud), R [.v (tsP l), .v (usP u)] (.val (.bool (goodT 20 l && (decide (u.length ≤ 100) && rightU u)))) []
theorem g_plaw13_Good (h1 : S_tGood (C (F n_pref12_Good))) (h2 : S_rGood (C (F n_pref08_Good))) : S_lGood ((c_plaw13_Good F).gives C) := by
  intro l u
  refine gives_of rfl ?_
  unfold c_plaw13_Good
  simp only [walk, Nat.reduceLT, Nat.reduceBEq, Nat.reduceAdd, Nat.reduceLeDiff, reduceIte, Int.reduceLT, Int.reduceLE, Int.reduceEq, Int.reduceToNat, Int.reduceBEq]
  refine callWp_of (h1 l 20 (by omega)) ?_
  cases hg : goodT 20 l with
  | false => simp only [walk, Nat.reduceLT, Nat.reduceBEq, Nat.reduceAdd, Nat.reduceLeDiff, reduceIte, Int.reduceLT, Int.reduceLE, Int.reduceEq, Int.reduceToNat, Int.reduceBEq]
  | true =>
    simp only [walk, Nat.reduceLT, Nat.reduceBEq, Nat.reduceAdd, Nat.reduceLeDiff, reduceIte, Int.reduceLT, Int.reduceLE, Int.reduceEq, Int.reduceToNat, Int.reduceBEq]
    refine callWp_of (h2 u) ?_
    simp only [walk, Nat.reduceLT, Nat.reduceBEq, Nat.reduceAdd, Nat.reduceLeDiff, reduceIte, Int.reduceLT, Int.reduceLE, Int.reduceEq, Int.reduceToNat, Int.reduceBEq]
end
end Go.AR

/-! Which operations count: the law that tells. -/
namespace Go.AR
open Go
theorem itemsO_ok (gone : Ud → Bool) (d : Dt) (tm : Int) : ∀ (os : List Ov) (i : Nat), (∀ o ∈ os, oOk o) → ∀ x ∈ itemsO gone d tm i os, oOk x.o
  | [], i, _, x, hx => by simp [itemsO] at hx
  | o :: os, i, h, x, hx => by
    rw [itemsO] at hx
    rcases List.mem_append.1 hx with hx | hx
    · split at hx
      · rw [List.mem_singleton.1 hx]; exact h o (by simp)
      · cases hx
    · exact itemsO_ok gone d tm os (i + 1) (fun o ho => h o (by simp [ho])) x hx
theorem allL_ok {l : List Tx} {u : List Ud} (hl : lOk l) : isOk (allL l u) := by
  refine ⟨?_, fun x hx => ?_⟩
  · have := flat_items_len (itemsT (covL l u) u) (itemsT_len (covL l u) u) l (fun t ht => (hl.2 t ht).2)
    exact Nat.le_trans this (Nat.le_trans (Nat.mul_le_mul hl.1 (Nat.le_refl 1000)) (by decide))
  · unfold allL at hx
    obtain ⟨t, ht, hx⟩ := List.mem_flatMap.1 hx
    unfold itemsT at hx
    split at hx
    · exact itemsO_ok _ _ _ t.ops 0 (hl.2 t ht).1.2 x hx
    · cases hx
theorem filter_ok {l : List It} (f : It → Bool) (h : isOk l) : isOk (l.filter f) :=
  ⟨Nat.le_trans (List.length_filter_le f l) h.1, fun i hi => h.2 i (List.mem_filter.1 hi).1⟩
theorem good_ok {l : List Tx} (h : goodT 20 l = true) : lOk l ∧ risesT l = true ∧ l.length ≤ 20 := by
  unfold goodT at h
  simp only [Bool.and_eq_true, decide_eq_true_eq, List.all_eq_true] at h
  obtain ⟨h1, h2, h3⟩ := h
  exact ⟨⟨by omega, fun t ht => ⟨(tShort_ok (h3 t ht).1).2.2, by have := (tShort_ok (h3 t ht).1).1; omega⟩⟩, h2, by omega⟩
section
variable {C : CallRel} {F : Nat → FuncId}
end
end Go.AR

/-! Bags: values in a row, by definition. -/
namespace Go.AR
open Go
def vcmp (a b : Vl) : Int := if icmp a.1 b.1 ≠ 0 then icmp a.1 b.1 else if icmp a.2.1 b.2.1 ≠ 0 then icmp a.2.1 b.2.1 else tcmp a.2.2 b.2.2
theorem icmp_cases (a b : Int) : (icmp a b = -1 ∧ a < b) ∨ (icmp a b = 0 ∧ a = b) ∨ (icmp a b = 1 ∧ b < a) := by
  unfold icmp
  by_cases h : a < b
  · rw [if_pos h]; exact .inl ⟨rfl, h⟩
  · rw [if_neg h]
    by_cases h2 : a > b
    · rw [if_pos h2]; exact .inr (.inr ⟨rfl, h2⟩)
    · rw [if_neg h2]; exact .inr (.inl ⟨rfl, by omega⟩)
def blt (x y : List UInt8) : Prop := Op.bytesLess x y = true
theorem tcmp_cases15 (x y : List UInt8) : (tcmp x y = -1 ∧ blt x y) ∨ (tcmp x y = 0 ∧ x = y) ∨ (tcmp x y = 1 ∧ blt y x) := by
  unfold tcmp blt
  rcases bl_tri x y with h | rfl | h
  · rw [if_pos h]; exact .inl ⟨rfl, h⟩
  · exact .inr (.inl ⟨by simp [bl_irrefl], rfl⟩)
  · have h1 : ¬ Op.bytesLess x y = true := fun h2 => by
      have := bl_trans x y x h2 h; rw [bl_irrefl] at this; cases this
    have h2 : ¬ x = y := by rintro rfl; rw [bl_irrefl] at h; cases h
    rw [if_neg h1, if_neg h2]
    exact .inr (.inr ⟨rfl, h⟩)
def vlt (a b : Vl) : Prop := a.1 < b.1 ∨ (a.1 = b.1 ∧ (a.2.1 < b.2.1 ∨ (a.2.1 = b.2.1 ∧ blt a.2.2 b.2.2)))
theorem vcmp_cases (a b : Vl) : (vcmp a b = -1 ∧ vlt a b) ∨ (vcmp a b = 0 ∧ a = b) ∨ (vcmp a b = 1 ∧ vlt b a) := by
  obtain ⟨a1, a2, a3⟩ := a
  obtain ⟨b1, b2, b3⟩ := b
  unfold vcmp vlt
  simp only
  rcases icmp_cases a1 b1 with ⟨e, h⟩ | ⟨e, rfl⟩ | ⟨e, h⟩
  · rw [e, if_pos (by omega)]; exact .inl ⟨rfl, .inl h⟩
  · rw [e, if_neg (by simp)]
    rcases icmp_cases a2 b2 with ⟨e, h⟩ | ⟨e, rfl⟩ | ⟨e, h⟩
    · rw [e, if_pos (by omega)]; exact .inl ⟨rfl, .inr ⟨rfl, .inl h⟩⟩
    · rw [e, if_neg (by simp)]
      rcases tcmp_cases15 a3 b3 with ⟨e, h⟩ | ⟨e, rfl⟩ | ⟨e, h⟩
      · exact .inl ⟨e, .inr ⟨rfl, .inr ⟨rfl, h⟩⟩⟩
      · exact .inr (.inl ⟨e, rfl⟩)
      · exact .inr (.inr ⟨e, .inr ⟨rfl, .inr ⟨rfl, h⟩⟩⟩)
    · rw [e, if_pos (by omega)]; exact .inr (.inr ⟨rfl, .inr ⟨rfl, .inl h⟩⟩)
  · rw [e, if_pos (by omega)]; exact .inr (.inr ⟨rfl, .inl h⟩)
theorem blt_irrefl (x : List UInt8) : ¬ blt x x := by unfold blt; rw [bl_irrefl]; simp
theorem vlt_irrefl (a : Vl) : ¬ vlt a a := by
  rintro (h | ⟨_, h | ⟨_, h⟩⟩)
  · omega
  · omega
  · exact blt_irrefl _ h
theorem vlt_trans {a b c : Vl} (h : vlt a b) (k : vlt b c) : vlt a c := by
  unfold vlt at *
  rcases h with h | ⟨h1, h⟩
  · rcases k with k | ⟨k1, k⟩
    · exact .inl (by omega)
    · exact .inl (by omega)
  · rcases k with k | ⟨k1, k⟩
    · exact .inl (by omega)
    · refine .inr ⟨by omega, ?_⟩
      rcases h with h | ⟨h2, h⟩
      · rcases k with k | ⟨k2, k⟩
        · exact .inl (by omega)
        · exact .inl (by omega)
      · rcases k with k | ⟨k2, k⟩
        · exact .inl (by omega)
        · exact .inr ⟨by omega, bl_trans _ _ _ h k⟩
theorem vcmp_neg {a b : Vl} : vcmp a b < 0 ↔ vlt a b := by
  rcases vcmp_cases a b with ⟨e, h⟩ | ⟨e, rfl⟩ | ⟨e, h⟩ <;> rw [e]
  · exact ⟨fun _ => h, fun _ => by omega⟩
  · exact ⟨fun h => by omega, fun h => absurd h (vlt_irrefl a)⟩
  · exact ⟨fun h => by omega, fun k => absurd (vlt_trans h k) (vlt_irrefl b)⟩
theorem vcmp_zero {a b : Vl} : vcmp a b = 0 ↔ a = b := by
  rcases vcmp_cases a b with ⟨e, h⟩ | ⟨e, rfl⟩ | ⟨e, h⟩ <;> rw [e]
  · constructor
    · intro h; omega
    · rintro rfl; exact absurd h (vlt_irrefl _)
  · simp
  · constructor
    · intro h; omega
    · rintro rfl; exact absurd h (vlt_irrefl _)
theorem vcmp_pos {a b : Vl} : vcmp a b > 0 ↔ vlt b a := by
  rcases vcmp_cases a b with ⟨e, h⟩ | ⟨e, rfl⟩ | ⟨e, h⟩ <;> rw [e]
  · exact ⟨fun h => by omega, fun k => absurd (vlt_trans h k) (vlt_irrefl a)⟩
  · exact ⟨fun h => by omega, fun h => absurd h (vlt_irrefl _)⟩
  · exact ⟨fun _ => h, fun _ => by omega⟩
theorem vcmp_trans {a b c : Vl} (h : vcmp a b < 0) (k : vcmp b c < 0) : vcmp a c < 0 := vcmp_neg.2 (vlt_trans (vcmp_neg.1 h) (vcmp_neg.1 k))
def sortV (l : List Vl) : Prop := ∀ i j, i < j → j < l.length → vcmp (l.getD i z0) (l.getD j z0) < 0
def lowV (l : List Vl) (v : Vl) : Nat := (l.filter fun x => decide (vcmp x v < 0)).length
def hasV (l : List Vl) (v : Vl) : Bool := l.any fun x => decide (x = v)
def insV (l : List Vl) (v : Vl) : List Vl := if hasV l v = true then l else l.take (lowV l v) ++ v :: l.drop (lowV l v)
theorem getV_at {l : List Vl} {k : Nat} (h : k < l.length) : l.getD k z0 = l[k] := by simp [List.getD_eq_getElem?_getD, h]
theorem lowV_of : ∀ {l : List Vl} {d : Vl} {i : Nat}, i ≤ l.length → (∀ k, k < i → vcmp (l.getD k z0) d < 0) → (∀ k, i ≤ k → k < l.length → ¬ vcmp (l.getD k z0) d < 0) → lowV l d = i
  | [], d, i, h, _, _ => by simp at h; subst h; rfl
  | u :: l, d, 0, _, _, h2 => by
    have h0 := h2 0 (by omega) (by simp)
    simp only [List.getD_cons_zero] at h0
    have := lowV_of (l := l) (d := d) (i := 0) (by omega) (by omega) (fun k _ hk => by simpa using h2 (k + 1) (by omega) (by simpa using hk))
    unfold lowV at this ⊢
    rw [List.filter_cons_of_neg (by simpa using h0)]; exact this
  | u :: l, d, i + 1, hi, h1, h2 => by
    have h0 := h1 0 (by omega)
    simp only [List.getD_cons_zero] at h0
    have := lowV_of (l := l) (d := d) (i := i) (by simpa using hi) (fun k hk => by simpa using h1 (k + 1) (by omega)) (fun k hk hl => by simpa using h2 (k + 1) (by omega) (by simpa using hl))
    unfold lowV at this ⊢
    rw [List.filter_cons_of_pos (by simpa using h0), List.length_cons, this]
theorem hasV_iff {l : List Vl} {d : Vl} : hasV l d = true ↔ ∃ k, k < l.length ∧ l.getD k z0 = d := by
  simp only [hasV, List.any_eq_true, decide_eq_true_eq]
  constructor
  · rintro ⟨u, hu, rfl⟩
    obtain ⟨k, hk, rfl⟩ := List.getElem_of_mem hu
    exact ⟨k, hk, by rw [getV_at hk]⟩
  · rintro ⟨k, hk, e⟩
    exact ⟨l[k], List.getElem_mem hk, by rw [← getV_at hk]; exact e⟩
theorem hasV_low {l : List Vl} {d : Vl} {i : Nat} (h1 : ∀ k, k < i → vcmp (l.getD k z0) d < 0) (h2 : ∀ k, i ≤ k → k < l.length → ¬ vcmp (l.getD k z0) d < 0) (hs : sortV l) :
    hasV l d = (decide (i < l.length) && decide (vcmp (l.getD i z0) d = 0)) := by
  rw [Bool.eq_iff_iff, hasV_iff, Bool.and_eq_true, decide_eq_true_eq, decide_eq_true_eq, vcmp_zero]
  constructor
  · rintro ⟨k, hk, e⟩
    have h3 : ¬ k < i := fun h => by have := h1 k h; rw [e, vcmp_neg] at this; exact vlt_irrefl _ this
    by_cases e2 : k = i
    · subst e2; exact ⟨hk, e⟩
    · have := hs i k (by omega) hk
      rw [e] at this
      exact absurd this (h2 i (Nat.le_refl _) (by omega))
  · rintro ⟨h, e⟩
    exact ⟨i, h, e⟩
theorem sortV_pw {l : List Vl} : sortV l ↔ l.Pairwise (fun a b => vcmp a b < 0) := by
  rw [List.pairwise_iff_getElem]
  constructor
  · intro h i j hi hj hij
    have := h i j hij hj
    rw [getV_at hi, getV_at hj] at this
    exact this
  · intro h i j hij hj
    rw [getV_at (by omega), getV_at hj]
    exact h i j (by omega) hj hij
theorem lowV_ex : ∀ {l : List Vl} (d : Vl), sortV l → ∃ i, i ≤ l.length ∧ (∀ k, k < i → vcmp (l.getD k z0) d < 0) ∧ ∀ k, i ≤ k → k < l.length → ¬ vcmp (l.getD k z0) d < 0
  | [], d, _ => ⟨0, by simp, by omega, by simp⟩
  | u :: l, d, hs => by
    have hp := sortV_pw.1 hs
    rw [List.pairwise_cons] at hp
    by_cases hu : vcmp u d < 0
    · obtain ⟨i, h1, h2, h3⟩ := lowV_ex d (sortV_pw.2 hp.2)
      refine ⟨i + 1, by simp; omega, fun k hk => ?_, fun k hk hl => ?_⟩
      · cases k with
        | zero => simpa using hu
        | succ k => simpa using h2 k (by omega)
      · cases k with
        | zero => omega
        | succ k => simpa using h3 k (by omega) (by simpa using hl)
    · refine ⟨0, by omega, by omega, fun k _ hl hc => ?_⟩
      cases k with
      | zero => exact hu (by simpa using hc)
      | succ k =>
        have hl' : k < l.length := by simpa using hl
        simp only [List.getD_cons_succ, getV_at hl'] at hc
        exact hu (vcmp_trans (hp.1 l[k] (List.getElem_mem hl')) hc)
theorem lowV_spec {l : List Vl} (d : Vl) (hs : sortV l) : lowV l d ≤ l.length ∧ (∀ k, k < lowV l d → vcmp (l.getD k z0) d < 0) ∧ ∀ k, lowV l d ≤ k → k < l.length → ¬ vcmp (l.getD k z0) d < 0 := by
  obtain ⟨i, h1, h2, h3⟩ := lowV_ex d hs
  rw [lowV_of h1 h2 h3]
  exact ⟨h1, h2, h3⟩
theorem insV_sort {l : List Vl} (v : Vl) (hs : sortV l) : sortV (insV l v) := by
  unfold insV
  split
  · exact hs
  · rename_i hn
    obtain ⟨h1, h2, h3⟩ := lowV_spec v hs
    have hp := sortV_pw.1 hs
    have hsplit : (l.take (lowV l v) ++ l.drop (lowV l v)).Pairwise (fun a b => vcmp a b < 0) := by rw [List.take_append_drop]; exact hp
    rw [List.pairwise_append] at hsplit
    have tlt : ∀ a ∈ l.take (lowV l v), vcmp a v < 0 := by
      intro a ha
      obtain ⟨k, hk, rfl⟩ := List.getElem_of_mem ha
      rw [List.length_take] at hk
      rw [List.getElem_take]
      have := h2 k (by omega)
      rwa [getV_at (by omega)] at this
    have dgt : ∀ a ∈ l.drop (lowV l v), vcmp v a < 0 := by
      intro a ha
      obtain ⟨k, hk, rfl⟩ := List.getElem_of_mem ha
      rw [List.length_drop] at hk
      rw [List.getElem_drop]
      have h4 := h3 (lowV l v + k) (by omega) (by omega)
      rw [getV_at (by omega)] at h4
      rcases vcmp_cases v l[lowV l v + k] with ⟨e, _⟩ | ⟨_, e⟩ | ⟨_, e⟩
      · omega
      · exact absurd (hasV_iff.2 ⟨lowV l v + k, by omega, by rw [getV_at (by omega)]; exact e.symm⟩) hn
      · exact absurd (vcmp_neg.2 e) h4
    rw [sortV_pw, List.pairwise_append, List.pairwise_cons]
    refine ⟨hsplit.1, ⟨dgt, hsplit.2.1⟩, fun a ha b hb => ?_⟩
    rcases List.mem_cons.1 hb with rfl | hb
    · exact tlt a ha
    · exact hsplit.2.2 a ha b hb
theorem insV_len (l : List Vl) (v : Vl) : (insV l v).length ≤ l.length + 1 := by
  unfold insV
  split
  · omega
  · simp; omega
theorem insV_mem {l : List Vl} {v x : Vl} (h : x ∈ insV l v) : x = v ∨ x ∈ l := by
  unfold insV at h
  split at h
  · exact .inr h
  · rcases List.mem_append.1 h with h | h
    · exact .inr (List.mem_of_mem_take h)
    · rcases List.mem_cons.1 h with h | h
      · exact .inl h
      · exact .inr (List.mem_of_mem_drop h)
/-- A bag's values. -/
def valsV (l : List It) : List Vl := l.foldl (fun o i => insV o i.o.v) []
theorem valsV_add (l : List It) (k : Nat) (h : k < l.length) : valsV (l.take (k + 1)) = insV (valsV (l.take k)) l[k].o.v := by
  unfold valsV
  rw [List.take_add_one, List.getElem?_eq_getElem h, Option.toList_some, List.foldl_append]
  rfl
theorem valsV_ok (l : List It) : ∀ k, k ≤ l.length → sortV (valsV (l.take k)) ∧ (valsV (l.take k)).length ≤ k ∧ ∀ x ∈ valsV (l.take k), ∃ i ∈ l, x = i.o.v := by
  intro k
  induction k with
  | zero => intro _; exact ⟨by intro i j _ hj; simp [valsV] at hj, by simp [valsV], by simp [valsV]⟩
  | succ k ih =>
    intro hk
    obtain ⟨i1, i2, i3⟩ := ih (by omega)
    rw [valsV_add l k (by omega)]
    refine ⟨insV_sort _ i1, by have := insV_len (valsV (l.take k)) l[k].o.v; omega, fun x hx => ?_⟩
    rcases insV_mem hx with rfl | hx
    · exact ⟨_, List.getElem_mem (by omega), rfl⟩
    · exact i3 x hx
/-! The document's way to insert. -/
def rIns (l : List Vl) (v : Vl) (k : Nat) : List Vl × Bool := if k ≤ lowV l v then (l.take k, false) else (l.take (lowV l v) ++ v :: (l.take k).drop (lowV l v), true)
theorem rIns_lt {l : List Vl} {v : Vl} {k : Nat} (hs : sortV l) (hk : k < l.length) (h : vcmp v l[k] < 0) : ∃ b, (rIns l v k).2 = b ∧ rIns l v (k + 1) = ((if b = true then (rIns l v k).1 else (rIns l v k).1 ++ [v]) ++ [l[k]], true) := by
  obtain ⟨h1, h2, h3⟩ := lowV_spec v hs
  have hge : lowV l v ≤ k := by
    rcases Nat.lt_or_ge k (lowV l v) with c | c
    · have := h2 k c
      rw [getV_at hk] at this
      exact absurd (vlt_trans (vcmp_neg.1 h) (vcmp_neg.1 this)) (vlt_irrefl _)
    · exact c
  by_cases e : k = lowV l v
  · have A : rIns l v k = (l.take k, false) := by unfold rIns; rw [if_pos (by omega)]
    have B : rIns l v (k + 1) = (l.take (lowV l v) ++ v :: (l.take (k + 1)).drop (lowV l v), true) := by unfold rIns; rw [if_neg (by omega)]
    have hd : (l.take (k + 1)).drop k = [l[k]] := by
      rw [List.take_add_one, List.getElem?_eq_getElem hk, Option.toList_some, List.drop_append, List.length_take, Nat.min_eq_left (by omega), Nat.sub_self, List.drop_zero, List.drop_of_length_le (by simp; omega), List.nil_append]
    refine ⟨false, by rw [A], ?_⟩
    rw [B, A, ← e, hd]; simp
  · have A : rIns l v k = (l.take (lowV l v) ++ v :: (l.take k).drop (lowV l v), true) := by unfold rIns; rw [if_neg (by omega)]
    have B : rIns l v (k + 1) = (l.take (lowV l v) ++ v :: (l.take (k + 1)).drop (lowV l v), true) := by unfold rIns; rw [if_neg (by omega)]
    have hd : (l.take (k + 1)).drop (lowV l v) = (l.take k).drop (lowV l v) ++ [l[k]] := by
      rw [List.take_add_one, List.getElem?_eq_getElem hk, Option.toList_some, List.drop_append, List.length_take, Nat.min_eq_left (by omega), show lowV l v - k = 0 by omega, List.drop_zero]
    refine ⟨true, by rw [A], ?_⟩
    rw [B, A, hd]; simp
theorem rIns_gt {l : List Vl} {v : Vl} {k : Nat} (hs : sortV l) (hk : k < l.length) (h : vcmp v l[k] > 0) : (rIns l v k).2 = false ∧ rIns l v (k + 1) = ((rIns l v k).1 ++ [l[k]], false) := by
  obtain ⟨h1, h2, h3⟩ := lowV_spec v hs
  have hlt : k < lowV l v := by
    rcases Nat.lt_or_ge k (lowV l v) with c | c
    · exact c
    · have := h3 k c hk
      rw [getV_at hk] at this
      exact absurd (vcmp_neg.2 (vcmp_pos.1 h)) this
  unfold rIns
  rw [if_pos (by omega), if_pos (by omega), List.take_add_one, List.getElem?_eq_getElem hk]
  exact ⟨rfl, rfl⟩
theorem rIns_end {l : List Vl} {v : Vl} (hs : sortV l) (hn : hasV l v = false) : insV l v = if (rIns l v l.length).2 = true then (rIns l v l.length).1 else (rIns l v l.length).1 ++ [v] := by
  obtain ⟨h1, h2, h3⟩ := lowV_spec v hs
  unfold insV rIns
  rw [if_neg (by rw [hn]; simp)]
  by_cases c : l.length ≤ lowV l v
  · have e : lowV l v = l.length := by omega
    rw [if_pos c, e]; simp
  · rw [if_neg c]; simp
theorem rIns_len (l : List Vl) (v : Vl) (k : Nat) : (rIns l v k).1.length ≤ l.length + 1 := by
  unfold rIns
  split
  · simp; omega
  · simp; omega
end Go.AR
