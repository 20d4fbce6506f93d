import Derived.Test.YtmhhpifepghbbaaG33
import Derived.Test.YtmhhpifepghbbaaG31
import Derived.Test.YtmhhpifepghbbaaG30
set_option linter.all false
/-! Which operations count: those at a path, and under it. -/
namespace Go.AR
open Go
def isOk (l : List It) : Prop := l.length ≤ 1000000 ∧ ∀ i ∈ l, oOk i.o
def atL (l : List It) (p : List (List UInt8)) (leaf : Int) : List It := l.filter fun i => decide (oLeaf i.o.k = leaf) && decide (i.o.p = p)
theorem filter_take {α : Type} (f : α → Bool) (l : List α) (k : Nat) (h : k < l.length) : (l.take (k + 1)).filter f = (l.take k).filter f ++ if f l[k] = true then [l[k]] else [] := by
  rw [List.take_add_one, List.getElem?_eq_getElem h, Option.toList_some, List.filter_append]
  simp only [List.filter_cons, List.filter_nil]
section
variable {C : CallRel} {F : Nat → FuncId}
def S_iAt (R : Rel) : Prop := ∀ (l : List It) (p : List (List UInt8)) (leaf : Int), isOk l → pOk p → R [.v (isP l), .v (ptP p), .v (.int .i64 leaf)] (.val (isP (atL l p leaf))) []
theorem fl_len {α : Type} (f : α → Bool) (l : List α) (k : Nat) : ((l.take k).filter f).length ≤ k := by
  have h1 := List.length_filter_le f (l.take k)
  rw [List.length_take] at h1; omega
theorem g_live_At (hL : S_leaf (C (F n_op_Leaf))) (hS : S_pSame (C (F n_path_Same))) : S_iAt ((c_live_At F).gives C) := by
  intro l p leaf hl hp
  refine gives_of rfl ?_
  unfold c_live_At atL
  obtain ⟨hl1, hl2⟩ := hl
  simp only [walk, Nat.reduceLT, Nat.reduceBEq, Nat.reduceAdd, Nat.reduceLeDiff, reduceIte, Int.reduceLT, Int.reduceLE, Int.reduceEq, Int.reduceToNat, Int.reduceBEq, iRs_len]
  generalize hf : (fun i : It => decide (oLeaf i.o.k = leaf) && decide (i.o.p = p)) = f
  refine awp_loop_ind (X := Nat × List It) (fun x => ⟨[(0, .val (isP l)), (1, .val (ptP p)), (2, .val (.int .i64 leaf)), (6, .val (.sl 11 [])), (7, .own 11 (iRs x.2)), (10, .val (isP l)), (11, .val (.int .i64 l.length)), (12, .val (.int .i64 x.1))], []⟩)
    (fun x => x.1 ≤ l.length ∧ x.2 = (l.take x.1).filter f) (fun x => l.length - x.1) (0, []) ⟨by omega, by simp⟩ rfl ?_
  rintro R ⟨k, acc⟩ ⟨hk, hacc⟩ ih
  simp only at hk hacc
  simp only [walk, Nat.reduceLT, Nat.reduceBEq, Nat.reduceAdd, Nat.reduceLeDiff, reduceIte, Int.reduceLT, Int.reduceLE, Int.reduceEq, Int.reduceToNat, Int.reduceBEq]
  by_cases c : k < l.length
  · have c1 : (k : Int) < l.length := by omega
    have c0 : (0 : Int) ≤ k := by omega
    have e1 : IntKind.i64.wrap ((k : Int) + 1) = ((k + 1 : Nat) : Int) := wrap64 (by omega) (by omega)
    have hal : acc.length ≤ k := by rw [hacc]; exact fl_len f l k
    have hb : (acc.length + 1) * 128 ≤ 140737488355328 := by omega
    have next := ih (k + 1, (l.take (k + 1)).filter f) ⟨by simp only; omega, rfl⟩ (by simp only; omega)
    rw [filter_take f l k c, ← hacc] at next
    have hget := iRs_get c
    have hok := hl2 _ (List.getElem_mem c)
    have hfk : f l[k] = (decide (oLeaf l[k].o.k = leaf) && decide (l[k].o.p = p)) := by rw [← hf]
    rw [hfk] at next
    clear hfk ih hacc
    generalize l[k] = i at *
    simp only [walk, Nat.reduceLT, Nat.reduceBEq, Nat.reduceAdd, Nat.reduceLeDiff, reduceIte, Int.reduceLT, Int.reduceLE, Int.reduceEq, Int.reduceToNat, Int.reduceBEq, c1, hget]
    refine callWp_of (hL i.o.k) ?_
    by_cases h1 : oLeaf i.o.k = leaf
    · simp only [walk, Nat.reduceLT, Nat.reduceBEq, Nat.reduceAdd, Nat.reduceLeDiff, reduceIte, Int.reduceLT, Int.reduceLE, Int.reduceEq, Int.reduceToNat, Int.reduceBEq, ieq, h1]
      refine callWp_of (hS i.o.p p hok.1) ?_
      by_cases h2 : i.o.p = p
      · have h2' : (i.o.p == p) = true := by simp [h2]
        rw [decide_eq_true h1, decide_eq_true h2] at next
        simp only [Bool.and_self, if_true] at next
        rw [← iRs_app] at next
        simp only [walk, Nat.reduceLT, Nat.reduceBEq, Nat.reduceAdd, Nat.reduceLeDiff, reduceIte, Int.reduceLT, Int.reduceLE, Int.reduceEq, Int.reduceToNat, Int.reduceBEq, h2', iRs_len, hb, e1]
        exact next
      · have h2' : (i.o.p == p) = false := by rw [beq_eq_false_iff_ne]; exact h2
        rw [decide_eq_false h2] at next
        simp only [Bool.and_false, Bool.false_eq_true, if_false, List.append_nil] at next
        simp only [walk, Nat.reduceLT, Nat.reduceBEq, Nat.reduceAdd, Nat.reduceLeDiff, reduceIte, Int.reduceLT, Int.reduceLE, Int.reduceEq, Int.reduceToNat, Int.reduceBEq, h2', e1]
        exact next
    · rw [decide_eq_false h1] at next
      simp only [Bool.false_and, Bool.false_eq_true, if_false, List.append_nil] at next
      simp only [walk, Nat.reduceLT, Nat.reduceBEq, Nat.reduceAdd, Nat.reduceLeDiff, reduceIte, Int.reduceLT, Int.reduceLE, Int.reduceEq, Int.reduceToNat, Int.reduceBEq, ieq, h1, e1]
      exact next
  · have c1 : ¬ (k : Int) < l.length := by omega
    rw [List.take_of_length_le (by omega)] at hacc
    subst hacc
    simp only [walk, Nat.reduceLT, Nat.reduceBEq, Nat.reduceAdd, Nat.reduceLeDiff, reduceIte, Int.reduceLT, Int.reduceLE, Int.reduceEq, Int.reduceToNat, Int.reduceBEq, c1]
theorem g_pref13_At (hL : S_leaf (C (F n_pref11_Leaf))) (hS : S_pCmp (C (F n_pref10_Compare))) : S_iAt ((c_pref13_At F).gives C) := by
  intro l p leaf hl hp
  refine gives_of rfl ?_
  unfold c_pref13_At atL
  obtain ⟨hl1, hl2⟩ := hl
  simp only [walk, Nat.reduceLT, Nat.reduceBEq, Nat.reduceAdd, Nat.reduceLeDiff, reduceIte, Int.reduceLT, Int.reduceLE, Int.reduceEq, Int.reduceToNat, Int.reduceBEq]
  generalize hf : (fun i : It => decide (oLeaf i.o.k = leaf) && decide (i.o.p = p)) = f
  refine awp_loop_ind (X := Nat × List It) (fun x => ⟨[(0, .val (isP l)), (1, .val (ptP p)), (2, .val (.int .i64 leaf)), (6, .val (.sl 11 [])), (7, .own 11 (iRs x.2)), (8, .val (.int .i64 x.1))], []⟩)
    (fun x => x.1 ≤ l.length ∧ x.2 = (l.take x.1).filter f) (fun x => l.length - x.1) (0, []) ⟨by omega, by simp⟩ rfl ?_
  rintro R ⟨k, acc⟩ ⟨hk, hacc⟩ ih
  simp only at hk hacc
  simp only [walk, Nat.reduceLT, Nat.reduceBEq, Nat.reduceAdd, Nat.reduceLeDiff, reduceIte, Int.reduceLT, Int.reduceLE, Int.reduceEq, Int.reduceToNat, Int.reduceBEq, iRs_len]
  by_cases c : k < l.length
  · have c1 : (k : Int) < l.length := by omega
    have c0 : (0 : Int) ≤ k := by omega
    have e1 : IntKind.i64.wrap ((k : Int) + 1) = ((k + 1 : Nat) : Int) := wrap64 (by omega) (by omega)
    have hal : acc.length ≤ k := by rw [hacc]; exact fl_len f l k
    have hb : (acc.length + 1) * 128 ≤ 140737488355328 := by omega
    have next := ih (k + 1, (l.take (k + 1)).filter f) ⟨by simp only; omega, rfl⟩ (by simp only; omega)
    rw [filter_take f l k c, ← hacc] at next
    have hget := iRs_get c
    have hok := hl2 _ (List.getElem_mem c)
    have hfk : f l[k] = (decide (oLeaf l[k].o.k = leaf) && decide (l[k].o.p = p)) := by rw [← hf]
    rw [hfk] at next
    clear hfk ih hacc
    generalize l[k] = i at *
    simp only [walk, Nat.reduceLT, Nat.reduceBEq, Nat.reduceAdd, Nat.reduceLeDiff, reduceIte, Int.reduceLT, Int.reduceLE, Int.reduceEq, Int.reduceToNat, Int.reduceBEq, c1, hget, iRs_len]
    refine callWp_of (hL i.o.k) ?_
    by_cases h1 : oLeaf i.o.k = leaf
    · simp only [walk, Nat.reduceLT, Nat.reduceBEq, Nat.reduceAdd, Nat.reduceLeDiff, reduceIte, Int.reduceLT, Int.reduceLE, Int.reduceEq, Int.reduceToNat, Int.reduceBEq, ieq, h1, c1, hget, iRs_len]
      refine callWp_of (hS i.o.p p hok.1 hp) ?_
      by_cases h2 : i.o.p = p
      · have h2' : pCmp i.o.p p = 0 := pCmp_zero.2 h2
        rw [decide_eq_true h1, decide_eq_true h2] at next
        simp only [Bool.and_self, if_true] at next
        rw [← iRs_app] at next
        simp only [walk, Nat.reduceLT, Nat.reduceBEq, Nat.reduceAdd, Nat.reduceLeDiff, reduceIte, Int.reduceLT, Int.reduceLE, Int.reduceEq, Int.reduceToNat, Int.reduceBEq, ieq, h2', iRs_len, c1, hget, hb, e1]
        exact next
      · have h2' : ¬ pCmp i.o.p p = 0 := fun e => h2 (pCmp_zero.1 e)
        rw [decide_eq_false h2] at next
        simp only [Bool.and_false, Bool.false_eq_true, if_false, List.append_nil] at next
        simp only [walk, Nat.reduceLT, Nat.reduceBEq, Nat.reduceAdd, Nat.reduceLeDiff, reduceIte, Int.reduceLT, Int.reduceLE, Int.reduceEq, Int.reduceToNat, Int.reduceBEq, ieq, h2', e1]
        exact next
    · rw [decide_eq_false h1] at next
      simp only [Bool.false_and, Bool.false_eq_true, if_false, List.append_nil] at next
      simp only [walk, Nat.reduceLT, Nat.reduceBEq, Nat.reduceAdd, Nat.reduceLeDiff, reduceIte, Int.reduceLT, Int.reduceLE, Int.reduceEq, Int.reduceToNat, Int.reduceBEq, ieq, h1, e1]
      exact next
  · have c1 : ¬ (k : Int) < l.length := by omega
    rw [List.take_of_length_le (by omega)] at hacc
    subst hacc
    simp only [walk, Nat.reduceLT, Nat.reduceBEq, Nat.reduceAdd, Nat.reduceLeDiff, reduceIte, Int.reduceLT, Int.reduceLE, Int.reduceEq, Int.reduceToNat, Int.reduceBEq, c1]
end
end Go.AR

/-! Which operations count: with another transaction; what is asked. -/
namespace Go.AR
open Go
section
variable {C : CallRel} {F : Nat → FuncId}
def S_lGood (R : Rel) : Prop := ∀ (l : List Tx) (u : List Ud), R [.v (tsP l), .v (usP u)] (.val (.bool (goodT 20 l && (decide (u.length ≤ 100) && rightU u)))) []
theorem g_plaw13_Good (h1 : S_tGood (C (F n_pref12_Good))) (h2 : S_rGood (C (F n_pref08_Good))) : S_lGood ((c_plaw13_Good F).gives C) := by
  intro l u
  refine gives_of rfl ?_
  unfold c_plaw13_Good
  simp only [walk, Nat.reduceLT, Nat.reduceBEq, Nat.reduceAdd, Nat.reduceLeDiff, reduceIte, Int.reduceLT, Int.reduceLE, Int.reduceEq, Int.reduceToNat, Int.reduceBEq]
  refine callWp_of (h1 l 20 (by omega)) ?_
  cases hg : goodT 20 l with
  | false => simp only [walk, Nat.reduceLT, Nat.reduceBEq, Nat.reduceAdd, Nat.reduceLeDiff, reduceIte, Int.reduceLT, Int.reduceLE, Int.reduceEq, Int.reduceToNat, Int.reduceBEq]
  | true =>
    simp only [walk, Nat.reduceLT, Nat.reduceBEq, Nat.reduceAdd, Nat.reduceLeDiff, reduceIte, Int.reduceLT, Int.reduceLE, Int.reduceEq, Int.reduceToNat, Int.reduceBEq]
    refine callWp_of (h2 u) ?_
    simp only [walk, Nat.reduceLT, Nat.reduceBEq, Nat.reduceAdd, Nat.reduceLeDiff, reduceIte, Int.reduceLT, Int.reduceLE, Int.reduceEq, Int.reduceToNat, Int.reduceBEq]
end
end Go.AR

/-! Which operations count: the law that tells. -/
namespace Go.AR
open Go
theorem itemsO_ok (gone : Ud → Bool) (d : Dt) (tm : Int) : ∀ (os : List Ov) (i : Nat), (∀ o ∈ os, oOk o) → ∀ x ∈ itemsO gone d tm i os, oOk x.o
  | [], i, _, x, hx => by simp [itemsO] at hx
  | o :: os, i, h, x, hx => by
    rw [itemsO] at hx
    rcases List.mem_append.1 hx with hx | hx
    · split at hx
      · rw [List.mem_singleton.1 hx]; exact h o (by simp)
      · cases hx
    · exact itemsO_ok gone d tm os (i + 1) (fun o ho => h o (by simp [ho])) x hx
theorem allL_ok {l : List Tx} {u : List Ud} (hl : lOk l) : isOk (allL l u) := by
  refine ⟨?_, fun x hx => ?_⟩
  · have := flat_items_len (itemsT (covL l u) u) (itemsT_len (covL l u) u) l (fun t ht => (hl.2 t ht).2)
    exact Nat.le_trans this (Nat.le_trans (Nat.mul_le_mul hl.1 (Nat.le_refl 1000)) (by decide))
  · unfold allL at hx
    obtain ⟨t, ht, hx⟩ := List.mem_flatMap.1 hx
    unfold itemsT at hx
    split at hx
    · exact itemsO_ok _ _ _ t.ops 0 (hl.2 t ht).1.2 x hx
    · cases hx
theorem filter_ok {l : List It} (f : It → Bool) (h : isOk l) : isOk (l.filter f) :=
  ⟨Nat.le_trans (List.length_filter_le f l) h.1, fun i hi => h.2 i (List.mem_filter.1 hi).1⟩
theorem good_ok {l : List Tx} (h : goodT 20 l = true) : lOk l ∧ risesT l = true ∧ l.length ≤ 20 := by
  unfold goodT at h
  simp only [Bool.and_eq_true, decide_eq_true_eq, List.all_eq_true] at h
  obtain ⟨h1, h2, h3⟩ := h
  exact ⟨⟨by omega, fun t ht => ⟨(tShort_ok (h3 t ht).1).2.2, by have := (tShort_ok (h3 t ht).1).1; omega⟩⟩, h2, by omega⟩
section
variable {C : CallRel} {F : Nat → FuncId}
end
end Go.AR
