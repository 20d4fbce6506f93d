import Derived.Test.YtillphnjhefioaaG36
import Derived.Test.YtillphnjhefioaaG34
import Derived.Test.YtillphnjhefioaaG32
set_option linter.all false
/-! Which operations count: those at a path, and under it. -/
namespace Go.AR
open Go
def isOk (l : List It) : Prop := l.length ≤ 1000000 ∧ ∀ i ∈ l, oOk i.o
def atL (l : List It) (p : List (List UInt8)) (leaf : Int) : List It := l.filter fun i => decide (oLeaf i.o.k = leaf) && decide (i.o.p = p)
def underL (l : List It) (p : List (List UInt8)) : List It := l.filter fun i => under i.o.p p
theorem filter_take {α : Type} (f : α → Bool) (l : List α) (k : Nat) (h : k < l.length) : (l.take (k + 1)).filter f = (l.take k).filter f ++ if f l[k] = true then [l[k]] else [] := by
  rw [List.take_add_one, List.getElem?_eq_getElem h, Option.toList_some, List.filter_append]
  simp only [List.filter_cons, List.filter_nil]
section
variable {C : CallRel} {F : Nat → FuncId}
def S_iAt (R : Rel) : Prop := ∀ (l : List It) (p : List (List UInt8)) (leaf : Int), isOk l → pOk p → R [.v (isP l), .v (ptP p), .v (.int .i64 leaf)] (.val (isP (atL l p leaf))) []
def S_iUnder (R : Rel) : Prop := ∀ (l : List It) (p : List (List UInt8)), isOk l → pOk p → R [.v (isP l), .v (ptP p)] (.val (isP (underL l p))) []
def S_iRefs (R : Rel) : Prop := ∀ l : List It, l.length ≤ 1000000 → R [.v (isP l)] (.val (usP (l.map (·.x)))) []
theorem fl_len {α : Type} (f : α → Bool) (l : List α) (k : Nat) : ((l.take k).filter f).length ≤ k := by
  have h1 := List.length_filter_le f (l.take k)
  rw [List.length_take] at h1; omega
theorem g_live_At (hL : S_leaf (C (F n_op_Leaf))) (hS : S_pSame (C (F n_path_Same))) : S_iAt ((c_live_At F).gives C) := by
  intro l p leaf hl hp
  refine gives_of rfl ?_
  unfold c_live_At atL
  obtain ⟨hl1, hl2⟩ := hl
  simp only [walk, Nat.reduceLT, Nat.reduceBEq, Nat.reduceAdd, Nat.reduceLeDiff, reduceIte, Int.reduceLT, Int.reduceLE, Int.reduceEq, Int.reduceToNat, Int.reduceBEq, iRs_len]
  generalize hf : (fun i : It => decide (oLeaf i.o.k = leaf) && decide (i.o.p = p)) = f
  refine awp_loop_ind (X := Nat × List It) (fun x => ⟨[(0, .val (isP l)), (1, .val (ptP p)), (2, .val (.int .i64 leaf)), (6, .val (.sl 11 [])), (7, .own 11 (iRs x.2)), (10, .val (isP l)), (11, .val (.int .i64 l.length)), (12, .val (.int .i64 x.1))], []⟩)
    (fun x => x.1 ≤ l.length ∧ x.2 = (l.take x.1).filter f) (fun x => l.length - x.1) (0, []) ⟨by omega, by simp⟩ rfl ?_
  rintro R ⟨k, acc⟩ ⟨hk, hacc⟩ ih
  simp only at hk hacc
  simp only [walk, Nat.reduceLT, Nat.reduceBEq, Nat.reduceAdd, Nat.reduceLeDiff, reduceIte, Int.reduceLT, Int.reduceLE, Int.reduceEq, Int.reduceToNat, Int.reduceBEq]
  by_cases c : k < l.length
  · have c1 : (k : Int) < l.length := by omega
    have c0 : (0 : Int) ≤ k := by omega
    have e1 : IntKind.i64.wrap ((k : Int) + 1) = ((k + 1 : Nat) : Int) := wrap64 (by omega) (by omega)
    have hal : acc.length ≤ k := by rw [hacc]; exact fl_len f l k
    have hb : (acc.length + 1) * 128 ≤ 140737488355328 := by omega
    have next := ih (k + 1, (l.take (k + 1)).filter f) ⟨by simp only; omega, rfl⟩ (by simp only; omega)
    rw [filter_take f l k c, ← hacc] at next
    have hget := iRs_get c
    have hok := hl2 _ (List.getElem_mem c)
    have hfk : f l[k] = (decide (oLeaf l[k].o.k = leaf) && decide (l[k].o.p = p)) := by rw [← hf]
    rw [hfk] at next
    clear hfk ih hacc
    generalize l[k] = i at *
    simp only [walk, Nat.reduceLT, Nat.reduceBEq, Nat.reduceAdd, Nat.reduceLeDiff, reduceIte, Int.reduceLT, Int.reduceLE, Int.reduceEq, Int.reduceToNat, Int.reduceBEq, c1, hget]
    refine callWp_of (hL i.o.k) ?_
    by_cases h1 : oLeaf i.o.k = leaf
    · simp only [walk, Nat.reduceLT, Nat.reduceBEq, Nat.reduceAdd, Nat.reduceLeDiff, reduceIte, Int.reduceLT, Int.reduceLE, Int.reduceEq, Int.reduceToNat, Int.reduceBEq, ieq, h1]
      refine callWp_of (hS i.o.p p hok.1) ?_
      by_cases h2 : i.o.p = p
      · have h2' : (i.o.p == p) = true := by simp [h2]
        rw [decide_eq_true h1, decide_eq_true h2] at next
        simp only [Bool.and_self, if_true] at next
        rw [← iRs_app] at next
        simp only [walk, Nat.reduceLT, Nat.reduceBEq, Nat.reduceAdd, Nat.reduceLeDiff, reduceIte, Int.reduceLT, Int.reduceLE, Int.reduceEq, Int.reduceToNat, Int.reduceBEq, h2', iRs_len, hb, e1]
        exact next
      · have h2' : (i.o.p == p) = false := by rw [beq_eq_false_iff_ne]; exact h2
        rw [decide_eq_false h2] at next
        simp only [Bool.and_false, Bool.false_eq_true, if_false, List.append_nil] at next
        simp only [walk, Nat.reduceLT, Nat.reduceBEq, Nat.reduceAdd, Nat.reduceLeDiff, reduceIte, Int.reduceLT, Int.reduceLE, Int.reduceEq, Int.reduceToNat, Int.reduceBEq, h2', e1]
        exact next
    · rw [decide_eq_false h1] at next
      simp only [Bool.false_and, Bool.false_eq_true, if_false, List.append_nil] at next
      simp only [walk, Nat.reduceLT, Nat.reduceBEq, Nat.reduceAdd, Nat.reduceLeDiff, reduceIte, Int.reduceLT, Int.reduceLE, Int.reduceEq, Int.reduceToNat, Int.reduceBEq, ieq, h1, e1]
      exact next
  · have c1 : ¬ (k : Int) < l.length := by omega
    rw [List.take_of_length_le (by omega)] at hacc
    subst hacc
    simp only [walk, Nat.reduceLT, Nat.reduceBEq, Nat.reduceAdd, Nat.reduceLeDiff, reduceIte, Int.reduceLT, Int.reduceLE, Int.reduceEq, Int.reduceToNat, Int.reduceBEq, c1]
theorem g_pref13_At (hL : S_leaf (C (F n_pref11_Leaf))) (hS : S_pCmp (C (F n_pref10_Compare))) : S_iAt ((c_pref13_At F).gives C) := by
  intro l p leaf hl hp
  refine gives_of rfl ?_
  unfold c_pref13_At atL
  obtain ⟨hl1, hl2⟩ := hl
  simp only [walk, Nat.reduceLT, Nat.reduceBEq, Nat.reduceAdd, Nat.reduceLeDiff, reduceIte, Int.reduceLT, Int.reduceLE, Int.reduceEq, Int.reduceToNat, Int.reduceBEq]
  generalize hf : (fun i : It => decide (oLeaf i.o.k = leaf) && decide (i.o.p = p)) = f
  refine awp_loop_ind (X := Nat × List It) (fun x => ⟨[(0, .val (isP l)), (1, .val (ptP p)), (2, .val (.int .i64 leaf)), (6, .val (.sl 11 [])), (7, .own 11 (iRs x.2)), (8, .val (.int .i64 x.1))], []⟩)
    (fun x => x.1 ≤ l.length ∧ x.2 = (l.take x.1).filter f) (fun x => l.length - x.1) (0, []) ⟨by omega, by simp⟩ rfl ?_
  rintro R ⟨k, acc⟩ ⟨hk, hacc⟩ ih
  simp only at hk hacc
  simp only [walk, Nat.reduceLT, Nat.reduceBEq, Nat.reduceAdd, Nat.reduceLeDiff, reduceIte, Int.reduceLT, Int.reduceLE, Int.reduceEq, Int.reduceToNat, Int.reduceBEq, iRs_len]
  by_cases c : k < l.length
  · have c1 : (k : Int) < l.length := by omega
    have c0 : (0 : Int) ≤ k := by omega
    have e1 : IntKind.i64.wrap ((k : Int) + 1) = ((k + 1 : Nat) : Int) := wrap64 (by omega) (by omega)
    have hal : acc.length ≤ k := by rw [hacc]; exact fl_len f l k
    have hb : (acc.length + 1) * 128 ≤ 140737488355328 := by omega
    have next := ih (k + 1, (l.take (k + 1)).filter f) ⟨by simp only; omega, rfl⟩ (by simp only; omega)
    rw [filter_take f l k c, ← hacc] at next
    have hget := iRs_get c
    have hok := hl2 _ (List.getElem_mem c)
    have hfk : f l[k] = (decide (oLeaf l[k].o.k = leaf) && decide (l[k].o.p = p)) := by rw [← hf]
    rw [hfk] at next
    clear hfk ih hacc
    generalize l[k] = i at *
    simp only [walk, Nat.reduceLT, Nat.reduceBEq, Nat.reduceAdd, Nat.reduceLeDiff, reduceIte, Int.reduceLT, Int.reduceLE, Int.reduceEq, Int.reduceToNat, Int.reduceBEq, c1, hget, iRs_len]
    refine callWp_of (hL i.o.k) ?_
    by_cases h1 : oLeaf i.o.k = leaf
    · simp only [walk, Nat.reduceLT, Nat.reduceBEq, Nat.reduceAdd, Nat.reduceLeDiff, reduceIte, Int.reduceLT, Int.reduceLE, Int.reduceEq, Int.reduceToNat, Int.reduceBEq, ieq, h1, c1, hget, iRs_len]
      refine callWp_of (hS i.o.p p hok.1 hp) ?_
      by_cases h2 : i.o.p = p
      · have h2' : pCmp i.o.p p = 0 := pCmp_zero.2 h2
        rw [decide_eq_true h1, decide_eq_true h2] at next
        simp only [Bool.and_self, if_true] at next
        rw [← iRs_app] at next
        simp only [walk, Nat.reduceLT, Nat.reduceBEq, Nat.reduceAdd, Nat.reduceLeDiff, reduceIte, Int.reduceLT, Int.reduceLE, Int.reduceEq, Int.reduceToNat, Int.reduceBEq, ieq, h2', iRs_len, c1, hget, hb, e1]
        exact next
      · have h2' : ¬ pCmp i.o.p p = 0 := fun e => h2 (pCmp_zero.1 e)
        rw [decide_eq_false h2] at next
        simp only [Bool.and_false, Bool.false_eq_true, if_false, List.append_nil] at next
        simp only [walk, Nat.reduceLT, Nat.reduceBEq, Nat.reduceAdd, Nat.reduceLeDiff, reduceIte, Int.reduceLT, Int.reduceLE, Int.reduceEq, Int.reduceToNat, Int.reduceBEq, ieq, h2', e1]
        exact next
    · rw [decide_eq_false h1] at next
      simp only [Bool.false_and, Bool.false_eq_true, if_false, List.append_nil] at next
      simp only [walk, Nat.reduceLT, Nat.reduceBEq, Nat.reduceAdd, Nat.reduceLeDiff, reduceIte, Int.reduceLT, Int.reduceLE, Int.reduceEq, Int.reduceToNat, Int.reduceBEq, ieq, h1, e1]
      exact next
  · have c1 : ¬ (k : Int) < l.length := by omega
    rw [List.take_of_length_le (by omega)] at hacc
    subst hacc
    simp only [walk, Nat.reduceLT, Nat.reduceBEq, Nat.reduceAdd, Nat.reduceLeDiff, reduceIte, Int.reduceLT, Int.reduceLE, Int.reduceEq, Int.reduceToNat, Int.reduceBEq, c1]
end
end Go.AR

/-! Which operations count: under a path; their names. -/
namespace Go.AR
open Go
section
variable {C : CallRel} {F : Nat → FuncId}
theorem g_live_Under (hS : S_under (C (F n_path_Under))) : S_iUnder ((c_live_Under F).gives C) := by
  intro l p hl hp
  refine gives_of rfl ?_
  unfold c_live_Under underL
  obtain ⟨hl1, hl2⟩ := hl
  simp only [walk, Nat.reduceLT, Nat.reduceBEq, Nat.reduceAdd, Nat.reduceLeDiff, reduceIte, Int.reduceLT, Int.reduceLE, Int.reduceEq, Int.reduceToNat, Int.reduceBEq, iRs_len]
  generalize hf : (fun i : It => under i.o.p p) = f
  refine awp_loop_ind (X := Nat × List It) (fun x => ⟨[(0, .val (isP l)), (1, .val (ptP p)), (4, .val (.sl 11 [])), (5, .own 11 (iRs x.2)), (8, .val (isP l)), (9, .val (.int .i64 l.length)), (10, .val (.int .i64 x.1))], []⟩)
    (fun x => x.1 ≤ l.length ∧ x.2 = (l.take x.1).filter f) (fun x => l.length - x.1) (0, []) ⟨by omega, by simp⟩ rfl ?_
  rintro R ⟨k, acc⟩ ⟨hk, hacc⟩ ih
  simp only at hk hacc
  simp only [walk, Nat.reduceLT, Nat.reduceBEq, Nat.reduceAdd, Nat.reduceLeDiff, reduceIte, Int.reduceLT, Int.reduceLE, Int.reduceEq, Int.reduceToNat, Int.reduceBEq, iRs_len]
  by_cases c : k < l.length
  · have c1 : (k : Int) < l.length := by omega
    have c0 : (0 : Int) ≤ k := by omega
    have e1 : IntKind.i64.wrap ((k : Int) + 1) = ((k + 1 : Nat) : Int) := wrap64 (by omega) (by omega)
    have hal : acc.length ≤ k := by rw [hacc]; exact fl_len f l k
    have hb : (acc.length + 1) * 128 ≤ 140737488355328 := by omega
    have next := ih (k + 1, (l.take (k + 1)).filter f) ⟨by simp only; omega, rfl⟩ (by simp only; omega)
    rw [filter_take f l k c, ← hacc] at next
    have hget := iRs_get c
    have hok := hl2 _ (List.getElem_mem c)
    have hfk : f l[k] = under l[k].o.p p := by rw [← hf]
    rw [hfk] at next
    clear hfk ih hacc
    generalize l[k] = i at *
    simp only [walk, Nat.reduceLT, Nat.reduceBEq, Nat.reduceAdd, Nat.reduceLeDiff, reduceIte, Int.reduceLT, Int.reduceLE, Int.reduceEq, Int.reduceToNat, Int.reduceBEq, c1, hget, iRs_len]
    refine callWp_of (hS i.o.p p hok.1 hp) ?_
    cases h1 : under i.o.p p with
    | true =>
      rw [h1] at next
      simp only [if_true] at next
      rw [← iRs_app] at next
      simp only [walk, Nat.reduceLT, Nat.reduceBEq, Nat.reduceAdd, Nat.reduceLeDiff, reduceIte, Int.reduceLT, Int.reduceLE, Int.reduceEq, Int.reduceToNat, Int.reduceBEq, c1, hget, iRs_len, hb, e1]
      exact next
    | false =>
      rw [h1] at next
      simp only [Bool.false_eq_true, if_false, List.append_nil] at next
      simp only [walk, Nat.reduceLT, Nat.reduceBEq, Nat.reduceAdd, Nat.reduceLeDiff, reduceIte, Int.reduceLT, Int.reduceLE, Int.reduceEq, Int.reduceToNat, Int.reduceBEq, e1]
      exact next
  · have c1 : ¬ (k : Int) < l.length := by omega
    rw [List.take_of_length_le (by omega)] at hacc
    subst hacc
    simp only [walk, Nat.reduceLT, Nat.reduceBEq, Nat.reduceAdd, Nat.reduceLeDiff, reduceIte, Int.reduceLT, Int.reduceLE, Int.reduceEq, Int.reduceToNat, Int.reduceBEq, c1]
theorem g_pref13_Under (hS : S_under (C (F n_pref10_Under))) : S_iUnder ((c_pref13_Under F).gives C) := by
  intro l p hl hp
  refine gives_of rfl ?_
  unfold c_pref13_Under underL
  obtain ⟨hl1, hl2⟩ := hl
  simp only [walk, Nat.reduceLT, Nat.reduceBEq, Nat.reduceAdd, Nat.reduceLeDiff, reduceIte, Int.reduceLT, Int.reduceLE, Int.reduceEq, Int.reduceToNat, Int.reduceBEq, iRs_len]
  generalize hf : (fun i : It => under i.o.p p) = f
  refine awp_loop_ind (X := Nat × List It) (fun x => ⟨[(0, .val (isP l)), (1, .val (ptP p)), (4, .val (.sl 11 [])), (5, .own 11 (iRs x.2)), (6, .val (.int .i64 x.1))], []⟩)
    (fun x => x.1 ≤ l.length ∧ x.2 = (l.take x.1).filter f) (fun x => l.length - x.1) (0, []) ⟨by omega, by simp⟩ rfl ?_
  rintro R ⟨k, acc⟩ ⟨hk, hacc⟩ ih
  simp only at hk hacc
  simp only [walk, Nat.reduceLT, Nat.reduceBEq, Nat.reduceAdd, Nat.reduceLeDiff, reduceIte, Int.reduceLT, Int.reduceLE, Int.reduceEq, Int.reduceToNat, Int.reduceBEq, iRs_len]
  by_cases c : k < l.length
  · have c1 : (k : Int) < l.length := by omega
    have c0 : (0 : Int) ≤ k := by omega
    have e1 : IntKind.i64.wrap ((k : Int) + 1) = ((k + 1 : Nat) : Int) := wrap64 (by omega) (by omega)
    have hal : acc.length ≤ k := by rw [hacc]; exact fl_len f l k
    have hb : (acc.length + 1) * 128 ≤ 140737488355328 := by omega
    have next := ih (k + 1, (l.take (k + 1)).filter f) ⟨by simp only; omega, rfl⟩ (by simp only; omega)
    rw [filter_take f l k c, ← hacc] at next
    have hget := iRs_get c
    have hok := hl2 _ (List.getElem_mem c)
    have hfk : f l[k] = under l[k].o.p p := by rw [← hf]
    rw [hfk] at next
    clear hfk ih hacc
    generalize l[k] = i at *
    simp only [walk, Nat.reduceLT, Nat.reduceBEq, Nat.reduceAdd, Nat.reduceLeDiff, reduceIte, Int.reduceLT, Int.reduceLE, Int.reduceEq, Int.reduceToNat, Int.reduceBEq, c1, hget, iRs_len]
    refine callWp_of (hS i.o.p p hok.1 hp) ?_
    cases h1 : under i.o.p p with
    | true =>
      rw [h1] at next
      simp only [if_true] at next
      rw [← iRs_app] at next
      simp only [walk, Nat.reduceLT, Nat.reduceBEq, Nat.reduceAdd, Nat.reduceLeDiff, reduceIte, Int.reduceLT, Int.reduceLE, Int.reduceEq, Int.reduceToNat, Int.reduceBEq, c1, hget, iRs_len, hb, e1]
      exact next
    | false =>
      rw [h1] at next
      simp only [Bool.false_eq_true, if_false, List.append_nil] at next
      simp only [walk, Nat.reduceLT, Nat.reduceBEq, Nat.reduceAdd, Nat.reduceLeDiff, reduceIte, Int.reduceLT, Int.reduceLE, Int.reduceEq, Int.reduceToNat, Int.reduceBEq, e1]
      exact next
  · have c1 : ¬ (k : Int) < l.length := by omega
    rw [List.take_of_length_le (by omega)] at hacc
    subst hacc
    simp only [walk, Nat.reduceLT, Nat.reduceBEq, Nat.reduceAdd, Nat.reduceLeDiff, reduceIte, Int.reduceLT, Int.reduceLE, Int.reduceEq, Int.reduceToNat, Int.reduceBEq, c1]
theorem g_live_Refs : S_iRefs ((c_live_Refs F).gives C) := by
  intro l hl1
  refine gives_of rfl ?_
  unfold c_live_Refs
  simp only [walk, Nat.reduceLT, Nat.reduceBEq, Nat.reduceAdd, Nat.reduceLeDiff, reduceIte, Int.reduceLT, Int.reduceLE, Int.reduceEq, Int.reduceToNat, Int.reduceBEq, iRs_len]
  refine awp_loop_ind (X := Nat × List Ud) (fun x => ⟨[(0, .val (isP l)), (2, .val (.sl 3 [])), (3, .own 3 (uRows x.2)), (6, .val (isP l)), (7, .val (.int .i64 l.length)), (8, .val (.int .i64 x.1))], []⟩)
    (fun x => x.1 ≤ l.length ∧ x.2 = (l.take x.1).map (·.x)) (fun x => l.length - x.1) (0, []) ⟨by omega, by simp⟩ rfl ?_
  rintro R ⟨k, acc⟩ ⟨hk, hacc⟩ ih
  simp only at hk hacc
  simp only [walk, Nat.reduceLT, Nat.reduceBEq, Nat.reduceAdd, Nat.reduceLeDiff, reduceIte, Int.reduceLT, Int.reduceLE, Int.reduceEq, Int.reduceToNat, Int.reduceBEq, iRs_len]
  by_cases c : k < l.length
  · have c1 : (k : Int) < l.length := by omega
    have c0 : (0 : Int) ≤ k := by omega
    have e1 : IntKind.i64.wrap ((k : Int) + 1) = ((k + 1 : Nat) : Int) := wrap64 (by omega) (by omega)
    have hal : acc.length ≤ k := by rw [hacc, List.length_map, List.length_take]; omega
    have hb : (acc.length + 1) * 24 ≤ 140737488355328 := by omega
    have next := ih (k + 1, (l.take (k + 1)).map (·.x)) ⟨by simp only; omega, rfl⟩ (by simp only; omega)
    have hm : (l.take (k + 1)).map (·.x) = acc ++ [l[k].x] := by
      rw [hacc, List.take_add_one, List.getElem?_eq_getElem c, Option.toList_some, List.map_append]; rfl
    rw [hm, ← uRows_app] at next
    have hget := iRs_get c
    clear hm ih hacc
    generalize l[k] = i at *
    simp only [walk, Nat.reduceLT, Nat.reduceBEq, Nat.reduceAdd, Nat.reduceLeDiff, reduceIte, Int.reduceLT, Int.reduceLE, Int.reduceEq, Int.reduceToNat, Int.reduceBEq, c1, hget, uRows_len, hb, e1]
    exact next
  · have c1 : ¬ (k : Int) < l.length := by omega
    rw [List.take_of_length_le (by omega)] at hacc
    subst hacc
    simp only [walk, Nat.reduceLT, Nat.reduceBEq, Nat.reduceAdd, Nat.reduceLeDiff, reduceIte, Int.reduceLT, Int.reduceLE, Int.reduceEq, Int.reduceToNat, Int.reduceBEq, c1]
theorem g_pref13_Refs : S_iRefs ((c_pref13_Refs F).gives C) := by
  intro l hl1
  refine gives_of rfl ?_
  unfold c_pref13_Refs
  simp only [walk, Nat.reduceLT, Nat.reduceBEq, Nat.reduceAdd, Nat.reduceLeDiff, reduceIte, Int.reduceLT, Int.reduceLE, Int.reduceEq, Int.reduceToNat, Int.reduceBEq, iRs_len]
  refine awp_loop_ind (X := Nat × List Ud) (fun x => ⟨[(0, .val (isP l)), (2, .val (.sl 3 [])), (3, .own 3 (uRows x.2)), (4, .val (.int .i64 x.1))], []⟩)
    (fun x => x.1 ≤ l.length ∧ x.2 = (l.take x.1).map (·.x)) (fun x => l.length - x.1) (0, []) ⟨by omega, by simp⟩ rfl ?_
  rintro R ⟨k, acc⟩ ⟨hk, hacc⟩ ih
  simp only at hk hacc
  simp only [walk, Nat.reduceLT, Nat.reduceBEq, Nat.reduceAdd, Nat.reduceLeDiff, reduceIte, Int.reduceLT, Int.reduceLE, Int.reduceEq, Int.reduceToNat, Int.reduceBEq, iRs_len]
  by_cases c : k < l.length
  · have c1 : (k : Int) < l.length := by omega
    have c0 : (0 : Int) ≤ k := by omega
    have e1 : IntKind.i64.wrap ((k : Int) + 1) = ((k + 1 : Nat) : Int) := wrap64 (by omega) (by omega)
    have hal : acc.length ≤ k := by rw [hacc, List.length_map, List.length_take]; omega
    have hb : (acc.length + 1) * 24 ≤ 140737488355328 := by omega
    have next := ih (k + 1, (l.take (k + 1)).map (·.x)) ⟨by simp only; omega, rfl⟩ (by simp only; omega)
    have hm : (l.take (k + 1)).map (·.x) = acc ++ [l[k].x] := by
      rw [hacc, List.take_add_one, List.getElem?_eq_getElem c, Option.toList_some, List.map_append]; rfl
    rw [hm, ← uRows_app] at next
    have hget := iRs_get c
    clear hm ih hacc
    generalize l[k] = i at *
    simp only [walk, Nat.reduceLT, Nat.reduceBEq, Nat.reduceAdd, Nat.reduceLeDiff, reduceIte, Int.reduceLT, Int.reduceLE, Int.reduceEq, Int.reduceToNat, Int.reduceBEq, c1, hget, uRows_len, hb, e1]
    exact next
  · have c1 : ¬ (k : Int) < l.length := by omega
    rw [List.take_of_length_le (by omega)] at hacc
    subst hacc
    simp only [walk, Nat.reduceLT, Nat.reduceBEq, Nat.reduceAdd, Nat.reduceLeDiff, reduceIte, Int.reduceLT, Int.reduceLE, Int.reduceEq, Int.reduceToNat, Int.reduceBEq, c1]
end
end Go.AR

/-! Which operations count: sameness. -/
namespace Go.AR
open Go
section
variable {C : CallRel} {F : Nat → FuncId}
def S_iSame (R : Rel) : Prop := ∀ a b : List It, isOk a → R [.v (isP a), .v (isP b)] (.val (.bool (decide (a = b)))) []
def S_iOne (R : Rel) : Prop := ∀ a b : It, oOk a.o → R [.v (.agg (iCells a)), .v (.agg (iCells b))] (.val (.bool (decide (a = b)))) []
def S_isEq (C : CallRel) (R : Rel) : Prop := ∀ (a b : List It) (f : FuncId), a.length ≤ 1000000 → (∀ x y : It, x ∈ a → C f [.v (.agg (iCells x)), .v (.agg (iCells y))] (.val (.bool (decide (x = y)))) []) → R [.v (isP a), .v (isP b), .v (.fn f)] (.val (.bool (decide (a = b)))) []
def S_iHas (R : Rel) : Prop := ∀ (l : List It) (r : Ud), l.length ≤ 1000000 → R [.v (isP l), .v (uP r)] (.val (.bool (l.any fun i => decide (i.x = r)))) []
theorem isame_iff (a b : It) : a = b ↔ a.x = b.x ∧ a.t = b.t ∧ a.o = b.o := by
  obtain ⟨x, o, t⟩ := a
  obtain ⟨x2, o2, t2⟩ := b
  simp only [It.mk.injEq]
  constructor
  · rintro ⟨h1, h2, h3⟩; exact ⟨h1, h3, h2⟩
  · rintro ⟨h1, h3, h2⟩; exact ⟨h1, h2, h3⟩
theorem isame_no {a b : It} (h : ¬ (a.x = b.x ∧ a.t = b.t ∧ a.o = b.o)) : decide (a = b) = false := decide_eq_false (fun e => h ((isame_iff a b).1 e))
theorem isame_yes {a b : It} (h : a.x = b.x ∧ a.t = b.t ∧ a.o = b.o) : decide (a = b) = true := decide_eq_true ((isame_iff a b).2 h)
theorem g_live_Same_1 (hS : S_oSame (C (F n_op_Same))) : S_iOne ((c_live_Same_1 F).gives C) := by
  intro a b ha
  refine gives_of rfl ?_
  unfold c_live_Same_1
  simp only [walk, Nat.reduceLT, Nat.reduceBEq, Nat.reduceAdd, Nat.reduceLeDiff, reduceIte, Int.reduceLT, Int.reduceLE, Int.reduceEq, Int.reduceToNat, Int.reduceBEq, ieq, eq_r]
  by_cases d1 : a.x = b.x
  · by_cases d2 : a.t = b.t
    · simp only [walk, Nat.reduceLT, Nat.reduceBEq, Nat.reduceAdd, Nat.reduceLeDiff, reduceIte, Int.reduceLT, Int.reduceLE, Int.reduceEq, Int.reduceToNat, Int.reduceBEq, ieq, d1, d2, eq_r]
      refine callWp_of (hS a.o b.o ha) ?_
      by_cases d3 : a.o = b.o
      · simp only [walk, Nat.reduceLT, Nat.reduceBEq, Nat.reduceAdd, Nat.reduceLeDiff, reduceIte, Int.reduceLT, Int.reduceLE, Int.reduceEq, Int.reduceToNat, Int.reduceBEq, d3, isame_yes ⟨d1, d2, d3⟩]
      · simp only [walk, Nat.reduceLT, Nat.reduceBEq, Nat.reduceAdd, Nat.reduceLeDiff, reduceIte, Int.reduceLT, Int.reduceLE, Int.reduceEq, Int.reduceToNat, Int.reduceBEq, d3, isame_no (a := a) (b := b) (by simp [d3])]
    · simp only [walk, Nat.reduceLT, Nat.reduceBEq, Nat.reduceAdd, Nat.reduceLeDiff, reduceIte, Int.reduceLT, Int.reduceLE, Int.reduceEq, Int.reduceToNat, Int.reduceBEq, ieq, d1, d2, eq_r, isame_no (a := a) (b := b) (by simp [d2])]
  · simp only [walk, Nat.reduceLT, Nat.reduceBEq, Nat.reduceAdd, Nat.reduceLeDiff, reduceIte, Int.reduceLT, Int.reduceLE, Int.reduceEq, Int.reduceToNat, Int.reduceBEq, d1, isame_no (a := a) (b := b) (by simp [d1])]
theorem g_slices_EqualFunc_Item : S_isEq C ((c_slices_EqualFunc_live_Item_live_Item_live_Item_live_Item F).gives C) := by
  intro a b f ha hf
  refine gives_of rfl ?_
  unfold c_slices_EqualFunc_live_Item_live_Item_live_Item_live_Item
  simp only [walk, Nat.reduceLT, Nat.reduceBEq, Nat.reduceAdd, Nat.reduceLeDiff, reduceIte, Int.reduceLT, Int.reduceLE, Int.reduceEq, Int.reduceToNat, Int.reduceBEq, iRs_len, ine, ne_eq, decide_not]
  by_cases hl : a.length = b.length
  · have hl' : (a.length : Int) = b.length := by omega
    simp only [walk, Nat.reduceLT, Nat.reduceBEq, Nat.reduceAdd, Nat.reduceLeDiff, reduceIte, Int.reduceLT, Int.reduceLE, Int.reduceEq, Int.reduceToNat, Int.reduceBEq, hl', iRs_len]
    refine awp_loop_ind (X := Nat) (fun k => ⟨[(0, .val (isP a)), (1, .val (isP b)), (2, .val (.fn f)), (6, .val (.bool false)), (14, .val (.bool false)), (15, .val (isP a)), (16, .val (.int .i64 b.length)), (17, .val (.int .i64 k))], []⟩)
      (fun k => k ≤ a.length ∧ a.take k = b.take k) (fun k => a.length - k) 0 ⟨by omega, by simp⟩ rfl ?_
    rintro R k ⟨hk, hJ⟩ ih
    simp only [walk, Nat.reduceLT, Nat.reduceBEq, Nat.reduceAdd, Nat.reduceLeDiff, reduceIte, Int.reduceLT, Int.reduceLE, Int.reduceEq, Int.reduceToNat, Int.reduceBEq, iRs_len]
    by_cases c : k < a.length
    · have c1 : (k : Int) < b.length := by omega
      have cb : k < b.length := by omega
      have c0 : (0 : Int) ≤ k := by omega
      have e1 : IntKind.i64.wrap ((k : Int) + 1) = ((k + 1 : Nat) : Int) := wrap64 (by omega) (by omega)
      simp only [walk, Nat.reduceLT, Nat.reduceBEq, Nat.reduceAdd, Nat.reduceLeDiff, reduceIte, Int.reduceLT, Int.reduceLE, Int.reduceEq, Int.reduceToNat, Int.reduceBEq, c1, hl', iRs_get c, iRs_get cb, iRs_len]
      refine callWp_of (hf a[k] b[k] (List.getElem_mem c)) ?_
      by_cases he : a[k] = b[k]
      · simp only [walk, Nat.reduceLT, Nat.reduceBEq, Nat.reduceAdd, Nat.reduceLeDiff, reduceIte, Int.reduceLT, Int.reduceLE, Int.reduceEq, Int.reduceToNat, Int.reduceBEq, he, e1]
        refine ih (k + 1) ⟨by omega, ?_⟩ (by omega)
        rw [List.take_add_one, List.take_add_one, hJ, List.getElem?_eq_getElem c, List.getElem?_eq_getElem cb, he]
      · have hf : ¬ a = b := by
          rintro rfl
          exact he rfl
        simp only [walk, Nat.reduceLT, Nat.reduceBEq, Nat.reduceAdd, Nat.reduceLeDiff, reduceIte, Int.reduceLT, Int.reduceLE, Int.reduceEq, Int.reduceToNat, Int.reduceBEq, he, hf]
    · have c1 : ¬ (k : Int) < b.length := by omega
      rw [List.take_of_length_le (by omega), List.take_of_length_le (by omega)] at hJ
      subst hJ
      simp only [walk, Nat.reduceLT, Nat.reduceBEq, Nat.reduceAdd, Nat.reduceLeDiff, reduceIte, Int.reduceLT, Int.reduceLE, Int.reduceEq, Int.reduceToNat, Int.reduceBEq, c1]
  · have hl' : ¬ (a.length : Int) = b.length := by omega
    have hf : ¬ a = b := by
      rintro rfl
      exact hl rfl
    simp only [walk, Nat.reduceLT, Nat.reduceBEq, Nat.reduceAdd, Nat.reduceLeDiff, reduceIte, Int.reduceLT, Int.reduceLE, Int.reduceEq, Int.reduceToNat, Int.reduceBEq, hl', hf]
theorem g_live_Same (hE : S_isEq C (C (F n_slices_EqualFunc_live_Item_live_Item_live_Item_live_Item))) (h1 : S_iOne (C (F n_live_Same_1))) : S_iSame ((c_live_Same F).gives C) := by
  intro a b ha
  refine gives_of rfl ?_
  unfold c_live_Same
  simp only [walk, Nat.reduceLT, Nat.reduceBEq, Nat.reduceAdd, Nat.reduceLeDiff, reduceIte, Int.reduceLT, Int.reduceLE, Int.reduceEq, Int.reduceToNat, Int.reduceBEq]
  refine callWp_of (hE a b (F n_live_Same_1) ha.1 (fun x y hx => h1 x y (ha.2 x hx))) ?_
  simp only [walk, Nat.reduceLT, Nat.reduceBEq, Nat.reduceAdd, Nat.reduceLeDiff, reduceIte, Int.reduceLT, Int.reduceLE, Int.reduceEq, Int.reduceToNat, Int.reduceBEq]
theorem g_plaw13_has : S_iHas ((c_plaw13_has F).gives C) := by
  intro l r hl
  refine gives_of rfl ?_
  unfold c_plaw13_has
  simp only [walk, Nat.reduceLT, Nat.reduceBEq, Nat.reduceAdd, Nat.reduceLeDiff, reduceIte, Int.reduceLT, Int.reduceLE, Int.reduceEq, Int.reduceToNat, Int.reduceBEq]
  refine awp_loop_ind (X := Nat) (fun k => ⟨[(0, .val (isP l)), (1, .val (uP r)), (3, .lp 3 0), (4, .val (.bool false)), (5, .val (.int .i64 k))], [(3, rB r)]⟩)
    (fun k => k ≤ l.length ∧ ((l.take k).any fun i => decide (i.x = r)) = false) (fun k => l.length - k) 0 ⟨by omega, by simp⟩ rfl ?_
  rintro R k ⟨hk, hJ⟩ ih
  simp only [walk, Nat.reduceLT, Nat.reduceBEq, Nat.reduceAdd, Nat.reduceLeDiff, reduceIte, Int.reduceLT, Int.reduceLE, Int.reduceEq, Int.reduceToNat, Int.reduceBEq, iRs_len]
  by_cases c : k < l.length
  · have c1 : (k : Int) < l.length := by omega
    have c0 : (0 : Int) ≤ k := by omega
    have e1 : IntKind.i64.wrap ((k : Int) + 1) = ((k + 1 : Nat) : Int) := wrap64 (by omega) (by omega)
    simp only [walk, Nat.reduceLT, Nat.reduceBEq, Nat.reduceAdd, Nat.reduceLeDiff, reduceIte, Int.reduceLT, Int.reduceLE, Int.reduceEq, Int.reduceToNat, Int.reduceBEq, c1, iRs_get c, iRs_len, eq_r]
    by_cases he : l[k].x = r
    · have hy : (l.any fun i => decide (i.x = r)) = true := any_of_at _ l k c (by simpa using he)
      simp only [walk, Nat.reduceLT, Nat.reduceBEq, Nat.reduceAdd, Nat.reduceLeDiff, reduceIte, Int.reduceLT, Int.reduceLE, Int.reduceEq, Int.reduceToNat, Int.reduceBEq, he, hy]
    · simp only [walk, Nat.reduceLT, Nat.reduceBEq, Nat.reduceAdd, Nat.reduceLeDiff, reduceIte, Int.reduceLT, Int.reduceLE, Int.reduceEq, Int.reduceToNat, Int.reduceBEq, he, e1]
      exact ih (k + 1) ⟨by omega, by rw [any_take_add _ l k c, hJ]; simpa using he⟩ (by omega)
  · have c1 : ¬ (k : Int) < l.length := by omega
    rw [List.take_of_length_le (by omega)] at hJ
    simp only [walk, Nat.reduceLT, Nat.reduceBEq, Nat.reduceAdd, Nat.reduceLeDiff, reduceIte, Int.reduceLT, Int.reduceLE, Int.reduceEq, Int.reduceToNat, Int.reduceBEq, c1, hJ]
end
end Go.AR

/-! Which operations count: the law's own sameness. -/
namespace Go.AR
open Go
section
variable {C : CallRel} {F : Nat → FuncId}
theorem g_plaw13_Same (hS : S_oSame (C (F n_pref11_Same))) : S_iSame ((c_plaw13_Same F).gives C) := by
  intro a b ha
  refine gives_of rfl ?_
  unfold c_plaw13_Same
  obtain ⟨hal, hok⟩ := ha
  simp only [walk, Nat.reduceLT, Nat.reduceBEq, Nat.reduceAdd, Nat.reduceLeDiff, reduceIte, Int.reduceLT, Int.reduceLE, Int.reduceEq, Int.reduceToNat, Int.reduceBEq, iRs_len, ine, ne_eq, decide_not]
  by_cases hl : a.length = b.length
  · have hl' : (a.length : Int) = b.length := by omega
    simp only [walk, Nat.reduceLT, Nat.reduceBEq, Nat.reduceAdd, Nat.reduceLeDiff, reduceIte, Int.reduceLT, Int.reduceLE, Int.reduceEq, Int.reduceToNat, Int.reduceBEq, hl', iRs_len]
    refine awp_loop_ind (X := Nat) (fun k => ⟨[(0, .val (isP a)), (1, .val (isP b)), (4, .val (.bool false)), (5, .val (.int .i64 k)), (10, .val (.bool false))], []⟩)
      (fun k => k ≤ a.length ∧ a.take k = b.take k) (fun k => a.length - k) 0 ⟨by omega, by simp⟩ rfl ?_
    rintro R k ⟨hk, hJ⟩ ih
    simp only [walk, Nat.reduceLT, Nat.reduceBEq, Nat.reduceAdd, Nat.reduceLeDiff, reduceIte, Int.reduceLT, Int.reduceLE, Int.reduceEq, Int.reduceToNat, Int.reduceBEq, iRs_len]
    by_cases c : k < a.length
    · have c1 : (k : Int) < b.length := by omega
      have cb : k < b.length := by omega
      have c0 : (0 : Int) ≤ k := by omega
      have e1 : IntKind.i64.wrap ((k : Int) + 1) = ((k + 1 : Nat) : Int) := wrap64 (by omega) (by omega)
      have ga := iRs_get c
      have gb := iRs_get cb
      have hka := hok _ (List.getElem_mem c)
      have nope : a[k] ≠ b[k] → decide (a = b) = false := fun h => decide_eq_false (by rintro rfl; exact h rfl)
      have next : a[k] = b[k] → _ := fun he => ih (k + 1) ⟨by omega, by rw [List.take_add_one, List.take_add_one, hJ, List.getElem?_eq_getElem c, List.getElem?_eq_getElem cb, he]⟩ (by omega)
      generalize a[k] = x at *
      generalize b[k] = y at *
      simp only [walk, Nat.reduceLT, Nat.reduceBEq, Nat.reduceAdd, Nat.reduceLeDiff, reduceIte, Int.reduceLT, Int.reduceLE, Int.reduceEq, Int.reduceToNat, Int.reduceBEq, c1, hl', ga, gb, iRs_len, eq_r, ieq, ine, ne_eq, decide_not]
      by_cases d1 : x.x = y.x
      · by_cases d2 : x.t = y.t
        · simp only [walk, Nat.reduceLT, Nat.reduceBEq, Nat.reduceAdd, Nat.reduceLeDiff, reduceIte, Int.reduceLT, Int.reduceLE, Int.reduceEq, Int.reduceToNat, Int.reduceBEq, c1, hl', ga, gb, iRs_len, ieq, ine, ne_eq, decide_not, d1, d2]
          refine callWp_of (hS x.o y.o hka) ?_
          by_cases d3 : x.o = y.o
          · have he := (isame_iff x y).2 ⟨d1, d2, d3⟩
            simp only [walk, Nat.reduceLT, Nat.reduceBEq, Nat.reduceAdd, Nat.reduceLeDiff, reduceIte, Int.reduceLT, Int.reduceLE, Int.reduceEq, Int.reduceToNat, Int.reduceBEq, d3, e1]
            exact next he
          · have hn := nope (fun e => d3 (by rw [e]))
            simp only [walk, Nat.reduceLT, Nat.reduceBEq, Nat.reduceAdd, Nat.reduceLeDiff, reduceIte, Int.reduceLT, Int.reduceLE, Int.reduceEq, Int.reduceToNat, Int.reduceBEq, d3, hn]
        · have hn := nope (fun e => d2 (by rw [e]))
          simp only [walk, Nat.reduceLT, Nat.reduceBEq, Nat.reduceAdd, Nat.reduceLeDiff, reduceIte, Int.reduceLT, Int.reduceLE, Int.reduceEq, Int.reduceToNat, Int.reduceBEq, c1, hl', ga, gb, iRs_len, ieq, ine, ne_eq, decide_not, d1, d2, hn]
      · have hn := nope (fun e => d1 (by rw [e]))
        simp only [walk, Nat.reduceLT, Nat.reduceBEq, Nat.reduceAdd, Nat.reduceLeDiff, reduceIte, Int.reduceLT, Int.reduceLE, Int.reduceEq, Int.reduceToNat, Int.reduceBEq, d1, hn]
    · have c1 : ¬ (k : Int) < b.length := by omega
      rw [List.take_of_length_le (by omega), List.take_of_length_le (by omega)] at hJ
      subst hJ
      simp only [walk, Nat.reduceLT, Nat.reduceBEq, Nat.reduceAdd, Nat.reduceLeDiff, reduceIte, Int.reduceLT, Int.reduceLE, Int.reduceEq, Int.reduceToNat, Int.reduceBEq, c1]
  · have hl' : ¬ (a.length : Int) = b.length := by omega
    have hf : ¬ a = b := by
      rintro rfl
      exact hl rfl
    simp only [walk, Nat.reduceLT, Nat.reduceBEq, Nat.reduceAdd, Nat.reduceLeDiff, reduceIte, Int.reduceLT, Int.reduceLE, Int.reduceEq, Int.reduceToNat, Int.reduceBEq, hl', hf]
theorem g_pref13_SameRefs : S_rsame ((c_pref13_SameRefs F).gives C) := by
  intro a b ha
  refine gives_of rfl ?_
  unfold c_pref13_SameRefs
  simp only [walk, Nat.reduceLT, Nat.reduceBEq, Nat.reduceAdd, Nat.reduceLeDiff, reduceIte, Int.reduceLT, Int.reduceLE, Int.reduceEq, Int.reduceToNat, Int.reduceBEq, uRows_len, ine, ne_eq, decide_not]
  by_cases hl : a.length = b.length
  · have hl' : (a.length : Int) = b.length := by omega
    simp only [walk, Nat.reduceLT, Nat.reduceBEq, Nat.reduceAdd, Nat.reduceLeDiff, reduceIte, Int.reduceLT, Int.reduceLE, Int.reduceEq, Int.reduceToNat, Int.reduceBEq, hl', uRows_len]
    refine awp_loop_ind (X := Nat) (fun k => ⟨[(0, .val (usP a)), (1, .val (usP b)), (4, .val (.bool false)), (5, .val (.int .i64 k)), (10, .val (.bool false))], []⟩)
      (fun k => k ≤ a.length ∧ a.take k = b.take k) (fun k => a.length - k) 0 ⟨by omega, by simp⟩ rfl ?_
    rintro R k ⟨hk, hJ⟩ ih
    simp only [walk, Nat.reduceLT, Nat.reduceBEq, Nat.reduceAdd, Nat.reduceLeDiff, reduceIte, Int.reduceLT, Int.reduceLE, Int.reduceEq, Int.reduceToNat, Int.reduceBEq, uRows_len]
    by_cases c : k < a.length
    · have c1 : (k : Int) < b.length := by omega
      have cb : k < b.length := by omega
      have c0 : (0 : Int) ≤ k := by omega
      have e1 : IntKind.i64.wrap ((k : Int) + 1) = ((k + 1 : Nat) : Int) := wrap64 (by omega) (by omega)
      have ga : a.getD k z3 = a[k] := by simp [List.getD_eq_getElem?_getD, c]
      have gb : b.getD k z3 = b[k] := by simp [List.getD_eq_getElem?_getD, cb]
      simp only [walk, Nat.reduceLT, Nat.reduceBEq, Nat.reduceAdd, Nat.reduceLeDiff, reduceIte, Int.reduceLT, Int.reduceLE, Int.reduceEq, Int.reduceToNat, Int.reduceBEq, c1, hl', uRows_get c, uRows_get cb, uRows_len, eq_r, ga, gb]
      by_cases he : a[k] = b[k]
      · simp only [walk, Nat.reduceLT, Nat.reduceBEq, Nat.reduceAdd, Nat.reduceLeDiff, reduceIte, Int.reduceLT, Int.reduceLE, Int.reduceEq, Int.reduceToNat, Int.reduceBEq, he, e1]
        refine ih (k + 1) ⟨by omega, ?_⟩ (by omega)
        rw [List.take_add_one, List.take_add_one, hJ, List.getElem?_eq_getElem c, List.getElem?_eq_getElem cb, he]
      · have hf : ¬ a = b := by
          rintro rfl
          exact he rfl
        simp only [walk, Nat.reduceLT, Nat.reduceBEq, Nat.reduceAdd, Nat.reduceLeDiff, reduceIte, Int.reduceLT, Int.reduceLE, Int.reduceEq, Int.reduceToNat, Int.reduceBEq, he, hf]
    · have c1 : ¬ (k : Int) < b.length := by omega
      rw [List.take_of_length_le (by omega), List.take_of_length_le (by omega)] at hJ
      subst hJ
      simp only [walk, Nat.reduceLT, Nat.reduceBEq, Nat.reduceAdd, Nat.reduceLeDiff, reduceIte, Int.reduceLT, Int.reduceLE, Int.reduceEq, Int.reduceToNat, Int.reduceBEq, c1]
  · have hl' : ¬ (a.length : Int) = b.length := by omega
    have hf : ¬ a = b := by
      rintro rfl
      exact hl rfl
    simp only [walk, Nat.reduceLT, Nat.reduceBEq, Nat.reduceAdd, Nat.reduceLeDiff, reduceIte, Int.reduceLT, Int.reduceLE, Int.reduceEq, Int.reduceToNat, Int.reduceBEq, hl', hf]
end
end Go.AR

/-! Which operations count: with another transaction; what is asked. -/
namespace Go.AR
open Go
section
variable {C : CallRel} {F : Nat → FuncId}
def S_tWith (R : Rel) : Prop := ∀ (l : List Tx) (x : Tx), l.length ≤ 1000000 → sortT l → R [.v (tsP l), .v (tP x)] (.val (tsP (if x.ops.length = 0 then l else putT l x))) []
theorem g_live_With (h : S_tPut (C (F n_txn_Put))) : S_tWith ((c_live_With F).gives C) := by
  intro l x hl hs
  refine gives_of rfl ?_
  unfold c_live_With
  simp only [walk, Nat.reduceLT, Nat.reduceBEq, Nat.reduceAdd, Nat.reduceLeDiff, reduceIte, Int.reduceLT, Int.reduceLE, Int.reduceEq, Int.reduceToNat, Int.reduceBEq, oRows_len, ieq]
  by_cases h0 : x.ops.length = 0
  · have h0' : (x.ops.length : Int) = 0 := by omega
    simp only [walk, Nat.reduceLT, Nat.reduceBEq, Nat.reduceAdd, Nat.reduceLeDiff, reduceIte, Int.reduceLT, Int.reduceLE, Int.reduceEq, Int.reduceToNat, Int.reduceBEq, h0, h0']
  · have h0' : ¬ (x.ops.length : Int) = 0 := by omega
    simp only [walk, Nat.reduceLT, Nat.reduceBEq, Nat.reduceAdd, Nat.reduceLeDiff, reduceIte, Int.reduceLT, Int.reduceLE, Int.reduceEq, Int.reduceToNat, Int.reduceBEq, h0, h0']
    refine callWp_of (h l x hl hs) ?_
    simp only [walk, Nat.reduceLT, Nat.reduceBEq, Nat.reduceAdd, Nat.reduceLeDiff, reduceIte, Int.reduceLT, Int.reduceLE, Int.reduceEq, Int.reduceToNat, Int.reduceBEq]
def S_lGood (R : Rel) : Prop := ∀ (l : List Tx) (u : List Ud), R [.v (tsP l), .v (usP u)] (.val (.bool (goodT 20 l && (decide (u.length ≤ 100) && rightU u)))) []
theorem g_plaw13_Good (h1 : S_tGood (C (F n_pref12_Good))) (h2 : S_rGood (C (F n_pref08_Good))) : S_lGood ((c_plaw13_Good F).gives C) := by
  intro l u
  refine gives_of rfl ?_
  unfold c_plaw13_Good
  simp only [walk, Nat.reduceLT, Nat.reduceBEq, Nat.reduceAdd, Nat.reduceLeDiff, reduceIte, Int.reduceLT, Int.reduceLE, Int.reduceEq, Int.reduceToNat, Int.reduceBEq]
  refine callWp_of (h1 l 20 (by omega)) ?_
  cases hg : goodT 20 l with
  | false => simp only [walk, Nat.reduceLT, Nat.reduceBEq, Nat.reduceAdd, Nat.reduceLeDiff, reduceIte, Int.reduceLT, Int.reduceLE, Int.reduceEq, Int.reduceToNat, Int.reduceBEq]
  | true =>
    simp only [walk, Nat.reduceLT, Nat.reduceBEq, Nat.reduceAdd, Nat.reduceLeDiff, reduceIte, Int.reduceLT, Int.reduceLE, Int.reduceEq, Int.reduceToNat, Int.reduceBEq]
    refine callWp_of (h2 u) ?_
    simp only [walk, Nat.reduceLT, Nat.reduceBEq, Nat.reduceAdd, Nat.reduceLeDiff, reduceIte, Int.reduceLT, Int.reduceLE, Int.reduceEq, Int.reduceToNat, Int.reduceBEq]
end
end Go.AR

/-! Which operations count: the chapter's example. -/
namespace Go.AR
open Go
def putX (n v : Int) (rs : List Ud) : Tx := ⟨(0, n), 0, n, false, [⟨1, [[97]], (1, v, []), 0, rs⟩]⟩
section
variable {C : CallRel} {F : Nat → FuncId}
def S_put13 (R : Rel) : Prop := ∀ (n v : Int) (rs : List Ud), R [.v (.int .i64 n), .v (.int .i64 v), .v (usP rs)] (.val (tP (putX n v rs))) []
theorem g_plaw13_put : S_put13 ((c_plaw13_put F).gives C) := by
  intro n v rs
  refine gives_of rfl ?_
  unfold c_plaw13_put putX
  simp only [walk, Nat.reduceLT, Nat.reduceBEq, Nat.reduceAdd, Nat.reduceLeDiff, reduceIte, Int.reduceLT, Int.reduceLE, Int.reduceEq, Int.reduceToNat, Int.reduceBEq, layT]
  all_goals rfl
def exL : List Tx := [putX 1 1 [], putX 2 2 [((0, 1), 0)]]
def exI (n v : Int) (rs : List Ud) : It := ⟨((0, n), 0), ⟨1, [[97]], (1, v, []), 0, rs⟩, n⟩
theorem ex1 : allL exL [] = [exI 2 2 [((0, 1), 0)]] := by decide
theorem ex2 : allL exL [((0, 2), 1)] = [exI 1 1 []] := by decide
theorem ex_ok : lOk exL := ⟨by decide, fun t ht => by
  have hp : pOk [[97]] := ⟨by simp, by simp⟩
  rcases List.mem_cons.1 ht with rfl | ht
  · exact ⟨⟨by decide, fun o ho => by rw [List.mem_singleton.1 ho]; exact ⟨hp, by simp, by simp⟩⟩, by decide⟩
  · rw [List.mem_singleton.1 ht]
    exact ⟨⟨by decide, fun o ho => by rw [List.mem_singleton.1 ho]; exact ⟨hp, by simp, by simp⟩⟩, by decide⟩⟩
theorem g_plaw13_awake (h0 : S_put13 (C (F n_plaw13_put))) (h1 : S_allL (C (F n_live_All))) : S_yes ((c_plaw13_awake F).gives C) := by
  refine gives_of rfl ?_
  unfold c_plaw13_awake
  simp only [walk, Nat.reduceLT, Nat.reduceBEq, Nat.reduceAdd, Nat.reduceLeDiff, reduceIte, Int.reduceLT, Int.reduceLE, Int.reduceEq, Int.reduceToNat, Int.reduceBEq]
  refine callWp_of (h0 1 1 []) ?_
  simp only [walk, Nat.reduceLT, Nat.reduceBEq, Nat.reduceAdd, Nat.reduceLeDiff, reduceIte, Int.reduceLT, Int.reduceLE, Int.reduceEq, Int.reduceToNat, Int.reduceBEq]
  refine callWp_of (h0 2 2 [((0, 1), 0)]) ?_
  simp only [walk, Nat.reduceLT, Nat.reduceBEq, Nat.reduceAdd, Nat.reduceLeDiff, reduceIte, Int.reduceLT, Int.reduceLE, Int.reduceEq, Int.reduceToNat, Int.reduceBEq]
  have s1 : sortU [] := by intro i j _ hj; simp at hj
  have s2 : sortU [((0, 2), 1)] := by intro i j h hj; simp at hj; omega
  refine callWp_of (h1 exL [] ex_ok s1 (by simp)) ?_
  simp only [walk, Nat.reduceLT, Nat.reduceBEq, Nat.reduceAdd, Nat.reduceLeDiff, reduceIte, Int.reduceLT, Int.reduceLE, Int.reduceEq, Int.reduceToNat, Int.reduceBEq, ex1]
  refine callWp_of (h1 exL [((0, 2), 1)] ex_ok s2 (by unfold bigL; simp)) ?_
  simp only [walk, Nat.reduceLT, Nat.reduceBEq, Nat.reduceAdd, Nat.reduceLeDiff, reduceIte, Int.reduceLT, Int.reduceLE, Int.reduceEq, Int.reduceToNat, Int.reduceBEq, ex2, iRs_len, List.length_cons, List.length_nil]
  have g1 : (iRs [exI 2 2 [((0, 1), 0)]])[0]? = some [.int .i64 0, .int .i64 2, .int .i64 0, .int .i64 1, ptP [[97]], .int .i64 1, .int .i64 2, .str [], .int .i64 0, usP [((0, 1), 0)], .int .i64 2] := rfl
  have g2 : (iRs [exI 1 1 []])[0]? = some [.int .i64 0, .int .i64 1, .int .i64 0, .int .i64 1, ptP [[97]], .int .i64 1, .int .i64 1, .str [], .int .i64 0, usP [], .int .i64 1] := rfl
  simp only [walk, Nat.reduceLT, Nat.reduceBEq, Nat.reduceAdd, Nat.reduceLeDiff, reduceIte, Int.reduceLT, Int.reduceLE, Int.reduceEq, Int.reduceToNat, Int.reduceBEq, g1, g2, iRs_len]
end
end Go.AR
