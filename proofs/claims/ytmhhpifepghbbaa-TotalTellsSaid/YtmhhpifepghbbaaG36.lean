import Derived.Test.YtmhhpifepghbbaaG35
import Derived.Test.YtmhhpifepghbbaaG34
set_option linter.all false
/-! Counters. -/
namespace Go.AR
open Go
def upA (a : Int) : Int := if a > 0 then a else 0
def dnA (a : Int) : Int := if a < 0 then -a else 0
def upL : List It → Int
  | [] => 0
  | i :: l => upA i.o.am + upL l
def dnL : List It → Int
  | [] => 0
  | i :: l => dnA i.o.am + dnL l
def smallL (l : List It) : Prop := l.length ≤ 1000000 ∧ ∀ i ∈ l, -2147483647 ≤ i.o.am ∧ i.o.am ≤ 2147483647
theorem upL_app (b : List It) : ∀ a : List It, upL (a ++ b) = upL a + upL b
  | [] => by simp [upL]
  | i :: a => by rw [List.cons_append, upL, upL, upL_app b a]; omega
theorem dnL_app (b : List It) : ∀ a : List It, dnL (a ++ b) = dnL a + dnL b
  | [] => by simp [dnL]
  | i :: a => by rw [List.cons_append, dnL, dnL, dnL_app b a]; omega
theorem upL_take {l : List It} {k : Nat} (h : k < l.length) : upL (l.take (k + 1)) = upL (l.take k) + upA l[k].o.am := by
  rw [List.take_add_one, List.getElem?_eq_getElem h, Option.toList_some, upL_app]; simp [upL]
theorem dnL_take {l : List It} {k : Nat} (h : k < l.length) : dnL (l.take (k + 1)) = dnL (l.take k) + dnA l[k].o.am := by
  rw [List.take_add_one, List.getElem?_eq_getElem h, Option.toList_some, dnL_app]; simp [dnL]
theorem up_bound : ∀ (l : List It), (∀ i ∈ l, -2147483647 ≤ i.o.am ∧ i.o.am ≤ 2147483647) → 0 ≤ upL l ∧ upL l ≤ 2147483647 * l.length ∧ 0 ≤ dnL l ∧ dnL l ≤ 2147483647 * l.length
  | [], _ => by simp [upL, dnL]
  | i :: l, h => by
    have := up_bound l (fun i hi => h i (by simp [hi]))
    have h0 := h i (by simp)
    rw [upL, dnL, List.length_cons]
    unfold upA dnA
    split <;> split <;> omega
theorem take_bound {l : List It} (h : smallL l) (k : Nat) : 0 ≤ upL (l.take k) ∧ upL (l.take k) ≤ 2147483647000000 ∧ 0 ≤ dnL (l.take k) ∧ dnL (l.take k) ≤ 2147483647000000 := by
  have := up_bound (l.take k) (fun i hi => h.2 i (List.mem_of_mem_take hi))
  have hl : (l.take k).length ≤ l.length := by rw [List.length_take]; omega
  have := h.1
  omega
/-! What counts is small. -/
theorem itemsO_mem (gone : Ud → Bool) (d : Dt) (tm : Int) : ∀ (os : List Ov) (i : Nat), ∀ x ∈ itemsO gone d tm i os, x.o ∈ os
  | [], i, x, h => by simp [itemsO] at h
  | o :: os, i, x, h => by
    rw [itemsO] at h
    rcases List.mem_append.1 h with h | h
    · split at h
      · rw [List.mem_singleton.1 h]; simp
      · cases h
    · exact List.mem_cons_of_mem _ (itemsO_mem gone d tm os (i + 1) x h)
theorem ocheck_am {o : Ov} (h : oCheck o = 0) (hk : o.k = 3) : -2147483647 ≤ o.am ∧ o.am ≤ 2147483647 := by
  unfold oCheck at h
  by_cases c1 : o.k < 1 ∨ o.k > 5
  · rw [if_pos c1] at h; cases h
  rw [if_neg c1] at h
  by_cases c2 : pCheck o.p ≠ 0
  · rw [if_pos c2] at h; exact absurd h c2
  rw [if_neg c2] at h
  by_cases c3 : (o.k = 3 ∨ o.k = 5) ∧ o.v ≠ z0
  · rw [if_pos c3] at h; cases h
  rw [if_neg c3] at h
  by_cases c4 : (o.k ≠ 3 ∧ o.k ≠ 5) ∧ vOk o.v = false
  · rw [if_pos c4] at h; cases h
  rw [if_neg c4] at h
  by_cases c5 : (o.k ≠ 3 ∧ o.am ≠ 0) ∨ (o.k = 3 ∧ (o.am = 0 ∨ o.am > 2147483647 ∨ o.am < -2147483647))
  · rw [if_pos c5] at h; cases h
  omega
theorem good_small {l : List Tx} {u : List Ud} (h : goodT 20 l = true) (p : List (List UInt8)) : smallL (atL (allL l u) p 3) := by
  have hok := filter_ok (fun i => decide (oLeaf i.o.k = 3) && decide (i.o.p = p)) (allL_ok (u := u) (good_ok h).1)
  refine ⟨hok.1, fun i hi => ?_⟩
  obtain ⟨hi1, hi2⟩ := List.mem_filter.1 hi
  simp only [Bool.and_eq_true, decide_eq_true_eq] at hi2
  have hk : i.o.k = 3 := by
    have := hi2.1
    unfold oLeaf at this
    split at this
    · omega
    · split at this
      · omega
      · split at this
        · assumption
        · omega
  unfold allL at hi1
  obtain ⟨t, ht, hx⟩ := List.mem_flatMap.1 hi1
  unfold itemsT at hx
  split at hx
  · have ho := itemsO_mem _ _ _ _ _ _ hx
    unfold goodT at h
    simp only [Bool.and_eq_true, decide_eq_true_eq, List.all_eq_true] at h
    obtain ⟨_, _, h3⟩ := h
    rcases (tcheck_zero (h3 t ht).2).2.2.2.2.2.2.2 _ ho with hc | ⟨_, hc⟩
    · exact ocheck_am hc hk
    · unfold oGone at hc
      rw [decide_eq_true_eq] at hc
      rw [hc] at hk; simp [zop] at hk
  · cases hx
section
variable {C : CallRel} {F : Nat → FuncId}
def S_sum16 (R : Rel) : Prop := ∀ (l : List It) (p : List (List UInt8)), isOk l → pOk p → smallL (atL l p 3) → R [.v (isP l), .v (ptP p)] (.val (.int .i64 (upL (atL l p 3) - dnL (atL l p 3)))) []
def S_parts16 (R : Rel) : Prop := ∀ (l : List It) (p : List (List UInt8)), isOk l → pOk p → smallL (atL l p 3) → R [.v (isP l), .v (ptP p)] (.val (.tup [.int .i64 (upL (atL l p 3)), .int .i64 (dnL (atL l p 3))])) []
def S_rparts16 (R : Rel) : Prop := ∀ (l : List It) (p : List (List UInt8)), isOk l → pOk p → smallL (atL l p 3) → R [.v (isP l), .v (ptP p)] (.val (.tup [.int .i64 (upL (atL l p 3)), .int .i64 (dnL (atL l p 3)), .int .i64 (atL l p 3).length])) []
def S_count16 (R : Rel) : Prop := ∀ (l : List It) (p : List (List UInt8)), isOk l → pOk p → R [.v (isP l), .v (ptP p)] (.val (.int .i64 (atL l p 3).length)) []
theorem g_total_Sum (h : S_iAt (C (F n_live_At))) : S_sum16 ((c_total_Sum F).gives C) := by
  intro l p hl hp hs
  refine gives_of rfl ?_
  unfold c_total_Sum
  simp only [walk, Nat.reduceLT, Nat.reduceBEq, Nat.reduceAdd, Nat.reduceLeDiff, reduceIte, Int.reduceLT, Int.reduceLE, Int.reduceEq, Int.reduceToNat, Int.reduceBEq]
  refine callWp_of (h l p 3 hl hp) ?_
  generalize atL l p 3 = A at *
  have hA := hs.1
  simp only [walk, Nat.reduceLT, Nat.reduceBEq, Nat.reduceAdd, Nat.reduceLeDiff, reduceIte, Int.reduceLT, Int.reduceLE, Int.reduceEq, Int.reduceToNat, Int.reduceBEq, iRs_len]
  refine awp_loop_ind (X := Nat) (fun k => ⟨[(0, .val (isP l)), (1, .val (ptP p)), (4, .val (.int .i64 0)), (5, .val (.int .i64 (upL (A.take k) - dnL (A.take k)))), (10, .val (isP A)), (11, .val (.int .i64 A.length)), (12, .val (.int .i64 k))], []⟩)
    (fun k => k ≤ A.length) (fun k => A.length - k) 0 (by omega) rfl ?_
  rintro R k hk ih
  simp only [walk, Nat.reduceLT, Nat.reduceBEq, Nat.reduceAdd, Nat.reduceLeDiff, reduceIte, Int.reduceLT, Int.reduceLE, Int.reduceEq, Int.reduceToNat, Int.reduceBEq]
  have tb := take_bound hs k
  by_cases c : k < A.length
  · have c1 : (k : Int) < A.length := by omega
    have c0 : (0 : Int) ≤ k := by omega
    have e1 : IntKind.i64.wrap ((k : Int) + 1) = ((k + 1 : Nat) : Int) := wrap64 (by omega) (by omega)
    have hm := hs.2 _ (List.getElem_mem c)
    have next := ih (k + 1) (by omega) (by omega)
    have hstep : upL (A.take (k + 1)) - dnL (A.take (k + 1)) = upL (A.take k) - dnL (A.take k) + A[k].o.am := by
      rw [upL_take c, dnL_take c]; unfold upA dnA; split <;> split <;> omega
    rw [hstep] at next
    have hget := iRs_get c
    clear hstep ih
    generalize A[k] = i at *
    have e2 : IntKind.i64.wrap (upL (A.take k) - dnL (A.take k) + i.o.am) = upL (A.take k) - dnL (A.take k) + i.o.am := wrap64 (by omega) (by omega)
    simp only [walk, Nat.reduceLT, Nat.reduceBEq, Nat.reduceAdd, Nat.reduceLeDiff, reduceIte, Int.reduceLT, Int.reduceLE, Int.reduceEq, Int.reduceToNat, Int.reduceBEq, c1, hget, e1, e2]
    exact next
  · have c1 : ¬ (k : Int) < A.length := by omega
    rw [List.take_of_length_le (by omega)]
    simp only [walk, Nat.reduceLT, Nat.reduceBEq, Nat.reduceAdd, Nat.reduceLeDiff, reduceIte, Int.reduceLT, Int.reduceLE, Int.reduceEq, Int.reduceToNat, Int.reduceBEq, c1]
theorem g_total_Parts (h : S_iAt (C (F n_live_At))) : S_parts16 ((c_total_Parts F).gives C) := by
  intro l p hl hp hs
  refine gives_of rfl ?_
  unfold c_total_Parts
  simp only [walk, Nat.reduceLT, Nat.reduceBEq, Nat.reduceAdd, Nat.reduceLeDiff, reduceIte, Int.reduceLT, Int.reduceLE, Int.reduceEq, Int.reduceToNat, Int.reduceBEq]
  refine callWp_of (h l p 3 hl hp) ?_
  generalize atL l p 3 = A at *
  have hA := hs.1
  simp only [walk, Nat.reduceLT, Nat.reduceBEq, Nat.reduceAdd, Nat.reduceLeDiff, reduceIte, Int.reduceLT, Int.reduceLE, Int.reduceEq, Int.reduceToNat, Int.reduceBEq, iRs_len]
  refine awp_loop_ind (X := Nat) (fun k => ⟨[(0, .val (isP l)), (1, .val (ptP p)), (4, .val (.int .i64 0)), (5, .val (.int .i64 0)), (6, .val (.int .i64 (upL (A.take k)))), (7, .val (.int .i64 (dnL (A.take k)))), (12, .val (isP A)), (13, .val (.int .i64 A.length)), (14, .val (.int .i64 k))], []⟩)
    (fun k => k ≤ A.length) (fun k => A.length - k) 0 (by omega) rfl ?_
  rintro R k hk ih
  simp only [walk, Nat.reduceLT, Nat.reduceBEq, Nat.reduceAdd, Nat.reduceLeDiff, reduceIte, Int.reduceLT, Int.reduceLE, Int.reduceEq, Int.reduceToNat, Int.reduceBEq]
  have tb := take_bound hs k
  by_cases c : k < A.length
  · have c1 : (k : Int) < A.length := by omega
    have c0 : (0 : Int) ≤ k := by omega
    have e1 : IntKind.i64.wrap ((k : Int) + 1) = ((k + 1 : Nat) : Int) := wrap64 (by omega) (by omega)
    have hm := hs.2 _ (List.getElem_mem c)
    have next := ih (k + 1) (by omega) (by omega)
    rw [upL_take c, dnL_take c] at next
    have hget := iRs_get c
    clear ih
    generalize A[k] = i at *
    by_cases q : i.o.am > 0
    · have e2 : IntKind.i64.wrap (upL (A.take k) + i.o.am) = upL (A.take k) + i.o.am := wrap64 (by omega) (by omega)
      have q2 : ¬ i.o.am < 0 := by omega
      simp only [upA, dnA, q, q2, if_true, if_false, Int.add_zero] at next
      simp only [walk, Nat.reduceLT, Nat.reduceBEq, Nat.reduceAdd, Nat.reduceLeDiff, reduceIte, Int.reduceLT, Int.reduceLE, Int.reduceEq, Int.reduceToNat, Int.reduceBEq, c1, hget, q, e1, e2]
      exact next
    · have e2 : IntKind.i64.wrap (dnL (A.take k) - i.o.am) = dnL (A.take k) + dnA i.o.am := by
        rw [wrap64 (by omega) (by omega)]; unfold dnA; split <;> omega
      simp only [upA, q, if_false, Int.add_zero] at next
      simp only [walk, Nat.reduceLT, Nat.reduceBEq, Nat.reduceAdd, Nat.reduceLeDiff, reduceIte, Int.reduceLT, Int.reduceLE, Int.reduceEq, Int.reduceToNat, Int.reduceBEq, c1, hget, q, e1, e2]
      exact next
  · have c1 : ¬ (k : Int) < A.length := by omega
    rw [List.take_of_length_le (by omega)]
    simp only [walk, Nat.reduceLT, Nat.reduceBEq, Nat.reduceAdd, Nat.reduceLeDiff, reduceIte, Int.reduceLT, Int.reduceLE, Int.reduceEq, Int.reduceToNat, Int.reduceBEq, c1]
theorem g_total_Count (h : S_iAt (C (F n_live_At))) : S_count16 ((c_total_Count F).gives C) := by
  intro l p hl hp
  refine gives_of rfl ?_
  unfold c_total_Count
  simp only [walk, Nat.reduceLT, Nat.reduceBEq, Nat.reduceAdd, Nat.reduceLeDiff, reduceIte, Int.reduceLT, Int.reduceLE, Int.reduceEq, Int.reduceToNat, Int.reduceBEq]
  refine callWp_of (h l p 3 hl hp) ?_
  simp only [walk, Nat.reduceLT, Nat.reduceBEq, Nat.reduceAdd, Nat.reduceLeDiff, reduceIte, Int.reduceLT, Int.reduceLE, Int.reduceEq, Int.reduceToNat, Int.reduceBEq, iRs_len]
theorem g_pref16_Parts (h : S_iAt (C (F n_pref13_At))) : S_rparts16 ((c_pref16_Parts F).gives C) := by
  intro l p hl hp hs
  refine gives_of rfl ?_
  unfold c_pref16_Parts
  simp only [walk, Nat.reduceLT, Nat.reduceBEq, Nat.reduceAdd, Nat.reduceLeDiff, reduceIte, Int.reduceLT, Int.reduceLE, Int.reduceEq, Int.reduceToNat, Int.reduceBEq]
  refine callWp_of (h l p 3 hl hp) ?_
  generalize atL l p 3 = A at *
  have hA := hs.1
  simp only [walk, Nat.reduceLT, Nat.reduceBEq, Nat.reduceAdd, Nat.reduceLeDiff, reduceIte, Int.reduceLT, Int.reduceLE, Int.reduceEq, Int.reduceToNat, Int.reduceBEq, iRs_len]
  refine awp_loop_ind (X := Nat) (fun k => ⟨[(0, .val (isP l)), (1, .val (ptP p)), (4, .val (.int .i64 0)), (5, .val (.int .i64 0)), (6, .val (.int .i64 0)), (7, .val (.int .i64 (upL (A.take k)))), (8, .val (.int .i64 (dnL (A.take k)))), (9, .val (isP A)), (10, .val (.int .i64 k))], []⟩)
    (fun k => k ≤ A.length) (fun k => A.length - k) 0 (by omega) rfl ?_
  rintro R k hk ih
  simp only [walk, Nat.reduceLT, Nat.reduceBEq, Nat.reduceAdd, Nat.reduceLeDiff, reduceIte, Int.reduceLT, Int.reduceLE, Int.reduceEq, Int.reduceToNat, Int.reduceBEq, iRs_len]
  have tb := take_bound hs k
  by_cases c : k < A.length
  · have c1 : (k : Int) < A.length := by omega
    have c0 : (0 : Int) ≤ k := by omega
    have e1 : IntKind.i64.wrap ((k : Int) + 1) = ((k + 1 : Nat) : Int) := wrap64 (by omega) (by omega)
    have hm := hs.2 _ (List.getElem_mem c)
    have next := ih (k + 1) (by omega) (by omega)
    rw [upL_take c, dnL_take c] at next
    have hget := iRs_get c
    clear ih
    generalize A[k] = i at *
    by_cases q : i.o.am > 0
    · have e2 : IntKind.i64.wrap (upL (A.take k) + i.o.am) = upL (A.take k) + i.o.am := wrap64 (by omega) (by omega)
      have q2 : ¬ i.o.am < 0 := by omega
      simp only [upA, dnA, q, q2, if_true, if_false, Int.add_zero] at next
      simp only [walk, Nat.reduceLT, Nat.reduceBEq, Nat.reduceAdd, Nat.reduceLeDiff, reduceIte, Int.reduceLT, Int.reduceLE, Int.reduceEq, Int.reduceToNat, Int.reduceBEq, c1, hget, q, q2, e1, e2]
      exact next
    · by_cases q2 : i.o.am < 0
      · have e2 : IntKind.i64.wrap (dnL (A.take k) - i.o.am) = dnL (A.take k) + -i.o.am := by
          rw [wrap64 (by omega) (by omega)]; omega
        simp only [upA, dnA, q, q2, if_true, if_false, Int.add_zero] at next
        simp only [walk, Nat.reduceLT, Nat.reduceBEq, Nat.reduceAdd, Nat.reduceLeDiff, reduceIte, Int.reduceLT, Int.reduceLE, Int.reduceEq, Int.reduceToNat, Int.reduceBEq, c1, hget, q, q2, e1, e2]
        exact next
      · simp only [upA, dnA, q, q2, if_false, Int.add_zero] at next
        simp only [walk, Nat.reduceLT, Nat.reduceBEq, Nat.reduceAdd, Nat.reduceLeDiff, reduceIte, Int.reduceLT, Int.reduceLE, Int.reduceEq, Int.reduceToNat, Int.reduceBEq, c1, hget, q, q2, e1]
        exact next
  · have c1 : ¬ (k : Int) < A.length := by omega
    rw [List.take_of_length_le (by omega)]
    simp only [walk, Nat.reduceLT, Nat.reduceBEq, Nat.reduceAdd, Nat.reduceLeDiff, reduceIte, Int.reduceLT, Int.reduceLE, Int.reduceEq, Int.reduceToNat, Int.reduceBEq, c1, iRs_len]
end
end Go.AR

/-! Counters: the law. -/
namespace Go.AR
open Go
def incX (d : Dt) (p : List (List UInt8)) (n : Int) : Tx := ⟨d, 0, 1, false, [⟨3, p, z0, n, []⟩]⟩
section
variable {C : CallRel} {F : Nat → FuncId}
def S_inc16 (R : Rel) : Prop := ∀ (d : Dt) (p : List (List UInt8)) (n : Int), R [.v (dP d), .v (ptP p), .v (.int .i64 n)] (.val (tP (incX d p n))) []
theorem g_plaw16_inc : S_inc16 ((c_plaw16_inc F).gives C) := by
  intro d p n
  refine gives_of rfl ?_
  unfold c_plaw16_inc incX
  simp only [walk, Nat.reduceLT, Nat.reduceBEq, Nat.reduceAdd, Nat.reduceLeDiff, reduceIte, Int.reduceLT, Int.reduceLE, Int.reduceEq, Int.reduceToNat, Int.reduceBEq, layT]
  all_goals rfl
def ex16 : List Tx := [incX (0, 1) [[97]] 5, incX (1, 1) [[97]] (-2)]
def exA : List It := [⟨((0, 1), 0), ⟨3, [[97]], z0, 5, []⟩, 1⟩, ⟨((1, 1), 0), ⟨3, [[97]], z0, -2, []⟩, 1⟩]
theorem ex16_all : allL ex16 [] = exA := by decide
theorem ex16_at : atL exA [[97]] 3 = exA := by decide
theorem ex16_ok : lOk ex16 := ⟨by decide, fun t ht => by
  have hp : pOk [[97]] := ⟨by simp, by simp⟩
  rcases List.mem_cons.1 ht with rfl | ht
  · exact ⟨⟨by decide, fun o ho => by rw [List.mem_singleton.1 ho]; exact ⟨hp, by simp [z0], by simp⟩⟩, by decide⟩
  · rw [List.mem_singleton.1 ht]
    exact ⟨⟨by decide, fun o ho => by rw [List.mem_singleton.1 ho]; exact ⟨hp, by simp [z0], by simp⟩⟩, by decide⟩⟩
theorem ex16_small : smallL exA := ⟨by decide, fun i hi => by
  rcases List.mem_cons.1 hi with rfl | hi
  · decide
  · rw [List.mem_singleton.1 hi]; decide⟩
theorem g_plaw16_awake (h0 : S_inc16 (C (F n_plaw16_inc))) (h1 : S_allL (C (F n_live_All))) (h2 : S_sum16 (C (F n_total_Sum))) (h3 : S_count16 (C (F n_total_Count))) : S_yes ((c_plaw16_awake F).gives C) := by
  refine gives_of rfl ?_
  unfold c_plaw16_awake
  have hp : pOk [[97]] := ⟨by simp, by simp⟩
  have s1 : sortU [] := by intro i j _ hj; simp at hj
  have hok : isOk exA := by rw [← ex16_all]; exact allL_ok ex16_ok
  simp only [walk, Nat.reduceLT, Nat.reduceBEq, Nat.reduceAdd, Nat.reduceLeDiff, reduceIte, Int.reduceLT, Int.reduceLE, Int.reduceEq, Int.reduceToNat, Int.reduceBEq]
  refine callWp_of (h0 (0, 1) [[97]] 5) ?_
  simp only [walk, Nat.reduceLT, Nat.reduceBEq, Nat.reduceAdd, Nat.reduceLeDiff, reduceIte, Int.reduceLT, Int.reduceLE, Int.reduceEq, Int.reduceToNat, Int.reduceBEq]
  refine callWp_of (h0 (1, 1) [[97]] (-2)) ?_
  simp only [walk, Nat.reduceLT, Nat.reduceBEq, Nat.reduceAdd, Nat.reduceLeDiff, reduceIte, Int.reduceLT, Int.reduceLE, Int.reduceEq, Int.reduceToNat, Int.reduceBEq]
  refine callWp_of (h1 ex16 [] ex16_ok s1 (by simp)) ?_
  rw [ex16_all]
  simp only [walk, Nat.reduceLT, Nat.reduceBEq, Nat.reduceAdd, Nat.reduceLeDiff, reduceIte, Int.reduceLT, Int.reduceLE, Int.reduceEq, Int.reduceToNat, Int.reduceBEq]
  refine callWp_of (h2 exA [[97]] hok hp (by rw [ex16_at]; exact ex16_small)) ?_
  rw [ex16_at]
  have e1 : upL exA - dnL exA = 3 := by decide
  have e2 : exA.length = 2 := by decide
  simp only [walk, Nat.reduceLT, Nat.reduceBEq, Nat.reduceAdd, Nat.reduceLeDiff, reduceIte, Int.reduceLT, Int.reduceLE, Int.reduceEq, Int.reduceToNat, Int.reduceBEq, e1]
  refine callWp_of (h3 exA [[97]] hok hp) ?_
  rw [ex16_at, e2]
  simp only [walk, Nat.reduceLT, Nat.reduceBEq, Nat.reduceAdd, Nat.reduceLeDiff, reduceIte, Int.reduceLT, Int.reduceLE, Int.reduceEq, Int.reduceToNat, Int.reduceBEq]
  all_goals rfl
def S_total (R : Rel) : Prop := ∀ (l : List Tx) (u : List Ud) (p : List (List UInt8)), R [.v (tsP l), .v (usP u), .v (ptP p)] (.val (.bool true)) []
theorem g_TotalTells (hA : S_yes (C (F n_plaw16_awake))) (h0 : S_lGood (C (F n_plaw13_Good))) (h1 : S_pShort (C (F n_pref10_Short))) (h2 : S_allL (C (F n_live_All))) (h3 : S_rAllL (C (F n_pref13_All))) (h4 : S_rparts16 (C (F n_pref16_Parts))) (h5 : S_parts16 (C (F n_total_Parts))) (h6 : S_sum16 (C (F n_total_Sum))) (h7 : S_count16 (C (F n_total_Count))) : S_total ((c_plaw16_TotalTells F).gives C) := by
  intro l u p
  refine gives_of rfl ?_
  unfold c_plaw16_TotalTells
  simp only [walk, Nat.reduceLT, Nat.reduceBEq, Nat.reduceAdd, Nat.reduceLeDiff, reduceIte, Int.reduceLT, Int.reduceLE, Int.reduceEq, Int.reduceToNat, Int.reduceBEq]
  refine callWp_of (h0 l u) ?_
  cases hg : (goodT 20 l && (decide (u.length ≤ 100) && rightU u)) with
  | false =>
    simp only [walk, Nat.reduceLT, Nat.reduceBEq, Nat.reduceAdd, Nat.reduceLeDiff, reduceIte, Int.reduceLT, Int.reduceLE, Int.reduceEq, Int.reduceToNat, Int.reduceBEq]
    refine callWp_of hA ?_
    simp only [walk, Nat.reduceLT, Nat.reduceBEq, Nat.reduceAdd, Nat.reduceLeDiff, reduceIte, Int.reduceLT, Int.reduceLE, Int.reduceEq, Int.reduceToNat, Int.reduceBEq]
  | true =>
  rw [Bool.and_eq_true, Bool.and_eq_true, decide_eq_true_eq] at hg
  obtain ⟨hgl, hul, hur⟩ := hg
  obtain ⟨hl, _, _⟩ := good_ok hgl
  have hsm := good_small (u := u) hgl p
  have hs := sort_of_right hur
  have hu : u.length ≤ bigL := by unfold bigL; omega
  simp only [walk, Nat.reduceLT, Nat.reduceBEq, Nat.reduceAdd, Nat.reduceLeDiff, reduceIte, Int.reduceLT, Int.reduceLE, Int.reduceEq, Int.reduceToNat, Int.reduceBEq]
  refine callWp_of (h1 p) ?_
  cases hp : pShort p with
  | false =>
    simp only [walk, Nat.reduceLT, Nat.reduceBEq, Nat.reduceAdd, Nat.reduceLeDiff, reduceIte, Int.reduceLT, Int.reduceLE, Int.reduceEq, Int.reduceToNat, Int.reduceBEq]
    refine callWp_of hA ?_
    simp only [walk, Nat.reduceLT, Nat.reduceBEq, Nat.reduceAdd, Nat.reduceLeDiff, reduceIte, Int.reduceLT, Int.reduceLE, Int.reduceEq, Int.reduceToNat, Int.reduceBEq]
  | true =>
  have hpo := short_ok hp
  have hok := allL_ok (u := u) hl
  simp only [walk, Nat.reduceLT, Nat.reduceBEq, Nat.reduceAdd, Nat.reduceLeDiff, reduceIte, Int.reduceLT, Int.reduceLE, Int.reduceEq, Int.reduceToNat, Int.reduceBEq]
  refine callWp_of (h2 l u hl hs hu) ?_
  simp only [walk, Nat.reduceLT, Nat.reduceBEq, Nat.reduceAdd, Nat.reduceLeDiff, reduceIte, Int.reduceLT, Int.reduceLE, Int.reduceEq, Int.reduceToNat, Int.reduceBEq]
  refine callWp_of (h3 l u hl hu) ?_
  generalize allL l u = L at *
  have tb := up_bound _ hsm.2
  have hal := hsm.1
  have k4 := h4 L p hok hpo hsm
  have k5 := h5 L p hok hpo hsm
  have k6 := h6 L p hok hpo hsm
  have k7 := h7 L p hok hpo
  generalize upL (atL L p 3) = up at *
  generalize dnL (atL L p 3) = dn at *
  generalize (atL L p 3).length = n at *
  have e1 : IntKind.i64.wrap (up - dn) = up - dn := wrap64 (by omega) (by omega)
  have b1 : (up == up) = true := beq_self_eq_true _
  have b2 : (dn == dn) = true := beq_self_eq_true _
  have b3 : (up - dn == up - dn) = true := beq_self_eq_true _
  have b4 : ((n : Int) == n) = true := beq_self_eq_true _
  simp only [walk, Nat.reduceLT, Nat.reduceBEq, Nat.reduceAdd, Nat.reduceLeDiff, reduceIte, Int.reduceLT, Int.reduceLE, Int.reduceEq, Int.reduceToNat, Int.reduceBEq]
  refine callWp_of k4 ?_
  simp only [walk, Nat.reduceLT, Nat.reduceBEq, Nat.reduceAdd, Nat.reduceLeDiff, reduceIte, Int.reduceLT, Int.reduceLE, Int.reduceEq, Int.reduceToNat, Int.reduceBEq]
  refine callWp_of k5 ?_
  simp only [walk, Nat.reduceLT, Nat.reduceBEq, Nat.reduceAdd, Nat.reduceLeDiff, reduceIte, Int.reduceLT, Int.reduceLE, Int.reduceEq, Int.reduceToNat, Int.reduceBEq, b1, b2]
  refine callWp_of k6 ?_
  simp only [walk, Nat.reduceLT, Nat.reduceBEq, Nat.reduceAdd, Nat.reduceLeDiff, reduceIte, Int.reduceLT, Int.reduceLE, Int.reduceEq, Int.reduceToNat, Int.reduceBEq, b1, b2, b3, e1]
  refine callWp_of k7 ?_
  simp only [walk, Nat.reduceLT, Nat.reduceBEq, Nat.reduceAdd, Nat.reduceLeDiff, reduceIte, Int.reduceLT, Int.reduceLE, Int.reduceEq, Int.reduceToNat, Int.reduceBEq, b1, b2, b3, b4, e1]
  refine callWp_of hA ?_
  simp only [walk, Nat.reduceLT, Nat.reduceBEq, Nat.reduceAdd, Nat.reduceLeDiff, reduceIte, Int.reduceLT, Int.reduceLE, Int.reduceEq, Int.reduceToNat, Int.reduceBEq, b1, b2, b3, b4, e1]
end
end Go.AR
