import Derived.Test.YtillphnjhefioaaG09
import Derived.Test.YtillphnjhefioaaG31
set_option linter.all false
/-! Counts of dots: the rest. -/
namespace Go.AR
open Go
section
variable {C : CallRel} {F : Nat → FuncId}
theorem uRows_c (l : List Ud) : ∀ r ∈ uRows l, r.length = 3 := by
  intro r hr
  simp only [uRows, List.mem_map] at hr
  obtain ⟨u, _, rfl⟩ := hr
  rfl
theorem uRows_one (l : List Ud) : ∀ p ∈ (uRows l).flatten, p.one = true := by
  intro p hp
  simp only [uRows, List.mem_flatten, List.mem_map] at hp
  obtain ⟨r, ⟨u, _, rfl⟩, hp⟩ := hp
  simp only [List.mem_cons, List.not_mem_nil, or_false] at hp
  rcases hp with rfl | rfl | rfl <;> rfl
theorem flat3 (l : List Ud) : (uRows l).flatten.length = (uRows l).length * 3 := by
  induction l with
  | nil => rfl
  | cons x l ih => simp only [uRows, List.map_cons, List.flatten_cons, List.length_append, List.length_cons] at ih ⊢; rw [ih]; simp; omega
theorem lowU_le (l : List Ud) (d : Dt) : lowU l d ≤ l.length := List.length_filter_le _ _
theorem low_at {l : List Ud} {d : Dt} (hs : sortU l) : (hasU l d = true → lowU l d < l.length ∧ (l.getD (lowU l d) z3).1 = d) := by
  intro h
  obtain ⟨k, hk, e⟩ := hasU_iff.1 h
  have : lowU l d = k := lowU_of (by omega) (fun j hj => by rw [← e]; exact hs j k hj hk) (fun j hj hl => by
    by_cases q : j = k
    · subst q; rw [e, dcmp_neg]; omega
    · have := hs k j (by omega) hl
      rw [e] at this
      rw [dcmp_neg] at this ⊢; omega)
  rw [this]; exact ⟨hk, e⟩
theorem getU_low {l : List Ud} {d : Dt} (hs : sortU l) : getU l d = if hasU l d = true then (l.getD (lowU l d) z3).2 else 0 := by
  split
  · rename_i h
    obtain ⟨h1, h2⟩ := low_at hs h
    refine getU_at (fun j hj e => ?_) h1 h2
    have := hs j _ hj h1
    rw [e, h2, dcmp_neg] at this; omega
  · rename_i h
    refine getU_none (fun j hj e => h (hasU_iff.2 ⟨j, hj, e⟩))
theorem g_slices_Clone_api_Undo_api_Undo : S_uClone ((c_slices_Clone_api_Undo_api_Undo F).gives C) := by
  intro l hl
  refine gives_of rfl ?_
  unfold c_slices_Clone_api_Undo_api_Undo
  unfold bigL at hl
  cases l with
  | nil =>
    have e0 : usP [] = .sl 3 [] := rfl
    have e1 : uRows [] = [] := rfl
    have hb : (0 + 0) * 24 ≤ 140737488355328 := by decide
    rw [e0, e1]
    simp only [walk, Nat.reduceLT, Nat.reduceBEq, Nat.reduceAdd, Nat.reduceLeDiff, reduceIte, Int.reduceLT, Int.reduceLE, Int.reduceEq, Int.reduceToNat, Int.reduceBEq, hb, List.append_nil, and_self]
  | cons x l =>
    have e0 : usP (x :: l) = .sl 3 (uRow x :: uRows l) := rfl
    have e1 : uRows (x :: l) = uRow x :: uRows l := rfl
    have hb : (l.length + 1) * 24 ≤ 140737488355328 := by simp only [List.length_cons] at hl; omega
    rw [e0, e1]
    simp only [walk, Nat.reduceLT, Nat.reduceBEq, Nat.reduceAdd, Nat.reduceLeDiff, reduceIte, Int.reduceLT, Int.reduceLE, Int.reduceEq, Int.reduceToNat, Int.reduceBEq, uRows_len, hb, List.nil_append]
theorem g_tally_at (h : S_bsf C (C (F n_slices_BinarySearchFunc_api_Undo_api_Undo_api_Undo))) (hc : S_ucmp (C (F n_tally_compare))) : S_uAt ((c_tally_at F).gives C) := by
  intro l d hs hl
  refine gives_of rfl ?_
  unfold c_tally_at
  simp only [walk, Nat.reduceLT, Nat.reduceBEq, Nat.reduceAdd, Nat.reduceLeDiff, reduceIte, Int.reduceLT, Int.reduceLE, Int.reduceEq, Int.reduceToNat, Int.reduceBEq]
  refine callWp_of (h _ hc l (d, 0) hs hl) ?_
  simp only [walk, Nat.reduceLT, Nat.reduceBEq, Nat.reduceAdd, Nat.reduceLeDiff, reduceIte, Int.reduceLT, Int.reduceLE, Int.reduceEq, Int.reduceToNat, Int.reduceBEq]
theorem g_tally_Get (h : S_uAt (C (F n_tally_at))) : S_uGet ((c_tally_Get F).gives C) := by
  intro l d hs hl
  refine gives_of rfl ?_
  unfold c_tally_Get
  simp only [walk, Nat.reduceLT, Nat.reduceBEq, Nat.reduceAdd, Nat.reduceLeDiff, reduceIte, Int.reduceLT, Int.reduceLE, Int.reduceEq, Int.reduceToNat, Int.reduceBEq]
  refine callWp_of (h l d hs hl) ?_
  have e := getU_low (d := d) hs
  cases q : hasU l d with
  | true =>
    obtain ⟨h1, h2⟩ := low_at hs q
    have e' : getU l d = (l.getD (lowU l d) z3).2 := by rw [e, q]; rfl
    have c0 : (0 : Int) ≤ (lowU l d : Int) := by omega
    simp only [walk, Nat.reduceLT, Nat.reduceBEq, Nat.reduceAdd, Nat.reduceLeDiff, reduceIte, Int.reduceLT, Int.reduceLE, Int.reduceEq, Int.reduceToNat, Int.reduceBEq, uRows_get h1, e']
  | false =>
    have e' : getU l d = 0 := by rw [e, q]; rfl
    simp only [walk, Nat.reduceLT, Nat.reduceBEq, Nat.reduceAdd, Nat.reduceLeDiff, reduceIte, Int.reduceLT, Int.reduceLE, Int.reduceEq, Int.reduceToNat, Int.reduceBEq, e']
theorem g_tally_Seen (h : S_uGet (C (F n_tally_Get))) : S_uSeen ((c_tally_Seen F).gives C) := by
  intro l d hs hl
  refine gives_of rfl ?_
  unfold c_tally_Seen
  simp only [walk, Nat.reduceLT, Nat.reduceBEq, Nat.reduceAdd, Nat.reduceLeDiff, reduceIte, Int.reduceLT, Int.reduceLE, Int.reduceEq, Int.reduceToNat, Int.reduceBEq]
  refine callWp_of (h l d hs hl) ?_
  have q : ∀ x : Int, (x == 0) = decide (x = 0) := fun x => by rw [Bool.eq_iff_iff]; simp
  have n2 : ¬ ((2 : Int) = 0) := by omega
  simp only [walk, Nat.reduceLT, Nat.reduceBEq, Nat.reduceAdd, Nat.reduceLeDiff, reduceIte, Int.reduceLT, Int.reduceLE, Int.reduceEq, Int.reduceToNat, Int.reduceBEq, q, n2]
theorem g_pref08_Seen (h : S_rGet (C (F n_pref08_Get))) : S_rSeen ((c_pref08_Seen F).gives C) := by
  intro l d hl
  refine gives_of rfl ?_
  unfold c_pref08_Seen
  simp only [walk, Nat.reduceLT, Nat.reduceBEq, Nat.reduceAdd, Nat.reduceLeDiff, reduceIte, Int.reduceLT, Int.reduceLE, Int.reduceEq, Int.reduceToNat, Int.reduceBEq]
  refine callWp_of (h l d hl) ?_
  have q : ∀ x : Int, (x == 0) = decide (x = 0) := fun x => by rw [Bool.eq_iff_iff]; simp
  have n2 : ¬ ((2 : Int) = 0) := by omega
  simp only [walk, Nat.reduceLT, Nat.reduceBEq, Nat.reduceAdd, Nat.reduceLeDiff, reduceIte, Int.reduceLT, Int.reduceLE, Int.reduceEq, Int.reduceToNat, Int.reduceBEq, q, n2]
def S_rGood (R : Rel) : Prop := ∀ (l : List Ud), R [.v (usP l)] (.val (.bool (decide (l.length ≤ 100) && rightU l))) []
theorem g_pref08_Good (h : S_uRight (C (F n_pref08_Right))) : S_rGood ((c_pref08_Good F).gives C) := by
  intro l
  refine gives_of rfl ?_
  unfold c_pref08_Good
  simp only [walk, Nat.reduceLT, Nat.reduceBEq, Nat.reduceAdd, Nat.reduceLeDiff, reduceIte, Int.reduceLT, Int.reduceLE, Int.reduceEq, Int.reduceToNat, Int.reduceBEq, uRows_len]
  by_cases c : l.length ≤ 100
  · have c1 : (l.length : Int) ≤ 100 := by omega
    have c2 := decide_eq_true c
    simp only [walk, Nat.reduceLT, Nat.reduceBEq, Nat.reduceAdd, Nat.reduceLeDiff, reduceIte, Int.reduceLT, Int.reduceLE, Int.reduceEq, Int.reduceToNat, Int.reduceBEq, c1, c2]
    refine callWp_of (h l (by unfold bigL; omega)) ?_
    simp only [walk, Nat.reduceLT, Nat.reduceBEq, Nat.reduceAdd, Nat.reduceLeDiff, reduceIte, Int.reduceLT, Int.reduceLE, Int.reduceEq, Int.reduceToNat, Int.reduceBEq]
  · have c1 : ¬ ((l.length : Int) ≤ 100) := by omega
    have c2 := decide_eq_false c
    simp only [walk, Nat.reduceLT, Nat.reduceBEq, Nat.reduceAdd, Nat.reduceLeDiff, reduceIte, Int.reduceLT, Int.reduceLE, Int.reduceEq, Int.reduceToNat, Int.reduceBEq, c1, c2]
def posU (l : List Ud) : Prop := ∀ j, j < l.length → 0 ≤ (l.getD j z3).2
theorem getU_ge : ∀ (l : List Ud) (d : Dt), posU l → 0 ≤ getU l d
  | [], d, _ => by simp [getU]
  | u :: l, d, h => by
    simp only [getU]
    split
    · simpa using h 0 (by simp)
    · exact getU_ge l d (fun j hj => by simpa using h (j + 1) (by simpa using hj))
theorem pos_of_right {l : List Ud} (h : rightU l = true) : posU l := by
  intro j hj
  have := rightU_iff.1 h j hj
  simp [okAt, uOk] at this
  simp only [List.getD_eq_getElem?_getD]
  omega
def S_uRaiseP (R : Rel) : Prop := ∀ (l : List Ud) (d : Dt), sortU l → posU l → l.length ≤ bigL → R [.v (usP l), .v (dP d)] (.val (.tup [uP (raiseU l d).1, .int .i64 (raiseU l d).2])) []
theorem g_tally_Raise (h : S_uGet (C (F n_tally_Get))) (hd : S_dotOk (C (F n_dot_Right))) : S_uRaiseP ((c_tally_Raise F).gives C) := by
  intro l d hs hp hl
  refine gives_of rfl ?_
  unfold c_tally_Raise
  simp only [walk, Nat.reduceLT, Nat.reduceBEq, Nat.reduceAdd, Nat.reduceLeDiff, reduceIte, Int.reduceLT, Int.reduceLE, Int.reduceEq, Int.reduceToNat, Int.reduceBEq]
  refine callWp_of (h l d hs hl) ?_
  simp only [walk, Nat.reduceLT, Nat.reduceBEq, Nat.reduceAdd, Nat.reduceLeDiff, reduceIte, Int.reduceLT, Int.reduceLE, Int.reduceEq, Int.reduceToNat, Int.reduceBEq]
  refine callWp_of (hd d) ?_
  unfold raiseU
  cases q1 : dotOk d with
  | false => simp only [walk, Nat.reduceLT, Nat.reduceBEq, Nat.reduceAdd, Nat.reduceLeDiff, reduceIte, Int.reduceLT, Int.reduceLE, Int.reduceEq, Int.reduceToNat, Int.reduceBEq, if_true, z3]
  | true =>
    simp only [walk, Nat.reduceLT, Nat.reduceBEq, Nat.reduceAdd, Nat.reduceLeDiff, reduceIte, Int.reduceLT, Int.reduceLE, Int.reduceEq, Int.reduceToNat, Int.reduceBEq, Bool.true_eq_false, if_false]
    by_cases q2 : getU l d ≥ 64
    · simp only [walk, Nat.reduceLT, Nat.reduceBEq, Nat.reduceAdd, Nat.reduceLeDiff, reduceIte, Int.reduceLT, Int.reduceLE, Int.reduceEq, Int.reduceToNat, Int.reduceBEq, q2, if_true, z3]
    · have e1 : IntKind.i64.wrap (getU l d + 1) = getU l d + 1 := wrap64 (by have := (getU_ge l d hp); omega) (by omega)
      simp only [walk, Nat.reduceLT, Nat.reduceBEq, Nat.reduceAdd, Nat.reduceLeDiff, reduceIte, Int.reduceLT, Int.reduceLE, Int.reduceEq, Int.reduceToNat, Int.reduceBEq, q2, if_false, e1]
theorem g_tally_Put (hd : S_dotOk (C (F n_dot_Right))) (ha : S_uAt (C (F n_tally_at))) (hc : S_uClone (C (F n_slices_Clone_api_Undo_api_Undo))) (hi : S_Insert 3 24 (C (F n_slices_Insert_api_Undo_api_Undo))) : S_uPut ((c_tally_Put F).gives C) := by
  intro l u hs hl
  refine gives_of rfl ?_
  unfold c_tally_Put
  unfold bigL at hl
  simp only [walk, Nat.reduceLT, Nat.reduceBEq, Nat.reduceAdd, Nat.reduceLeDiff, reduceIte, Int.reduceLT, Int.reduceLE, Int.reduceEq, Int.reduceToNat, Int.reduceBEq]
  refine callWp_of (hd u.1) ?_
  have pu : uOk u = false → putU l u = l := fun h => by unfold putU; rw [if_pos h]
  cases q1 : dotOk u.1 with
  | false =>
    have e := pu (by unfold uOk; rw [q1]; rfl)
    simp only [walk, Nat.reduceLT, Nat.reduceBEq, Nat.reduceAdd, Nat.reduceLeDiff, reduceIte, Int.reduceLT, Int.reduceLE, Int.reduceEq, Int.reduceToNat, Int.reduceBEq, e]
  | true =>
    simp only [walk, Nat.reduceLT, Nat.reduceBEq, Nat.reduceAdd, Nat.reduceLeDiff, reduceIte, Int.reduceLT, Int.reduceLE, Int.reduceEq, Int.reduceToNat, Int.reduceBEq]
    by_cases q2 : u.2 < 1
    · have e := pu (by unfold uOk; rw [q1, decide_eq_false (by omega : ¬ 1 ≤ u.2)]; rfl)
      simp only [walk, Nat.reduceLT, Nat.reduceBEq, Nat.reduceAdd, Nat.reduceLeDiff, reduceIte, Int.reduceLT, Int.reduceLE, Int.reduceEq, Int.reduceToNat, Int.reduceBEq, q2, e]
    · simp only [walk, Nat.reduceLT, Nat.reduceBEq, Nat.reduceAdd, Nat.reduceLeDiff, reduceIte, Int.reduceLT, Int.reduceLE, Int.reduceEq, Int.reduceToNat, Int.reduceBEq, q2]
      by_cases q3 : u.2 > 64
      · have e := pu (by unfold uOk; rw [q1, decide_eq_false (by omega : ¬ u.2 ≤ 64)]; simp)
        simp only [walk, Nat.reduceLT, Nat.reduceBEq, Nat.reduceAdd, Nat.reduceLeDiff, reduceIte, Int.reduceLT, Int.reduceLE, Int.reduceEq, Int.reduceToNat, Int.reduceBEq, q3, e]
      · have qu : ¬ uOk u = false := by unfold uOk; rw [q1, decide_eq_true (by omega : 1 ≤ u.2), decide_eq_true (by omega : u.2 ≤ 64)]; simp
        simp only [walk, Nat.reduceLT, Nat.reduceBEq, Nat.reduceAdd, Nat.reduceLeDiff, reduceIte, Int.reduceLT, Int.reduceLE, Int.reduceEq, Int.reduceToNat, Int.reduceBEq, q3]
        refine callWp_of (ha l u.1 hs (by unfold bigL; omega)) ?_
        simp only [walk, Nat.reduceLT, Nat.reduceBEq, Nat.reduceAdd, Nat.reduceLeDiff, reduceIte, Int.reduceLT, Int.reduceLE, Int.reduceEq, Int.reduceToNat, Int.reduceBEq]
        cases q4 : hasU l u.1 with
        | false =>
          have e : putU l u = l.take (lowU l u.1) ++ u :: l.drop (lowU l u.1) := by unfold putU; rw [if_neg qu, if_pos q4]
          simp only [walk, Nat.reduceLT, Nat.reduceBEq, Nat.reduceAdd, Nat.reduceLeDiff, reduceIte, Int.reduceLT, Int.reduceLE, Int.reduceEq, Int.reduceToNat, Int.reduceBEq]
          refine callWp_of (hc l (by unfold bigL; omega)) ?_
          simp only [walk, Nat.reduceLT, Nat.reduceBEq, Nat.reduceAdd, Nat.reduceLeDiff, reduceIte, Int.reduceLT, Int.reduceLE, Int.reduceEq, Int.reduceToNat, Int.reduceBEq]
          refine callWp_of (hi (uRows l) (lowU l u.1) (uRow u) (by rw [uRows_len]; exact lowU_le l u.1) (by rw [uRows_len]; omega) (by rw [uRows_len]; omega)) ?_
          have er : (uRows l).take (lowU l u.1) ++ uRow u :: (uRows l).drop (lowU l u.1) = uRows (putU l u) := by rw [e]; simp [uRows]
          simp only [walk, Nat.reduceLT, Nat.reduceBEq, Nat.reduceAdd, Nat.reduceLeDiff, reduceIte, Int.reduceLT, Int.reduceLE, Int.reduceEq, Int.reduceToNat, Int.reduceBEq]
          rw [show ((uRows l).take (lowU l u.1) ++ [PV.int .i64 u.1.1, .int .i64 u.1.2, .int .i64 u.2] :: (uRows l).drop (lowU l u.1)) = uRows (putU l u) from er]
        | true =>
          obtain ⟨h1, h2⟩ := low_at hs q4
          have c0 : (0 : Int) ≤ (lowU l u.1 : Int) := by omega
          simp only [walk, Nat.reduceLT, Nat.reduceBEq, Nat.reduceAdd, Nat.reduceLeDiff, reduceIte, Int.reduceLT, Int.reduceLE, Int.reduceEq, Int.reduceToNat, Int.reduceBEq, uRows_get h1]
          by_cases q5 : (l.getD (lowU l u.1) z3).2 ≥ u.2
          · have e : putU l u = l := by unfold putU; rw [if_neg qu, q4, if_neg (by simp), if_pos q5]
            simp only [walk, Nat.reduceLT, Nat.reduceBEq, Nat.reduceAdd, Nat.reduceLeDiff, reduceIte, Int.reduceLT, Int.reduceLE, Int.reduceEq, Int.reduceToNat, Int.reduceBEq, q5, e]
          · have e : putU l u = l.set (lowU l u.1) u := by unfold putU; rw [if_neg qu, q4, if_neg (by simp), if_neg q5]
            simp only [walk, Nat.reduceLT, Nat.reduceBEq, Nat.reduceAdd, Nat.reduceLeDiff, reduceIte, Int.reduceLT, Int.reduceLE, Int.reduceEq, Int.reduceToNat, Int.reduceBEq, q5]
            refine callWp_of (hc l (by unfold bigL; omega)) ?_
            have hne : uRows l ≠ [] := fun h => by have := uRows_len l; rw [h] at this; simp at this; omega
            have c1 : (lowU l u.1 : Int) < (l.length : Nat) := by omega
            have c2 : (lowU l u.1 : Int) < ((uRows l).length : Nat) := by rw [uRows_len]; omega
            have hlay := layT_rows (c := 3) (uRows l) (lowU l u.1) (uRow u) (uRows_c l) rfl (by rw [uRows_len]; exact h1)
            have hset : (uRows l).set (lowU l u.1) (uRow u) = uRows (l.set (lowU l u.1) u) := by simp [uRows, List.map_set]
            have hfl : (uRows l).flatten.length = l.length * 3 := by rw [flat3, uRows_len]
            have hst : lowU l u.1 * 3 + 3 ≤ (uRows l).flatten.length := by rw [hfl]; omega
            simp only [walk, Nat.reduceLT, Nat.reduceBEq, Nat.reduceAdd, Nat.reduceLeDiff, reduceIte, Int.reduceLT, Int.reduceLE, Int.reduceEq, Int.reduceToNat, Int.reduceBEq, ne_eq, hne, not_false_eq_true, c2, hst]
            refine closeW_of (C := C) (rows := uRows (l.set (lowU l u.1) u)) (hlay.trans (by rw [hset])) (uRows_c _) (by rw [uRows_len, uRows_len, List.length_set]) (uRows_one _) (by simp [del, TV.rf]) ?_
            simp only [walk, Nat.reduceLT, Nat.reduceBEq, Nat.reduceAdd, Nat.reduceLeDiff, reduceIte, Int.reduceLT, Int.reduceLE, Int.reduceEq, Int.reduceToNat, Int.reduceBEq, e]
end
end Go.AR
