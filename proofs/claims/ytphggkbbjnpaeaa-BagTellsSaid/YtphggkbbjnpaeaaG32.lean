import Derived.Test.YtphggkbbjnpaeaaG09
import Derived.Test.YtphggkbbjnpaeaaG31
set_option linter.all false
/-! Counts of dots: the rest. -/
namespace Go.AR
open Go
section
variable {C : CallRel} {F : Nat → FuncId}
theorem low_at {l : List Ud} {d : Dt} (hs : sortU l) : (hasU l d = true → lowU l d < l.length ∧ (l.getD (lowU l d) z3).1 = d) := by
  intro h
  obtain ⟨k, hk, e⟩ := hasU_iff.1 h
  have : lowU l d = k := lowU_of (by omega) (fun j hj => by rw [← e]; exact hs j k hj hk) (fun j hj hl => by
    by_cases q : j = k
    · subst q; rw [e, dcmp_neg]; omega
    · have := hs k j (by omega) hl
      rw [e] at this
      rw [dcmp_neg] at this ⊢; omega)
  rw [this]; exact ⟨hk, e⟩
theorem getU_low {l : List Ud} {d : Dt} (hs : sortU l) : getU l d = if hasU l d = true then (l.getD (lowU l d) z3).2 else 0 := by
  split
  · rename_i h
    obtain ⟨h1, h2⟩ := low_at hs h
    refine getU_at (fun j hj e => ?_) h1 h2
    have := hs j _ hj h1
    rw [e, h2, dcmp_neg] at this; omega
  · rename_i h
    refine getU_none (fun j hj e => h (hasU_iff.2 ⟨j, hj, e⟩))
theorem g_tally_at (h : S_bsf C (C (F n_slices_BinarySearchFunc_api_Undo_api_Undo_api_Undo))) (hc : S_ucmp (C (F n_tally_compare))) : S_uAt ((c_tally_at F).gives C) := by
  intro l d hs hl
  refine gives_of rfl ?_
  unfold c_tally_at
  simp only [walk, Nat.reduceLT, Nat.reduceBEq, Nat.reduceAdd, Nat.reduceLeDiff, reduceIte, Int.reduceLT, Int.reduceLE, Int.reduceEq, Int.reduceToNat, Int.reduceBEq]
  refine callWp_of (h _ hc l (d, 0) hs hl) ?_
  simp only [walk, Nat.reduceLT, Nat.reduceBEq, Nat.reduceAdd, Nat.reduceLeDiff, reduceIte, Int.reduceLT, Int.reduceLE, Int.reduceEq, Int.reduceToNat, Int.reduceBEq]
theorem g_tally_Get (h : S_uAt (C (F n_tally_at))) : S_uGet ((c_tally_Get F).gives C) := by
  intro l d hs hl
  refine gives_of rfl ?_
  unfold c_tally_Get
  simp only [walk, Nat.reduceLT, Nat.reduceBEq, Nat.reduceAdd, Nat.reduceLeDiff, reduceIte, Int.reduceLT, Int.reduceLE, Int.reduceEq, Int.reduceToNat, Int.reduceBEq]
  refine callWp_of (h l d hs hl) ?_
  have e := getU_low (d := d) hs
  cases q : hasU l d with
  | true =>
    obtain ⟨h1, h2⟩ := low_at hs q
    have e' : getU l d = (l.getD (lowU l d) z3).2 := by rw [e, q]; rfl
    have c0 : (0 : Int) ≤ (lowU l d : Int) := by omega
    simp only [walk, Nat.reduceLT, Nat.reduceBEq, Nat.reduceAdd, Nat.reduceLeDiff, reduceIte, Int.reduceLT, Int.reduceLE, Int.reduceEq, Int.reduceToNat, Int.reduceBEq, uRows_get h1, e']
  | false =>
    have e' : getU l d = 0 := by rw [e, q]; rfl
    simp only [walk, Nat.reduceLT, Nat.reduceBEq, Nat.reduceAdd, Nat.reduceLeDiff, reduceIte, Int.reduceLT, Int.reduceLE, Int.reduceEq, Int.reduceToNat, Int.reduceBEq, e']
theorem g_tally_Seen (h : S_uGet (C (F n_tally_Get))) : S_uSeen ((c_tally_Seen F).gives C) := by
  intro l d hs hl
  refine gives_of rfl ?_
  unfold c_tally_Seen
  simp only [walk, Nat.reduceLT, Nat.reduceBEq, Nat.reduceAdd, Nat.reduceLeDiff, reduceIte, Int.reduceLT, Int.reduceLE, Int.reduceEq, Int.reduceToNat, Int.reduceBEq]
  refine callWp_of (h l d hs hl) ?_
  have q : ∀ x : Int, (x == 0) = decide (x = 0) := fun x => by rw [Bool.eq_iff_iff]; simp
  have n2 : ¬ ((2 : Int) = 0) := by omega
  simp only [walk, Nat.reduceLT, Nat.reduceBEq, Nat.reduceAdd, Nat.reduceLeDiff, reduceIte, Int.reduceLT, Int.reduceLE, Int.reduceEq, Int.reduceToNat, Int.reduceBEq, q, n2]
theorem g_pref08_Seen (h : S_rGet (C (F n_pref08_Get))) : S_rSeen ((c_pref08_Seen F).gives C) := by
  intro l d hl
  refine gives_of rfl ?_
  unfold c_pref08_Seen
  simp only [walk, Nat.reduceLT, Nat.reduceBEq, Nat.reduceAdd, Nat.reduceLeDiff, reduceIte, Int.reduceLT, Int.reduceLE, Int.reduceEq, Int.reduceToNat, Int.reduceBEq]
  refine callWp_of (h l d hl) ?_
  have q : ∀ x : Int, (x == 0) = decide (x = 0) := fun x => by rw [Bool.eq_iff_iff]; simp
  have n2 : ¬ ((2 : Int) = 0) := by omega
  simp only [walk, Nat.reduceLT, Nat.reduceBEq, Nat.reduceAdd, Nat.reduceLeDiff, reduceIte, Int.reduceLT, Int.reduceLE, Int.reduceEq, Int.reduceToNat, Int.reduceBEq, q, n2]
def S_rGood (R : Rel) : Prop := ∀ (l : List Ud), R [.v (usP l)] (.val (.bool (decide (l.length ≤ 100) && rightU l))) []
theorem g_pref08_Good (h : S_uRight (C (F n_pref08_Right))) : S_rGood ((c_pref08_Good F).gives C) := by
  intro l
  refine gives_of rfl ?_
  unfold c_pref08_Good
  simp only [walk, Nat.reduceLT, Nat.reduceBEq, Nat.reduceAdd, Nat.reduceLeDiff, reduceIte, Int.reduceLT, Int.reduceLE, Int.reduceEq, Int.reduceToNat, Int.reduceBEq, uRows_len]
  by_cases c : l.length ≤ 100
  · have c1 : (l.length : Int) ≤ 100 := by omega
    have c2 := decide_eq_true c
    simp only [walk, Nat.reduceLT, Nat.reduceBEq, Nat.reduceAdd, Nat.reduceLeDiff, reduceIte, Int.reduceLT, Int.reduceLE, Int.reduceEq, Int.reduceToNat, Int.reduceBEq, c1, c2]
    refine callWp_of (h l (by unfold bigL; omega)) ?_
    simp only [walk, Nat.reduceLT, Nat.reduceBEq, Nat.reduceAdd, Nat.reduceLeDiff, reduceIte, Int.reduceLT, Int.reduceLE, Int.reduceEq, Int.reduceToNat, Int.reduceBEq]
  · have c1 : ¬ ((l.length : Int) ≤ 100) := by omega
    have c2 := decide_eq_false c
    simp only [walk, Nat.reduceLT, Nat.reduceBEq, Nat.reduceAdd, Nat.reduceLeDiff, reduceIte, Int.reduceLT, Int.reduceLE, Int.reduceEq, Int.reduceToNat, Int.reduceBEq, c1, c2]
end
end Go.AR
