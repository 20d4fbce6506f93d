import Derived.Test.YtojhbllkhljggaaS08c
import Derived.Test.YtojhbllkhljggaaS08d
import Derived.Test.YtojhbllkhljggaaE08
set_option linter.all false
/-! Chapter 8's laws. -/
namespace Go.AR
open Go
section
variable {C : CallRel} {F : Nat → FuncId}
def S_T2 (R : Rel) : Prop := ∀ (l : List Ud) (u : Ud), R [.v (usP l), .v (uP u)] (.val (.bool true)) []
def S_J2 (R : Rel) : Prop := ∀ (a b : List Ud), R [.v (usP a), .v (usP b)] (.val (.bool true)) []
def S_J3 (R : Rel) : Prop := ∀ (a b c : List Ud), R [.v (usP a), .v (usP b), .v (usP c)] (.val (.bool true)) []
def S_D3 (R : Rel) : Prop := ∀ (a b : List Ud) (d : Dt), R [.v (usP a), .v (usP b), .v (dP d)] (.val (.bool true)) []
def S_U3 (R : Rel) : Prop := ∀ (l : List Ud) (d o : Dt), R [.v (usP l), .v (dP d), .v (dP o)] (.val (.bool true)) []
theorem tmod2 (x : Int) : True := trivial
theorem g_plaw08_TallyTells (hy : S_yes (C (F n_plaw08_awake))) (hR : S_uRight (C (F n_tally_Right))) (hr : S_uRight (C (F n_pref08_Right))) (hA : S_uRaiseP (C (F n_tally_Raise))) (ha : S_rRaiseP (C (F n_pref08_Raise))) (hG : S_uGet (C (F n_tally_Get))) (hg : S_rGet (C (F n_pref08_Get))) (hS : S_uSeen (C (F n_tally_Seen))) (hs : S_rSeen (C (F n_pref08_Seen))) (hP : S_uPut (C (F n_tally_Put))) (hp : S_rPut (C (F n_pref08_Put))) (hE : S_uSame (C (F n_pref08_Same))) : S_T2 ((c_plaw08_TallyTells F).gives C) := by
  intro l u
  refine gives_of rfl ?_
  unfold c_plaw08_TallyTells
  simp only [walk, Nat.reduceLT, Nat.reduceBEq, Nat.reduceAdd, Nat.reduceLeDiff, reduceIte, Int.reduceLT, Int.reduceLE, Int.reduceEq, Int.reduceToNat, Int.reduceBEq, uRows_len]
  by_cases c : l.length > 100
  · have c1 : (l.length : Int) > 100 := by omega
    simp only [walk, Nat.reduceLT, Nat.reduceBEq, Nat.reduceAdd, Nat.reduceLeDiff, reduceIte, Int.reduceLT, Int.reduceLE, Int.reduceEq, Int.reduceToNat, Int.reduceBEq, c1]
    refine callWp_of hy ?_
    simp only [walk, Nat.reduceLT, Nat.reduceBEq, Nat.reduceAdd, Nat.reduceLeDiff, reduceIte, Int.reduceLT, Int.reduceLE, Int.reduceEq, Int.reduceToNat, Int.reduceBEq]
  · have c1 : ¬ ((l.length : Int) > 100) := by omega
    have hb : l.length ≤ bigL := by unfold bigL; omega
    have hb1 : l.length + 1 ≤ bigL := by unfold bigL; omega
    simp only [walk, Nat.reduceLT, Nat.reduceBEq, Nat.reduceAdd, Nat.reduceLeDiff, reduceIte, Int.reduceLT, Int.reduceLE, Int.reduceEq, Int.reduceToNat, Int.reduceBEq, c1]
    refine callWp_of (hR l hb) ?_
    simp only [walk, Nat.reduceLT, Nat.reduceBEq, Nat.reduceAdd, Nat.reduceLeDiff, reduceIte, Int.reduceLT, Int.reduceLE, Int.reduceEq, Int.reduceToNat, Int.reduceBEq]
    refine callWp_of (hr l hb) ?_
    have e0 : (!(rightU l == rightU l)) = false := by simp
    simp only [walk, Nat.reduceLT, Nat.reduceBEq, Nat.reduceAdd, Nat.reduceLeDiff, reduceIte, Int.reduceLT, Int.reduceLE, Int.reduceEq, Int.reduceToNat, Int.reduceBEq, e0]
    refine callWp_of (hr l hb) ?_
    cases q : rightU l with
    | false =>
      simp only [walk, Nat.reduceLT, Nat.reduceBEq, Nat.reduceAdd, Nat.reduceLeDiff, reduceIte, Int.reduceLT, Int.reduceLE, Int.reduceEq, Int.reduceToNat, Int.reduceBEq]
      refine callWp_of hy ?_
      simp only [walk, Nat.reduceLT, Nat.reduceBEq, Nat.reduceAdd, Nat.reduceLeDiff, reduceIte, Int.reduceLT, Int.reduceLE, Int.reduceEq, Int.reduceToNat, Int.reduceBEq]
    | true =>
      have so := sort_of_right q
      have po := pos_of_right q
      have ri := ri_iff.1 q
      simp only [walk, Nat.reduceLT, Nat.reduceBEq, Nat.reduceAdd, Nat.reduceLeDiff, reduceIte, Int.reduceLT, Int.reduceLE, Int.reduceEq, Int.reduceToNat, Int.reduceBEq]
      refine callWp_of (hA l u.1 so po hb) ?_
      simp only [walk, Nat.reduceLT, Nat.reduceBEq, Nat.reduceAdd, Nat.reduceLeDiff, reduceIte, Int.reduceLT, Int.reduceLE, Int.reduceEq, Int.reduceToNat, Int.reduceBEq]
      refine callWp_of (ha l u.1 po hb) ?_
      simp only [walk, Nat.reduceLT, Nat.reduceBEq, Nat.reduceAdd, Nat.reduceLeDiff, reduceIte, Int.reduceLT, Int.reduceLE, Int.reduceEq, Int.reduceToNat, Int.reduceBEq]
      refine callWp_of (hG l u.1 so hb) ?_
      simp only [walk, Nat.reduceLT, Nat.reduceBEq, Nat.reduceAdd, Nat.reduceLeDiff, reduceIte, Int.reduceLT, Int.reduceLE, Int.reduceEq, Int.reduceToNat, Int.reduceBEq]
      refine callWp_of (hg l u.1 hb) ?_
      have e1 : ∀ x : Int, (x == x) = true := fun x => by simp
      have e2 : ∀ x : Bool, (x == x) = true := fun x => by simp
      simp only [walk, Nat.reduceLT, Nat.reduceBEq, Nat.reduceAdd, Nat.reduceLeDiff, reduceIte, Int.reduceLT, Int.reduceLE, Int.reduceEq, Int.reduceToNat, Int.reduceBEq, e1]
      refine callWp_of (hS l u.1 so hb) ?_
      simp only [walk, Nat.reduceLT, Nat.reduceBEq, Nat.reduceAdd, Nat.reduceLeDiff, reduceIte, Int.reduceLT, Int.reduceLE, Int.reduceEq, Int.reduceToNat, Int.reduceBEq]
      refine callWp_of (hs l u.1 hb) ?_
      simp only [walk, Nat.reduceLT, Nat.reduceBEq, Nat.reduceAdd, Nat.reduceLeDiff, reduceIte, Int.reduceLT, Int.reduceLE, Int.reduceEq, Int.reduceToNat, Int.reduceBEq, e2]
      refine callWp_of (hP l u so hb1) ?_
      simp only [walk, Nat.reduceLT, Nat.reduceBEq, Nat.reduceAdd, Nat.reduceLeDiff, reduceIte, Int.reduceLT, Int.reduceLE, Int.reduceEq, Int.reduceToNat, Int.reduceBEq]
      refine callWp_of (hp l u hb1) ?_
      simp only [walk, Nat.reduceLT, Nat.reduceBEq, Nat.reduceAdd, Nat.reduceLeDiff, reduceIte, Int.reduceLT, Int.reduceLE, Int.reduceEq, Int.reduceToNat, Int.reduceBEq]
      have hl : (putU l u).length ≤ bigL := by rw [put_eq ri u]; exact Nat.le_trans (rPut_len l u) hb1
      refine callWp_of (hE (putU l u) (rPut l u) hl) ?_
      have e3 : (putU l u = rPut l u) = True := by simp [put_eq ri u]
      simp only [walk, Nat.reduceLT, Nat.reduceBEq, Nat.reduceAdd, Nat.reduceLeDiff, reduceIte, Int.reduceLT, Int.reduceLE, Int.reduceEq, Int.reduceToNat, Int.reduceBEq, e3, eqCells_u, e1]
      refine callWp_of hy ?_
      simp only [walk, Nat.reduceLT, Nat.reduceBEq, Nat.reduceAdd, Nat.reduceLeDiff, reduceIte, Int.reduceLT, Int.reduceLE, Int.reduceEq, Int.reduceToNat, Int.reduceBEq]
theorem g_plaw08_TallyJoins (hy : S_yes (C (F n_plaw08_awake))) (hG : S_rGood (C (F n_pref08_Good))) (hr : S_uRight (C (F n_pref08_Right))) (hM : S_uMerge (C (F n_tally_Join))) (hO : S_uOver (C (F n_tally_Over))) (hm : S_rJoin (C (F n_pref08_Join))) (ho : S_rOver (C (F n_pref08_Over))) (hE : S_uSame (C (F n_pref08_Same))) (hS : S_uSame (C (F n_tally_Same))) : S_J2 ((c_plaw08_TallyJoins F).gives C) := by
  intro a b
  refine gives_of rfl ?_
  unfold c_plaw08_TallyJoins
  simp only [walk, Nat.reduceLT, Nat.reduceBEq, Nat.reduceAdd, Nat.reduceLeDiff, reduceIte, Int.reduceLT, Int.reduceLE, Int.reduceEq, Int.reduceToNat, Int.reduceBEq]
  refine callWp_of (hG a) ?_
  cases qa : (decide (a.length ≤ 100) && rightU a) with
  | false =>
    simp only [walk, Nat.reduceLT, Nat.reduceBEq, Nat.reduceAdd, Nat.reduceLeDiff, reduceIte, Int.reduceLT, Int.reduceLE, Int.reduceEq, Int.reduceToNat, Int.reduceBEq]
    refine callWp_of hy ?_
    simp only [walk, Nat.reduceLT, Nat.reduceBEq, Nat.reduceAdd, Nat.reduceLeDiff, reduceIte, Int.reduceLT, Int.reduceLE, Int.reduceEq, Int.reduceToNat, Int.reduceBEq]
  | true =>
    simp only [walk, Nat.reduceLT, Nat.reduceBEq, Nat.reduceAdd, Nat.reduceLeDiff, reduceIte, Int.reduceLT, Int.reduceLE, Int.reduceEq, Int.reduceToNat, Int.reduceBEq]
    refine callWp_of (hG b) ?_
    cases qb : (decide (b.length ≤ 100) && rightU b) with
    | false =>
      simp only [walk, Nat.reduceLT, Nat.reduceBEq, Nat.reduceAdd, Nat.reduceLeDiff, reduceIte, Int.reduceLT, Int.reduceLE, Int.reduceEq, Int.reduceToNat, Int.reduceBEq]
      refine callWp_of hy ?_
      simp only [walk, Nat.reduceLT, Nat.reduceBEq, Nat.reduceAdd, Nat.reduceLeDiff, reduceIte, Int.reduceLT, Int.reduceLE, Int.reduceEq, Int.reduceToNat, Int.reduceBEq]
    | true =>
      simp only [Bool.and_eq_true, decide_eq_true_eq] at qa qb
      have ra := ri_iff.1 qa.2; have rb := ri_iff.1 qb.2
      obtain ⟨rm, _⟩ := merge_spec a b ra rb
      obtain ⟨ro, _⟩ := over_spec ra rb
      have la : a.length ≤ bigL := by unfold bigL; omega
      have lb : b.length ≤ bigL := by unfold bigL; omega
      have lab : a.length + b.length ≤ bigL := by unfold bigL; omega
      have lm : (mergeU a b).length ≤ bigL := Nat.le_trans (merge_len a b) lab
      have lo : (overU a b).length ≤ bigL := Nat.le_trans (List.length_filter_le _ _) la
      have e2 : ∀ x : Bool, (x == x) = true := fun x => by simp
      have hM1 := hM a b lab
      simp only [walk, Nat.reduceLT, Nat.reduceBEq, Nat.reduceAdd, Nat.reduceLeDiff, reduceIte, Int.reduceLT, Int.reduceLE, Int.reduceEq, Int.reduceToNat, Int.reduceBEq]
      refine callWp_of hM1 ?_
      simp only [walk, Nat.reduceLT, Nat.reduceBEq, Nat.reduceAdd, Nat.reduceLeDiff, reduceIte, Int.reduceLT, Int.reduceLE, Int.reduceEq, Int.reduceToNat, Int.reduceBEq]
      refine callWp_of (hO a b (sort_of_right qb.2) la lb) ?_
      simp only [walk, Nat.reduceLT, Nat.reduceBEq, Nat.reduceAdd, Nat.reduceLeDiff, reduceIte, Int.reduceLT, Int.reduceLE, Int.reduceEq, Int.reduceToNat, Int.reduceBEq]
      refine callWp_of (hm a b lab) ?_
      simp only [walk, Nat.reduceLT, Nat.reduceBEq, Nat.reduceAdd, Nat.reduceLeDiff, reduceIte, Int.reduceLT, Int.reduceLE, Int.reduceEq, Int.reduceToNat, Int.reduceBEq]
      refine callWp_of (hE _ _ lm) ?_
      have e3 : (mergeU a b = rJoin a b) = True := by simp [rjoin_eq ra rb]
      simp only [walk, Nat.reduceLT, Nat.reduceBEq, Nat.reduceAdd, Nat.reduceLeDiff, reduceIte, Int.reduceLT, Int.reduceLE, Int.reduceEq, Int.reduceToNat, Int.reduceBEq, e3]
      refine callWp_of (ho a b la lb) ?_
      simp only [walk, Nat.reduceLT, Nat.reduceBEq, Nat.reduceAdd, Nat.reduceLeDiff, reduceIte, Int.reduceLT, Int.reduceLE, Int.reduceEq, Int.reduceToNat, Int.reduceBEq]
      refine callWp_of (hE _ _ lo) ?_
      simp only [walk, Nat.reduceLT, Nat.reduceBEq, Nat.reduceAdd, Nat.reduceLeDiff, reduceIte, Int.reduceLT, Int.reduceLE, Int.reduceEq, Int.reduceToNat, Int.reduceBEq, eq_self_iff_true]
      refine callWp_of (hr _ lm) ?_
      have e4 := ri_iff.2 rm; have e5 := ri_iff.2 ro
      simp only [walk, Nat.reduceLT, Nat.reduceBEq, Nat.reduceAdd, Nat.reduceLeDiff, reduceIte, Int.reduceLT, Int.reduceLE, Int.reduceEq, Int.reduceToNat, Int.reduceBEq, e4]
      refine callWp_of (hr _ lo) ?_
      simp only [walk, Nat.reduceLT, Nat.reduceBEq, Nat.reduceAdd, Nat.reduceLeDiff, reduceIte, Int.reduceLT, Int.reduceLE, Int.reduceEq, Int.reduceToNat, Int.reduceBEq, e5]
      refine callWp_of (hS a b la) ?_
      simp only [walk, Nat.reduceLT, Nat.reduceBEq, Nat.reduceAdd, Nat.reduceLeDiff, reduceIte, Int.reduceLT, Int.reduceLE, Int.reduceEq, Int.reduceToNat, Int.reduceBEq]
      refine callWp_of (hE a b la) ?_
      simp only [walk, Nat.reduceLT, Nat.reduceBEq, Nat.reduceAdd, Nat.reduceLeDiff, reduceIte, Int.reduceLT, Int.reduceLE, Int.reduceEq, Int.reduceToNat, Int.reduceBEq, e2]
      refine callWp_of hy ?_
      simp only [walk, Nat.reduceLT, Nat.reduceBEq, Nat.reduceAdd, Nat.reduceLeDiff, reduceIte, Int.reduceLT, Int.reduceLE, Int.reduceEq, Int.reduceToNat, Int.reduceBEq]
theorem g_plaw08_TallyLattice (hy : S_yes (C (F n_plaw08_awake))) (hG : S_rGood (C (F n_pref08_Good))) (hM : S_uMerge (C (F n_tally_Join))) (hS : S_uSame (C (F n_tally_Same))) : S_J3 ((c_plaw08_TallyLattice F).gives C) := by
  intro a b c
  refine gives_of rfl ?_
  unfold c_plaw08_TallyLattice
  simp only [walk, Nat.reduceLT, Nat.reduceBEq, Nat.reduceAdd, Nat.reduceLeDiff, reduceIte, Int.reduceLT, Int.reduceLE, Int.reduceEq, Int.reduceToNat, Int.reduceBEq]
  refine callWp_of (hG a) ?_
  cases qa : (decide (a.length ≤ 100) && rightU a) with
  | false =>
    simp only [walk, Nat.reduceLT, Nat.reduceBEq, Nat.reduceAdd, Nat.reduceLeDiff, reduceIte, Int.reduceLT, Int.reduceLE, Int.reduceEq, Int.reduceToNat, Int.reduceBEq]
    refine callWp_of hy ?_
    simp only [walk, Nat.reduceLT, Nat.reduceBEq, Nat.reduceAdd, Nat.reduceLeDiff, reduceIte, Int.reduceLT, Int.reduceLE, Int.reduceEq, Int.reduceToNat, Int.reduceBEq]
  | true =>
    simp only [walk, Nat.reduceLT, Nat.reduceBEq, Nat.reduceAdd, Nat.reduceLeDiff, reduceIte, Int.reduceLT, Int.reduceLE, Int.reduceEq, Int.reduceToNat, Int.reduceBEq]
    refine callWp_of (hG b) ?_
    cases qb : (decide (b.length ≤ 100) && rightU b) with
    | false =>
      simp only [walk, Nat.reduceLT, Nat.reduceBEq, Nat.reduceAdd, Nat.reduceLeDiff, reduceIte, Int.reduceLT, Int.reduceLE, Int.reduceEq, Int.reduceToNat, Int.reduceBEq]
      refine callWp_of hy ?_
      simp only [walk, Nat.reduceLT, Nat.reduceBEq, Nat.reduceAdd, Nat.reduceLeDiff, reduceIte, Int.reduceLT, Int.reduceLE, Int.reduceEq, Int.reduceToNat, Int.reduceBEq]
    | true =>
      simp only [walk, Nat.reduceLT, Nat.reduceBEq, Nat.reduceAdd, Nat.reduceLeDiff, reduceIte, Int.reduceLT, Int.reduceLE, Int.reduceEq, Int.reduceToNat, Int.reduceBEq]
      refine callWp_of (hG c) ?_
      cases qc : (decide (c.length ≤ 100) && rightU c) with
      | false =>
        simp only [walk, Nat.reduceLT, Nat.reduceBEq, Nat.reduceAdd, Nat.reduceLeDiff, reduceIte, Int.reduceLT, Int.reduceLE, Int.reduceEq, Int.reduceToNat, Int.reduceBEq]
        refine callWp_of hy ?_
        simp only [walk, Nat.reduceLT, Nat.reduceBEq, Nat.reduceAdd, Nat.reduceLeDiff, reduceIte, Int.reduceLT, Int.reduceLE, Int.reduceEq, Int.reduceToNat, Int.reduceBEq]
      | true =>
        simp only [Bool.and_eq_true, decide_eq_true_eq] at qa qb qc
        have ra := ri_iff.1 qa.2; have rb := ri_iff.1 qb.2; have rc := ri_iff.1 qc.2
        have m1 := merge_len a b; have m2 := merge_len b c; have m3 := merge_len b a; have m4 := merge_len a a
        obtain ⟨rab, gab⟩ := merge_spec a b ra rb
        obtain ⟨rba, gba⟩ := merge_spec b a rb ra
        obtain ⟨rbc, gbc⟩ := merge_spec b c rb rc
        obtain ⟨r1, g1⟩ := merge_spec (mergeU a b) c rab rc
        obtain ⟨r2, g2⟩ := merge_spec a (mergeU b c) ra rbc
        obtain ⟨raa, gaa⟩ := merge_spec a a ra ra
        have e1 : mergeU a b = mergeU b a := ri_ext rab rba (fun d => by rw [gab, gba]; omega)
        have e2 : mergeU (mergeU a b) c = mergeU a (mergeU b c) := ri_ext r1 r2 (fun d => by rw [g1, g2, gab, gbc]; omega)
        have e3 : mergeU a a = a := ri_ext raa ra (fun d => by rw [gaa]; omega)
        have h1 := hM a b (by unfold bigL; omega)
        have h2 := hM b a (by unfold bigL; omega)
        have h3 := hM (mergeU a b) c (by unfold bigL; omega)
        have h4 := hM b c (by unfold bigL; omega)
        have h5 := hM a (mergeU b c) (by unfold bigL; omega)
        have h6 := hM a a (by unfold bigL; omega)
        have m5 := merge_len (mergeU a b) c
        have lm : (mergeU a b).length ≤ bigL := by unfold bigL; omega
        have lm5 : (mergeU (mergeU a b) c).length ≤ bigL := by unfold bigL; omega
        have lm4 : (mergeU a a).length ≤ bigL := by unfold bigL; omega
        have k1 := eq_true e1; have k2 := eq_true e2; have k3 := eq_true e3
        simp only [walk, Nat.reduceLT, Nat.reduceBEq, Nat.reduceAdd, Nat.reduceLeDiff, reduceIte, Int.reduceLT, Int.reduceLE, Int.reduceEq, Int.reduceToNat, Int.reduceBEq]
        refine callWp_of h1 ?_
        simp only [walk, Nat.reduceLT, Nat.reduceBEq, Nat.reduceAdd, Nat.reduceLeDiff, reduceIte, Int.reduceLT, Int.reduceLE, Int.reduceEq, Int.reduceToNat, Int.reduceBEq]
        refine callWp_of h2 ?_
        simp only [walk, Nat.reduceLT, Nat.reduceBEq, Nat.reduceAdd, Nat.reduceLeDiff, reduceIte, Int.reduceLT, Int.reduceLE, Int.reduceEq, Int.reduceToNat, Int.reduceBEq]
        refine callWp_of (hS _ _ lm) ?_
        simp only [walk, Nat.reduceLT, Nat.reduceBEq, Nat.reduceAdd, Nat.reduceLeDiff, reduceIte, Int.reduceLT, Int.reduceLE, Int.reduceEq, Int.reduceToNat, Int.reduceBEq, k1]
        refine callWp_of h3 ?_
        simp only [walk, Nat.reduceLT, Nat.reduceBEq, Nat.reduceAdd, Nat.reduceLeDiff, reduceIte, Int.reduceLT, Int.reduceLE, Int.reduceEq, Int.reduceToNat, Int.reduceBEq]
        refine callWp_of h4 ?_
        simp only [walk, Nat.reduceLT, Nat.reduceBEq, Nat.reduceAdd, Nat.reduceLeDiff, reduceIte, Int.reduceLT, Int.reduceLE, Int.reduceEq, Int.reduceToNat, Int.reduceBEq]
        refine callWp_of h5 ?_
        simp only [walk, Nat.reduceLT, Nat.reduceBEq, Nat.reduceAdd, Nat.reduceLeDiff, reduceIte, Int.reduceLT, Int.reduceLE, Int.reduceEq, Int.reduceToNat, Int.reduceBEq]
        refine callWp_of (hS _ _ lm5) ?_
        simp only [walk, Nat.reduceLT, Nat.reduceBEq, Nat.reduceAdd, Nat.reduceLeDiff, reduceIte, Int.reduceLT, Int.reduceLE, Int.reduceEq, Int.reduceToNat, Int.reduceBEq, k2]
        refine callWp_of h6 ?_
        simp only [walk, Nat.reduceLT, Nat.reduceBEq, Nat.reduceAdd, Nat.reduceLeDiff, reduceIte, Int.reduceLT, Int.reduceLE, Int.reduceEq, Int.reduceToNat, Int.reduceBEq]
        refine callWp_of (hS _ _ lm4) ?_
        simp only [walk, Nat.reduceLT, Nat.reduceBEq, Nat.reduceAdd, Nat.reduceLeDiff, reduceIte, Int.reduceLT, Int.reduceLE, Int.reduceEq, Int.reduceToNat, Int.reduceBEq, k3]
        refine callWp_of hy ?_
        simp only [walk, Nat.reduceLT, Nat.reduceBEq, Nat.reduceAdd, Nat.reduceLeDiff, reduceIte, Int.reduceLT, Int.reduceLE, Int.reduceEq, Int.reduceToNat, Int.reduceBEq]
end
end Go.AR
