import Derived.Test.YtojhbllkhljggaaP08
set_option linter.all false
/-! Chapter 8's laws: deltas, turns, and the example. -/
namespace Go.AR
open Go
section
variable {C : CallRel} {F : Nat → FuncId}
theorem g_plaw08_TallyDeltas (hy : S_yes (C (F n_plaw08_awake))) (hG : S_rGood (C (F n_pref08_Good))) (hM : S_uMerge (C (F n_tally_Join))) (hO : S_uOver (C (F n_tally_Over))) (hS : S_uSame (C (F n_tally_Same))) (hg : S_uGet (C (F n_tally_Get))) : S_D3 ((c_plaw08_TallyDeltas F).gives C) := by
  intro a b d
  refine gives_of rfl ?_
  unfold c_plaw08_TallyDeltas
  simp only [walk, Nat.reduceLT, Nat.reduceBEq, Nat.reduceAdd, Nat.reduceLeDiff, reduceIte, Int.reduceLT, Int.reduceLE, Int.reduceEq, Int.reduceToNat, Int.reduceBEq]
  refine callWp_of (hG a) ?_
  cases qa : (decide (a.length ≤ 100) && rightU a) with
  | false =>
    simp only [walk, Nat.reduceLT, Nat.reduceBEq, Nat.reduceAdd, Nat.reduceLeDiff, reduceIte, Int.reduceLT, Int.reduceLE, Int.reduceEq, Int.reduceToNat, Int.reduceBEq]
    refine callWp_of hy ?_
    simp only [walk, Nat.reduceLT, Nat.reduceBEq, Nat.reduceAdd, Nat.reduceLeDiff, reduceIte, Int.reduceLT, Int.reduceLE, Int.reduceEq, Int.reduceToNat, Int.reduceBEq]
  | true =>
    simp only [walk, Nat.reduceLT, Nat.reduceBEq, Nat.reduceAdd, Nat.reduceLeDiff, reduceIte, Int.reduceLT, Int.reduceLE, Int.reduceEq, Int.reduceToNat, Int.reduceBEq]
    refine callWp_of (hG b) ?_
    cases qb : (decide (b.length ≤ 100) && rightU b) with
    | false =>
      simp only [walk, Nat.reduceLT, Nat.reduceBEq, Nat.reduceAdd, Nat.reduceLeDiff, reduceIte, Int.reduceLT, Int.reduceLE, Int.reduceEq, Int.reduceToNat, Int.reduceBEq]
      refine callWp_of hy ?_
      simp only [walk, Nat.reduceLT, Nat.reduceBEq, Nat.reduceAdd, Nat.reduceLeDiff, reduceIte, Int.reduceLT, Int.reduceLE, Int.reduceEq, Int.reduceToNat, Int.reduceBEq]
    | true =>
      simp only [Bool.and_eq_true, decide_eq_true_eq] at qa qb
      have ra := ri_iff.1 qa.2; have rb := ri_iff.1 qb.2
      have sb := sort_of_right qb.2
      have sa := sort_of_right qa.2
      obtain ⟨rm, gm⟩ := merge_spec a b ra rb
      obtain ⟨ro, go⟩ := over_spec ra rb
      obtain ⟨r1, g1⟩ := merge_spec b (overU a b) rb ro
      obtain ⟨r2, g2⟩ := over_spec ra rm
      have sm := sort_of_right (ri_iff.2 rm); have so := sort_of_right (ri_iff.2 ro)
      have n1 := get_nonneg ra; have n2 := get_nonneg rb
      have e1 : mergeU b (overU a b) = mergeU a b := ri_ext r1 rm (fun x => by
        rw [g1, go, gm]; have := n1 x; have := n2 x; split <;> omega)
      have e2 : overU a (mergeU a b) = [] := ri_ext r2 Ri.nil (fun x => by
        rw [g2, gm, if_neg (by omega)]; rfl)
      have m1 := merge_len a b
      have m2 := merge_len b (overU a b)
      have m3 : (overU a b).length ≤ a.length := List.length_filter_le _ _
      have la : a.length ≤ bigL := by unfold bigL; omega
      have lb : b.length ≤ bigL := by unfold bigL; omega
      have lm : (mergeU a b).length ≤ bigL := by unfold bigL; omega
      have lo : (overU a b).length ≤ bigL := by unfold bigL; omega
      have l2 : (mergeU b (overU a b)).length ≤ bigL := by unfold bigL; omega
      have h1 := hM a b (by unfold bigL; omega)
      have h2 := hM b (overU a b) (by unfold bigL; omega)
      have k1 := eq_true e1
      have z0 : ((0 : Int) == 0) = true := rfl
      simp only [walk, Nat.reduceLT, Nat.reduceBEq, Nat.reduceAdd, Nat.reduceLeDiff, reduceIte, Int.reduceLT, Int.reduceLE, Int.reduceEq, Int.reduceToNat, Int.reduceBEq]
      refine callWp_of (hO a b sb la lb) ?_
      simp only [walk, Nat.reduceLT, Nat.reduceBEq, Nat.reduceAdd, Nat.reduceLeDiff, reduceIte, Int.reduceLT, Int.reduceLE, Int.reduceEq, Int.reduceToNat, Int.reduceBEq]
      refine callWp_of h1 ?_
      simp only [walk, Nat.reduceLT, Nat.reduceBEq, Nat.reduceAdd, Nat.reduceLeDiff, reduceIte, Int.reduceLT, Int.reduceLE, Int.reduceEq, Int.reduceToNat, Int.reduceBEq]
      refine callWp_of h2 ?_
      simp only [walk, Nat.reduceLT, Nat.reduceBEq, Nat.reduceAdd, Nat.reduceLeDiff, reduceIte, Int.reduceLT, Int.reduceLE, Int.reduceEq, Int.reduceToNat, Int.reduceBEq]
      refine callWp_of (hS _ _ l2) ?_
      simp only [walk, Nat.reduceLT, Nat.reduceBEq, Nat.reduceAdd, Nat.reduceLeDiff, reduceIte, Int.reduceLT, Int.reduceLE, Int.reduceEq, Int.reduceToNat, Int.reduceBEq, k1]
      refine callWp_of (hO a (mergeU a b) sm la lm) ?_
      have l0 : (uRows (overU a (mergeU a b))).length = 0 := by rw [e2]; rfl
      simp only [walk, Nat.reduceLT, Nat.reduceBEq, Nat.reduceAdd, Nat.reduceLeDiff, reduceIte, Int.reduceLT, Int.reduceLE, Int.reduceEq, Int.reduceToNat, Int.reduceBEq, l0, z0]
      refine callWp_of (hg (overU a b) d so lo) ?_
      simp only [walk, Nat.reduceLT, Nat.reduceBEq, Nat.reduceAdd, Nat.reduceLeDiff, reduceIte, Int.reduceLT, Int.reduceLE, Int.reduceEq, Int.reduceToNat, Int.reduceBEq]
      refine callWp_of (hg a d sa la) ?_
      simp only [walk, Nat.reduceLT, Nat.reduceBEq, Nat.reduceAdd, Nat.reduceLeDiff, reduceIte, Int.reduceLT, Int.reduceLE, Int.reduceEq, Int.reduceToNat, Int.reduceBEq]
      refine callWp_of (hg b d sb lb) ?_
      have k2 : (decide (getU (overU a b) d > 0) == decide (getU a d > getU b d)) = true := by
        rw [go]
        have := n1 d; have := n2 d
        by_cases c : getU a d > getU b d
        · rw [if_pos c, decide_eq_true c, decide_eq_true (by omega : getU a d > 0)]; rfl
        · rw [if_neg c, decide_eq_false c]; rfl
      simp only [walk, Nat.reduceLT, Nat.reduceBEq, Nat.reduceAdd, Nat.reduceLeDiff, reduceIte, Int.reduceLT, Int.reduceLE, Int.reduceEq, Int.reduceToNat, Int.reduceBEq, k2]
      refine callWp_of (hg (mergeU a b) d sm lm) ?_
      simp only [walk, Nat.reduceLT, Nat.reduceBEq, Nat.reduceAdd, Nat.reduceLeDiff, reduceIte, Int.reduceLT, Int.reduceLE, Int.reduceEq, Int.reduceToNat, Int.reduceBEq]
      refine callWp_of (hg a d sa la) ?_
      simp only [walk, Nat.reduceLT, Nat.reduceBEq, Nat.reduceAdd, Nat.reduceLeDiff, reduceIte, Int.reduceLT, Int.reduceLE, Int.reduceEq, Int.reduceToNat, Int.reduceBEq]
      refine callWp_of (hg b d sb lb) ?_
      have k3 : (getU (mergeU a b) d == max (getU a d) (getU b d)) = true := by rw [gm]; simp
      simp only [walk, Nat.reduceLT, Nat.reduceBEq, Nat.reduceAdd, Nat.reduceLeDiff, reduceIte, Int.reduceLT, Int.reduceLE, Int.reduceEq, Int.reduceToNat, Int.reduceBEq, k3]
      refine callWp_of hy ?_
      simp only [walk, Nat.reduceLT, Nat.reduceBEq, Nat.reduceAdd, Nat.reduceLeDiff, reduceIte, Int.reduceLT, Int.reduceLE, Int.reduceEq, Int.reduceToNat, Int.reduceBEq]
theorem g_plaw08_TallyTurns (hy : S_yes (C (F n_plaw08_awake))) (hG : S_rGood (C (F n_pref08_Good))) (hd : S_dotOk (C (F n_pref04_Right))) (hR : S_uRaiseP (C (F n_tally_Raise))) (hg : S_uGet (C (F n_tally_Get))) (hP : S_uPut (C (F n_tally_Put))) (hS : S_uSeen (C (F n_tally_Seen))) : S_U3 ((c_plaw08_TallyTurns F).gives C) := by
  intro l d o
  refine gives_of rfl ?_
  unfold c_plaw08_TallyTurns
  simp only [walk, Nat.reduceLT, Nat.reduceBEq, Nat.reduceAdd, Nat.reduceLeDiff, reduceIte, Int.reduceLT, Int.reduceLE, Int.reduceEq, Int.reduceToNat, Int.reduceBEq]
  refine callWp_of (hG l) ?_
  cases qa : (decide (l.length ≤ 100) && rightU l) with
  | false =>
    simp only [walk, Nat.reduceLT, Nat.reduceBEq, Nat.reduceAdd, Nat.reduceLeDiff, reduceIte, Int.reduceLT, Int.reduceLE, Int.reduceEq, Int.reduceToNat, Int.reduceBEq]
    refine callWp_of hy ?_
    simp only [walk, Nat.reduceLT, Nat.reduceBEq, Nat.reduceAdd, Nat.reduceLeDiff, reduceIte, Int.reduceLT, Int.reduceLE, Int.reduceEq, Int.reduceToNat, Int.reduceBEq]
  | true =>
    simp only [walk, Nat.reduceLT, Nat.reduceBEq, Nat.reduceAdd, Nat.reduceLeDiff, reduceIte, Int.reduceLT, Int.reduceLE, Int.reduceEq, Int.reduceToNat, Int.reduceBEq]
    refine callWp_of (hd d) ?_
    cases qd : dotOk d with
    | false =>
      simp only [walk, Nat.reduceLT, Nat.reduceBEq, Nat.reduceAdd, Nat.reduceLeDiff, reduceIte, Int.reduceLT, Int.reduceLE, Int.reduceEq, Int.reduceToNat, Int.reduceBEq]
      refine callWp_of hy ?_
      simp only [walk, Nat.reduceLT, Nat.reduceBEq, Nat.reduceAdd, Nat.reduceLeDiff, reduceIte, Int.reduceLT, Int.reduceLE, Int.reduceEq, Int.reduceToNat, Int.reduceBEq]
    | true =>
      simp only [Bool.and_eq_true, decide_eq_true_eq] at qa
      have rl := ri_iff.1 qa.2
      have sl := sort_of_right qa.2
      have n1 := get_nonneg rl d; have n2 := get_le rl d
      have ll : l.length ≤ bigL := by unfold bigL; omega
      have ll1 : l.length + 1 ≤ bigL := by unfold bigL; omega
      simp only [walk, Nat.reduceLT, Nat.reduceBEq, Nat.reduceAdd, Nat.reduceLeDiff, reduceIte, Int.reduceLT, Int.reduceLE, Int.reduceEq, Int.reduceToNat, Int.reduceBEq]
      refine callWp_of (hR l d sl (pos_of_right qa.2) ll) ?_
      by_cases c : getU l d ≥ 64
      · have er : raiseU l d = (z3, 14) := by unfold raiseU; rw [qd, if_neg (by simp), if_pos c]
        have e1 : ((14 : Int) != 0) = true := rfl
        have e2 : ((14 : Int) == 14) = true := rfl
        have e3 : (getU l d == 64) = true := by rw [beq_iff_eq]; omega
        have e4 : decide ((((0, 0), 0) : Ud) = ((0, 0), 0)) = true := by decide
        rw [er]
        simp only [walk, Nat.reduceLT, Nat.reduceBEq, Nat.reduceAdd, Nat.reduceLeDiff, reduceIte, Int.reduceLT, Int.reduceLE, Int.reduceEq, Int.reduceToNat, Int.reduceBEq, z3, e1, e2]
        refine callWp_of (hg l d sl ll) ?_
        simp only [walk, Nat.reduceLT, Nat.reduceBEq, Nat.reduceAdd, Nat.reduceLeDiff, reduceIte, Int.reduceLT, Int.reduceLE, Int.reduceEq, Int.reduceToNat, Int.reduceBEq, e3, eqCells_u, e4]
        refine callWp_of hy ?_
        simp only [walk, Nat.reduceLT, Nat.reduceBEq, Nat.reduceAdd, Nat.reduceLeDiff, reduceIte, Int.reduceLT, Int.reduceLE, Int.reduceEq, Int.reduceToNat, Int.reduceBEq]
      · have er : raiseU l d = ((d, getU l d + 1), 0) := by unfold raiseU; rw [qd, if_neg (by simp), if_neg c]
        have e1 : ((0 : Int) != 0) = false := rfl
        obtain ⟨g, hgd⟩ : ∃ g, g = getU l d := ⟨_, rfl⟩
        rw [← hgd] at er n1 n2 c
        have ou : uOk (d, g + 1) = true := by unfold uOk; rw [qd, decide_eq_true (by simp only; omega : 1 ≤ (d, g + 1).2), decide_eq_true (by simp only; omega : (d, g + 1).2 ≤ 64)]; rfl
        have gm : ∀ x, getU (putU l (d, g + 1)) x = if x = d then g + 1 else getU l x := fun x => by
          rw [put_ins ou rl, ins_get ou x rl]
          by_cases e : x = d
          · rw [if_pos e, if_pos e, e, ← hgd]; simp only; omega
          · rw [if_neg e, if_neg e]
        have rp := put_ri rl (d, g + 1)
        have sp := sort_of_right (ri_iff.2 rp)
        have lp : (putU l (d, g + 1)).length ≤ bigL := by rw [put_eq rl]; exact Nat.le_trans (rPut_len l _) ll1
        have gd : getU (putU l (d, g + 1)) d = g + 1 := by rw [gm, if_pos rfl]
        have e5 : (!(decide ((g + 1).tmod 2 = 0) == decide (g.tmod 2 = 0))) = true := by
          have t1 : (g + 1).tmod 2 = (g + 1) % 2 := Int.tmod_eq_emod_of_nonneg (by omega)
          have t2 : g.tmod 2 = g % 2 := Int.tmod_eq_emod_of_nonneg n1
          rw [t1, t2]
          by_cases q : g % 2 = 0
          · rw [decide_eq_true q, decide_eq_false (by omega)]; rfl
          · rw [decide_eq_false q, decide_eq_true (by omega)]; rfl
        have w1 : IntKind.i64.wrap (g + 1) = g + 1 := wrap64 (by omega) (by omega)
        have e7 : (g + 1 == g + 1) = true := by simp
        rw [er]
        simp only [walk, Nat.reduceLT, Nat.reduceBEq, Nat.reduceAdd, Nat.reduceLeDiff, reduceIte, Int.reduceLT, Int.reduceLE, Int.reduceEq, Int.reduceToNat, Int.reduceBEq, e1]
        refine callWp_of (hP l (d, g + 1) sl ll1) ?_
        simp only [walk, Nat.reduceLT, Nat.reduceBEq, Nat.reduceAdd, Nat.reduceLeDiff, reduceIte, Int.reduceLT, Int.reduceLE, Int.reduceEq, Int.reduceToNat, Int.reduceBEq]
        refine callWp_of (hS _ d sp lp) ?_
        simp only [walk, Nat.reduceLT, Nat.reduceBEq, Nat.reduceAdd, Nat.reduceLeDiff, reduceIte, Int.reduceLT, Int.reduceLE, Int.reduceEq, Int.reduceToNat, Int.reduceBEq]
        refine callWp_of (hS l d sl ll) ?_
        simp only [walk, Nat.reduceLT, Nat.reduceBEq, Nat.reduceAdd, Nat.reduceLeDiff, reduceIte, Int.reduceLT, Int.reduceLE, Int.reduceEq, Int.reduceToNat, Int.reduceBEq, gd, ← hgd, e5, eqCells_d]
        by_cases q : o = d
        · have e6 : decide (((o.1, o.2) : Dt) = (d.1, d.2)) = true := decide_eq_true q
          simp only [walk, Nat.reduceLT, Nat.reduceBEq, Nat.reduceAdd, Nat.reduceLeDiff, reduceIte, Int.reduceLT, Int.reduceLE, Int.reduceEq, Int.reduceToNat, Int.reduceBEq, e6]
          refine callWp_of (hg _ d sp lp) ?_
          simp only [walk, Nat.reduceLT, Nat.reduceBEq, Nat.reduceAdd, Nat.reduceLeDiff, reduceIte, Int.reduceLT, Int.reduceLE, Int.reduceEq, Int.reduceToNat, Int.reduceBEq]
          refine callWp_of (hg l d sl ll) ?_
          simp only [walk, Nat.reduceLT, Nat.reduceBEq, Nat.reduceAdd, Nat.reduceLeDiff, reduceIte, Int.reduceLT, Int.reduceLE, Int.reduceEq, Int.reduceToNat, Int.reduceBEq, gd, ← hgd, w1, e7]
          refine callWp_of hy ?_
          simp only [walk, Nat.reduceLT, Nat.reduceBEq, Nat.reduceAdd, Nat.reduceLeDiff, reduceIte, Int.reduceLT, Int.reduceLE, Int.reduceEq, Int.reduceToNat, Int.reduceBEq]
        · have e6 : decide (((o.1, o.2) : Dt) = (d.1, d.2)) = false := decide_eq_false q
          have e8 : (getU (putU l (d, g + 1)) o == getU l o) = true := by rw [gm, if_neg q]; simp
          simp only [walk, Nat.reduceLT, Nat.reduceBEq, Nat.reduceAdd, Nat.reduceLeDiff, reduceIte, Int.reduceLT, Int.reduceLE, Int.reduceEq, Int.reduceToNat, Int.reduceBEq, e6]
          refine callWp_of (hg _ o sp lp) ?_
          simp only [walk, Nat.reduceLT, Nat.reduceBEq, Nat.reduceAdd, Nat.reduceLeDiff, reduceIte, Int.reduceLT, Int.reduceLE, Int.reduceEq, Int.reduceToNat, Int.reduceBEq]
          refine callWp_of (hg l o sl ll) ?_
          simp only [walk, Nat.reduceLT, Nat.reduceBEq, Nat.reduceAdd, Nat.reduceLeDiff, reduceIte, Int.reduceLT, Int.reduceLE, Int.reduceEq, Int.reduceToNat, Int.reduceBEq, e8]
          refine callWp_of (hg _ d sp lp) ?_
          simp only [walk, Nat.reduceLT, Nat.reduceBEq, Nat.reduceAdd, Nat.reduceLeDiff, reduceIte, Int.reduceLT, Int.reduceLE, Int.reduceEq, Int.reduceToNat, Int.reduceBEq]
          refine callWp_of (hg l d sl ll) ?_
          simp only [walk, Nat.reduceLT, Nat.reduceBEq, Nat.reduceAdd, Nat.reduceLeDiff, reduceIte, Int.reduceLT, Int.reduceLE, Int.reduceEq, Int.reduceToNat, Int.reduceBEq, gd, ← hgd, w1, e7]
          refine callWp_of hy ?_
          simp only [walk, Nat.reduceLT, Nat.reduceBEq, Nat.reduceAdd, Nat.reduceLeDiff, reduceIte, Int.reduceLT, Int.reduceLE, Int.reduceEq, Int.reduceToNat, Int.reduceBEq]
theorem g_plaw08_awake (hP : S_uPut (C (F n_tally_Put))) (hR : S_uRaiseP (C (F n_tally_Raise))) (hg : S_uGet (C (F n_tally_Get))) (hS : S_uSeen (C (F n_tally_Seen))) : S_yes ((c_plaw08_awake F).gives C) := by
  refine gives_of rfl ?_
  unfold c_plaw08_awake
  have l1 : putU [] ((0, 1), 1) = [((0, 1), 1)] := by decide
  have l2 : putU [((0, 1), 1)] ((0, 1), 2) = [((0, 1), 2)] := by decide
  have s0 : sortU [] := fun i j _ h => by simp at h
  have s1 : ∀ u, sortU [u] := fun u i j h k => by simp at k; omega
  have b1 : ∀ u : Ud, [u].length ≤ bigL := fun u => by simp [bigL]
  have b2 : ∀ u : Ud, [u].length + 1 ≤ bigL := fun u => by simp [bigL]
  have r1 : raiseU [((0, 1), 1)] (0, 1) = (((0, 1), 2), 0) := by decide
  have g1 : getU [((0, 1), 1)] (0, 1) = 1 := by decide
  have g2 : getU [((0, 1), 2)] (0, 1) = 2 := by decide
  have d1 : decide ((1 : Int).tmod 2 = 0) = false := by decide
  have d2 : decide ((2 : Int).tmod 2 = 0) = true := by decide
  have z0 : ((0 : Int) == 0) = true := rfl
  have z2 : ((2 : Int) == 2) = true := rfl
  simp only [walk, Nat.reduceLT, Nat.reduceBEq, Nat.reduceAdd, Nat.reduceLeDiff, reduceIte, Int.reduceLT, Int.reduceLE, Int.reduceEq, Int.reduceToNat, Int.reduceBEq]
  refine callWp_of (hP [] ((0, 1), 1) s0 (by simp [bigL])) ?_
  rw [l1]
  simp only [walk, Nat.reduceLT, Nat.reduceBEq, Nat.reduceAdd, Nat.reduceLeDiff, reduceIte, Int.reduceLT, Int.reduceLE, Int.reduceEq, Int.reduceToNat, Int.reduceBEq]
  refine callWp_of (hR [((0, 1), 1)] (0, 1) (s1 _) (fun j hj => by simp at hj; subst hj; decide) (b1 _)) ?_
  rw [r1]
  simp only [walk, Nat.reduceLT, Nat.reduceBEq, Nat.reduceAdd, Nat.reduceLeDiff, reduceIte, Int.reduceLT, Int.reduceLE, Int.reduceEq, Int.reduceToNat, Int.reduceBEq]
  refine callWp_of (hS [((0, 1), 1)] (0, 1) (s1 _) (b1 _)) ?_
  rw [g1]
  simp only [walk, Nat.reduceLT, Nat.reduceBEq, Nat.reduceAdd, Nat.reduceLeDiff, reduceIte, Int.reduceLT, Int.reduceLE, Int.reduceEq, Int.reduceToNat, Int.reduceBEq, d1, z0]
  refine callWp_of (hP [((0, 1), 1)] ((0, 1), 2) (s1 _) (b2 _)) ?_
  rw [l2]
  simp only [walk, Nat.reduceLT, Nat.reduceBEq, Nat.reduceAdd, Nat.reduceLeDiff, reduceIte, Int.reduceLT, Int.reduceLE, Int.reduceEq, Int.reduceToNat, Int.reduceBEq]
  refine callWp_of (hS [((0, 1), 2)] (0, 1) (s1 _) (b1 _)) ?_
  rw [g2]
  simp only [walk, Nat.reduceLT, Nat.reduceBEq, Nat.reduceAdd, Nat.reduceLeDiff, reduceIte, Int.reduceLT, Int.reduceLE, Int.reduceEq, Int.reduceToNat, Int.reduceBEq, d2]
  refine callWp_of (hP [((0, 1), 1)] ((0, 1), 2) (s1 _) (b2 _)) ?_
  rw [l2]
  simp only [walk, Nat.reduceLT, Nat.reduceBEq, Nat.reduceAdd, Nat.reduceLeDiff, reduceIte, Int.reduceLT, Int.reduceLE, Int.reduceEq, Int.reduceToNat, Int.reduceBEq]
  refine callWp_of (hg [((0, 1), 2)] (0, 1) (s1 _) (b1 _)) ?_
  rw [g2]
  simp only [walk, Nat.reduceLT, Nat.reduceBEq, Nat.reduceAdd, Nat.reduceLeDiff, reduceIte, Int.reduceLT, Int.reduceLE, Int.reduceEq, Int.reduceToNat, Int.reduceBEq, z2]
end
end Go.AR
