import Derived.Test.YtphggkbbjnpaeaaG39
set_option linter.all false
/-! Bags: the law. -/
namespace Go.AR
open Go
def actX (d : Dt) (o : Ov) : Tx := ⟨d, 0, 1, false, [o]⟩
def oAdd : Ov := ⟨2, [[97]], (1, 5, []), 0, []⟩
def oRem : Ov := ⟨4, [[97]], (1, 5, []), 0, [((0, 1), 0)]⟩
section
variable {C : CallRel} {F : Nat → FuncId}
def S_act (R : Rel) : Prop := ∀ (d : Dt) (o : Ov), R [.v (dP d), .v (oP o)] (.val (tP (actX d o))) []
theorem g_plaw15_act : S_act ((c_plaw15_act F).gives C) := by
  intro d o
  refine gives_of rfl ?_
  unfold c_plaw15_act actX
  simp only [walk, Nat.reduceLT, Nat.reduceBEq, Nat.reduceAdd, Nat.reduceLeDiff, reduceIte, Int.reduceLT, Int.reduceLE, Int.reduceEq, Int.reduceToNat, Int.reduceBEq, layT]
  all_goals rfl
def exB1 : List Tx := [actX (0, 1) oAdd, actX (0, 2) oRem]
def exB2 : List Tx := [actX (0, 1) oAdd, actX (0, 2) oRem, actX (1, 1) oAdd]
theorem exB1_all : allL exB1 [] = [] := by decide
theorem exB2_all : allL exB2 [] = [⟨((1, 1), 0), oAdd, 1⟩] := by decide
theorem actX_ok (d : Dt) (o : Ov) (h : o = oAdd ∨ o = oRem) : tOk (actX d o) ∧ (actX d o).ops.length ≤ 1000 := by
  have hp : pOk [[97]] := ⟨by simp, by simp⟩
  refine ⟨⟨by simp [actX], fun x hx => ?_⟩, by simp [actX]⟩
  rw [List.mem_singleton.1 hx]
  rcases h with rfl | rfl
  · exact ⟨hp, by simp [oAdd], by simp [oAdd]⟩
  · exact ⟨hp, by simp [oRem], by simp [oRem]⟩
theorem exB1_ok : lOk exB1 := ⟨by decide, fun t ht => by
  simp only [exB1, List.mem_cons, List.not_mem_nil, or_false] at ht
  rcases ht with rfl | rfl
  · exact actX_ok _ _ (.inl rfl)
  · exact actX_ok _ _ (.inr rfl)⟩
theorem exB2_ok : lOk exB2 := ⟨by decide, fun t ht => by
  simp only [exB2, List.mem_cons, List.not_mem_nil, or_false] at ht
  rcases ht with rfl | rfl | rfl
  · exact actX_ok _ _ (.inl rfl)
  · exact actX_ok _ _ (.inr rfl)
  · exact actX_ok _ _ (.inl rfl)⟩
theorem g_plaw15_awake (h0 : S_act (C (F n_plaw15_act))) (h1 : S_allL (C (F n_live_All))) (h2 : S_hasB (C (F n_bag_Has))) : S_yes ((c_plaw15_awake F).gives C) := by
  refine gives_of rfl ?_
  unfold c_plaw15_awake
  have hp : pOk [[97]] := ⟨by simp, by simp⟩
  have s1 : sortU [] := by intro i j _ hj; simp at hj
  have hok1 : isOk (allL exB1 []) := allL_ok exB1_ok
  have hok2 : isOk (allL exB2 []) := allL_ok exB2_ok
  rw [exB1_all] at hok1
  rw [exB2_all] at hok2
  have f1 := h2 [] [[97]] (1, 5, []) hok1 hp
  have f2 := h2 [⟨((1, 1), 0), oAdd, 1⟩] [[97]] (1, 5, []) hok2 hp
  rw [show decide (0 < ((atL [] [[97]] 2).filter fun i => decide (i.o.v = ((1, 5, []) : Vl))).length) = false by decide] at f1
  rw [show decide (0 < ((atL [⟨((1, 1), 0), oAdd, 1⟩] [[97]] 2).filter fun i => decide (i.o.v = ((1, 5, []) : Vl))).length) = true by decide] at f2
  have a1 := h1 exB1 [] exB1_ok s1 (by simp)
  have a2 := h1 exB2 [] exB2_ok s1 (by simp)
  rw [exB1_all] at a1
  rw [exB2_all] at a2
  simp only [walk, Nat.reduceLT, Nat.reduceBEq, Nat.reduceAdd, Nat.reduceLeDiff, reduceIte, Int.reduceLT, Int.reduceLE, Int.reduceEq, Int.reduceToNat, Int.reduceBEq, layT]
  refine callWp_of (h0 (0, 1) oAdd) ?_
  simp only [walk, Nat.reduceLT, Nat.reduceBEq, Nat.reduceAdd, Nat.reduceLeDiff, reduceIte, Int.reduceLT, Int.reduceLE, Int.reduceEq, Int.reduceToNat, Int.reduceBEq]
  refine callWp_of (h0 (0, 2) oRem) ?_
  simp only [walk, Nat.reduceLT, Nat.reduceBEq, Nat.reduceAdd, Nat.reduceLeDiff, reduceIte, Int.reduceLT, Int.reduceLE, Int.reduceEq, Int.reduceToNat, Int.reduceBEq]
  refine callWp_of a1 ?_
  simp only [walk, Nat.reduceLT, Nat.reduceBEq, Nat.reduceAdd, Nat.reduceLeDiff, reduceIte, Int.reduceLT, Int.reduceLE, Int.reduceEq, Int.reduceToNat, Int.reduceBEq]
  refine callWp_of f1 ?_
  simp only [walk, Nat.reduceLT, Nat.reduceBEq, Nat.reduceAdd, Nat.reduceLeDiff, reduceIte, Int.reduceLT, Int.reduceLE, Int.reduceEq, Int.reduceToNat, Int.reduceBEq]
  refine callWp_of (h0 (1, 1) oAdd) ?_
  have hb : 3 * 64 ≤ 140737488355328 := by decide
  simp only [walk, Nat.reduceLT, Nat.reduceBEq, Nat.reduceAdd, Nat.reduceLeDiff, reduceIte, Int.reduceLT, Int.reduceLE, Int.reduceEq, Int.reduceToNat, Int.reduceBEq, hb]
  refine callWp_of a2 ?_
  simp only [walk, Nat.reduceLT, Nat.reduceBEq, Nat.reduceAdd, Nat.reduceLeDiff, reduceIte, Int.reduceLT, Int.reduceLE, Int.reduceEq, Int.reduceToNat, Int.reduceBEq]
  refine callWp_of f2 ?_
  simp only [walk, Nat.reduceLT, Nat.reduceBEq, Nat.reduceAdd, Nat.reduceLeDiff, reduceIte, Int.reduceLT, Int.reduceLE, Int.reduceEq, Int.reduceToNat, Int.reduceBEq]
def S_bag (R : Rel) : Prop := ∀ (l : List Tx) (u : List Ud) (p : List (List UInt8)) (v : Vl), R [.v (tsP l), .v (usP u), .v (ptP p), .v (vP v)] (.val (.bool true)) []
theorem g_BagTells (hA : S_yes (C (F n_plaw15_awake))) (h0 : S_lGood (C (F n_plaw13_Good))) (h1 : S_pShort (C (F n_pref10_Short))) (h2 : S_allL (C (F n_live_All))) (h3 : S_rAllL (C (F n_pref13_All))) (h4 : S_addsL (C (F n_pref15_Adds))) (h5 : S_bagV (C (F n_bag_Values))) (h6 : S_bagV (C (F n_pref15_Values))) (h7 : S_vSame (C (F n_pref09_Same))) (h8 : S_addsL (C (F n_bag_Adds))) (h9 : S_rsame (C (F n_pref13_SameRefs))) (h10 : S_hasB (C (F n_bag_Has))) : S_bag ((c_plaw15_BagTells F).gives C) := by
  intro l u p v
  refine gives_of rfl ?_
  unfold c_plaw15_BagTells
  simp only [walk, Nat.reduceLT, Nat.reduceBEq, Nat.reduceAdd, Nat.reduceLeDiff, reduceIte, Int.reduceLT, Int.reduceLE, Int.reduceEq, Int.reduceToNat, Int.reduceBEq]
  refine callWp_of (h0 l u) ?_
  cases hg : (goodT 20 l && (decide (u.length ≤ 100) && rightU u)) with
  | false =>
    simp only [walk, Nat.reduceLT, Nat.reduceBEq, Nat.reduceAdd, Nat.reduceLeDiff, reduceIte, Int.reduceLT, Int.reduceLE, Int.reduceEq, Int.reduceToNat, Int.reduceBEq]
    refine callWp_of hA ?_
    simp only [walk, Nat.reduceLT, Nat.reduceBEq, Nat.reduceAdd, Nat.reduceLeDiff, reduceIte, Int.reduceLT, Int.reduceLE, Int.reduceEq, Int.reduceToNat, Int.reduceBEq]
  | true =>
  rw [Bool.and_eq_true, Bool.and_eq_true, decide_eq_true_eq] at hg
  obtain ⟨hgl, hul, hur⟩ := hg
  obtain ⟨hl, _, _⟩ := good_ok hgl
  have hs := sort_of_right hur
  have hu : u.length ≤ bigL := by unfold bigL; omega
  simp only [walk, Nat.reduceLT, Nat.reduceBEq, Nat.reduceAdd, Nat.reduceLeDiff, reduceIte, Int.reduceLT, Int.reduceLE, Int.reduceEq, Int.reduceToNat, Int.reduceBEq]
  refine callWp_of (h1 p) ?_
  cases hp : pShort p with
  | false =>
    simp only [walk, Nat.reduceLT, Nat.reduceBEq, Nat.reduceAdd, Nat.reduceLeDiff, reduceIte, Int.reduceLT, Int.reduceLE, Int.reduceEq, Int.reduceToNat, Int.reduceBEq]
    refine callWp_of hA ?_
    simp only [walk, Nat.reduceLT, Nat.reduceBEq, Nat.reduceAdd, Nat.reduceLeDiff, reduceIte, Int.reduceLT, Int.reduceLE, Int.reduceEq, Int.reduceToNat, Int.reduceBEq]
  | true =>
  have hpo := short_ok hp
  have hok := allL_ok (u := u) hl
  simp only [walk, Nat.reduceLT, Nat.reduceBEq, Nat.reduceAdd, Nat.reduceLeDiff, reduceIte, Int.reduceLT, Int.reduceLE, Int.reduceEq, Int.reduceToNat, Int.reduceBEq]
  refine callWp_of (h2 l u hl hs hu) ?_
  simp only [walk, Nat.reduceLT, Nat.reduceBEq, Nat.reduceAdd, Nat.reduceLeDiff, reduceIte, Int.reduceLT, Int.reduceLE, Int.reduceEq, Int.reduceToNat, Int.reduceBEq]
  refine callWp_of (h3 l u hl hu) ?_
  generalize allL l u = L at *
  have hat : isOk (atL L p 2) := filter_ok (fun i => decide (oLeaf i.o.k = 2) && decide (i.o.p = p)) hok
  have k4 := h4 L p v hok hpo
  have k8 := h8 L p v hok hpo
  have k10 := h10 L p v hok hpo
  have hvl : (bagL L p).length ≤ 2000000 := by
    have := (valsV_ok (atL L p 2) (atL L p 2).length (Nat.le_refl _)).2.1
    rw [List.take_length] at this
    have h := hat.1
    unfold bagL; omega
  have hfl : ((atL L p 2).filter fun i => decide (i.o.v = v)).length ≤ 1000000 := Nat.le_trans (List.length_filter_le _ _) hat.1
  have k5 := h5 L p hok hpo
  have k6 : C (F n_pref15_Values) [.v (isP L), .v (ptP p)] (.val (vsP (bagL L p))) [] := h6 L p hok hpo
  generalize bagL L p = V at *
  generalize ((atL L p 2).filter fun i => decide (i.o.v = v)) = X at *
  simp only [walk, Nat.reduceLT, Nat.reduceBEq, Nat.reduceAdd, Nat.reduceLeDiff, reduceIte, Int.reduceLT, Int.reduceLE, Int.reduceEq, Int.reduceToNat, Int.reduceBEq]
  refine callWp_of k4 ?_
  simp only [walk, Nat.reduceLT, Nat.reduceBEq, Nat.reduceAdd, Nat.reduceLeDiff, reduceIte, Int.reduceLT, Int.reduceLE, Int.reduceEq, Int.reduceToNat, Int.reduceBEq]
  refine callWp_of k5 ?_
  simp only [walk, Nat.reduceLT, Nat.reduceBEq, Nat.reduceAdd, Nat.reduceLeDiff, reduceIte, Int.reduceLT, Int.reduceLE, Int.reduceEq, Int.reduceToNat, Int.reduceBEq]
  refine callWp_of k6 ?_
  simp only [walk, Nat.reduceLT, Nat.reduceBEq, Nat.reduceAdd, Nat.reduceLeDiff, reduceIte, Int.reduceLT, Int.reduceLE, Int.reduceEq, Int.reduceToNat, Int.reduceBEq]
  refine callWp_of (h7 V V hvl) ?_
  simp only [walk, Nat.reduceLT, Nat.reduceBEq, Nat.reduceAdd, Nat.reduceLeDiff, reduceIte, Int.reduceLT, Int.reduceLE, Int.reduceEq, Int.reduceToNat, Int.reduceBEq]
  refine callWp_of k8 ?_
  simp only [walk, Nat.reduceLT, Nat.reduceBEq, Nat.reduceAdd, Nat.reduceLeDiff, reduceIte, Int.reduceLT, Int.reduceLE, Int.reduceEq, Int.reduceToNat, Int.reduceBEq]
  refine callWp_of (h9 _ _ (by rw [List.length_map]; omega)) ?_
  simp only [walk, Nat.reduceLT, Nat.reduceBEq, Nat.reduceAdd, Nat.reduceLeDiff, reduceIte, Int.reduceLT, Int.reduceLE, Int.reduceEq, Int.reduceToNat, Int.reduceBEq]
  refine callWp_of k10 ?_
  have e : ((X.length : Int) > 0) = (0 < X.length) := by apply propext; omega
  have ee : (decide (0 < X.length) == decide (0 < X.length)) = true := beq_self_eq_true _
  simp only [walk, Nat.reduceLT, Nat.reduceBEq, Nat.reduceAdd, Nat.reduceLeDiff, reduceIte, Int.reduceLT, Int.reduceLE, Int.reduceEq, Int.reduceToNat, Int.reduceBEq, uRows_len, List.length_map, e, ee]
  refine callWp_of hA ?_
  simp only [walk, Nat.reduceLT, Nat.reduceBEq, Nat.reduceAdd, Nat.reduceLeDiff, reduceIte, Int.reduceLT, Int.reduceLE, Int.reduceEq, Int.reduceToNat, Int.reduceBEq]
end
end Go.AR
