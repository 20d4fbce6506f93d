import Derived.Test.YtillphnjhefioaaG37
set_option linter.all false
/-! Which operations count: the law that tells. -/
namespace Go.AR
open Go
theorem itemsO_ok (gone : Ud → Bool) (d : Dt) (tm : Int) : ∀ (os : List Ov) (i : Nat), (∀ o ∈ os, oOk o) → ∀ x ∈ itemsO gone d tm i os, oOk x.o
  | [], i, _, x, hx => by simp [itemsO] at hx
  | o :: os, i, h, x, hx => by
    rw [itemsO] at hx
    rcases List.mem_append.1 hx with hx | hx
    · split at hx
      · rw [List.mem_singleton.1 hx]; exact h o (by simp)
      · cases hx
    · exact itemsO_ok gone d tm os (i + 1) (fun o ho => h o (by simp [ho])) x hx
theorem allL_ok {l : List Tx} {u : List Ud} (hl : lOk l) : isOk (allL l u) := by
  refine ⟨?_, fun x hx => ?_⟩
  · have := flat_items_len (itemsT (covL l u) u) (itemsT_len (covL l u) u) l (fun t ht => (hl.2 t ht).2)
    exact Nat.le_trans this (Nat.le_trans (Nat.mul_le_mul hl.1 (Nat.le_refl 1000)) (by decide))
  · unfold allL at hx
    obtain ⟨t, ht, hx⟩ := List.mem_flatMap.1 hx
    unfold itemsT at hx
    split at hx
    · exact itemsO_ok _ _ _ t.ops 0 (hl.2 t ht).1.2 x hx
    · cases hx
theorem filter_ok {l : List It} (f : It → Bool) (h : isOk l) : isOk (l.filter f) :=
  ⟨Nat.le_trans (List.length_filter_le f l) h.1, fun i hi => h.2 i (List.mem_filter.1 hi).1⟩
theorem good_ok {l : List Tx} (h : goodT 20 l = true) : lOk l ∧ risesT l = true ∧ l.length ≤ 20 := by
  unfold goodT at h
  simp only [Bool.and_eq_true, decide_eq_true_eq, List.all_eq_true] at h
  obtain ⟨h1, h2, h3⟩ := h
  exact ⟨⟨by omega, fun t ht => ⟨(tShort_ok (h3 t ht).1).2.2, by have := (tShort_ok (h3 t ht).1).1; omega⟩⟩, h2, by omega⟩
section
variable {C : CallRel} {F : Nat → FuncId}
def S_lTells (R : Rel) : Prop := ∀ (l : List Tx) (u : List Ud) (p : List (List UInt8)) (k : Int), R [.v (tsP l), .v (usP u), .v (ptP p), .v (.int .i64 k)] (.val (.bool true)) []
theorem g_LiveTells (hA : S_yes (C (F n_plaw13_awake))) (h0 : S_lGood (C (F n_plaw13_Good))) (h1 : S_pShort (C (F n_pref10_Short))) (h2 : S_allL (C (F n_live_All))) (h3 : S_rAllL (C (F n_pref13_All))) (h4 : S_iSame (C (F n_plaw13_Same))) (h5 : S_iAt (C (F n_live_At))) (h6 : S_iAt (C (F n_pref13_At))) (h7 : S_iUnder (C (F n_live_Under))) (h8 : S_iUnder (C (F n_pref13_Under))) (h9 : S_iRefs (C (F n_live_Refs))) (h10 : S_iRefs (C (F n_pref13_Refs))) (h11 : S_rsame (C (F n_pref13_SameRefs))) (h12 : S_iSame (C (F n_live_Same))) : S_lTells ((c_plaw13_LiveTells F).gives C) := by
  intro l u p k
  refine gives_of rfl ?_
  unfold c_plaw13_LiveTells
  simp only [walk, Nat.reduceLT, Nat.reduceBEq, Nat.reduceAdd, Nat.reduceLeDiff, reduceIte, Int.reduceLT, Int.reduceLE, Int.reduceEq, Int.reduceToNat, Int.reduceBEq]
  refine callWp_of (h0 l u) ?_
  cases hg : (goodT 20 l && (decide (u.length ≤ 100) && rightU u)) with
  | false =>
    simp only [walk, Nat.reduceLT, Nat.reduceBEq, Nat.reduceAdd, Nat.reduceLeDiff, reduceIte, Int.reduceLT, Int.reduceLE, Int.reduceEq, Int.reduceToNat, Int.reduceBEq]
    refine callWp_of hA ?_
    simp only [walk, Nat.reduceLT, Nat.reduceBEq, Nat.reduceAdd, Nat.reduceLeDiff, reduceIte, Int.reduceLT, Int.reduceLE, Int.reduceEq, Int.reduceToNat, Int.reduceBEq]
  | true =>
  rw [Bool.and_eq_true, Bool.and_eq_true, decide_eq_true_eq] at hg
  obtain ⟨hgl, hul, hur⟩ := hg
  obtain ⟨hl, _, _⟩ := good_ok hgl
  have hs := sort_of_right hur
  have hu : u.length ≤ bigL := by unfold bigL; omega
  simp only [walk, Nat.reduceLT, Nat.reduceBEq, Nat.reduceAdd, Nat.reduceLeDiff, reduceIte, Int.reduceLT, Int.reduceLE, Int.reduceEq, Int.reduceToNat, Int.reduceBEq]
  refine callWp_of (h1 p) ?_
  cases hp : pShort p with
  | false =>
    simp only [walk, Nat.reduceLT, Nat.reduceBEq, Nat.reduceAdd, Nat.reduceLeDiff, reduceIte, Int.reduceLT, Int.reduceLE, Int.reduceEq, Int.reduceToNat, Int.reduceBEq]
    refine callWp_of hA ?_
    simp only [walk, Nat.reduceLT, Nat.reduceBEq, Nat.reduceAdd, Nat.reduceLeDiff, reduceIte, Int.reduceLT, Int.reduceLE, Int.reduceEq, Int.reduceToNat, Int.reduceBEq]
  | true =>
  have hpo := short_ok hp
  have hok := allL_ok (u := u) hl
  simp only [walk, Nat.reduceLT, Nat.reduceBEq, Nat.reduceAdd, Nat.reduceLeDiff, reduceIte, Int.reduceLT, Int.reduceLE, Int.reduceEq, Int.reduceToNat, Int.reduceBEq]
  refine callWp_of (h2 l u hl hs hu) ?_
  simp only [walk, Nat.reduceLT, Nat.reduceBEq, Nat.reduceAdd, Nat.reduceLeDiff, reduceIte, Int.reduceLT, Int.reduceLE, Int.reduceEq, Int.reduceToNat, Int.reduceBEq]
  refine callWp_of (h3 l u hl hu) ?_
  generalize allL l u = L at *
  have hokA := filter_ok (fun i => decide (oLeaf i.o.k = k) && decide (i.o.p = p)) hok
  have hokU := filter_ok (fun i => under i.o.p p) hok
  have hL := hok.1
  simp only [walk, Nat.reduceLT, Nat.reduceBEq, Nat.reduceAdd, Nat.reduceLeDiff, reduceIte, Int.reduceLT, Int.reduceLE, Int.reduceEq, Int.reduceToNat, Int.reduceBEq]
  refine callWp_of (h4 L L hok) ?_
  simp only [walk, Nat.reduceLT, Nat.reduceBEq, Nat.reduceAdd, Nat.reduceLeDiff, reduceIte, Int.reduceLT, Int.reduceLE, Int.reduceEq, Int.reduceToNat, Int.reduceBEq]
  refine callWp_of (h5 L p k hok hpo) ?_
  simp only [walk, Nat.reduceLT, Nat.reduceBEq, Nat.reduceAdd, Nat.reduceLeDiff, reduceIte, Int.reduceLT, Int.reduceLE, Int.reduceEq, Int.reduceToNat, Int.reduceBEq]
  refine callWp_of (h6 L p k hok hpo) ?_
  simp only [walk, Nat.reduceLT, Nat.reduceBEq, Nat.reduceAdd, Nat.reduceLeDiff, reduceIte, Int.reduceLT, Int.reduceLE, Int.reduceEq, Int.reduceToNat, Int.reduceBEq]
  refine callWp_of (h4 (atL L p k) (atL L p k) hokA) ?_
  simp only [walk, Nat.reduceLT, Nat.reduceBEq, Nat.reduceAdd, Nat.reduceLeDiff, reduceIte, Int.reduceLT, Int.reduceLE, Int.reduceEq, Int.reduceToNat, Int.reduceBEq]
  refine callWp_of (h7 L p hok hpo) ?_
  simp only [walk, Nat.reduceLT, Nat.reduceBEq, Nat.reduceAdd, Nat.reduceLeDiff, reduceIte, Int.reduceLT, Int.reduceLE, Int.reduceEq, Int.reduceToNat, Int.reduceBEq]
  refine callWp_of (h8 L p hok hpo) ?_
  simp only [walk, Nat.reduceLT, Nat.reduceBEq, Nat.reduceAdd, Nat.reduceLeDiff, reduceIte, Int.reduceLT, Int.reduceLE, Int.reduceEq, Int.reduceToNat, Int.reduceBEq]
  refine callWp_of (h4 (underL L p) (underL L p) hokU) ?_
  simp only [walk, Nat.reduceLT, Nat.reduceBEq, Nat.reduceAdd, Nat.reduceLeDiff, reduceIte, Int.reduceLT, Int.reduceLE, Int.reduceEq, Int.reduceToNat, Int.reduceBEq]
  refine callWp_of (h9 L hL) ?_
  simp only [walk, Nat.reduceLT, Nat.reduceBEq, Nat.reduceAdd, Nat.reduceLeDiff, reduceIte, Int.reduceLT, Int.reduceLE, Int.reduceEq, Int.reduceToNat, Int.reduceBEq]
  refine callWp_of (h10 L hL) ?_
  simp only [walk, Nat.reduceLT, Nat.reduceBEq, Nat.reduceAdd, Nat.reduceLeDiff, reduceIte, Int.reduceLT, Int.reduceLE, Int.reduceEq, Int.reduceToNat, Int.reduceBEq]
  refine callWp_of (h11 _ _ (by rw [List.length_map]; omega)) ?_
  simp only [walk, Nat.reduceLT, Nat.reduceBEq, Nat.reduceAdd, Nat.reduceLeDiff, reduceIte, Int.reduceLT, Int.reduceLE, Int.reduceEq, Int.reduceToNat, Int.reduceBEq]
  refine callWp_of (h12 L L hok) ?_
  simp only [walk, Nat.reduceLT, Nat.reduceBEq, Nat.reduceAdd, Nat.reduceLeDiff, reduceIte, Int.reduceLT, Int.reduceLE, Int.reduceEq, Int.reduceToNat, Int.reduceBEq]
  refine callWp_of hA ?_
  simp only [walk, Nat.reduceLT, Nat.reduceBEq, Nat.reduceAdd, Nat.reduceLeDiff, reduceIte, Int.reduceLT, Int.reduceLE, Int.reduceEq, Int.reduceToNat, Int.reduceBEq]
end
end Go.AR
