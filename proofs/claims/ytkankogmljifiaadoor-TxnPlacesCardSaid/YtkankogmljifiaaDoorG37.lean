import Derived.Test.YtkankogmljifiaaDoorG36
set_option linter.all false
/-! Transactions: the laws of order and places. -/
namespace Go.AR
open Go
section
variable {C : CallRel} {F : Nat → FuncId}
def S_tPlaces (R : Rel) : Prop := ∀ (l : List Tx) (x : Tx), R [.v (tsP l), .v (tP x)] (.val (.bool true)) []
def S_tOrder (R : Rel) : Prop := ∀ l : List Tx, R [.v (tsP l)] (.val (.bool true)) []
theorem g_TxnPlaces (hA : S_yes (C (F n_plaw12_awake))) (h0 : S_tsShort (C (F n_plaw12_short))) (h1 : S_tShort (C (F n_pref12_Short))) (h2 : S_tRises (C (F n_txn_Rises))) (h3 : S_tRises (C (F n_pref12_Rises))) (h4 : S_tPut (C (F n_txn_Put))) (h5 : S_tFind (C (F n_txn_Find))) (h6 : S_tFind (C (F n_pref12_Find))) (h7 : S_tPut (C (F n_pref12_Put))) (h8 : S_tAll (C (F n_pref12_All))) : S_tPlaces ((c_plaw12_TxnPlaces F).gives C) := by
  intro l x
  refine gives_of rfl ?_
  unfold c_plaw12_TxnPlaces
  simp only [walk, Nat.reduceLT, Nat.reduceBEq, Nat.reduceAdd, Nat.reduceLeDiff, reduceIte, Int.reduceLT, Int.reduceLE, Int.reduceEq, Int.reduceToNat, Int.reduceBEq]
  refine callWp_of (h0 l) ?_
  cases hs : decide (l.length ≤ 30) && l.all tShort with
  | false =>
    simp only [walk, Nat.reduceLT, Nat.reduceBEq, Nat.reduceAdd, Nat.reduceLeDiff, reduceIte, Int.reduceLT, Int.reduceLE, Int.reduceEq, Int.reduceToNat, Int.reduceBEq]
    refine callWp_of hA ?_
    simp only [walk, Nat.reduceLT, Nat.reduceBEq, Nat.reduceAdd, Nat.reduceLeDiff, reduceIte, Int.reduceLT, Int.reduceLE, Int.reduceEq, Int.reduceToNat, Int.reduceBEq]
  | true =>
  rw [Bool.and_eq_true, decide_eq_true_eq, List.all_eq_true] at hs
  obtain ⟨hl, hall⟩ := hs
  simp only [walk, Nat.reduceLT, Nat.reduceBEq, Nat.reduceAdd, Nat.reduceLeDiff, reduceIte, Int.reduceLT, Int.reduceLE, Int.reduceEq, Int.reduceToNat, Int.reduceBEq]
  refine callWp_of (h1 x) ?_
  cases hx : tShort x with
  | false =>
    simp only [walk, Nat.reduceLT, Nat.reduceBEq, Nat.reduceAdd, Nat.reduceLeDiff, reduceIte, Int.reduceLT, Int.reduceLE, Int.reduceEq, Int.reduceToNat, Int.reduceBEq]
    refine callWp_of hA ?_
    simp only [walk, Nat.reduceLT, Nat.reduceBEq, Nat.reduceAdd, Nat.reduceLeDiff, reduceIte, Int.reduceLT, Int.reduceLE, Int.reduceEq, Int.reduceToNat, Int.reduceBEq]
  | true =>
  simp only [walk, Nat.reduceLT, Nat.reduceBEq, Nat.reduceAdd, Nat.reduceLeDiff, reduceIte, Int.reduceLT, Int.reduceLE, Int.reduceEq, Int.reduceToNat, Int.reduceBEq]
  refine callWp_of (h2 l (by omega)) ?_
  simp only [walk, Nat.reduceLT, Nat.reduceBEq, Nat.reduceAdd, Nat.reduceLeDiff, reduceIte, Int.reduceLT, Int.reduceLE, Int.reduceEq, Int.reduceToNat, Int.reduceBEq]
  refine callWp_of (h3 l (by omega)) ?_
  simp only [walk, Nat.reduceLT, Nat.reduceBEq, Nat.reduceAdd, Nat.reduceLeDiff, reduceIte, Int.reduceLT, Int.reduceLE, Int.reduceEq, Int.reduceToNat, Int.reduceBEq, beq_self_eq_true]
  refine callWp_of (h3 l (by omega)) ?_
  cases hr : risesT l with
  | false =>
    simp only [walk, Nat.reduceLT, Nat.reduceBEq, Nat.reduceAdd, Nat.reduceLeDiff, reduceIte, Int.reduceLT, Int.reduceLE, Int.reduceEq, Int.reduceToNat, Int.reduceBEq]
    refine callWp_of hA ?_
    simp only [walk, Nat.reduceLT, Nat.reduceBEq, Nat.reduceAdd, Nat.reduceLeDiff, reduceIte, Int.reduceLT, Int.reduceLE, Int.reduceEq, Int.reduceToNat, Int.reduceBEq]
  | true =>
  have hsort := sort_of_rises hr
  have hps := put_sort x hsort
  have hpr := rises_of_sort hps
  have hpl : (putT l x).length ≤ 31 := by rw [put_len]; split <;> omega
  have hpok : ∀ y ∈ putT l x, tOk y := fun y hy => by
    rcases put_mem hy with rfl | hy
    · exact (tShort_ok hx).2.2
    · exact (tShort_ok (hall y hy)).2.2
  have hph := put_has l x
  have hfind : findT (putT l x) x.d ≥ 0 := by unfold findT; rw [if_pos hph]; omega
  simp only [walk, Nat.reduceLT, Nat.reduceBEq, Nat.reduceAdd, Nat.reduceLeDiff, reduceIte, Int.reduceLT, Int.reduceLE, Int.reduceEq, Int.reduceToNat, Int.reduceBEq]
  refine callWp_of (h4 l x (by omega) hsort) ?_
  simp only [walk, Nat.reduceLT, Nat.reduceBEq, Nat.reduceAdd, Nat.reduceLeDiff, reduceIte, Int.reduceLT, Int.reduceLE, Int.reduceEq, Int.reduceToNat, Int.reduceBEq]
  refine callWp_of (h5 l x.d (by omega) hsort) ?_
  simp only [walk, Nat.reduceLT, Nat.reduceBEq, Nat.reduceAdd, Nat.reduceLeDiff, reduceIte, Int.reduceLT, Int.reduceLE, Int.reduceEq, Int.reduceToNat, Int.reduceBEq]
  refine callWp_of (h6 l x.d (by omega) hsort) ?_
  simp only [walk, Nat.reduceLT, Nat.reduceBEq, Nat.reduceAdd, Nat.reduceLeDiff, reduceIte, Int.reduceLT, Int.reduceLE, Int.reduceEq, Int.reduceToNat, Int.reduceBEq, beq_self_eq_true]
  refine callWp_of (h7 l x (by omega) hsort) ?_
  simp only [walk, Nat.reduceLT, Nat.reduceBEq, Nat.reduceAdd, Nat.reduceLeDiff, reduceIte, Int.reduceLT, Int.reduceLE, Int.reduceEq, Int.reduceToNat, Int.reduceBEq]
  refine callWp_of (h8 (putT l x) (putT l x) (by omega) hpok) ?_
  simp only [walk, Nat.reduceLT, Nat.reduceBEq, Nat.reduceAdd, Nat.reduceLeDiff, reduceIte, Int.reduceLT, Int.reduceLE, Int.reduceEq, Int.reduceToNat, Int.reduceBEq]
  refine callWp_of (h3 (putT l x) (by omega)) ?_
  simp only [walk, Nat.reduceLT, Nat.reduceBEq, Nat.reduceAdd, Nat.reduceLeDiff, reduceIte, Int.reduceLT, Int.reduceLE, Int.reduceEq, Int.reduceToNat, Int.reduceBEq, hpr]
  refine callWp_of (h5 (putT l x) x.d (by omega) hps) ?_
  simp only [walk, Nat.reduceLT, Nat.reduceBEq, Nat.reduceAdd, Nat.reduceLeDiff, reduceIte, Int.reduceLT, Int.reduceLE, Int.reduceEq, Int.reduceToNat, Int.reduceBEq, hfind]
  refine callWp_of hA ?_
  simp only [walk, Nat.reduceLT, Nat.reduceBEq, Nat.reduceAdd, Nat.reduceLeDiff, reduceIte, Int.reduceLT, Int.reduceLE, Int.reduceEq, Int.reduceToNat, Int.reduceBEq]
/-- A row that may be given away, or was given. -/
def rowT (b : Bool) (l : List Tx) : TV := if b = true then .own 6 [] else .val (tsP l)
theorem g_TxnOrder (hA : S_yes (C (F n_plaw12_awake))) (h0 : S_tsShort (C (F n_plaw12_short))) (h3 : S_tRises (C (F n_pref12_Rises))) (h4 : S_tPut (C (F n_txn_Put))) (h8 : S_tAll (C (F n_pref12_All))) : S_tOrder ((c_plaw12_TxnOrder F).gives C) := by
  intro l
  refine gives_of rfl ?_
  unfold c_plaw12_TxnOrder
  simp only [walk, Nat.reduceLT, Nat.reduceBEq, Nat.reduceAdd, Nat.reduceLeDiff, reduceIte, Int.reduceLT, Int.reduceLE, Int.reduceEq, Int.reduceToNat, Int.reduceBEq]
  refine callWp_of (h0 l) ?_
  cases hs : decide (l.length ≤ 30) && l.all tShort with
  | false =>
    simp only [walk, Nat.reduceLT, Nat.reduceBEq, Nat.reduceAdd, Nat.reduceLeDiff, reduceIte, Int.reduceLT, Int.reduceLE, Int.reduceEq, Int.reduceToNat, Int.reduceBEq]
    refine callWp_of hA ?_
    simp only [walk, Nat.reduceLT, Nat.reduceBEq, Nat.reduceAdd, Nat.reduceLeDiff, reduceIte, Int.reduceLT, Int.reduceLE, Int.reduceEq, Int.reduceToNat, Int.reduceBEq]
  | true =>
  rw [Bool.and_eq_true, decide_eq_true_eq, List.all_eq_true] at hs
  obtain ⟨hl, hall⟩ := hs
  simp only [walk, Nat.reduceLT, Nat.reduceBEq, Nat.reduceAdd, Nat.reduceLeDiff, reduceIte, Int.reduceLT, Int.reduceLE, Int.reduceEq, Int.reduceToNat, Int.reduceBEq]
  refine awp_loop_ind (X := Nat) (fun k => ⟨[(0, .val (tsP l)), (2, .val (.bool false)), (3, .own 6 []), (4, .own 6 []), (5, .val (.int .i64 k)), (10, .val (.bool false))], []⟩)
    (fun k => k ≤ l.length ∧ ∀ i, i < k → ∀ j, j < i → (l.getD i zt).d ≠ (l.getD j zt).d) (fun k => l.length - k) 0 ⟨by omega, by omega⟩ rfl ?_
  rintro R k ⟨hk, hJ⟩ ih
  simp only [walk, Nat.reduceLT, Nat.reduceBEq, Nat.reduceAdd, Nat.reduceLeDiff, reduceIte, Int.reduceLT, Int.reduceLE, Int.reduceEq, Int.reduceToNat, Int.reduceBEq, tRows_len]
  by_cases c : k < l.length
  · have c1 : (k : Int) < l.length := by omega
    have c0 : (0 : Int) ≤ k := by omega
    have e1 : IntKind.i64.wrap ((k : Int) + 1) = ((k + 1 : Nat) : Int) := wrap64 (by omega) (by omega)
    simp only [walk, Nat.reduceLT, Nat.reduceBEq, Nat.reduceAdd, Nat.reduceLeDiff, reduceIte, Int.reduceLT, Int.reduceLE, Int.reduceEq, Int.reduceToNat, Int.reduceBEq, c1]
    refine awp_loop_ind (X := Nat) (fun m => ⟨[(0, .val (tsP l)), (2, .val (.bool false)), (3, .own 6 []), (4, .own 6 []), (5, .val (.int .i64 k)), (6, .val (.int .i64 m)), (10, .val (.bool false)), (15, .val (.bool true))], []⟩)
      (fun m => m ≤ k ∧ ∀ j, j < m → (l.getD k zt).d ≠ (l.getD j zt).d) (fun m => k - m) 0 ⟨by omega, by omega⟩ rfl ?_
    rintro R2 m ⟨hm, hJ2⟩ ih2
    simp only [walk, Nat.reduceLT, Nat.reduceBEq, Nat.reduceAdd, Nat.reduceLeDiff, reduceIte, Int.reduceLT, Int.reduceLE, Int.reduceEq, Int.reduceToNat, Int.reduceBEq]
    by_cases d : m < k
    · have d1 : (m : Int) < k := by omega
      have d0 : (0 : Int) ≤ m := by omega
      have d2 : m < l.length := by omega
      have d3 : (m : Int) < l.length := by omega
      have e2 : IntKind.i64.wrap ((m : Int) + 1) = ((m + 1 : Nat) : Int) := wrap64 (by omega) (by omega)
      simp only [walk, Nat.reduceLT, Nat.reduceBEq, Nat.reduceAdd, Nat.reduceLeDiff, reduceIte, Int.reduceLT, Int.reduceLE, Int.reduceEq, Int.reduceToNat, Int.reduceBEq, d1, c1, d3, tRows_get c, tRows_get d2, tRows_len, eq_d]
      by_cases he : l[k].d = l[m].d
      · simp only [walk, Nat.reduceLT, Nat.reduceBEq, Nat.reduceAdd, Nat.reduceLeDiff, reduceIte, Int.reduceLT, Int.reduceLE, Int.reduceEq, Int.reduceToNat, Int.reduceBEq, he]
        refine callWp_of hA ?_
        simp only [walk, Nat.reduceLT, Nat.reduceBEq, Nat.reduceAdd, Nat.reduceLeDiff, reduceIte, Int.reduceLT, Int.reduceLE, Int.reduceEq, Int.reduceToNat, Int.reduceBEq]
      · simp only [walk, Nat.reduceLT, Nat.reduceBEq, Nat.reduceAdd, Nat.reduceLeDiff, reduceIte, Int.reduceLT, Int.reduceLE, Int.reduceEq, Int.reduceToNat, Int.reduceBEq, he, e2]
        exact ih2 (m + 1) ⟨by omega, fun j hj => by
          by_cases e : j = m
          · subst e; rw [getT_at c, getT_at d2]; exact he
          · exact hJ2 j (by omega)⟩ (by omega)
    · have d1 : ¬ (m : Int) < k := by omega
      simp only [walk, Nat.reduceLT, Nat.reduceBEq, Nat.reduceAdd, Nat.reduceLeDiff, reduceIte, Int.reduceLT, Int.reduceLE, Int.reduceEq, Int.reduceToNat, Int.reduceBEq, d1, e1]
      exact ih (k + 1) ⟨by omega, fun i hi j hj => by
        by_cases e : i = k
        · subst e; exact hJ2 j (by omega)
        · exact hJ i (by omega) j hj⟩ (by omega)
  · have c1 : ¬ (k : Int) < l.length := by omega
    have hap : apart l := by
      unfold apart
      rw [List.pairwise_iff_getElem]
      intro i j hi hj hij e
      have := hJ j (by omega) i hij
      rw [getT_at hi, getT_at hj] at this
      exact this e.symm
    have hap2 : apart l.reverse := by
      unfold apart
      rw [List.pairwise_reverse]
      exact hap.imp (fun h e => h e.symm)
    simp only [walk, Nat.reduceLT, Nat.reduceBEq, Nat.reduceAdd, Nat.reduceLeDiff, reduceIte, Int.reduceLT, Int.reduceLE, Int.reduceEq, Int.reduceToNat, Int.reduceBEq, c1]
    clear ih hJ
    refine awp_loop_ind (X := Nat × Bool) (fun s => ⟨[(0, .val (tsP l)), (2, .val (.bool false)), (3, rowT s.2 (putAll (l.take s.1))), (4, rowT s.2 (putAll (l.reverse.take s.1))), (5, .val (.int .i64 k)), (7, .val (.int .i64 s.1)), (10, .val (.bool false)), (15, .val (.bool false))], []⟩)
      (fun s => s.1 ≤ l.length ∧ (s.2 = true → s.1 = 0)) (fun s => l.length - s.1) (0, true) ⟨by omega, fun _ => rfl⟩ rfl ?_
    rintro R ⟨m, b⟩ ⟨hm, hb⟩ ih
    simp only at hm hb
    have p1 := putAll_spec l hap m hm
    have p2 := putAll_spec l.reverse hap2 m (by rw [List.length_reverse]; exact hm)
    have hz : b = true → putAll (l.take m) = [] ∧ putAll (l.reverse.take m) = [] := fun h => by rw [hb h]; exact ⟨rfl, rfl⟩
    simp only [walk, Nat.reduceLT, Nat.reduceBEq, Nat.reduceAdd, Nat.reduceLeDiff, reduceIte, Int.reduceLT, Int.reduceLE, Int.reduceEq, Int.reduceToNat, Int.reduceBEq, tRows_len]
    by_cases d : m < l.length
    · have d1 : (m : Int) < l.length := by omega
      have d0 : (0 : Int) ≤ m := by omega
      have e2 : IntKind.i64.wrap ((m : Int) + 1) = ((m + 1 : Nat) : Int) := wrap64 (by omega) (by omega)
      have w1 : IntKind.i64.wrap ((l.length : Int) - 1) = ((l.length - 1 : Nat) : Int) := by rw [wrap64 (by omega) (by omega)]; omega
      have w2 : IntKind.i64.wrap (((l.length - 1 : Nat) : Int) - m) = ((l.length - 1 - m : Nat) : Int) := by rw [wrap64 (by omega) (by omega)]; omega
      have d2 : l.length - 1 - m < l.length := by omega
      have d3 : ((l.length - 1 - m : Nat) : Int) < l.length := by omega
      have d4 : (0 : Int) ≤ ((l.length - 1 - m : Nat) : Int) := by omega
      have t1 : putAll (l.take (m + 1)) = putT (putAll (l.take m)) l[m] := by
        rw [List.take_add_one, List.getElem?_eq_getElem d, Option.toList_some, putAll_app]
      have t2 : putAll (l.reverse.take (m + 1)) = putT (putAll (l.reverse.take m)) l[l.length - 1 - m] := by
        have hr : m < l.reverse.length := by rw [List.length_reverse]; exact d
        rw [List.take_add_one, List.getElem?_eq_getElem hr, Option.toList_some, putAll_app, List.getElem_reverse]
      have step := ih (m + 1, false) ⟨by simp only; omega, by simp⟩ (by simp only; omega)
      simp only [t1, t2] at step
      have hw1 : rowT false (putT (putAll (l.take m)) l[m]) = .val (tsP (putT (putAll (l.take m)) l[m])) := rfl
      have hw2 : rowT false (putT (putAll (l.reverse.take m)) l[l.length - 1 - m]) = .val (tsP (putT (putAll (l.reverse.take m)) l[l.length - 1 - m])) := rfl
      rw [hw1, hw2] at step
      clear hw1 hw2 t1 t2 ih
      cases b with
      | true =>
        obtain ⟨z1, z2⟩ := hz rfl
        rw [z1, z2] at step ⊢
        rw [z1] at p1
        have r0 : rowT true [] = .own 6 [] := rfl
        rw [r0]
        simp only [walk, Nat.reduceLT, Nat.reduceBEq, Nat.reduceAdd, Nat.reduceLeDiff, reduceIte, Int.reduceLT, Int.reduceLE, Int.reduceEq, Int.reduceToNat, Int.reduceBEq, d1, d3, w1, w2, tRows_get d, tRows_get d2, tRows_len]
        refine callWp_of (h4 [] l[m] (by simp) p1.1) ?_
        simp only [walk, Nat.reduceLT, Nat.reduceBEq, Nat.reduceAdd, Nat.reduceLeDiff, reduceIte, Int.reduceLT, Int.reduceLE, Int.reduceEq, Int.reduceToNat, Int.reduceBEq, d1, d3, w1, w2, tRows_get d, tRows_get d2, tRows_len]
        refine callWp_of (h4 [] l[l.length - 1 - m] (by simp) p1.1) ?_
        simp only [walk, Nat.reduceLT, Nat.reduceBEq, Nat.reduceAdd, Nat.reduceLeDiff, reduceIte, Int.reduceLT, Int.reduceLE, Int.reduceEq, Int.reduceToNat, Int.reduceBEq, e2]
        exact step
      | false =>
        have r1 : rowT false (putAll (l.take m)) = .val (tsP (putAll (l.take m))) := rfl
        have r2 : rowT false (putAll (l.reverse.take m)) = .val (tsP (putAll (l.reverse.take m))) := rfl
        rw [r1, r2]
        simp only [walk, Nat.reduceLT, Nat.reduceBEq, Nat.reduceAdd, Nat.reduceLeDiff, reduceIte, Int.reduceLT, Int.reduceLE, Int.reduceEq, Int.reduceToNat, Int.reduceBEq, d1, d3, w1, w2, tRows_get d, tRows_get d2, tRows_len]
        refine callWp_of (h4 _ l[m] (by rw [p1.2.2]; omega) p1.1) ?_
        simp only [walk, Nat.reduceLT, Nat.reduceBEq, Nat.reduceAdd, Nat.reduceLeDiff, reduceIte, Int.reduceLT, Int.reduceLE, Int.reduceEq, Int.reduceToNat, Int.reduceBEq, d1, d3, w1, w2, tRows_get d, tRows_get d2, tRows_len]
        refine callWp_of (h4 _ l[l.length - 1 - m] (by rw [p2.2.2]; omega) p2.1) ?_
        simp only [walk, Nat.reduceLT, Nat.reduceBEq, Nat.reduceAdd, Nat.reduceLeDiff, reduceIte, Int.reduceLT, Int.reduceLE, Int.reduceEq, Int.reduceToNat, Int.reduceBEq, e2]
        exact step
    · have d1 : ¬ (m : Int) < l.length := by omega
      have em : m = l.length := by omega
      subst em
      have q1 : putAll (l.take l.length) = putAll l := by rw [List.take_length]
      have q2 : putAll (l.reverse.take l.length) = putAll l := by
        have : l.reverse.take l.length = l.reverse := List.take_of_length_le (by rw [List.length_reverse]; omega)
        rw [this, putAll_rev hap]
      rw [q1] at p1
      rw [q1, q2] at hz ⊢
      have hok : ∀ y ∈ putAll l, tOk y := fun y hy => by
        have := (p1.2.1 y).1 hy
        rw [List.take_length] at this
        exact (tShort_ok (hall y this)).2.2
      have hr := rises_of_sort p1.1
      have hn := p1.2.2
      generalize putAll l = P at *
      cases b with
      | true =>
        obtain ⟨z1, _⟩ := hz rfl
        subst z1
        have r0 : rowT true [] = .own 6 [] := rfl
        rw [r0]
        have hl0 : (l.length : Int) = 0 := by simp at hn; omega
        simp only [walk, Nat.reduceLT, Nat.reduceBEq, Nat.reduceAdd, Nat.reduceLeDiff, reduceIte, Int.reduceLT, Int.reduceLE, Int.reduceEq, Int.reduceToNat, Int.reduceBEq, d1]
        refine callWp_of (h8 [] [] (by simp) (by simp)) ?_
        simp only [walk, Nat.reduceLT, Nat.reduceBEq, Nat.reduceAdd, Nat.reduceLeDiff, reduceIte, Int.reduceLT, Int.reduceLE, Int.reduceEq, Int.reduceToNat, Int.reduceBEq]
        refine callWp_of (h3 [] (by simp)) ?_
        simp only [walk, Nat.reduceLT, Nat.reduceBEq, Nat.reduceAdd, Nat.reduceLeDiff, reduceIte, Int.reduceLT, Int.reduceLE, Int.reduceEq, Int.reduceToNat, Int.reduceBEq, hr, tRows_len, hl0]
        refine callWp_of hA ?_
        simp only [walk, Nat.reduceLT, Nat.reduceBEq, Nat.reduceAdd, Nat.reduceLeDiff, reduceIte, Int.reduceLT, Int.reduceLE, Int.reduceEq, Int.reduceToNat, Int.reduceBEq]
      | false =>
        have r1 : rowT false P = .val (tsP P) := rfl
        rw [r1]
        have hl0 : (P.length : Int) = l.length := by omega
        simp only [walk, Nat.reduceLT, Nat.reduceBEq, Nat.reduceAdd, Nat.reduceLeDiff, reduceIte, Int.reduceLT, Int.reduceLE, Int.reduceEq, Int.reduceToNat, Int.reduceBEq, d1]
        refine callWp_of (h8 P P (by omega) hok) ?_
        simp only [walk, Nat.reduceLT, Nat.reduceBEq, Nat.reduceAdd, Nat.reduceLeDiff, reduceIte, Int.reduceLT, Int.reduceLE, Int.reduceEq, Int.reduceToNat, Int.reduceBEq]
        refine callWp_of (h3 P (by omega)) ?_
        simp only [walk, Nat.reduceLT, Nat.reduceBEq, Nat.reduceAdd, Nat.reduceLeDiff, reduceIte, Int.reduceLT, Int.reduceLE, Int.reduceEq, Int.reduceToNat, Int.reduceBEq, hr, tRows_len, hl0, beq_self_eq_true]
        refine callWp_of hA ?_
        simp only [walk, Nat.reduceLT, Nat.reduceBEq, Nat.reduceAdd, Nat.reduceLeDiff, reduceIte, Int.reduceLT, Int.reduceLE, Int.reduceEq, Int.reduceToNat, Int.reduceBEq]
end
end Go.AR
