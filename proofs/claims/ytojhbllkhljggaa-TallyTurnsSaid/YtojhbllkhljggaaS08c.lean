import Derived.Test.YtojhbllkhljggaaS08b
set_option linter.all false
/-! Counts of dots: rows that are made. -/
namespace Go.AR
open Go
section
variable {C : CallRel} {F : Nat → FuncId}
theorem uRows_cons (x : Ud) (l : List Ud) : uRows (x :: l) = [.int .i64 x.1.1, .int .i64 x.1.2, .int .i64 x.2] :: uRows l := rfl
theorem filter_snoc {α : Type} (p : α → Bool) (l : List α) (k : Nat) (d : α) (h : k < l.length) : (l.take (k + 1)).filter p = (l.take k).filter p ++ (if p (l.getD k d) then [l.getD k d] else []) := by
  rw [List.take_add_one, List.filter_append]
  simp only [List.getElem?_eq_getElem h, Option.toList_some, List.getD_eq_getElem?_getD, Option.getD_some, List.filter_cons, List.filter_nil]
theorem take_get {α : Type} (l : List α) (k : Nat) (d : α) (h : k < l.length) : l.take (k + 1) = l.take k ++ [l.getD k d] := by
  rw [List.take_add_one]
  simp [List.getElem?_eq_getElem h, List.getD_eq_getElem?_getD]
theorem filter_le {α : Type} (p : α → Bool) (l : List α) (k : Nat) : ((l.take k).filter p).length ≤ k := Nat.le_trans (List.length_filter_le _ _) (by rw [List.length_take]; omega)
theorem g_tally_Over (h : S_uGet (C (F n_tally_Get))) : S_uOver ((c_tally_Over F).gives C) := by
  intro a b hs ha hb
  refine gives_of rfl ?_
  unfold c_tally_Over
  simp only [walk, Nat.reduceLT, Nat.reduceBEq, Nat.reduceAdd, Nat.reduceLeDiff, reduceIte, Int.reduceLT, Int.reduceLE, Int.reduceEq, Int.reduceToNat, Int.reduceBEq, uRows_len]
  refine awp_loop_ind (X := Nat) (fun k => ⟨[(0, .val (usP a)), (1, .val (usP b)), (4, .own 3 []), (5, .own 3 (uRows ((a.take k).filter fun u => decide (u.2 > getU b u.1)))), (8, .val (usP a)), (9, .val (.int .i64 a.length)), (10, .val (.int .i64 k))], []⟩)
    (fun k => k ≤ a.length) (fun k => a.length - k) 0 (by omega) (by simp [uRows]) ?_
  rintro R k hk ih
  simp only [walk, Nat.reduceLT, Nat.reduceBEq, Nat.reduceAdd, Nat.reduceLeDiff, reduceIte, Int.reduceLT, Int.reduceLE, Int.reduceEq, Int.reduceToNat, Int.reduceBEq, uRows_len]
  by_cases c : k < a.length
  · have c1 : (k : Int) < a.length := by omega
    have c0 : (0 : Int) ≤ k := by omega
    have e1 : IntKind.i64.wrap ((k : Int) + 1) = ((k + 1 : Nat) : Int) := wrap64 (by unfold bigL at ha; omega) (by unfold bigL at ha; omega)
    have hb2 : (((a.take k).filter fun u => decide (u.2 > getU b u.1)).length + 1) * 24 ≤ 140737488355328 := by
      have := filter_le (fun u : Ud => decide (u.2 > getU b u.1)) a k
      unfold bigL at ha; omega
    simp only [walk, Nat.reduceLT, Nat.reduceBEq, Nat.reduceAdd, Nat.reduceLeDiff, reduceIte, Int.reduceLT, Int.reduceLE, Int.reduceEq, Int.reduceToNat, Int.reduceBEq, c1, uRows_get c]
    refine callWp_of (h b (a.getD k z3).1 hs hb) ?_
    have fs := filter_snoc (fun u : Ud => decide (u.2 > getU b u.1)) a k z3 c
    by_cases q : (a.getD k z3).2 > getU b (a.getD k z3).1
    · simp only [walk, Nat.reduceLT, Nat.reduceBEq, Nat.reduceAdd, Nat.reduceLeDiff, reduceIte, Int.reduceLT, Int.reduceLE, Int.reduceEq, Int.reduceToNat, Int.reduceBEq, q, uRows_len, hb2, uRows_app, e1]
      have := ih (k + 1) (by omega) (by omega)
      rw [fs, if_pos (by simpa using q)] at this
      exact this
    · simp only [walk, Nat.reduceLT, Nat.reduceBEq, Nat.reduceAdd, Nat.reduceLeDiff, reduceIte, Int.reduceLT, Int.reduceLE, Int.reduceEq, Int.reduceToNat, Int.reduceBEq, q, e1]
      have := ih (k + 1) (by omega) (by omega)
      rw [fs, if_neg (by simpa using q), List.append_nil] at this
      exact this
  · have c1 : ¬ ((k : Int) < a.length) := by omega
    have e2 : (a.take k).filter (fun u => decide (u.2 > getU b u.1)) = overU a b := by rw [List.take_of_length_le (by omega)]; rfl
    simp only [walk, Nat.reduceLT, Nat.reduceBEq, Nat.reduceAdd, Nat.reduceLeDiff, reduceIte, Int.reduceLT, Int.reduceLE, Int.reduceEq, Int.reduceToNat, Int.reduceBEq, c1, e2]
theorem g_pref08_Over (h : S_rGet (C (F n_pref08_Get))) : S_rOver ((c_pref08_Over F).gives C) := by
  intro a b ha hb
  refine gives_of rfl ?_
  unfold c_pref08_Over
  simp only [walk, Nat.reduceLT, Nat.reduceBEq, Nat.reduceAdd, Nat.reduceLeDiff, reduceIte, Int.reduceLT, Int.reduceLE, Int.reduceEq, Int.reduceToNat, Int.reduceBEq, uRows_len]
  refine awp_loop_ind (X := Nat) (fun k => ⟨[(0, .val (usP a)), (1, .val (usP b)), (4, .own 3 []), (5, .own 3 (uRows ((a.take k).filter fun u => decide (u.2 > getU b u.1)))), (6, .val (.int .i64 k))], []⟩)
    (fun k => k ≤ a.length) (fun k => a.length - k) 0 (by omega) (by simp [uRows]) ?_
  rintro R k hk ih
  simp only [walk, Nat.reduceLT, Nat.reduceBEq, Nat.reduceAdd, Nat.reduceLeDiff, reduceIte, Int.reduceLT, Int.reduceLE, Int.reduceEq, Int.reduceToNat, Int.reduceBEq, uRows_len]
  by_cases c : k < a.length
  · have c1 : (k : Int) < a.length := by omega
    have c0 : (0 : Int) ≤ k := by omega
    have e1 : IntKind.i64.wrap ((k : Int) + 1) = ((k + 1 : Nat) : Int) := wrap64 (by unfold bigL at ha; omega) (by unfold bigL at ha; omega)
    have hb2 : (((a.take k).filter fun u => decide (u.2 > getU b u.1)).length + 1) * 24 ≤ 140737488355328 := by
      have := filter_le (fun u : Ud => decide (u.2 > getU b u.1)) a k
      unfold bigL at ha; omega
    simp only [walk, Nat.reduceLT, Nat.reduceBEq, Nat.reduceAdd, Nat.reduceLeDiff, reduceIte, Int.reduceLT, Int.reduceLE, Int.reduceEq, Int.reduceToNat, Int.reduceBEq, c1, uRows_get c]
    refine callWp_of (h b (a.getD k z3).1 hb) ?_
    have fs := filter_snoc (fun u : Ud => decide (u.2 > getU b u.1)) a k z3 c
    by_cases q : (a.getD k z3).2 > getU b (a.getD k z3).1
    · simp only [walk, Nat.reduceLT, Nat.reduceBEq, Nat.reduceAdd, Nat.reduceLeDiff, reduceIte, Int.reduceLT, Int.reduceLE, Int.reduceEq, Int.reduceToNat, Int.reduceBEq, q, uRows_len, uRows_get c, hb2, uRows_app, e1]
      have := ih (k + 1) (by omega) (by omega)
      rw [fs, if_pos (by simpa using q)] at this
      exact this
    · simp only [walk, Nat.reduceLT, Nat.reduceBEq, Nat.reduceAdd, Nat.reduceLeDiff, reduceIte, Int.reduceLT, Int.reduceLE, Int.reduceEq, Int.reduceToNat, Int.reduceBEq, q, e1]
      have := ih (k + 1) (by omega) (by omega)
      rw [fs, if_neg (by simpa using q), List.append_nil] at this
      exact this
  · have c1 : ¬ ((k : Int) < a.length) := by omega
    have e2 : (a.take k).filter (fun u => decide (u.2 > getU b u.1)) = overU a b := by rw [List.take_of_length_le (by omega)]; rfl
    simp only [walk, Nat.reduceLT, Nat.reduceBEq, Nat.reduceAdd, Nat.reduceLeDiff, reduceIte, Int.reduceLT, Int.reduceLE, Int.reduceEq, Int.reduceToNat, Int.reduceBEq, c1, e2]
theorem pStep_len (u : Ud) (st : List Ud × Bool) (x : Ud) : (pStep u st x).1.length ≤ st.1.length + 2 := by
  unfold pStep
  simp only
  split <;> split <;> simp <;> omega
/-- How long a row becomes: by one at the most. -/
theorem pFold_len (u : Ud) : ∀ (l : List Ud) (st : List Ud × Bool), (l.foldl (pStep u) st).1.length ≤ st.1.length + l.length + (if st.2 then 0 else 1) ∧ ((l.foldl (pStep u) st).2 = false → (l.foldl (pStep u) st).1.length ≤ st.1.length + l.length)
  | [], st => by simp
  | x :: l, st => by
    obtain ⟨h1, h2⟩ := pFold_len u l (pStep u st x)
    have key : (pStep u st x).1.length + (if (pStep u st x).2 then 0 else 1) ≤ st.1.length + 1 + (if st.2 then 0 else 1) ∧ ((pStep u st x).2 = false → (pStep u st x).1.length ≤ st.1.length + 1) := by
      obtain ⟨o, ld⟩ := st
      unfold pStep
      cases ld <;> by_cases c : dcmp u.1 x.1 ≤ 0 <;> by_cases c0 : dcmp u.1 x.1 = 0 <;> simp [c, c0]
    simp only [List.foldl_cons, List.length_cons]
    refine ⟨by omega, fun h => ?_⟩
    have h3 := h2 h
    by_cases hq : (pStep u st x).2 = false
    · have := key.2 hq; omega
    · -- what is laid stays laid
      exfalso
      have stay : ∀ (l : List Ud) (st : List Ud × Bool), st.2 = true → (l.foldl (pStep u) st).2 = true := by
        intro l
        induction l with
        | nil => intro st h; exact h
        | cons y l ih =>
          intro st h
          rw [List.foldl_cons]
          apply ih
          obtain ⟨o, ld⟩ := st
          simp only at h
          subst h
          unfold pStep
          simp only [Bool.not_true, Bool.false_and, Bool.false_eq_true, if_false]
          split <;> rfl
      have := stay l _ (by simpa using hq)
      rw [this] at h; cases h
theorem rPut_len (l : List Ud) (u : Ud) : (rPut l u).length ≤ l.length + 1 := by
  unfold rPut
  split
  · omega
  · obtain ⟨h1, h2⟩ := pFold_len u l ([], false)
    simp only [List.length_nil, Nat.zero_add, Bool.false_eq_true, if_false] at h1 h2
    simp only
    split
    · exact h1
    · rename_i hq
      rw [List.length_append]
      have := h2 (by simpa using hq)
      simp; omega
theorem g_pref08_Join (h : S_rPut (C (F n_pref08_Put))) : S_rJoin ((c_pref08_Join F).gives C) := by
  intro a b hl
  refine gives_of rfl ?_
  unfold c_pref08_Join
  simp only [walk, Nat.reduceLT, Nat.reduceBEq, Nat.reduceAdd, Nat.reduceLeDiff, reduceIte, Int.reduceLT, Int.reduceLE, Int.reduceEq, Int.reduceToNat, Int.reduceBEq, uRows_len]
  have hlen : ∀ (l : List Ud) (a : List Ud), (l.foldl rPut a).length ≤ a.length + l.length := by
    intro l
    induction l with
    | nil => intro a; simp
    | cons x l ih => intro a; have := ih (rPut a x); have := rPut_len a x; simp only [List.foldl_cons, List.length_cons]; omega
  refine awp_loop_ind (X := Nat) (fun k => ⟨[(0, .val (usP a)), (1, .val (usP b)), (4, .own 3 []), (5, .val (usP ((b.take k).foldl rPut a))), (6, .val (.int .i64 k))], []⟩)
    (fun k => k ≤ b.length) (fun k => b.length - k) 0 (by omega) (by simp) ?_
  rintro R k hk ih
  simp only [walk, Nat.reduceLT, Nat.reduceBEq, Nat.reduceAdd, Nat.reduceLeDiff, reduceIte, Int.reduceLT, Int.reduceLE, Int.reduceEq, Int.reduceToNat, Int.reduceBEq, uRows_len]
  unfold bigL at hl
  by_cases c : k < b.length
  · have c1 : (k : Int) < b.length := by omega
    have c0 : (0 : Int) ≤ k := by omega
    have e1 : IntKind.i64.wrap ((k : Int) + 1) = ((k + 1 : Nat) : Int) := wrap64 (by omega) (by omega)
    simp only [walk, Nat.reduceLT, Nat.reduceBEq, Nat.reduceAdd, Nat.reduceLeDiff, reduceIte, Int.reduceLT, Int.reduceLE, Int.reduceEq, Int.reduceToNat, Int.reduceBEq, c1, uRows_get c]
    refine callWp_of (h _ (b.getD k z3) (by have := hlen (b.take k) a; rw [List.length_take] at this; unfold bigL; omega)) ?_
    simp only [walk, Nat.reduceLT, Nat.reduceBEq, Nat.reduceAdd, Nat.reduceLeDiff, reduceIte, Int.reduceLT, Int.reduceLE, Int.reduceEq, Int.reduceToNat, Int.reduceBEq, e1]
    have := ih (k + 1) (by omega) (by omega)
    rw [take_get b k z3 c, List.foldl_append] at this
    exact this
  · have c1 : ¬ ((k : Int) < b.length) := by omega
    have e2 : (b.take k).foldl rPut a = rJoin a b := by rw [List.take_of_length_le (by omega)]; rfl
    simp only [walk, Nat.reduceLT, Nat.reduceBEq, Nat.reduceAdd, Nat.reduceLeDiff, reduceIte, Int.reduceLT, Int.reduceLE, Int.reduceEq, Int.reduceToNat, Int.reduceBEq, c1, e2]
theorem g_tally_Join (h : S_ucmp (C (F n_tally_compare))) : S_uMerge ((c_tally_Join F).gives C) := by
  intro a b hl
  refine gives_of rfl ?_
  unfold c_tally_Join
  simp only [walk, Nat.reduceLT, Nat.reduceBEq, Nat.reduceAdd, Nat.reduceLeDiff, reduceIte, Int.reduceLT, Int.reduceLE, Int.reduceEq, Int.reduceToNat, Int.reduceBEq, uRows_len]
  refine awp_loop_ind (X := List Ud × List Ud × List Ud) (fun x => ⟨[(0, .val (usP x.1)), (1, .val (usP x.2.1)), (4, .own 3 []), (5, .own 3 (uRows x.2.2))], []⟩)
    (fun x => x.2.2 ++ mergeU x.1 x.2.1 = mergeU a b ∧ x.2.2.length + x.1.length + x.2.1.length ≤ bigL) (fun x => x.1.length + x.2.1.length) (a, b, []) ⟨rfl, by simpa using hl⟩ (by simp [uRows]) ?_
  rintro R ⟨p, q, out⟩ ⟨h1, h2⟩ ih
  simp only at h1 h2
  unfold bigL at h2
  have z0 : ¬ ((0 : Int) > 0) := by omega
  have ne0 : ∀ n : Nat, (((n + 1 : Nat) : Int) == 0) = false := fun n => by simp; omega
  have eq0 : ((0 : Int) == 0) = true := rfl
  have m1 : ((-1 : Int) < 0) := by omega
  have m2 : ¬ ((1 : Int) < 0) := by omega
  have m3 : ((1 : Int) > 0) := by omega
  have l1 : ∀ n : Nat, (1 : Int) ≤ ((n + 1 : Nat) : Int) := fun n => by omega
  have t1 : (1 : Int).toNat = 1 := rfl
  have hb2 : (out.length + 1) * 24 ≤ 140737488355328 := by omega
  rcases p with _ | ⟨x, p⟩ <;> rcases q with _ | ⟨y, q⟩
  · simp only [mergeU, List.append_nil] at h1
    simp only [walk, Nat.reduceLT, Nat.reduceBEq, Nat.reduceAdd, Nat.reduceLeDiff, reduceIte, Int.reduceLT, Int.reduceLE, Int.reduceEq, Int.reduceToNat, Int.reduceBEq, uRows_len, z0, h1]
  · simp only [List.length_cons] at h2
    have p1 : (((q.length + 1 : Nat) : Int) > 0) := by omega
    simp only [walk, Nat.reduceLT, Nat.reduceBEq, Nat.reduceAdd, Nat.reduceLeDiff, reduceIte, Int.reduceLT, Int.reduceLE, Int.reduceEq, Int.reduceToNat, Int.reduceBEq, uRows_len, z0, p1, eq0, m2, m3, uRows_cons, hb2, uRows_app, l1, t1]
    refine ih ([], q, out ++ [y]) ⟨?_, ?_⟩ ?_
    · rw [← h1]; simp [mergeU]
    · simp; unfold bigL; simp at h2; omega
    · simp
  · simp only [List.length_cons] at h2
    have p1 : (((p.length + 1 : Nat) : Int) > 0) := by omega
    simp only [walk, Nat.reduceLT, Nat.reduceBEq, Nat.reduceAdd, Nat.reduceLeDiff, reduceIte, Int.reduceLT, Int.reduceLE, Int.reduceEq, Int.reduceToNat, Int.reduceBEq, uRows_len, z0, p1, ne0, m1, uRows_cons, hb2, uRows_app, l1, t1]
    refine ih (p, [], out ++ [x]) ⟨?_, ?_⟩ ?_
    · rw [← h1]; cases p <;> simp [mergeU]
    · simp; unfold bigL; simp at h2; omega
    · simp
  · simp only [List.length_cons] at h2
    have p1 : (((p.length + 1 : Nat) : Int) > 0) := by omega
    have p2 : (((q.length + 1 : Nat) : Int) > 0) := by omega
    simp only [walk, Nat.reduceLT, Nat.reduceBEq, Nat.reduceAdd, Nat.reduceLeDiff, reduceIte, Int.reduceLT, Int.reduceLE, Int.reduceEq, Int.reduceToNat, Int.reduceBEq, uRows_len, p1, p2, ne0, uRows_cons]
    refine callWp_of (h x y) ?_
    simp only [walk, Nat.reduceLT, Nat.reduceBEq, Nat.reduceAdd, Nat.reduceLeDiff, reduceIte, Int.reduceLT, Int.reduceLE, Int.reduceEq, Int.reduceToNat, Int.reduceBEq]
    by_cases c1 : dcmp x.1 y.1 < 0
    · simp only [walk, Nat.reduceLT, Nat.reduceBEq, Nat.reduceAdd, Nat.reduceLeDiff, reduceIte, Int.reduceLT, Int.reduceLE, Int.reduceEq, Int.reduceToNat, Int.reduceBEq, c1, uRows_len, uRows_cons, hb2, uRows_app, l1, t1]
      refine ih (p, y :: q, out ++ [x]) ⟨?_, ?_⟩ ?_
      · rw [← h1]; simp [mergeU, c1]
      · simp; unfold bigL; omega
      · simp
    · by_cases c2 : dcmp x.1 y.1 > 0
      · simp only [walk, Nat.reduceLT, Nat.reduceBEq, Nat.reduceAdd, Nat.reduceLeDiff, reduceIte, Int.reduceLT, Int.reduceLE, Int.reduceEq, Int.reduceToNat, Int.reduceBEq, c1, c2, uRows_len, uRows_cons, hb2, uRows_app, l1, t1]
        refine ih (x :: p, q, out ++ [y]) ⟨?_, ?_⟩ ?_
        · rw [← h1]; simp [mergeU, c1, c2]
        · simp; unfold bigL; omega
        · simp
      · simp only [walk, Nat.reduceLT, Nat.reduceBEq, Nat.reduceAdd, Nat.reduceLeDiff, reduceIte, Int.reduceLT, Int.reduceLE, Int.reduceEq, Int.reduceToNat, Int.reduceBEq, c1, c2, uRows_len, uRows_cons, hb2, l1, t1]
        have := ih (p, q, out ++ [(x.1, max x.2 y.2)]) ⟨by rw [← h1]; simp [mergeU, c1, c2], by simp; unfold bigL; omega⟩ (by simp; omega)
        rw [← uRows_app] at this
        exact this
theorem pFold_k {u : Ud} {l : List Ud} {k : Nat} {o : List Ud} {ld : Bool} (hst : (l.take k).foldl (pStep u) ([], false) = (o, ld)) (hk : k ≤ l.length) : o.length ≤ k + 1 := by
  obtain ⟨q1, _⟩ := pFold_len u (l.take k) ([], false)
  rw [hst, List.length_take] at q1
  simp at q1; omega
theorem b24 {n k : Nat} (h : n ≤ k + 1) (hk : k ≤ 1000000) (m : Nat) (hm : m ≤ 2) : (n + m) * 24 ≤ 140737488355328 := by omega
theorem pStep_l0 {u x : Ud} {o : List Ud} (q : dcmp u.1 x.1 = 0) : pStep u (o, true) x = (o, true) := by simp [pStep, q]
theorem pStep_l1 {u x : Ud} {o : List Ud} (q : ¬ dcmp u.1 x.1 = 0) : pStep u (o, true) x = (o ++ [x], true) := by simp [pStep, q]
theorem pStep_n0 {u x : Ud} {o : List Ud} (q : dcmp u.1 x.1 = 0) : pStep u (o, false) x = (o ++ [u], true) := by simp [pStep, q]
theorem pStep_n1 {u x : Ud} {o : List Ud} (q : ¬ dcmp u.1 x.1 = 0) (q2 : dcmp u.1 x.1 ≤ 0) : pStep u (o, false) x = (o ++ [u] ++ [x], true) := by simp [pStep, q, q2]
theorem pStep_n2 {u x : Ud} {o : List Ud} (q2 : ¬ dcmp u.1 x.1 ≤ 0) : pStep u (o, false) x = (o ++ [x], false) := by
  have q : ¬ dcmp u.1 x.1 = 0 := by omega
  simp [pStep, q, q2]
set_option maxHeartbeats 1000000 in
theorem g_pref08_Put (h : S_uOk (C (F n_pref08_one))) (hc : S_dcmp (C (F n_pref04_Compare))) (hg : S_rGet (C (F n_pref08_Get))) : S_rPut ((c_pref08_Put F).gives C) := by
  intro l u hl
  refine gives_of rfl ?_
  unfold c_pref08_Put
  simp only [walk, Nat.reduceLT, Nat.reduceBEq, Nat.reduceAdd, Nat.reduceLeDiff, reduceIte, Int.reduceLT, Int.reduceLE, Int.reduceEq, Int.reduceToNat, Int.reduceBEq, uRows_len]
  refine callWp_of (h u) ?_
  cases h1 : uOk u with
  | false => simp only [walk, Nat.reduceLT, Nat.reduceBEq, Nat.reduceAdd, Nat.reduceLeDiff, reduceIte, Int.reduceLT, Int.reduceLE, Int.reduceEq, Int.reduceToNat, Int.reduceBEq, rPut, h1, true_or, if_true]
  | true =>
    simp only [walk, Nat.reduceLT, Nat.reduceBEq, Nat.reduceAdd, Nat.reduceLeDiff, reduceIte, Int.reduceLT, Int.reduceLE, Int.reduceEq, Int.reduceToNat, Int.reduceBEq]
    refine callWp_of (hg l u.1 (by unfold bigL at *; omega)) ?_
    simp only [walk, Nat.reduceLT, Nat.reduceBEq, Nat.reduceAdd, Nat.reduceLeDiff, reduceIte, Int.reduceLT, Int.reduceLE, Int.reduceEq, Int.reduceToNat, Int.reduceBEq]
    by_cases h2 : getU l u.1 ≥ u.2
    · simp only [walk, Nat.reduceLT, Nat.reduceBEq, Nat.reduceAdd, Nat.reduceLeDiff, reduceIte, Int.reduceLT, Int.reduceLE, Int.reduceEq, Int.reduceToNat, Int.reduceBEq, h2, rPut, or_true, if_true]
    · simp only [walk, Nat.reduceLT, Nat.reduceBEq, Nat.reduceAdd, Nat.reduceLeDiff, reduceIte, Int.reduceLT, Int.reduceLE, Int.reduceEq, Int.reduceToNat, Int.reduceBEq, h2, uRows_len]
      unfold bigL at hl
      refine awp_loop_ind (X := Nat × List Ud × Bool) (fun x => ⟨[(0, .val (usP l)), (1, .val (uP u)), (3, .lp 3 0), (4, .own 3 []), (5, .own 3 (uRows x.2.1)), (6, .val (.bool x.2.2)), (7, .val (.int .i64 x.1)), (20, .val (.bool false))],
          [(3, .cells [.val (.int .i64 u.1.1), .val (.int .i64 u.1.2), .val (.int .i64 u.2)])]⟩)
        (fun x => x.1 ≤ l.length ∧ (l.take x.1).foldl (pStep u) ([], false) = (x.2.1, x.2.2)) (fun x => l.length - x.1) (0, [], false) ⟨by omega, by simp⟩ (by simp [uRows]) ?_
      rintro R ⟨k, o, ld⟩ ⟨hk, hst⟩ ih
      simp only at hk hst
      have hol : o.length ≤ k + 1 := pFold_k hst hk
      have hk6 : k ≤ 1000000 := Nat.le_trans hk (Nat.le_trans (Nat.le_succ _) hl)
      have hb4 : (o.length + 1 + 1) * 24 ≤ 140737488355328 := b24 hol hk6 2 (by decide)
      have hb2 : (o.length + 1) * 24 ≤ 140737488355328 := b24 hol hk6 1 (by decide)
      simp only [walk, Nat.reduceLT, Nat.reduceBEq, Nat.reduceAdd, Nat.reduceLeDiff, reduceIte, Int.reduceLT, Int.reduceLE, Int.reduceEq, Int.reduceToNat, Int.reduceBEq, uRows_len]
      by_cases c : k < l.length
      · have c1 : (k : Int) < l.length := by omega
        have c0 : (0 : Int) ≤ k := by omega
        have e1 : IntKind.i64.wrap ((k : Int) + 1) = ((k + 1 : Nat) : Int) := wrap64 (by omega) (by omega)
        simp only [walk, Nat.reduceLT, Nat.reduceBEq, Nat.reduceAdd, Nat.reduceLeDiff, reduceIte, Int.reduceLT, Int.reduceLE, Int.reduceEq, Int.reduceToNat, Int.reduceBEq, c1, uRows_get c]
        refine callWp_of (hc u.1 (l.getD k z3).1) ?_
        have next : ∀ o' ld', pStep u (o, ld) (l.getD k z3) = (o', ld') → R ⟨[(0, .val (usP l)), (1, .val (uP u)), (3, .lp 3 0), (4, .own 3 []), (5, .own 3 (uRows o')), (6, .val (.bool ld')), (7, .val (.int .i64 ((k + 1 : Nat) : Int))), (20, .val (.bool false))],
            [(3, .cells [.val (.int .i64 u.1.1), .val (.int .i64 u.1.2), .val (.int .i64 u.2)])]⟩ := fun o' ld' h => by
          refine ih (k + 1, o', ld') ⟨by simp only; omega, ?_⟩ (by simp only; omega)
          simp only
          rw [take_get l k z3 c, List.foldl_append, hst]
          simpa using h
        cases ld with
        | true =>
          by_cases q0 : dcmp u.1 (l.getD k z3).1 = 0
          · have q1 : (dcmp u.1 (l.getD k z3).1 != 0) = false := bne_eq_false_iff_eq.2 q0
            simp only [walk, Nat.reduceLT, Nat.reduceBEq, Nat.reduceAdd, Nat.reduceLeDiff, reduceIte, Int.reduceLT, Int.reduceLE, Int.reduceEq, Int.reduceToNat, Int.reduceBEq, q1, e1]
            exact next _ _ (pStep_l0 q0)
          · have q1 : (dcmp u.1 (l.getD k z3).1 != 0) = true := bne_iff_ne.2 q0
            simp only [walk, Nat.reduceLT, Nat.reduceBEq, Nat.reduceAdd, Nat.reduceLeDiff, reduceIte, Int.reduceLT, Int.reduceLE, Int.reduceEq, Int.reduceToNat, Int.reduceBEq, q1, uRows_get c, uRows_len, hb2, uRows_app, e1]
            exact next _ _ (pStep_l1 q0)
        | false =>
          by_cases q2 : dcmp u.1 (l.getD k z3).1 ≤ 0
          · have q2' := decide_eq_true q2
            by_cases q0 : dcmp u.1 (l.getD k z3).1 = 0
            · have q1 : (dcmp u.1 (l.getD k z3).1 != 0) = false := bne_eq_false_iff_eq.2 q0
              simp only [walk, Nat.reduceLT, Nat.reduceBEq, Nat.reduceAdd, Nat.reduceLeDiff, reduceIte, Int.reduceLT, Int.reduceLE, Int.reduceEq, Int.reduceToNat, Int.reduceBEq, q2, uRows_len, hb2, uRows_app, q1, e1]
              exact next _ _ (pStep_n0 q0)
            · have q1 : (dcmp u.1 (l.getD k z3).1 != 0) = true := bne_iff_ne.2 q0
              simp only [walk, Nat.reduceLT, Nat.reduceBEq, Nat.reduceAdd, Nat.reduceLeDiff, reduceIte, Int.reduceLT, Int.reduceLE, Int.reduceEq, Int.reduceToNat, Int.reduceBEq, q2, uRows_len, hb2, hb4, uRows_app, q1, uRows_get c, e1]
              exact next _ _ (pStep_n1 q0 q2)
          · have q2' := decide_eq_false q2
            have q0 : ¬ dcmp u.1 (l.getD k z3).1 = 0 := fun h => q2 (by rw [h]; exact Int.le_refl _)
            have q1 : (dcmp u.1 (l.getD k z3).1 != 0) = true := bne_iff_ne.2 q0
            simp only [walk, Nat.reduceLT, Nat.reduceBEq, Nat.reduceAdd, Nat.reduceLeDiff, reduceIte, Int.reduceLT, Int.reduceLE, Int.reduceEq, Int.reduceToNat, Int.reduceBEq, q2, uRows_len, hb2, uRows_app, q1, uRows_get c, e1]
            exact next _ _ (pStep_n2 q2)
      · have c1 : ¬ ((k : Int) < l.length) := by omega
        have hf : l.foldl (pStep u) ([], false) = (o, ld) := by rw [← hst, List.take_of_length_le (by omega)]
        have hr : rPut l u = if ld = true then o else o ++ [u] := by
          unfold rPut
          rw [if_neg (by rw [h1]; simp; omega), hf]
        cases ld with
        | true => simp only [walk, Nat.reduceLT, Nat.reduceBEq, Nat.reduceAdd, Nat.reduceLeDiff, reduceIte, Int.reduceLT, Int.reduceLE, Int.reduceEq, Int.reduceToNat, Int.reduceBEq, c1, hr, if_true]
        | false =>
          have hr' : rPut l u = o ++ [u] := by rw [hr]; simp
          simp only [walk, Nat.reduceLT, Nat.reduceBEq, Nat.reduceAdd, Nat.reduceLeDiff, reduceIte, Int.reduceLT, Int.reduceLE, Int.reduceEq, Int.reduceToNat, Int.reduceBEq, c1, uRows_len, hb2, uRows_app, hr']
end
end Go.AR
