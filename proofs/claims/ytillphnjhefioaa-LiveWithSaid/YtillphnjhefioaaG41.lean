import Derived.Test.YtillphnjhefioaaG40
set_option linter.all false
/-! Which operations count: the law of what counts again. -/
namespace Go.AR
open Go
section
variable {C : CallRel} {F : Nat → FuncId}
set_option maxHeartbeats 1000000 in
theorem g_LiveAgain (hA : S_yes (C (F n_plaw13_awake))) (h0 : S_lGood (C (F n_plaw13_Good))) (hS : S_rSeen (C (F n_pref08_Seen))) (hF : S_tFind (C (F n_pref12_Find))) (h2 : S_allL (C (F n_live_All))) (hV : S_rCov (C (F n_pref13_Covered))) (hH : S_iHas (C (F n_plaw13_has))) : S_lUndone ((c_plaw13_LiveAgain F).gives C) := by
  intro l u d
  refine gives_of rfl ?_
  unfold c_plaw13_LiveAgain
  simp only [walk, Nat.reduceLT, Nat.reduceBEq, Nat.reduceAdd, Nat.reduceLeDiff, reduceIte, Int.reduceLT, Int.reduceLE, Int.reduceEq, Int.reduceToNat, Int.reduceBEq]
  refine callWp_of (h0 l u) ?_
  cases hg : (goodT 20 l && (decide (u.length ≤ 100) && rightU u)) with
  | false =>
    simp only [walk, Nat.reduceLT, Nat.reduceBEq, Nat.reduceAdd, Nat.reduceLeDiff, reduceIte, Int.reduceLT, Int.reduceLE, Int.reduceEq, Int.reduceToNat, Int.reduceBEq]
    refine callWp_of hA ?_
    simp only [walk, Nat.reduceLT, Nat.reduceBEq, Nat.reduceAdd, Nat.reduceLeDiff, reduceIte, Int.reduceLT, Int.reduceLE, Int.reduceEq, Int.reduceToNat, Int.reduceBEq]
  | true =>
  rw [Bool.and_eq_true, Bool.and_eq_true, decide_eq_true_eq] at hg
  obtain ⟨hgl, hul, hur⟩ := hg
  obtain ⟨hl, hri, hlen⟩ := good_ok hgl
  have hgo := good_ops hgl
  have hs := sort_of_right hur
  have hst := sort_of_rises hri
  have hu : u.length ≤ bigL := by unfold bigL; omega
  have hlen' : l.length ≤ 2000000 := by omega
  simp only [walk, Nat.reduceLT, Nat.reduceBEq, Nat.reduceAdd, Nat.reduceLeDiff, reduceIte, Int.reduceLT, Int.reduceLE, Int.reduceEq, Int.reduceToNat, Int.reduceBEq]
  refine callWp_of (hS u d hu) ?_
  cases hd : seenU u d with
  | true =>
    unfold seenU at hd
    simp only [walk, Nat.reduceLT, Nat.reduceBEq, Nat.reduceAdd, Nat.reduceLeDiff, reduceIte, Int.reduceLT, Int.reduceLE, Int.reduceEq, Int.reduceToNat, Int.reduceBEq, hd]
    refine callWp_of hA ?_
    simp only [walk, Nat.reduceLT, Nat.reduceBEq, Nat.reduceAdd, Nat.reduceLeDiff, reduceIte, Int.reduceLT, Int.reduceLE, Int.reduceEq, Int.reduceToNat, Int.reduceBEq]
  | false =>
  have hok := allL_ok (u := u) hl
  unfold seenU at hd
  simp only [walk, Nat.reduceLT, Nat.reduceBEq, Nat.reduceAdd, Nat.reduceLeDiff, reduceIte, Int.reduceLT, Int.reduceLE, Int.reduceEq, Int.reduceToNat, Int.reduceBEq, hd]
  refine callWp_of (hF l d hlen' hst) ?_
  by_cases f0 : findT l d < 0
  · simp only [walk, Nat.reduceLT, Nat.reduceBEq, Nat.reduceAdd, Nat.reduceLeDiff, reduceIte, Int.reduceLT, Int.reduceLE, Int.reduceEq, Int.reduceToNat, Int.reduceBEq, f0]
    refine callWp_of hA ?_
    simp only [walk, Nat.reduceLT, Nat.reduceBEq, Nat.reduceAdd, Nat.reduceLeDiff, reduceIte, Int.reduceLT, Int.reduceLE, Int.reduceEq, Int.reduceToNat, Int.reduceBEq]
  obtain ⟨hi, ei, _⟩ := find_at (d := d) hst (by omega)
  have f1 : ¬ ((lowT l d : Nat) : Int) < 0 := by omega
  have i1 : ((lowT l d : Nat) : Int) < l.length := by omega
  have hgi := tRows_get hi
  have ht := hl.2 _ (List.getElem_mem hi)
  have hgt := hgo _ (List.getElem_mem hi)
  rw [ei]
  generalize l[lowT l d] = tx at *
  generalize lowT l d = i at *
  have hal := fun (t : Tx) (r : Ud) (j : Nat) => all_has (l := l) (u := u) (t := t) (r := r) (j := j)
  have hXl := hok.1
  simp only [walk, Nat.reduceLT, Nat.reduceBEq, Nat.reduceAdd, Nat.reduceLeDiff, reduceIte, Int.reduceLT, Int.reduceLE, Int.reduceEq, Int.reduceToNat, Int.reduceBEq, f1]
  refine callWp_of (h2 l u hl hs hu) ?_
  generalize allL l u = X at *
  simp only [walk, Nat.reduceLT, Nat.reduceBEq, Nat.reduceAdd, Nat.reduceLeDiff, reduceIte, Int.reduceLT, Int.reduceLE, Int.reduceEq, Int.reduceToNat, Int.reduceBEq]
  refine awp_loop_ind (X := Nat) (fun k => ⟨[(0, .val (tsP l)), (1, .val (usP u)), (2, .val (dP d)), (5, .lp 5 0), (6, .val (.bool false)), (7, .val (.int .i64 i)), (8, .val (isP X)), (9, .val (.int .i64 k)), (21, .val (.bool false)), (27, .val (.bool false))], [(5, .cells [.val (.int .i64 d.1), .val (.int .i64 d.2)])]⟩)
    (fun k => k ≤ tx.ops.length) (fun k => tx.ops.length - k) 0 (by omega) rfl ?_
  rintro R k hk ih
  simp only [walk, Nat.reduceLT, Nat.reduceBEq, Nat.reduceAdd, Nat.reduceLeDiff, reduceIte, Int.reduceLT, Int.reduceLE, Int.reduceEq, Int.reduceToNat, Int.reduceBEq, hgi, tRows_len, oRows_len, i1]
  by_cases c : k < tx.ops.length
  · have c1 : (k : Int) < tx.ops.length := by omega
    have c0 : (0 : Int) ≤ k := by omega
    have e1 : IntKind.i64.wrap ((k : Int) + 1) = ((k + 1 : Nat) : Int) := wrap64 (by omega) (by omega)
    have hgk := oRows_get c
    have hpos := ref_pos (hgt _ (List.getElem_mem c))
    have hrl := (ht.1.2 _ (List.getElem_mem c)).2.2
    have next := ih (k + 1) (by omega) (by omega)
    clear ih
    generalize tx.ops[k] = o at *
    simp only [walk, Nat.reduceLT, Nat.reduceBEq, Nat.reduceAdd, Nat.reduceLeDiff, reduceIte, Int.reduceLT, Int.reduceLE, Int.reduceEq, Int.reduceToNat, Int.reduceBEq, c1]
    refine awp_loop_ind (X := Nat) (fun m => ⟨[(0, .val (tsP l)), (1, .val (usP u)), (2, .val (dP d)), (5, .lp 5 0), (6, .val (.bool false)), (7, .val (.int .i64 i)), (8, .val (isP X)), (9, .val (.int .i64 k)), (10, .val (.int .i64 m)), (21, .val (.bool false)), (27, .val (.bool false)), (39, .val (.bool true))], [(5, .cells [.val (.int .i64 d.1), .val (.int .i64 d.2)])]⟩)
      (fun m => m ≤ o.rs.length) (fun m => o.rs.length - m) 0 (by omega) rfl ?_
    rintro R2 m hm ih
    simp only [walk, Nat.reduceLT, Nat.reduceBEq, Nat.reduceAdd, Nat.reduceLeDiff, reduceIte, Int.reduceLT, Int.reduceLE, Int.reduceEq, Int.reduceToNat, Int.reduceBEq, hgi, hgk, tRows_len, oRows_len, uRows_len, i1, c1]
    by_cases q : m < o.rs.length
    · have q1 : (m : Int) < o.rs.length := by omega
      have q0 : (0 : Int) ≤ m := by omega
      have e2 : IntKind.i64.wrap ((m : Int) + 1) = ((m + 1 : Nat) : Int) := wrap64 (by omega) (by omega)
      have hgm := uRows_get q
      have hrm := hpos _ (List.getElem_mem q)
      rw [show o.rs.getD m z3 = o.rs[m] by simp [List.getD_eq_getElem?_getD, q]] at hgm
      have next2 := ih (m + 1) (by omega) (by omega)
      clear ih
      generalize o.rs[m] = r at *
      obtain ⟨rd, rn⟩ := r
      simp only at hgm hrm
      obtain ⟨n, rfl⟩ : ∃ n : Nat, rn = (n : Int) := ⟨rn.toNat, by omega⟩
      simp only [walk, Nat.reduceLT, Nat.reduceBEq, Nat.reduceAdd, Nat.reduceLeDiff, reduceIte, Int.reduceLT, Int.reduceLE, Int.reduceEq, Int.reduceToNat, Int.reduceBEq, q1, hgi, hgk, hgm, tRows_len, oRows_len, uRows_len, i1, c1]
      refine callWp_of (hF l rd hlen' hst) ?_
      by_cases g0 : findT l rd < 0
      · simp only [walk, Nat.reduceLT, Nat.reduceBEq, Nat.reduceAdd, Nat.reduceLeDiff, reduceIte, Int.reduceLT, Int.reduceLE, Int.reduceEq, Int.reduceToNat, Int.reduceBEq, g0, e2]
        exact next2
      obtain ⟨hw, ew, hwd⟩ := find_at (d := rd) hst (by omega)
      have g1 : ¬ ((lowT l rd : Nat) : Int) < 0 := by omega
      have w1 : ((lowT l rd : Nat) : Int) < l.length := by omega
      have hgw := tRows_get hw
      have hal2 := hal _ (rd, (n : Int)) n (List.getElem_mem hw) hwd rfl
      rw [ew]
      generalize l[lowT l rd] = ty at *
      generalize lowT l rd = w at *
      by_cases p0 : (n : Int) ≥ ty.ops.length
      · simp only [walk, Nat.reduceLT, Nat.reduceBEq, Nat.reduceAdd, Nat.reduceLeDiff, reduceIte, Int.reduceLT, Int.reduceLE, Int.reduceEq, Int.reduceToNat, Int.reduceBEq, g1, hgw, p0, tRows_len, oRows_len, w1, e2]
        exact next2
      have hn : n < ty.ops.length := by omega
      have n1 : (n : Int) < ty.ops.length := by omega
      have hgn := oRows_get hn
      have hal3 := hal2 hn
      generalize ty.ops[n] = oy at *
      by_cases p1 : oy.k > 3
      · simp only [walk, Nat.reduceLT, Nat.reduceBEq, Nat.reduceAdd, Nat.reduceLeDiff, reduceIte, Int.reduceLT, Int.reduceLE, Int.reduceEq, Int.reduceToNat, Int.reduceBEq, g1, hgw, p0, p1, hgn, n1, tRows_len, oRows_len, w1, e2]
        exact next2
      by_cases p2 : oy.k < 1
      · simp only [walk, Nat.reduceLT, Nat.reduceBEq, Nat.reduceAdd, Nat.reduceLeDiff, reduceIte, Int.reduceLT, Int.reduceLE, Int.reduceEq, Int.reduceToNat, Int.reduceBEq, g1, hgw, p0, p1, p2, hgn, n1, tRows_len, oRows_len, w1, e2]
        exact next2
      simp only [walk, Nat.reduceLT, Nat.reduceBEq, Nat.reduceAdd, Nat.reduceLeDiff, reduceIte, Int.reduceLT, Int.reduceLE, Int.reduceEq, Int.reduceToNat, Int.reduceBEq, g1, hgw, p0, p1, p2, hgn, n1, tRows_len, oRows_len, w1]
      refine callWp_of (hS u rd hu) ?_
      cases hse : seenU u rd with
      | false =>
        unfold seenU at hse
        simp only [walk, Nat.reduceLT, Nat.reduceBEq, Nat.reduceAdd, Nat.reduceLeDiff, reduceIte, Int.reduceLT, Int.reduceLE, Int.reduceEq, Int.reduceToNat, Int.reduceBEq, hse, g1, hgw, p0, p1, p2, hgn, n1, tRows_len, oRows_len, w1, e2]
        exact next2
      | true =>
      have hse' := hse
      unfold seenU at hse'
      simp only [walk, Nat.reduceLT, Nat.reduceBEq, Nat.reduceAdd, Nat.reduceLeDiff, reduceIte, Int.reduceLT, Int.reduceLE, Int.reduceEq, Int.reduceToNat, Int.reduceBEq, hse', g1, hgw, p0, p1, p2, hgn, n1, tRows_len, oRows_len, w1]
      refine callWp_of (hV l u (rd, (n : Int)) hl hu) ?_
      cases hcv : covL l u (rd, (n : Int)) with
      | true =>
        simp only [walk, Nat.reduceLT, Nat.reduceBEq, Nat.reduceAdd, Nat.reduceLeDiff, reduceIte, Int.reduceLT, Int.reduceLE, Int.reduceEq, Int.reduceToNat, Int.reduceBEq, hse', g1, hgw, p0, p1, p2, hgn, n1, tRows_len, oRows_len, w1, e2]
        exact next2
      | false =>
      have hyes := hal3 (by omega) (by omega) hse hcv
      simp only [walk, Nat.reduceLT, Nat.reduceBEq, Nat.reduceAdd, Nat.reduceLeDiff, reduceIte, Int.reduceLT, Int.reduceLE, Int.reduceEq, Int.reduceToNat, Int.reduceBEq, hse', g1, hgw, p0, p1, p2, hgn, n1, tRows_len, oRows_len, w1]
      refine callWp_of (hH X (rd, (n : Int)) hXl) ?_
      rw [hyes]
      simp only [walk, Nat.reduceLT, Nat.reduceBEq, Nat.reduceAdd, Nat.reduceLeDiff, reduceIte, Int.reduceLT, Int.reduceLE, Int.reduceEq, Int.reduceToNat, Int.reduceBEq, e2]
      exact next2
    · have q1 : ¬ (m : Int) < o.rs.length := by omega
      simp only [walk, Nat.reduceLT, Nat.reduceBEq, Nat.reduceAdd, Nat.reduceLeDiff, reduceIte, Int.reduceLT, Int.reduceLE, Int.reduceEq, Int.reduceToNat, Int.reduceBEq, q1, e1]
      exact next
  · have c1 : ¬ (k : Int) < tx.ops.length := by omega
    simp only [walk, Nat.reduceLT, Nat.reduceBEq, Nat.reduceAdd, Nat.reduceLeDiff, reduceIte, Int.reduceLT, Int.reduceLE, Int.reduceEq, Int.reduceToNat, Int.reduceBEq, c1]
    refine callWp_of hA ?_
    simp only [walk, Nat.reduceLT, Nat.reduceBEq, Nat.reduceAdd, Nat.reduceLeDiff, reduceIte, Int.reduceLT, Int.reduceLE, Int.reduceEq, Int.reduceToNat, Int.reduceBEq]
end
end Go.AR
