import Derived.Test.YtphggkbbjnpaeaaG34
import Derived.Test.YtphggkbbjnpaeaaG33
import Derived.Test.YtphggkbbjnpaeaaG09
set_option linter.all false
/-! Which operations count. -/
namespace Go.AR
open Go
section
variable {C : CallRel} {F : Nat → FuncId}
def lOk (l : List Tx) : Prop := l.length ≤ 1000 ∧ ∀ t ∈ l, tOk t ∧ t.ops.length ≤ 1000
def S_cov (R : Rel) : Prop := ∀ (l : List Tx) (u : List Ud), lOk l → sortU u → u.length ≤ bigL → R [.v (tsP l), .v (usP u)] (.newm (.map (mkM (keysL l u)))) []
abbrev rB (r : Ud) : Blk := .cells [.val (.int .i64 r.1.1), .val (.int .i64 r.1.2), .val (.int .i64 r.2)]
theorem g_live_covered (hS : S_uSeen (C (F n_tally_Seen))) : S_cov ((c_live_covered F).gives C) := by
  intro l u hl hs hu
  refine gives_of rfl ?_
  unfold c_live_covered
  obtain ⟨hl1, hl2⟩ := hl
  simp only [walk, Nat.reduceLT, Nat.reduceBEq, Nat.reduceAdd, Nat.reduceLeDiff, reduceIte, Int.reduceLT, Int.reduceLE, Int.reduceEq, Int.reduceToNat, Int.reduceBEq, tRows_len]
  refine awp_loop_ind (X := Nat × List Ud) (fun x => ⟨[(0, .val (tsP l)), (1, .val (usP u)), (4, .undef), (5, .mp 12), (13, .val (tsP l)), (14, .val (.int .i64 l.length)), (15, .val (.int .i64 x.1))], [(12, .map (mkM x.2))]⟩)
    (fun x => x.1 ≤ l.length ∧ x.2 = keysL (l.take x.1) u) (fun x => l.length - x.1) (0, []) ⟨by omega, by simp [keysL]⟩ rfl ?_
  rintro R ⟨k, m⟩ ⟨hk, hm⟩ ih
  simp only at hk hm
  simp only [walk, Nat.reduceLT, Nat.reduceBEq, Nat.reduceAdd, Nat.reduceLeDiff, reduceIte, Int.reduceLT, Int.reduceLE, Int.reduceEq, Int.reduceToNat, Int.reduceBEq]
  by_cases c : k < l.length
  · have c1 : (k : Int) < l.length := by omega
    have c0 : (0 : Int) ≤ k := by omega
    have e1 : IntKind.i64.wrap ((k : Int) + 1) = ((k + 1 : Nat) : Int) := wrap64 (by omega) (by omega)
    have hkl : keysL (l.take (k + 1)) u = if seenU u l[k].d = true then l[k].ops.foldl (fun m o => o.rs.foldl addK m) m else m := by
      rw [hm]
      unfold keysL
      rw [List.take_add_one, List.getElem?_eq_getElem c, Option.toList_some, List.foldl_append]
      rfl
    obtain ⟨⟨ho1, ho2⟩, _⟩ := hl2 _ (List.getElem_mem c)
    have hget := tRows_get c
    have next := ih (k + 1, keysL (l.take (k + 1)) u) ⟨by simp only; omega, rfl⟩ (by simp only; omega)
    generalize l[k] = tx at *
    simp only [walk, Nat.reduceLT, Nat.reduceBEq, Nat.reduceAdd, Nat.reduceLeDiff, reduceIte, Int.reduceLT, Int.reduceLE, Int.reduceEq, Int.reduceToNat, Int.reduceBEq, c1, hget]
    refine callWp_of (hS u tx.d hs hu) ?_
    cases hc : seenU u tx.d with
    | false =>
      rw [hc] at hkl
      simp only [Bool.false_eq_true, if_false] at hkl
      rw [hkl] at next
      unfold seenU at hc
      simp only [walk, Nat.reduceLT, Nat.reduceBEq, Nat.reduceAdd, Nat.reduceLeDiff, reduceIte, Int.reduceLT, Int.reduceLE, Int.reduceEq, Int.reduceToNat, Int.reduceBEq, hc, e1]
      exact next
    | true =>
      rw [hc] at hkl
      simp only [if_true] at hkl
      rw [hkl] at next
      unfold seenU at hc
      simp only [walk, Nat.reduceLT, Nat.reduceBEq, Nat.reduceAdd, Nat.reduceLeDiff, reduceIte, Int.reduceLT, Int.reduceLE, Int.reduceEq, Int.reduceToNat, Int.reduceBEq, hc, oRows_len]
      clear hkl
      refine awp_loop_ind (X := Nat × List Ud) (fun x => ⟨[(0, .val (tsP l)), (1, .val (usP u)), (4, .undef), (5, .mp 12), (7, .lp 7 0), (13, .val (tsP l)), (14, .val (.int .i64 l.length)), (15, .val (.int .i64 k)), (16, .val (.bool true)), (23, .val (.bool false)), (25, .val (osP tx.ops)), (26, .val (.int .i64 tx.ops.length)), (27, .val (.int .i64 x.1))], [(7, tB tx), (12, .map (mkM x.2))]⟩)
        (fun x => x.1 ≤ tx.ops.length ∧ x.2 = (tx.ops.take x.1).foldl (fun m o => o.rs.foldl addK m) m) (fun x => tx.ops.length - x.1) (0, m) ⟨by omega, by simp⟩ rfl ?_
      rintro R2 ⟨j, m2⟩ ⟨hj, hm2⟩ ih2
      simp only at hj hm2
      simp only [walk, Nat.reduceLT, Nat.reduceBEq, Nat.reduceAdd, Nat.reduceLeDiff, reduceIte, Int.reduceLT, Int.reduceLE, Int.reduceEq, Int.reduceToNat, Int.reduceBEq]
      by_cases d : j < tx.ops.length
      · have d1 : (j : Int) < tx.ops.length := by omega
        have d0 : (0 : Int) ≤ j := by omega
        have e2 : IntKind.i64.wrap ((j : Int) + 1) = ((j + 1 : Nat) : Int) := wrap64 (by omega) (by omega)
        have hfo : (tx.ops.take (j + 1)).foldl (fun m o => o.rs.foldl addK m) m = tx.ops[j].rs.foldl addK m2 := by
          rw [hm2, List.take_add_one, List.getElem?_eq_getElem d, Option.toList_some, List.foldl_append]
          rfl
        have hr := (ho2 _ (List.getElem_mem d)).2.2
        have hget2 := oRows_get d
        have next2 := ih2 (j + 1, (tx.ops.take (j + 1)).foldl (fun m o => o.rs.foldl addK m) m) ⟨by simp only; omega, rfl⟩ (by simp only; omega)
        rw [hfo] at next2
        clear hfo ih2 ih hm2 next
        generalize tx.ops[j] = o at *
        simp only [walk, Nat.reduceLT, Nat.reduceBEq, Nat.reduceAdd, Nat.reduceLeDiff, reduceIte, Int.reduceLT, Int.reduceLE, Int.reduceEq, Int.reduceToNat, Int.reduceBEq, d1, hget2, uRows_len]
        refine awp_loop_ind (X := Nat × List Ud) (fun x => ⟨[(0, .val (tsP l)), (1, .val (usP u)), (4, .undef), (5, .mp 12), (7, .lp 7 0), (9, .lp 9 0), (13, .val (tsP l)), (14, .val (.int .i64 l.length)), (15, .val (.int .i64 k)), (16, .val (.bool true)), (23, .val (.bool false)), (25, .val (osP tx.ops)), (26, .val (.int .i64 tx.ops.length)), (27, .val (.int .i64 j)), (28, .val (.bool true)), (32, .val (usP o.rs)), (33, .val (.int .i64 o.rs.length)), (34, .val (.int .i64 x.1))], [(7, tB tx), (9, oB o), (12, .map (mkM x.2))]⟩)
          (fun x => x.1 ≤ o.rs.length ∧ x.2 = (o.rs.take x.1).foldl addK m2) (fun x => o.rs.length - x.1) (0, m2) ⟨by omega, by simp⟩ rfl ?_
        rintro R3 ⟨i, m3⟩ ⟨hi, hm3⟩ ih3
        simp only at hi hm3
        simp only [walk, Nat.reduceLT, Nat.reduceBEq, Nat.reduceAdd, Nat.reduceLeDiff, reduceIte, Int.reduceLT, Int.reduceLE, Int.reduceEq, Int.reduceToNat, Int.reduceBEq]
        by_cases g : i < o.rs.length
        · have g1 : (i : Int) < o.rs.length := by omega
          have g0 : (0 : Int) ≤ i := by omega
          have e3 : IntKind.i64.wrap ((i : Int) + 1) = ((i + 1 : Nat) : Int) := wrap64 (by omega) (by omega)
          have hfr : (o.rs.take (i + 1)).foldl addK m2 = addK m3 o.rs[i] := by
            rw [hm3, List.take_add_one, List.getElem?_eq_getElem g, Option.toList_some, List.foldl_append]
            rfl
          have next3 := ih3 (i + 1, (o.rs.take (i + 1)).foldl addK m2) ⟨by simp only; omega, rfl⟩ (by simp only; omega)
          rw [hfr] at next3
          have hgr := uRows_get g
          rw [getD_at g] at hgr
          simp only [walk, Nat.reduceLT, Nat.reduceBEq, Nat.reduceAdd, Nat.reduceLeDiff, reduceIte, Int.reduceLT, Int.reduceLE, Int.reduceEq, Int.reduceToNat, Int.reduceBEq, g1, hgr, setP_mk, e3]
          exact next3
        · have g1 : ¬ (i : Int) < o.rs.length := by omega
          rw [List.take_of_length_le (by omega)] at hm3
          subst hm3
          simp only [walk, Nat.reduceLT, Nat.reduceBEq, Nat.reduceAdd, Nat.reduceLeDiff, reduceIte, Int.reduceLT, Int.reduceLE, Int.reduceEq, Int.reduceToNat, Int.reduceBEq, g1, e2]
          exact next2
      · have d1 : ¬ (j : Int) < tx.ops.length := by omega
        rw [List.take_of_length_le (by omega)] at hm2
        subst hm2
        simp only [walk, Nat.reduceLT, Nat.reduceBEq, Nat.reduceAdd, Nat.reduceLeDiff, reduceIte, Int.reduceLT, Int.reduceLE, Int.reduceEq, Int.reduceToNat, Int.reduceBEq, d1, e1]
        exact next
  · have c1 : ¬ (k : Int) < l.length := by omega
    rw [List.take_of_length_le (by omega)] at hm
    subst hm
    simp only [walk, Nat.reduceLT, Nat.reduceBEq, Nat.reduceAdd, Nat.reduceLeDiff, reduceIte, Int.reduceLT, Int.reduceLE, Int.reduceEq, Int.reduceToNat, Int.reduceBEq, c1]
end
end Go.AR

/-! Which operations count: all. -/
namespace Go.AR
open Go
abbrev iCells (i : It) : List PV := [.int .i64 i.x.1.1, .int .i64 i.x.1.2, .int .i64 i.x.2, .int .i64 i.o.k, ptP i.o.p, .int .i64 i.o.v.1, .int .i64 i.o.v.2.1, .str i.o.v.2.2, .int .i64 i.o.am, usP i.o.rs, .int .i64 i.t]
def iRs (l : List It) : List (List PV) := l.map iCells
theorem iRs_len (l : List It) : (iRs l).length = l.length := by simp [iRs]
theorem iRs_get {l : List It} {k : Nat} (h : k < l.length) : (iRs l)[k]? = some (iCells l[k]) := by simp [iRs, h]
theorem iRs_app (l : List It) (i : It) : iRs l ++ [iCells i] = iRs (l ++ [i]) := by simp [iRs]
abbrev isP (l : List It) : PV := .sl 11 (iRs l)
theorem itemsO_app (gone : Ud → Bool) (d : Dt) (tm : Int) : ∀ (a b : List Ov) (i : Nat), itemsO gone d tm i (a ++ b) = itemsO gone d tm i a ++ itemsO gone d tm (i + a.length) b
  | [], b, i => by simp [itemsO]
  | o :: a, b, i => by
    rw [List.cons_append, itemsO, itemsO, itemsO_app gone d tm a b (i + 1), List.append_assoc, List.length_cons, show i + 1 + a.length = i + (a.length + 1) by omega]
theorem itemsO_len (gone : Ud → Bool) (d : Dt) (tm : Int) : ∀ (a : List Ov) (i : Nat), (itemsO gone d tm i a).length ≤ a.length
  | [], i => by simp [itemsO]
  | o :: a, i => by
    have := itemsO_len gone d tm a (i + 1)
    rw [itemsO, List.length_append, List.length_cons]
    split <;> simp <;> omega
theorem itemsT_len (gone : Ud → Bool) (u : List Ud) (t : Tx) : (itemsT gone u t).length ≤ t.ops.length := by
  unfold itemsT
  split
  · exact itemsO_len gone t.d t.t t.ops 0
  · simp
theorem flat_items_len (g : Tx → List It) (hg : ∀ t, (g t).length ≤ t.ops.length) : ∀ (l : List Tx), (∀ t ∈ l, t.ops.length ≤ 1000) → (l.flatMap g).length ≤ l.length * 1000
  | [], _ => by simp
  | t :: l, h => by
    have h1 := flat_items_len g hg l (fun x hx => h x (by simp [hx]))
    have h2 := hg t
    have h3 := h t (by simp)
    rw [List.flatMap_cons, List.length_append, List.length_cons]; omega
section
variable {C : CallRel} {F : Nat → FuncId}
def S_allL (R : Rel) : Prop := ∀ (l : List Tx) (u : List Ud), lOk l → sortU u → u.length ≤ bigL → R [.v (tsP l), .v (usP u)] (.val (isP (allL l u))) []
theorem g_live_All (hC : S_cov (C (F n_live_covered))) (hS : S_uSeen (C (F n_tally_Seen))) : S_allL ((c_live_All F).gives C) := by
  intro l u hl hs hu
  refine gives_of rfl ?_
  unfold c_live_All
  have hl' := hl
  obtain ⟨hl1, hl2⟩ := hl
  simp only [walk, Nat.reduceLT, Nat.reduceBEq, Nat.reduceAdd, Nat.reduceLeDiff, reduceIte, Int.reduceLT, Int.reduceLE, Int.reduceEq, Int.reduceToNat, Int.reduceBEq]
  refine callWp_of (hC l u hl' hs hu) ?_
  simp only [walk, Nat.reduceLT, Nat.reduceBEq, Nat.reduceAdd, Nat.reduceLeDiff, reduceIte, Int.reduceLT, Int.reduceLE, Int.reduceEq, Int.reduceToNat, Int.reduceBEq, tRows_len]
  have hfind := find_cov l u
  generalize mkM (keysL l u) = kvs at *
  unfold allL
  generalize hgone : covL l u = gone at *
  refine awp_loop_ind (X := Nat × List It) (fun x => ⟨[(0, .val (tsP l)), (1, .val (usP u)), (4, .val (.sl 11 [])), (5, .mp 14), (6, .own 11 (iRs x.2)), (15, .val (tsP l)), (16, .val (.int .i64 l.length)), (17, .val (.int .i64 x.1))], [(14, .map kvs)]⟩)
    (fun x => x.1 ≤ l.length ∧ x.2 = (l.take x.1).flatMap (itemsT gone u)) (fun x => l.length - x.1) (0, []) ⟨by omega, by simp⟩ rfl ?_
  rintro R ⟨k, acc⟩ ⟨hk, hacc⟩ ih
  simp only at hk hacc
  simp only [walk, Nat.reduceLT, Nat.reduceBEq, Nat.reduceAdd, Nat.reduceLeDiff, reduceIte, Int.reduceLT, Int.reduceLE, Int.reduceEq, Int.reduceToNat, Int.reduceBEq]
  by_cases c : k < l.length
  · have c1 : (k : Int) < l.length := by omega
    have c0 : (0 : Int) ≤ k := by omega
    have e1 : IntKind.i64.wrap ((k : Int) + 1) = ((k + 1 : Nat) : Int) := wrap64 (by omega) (by omega)
    have hkl : (l.take (k + 1)).flatMap (itemsT gone u) = acc ++ itemsT gone u l[k] := by
      rw [hacc, List.take_add_one, List.getElem?_eq_getElem c, Option.toList_some, List.flatMap_append]
      simp
    have halen : acc.length ≤ 1000 * 1000 := by
      have := flat_items_len (itemsT gone u) (itemsT_len gone u) (l.take k) (fun t ht => (hl2 t (List.mem_of_mem_take ht)).2)
      rw [← hacc, List.length_take, Nat.min_eq_left (by omega)] at this
      exact Nat.le_trans this (Nat.mul_le_mul (by omega) (Nat.le_refl _))
    obtain ⟨_, ho1⟩ := hl2 _ (List.getElem_mem c)
    have hget := tRows_get c
    have next := ih (k + 1, (l.take (k + 1)).flatMap (itemsT gone u)) ⟨by simp only; omega, rfl⟩ (by simp only; omega)
    rw [hkl] at next
    clear hkl ih hacc
    generalize l[k] = tx at *
    simp only [walk, Nat.reduceLT, Nat.reduceBEq, Nat.reduceAdd, Nat.reduceLeDiff, reduceIte, Int.reduceLT, Int.reduceLE, Int.reduceEq, Int.reduceToNat, Int.reduceBEq, c1, hget]
    refine callWp_of (hS u tx.d hs hu) ?_
    unfold itemsT at next
    cases hc : seenU u tx.d with
    | false =>
      rw [hc] at next
      simp only [Bool.false_eq_true, if_false, List.append_nil] at next
      unfold seenU at hc
      simp only [walk, Nat.reduceLT, Nat.reduceBEq, Nat.reduceAdd, Nat.reduceLeDiff, reduceIte, Int.reduceLT, Int.reduceLE, Int.reduceEq, Int.reduceToNat, Int.reduceBEq, hc, e1]
      exact next
    | true =>
      rw [hc] at next
      simp only [if_true] at next
      unfold seenU at hc
      simp only [walk, Nat.reduceLT, Nat.reduceBEq, Nat.reduceAdd, Nat.reduceLeDiff, reduceIte, Int.reduceLT, Int.reduceLE, Int.reduceEq, Int.reduceToNat, Int.reduceBEq, hc, oRows_len]
      refine awp_loop_ind (X := Nat × List It) (fun x => ⟨[(0, .val (tsP l)), (1, .val (usP u)), (4, .val (.sl 11 [])), (5, .mp 14), (6, .own 11 (iRs x.2)), (8, .lp 8 0), (15, .val (tsP l)), (16, .val (.int .i64 l.length)), (17, .val (.int .i64 k)), (18, .val (.bool true)), (25, .val (.bool false)), (27, .val (osP tx.ops)), (28, .val (.int .i64 tx.ops.length)), (29, .val (.int .i64 x.1))], [(8, tB tx), (14, .map kvs)]⟩)
        (fun x => x.1 ≤ tx.ops.length ∧ x.2 = acc ++ itemsO gone tx.d tx.t 0 (tx.ops.take x.1)) (fun x => tx.ops.length - x.1) (0, acc) ⟨by omega, by simp [itemsO]⟩ rfl ?_
      rintro R2 ⟨j, acc2⟩ ⟨hj, hacc2⟩ ih2
      simp only at hj hacc2
      simp only [walk, Nat.reduceLT, Nat.reduceBEq, Nat.reduceAdd, Nat.reduceLeDiff, reduceIte, Int.reduceLT, Int.reduceLE, Int.reduceEq, Int.reduceToNat, Int.reduceBEq]
      by_cases d : j < tx.ops.length
      · have d1 : (j : Int) < tx.ops.length := by omega
        have d0 : (0 : Int) ≤ j := by omega
        have e2 : IntKind.i64.wrap ((j : Int) + 1) = ((j + 1 : Nat) : Int) := wrap64 (by omega) (by omega)
        have ha2 : acc2.length ≤ 1001000 := by
          have := itemsO_len gone tx.d tx.t (tx.ops.take j) 0
          rw [List.length_take, Nat.min_eq_left (by omega)] at this
          rw [hacc2, List.length_append]; omega
        have hb2 : (acc2.length + 1) * 128 ≤ 140737488355328 := by omega
        have hjl : acc ++ itemsO gone tx.d tx.t 0 (tx.ops.take (j + 1)) = acc2 ++ (if (decide (tx.ops[j].k = 1) || decide (tx.ops[j].k = 2) || decide (tx.ops[j].k = 3)) && !gone (tx.d, (j : Int)) then [⟨(tx.d, (j : Int)), tx.ops[j], tx.t⟩] else []) := by
          rw [hacc2, List.take_add_one, List.getElem?_eq_getElem d, Option.toList_some, itemsO_app, List.length_take, Nat.min_eq_left (by omega), Nat.zero_add, List.append_assoc]
          simp [itemsO]
        have hget2 := oRows_get d
        have next2 := ih2 (j + 1, acc ++ itemsO gone tx.d tx.t 0 (tx.ops.take (j + 1))) ⟨by simp only; omega, rfl⟩ (by simp only; omega)
        rw [hjl] at next2
        clear hjl ih2 next hacc2
        have hf : findP [.i, .i, .i] (.agg [.int .i64 tx.d.1, .int .i64 tx.d.2, .int .i64 (j : Int)]) kvs = some (if gone (tx.d, (j : Int)) = true then some (.bool true) else none) := hfind (tx.d, (j : Int))
        generalize tx.ops[j] = o at *
        simp only [walk, Nat.reduceLT, Nat.reduceBEq, Nat.reduceAdd, Nat.reduceLeDiff, reduceIte, Int.reduceLT, Int.reduceLE, Int.reduceEq, Int.reduceToNat, Int.reduceBEq, d1, hget2, ieq]
        by_cases k1 : o.k = 1
        · have k2 : ¬ o.k = 2 := by omega
          have k3 : ¬ o.k = 3 := by omega
          cases hg : gone (tx.d, (j : Int)) with
          | true =>
            rw [hg] at hf next2
            simp only [k1, decide_true, decide_false, Bool.true_or, Bool.or_true, Bool.false_or, Bool.or_false, Bool.not_true, Bool.and_false, Bool.false_eq_true, if_false, if_true, List.append_nil] at hf next2
            simp only [walk, Nat.reduceLT, Nat.reduceBEq, Nat.reduceAdd, Nat.reduceLeDiff, reduceIte, Int.reduceLT, Int.reduceLE, Int.reduceEq, Int.reduceToNat, Int.reduceBEq, ieq, k1, hf, Option.getD_some, e2]
            exact next2
          | false =>
            rw [hg] at hf next2
            simp only [k1, decide_true, decide_false, Bool.true_or, Bool.or_true, Bool.false_or, Bool.or_false, Bool.not_false, Bool.and_true, Bool.false_eq_true, if_false, if_true] at hf next2
            rw [← iRs_app] at next2
            simp only [iCells, k1] at next2
            simp only [walk, Nat.reduceLT, Nat.reduceBEq, Nat.reduceAdd, Nat.reduceLeDiff, reduceIte, Int.reduceLT, Int.reduceLE, Int.reduceEq, Int.reduceToNat, Int.reduceBEq, ieq, k1, hf, Option.getD_none, iRs_len, hb2, e2]
            exact next2
        by_cases k2 : o.k = 2
        · have k3 : ¬ o.k = 3 := by omega
          cases hg : gone (tx.d, (j : Int)) with
          | true =>
            rw [hg] at hf next2
            simp only [k2, decide_true, decide_false, Bool.true_or, Bool.or_true, Bool.false_or, Bool.or_false, Bool.not_true, Bool.and_false, Bool.false_eq_true, if_false, if_true, List.append_nil] at hf next2
            simp only [walk, Nat.reduceLT, Nat.reduceBEq, Nat.reduceAdd, Nat.reduceLeDiff, reduceIte, Int.reduceLT, Int.reduceLE, Int.reduceEq, Int.reduceToNat, Int.reduceBEq, ieq, k2, hf, Option.getD_some, e2]
            exact next2
          | false =>
            rw [hg] at hf next2
            simp only [k2, decide_true, decide_false, Bool.true_or, Bool.or_true, Bool.false_or, Bool.or_false, Bool.not_false, Bool.and_true, Bool.false_eq_true, if_false, if_true] at hf next2
            rw [← iRs_app] at next2
            simp only [iCells, k2] at next2
            simp only [walk, Nat.reduceLT, Nat.reduceBEq, Nat.reduceAdd, Nat.reduceLeDiff, reduceIte, Int.reduceLT, Int.reduceLE, Int.reduceEq, Int.reduceToNat, Int.reduceBEq, ieq, k2, hf, Option.getD_none, iRs_len, hb2, e2]
            exact next2
        by_cases k3 : o.k = 3
        · cases hg : gone (tx.d, (j : Int)) with
          | true =>
            rw [hg] at hf next2
            simp only [k3, decide_true, decide_false, Bool.true_or, Bool.or_true, Bool.false_or, Bool.or_false, Bool.not_true, Bool.and_false, Bool.false_eq_true, if_false, if_true, List.append_nil] at hf next2
            simp only [walk, Nat.reduceLT, Nat.reduceBEq, Nat.reduceAdd, Nat.reduceLeDiff, reduceIte, Int.reduceLT, Int.reduceLE, Int.reduceEq, Int.reduceToNat, Int.reduceBEq, ieq, k3, hf, Option.getD_some, e2]
            exact next2
          | false =>
            rw [hg] at hf next2
            simp only [k3, decide_true, decide_false, Bool.true_or, Bool.or_true, Bool.false_or, Bool.or_false, Bool.not_false, Bool.and_true, Bool.false_eq_true, if_false, if_true] at hf next2
            rw [← iRs_app] at next2
            simp only [iCells, k3] at next2
            simp only [walk, Nat.reduceLT, Nat.reduceBEq, Nat.reduceAdd, Nat.reduceLeDiff, reduceIte, Int.reduceLT, Int.reduceLE, Int.reduceEq, Int.reduceToNat, Int.reduceBEq, ieq, k3, hf, Option.getD_none, iRs_len, hb2, e2]
            exact next2
        simp only [k1, k2, k3, decide_false, Bool.or_self, Bool.false_and, Bool.false_eq_true, if_false, List.append_nil] at next2
        simp only [walk, Nat.reduceLT, Nat.reduceBEq, Nat.reduceAdd, Nat.reduceLeDiff, reduceIte, Int.reduceLT, Int.reduceLE, Int.reduceEq, Int.reduceToNat, Int.reduceBEq, ieq, k1, k2, k3, e2]
        exact next2
      · have d1 : ¬ (j : Int) < tx.ops.length := by omega
        rw [List.take_of_length_le (by omega)] at hacc2
        subst hacc2
        simp only [walk, Nat.reduceLT, Nat.reduceBEq, Nat.reduceAdd, Nat.reduceLeDiff, reduceIte, Int.reduceLT, Int.reduceLE, Int.reduceEq, Int.reduceToNat, Int.reduceBEq, d1, e1]
        exact next
  · have c1 : ¬ (k : Int) < l.length := by omega
    rw [List.take_of_length_le (by omega)] at hacc
    subst hacc
    simp only [walk, Nat.reduceLT, Nat.reduceBEq, Nat.reduceAdd, Nat.reduceLeDiff, reduceIte, Int.reduceLT, Int.reduceLE, Int.reduceEq, Int.reduceToNat, Int.reduceBEq, c1]
end
end Go.AR

/-! Which operations count: the document's. -/
namespace Go.AR
open Go
section
variable {C : CallRel} {F : Nat → FuncId}
def S_oCovR (R : Rel) : Prop := ∀ (o : Ov) (r : Ud), oOk o → R [.v (oP o), .v (uP r)] (.val (.bool (hasR o.rs r))) []
theorem g_pref11_CoversR : S_oCovR ((c_pref11_Covers F).gives C) := by
  intro o r ho
  refine gives_of rfl ?_
  unfold c_pref11_Covers
  have hl := ho.2.2
  simp only [walk, Nat.reduceLT, Nat.reduceBEq, Nat.reduceAdd, Nat.reduceLeDiff, reduceIte, Int.reduceLT, Int.reduceLE, Int.reduceEq, Int.reduceToNat, Int.reduceBEq, uRows_len]
  refine awp_loop_ind (X := Nat) (fun k => ⟨[(0, .val (oP o)), (1, .val (uP r)), (2, .lp 2 0), (3, .lp 3 0), (4, .val (.bool false)), (5, .val (.int .i64 k))], [(2, oB o), (3, uB r)]⟩)
    (fun k => k ≤ o.rs.length ∧ ∀ j, j < k → o.rs.getD j z3 ≠ r) (fun k => o.rs.length - k) 0 ⟨by omega, by omega⟩ rfl ?_
  rintro R k ⟨hk, hJ⟩ ih
  simp only [walk, Nat.reduceLT, Nat.reduceBEq, Nat.reduceAdd, Nat.reduceLeDiff, reduceIte, Int.reduceLT, Int.reduceLE, Int.reduceEq, Int.reduceToNat, Int.reduceBEq, uRows_len]
  by_cases c : k < o.rs.length
  · have c1 : (k : Int) < o.rs.length := by omega
    have c0 : (0 : Int) ≤ k := by omega
    have e1 : IntKind.i64.wrap ((k : Int) + 1) = ((k + 1 : Nat) : Int) := wrap64 (by omega) (by omega)
    simp only [walk, Nat.reduceLT, Nat.reduceBEq, Nat.reduceAdd, Nat.reduceLeDiff, reduceIte, Int.reduceLT, Int.reduceLE, Int.reduceEq, Int.reduceToNat, Int.reduceBEq, c1, uRows_get c, eq_r]
    by_cases he : o.rs.getD k z3 = r
    · have : hasR o.rs r = true := hasR_iff.2 ⟨k, c, he⟩
      simp only [walk, Nat.reduceLT, Nat.reduceBEq, Nat.reduceAdd, Nat.reduceLeDiff, reduceIte, Int.reduceLT, Int.reduceLE, Int.reduceEq, Int.reduceToNat, Int.reduceBEq, he, this]
    · simp only [walk, Nat.reduceLT, Nat.reduceBEq, Nat.reduceAdd, Nat.reduceLeDiff, reduceIte, Int.reduceLT, Int.reduceLE, Int.reduceEq, Int.reduceToNat, Int.reduceBEq, he, e1]
      exact ih (k + 1) ⟨by omega, fun j hj => by
        by_cases e : j = k
        · subst e; exact he
        · exact hJ j (by omega)⟩ (by omega)
  · have c1 : ¬ (k : Int) < o.rs.length := by omega
    have : hasR o.rs r = false := by
      rw [← Bool.not_eq_true, hasR_iff]
      rintro ⟨j, hj, e⟩
      exact hJ j (by omega) e
    simp only [walk, Nat.reduceLT, Nat.reduceBEq, Nat.reduceAdd, Nat.reduceLeDiff, reduceIte, Int.reduceLT, Int.reduceLE, Int.reduceEq, Int.reduceToNat, Int.reduceBEq, c1, this]
def S_rCov (R : Rel) : Prop := ∀ (l : List Tx) (u : List Ud) (r : Ud), lOk l → u.length ≤ bigL → R [.v (tsP l), .v (usP u), .v (uP r)] (.val (.bool (covL l u r))) []
theorem any_take_add {α : Type} (f : α → Bool) (l : List α) (k : Nat) (h : k < l.length) : (l.take (k + 1)).any f = ((l.take k).any f || f l[k]) := by
  rw [List.take_add_one, List.getElem?_eq_getElem h, Option.toList_some, List.any_append]
  simp
theorem any_of_at {α : Type} (f : α → Bool) (l : List α) (k : Nat) (h : k < l.length) (hf : f l[k] = true) : l.any f = true := List.any_eq_true.2 ⟨l[k], List.getElem_mem h, hf⟩
theorem g_pref13_Covered (hO : S_oCovR (C (F n_pref11_Covers))) (hS : S_rSeen (C (F n_pref08_Seen))) : S_rCov ((c_pref13_Covered F).gives C) := by
  intro l u r hl hu
  refine gives_of rfl ?_
  unfold c_pref13_Covered
  obtain ⟨hl1, hl2⟩ := hl
  have hcov : covL l u r = l.any fun t => seenU u t.d && t.ops.any fun o => hasR o.rs r := rfl
  simp only [walk, Nat.reduceLT, Nat.reduceBEq, Nat.reduceAdd, Nat.reduceLeDiff, reduceIte, Int.reduceLT, Int.reduceLE, Int.reduceEq, Int.reduceToNat, Int.reduceBEq]
  refine awp_loop_ind (X := Nat) (fun k => ⟨[(0, .val (tsP l)), (1, .val (usP u)), (2, .val (uP r)), (5, .lp 5 0), (6, .val (.bool false)), (7, .val (.int .i64 k))], [(5, rB r)]⟩)
    (fun k => k ≤ l.length ∧ ((l.take k).any fun t => seenU u t.d && t.ops.any fun o => hasR o.rs r) = false) (fun k => l.length - k) 0 ⟨by omega, by simp⟩ rfl ?_
  rintro R k ⟨hk, hJ⟩ ih
  simp only [walk, Nat.reduceLT, Nat.reduceBEq, Nat.reduceAdd, Nat.reduceLeDiff, reduceIte, Int.reduceLT, Int.reduceLE, Int.reduceEq, Int.reduceToNat, Int.reduceBEq, tRows_len]
  by_cases c : k < l.length
  · have c1 : (k : Int) < l.length := by omega
    have c0 : (0 : Int) ≤ k := by omega
    have e1 : IntKind.i64.wrap ((k : Int) + 1) = ((k + 1 : Nat) : Int) := wrap64 (by omega) (by omega)
    obtain ⟨⟨_, ho2⟩, ho1⟩ := hl2 _ (List.getElem_mem c)
    have hget := tRows_get c
    have next : (seenU u l[k].d && l[k].ops.any fun o => hasR o.rs r) = false → _ := fun h => ih (k + 1) ⟨by omega, by rw [any_take_add _ l k c, hJ, h]; rfl⟩ (by omega)
    have yes : (seenU u l[k].d && l[k].ops.any fun o => hasR o.rs r) = true → covL l u r = true := fun h => any_of_at _ l k c h
    generalize l[k] = tx at *
    simp only [walk, Nat.reduceLT, Nat.reduceBEq, Nat.reduceAdd, Nat.reduceLeDiff, reduceIte, Int.reduceLT, Int.reduceLE, Int.reduceEq, Int.reduceToNat, Int.reduceBEq, c1]
    refine awp_loop_ind (X := Nat) (fun j => ⟨[(0, .val (tsP l)), (1, .val (usP u)), (2, .val (uP r)), (5, .lp 5 0), (6, .val (.bool false)), (7, .val (.int .i64 k)), (8, .val (.int .i64 j)), (12, .val (.bool true))], [(5, rB r)]⟩)
      (fun j => j ≤ tx.ops.length ∧ (seenU u tx.d && (tx.ops.take j).any fun o => hasR o.rs r) = false) (fun j => tx.ops.length - j) 0 ⟨by omega, by simp⟩ rfl ?_
    rintro R2 j ⟨hj, hJ2⟩ ih2
    simp only [walk, Nat.reduceLT, Nat.reduceBEq, Nat.reduceAdd, Nat.reduceLeDiff, reduceIte, Int.reduceLT, Int.reduceLE, Int.reduceEq, Int.reduceToNat, Int.reduceBEq, c1, hget, tRows_len, oRows_len]
    by_cases d : j < tx.ops.length
    · have d1 : (j : Int) < tx.ops.length := by omega
      have d0 : (0 : Int) ≤ j := by omega
      have e2 : IntKind.i64.wrap ((j : Int) + 1) = ((j + 1 : Nat) : Int) := wrap64 (by omega) (by omega)
      have hget2 := oRows_get d
      have hok := ho2 _ (List.getElem_mem d)
      have next2 : (seenU u tx.d && hasR tx.ops[j].rs r) = false → _ := fun h => ih2 (j + 1) ⟨by omega, by
        rw [any_take_add _ tx.ops j d]
        revert hJ2 h
        generalize ((tx.ops.take j).any fun o => hasR o.rs r) = A
        generalize hasR tx.ops[j].rs r = B
        cases seenU u tx.d <;> cases A <;> cases B <;> simp⟩ (by omega)
      have yes2 : seenU u tx.d = true → hasR tx.ops[j].rs r = true → covL l u r = true := fun h1 h2 => yes (by rw [h1, any_of_at _ tx.ops j d h2]; rfl)
      generalize tx.ops[j] = o at *
      simp only [walk, Nat.reduceLT, Nat.reduceBEq, Nat.reduceAdd, Nat.reduceLeDiff, reduceIte, Int.reduceLT, Int.reduceLE, Int.reduceEq, Int.reduceToNat, Int.reduceBEq, c1, hget, d1, hget2, tRows_len, oRows_len]
      refine callWp_of (hO o r hok) ?_
      cases hh : hasR o.rs r with
      | false =>
        simp only [walk, Nat.reduceLT, Nat.reduceBEq, Nat.reduceAdd, Nat.reduceLeDiff, reduceIte, Int.reduceLT, Int.reduceLE, Int.reduceEq, Int.reduceToNat, Int.reduceBEq, e2]
        exact next2 (by rw [hh, Bool.and_false])
      | true =>
        simp only [walk, Nat.reduceLT, Nat.reduceBEq, Nat.reduceAdd, Nat.reduceLeDiff, reduceIte, Int.reduceLT, Int.reduceLE, Int.reduceEq, Int.reduceToNat, Int.reduceBEq, c1, hget, tRows_len]
        refine callWp_of (hS u tx.d hu) ?_
        cases hc : seenU u tx.d with
        | false =>
          have h2 := next2 (by rw [hc, Bool.false_and])
          unfold seenU at hc
          simp only [walk, Nat.reduceLT, Nat.reduceBEq, Nat.reduceAdd, Nat.reduceLeDiff, reduceIte, Int.reduceLT, Int.reduceLE, Int.reduceEq, Int.reduceToNat, Int.reduceBEq, hc, e2]
          exact h2
        | true =>
          have h2 := yes2 hc hh
          unfold seenU at hc
          simp only [walk, Nat.reduceLT, Nat.reduceBEq, Nat.reduceAdd, Nat.reduceLeDiff, reduceIte, Int.reduceLT, Int.reduceLE, Int.reduceEq, Int.reduceToNat, Int.reduceBEq, hc, h2]
    · have d1 : ¬ (j : Int) < tx.ops.length := by omega
      rw [List.take_of_length_le (by omega)] at hJ2
      simp only [walk, Nat.reduceLT, Nat.reduceBEq, Nat.reduceAdd, Nat.reduceLeDiff, reduceIte, Int.reduceLT, Int.reduceLE, Int.reduceEq, Int.reduceToNat, Int.reduceBEq, d1, e1]
      exact next hJ2
  · have c1 : ¬ (k : Int) < l.length := by omega
    rw [List.take_of_length_le (by omega)] at hJ
    have hf : covL l u r = false := hJ
    simp only [walk, Nat.reduceLT, Nat.reduceBEq, Nat.reduceAdd, Nat.reduceLeDiff, reduceIte, Int.reduceLT, Int.reduceLE, Int.reduceEq, Int.reduceToNat, Int.reduceBEq, c1, hf]
end
end Go.AR

/-! Which operations count: the document's row. -/
namespace Go.AR
open Go
section
variable {C : CallRel} {F : Nat → FuncId}
def S_rAllL (R : Rel) : Prop := ∀ (l : List Tx) (u : List Ud), lOk l → u.length ≤ bigL → R [.v (tsP l), .v (usP u)] (.val (isP (allL l u))) []
theorem g_pref13_All (hC : S_rCov (C (F n_pref13_Covered))) (hS : S_rSeen (C (F n_pref08_Seen))) : S_rAllL ((c_pref13_All F).gives C) := by
  intro l u hl hu
  refine gives_of rfl ?_
  unfold c_pref13_All
  have hl' := hl
  obtain ⟨hl1, hl2⟩ := hl
  have hcv := fun r => hC l u r hl' hu
  simp only [walk, Nat.reduceLT, Nat.reduceBEq, Nat.reduceAdd, Nat.reduceLeDiff, reduceIte, Int.reduceLT, Int.reduceLE, Int.reduceEq, Int.reduceToNat, Int.reduceBEq]
  unfold allL
  generalize hgone : covL l u = gone at *
  refine awp_loop_ind (X := Nat × List It) (fun x => ⟨[(0, .val (tsP l)), (1, .val (usP u)), (4, .val (.sl 11 [])), (5, .own 11 (iRs x.2)), (6, .val (.int .i64 x.1))], []⟩)
    (fun x => x.1 ≤ l.length ∧ x.2 = (l.take x.1).flatMap (itemsT gone u)) (fun x => l.length - x.1) (0, []) ⟨by omega, by simp⟩ rfl ?_
  rintro R ⟨k, acc⟩ ⟨hk, hacc⟩ ih
  simp only at hk hacc
  simp only [walk, Nat.reduceLT, Nat.reduceBEq, Nat.reduceAdd, Nat.reduceLeDiff, reduceIte, Int.reduceLT, Int.reduceLE, Int.reduceEq, Int.reduceToNat, Int.reduceBEq, tRows_len]
  by_cases c : k < l.length
  · have c1 : (k : Int) < l.length := by omega
    have c0 : (0 : Int) ≤ k := by omega
    have e1 : IntKind.i64.wrap ((k : Int) + 1) = ((k + 1 : Nat) : Int) := wrap64 (by omega) (by omega)
    have hkl : (l.take (k + 1)).flatMap (itemsT gone u) = acc ++ itemsT gone u l[k] := by
      rw [hacc, List.take_add_one, List.getElem?_eq_getElem c, Option.toList_some, List.flatMap_append]
      simp
    have halen : acc.length ≤ 1000 * 1000 := by
      have := flat_items_len (itemsT gone u) (itemsT_len gone u) (l.take k) (fun t ht => (hl2 t (List.mem_of_mem_take ht)).2)
      rw [← hacc, List.length_take, Nat.min_eq_left (by omega)] at this
      exact Nat.le_trans this (Nat.mul_le_mul (by omega) (Nat.le_refl _))
    obtain ⟨_, ho1⟩ := hl2 _ (List.getElem_mem c)
    have hget := tRows_get c
    have next := ih (k + 1, (l.take (k + 1)).flatMap (itemsT gone u)) ⟨by simp only; omega, rfl⟩ (by simp only; omega)
    rw [hkl] at next
    clear hkl ih hacc
    generalize l[k] = tx at *
    have hsn := hS u tx.d hu
    change C _ _ (.val (.bool (seenU u tx.d))) _ at hsn
    simp only [walk, Nat.reduceLT, Nat.reduceBEq, Nat.reduceAdd, Nat.reduceLeDiff, reduceIte, Int.reduceLT, Int.reduceLE, Int.reduceEq, Int.reduceToNat, Int.reduceBEq, c1]
    refine awp_loop_ind (X := Nat × List It) (fun x => ⟨[(0, .val (tsP l)), (1, .val (usP u)), (4, .val (.sl 11 [])), (5, .own 11 (iRs x.2)), (6, .val (.int .i64 k)), (7, .val (.int .i64 x.1)), (13, .val (.bool true))], []⟩)
      (fun x => x.1 ≤ tx.ops.length ∧ x.2 = acc ++ if seenU u tx.d = true then itemsO gone tx.d tx.t 0 (tx.ops.take x.1) else []) (fun x => tx.ops.length - x.1) (0, acc) ⟨by omega, by simp [itemsO]⟩ rfl ?_
    rintro R2 ⟨j, acc2⟩ ⟨hj, hacc2⟩ ih2
    simp only at hj hacc2
    simp only [walk, Nat.reduceLT, Nat.reduceBEq, Nat.reduceAdd, Nat.reduceLeDiff, reduceIte, Int.reduceLT, Int.reduceLE, Int.reduceEq, Int.reduceToNat, Int.reduceBEq, c1, hget, tRows_len, oRows_len]
    by_cases d : j < tx.ops.length
    · have d1 : (j : Int) < tx.ops.length := by omega
      have d0 : (0 : Int) ≤ j := by omega
      have e2 : IntKind.i64.wrap ((j : Int) + 1) = ((j + 1 : Nat) : Int) := wrap64 (by omega) (by omega)
      have ha2 : acc2.length ≤ 1001000 := by
        have := itemsO_len gone tx.d tx.t (tx.ops.take j) 0
        rw [List.length_take, Nat.min_eq_left (by omega)] at this
        rw [hacc2, List.length_append]
        split
        · omega
        · simp; omega
      have hb2 : (acc2.length + 1) * 128 ≤ 140737488355328 := by omega
      have hjl : (acc ++ if seenU u tx.d = true then itemsO gone tx.d tx.t 0 (tx.ops.take (j + 1)) else []) = acc2 ++ (if ((decide (tx.ops[j].k = 1) || decide (tx.ops[j].k = 2) || decide (tx.ops[j].k = 3)) && !gone (tx.d, (j : Int))) && seenU u tx.d then [⟨(tx.d, (j : Int)), tx.ops[j], tx.t⟩] else []) := by
        rw [hacc2]
        cases hsc : seenU u tx.d with
        | false => simp
        | true =>
          rw [if_pos rfl, if_pos rfl, List.take_add_one, List.getElem?_eq_getElem d, Option.toList_some, itemsO_app, List.length_take, Nat.min_eq_left (by omega), Nat.zero_add, List.append_assoc, Bool.and_true]
          simp [itemsO]
      have hget2 := oRows_get d
      have next2 := ih2 (j + 1, acc ++ if seenU u tx.d = true then itemsO gone tx.d tx.t 0 (tx.ops.take (j + 1)) else []) ⟨by simp only; omega, rfl⟩ (by simp only; omega)
      rw [hjl] at next2
      clear hjl ih2 next hacc2
      have hf := hcv (tx.d, (j : Int))
      generalize tx.ops[j] = o at *
      simp only [walk, Nat.reduceLT, Nat.reduceBEq, Nat.reduceAdd, Nat.reduceLeDiff, reduceIte, Int.reduceLT, Int.reduceLE, Int.reduceEq, Int.reduceToNat, Int.reduceBEq, c1, d1, hget, hget2, tRows_len, oRows_len]
      by_cases kk : 1 ≤ o.k ∧ o.k ≤ 3
      · obtain ⟨ka, kb⟩ := kk
        have ka' : o.k ≥ 1 := ka
        have hkk : (decide (o.k = 1) || decide (o.k = 2) || decide (o.k = 3)) = true := by
          simp only [Bool.or_eq_true, decide_eq_true_eq]; omega
        rw [hkk] at next2
        simp only [walk, Nat.reduceLT, Nat.reduceBEq, Nat.reduceAdd, Nat.reduceLeDiff, reduceIte, Int.reduceLT, Int.reduceLE, Int.reduceEq, Int.reduceToNat, Int.reduceBEq, ka', kb, c1, hget, tRows_len]
        refine callWp_of hsn ?_
        cases hsc : seenU u tx.d with
        | false =>
          rw [hsc] at next2
          simp only [Bool.and_false, Bool.false_eq_true, if_false, List.append_nil] at next2
          simp only [walk, Nat.reduceLT, Nat.reduceBEq, Nat.reduceAdd, Nat.reduceLeDiff, reduceIte, Int.reduceLT, Int.reduceLE, Int.reduceEq, Int.reduceToNat, Int.reduceBEq, e2]
          exact next2
        | true =>
          rw [hsc] at next2
          simp only [walk, Nat.reduceLT, Nat.reduceBEq, Nat.reduceAdd, Nat.reduceLeDiff, reduceIte, Int.reduceLT, Int.reduceLE, Int.reduceEq, Int.reduceToNat, Int.reduceBEq]
          refine callWp_of hf ?_
          cases hg : gone (tx.d, (j : Int)) with
          | true =>
            rw [hg] at next2
            simp only [Bool.not_true, Bool.and_false, Bool.false_and, Bool.false_eq_true, if_false, List.append_nil] at next2
            simp only [walk, Nat.reduceLT, Nat.reduceBEq, Nat.reduceAdd, Nat.reduceLeDiff, reduceIte, Int.reduceLT, Int.reduceLE, Int.reduceEq, Int.reduceToNat, Int.reduceBEq, e2]
            exact next2
          | false =>
            rw [hg] at next2
            simp only [Bool.not_false, Bool.and_true, if_true] at next2
            rw [← iRs_app] at next2
            simp only [walk, Nat.reduceLT, Nat.reduceBEq, Nat.reduceAdd, Nat.reduceLeDiff, reduceIte, Int.reduceLT, Int.reduceLE, Int.reduceEq, Int.reduceToNat, Int.reduceBEq, c1, hget, tRows_len, iRs_len, hb2, e2]
            exact next2
      · have hkk : (decide (o.k = 1) || decide (o.k = 2) || decide (o.k = 3)) = false := by
          rw [Bool.eq_false_iff]; simp only [ne_eq, Bool.or_eq_true, decide_eq_true_eq]; omega
        rw [hkk] at next2
        simp only [Bool.false_and, Bool.false_eq_true, if_false, List.append_nil] at next2
        by_cases ka : o.k ≥ 1
        · have kb : ¬ o.k ≤ 3 := by omega
          simp only [walk, Nat.reduceLT, Nat.reduceBEq, Nat.reduceAdd, Nat.reduceLeDiff, reduceIte, Int.reduceLT, Int.reduceLE, Int.reduceEq, Int.reduceToNat, Int.reduceBEq, ka, kb, e2]
          exact next2
        · simp only [walk, Nat.reduceLT, Nat.reduceBEq, Nat.reduceAdd, Nat.reduceLeDiff, reduceIte, Int.reduceLT, Int.reduceLE, Int.reduceEq, Int.reduceToNat, Int.reduceBEq, ka, e2]
          exact next2
    · have d1 : ¬ (j : Int) < tx.ops.length := by omega
      rw [List.take_of_length_le (by omega)] at hacc2
      have : acc2 = acc ++ itemsT gone u tx := hacc2
      subst this
      simp only [walk, Nat.reduceLT, Nat.reduceBEq, Nat.reduceAdd, Nat.reduceLeDiff, reduceIte, Int.reduceLT, Int.reduceLE, Int.reduceEq, Int.reduceToNat, Int.reduceBEq, d1, e1]
      exact next
  · have c1 : ¬ (k : Int) < l.length := by omega
    rw [List.take_of_length_le (by omega)] at hacc
    subst hacc
    simp only [walk, Nat.reduceLT, Nat.reduceBEq, Nat.reduceAdd, Nat.reduceLeDiff, reduceIte, Int.reduceLT, Int.reduceLE, Int.reduceEq, Int.reduceToNat, Int.reduceBEq, c1]
end
end Go.AR
