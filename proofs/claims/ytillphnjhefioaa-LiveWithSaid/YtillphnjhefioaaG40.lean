import Derived.Test.YtillphnjhefioaaG38
import Derived.Test.YtillphnjhefioaaG34
import Derived.Test.YtillphnjhefioaaG39
import Derived.Test.YtillphnjhefioaaG10
import Derived.Test.YtillphnjhefioaaG37
set_option linter.all false
/-! Which operations count: the plain laws. -/
namespace Go.AR
open Go
theorem itemsO_d (gone : Ud → Bool) (d : Dt) (tm : Int) : ∀ (os : List Ov) (i : Nat), ∀ x ∈ itemsO gone d tm i os, x.x.1 = d
  | [], i, x, h => by simp [itemsO] at h
  | o :: os, i, x, h => by
    rw [itemsO] at h
    rcases List.mem_append.1 h with h | h
    · split at h
      · rw [List.mem_singleton.1 h]
      · cases h
    · exact itemsO_d gone d tm os (i + 1) x h
theorem itemsT_d {gone : Ud → Bool} {u : List Ud} {t : Tx} {x : It} (h : x ∈ itemsT gone u t) : x.x.1 = t.d ∧ seenU u t.d = true := by
  unfold itemsT at h
  split at h
  · rename_i hs
    exact ⟨itemsO_d gone t.d t.t t.ops 0 x h, hs⟩
  · cases h
theorem allL_d {l : List Tx} {u : List Ud} {x : It} (h : x ∈ allL l u) : ∃ t ∈ l, x.x.1 = t.d ∧ seenU u t.d = true := by
  unfold allL at h
  obtain ⟨t, ht, hx⟩ := List.mem_flatMap.1 h
  exact ⟨t, ht, itemsT_d hx⟩
/-! Without a transaction that does not count. -/
def othersL (l : List Tx) (d : Dt) : List Tx := l.filter fun t => decide (¬ t.d = d)
theorem cov_others {u : List Ud} {d : Dt} (h : seenU u d = false) (r : Ud) : ∀ l : List Tx, covL (othersL l d) u r = covL l u r
  | [] => rfl
  | t :: l => by
    have ih := cov_others h r l
    unfold covL othersL at ih ⊢
    by_cases e : t.d = d
    · rw [List.filter_cons_of_neg (by simpa using e), List.any_cons, e, h, Bool.false_and, Bool.false_or]; exact ih
    · rw [List.filter_cons_of_pos (by simpa using e), List.any_cons, List.any_cons, ih]
theorem items_others {u : List Ud} {d : Dt} (h : seenU u d = false) (g : Ud → Bool) : ∀ l : List Tx, (othersL l d).flatMap (itemsT g u) = l.flatMap (itemsT g u)
  | [] => rfl
  | t :: l => by
    have ih := items_others h g l
    unfold othersL at ih ⊢
    by_cases e : t.d = d
    · have e2 : itemsT g u t = [] := by unfold itemsT; rw [e, h]; simp
      rw [List.filter_cons_of_neg (by simpa using e), List.flatMap_cons, e2, List.nil_append]; exact ih
    · rw [List.filter_cons_of_pos (by simpa using e), List.flatMap_cons, List.flatMap_cons, ih]
theorem all_others {l : List Tx} {u : List Ud} {d : Dt} (h : seenU u d = false) : allL (othersL l d) u = allL l u := by
  have e : covL (othersL l d) u = covL l u := funext fun r => cov_others h r l
  unfold allL
  rw [e]
  exact items_others h _ l
theorem others_ok {l : List Tx} (d : Dt) (h : lOk l) : lOk (othersL l d) := ⟨Nat.le_trans (List.length_filter_le _ l) h.1, fun t ht => h.2 t (List.mem_filter.1 ht).1⟩
theorem all_not {l : List Tx} {u : List Ud} {d : Dt} (h : seenU u d = false) : ∀ x ∈ allL l u, ¬ x.x.1 = d := by
  intro x hx e
  obtain ⟨t, _, e1, e2⟩ := allL_d hx
  rw [← e1, e, h] at e2; cases e2
/-! Counts that are unlike by an even number. -/
theorem all_cong {l : List Tx} {u v : List Ud} (h : ∀ d, seenU u d = seenU v d) : allL l u = allL l v := by
  have e : covL l u = covL l v := by funext r; unfold covL; simp only [h]
  have e2 : ∀ g : Ud → Bool, itemsT g u = itemsT g v := fun g => by funext t; unfold itemsT; rw [h]
  unfold allL
  rw [e, e2]
theorem raise_ok {l : List Ud} {d : Dt} (h : (raiseU l d).2 = 0) : (raiseU l d).1 = (d, getU l d + 1) ∧ dotOk d = true ∧ getU l d < 64 := by
  unfold raiseU at h ⊢
  by_cases h1 : dotOk d = false
  · rw [if_pos h1] at h; cases h
  · rw [if_neg h1] at h ⊢
    by_cases h2 : getU l d ≥ 64
    · rw [if_pos h2] at h; cases h
    · rw [if_neg h2]
      exact ⟨rfl, by simpa using h1, by omega⟩
theorem seen_raise {l : List Ud} {d : Dt} (rl : Ri l) (h : (raiseU l d).2 = 0) (x : Dt) : seenU (putU l (raiseU l d).1) x = if x = d then !seenU l d else seenU l x := by
  obtain ⟨h1, h2, h3⟩ := raise_ok h
  have n := get_nonneg rl d
  have hu : uOk (d, getU l d + 1) = true := by
    simp only [uOk, h2, Bool.true_and, Bool.and_eq_true, decide_eq_true_eq]; omega
  unfold seenU
  rw [h1, put_ins hu rl, ins_get hu x rl]
  by_cases e : x = d
  · subst e
    rw [if_pos rfl, if_pos rfl]
    have m : max (getU l x) (getU l x + 1) = getU l x + 1 := by omega
    simp only [m]
    rw [Int.tmod_eq_emod_of_nonneg n, Int.tmod_eq_emod_of_nonneg (by omega)]
    by_cases q : getU l x % 2 = 0
    · rw [decide_eq_true q, decide_eq_false (by omega)]; rfl
    · rw [decide_eq_false q, decide_eq_true (by omega)]; rfl
  · rw [if_neg e, if_neg e]
theorem all_twice {t : List Tx} {l : List Ud} {d : Dt} (rl : Ri l) (h : (raiseU l d).2 = 0) (h2 : (raiseU (putU l (raiseU l d).1) d).2 = 0) :
    allL t (putU (putU l (raiseU l d).1) (raiseU (putU l (raiseU l d).1) d).1) = allL t l := by
  refine all_cong (fun x => ?_)
  rw [seen_raise (put_ri rl _) h2, seen_raise rl h, seen_raise rl h]
  by_cases e : x = d
  · subst e; simp
  · rw [if_neg e, if_neg e]
/-! What counts again. -/
theorem itemsO_has {gone : Ud → Bool} {d : Dt} {tm : Int} : ∀ (os : List Ov) (i j : Nat) (hj : j < os.length), 1 ≤ os[j].k → os[j].k ≤ 3 → gone (d, ((i + j : Nat) : Int)) = false → ∃ x ∈ itemsO gone d tm i os, x.x = (d, ((i + j : Nat) : Int))
  | [], i, j, hj, _, _, _ => by simp at hj
  | o :: os, i, 0, hj, h1, h2, hg => by
    simp only [List.getElem_cons_zero] at h1 h2
    rw [Nat.add_zero] at hg ⊢
    have hk : (decide (o.k = 1) || decide (o.k = 2) || decide (o.k = 3)) = true := by
      have : o.k = 1 ∨ o.k = 2 ∨ o.k = 3 := by omega
      rcases this with h | h | h <;> simp [h]
    refine ⟨⟨(d, (i : Int)), o, tm⟩, ?_, rfl⟩
    rw [itemsO, hk, hg]
    simp
  | o :: os, i, j + 1, hj, h1, h2, hg => by
    simp only [List.getElem_cons_succ] at h1 h2
    have e : i + (j + 1) = i + 1 + j := by omega
    rw [e] at hg ⊢
    obtain ⟨x, hx, hx2⟩ := itemsO_has os (i + 1) j (by simpa using hj) h1 h2 hg
    refine ⟨x, ?_, hx2⟩
    rw [itemsO]
    exact List.mem_append.2 (.inr hx)
theorem all_has {l : List Tx} {u : List Ud} {t : Tx} {r : Ud} {j : Nat} (ht : t ∈ l) (hd : t.d = r.1) (hr : r.2 = (j : Int)) (hj : j < t.ops.length) (h1 : 1 ≤ t.ops[j].k) (h2 : t.ops[j].k ≤ 3) (hs : seenU u r.1 = true) (hc : covL l u r = false) :
    ((allL l u).any fun i => decide (i.x = r)) = true := by
  have er : r = (t.d, (j : Int)) := by rw [hd, ← hr]
  rw [List.any_eq_true]
  obtain ⟨x, hx, hx2⟩ := itemsO_has (gone := covL l u) (d := t.d) (tm := t.t) t.ops 0 j hj h1 h2 (by rw [Nat.zero_add, ← er]; exact hc)
  refine ⟨x, ?_, by rw [hx2, Nat.zero_add, ← er]; simp⟩
  unfold allL
  refine List.mem_flatMap.2 ⟨t, ht, ?_⟩
  unfold itemsT
  rw [hd, hs, ← hd]
  simpa using hx
theorem ref_pos {o : Ov} (h : oCheck o = 0 ∨ oGone o = true) : ∀ r ∈ o.rs, 0 ≤ r.2 := by
  intro r hr
  rcases h with h | h
  · have hro : refsOk o.rs = true := by
      unfold oCheck at h
      rw [← Bool.not_eq_false]
      intro e
      by_cases c1 : o.k < 1 ∨ o.k > 5
      · rw [if_pos c1] at h; cases h
      rw [if_neg c1] at h
      by_cases c2 : pCheck o.p ≠ 0
      · rw [if_pos c2] at h; exact c2 h
      rw [if_neg c2] at h
      by_cases c3 : (o.k = 3 ∨ o.k = 5) ∧ o.v ≠ z0
      · rw [if_pos c3] at h; cases h
      rw [if_neg c3] at h
      by_cases c4 : (o.k ≠ 3 ∧ o.k ≠ 5) ∧ vOk o.v = false
      · rw [if_pos c4] at h; cases h
      rw [if_neg c4] at h
      by_cases c5 : (o.k ≠ 3 ∧ o.am ≠ 0) ∨ (o.k = 3 ∧ (o.am = 0 ∨ o.am > 2147483647 ∨ o.am < -2147483647))
      · rw [if_pos c5] at h; cases h
      rw [if_neg c5] at h
      by_cases c6 : (o.k = 2 ∨ o.k = 3) ∧ o.rs.length > 0
      · rw [if_pos c6] at h; cases h
      rw [if_neg c6] at h
      by_cases c7 : o.rs.length > 256
      · rw [if_pos c7] at h; cases h
      rw [if_neg c7, if_pos e] at h; cases h
    obtain ⟨k, hk, rfl⟩ := List.getElem_of_mem hr
    have := refsOk_iff.1 hro k hk
    unfold refAt at this
    rw [Bool.and_eq_true] at this
    have h1 := this.1
    rw [show o.rs.getD k z3 = o.rs[k] by simp [List.getD_eq_getElem?_getD, hk]] at h1
    unfold rOk at h1
    simp at h1
    omega
  · unfold oGone at h
    rw [decide_eq_true_eq] at h
    rw [h] at hr
    simp [zop] at hr
/-! A transaction more. -/
theorem cov_with {l : List Tx} {u : List Ud} {t : Tx} (hc : ∀ o ∈ t.ops, o.rs = []) (r : Ud) : covL (putT l t) u r = covL l u r := by
  have ht : (seenU u t.d && t.ops.any fun o => hasR o.rs r) = false := by
    rw [Bool.and_eq_false_iff]
    refine .inr ?_
    rw [List.any_eq_false]
    intro o ho
    rw [hc o ho]
    simp [hasR]
  unfold putT
  split
  · rfl
  · unfold covL
    rw [List.any_append, List.any_cons, ht, Bool.false_or, ← List.any_append, List.take_append_drop]
def withL (l : List Tx) (t : Tx) : List Tx := if t.ops.length = 0 then l else putT l t
theorem all_with {l : List Tx} {u : List Ud} {t : Tx} (hc : ∀ o ∈ t.ops, o.rs = []) (hn : hasT l t.d = false) :
    ∃ a b c, allL l u = a ++ c ∧ allL (withL l t) u = a ++ b ++ c ∧ (∀ x ∈ b, x.x.1 = t.d) := by
  unfold withL
  split
  · exact ⟨allL l u, [], [], by simp, by simp, by simp⟩
  · have e : covL (putT l t) u = covL l u := funext fun r => cov_with hc r
    refine ⟨(l.take (lowT l t.d)).flatMap (itemsT (covL l u) u), itemsT (covL l u) u t, (l.drop (lowT l t.d)).flatMap (itemsT (covL l u) u), ?_, ?_, fun x hx => (itemsT_d hx).1⟩
    · rw [← List.flatMap_append, List.take_append_drop]; rfl
    · unfold allL
      rw [e]
      unfold putT
      rw [hn, if_neg (by simp), List.flatMap_append, List.flatMap_cons, List.append_assoc]
theorem all_d_has {l : List Tx} {u : List Ud} {t : Tx} (hn : hasT l t.d = false) : ∀ x ∈ allL l u, ¬ x.x.1 = t.d := by
  intro x hx e
  obtain ⟨y, hy, e1, _⟩ := allL_d hx
  have : hasT l t.d = true := hasT_mem.2 ⟨y, hy, by rw [← e1, e]⟩
  rw [hn] at this; cases this
theorem with_count {l : List Tx} {u : List Ud} {t : Tx} (hc : ∀ o ∈ t.ops, o.rs = []) (hn : hasT l t.d = false) :
    ((allL (withL l t) u).filter fun x => decide (¬ x.x.1 = t.d)).length = (allL l u).length := by
  have hall := all_d_has (u := u) hn
  obtain ⟨a, b, c, h1, h2, h3⟩ := all_with (u := u) hc hn
  rw [h1] at hall
  have f1 : a.filter (fun x => decide (¬ x.x.1 = t.d)) = a := List.filter_eq_self.2 (fun x hx => by simpa using hall x (List.mem_append.2 (.inl hx)))
  have f2 : b.filter (fun x => decide (¬ x.x.1 = t.d)) = [] := List.filter_eq_nil_iff.2 (fun x hx => by simpa using h3 x hx)
  have f3 : c.filter (fun x => decide (¬ x.x.1 = t.d)) = c := List.filter_eq_self.2 (fun x hx => by simpa using hall x (List.mem_append.2 (.inr hx)))
  rw [h2, h1, List.filter_append, List.filter_append, f1, f2, f3, List.append_nil]
theorem with_has {l : List Tx} {u : List Ud} {t : Tx} (hc : ∀ o ∈ t.ops, o.rs = []) (hn : hasT l t.d = false) (x : It) (hx : x ∈ allL l u) :
    ((allL (withL l t) u).any fun i => decide (i.x = x.x)) = true := by
  obtain ⟨a, b, c, h1, h2, h3⟩ := all_with (u := u) hc hn
  rw [h1] at hx
  rw [h2, List.any_eq_true]
  refine ⟨x, ?_, by simp⟩
  rcases List.mem_append.1 hx with h | h
  · exact List.mem_append.2 (.inl (List.mem_append.2 (.inl h)))
  · exact List.mem_append.2 (.inr h)
theorem with_ok {l : List Tx} {t : Tx} (hl : lOk l) (h2 : l.length ≤ 20) (ht : tOk t ∧ t.ops.length ≤ 1000) : lOk (withL l t) := by
  unfold withL
  split
  · exact hl
  · refine ⟨?_, fun x hx => ?_⟩
    · have := put_len l t
      rw [this]; split <;> omega
    · rcases put_mem hx with rfl | hx
      · exact ht
      · exact hl.2 x hx
theorem find_at {l : List Tx} {d : Dt} (hs : sortT l) (h : 0 ≤ findT l d) : ∃ hk : lowT l d < l.length, findT l d = ((lowT l d : Nat) : Int) ∧ l[lowT l d].d = d := by
  unfold findT at h ⊢
  cases hh : hasT l d with
  | false => rw [hh] at h; simp at h
  | true =>
    obtain ⟨k1, k2⟩ := low_spec d hs
    rw [hasT_low k1 k2 hs, Bool.and_eq_true, decide_eq_true_eq, decide_eq_true_eq, dcmp_zero] at hh
    refine ⟨hh.1, by simp, ?_⟩
    rw [← getT_at hh.1]; exact hh.2
theorem good_ops {l : List Tx} (h : goodT 20 l = true) : ∀ t ∈ l, ∀ o ∈ t.ops, oCheck o = 0 ∨ oGone o = true := by
  unfold goodT at h
  simp only [Bool.and_eq_true, decide_eq_true_eq, List.all_eq_true] at h
  obtain ⟨_, _, h3⟩ := h
  intro t ht o ho
  exact ((tcheck_zero (h3 t ht).2).2.2.2.2.2.2.2 o ho).imp id (·.2)
theorem find_neg {l : List Tx} {d : Dt} (h : findT l d < 0) : hasT l d = false := by
  unfold findT at h
  cases hh : hasT l d with
  | false => rfl
  | true => rw [hh] at h; simp at h; omega
end Go.AR

/-! Which operations count: the laws of what does not, and of twice. -/
namespace Go.AR
open Go
section
variable {C : CallRel} {F : Nat → FuncId}
def S_lUndone (R : Rel) : Prop := ∀ (l : List Tx) (u : List Ud) (d : Dt), R [.v (tsP l), .v (usP u), .v (dP d)] (.val (.bool true)) []
theorem g_LiveUndone (hA : S_yes (C (F n_plaw13_awake))) (h0 : S_lGood (C (F n_plaw13_Good))) (hS : S_rSeen (C (F n_pref08_Seen))) (h2 : S_allL (C (F n_live_All))) (h12 : S_iSame (C (F n_live_Same))) : S_lUndone ((c_plaw13_LiveUndone F).gives C) := by
  intro l u d
  refine gives_of rfl ?_
  unfold c_plaw13_LiveUndone
  simp only [walk, Nat.reduceLT, Nat.reduceBEq, Nat.reduceAdd, Nat.reduceLeDiff, reduceIte, Int.reduceLT, Int.reduceLE, Int.reduceEq, Int.reduceToNat, Int.reduceBEq]
  refine callWp_of (h0 l u) ?_
  cases hg : (goodT 20 l && (decide (u.length ≤ 100) && rightU u)) with
  | false =>
    simp only [walk, Nat.reduceLT, Nat.reduceBEq, Nat.reduceAdd, Nat.reduceLeDiff, reduceIte, Int.reduceLT, Int.reduceLE, Int.reduceEq, Int.reduceToNat, Int.reduceBEq]
    refine callWp_of hA ?_
    simp only [walk, Nat.reduceLT, Nat.reduceBEq, Nat.reduceAdd, Nat.reduceLeDiff, reduceIte, Int.reduceLT, Int.reduceLE, Int.reduceEq, Int.reduceToNat, Int.reduceBEq]
  | true =>
  rw [Bool.and_eq_true, Bool.and_eq_true, decide_eq_true_eq] at hg
  obtain ⟨hgl, hul, hur⟩ := hg
  obtain ⟨hl, _, hlen⟩ := good_ok hgl
  have hs := sort_of_right hur
  have hu : u.length ≤ bigL := by unfold bigL; omega
  have hlen' : l.length ≤ 1000 := by omega
  simp only [walk, Nat.reduceLT, Nat.reduceBEq, Nat.reduceAdd, Nat.reduceLeDiff, reduceIte, Int.reduceLT, Int.reduceLE, Int.reduceEq, Int.reduceToNat, Int.reduceBEq]
  refine callWp_of (hS u d hu) ?_
  cases hd : seenU u d with
  | true =>
    unfold seenU at hd
    simp only [walk, Nat.reduceLT, Nat.reduceBEq, Nat.reduceAdd, Nat.reduceLeDiff, reduceIte, Int.reduceLT, Int.reduceLE, Int.reduceEq, Int.reduceToNat, Int.reduceBEq, hd]
    refine callWp_of hA ?_
    simp only [walk, Nat.reduceLT, Nat.reduceBEq, Nat.reduceAdd, Nat.reduceLeDiff, reduceIte, Int.reduceLT, Int.reduceLE, Int.reduceEq, Int.reduceToNat, Int.reduceBEq]
  | false =>
  have hall := all_others (l := l) hd
  have hnot := all_not (l := l) hd
  have hlo := others_ok d hl
  have hok := allL_ok (u := u) hl
  unfold seenU at hd
  simp only [walk, Nat.reduceLT, Nat.reduceBEq, Nat.reduceAdd, Nat.reduceLeDiff, reduceIte, Int.reduceLT, Int.reduceLE, Int.reduceEq, Int.reduceToNat, Int.reduceBEq, hd]
  refine awp_loop_ind (X := Nat × List Tx) (fun x => ⟨[(0, .val (tsP l)), (1, .val (usP u)), (2, .val (dP d)), (5, .lp 5 0), (6, .val (.bool false)), (7, .own 6 (tRows x.2)), (8, .val (.int .i64 x.1)), (19, .val (.bool false))], [(5, .cells [.val (.int .i64 d.1), .val (.int .i64 d.2)])]⟩)
    (fun x => x.1 ≤ l.length ∧ x.2 = othersL (l.take x.1) d) (fun x => l.length - x.1) (0, []) ⟨by omega, by simp [othersL]⟩ rfl ?_
  rintro R ⟨k, acc⟩ ⟨hk, hacc⟩ ih
  simp only at hk hacc
  simp only [walk, Nat.reduceLT, Nat.reduceBEq, Nat.reduceAdd, Nat.reduceLeDiff, reduceIte, Int.reduceLT, Int.reduceLE, Int.reduceEq, Int.reduceToNat, Int.reduceBEq, tRows_len]
  by_cases c : k < l.length
  · have c1 : (k : Int) < l.length := by omega
    have c0 : (0 : Int) ≤ k := by omega
    have e1 : IntKind.i64.wrap ((k : Int) + 1) = ((k + 1 : Nat) : Int) := wrap64 (by omega) (by omega)
    have hkl : othersL (l.take (k + 1)) d = acc ++ if (decide (¬ l[k].d = d)) = true then [l[k]] else [] := by
      rw [hacc]; exact filter_take _ l k c
    have ha : acc.length ≤ 1000 := by
      rw [hacc]
      exact Nat.le_trans (List.length_filter_le _ _) (by rw [List.length_take]; omega)
    have hb2 : (acc.length + 1) * 64 ≤ 140737488355328 := by omega
    have hget := tRows_get c
    have next := ih (k + 1, othersL (l.take (k + 1)) d) ⟨by simp only; omega, rfl⟩ (by simp only; omega)
    rw [hkl] at next
    clear ih hkl hacc
    generalize l[k] = tx at *
    by_cases he : tx.d = d
    · have hed : decide (¬ tx.d = d) = false := by simp [he]
      rw [hed] at next
      simp only [Bool.false_eq_true, if_false, List.append_nil] at next
      simp only [walk, Nat.reduceLT, Nat.reduceBEq, Nat.reduceAdd, Nat.reduceLeDiff, reduceIte, Int.reduceLT, Int.reduceLE, Int.reduceEq, Int.reduceToNat, Int.reduceBEq, c1, hget, eq_d, he, e1]
      exact next
    · have hed : decide (¬ tx.d = d) = true := by simp [he]
      rw [hed] at next
      simp only [if_true, ← tRows_app] at next
      simp only [walk, Nat.reduceLT, Nat.reduceBEq, Nat.reduceAdd, Nat.reduceLeDiff, reduceIte, Int.reduceLT, Int.reduceLE, Int.reduceEq, Int.reduceToNat, Int.reduceBEq, c1, hget, eq_d, he, e1, tRows_len, hb2]
      exact next
  have c1 : ¬ (k : Int) < l.length := by omega
  rw [List.take_of_length_le (by omega)] at hacc
  subst hacc
  clear ih
  have hil := hok.1
  simp only [walk, Nat.reduceLT, Nat.reduceBEq, Nat.reduceAdd, Nat.reduceLeDiff, reduceIte, Int.reduceLT, Int.reduceLE, Int.reduceEq, Int.reduceToNat, Int.reduceBEq, c1]
  refine callWp_of (h2 l u hl hs hu) ?_
  simp only [walk, Nat.reduceLT, Nat.reduceBEq, Nat.reduceAdd, Nat.reduceLeDiff, reduceIte, Int.reduceLT, Int.reduceLE, Int.reduceEq, Int.reduceToNat, Int.reduceBEq]
  refine awp_loop_ind (X := Nat) (fun j => ⟨[(0, .val (tsP l)), (1, .val (usP u)), (2, .val (dP d)), (5, .lp 5 0), (6, .val (.bool false)), (7, .own 6 (tRows (othersL l d))), (8, .val (.int .i64 k)), (9, .val (isP (allL l u))), (10, .val (.int .i64 j)), (19, .val (.bool false)), (24, .val (.bool false))], [(5, .cells [.val (.int .i64 d.1), .val (.int .i64 d.2)])]⟩)
    (fun j => j ≤ (allL l u).length) (fun j => (allL l u).length - j) 0 (by omega) rfl ?_
  rintro R2 j hj ih
  simp only [walk, Nat.reduceLT, Nat.reduceBEq, Nat.reduceAdd, Nat.reduceLeDiff, reduceIte, Int.reduceLT, Int.reduceLE, Int.reduceEq, Int.reduceToNat, Int.reduceBEq, iRs_len]
  by_cases q : j < (allL l u).length
  · have q1 : (j : Int) < (allL l u).length := by omega
    have q0 : (0 : Int) ≤ j := by omega
    have e1 : IntKind.i64.wrap ((j : Int) + 1) = ((j + 1 : Nat) : Int) := wrap64 (by omega) (by omega)
    have he := hnot _ (List.getElem_mem q)
    simp only [walk, Nat.reduceLT, Nat.reduceBEq, Nat.reduceAdd, Nat.reduceLeDiff, reduceIte, Int.reduceLT, Int.reduceLE, Int.reduceEq, Int.reduceToNat, Int.reduceBEq, q1, iRs_get q, iRs_len, eq_d, he, e1]
    exact ih (j + 1) (by omega) (by omega)
  have q1 : ¬ (j : Int) < (allL l u).length := by omega
  simp only [walk, Nat.reduceLT, Nat.reduceBEq, Nat.reduceAdd, Nat.reduceLeDiff, reduceIte, Int.reduceLT, Int.reduceLE, Int.reduceEq, Int.reduceToNat, Int.reduceBEq, q1]
  refine callWp_of (h2 (othersL l d) u hlo hs hu) ?_
  simp only [walk, Nat.reduceLT, Nat.reduceBEq, Nat.reduceAdd, Nat.reduceLeDiff, reduceIte, Int.reduceLT, Int.reduceLE, Int.reduceEq, Int.reduceToNat, Int.reduceBEq]
  rw [hall]
  refine callWp_of (h12 _ _ hok) ?_
  simp only [walk, Nat.reduceLT, Nat.reduceBEq, Nat.reduceAdd, Nat.reduceLeDiff, reduceIte, Int.reduceLT, Int.reduceLE, Int.reduceEq, Int.reduceToNat, Int.reduceBEq]
  refine callWp_of hA ?_
  simp only [walk, Nat.reduceLT, Nat.reduceBEq, Nat.reduceAdd, Nat.reduceLeDiff, reduceIte, Int.reduceLT, Int.reduceLE, Int.reduceEq, Int.reduceToNat, Int.reduceBEq]
def S_lTwice (R : Rel) : Prop := ∀ (l : List Tx) (u : List Ud) (d : Dt), R [.v (tsP l), .v (usP u), .v (dP d)] (.val (.bool true)) []
theorem g_LiveTwice (hA : S_yes (C (F n_plaw13_awake))) (h0 : S_lGood (C (F n_plaw13_Good))) (hR : S_uRaiseP (C (F n_tally_Raise))) (hP : S_uPut (C (F n_tally_Put))) (h2 : S_allL (C (F n_live_All))) (h12 : S_iSame (C (F n_live_Same))) : S_lTwice ((c_plaw13_LiveTwice F).gives C) := by
  intro l u d
  refine gives_of rfl ?_
  unfold c_plaw13_LiveTwice
  simp only [walk, Nat.reduceLT, Nat.reduceBEq, Nat.reduceAdd, Nat.reduceLeDiff, reduceIte, Int.reduceLT, Int.reduceLE, Int.reduceEq, Int.reduceToNat, Int.reduceBEq]
  refine callWp_of (h0 l u) ?_
  cases hg : (goodT 20 l && (decide (u.length ≤ 100) && rightU u)) with
  | false =>
    simp only [walk, Nat.reduceLT, Nat.reduceBEq, Nat.reduceAdd, Nat.reduceLeDiff, reduceIte, Int.reduceLT, Int.reduceLE, Int.reduceEq, Int.reduceToNat, Int.reduceBEq]
    refine callWp_of hA ?_
    simp only [walk, Nat.reduceLT, Nat.reduceBEq, Nat.reduceAdd, Nat.reduceLeDiff, reduceIte, Int.reduceLT, Int.reduceLE, Int.reduceEq, Int.reduceToNat, Int.reduceBEq]
  | true =>
  rw [Bool.and_eq_true, Bool.and_eq_true, decide_eq_true_eq] at hg
  obtain ⟨hgl, hul, hur⟩ := hg
  obtain ⟨hl, _, hlen⟩ := good_ok hgl
  have rl := ri_iff.1 hur
  have hs := sort_of_right hur
  have hu : u.length ≤ bigL := by unfold bigL; omega
  have hu1 : u.length + 1 ≤ bigL := by unfold bigL; omega
  simp only [walk, Nat.reduceLT, Nat.reduceBEq, Nat.reduceAdd, Nat.reduceLeDiff, reduceIte, Int.reduceLT, Int.reduceLE, Int.reduceEq, Int.reduceToNat, Int.reduceBEq]
  refine callWp_of (hR u d hs (pos_of_right hur) hu) ?_
  by_cases e1 : (raiseU u d).2 = 0
  · have tw := all_twice (t := l) rl e1
    generalize hx : (raiseU u d).1 = x at *
    have rv := put_ri rl x
    have lp : (putU u x).length ≤ u.length + 1 := by rw [put_eq rl]; exact rPut_len _ _
    have hv : (putU u x).length ≤ bigL := by omega
    have hv1 : (putU u x).length + 1 ≤ bigL := by unfold bigL; omega
    have f1 : ((raiseU u d).2 != 0) = false := by rw [e1]; rfl
    have z1 : ((0 : Int) != 0) = false := rfl
    simp only [walk, Nat.reduceLT, Nat.reduceBEq, Nat.reduceAdd, Nat.reduceLeDiff, reduceIte, Int.reduceLT, Int.reduceLE, Int.reduceEq, Int.reduceToNat, Int.reduceBEq, e1, f1, z1]
    refine callWp_of (hP u x hs hu1) ?_
    generalize hv0 : putU u x = v at *
    have sv := sort_of_right (ri_iff.2 rv)
    simp only [walk, Nat.reduceLT, Nat.reduceBEq, Nat.reduceAdd, Nat.reduceLeDiff, reduceIte, Int.reduceLT, Int.reduceLE, Int.reduceEq, Int.reduceToNat, Int.reduceBEq]
    refine callWp_of (hR v d sv (pos_of_right (ri_iff.2 rv)) hv) ?_
    by_cases e2 : (raiseU v d).2 = 0
    · have tw := tw e2
      generalize (raiseU v d).1 = y at *
      have rw' := put_ri rv y
      have lw : (putU v y).length ≤ v.length + 1 := by rw [put_eq rv]; exact rPut_len _ _
      have hw : (putU v y).length ≤ bigL := by unfold bigL at *; omega
      simp only [walk, Nat.reduceLT, Nat.reduceBEq, Nat.reduceAdd, Nat.reduceLeDiff, reduceIte, Int.reduceLT, Int.reduceLE, Int.reduceEq, Int.reduceToNat, Int.reduceBEq, e2, z1]
      refine callWp_of (hP v y sv hv1) ?_
      simp only [walk, Nat.reduceLT, Nat.reduceBEq, Nat.reduceAdd, Nat.reduceLeDiff, reduceIte, Int.reduceLT, Int.reduceLE, Int.reduceEq, Int.reduceToNat, Int.reduceBEq]
      refine callWp_of (h2 l _ hl (sort_of_right (ri_iff.2 rw')) hw) ?_
      simp only [walk, Nat.reduceLT, Nat.reduceBEq, Nat.reduceAdd, Nat.reduceLeDiff, reduceIte, Int.reduceLT, Int.reduceLE, Int.reduceEq, Int.reduceToNat, Int.reduceBEq]
      refine callWp_of (h2 l u hl hs hu) ?_
      simp only [walk, Nat.reduceLT, Nat.reduceBEq, Nat.reduceAdd, Nat.reduceLeDiff, reduceIte, Int.reduceLT, Int.reduceLE, Int.reduceEq, Int.reduceToNat, Int.reduceBEq]
      rw [tw]
      refine callWp_of (h12 _ _ (allL_ok hl)) ?_
      simp only [walk, Nat.reduceLT, Nat.reduceBEq, Nat.reduceAdd, Nat.reduceLeDiff, reduceIte, Int.reduceLT, Int.reduceLE, Int.reduceEq, Int.reduceToNat, Int.reduceBEq]
      refine callWp_of hA ?_
      simp only [walk, Nat.reduceLT, Nat.reduceBEq, Nat.reduceAdd, Nat.reduceLeDiff, reduceIte, Int.reduceLT, Int.reduceLE, Int.reduceEq, Int.reduceToNat, Int.reduceBEq]
    · have f2 : ((raiseU v d).2 != 0) = true := by simpa using e2
      simp only [walk, Nat.reduceLT, Nat.reduceBEq, Nat.reduceAdd, Nat.reduceLeDiff, reduceIte, Int.reduceLT, Int.reduceLE, Int.reduceEq, Int.reduceToNat, Int.reduceBEq, f2]
      refine callWp_of hA ?_
      simp only [walk, Nat.reduceLT, Nat.reduceBEq, Nat.reduceAdd, Nat.reduceLeDiff, reduceIte, Int.reduceLT, Int.reduceLE, Int.reduceEq, Int.reduceToNat, Int.reduceBEq]
  · have f1 : ((raiseU u d).2 != 0) = true := by simpa using e1
    simp only [walk, Nat.reduceLT, Nat.reduceBEq, Nat.reduceAdd, Nat.reduceLeDiff, reduceIte, Int.reduceLT, Int.reduceLE, Int.reduceEq, Int.reduceToNat, Int.reduceBEq, f1]
    refine callWp_of hA ?_
    simp only [walk, Nat.reduceLT, Nat.reduceBEq, Nat.reduceAdd, Nat.reduceLeDiff, reduceIte, Int.reduceLT, Int.reduceLE, Int.reduceEq, Int.reduceToNat, Int.reduceBEq]
end
end Go.AR

/-! Which operations count: the laws of what counts again, and of one more. -/
namespace Go.AR
open Go
section
variable {C : CallRel} {F : Nat → FuncId}
def S_lWith (R : Rel) : Prop := ∀ (l : List Tx) (u : List Ud) (t : Tx), R [.v (tsP l), .v (usP u), .v (tP t)] (.val (.bool true)) []
theorem g_LiveWith (hA : S_yes (C (F n_plaw13_awake))) (h0 : S_lGood (C (F n_plaw13_Good))) (hS : S_tShort (C (F n_pref12_Short))) (hC : S_tCheck (C (F n_pref12_Check))) (hF : S_tFind (C (F n_pref12_Find))) (h2 : S_allL (C (F n_live_All))) (hW : S_tWith (C (F n_live_With))) (hH : S_iHas (C (F n_plaw13_has))) : S_lWith ((c_plaw13_LiveWith F).gives C) := by
  intro l u t
  refine gives_of rfl ?_
  unfold c_plaw13_LiveWith
  simp only [walk, Nat.reduceLT, Nat.reduceBEq, Nat.reduceAdd, Nat.reduceLeDiff, reduceIte, Int.reduceLT, Int.reduceLE, Int.reduceEq, Int.reduceToNat, Int.reduceBEq]
  refine callWp_of (h0 l u) ?_
  cases hg : (goodT 20 l && (decide (u.length ≤ 100) && rightU u)) with
  | false =>
    simp only [walk, Nat.reduceLT, Nat.reduceBEq, Nat.reduceAdd, Nat.reduceLeDiff, reduceIte, Int.reduceLT, Int.reduceLE, Int.reduceEq, Int.reduceToNat, Int.reduceBEq]
    refine callWp_of hA ?_
    simp only [walk, Nat.reduceLT, Nat.reduceBEq, Nat.reduceAdd, Nat.reduceLeDiff, reduceIte, Int.reduceLT, Int.reduceLE, Int.reduceEq, Int.reduceToNat, Int.reduceBEq]
  | true =>
  rw [Bool.and_eq_true, Bool.and_eq_true, decide_eq_true_eq] at hg
  obtain ⟨hgl, hul, hur⟩ := hg
  obtain ⟨hl, hri, hlen⟩ := good_ok hgl
  have hs := sort_of_right hur
  have hst := sort_of_rises hri
  have hu : u.length ≤ bigL := by unfold bigL; omega
  simp only [walk, Nat.reduceLT, Nat.reduceBEq, Nat.reduceAdd, Nat.reduceLeDiff, reduceIte, Int.reduceLT, Int.reduceLE, Int.reduceEq, Int.reduceToNat, Int.reduceBEq]
  refine callWp_of (hS t) ?_
  cases ht : tShort t with
  | false =>
    simp only [walk, Nat.reduceLT, Nat.reduceBEq, Nat.reduceAdd, Nat.reduceLeDiff, reduceIte, Int.reduceLT, Int.reduceLE, Int.reduceEq, Int.reduceToNat, Int.reduceBEq]
    refine callWp_of hA ?_
    simp only [walk, Nat.reduceLT, Nat.reduceBEq, Nat.reduceAdd, Nat.reduceLeDiff, reduceIte, Int.reduceLT, Int.reduceLE, Int.reduceEq, Int.reduceToNat, Int.reduceBEq]
  | true =>
  obtain ⟨ts1, ts2, ts3⟩ := tShort_ok ht
  simp only [walk, Nat.reduceLT, Nat.reduceBEq, Nat.reduceAdd, Nat.reduceLeDiff, reduceIte, Int.reduceLT, Int.reduceLE, Int.reduceEq, Int.reduceToNat, Int.reduceBEq]
  refine callWp_of (hC t ts3) ?_
  by_cases hc : tCheck t = 0
  case neg =>
    have hc1 : (tCheck t != 0) = true := by simpa using hc
    simp only [walk, Nat.reduceLT, Nat.reduceBEq, Nat.reduceAdd, Nat.reduceLeDiff, reduceIte, Int.reduceLT, Int.reduceLE, Int.reduceEq, Int.reduceToNat, Int.reduceBEq, hc1]
    refine callWp_of hA ?_
    simp only [walk, Nat.reduceLT, Nat.reduceBEq, Nat.reduceAdd, Nat.reduceLeDiff, reduceIte, Int.reduceLT, Int.reduceLE, Int.reduceEq, Int.reduceToNat, Int.reduceBEq]
  have hc1 : (tCheck t != 0) = false := by rw [hc]; rfl
  simp only [walk, Nat.reduceLT, Nat.reduceBEq, Nat.reduceAdd, Nat.reduceLeDiff, reduceIte, Int.reduceLT, Int.reduceLE, Int.reduceEq, Int.reduceToNat, Int.reduceBEq, hc1]
  refine callWp_of (hF l t.d (by omega) hst) ?_
  by_cases hf : findT l t.d ≥ 0
  · simp only [walk, Nat.reduceLT, Nat.reduceBEq, Nat.reduceAdd, Nat.reduceLeDiff, reduceIte, Int.reduceLT, Int.reduceLE, Int.reduceEq, Int.reduceToNat, Int.reduceBEq, hf]
    refine callWp_of hA ?_
    simp only [walk, Nat.reduceLT, Nat.reduceBEq, Nat.reduceAdd, Nat.reduceLeDiff, reduceIte, Int.reduceLT, Int.reduceLE, Int.reduceEq, Int.reduceToNat, Int.reduceBEq]
  have hn := find_neg (l := l) (d := t.d) (by omega)
  have hops : t.ops.length ≤ 1000 := by omega
  simp only [walk, Nat.reduceLT, Nat.reduceBEq, Nat.reduceAdd, Nat.reduceLeDiff, reduceIte, Int.reduceLT, Int.reduceLE, Int.reduceEq, Int.reduceToNat, Int.reduceBEq, hf]
  refine awp_loop_ind (X := Nat) (fun k => ⟨[(0, .val (tsP l)), (1, .val (usP u)), (2, .val (tP t)), (5, .lp 5 0), (6, .val (.bool false)), (7, .val (.int .i64 k)), (33, .val (.bool false))], [(5, tB t)]⟩)
    (fun k => k ≤ t.ops.length ∧ ∀ o ∈ t.ops.take k, o.rs = []) (fun k => t.ops.length - k) 0 ⟨by omega, by simp⟩ rfl ?_
  rintro R k ⟨hk, hJ⟩ ih
  simp only [walk, Nat.reduceLT, Nat.reduceBEq, Nat.reduceAdd, Nat.reduceLeDiff, reduceIte, Int.reduceLT, Int.reduceLE, Int.reduceEq, Int.reduceToNat, Int.reduceBEq, oRows_len]
  by_cases c : k < t.ops.length
  · have c1 : (k : Int) < t.ops.length := by omega
    have c0 : (0 : Int) ≤ k := by omega
    have e1 : IntKind.i64.wrap ((k : Int) + 1) = ((k + 1 : Nat) : Int) := wrap64 (by omega) (by omega)
    have hget := oRows_get c
    simp only [walk, Nat.reduceLT, Nat.reduceBEq, Nat.reduceAdd, Nat.reduceLeDiff, reduceIte, Int.reduceLT, Int.reduceLE, Int.reduceEq, Int.reduceToNat, Int.reduceBEq, c1, hget, uRows_len]
    by_cases hr : 0 < t.ops[k].rs.length
    · have hr1 : (t.ops[k].rs.length : Int) > 0 := by omega
      simp only [walk, Nat.reduceLT, Nat.reduceBEq, Nat.reduceAdd, Nat.reduceLeDiff, reduceIte, Int.reduceLT, Int.reduceLE, Int.reduceEq, Int.reduceToNat, Int.reduceBEq, hr, hr1]
      refine callWp_of hA ?_
      simp only [walk, Nat.reduceLT, Nat.reduceBEq, Nat.reduceAdd, Nat.reduceLeDiff, reduceIte, Int.reduceLT, Int.reduceLE, Int.reduceEq, Int.reduceToNat, Int.reduceBEq]
    · have hr1 : ¬ (t.ops[k].rs.length : Int) > 0 := by omega
      have hr2 : t.ops[k].rs = [] := List.eq_nil_of_length_eq_zero (by omega)
      simp only [walk, Nat.reduceLT, Nat.reduceBEq, Nat.reduceAdd, Nat.reduceLeDiff, reduceIte, Int.reduceLT, Int.reduceLE, Int.reduceEq, Int.reduceToNat, Int.reduceBEq, hr, hr1, e1]
      refine ih (k + 1) ⟨by omega, fun o ho => ?_⟩ (by omega)
      rw [List.take_add_one, List.getElem?_eq_getElem c, Option.toList_some] at ho
      rcases List.mem_append.1 ho with ho | ho
      · exact hJ o ho
      · rw [List.mem_singleton.1 ho]; exact hr2
  have c1 : ¬ (k : Int) < t.ops.length := by omega
  rw [List.take_of_length_le (by omega)] at hJ
  clear ih
  have hcnt := with_count (u := u) hJ hn
  have hhas := with_has (u := u) hJ hn
  have hwo := with_ok hl hlen ⟨ts3, hops⟩
  have hx := allL_ok (u := u) hl
  have hy := allL_ok (u := u) hwo
  simp only [walk, Nat.reduceLT, Nat.reduceBEq, Nat.reduceAdd, Nat.reduceLeDiff, reduceIte, Int.reduceLT, Int.reduceLE, Int.reduceEq, Int.reduceToNat, Int.reduceBEq, c1]
  refine callWp_of (h2 l u hl hs hu) ?_
  simp only [walk, Nat.reduceLT, Nat.reduceBEq, Nat.reduceAdd, Nat.reduceLeDiff, reduceIte, Int.reduceLT, Int.reduceLE, Int.reduceEq, Int.reduceToNat, Int.reduceBEq]
  refine callWp_of (hW l t (by omega) hst) ?_
  simp only [walk, Nat.reduceLT, Nat.reduceBEq, Nat.reduceAdd, Nat.reduceLeDiff, reduceIte, Int.reduceLT, Int.reduceLE, Int.reduceEq, Int.reduceToNat, Int.reduceBEq]
  have hgd := hwo
  unfold withL at hgd
  refine callWp_of (h2 _ u hgd hs hu) ?_
  rw [show (if t.ops.length = 0 then l else putT l t) = withL l t from rfl]
  generalize allL (withL l t) u = Y at *
  generalize hX : allL l u = X at *
  have hYl := hy.1
  have hXl := hx.1
  simp only [walk, Nat.reduceLT, Nat.reduceBEq, Nat.reduceAdd, Nat.reduceLeDiff, reduceIte, Int.reduceLT, Int.reduceLE, Int.reduceEq, Int.reduceToNat, Int.reduceBEq]
  refine awp_loop_ind (X := Nat) (fun j => ⟨[(0, .val (tsP l)), (1, .val (usP u)), (2, .val (tP t)), (5, .lp 5 0), (6, .val (.bool false)), (7, .val (.int .i64 k)), (8, .val (isP X)), (9, .val (isP Y)), (10, .val (.int .i64 ((Y.take j).filter fun x => decide (¬ x.x.1 = t.d)).length)), (11, .val (.int .i64 j)), (33, .val (.bool false)), (39, .val (.bool false))], [(5, tB t)]⟩)
    (fun j => j ≤ Y.length) (fun j => Y.length - j) 0 (by omega) rfl ?_
  rintro R2 j hj ih
  simp only [walk, Nat.reduceLT, Nat.reduceBEq, Nat.reduceAdd, Nat.reduceLeDiff, reduceIte, Int.reduceLT, Int.reduceLE, Int.reduceEq, Int.reduceToNat, Int.reduceBEq, iRs_len]
  by_cases q : j < Y.length
  · have q1 : (j : Int) < Y.length := by omega
    have q0 : (0 : Int) ≤ j := by omega
    have e1 : IntKind.i64.wrap ((j : Int) + 1) = ((j + 1 : Nat) : Int) := wrap64 (by omega) (by omega)
    have hfl := List.length_filter_le (fun x : It => decide (¬ x.x.1 = t.d)) (Y.take j)
    rw [List.length_take, Nat.min_eq_left (by omega)] at hfl
    have next := ih (j + 1) (by omega) (by omega)
    rw [filter_take _ Y j q] at next
    rw [List.length_append] at next
    generalize ((Y.take j).filter fun x => decide (¬ x.x.1 = t.d)).length = n at *
    by_cases he : Y[j].x.1 = t.d
    · have hed : decide (¬ Y[j].x.1 = t.d) = false := by simp [he]
      rw [hed] at next
      simp only [Bool.false_eq_true, if_false, List.length_nil, Nat.add_zero] at next
      simp only [walk, Nat.reduceLT, Nat.reduceBEq, Nat.reduceAdd, Nat.reduceLeDiff, reduceIte, Int.reduceLT, Int.reduceLE, Int.reduceEq, Int.reduceToNat, Int.reduceBEq, q1, iRs_get q, iRs_len, eq_d, he, e1]
      exact next
    · have hed : decide (¬ Y[j].x.1 = t.d) = true := by simp [he]
      rw [hed] at next
      simp only [if_true, List.length_singleton] at next
      have e2 : IntKind.i64.wrap ((n : Int) + 1) = ((n + 1 : Nat) : Int) := wrap64 (by omega) (by omega)
      simp only [walk, Nat.reduceLT, Nat.reduceBEq, Nat.reduceAdd, Nat.reduceLeDiff, reduceIte, Int.reduceLT, Int.reduceLE, Int.reduceEq, Int.reduceToNat, Int.reduceBEq, q1, iRs_get q, iRs_len, eq_d, he, e1, e2]
      exact next
  have q1 : ¬ (j : Int) < Y.length := by omega
  rw [List.take_of_length_le (by omega), hcnt]
  simp only [walk, Nat.reduceLT, Nat.reduceBEq, Nat.reduceAdd, Nat.reduceLeDiff, reduceIte, Int.reduceLT, Int.reduceLE, Int.reduceEq, Int.reduceToNat, Int.reduceBEq, q1]
  refine awp_loop_ind (X := Nat) (fun m => ⟨[(0, .val (tsP l)), (1, .val (usP u)), (2, .val (tP t)), (5, .lp 5 0), (6, .val (.bool false)), (7, .val (.int .i64 k)), (8, .val (isP X)), (9, .val (isP Y)), (10, .val (.int .i64 X.length)), (11, .val (.int .i64 j)), (12, .val (.int .i64 m)), (33, .val (.bool false)), (39, .val (.bool false)), (62, .val (.bool false))], [(5, tB t)]⟩)
    (fun m => m ≤ X.length) (fun m => X.length - m) 0 (by omega) rfl ?_
  clear ih
  rintro R3 m hm ih
  simp only [walk, Nat.reduceLT, Nat.reduceBEq, Nat.reduceAdd, Nat.reduceLeDiff, reduceIte, Int.reduceLT, Int.reduceLE, Int.reduceEq, Int.reduceToNat, Int.reduceBEq, iRs_len]
  by_cases p : m < X.length
  · have p1 : (m : Int) < X.length := by omega
    have p0 : (0 : Int) ≤ m := by omega
    have e1 : IntKind.i64.wrap ((m : Int) + 1) = ((m + 1 : Nat) : Int) := wrap64 (by omega) (by omega)
    have hh := hhas _ (List.getElem_mem p)
    simp only [walk, Nat.reduceLT, Nat.reduceBEq, Nat.reduceAdd, Nat.reduceLeDiff, reduceIte, Int.reduceLT, Int.reduceLE, Int.reduceEq, Int.reduceToNat, Int.reduceBEq, p1, iRs_get p, iRs_len]
    refine callWp_of (hH Y X[m].x hYl) ?_
    rw [hh]
    simp only [walk, Nat.reduceLT, Nat.reduceBEq, Nat.reduceAdd, Nat.reduceLeDiff, reduceIte, Int.reduceLT, Int.reduceLE, Int.reduceEq, Int.reduceToNat, Int.reduceBEq, e1]
    exact ih (m + 1) (by omega) (by omega)
  have p1 : ¬ (m : Int) < X.length := by omega
  have ee : ((X.length : Int) == X.length) = true := beq_self_eq_true _
  simp only [walk, Nat.reduceLT, Nat.reduceBEq, Nat.reduceAdd, Nat.reduceLeDiff, reduceIte, Int.reduceLT, Int.reduceLE, Int.reduceEq, Int.reduceToNat, Int.reduceBEq, p1, iRs_len, ee]
  refine callWp_of hA ?_
  simp only [walk, Nat.reduceLT, Nat.reduceBEq, Nat.reduceAdd, Nat.reduceLeDiff, reduceIte, Int.reduceLT, Int.reduceLE, Int.reduceEq, Int.reduceToNat, Int.reduceBEq]
end
end Go.AR
