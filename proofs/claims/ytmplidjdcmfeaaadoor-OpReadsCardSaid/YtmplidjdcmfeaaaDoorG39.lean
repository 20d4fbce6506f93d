import Derived.Test.YtmplidjdcmfeaaaDoorG33
import Derived.Test.YtmplidjdcmfeaaaDoorG37
import Derived.Test.YtmplidjdcmfeaaaDoorG38
set_option linter.all false
/-! Operations: what was told is read again. -/
namespace Go.AR
open Go
theorem rI_pInt {n : Int} (h0 : 0 ≤ n) (h1 : n < 72057594037927936) (rest : List UInt8) : rI (pInt n ++ rest) 0 = (n, rest, 0) := by
  have := rI_vint n.toNat (by omega) rest
  rw [pInt, this, Int.toNat_of_nonneg h0]
theorem dotOk_iff {d : Dt} : dotOk d = true ↔ 0 ≤ d.1 ∧ d.1 < 16 ∧ 1 ≤ d.2 ∧ d.2 ≤ 1048576 := by
  unfold dotOk; simp [and_assoc]
theorem rdDot_code {d : Dt} (h : dotOk d = true) (rest : List UInt8) : rdDot (dCode d ++ rest) 0 = (d, rest, 0) := by
  obtain ⟨h1, h2, h3, h4⟩ := dotOk_iff.1 h
  obtain ⟨a, b⟩ := d
  simp only at h1 h2 h3 h4
  unfold rdDot dCode
  rw [List.append_assoc, rI_pInt h1 (by omega)]
  simp only
  rw [rI_pInt (by omega) (by omega)]
  simp [h]
theorem unfold_fold (n : Int) : unfoldI (fold n) = n := by
  unfold unfoldI fold
  split
  · rw [if_pos (by omega)]; omega
  · rw [if_neg (by omega)]; omega
theorem fold_range {n : Int} (h1 : -2147483648 ≤ n) (h2 : n ≤ 2147483648) : 0 ≤ fold n ∧ fold n < 72057594037927936 := by
  unfold fold; split <;> omega
theorem vOk_cases {v : Vl} (h : vOk v = true) : (v.1 = 1 ∧ v.2.2 = [] ∧ -2147483647 ≤ v.2.1 ∧ v.2.1 ≤ 2147483647) ∨ (v.1 = 2 ∧ v.2.1 = 0 ∧ v.2.2.length ≤ 64) ∨ (v.1 = 3 ∧ v.2.2 = [] ∧ 0 ≤ v.2.1 ∧ v.2.1 ≤ 1) := by
  unfold vOk at h
  by_cases h1 : v.1 = 1
  · rw [if_pos h1] at h
    simp at h
    exact .inl ⟨h1, h.1.1, h.1.2, h.2⟩
  · rw [if_neg h1] at h
    by_cases h2 : v.1 = 2
    · rw [if_pos h2] at h
      simp at h
      exact .inr (.inl ⟨h2, h.1.2, h.2⟩)
    · rw [if_neg h2] at h
      simp at h
      exact .inr (.inr ⟨h.1.1.1, h.1.1.2, h.1.2, h.2⟩)
theorem rdVal_code {v : Vl} (h : vOk v = true) (rest : List UInt8) : rdVal (vCode v ++ rest) 0 = (v, rest, 0) := by
  have hc := vOk_cases h
  obtain ⟨k, n, s⟩ := v
  simp only at hc
  unfold rdVal vCode
  by_cases hk : k = 2
  · subst hk
    have h2 : n = 0 ∧ s.length ≤ 64 := by
      rcases hc with ⟨h, _⟩ | ⟨_, h⟩ | ⟨h, _⟩
      · omega
      · exact h
      · omega
    obtain ⟨rfl, hl⟩ := h2
    simp only [if_true]
    rw [List.append_assoc, rI_pInt (by omega) (by omega)]
    simp only [if_true]
    rw [rText_pText s rest (by omega)]
    simp [h]
  · have h2 : (k = 1 ∨ k = 3) ∧ s = [] ∧ -2147483647 ≤ n ∧ n ≤ 2147483647 := by
      rcases hc with ⟨h, h1, h2, h3⟩ | ⟨h, _⟩ | ⟨h, h1, h2, h3⟩
      · exact ⟨.inl h, h1, h2, h3⟩
      · exact absurd h hk
      · exact ⟨.inr h, h1, by omega, by omega⟩
    obtain ⟨hk2, rfl, h3, h4⟩ := h2
    have hf := fold_range (n := n) (by omega) (by omega)
    simp only [if_neg hk]
    rw [List.append_assoc, rI_pInt (by omega) (by omega)]
    simp only [if_neg hk]
    rw [rI_pInt hf.1 hf.2, unfold_fold]
    simp [h]
theorem rOk_iff {r : Ud} : rOk r = true ↔ dotOk r.1 = true ∧ 0 ≤ r.2 ∧ r.2 < 16 := by
  unfold rOk; simp [and_assoc]
theorem rdRefs_code : ∀ (l : List Ud) (rest : List UInt8), (∀ r ∈ l, rOk r = true) → rdRefs l.length ((l.map rCode).flatten ++ rest) 0 = (l, rest, 0)
  | [], rest, _ => rfl
  | r :: l, rest, h => by
    obtain ⟨h1, h2, h3⟩ := rOk_iff.1 (h r (by simp))
    rw [List.length_cons, rdRefs, List.map_cons, List.flatten_cons, rCode, List.append_assoc, List.append_assoc, rdDot_code h1]
    simp only
    rw [rI_pInt h2 (by omega)]
    simp only
    rw [rdRefs_code l rest (fun t ht => h t (by simp [ht]))]
theorem refs_ge : ∀ (l : List Ud), l.length ≤ ((l.map rCode).flatten).length
  | [] => by simp
  | r :: l => by
    have := refs_ge l
    have h := vint_pos r.2.toNat
    rw [List.map_cons, List.flatten_cons, List.length_append, List.length_cons, rCode, List.length_append, pInt]
    omega
theorem refs_all {l : List Ud} (h : refsOk l = true) : ∀ r ∈ l, rOk r = true := by
  intro r hr
  obtain ⟨k, hk, rfl⟩ := List.getElem_of_mem hr
  have := refsOk_iff.1 h k hk
  rw [refAt, getD_at hk, Bool.and_eq_true] at this
  exact this.1
theorem rdSeen_code {l : List Ud} (h : refsOk l = true) (hl : l.length ≤ 256) (rest : List UInt8) : rdSeen (rsCode l ++ rest) 0 = (l, rest, 0) := by
  have hg := refs_ge l
  unfold rdSeen rsCode
  rw [pInt, List.append_assoc, Int.toNat_natCast, rMany_vint 256 l.length _ (by omega) (by omega) (by rw [List.length_append]; omega)]
  simp only [Int.toNat_natCast]
  exact rdRefs_code l rest (refs_all h)
theorem check_zero {o : Ov} (h : oCheck o = 0) : (1 ≤ o.k ∧ o.k ≤ 5) ∧ pCheck o.p = 0 ∧ ((o.k = 3 ∨ o.k = 5) → o.v = z0) ∧ ((o.k ≠ 3 ∧ o.k ≠ 5) → vOk o.v = true) ∧ (o.k ≠ 3 → o.am = 0) ∧ (o.k = 3 → -2147483647 ≤ o.am ∧ o.am ≤ 2147483647) ∧ ((o.k = 2 ∨ o.k = 3) → o.rs = []) ∧ o.rs.length ≤ 256 ∧ refsOk o.rs = true := by
  unfold oCheck at h
  by_cases h0 : o.k < 1 ∨ o.k > 5
  · rw [if_pos h0] at h; cases h
  rw [if_neg h0] at h
  by_cases h1 : pCheck o.p ≠ 0
  · rw [if_pos h1] at h; exact absurd h h1
  rw [if_neg h1] at h
  by_cases h2 : (o.k = 3 ∨ o.k = 5) ∧ o.v ≠ z0
  · rw [if_pos h2] at h; cases h
  rw [if_neg h2] at h
  by_cases h3 : (o.k ≠ 3 ∧ o.k ≠ 5) ∧ vOk o.v = false
  · rw [if_pos h3] at h; cases h
  rw [if_neg h3] at h
  by_cases h4 : (o.k ≠ 3 ∧ o.am ≠ 0) ∨ (o.k = 3 ∧ (o.am = 0 ∨ o.am > 2147483647 ∨ o.am < -2147483647))
  · rw [if_pos h4] at h; cases h
  rw [if_neg h4] at h
  by_cases h5 : (o.k = 2 ∨ o.k = 3) ∧ o.rs.length > 0
  · rw [if_pos h5] at h; cases h
  rw [if_neg h5] at h
  by_cases h6 : o.rs.length > 256
  · rw [if_pos h6] at h; cases h
  rw [if_neg h6] at h
  by_cases h7 : refsOk o.rs = false
  · rw [if_pos h7] at h; cases h
  refine ⟨by omega, by omega, fun hk => ?_, fun hk => ?_, fun hk => by omega, fun hk => by omega, fun hk => ?_, by omega, by simpa using h7⟩
  · exact Classical.byContradiction fun hv => h2 ⟨hk, hv⟩
  · rw [← Bool.not_eq_false]; exact fun hv => h3 ⟨hk, hv⟩
  · exact List.eq_nil_of_length_eq_zero (by have : ¬ o.rs.length > 0 := fun hr => h5 ⟨hk, hr⟩; omega)
theorem vFit_of {v : Vl} (h : vOk v = true) (hl : v.2.2.length ≤ 20000000) : vFit v := by
  rcases vOk_cases h with ⟨h1, _, h3, h4⟩ | ⟨h1, h3, _⟩ | ⟨h1, _, h3, h4⟩
  all_goals exact ⟨⟨by omega, by omega⟩, by omega, by omega, hl⟩
theorem vFit_z : vFit z0 := ⟨⟨by simp [z0], by simp [z0]⟩, by simp [z0], by simp [z0], by simp [z0]⟩
theorem fit_of_check {o : Ov} (ho : oOk o) (h : oCheck o = 0) : oFit o := by
  obtain ⟨h1, h2, h3, h4, h5, h6, h7, h8, h9⟩ := check_zero h
  have hv : vFit o.v := by
    by_cases hk : o.k = 3 ∨ o.k = 5
    · rw [h3 hk]; exact vFit_z
    · exact vFit_of (h4 (by omega)) ho.2.1
  refine ⟨ho, ⟨by omega, by omega⟩, hv, ?_, ?_, fun r hr => ?_⟩
  · by_cases hk : o.k = 3
    · have := h6 hk; omega
    · have := h5 hk; omega
  · by_cases hk : o.k = 3
    · have := h6 hk; omega
    · have := h5 hk; omega
  · obtain ⟨k1, k2, k3⟩ := rOk_iff.1 (refs_all h9 r hr)
    have := dotOk_iff.1 k1
    exact ⟨⟨⟨by omega, by omega⟩, ⟨by omega, by omega⟩⟩, ⟨by omega, by omega⟩⟩
theorem gone_eq {o : Ov} (h : oGone o = true) : o = zop := of_decide_eq_true h
theorem oOk_z : oOk zop := ⟨⟨by simp [zop], by simp [zop]⟩, by simp [zop, z0], by simp [zop]⟩
theorem fit_z : oFit zop := ⟨oOk_z, ⟨by simp [zop], by simp [zop]⟩, vFit_z, by simp [zop], by simp [zop], by simp [zop]⟩
theorem fit_of {o : Ov} (ho : oOk o) (h : oCheck o = 0 ∨ oGone o = true) : oFit o ∧ (oGone o = true ∨ (1 ≤ o.k ∧ o.k ≤ 5)) := by
  rcases h with h | h
  · exact ⟨fit_of_check ho h, .inr (check_zero h).1⟩
  · exact ⟨by rw [gone_eq h]; exact fit_z, .inl h⟩
theorem rdOp_code {o : Ov} (h : oCheck o = 0 ∨ oGone o = true) (rest : List UInt8) : rdOp (oCode o ++ rest) 0 = (o, rest, 0) := by
  rcases h with h | h
  · obtain ⟨h1, h2, h3, h4, h5, h6, h7, h8, h9⟩ := check_zero h
    have hg : oGone o = false := by
      rw [← Bool.not_eq_true]
      intro hg
      rw [gone_eq hg] at h1
      simp [zop] at h1
    obtain ⟨k, p, v, am, rs⟩ := o
    simp only at *
    rw [rdOp_eq]
    unfold oCode
    rw [hg]
    simp only [Bool.false_eq_true, if_false]
    rw [List.append_assoc, rI_pInt (by omega) (by omega)]
    simp only
    rw [if_neg (by omega), List.append_assoc, rPath_code h2]
    simp only
    have hk : k = 1 ∨ k = 2 ∨ k = 3 ∨ k = 4 ∨ k = 5 := by omega
    rcases hk with rfl | rfl | rfl | rfl | rfl
    · have e5 := h5 (by omega)
      subst e5
      simp only [rdIn, Int.reduceEq, if_false, if_true, or_false, true_or, List.append_assoc]
      rw [rdVal_code (h4 (by omega))]
      simp only
      rw [rdSeen_code h9 h8]
      simp [rdEnd, h]
    · have e5 := h5 (by omega)
      have e7 := h7 (by omega)
      subst e5 e7
      simp only [rdIn, Int.reduceEq, if_false, if_true, or_self, List.append_assoc, List.nil_append]
      rw [rdVal_code (h4 (by omega))]
      simp [rdEnd, h]
    · have e3 := h3 (by omega)
      have e7 := h7 (by omega)
      have hf := h6 rfl
      have hr := fold_range (n := am) (by omega) (by omega)
      subst e3 e7
      simp only [rdIn, if_true]
      rw [rI_pInt hr.1 hr.2]
      simp [rdEnd, h, unfold_fold]
    · have e5 := h5 (by omega)
      subst e5
      simp only [rdIn, Int.reduceEq, if_false, if_true, or_true, List.append_assoc]
      rw [rdVal_code (h4 (by omega))]
      simp only
      rw [rdSeen_code h9 h8]
      simp [rdEnd, h]
    · have e5 := h5 (by omega)
      have e3 := h3 (by omega)
      subst e5 e3
      simp only [rdIn, Int.reduceEq, if_false, if_true, or_self, List.append_assoc, List.nil_append]
      rw [rdSeen_code h9 h8]
      simp [rdEnd, h]
  · have e := gone_eq h
    subst e
    rw [rdOp_eq]
    have : oCode zop = pInt 0 := by unfold oCode; rw [h]; simp [zop]
    rw [this, rI_pInt (by omega) (by omega)]
    simp
end Go.AR

/-! Operations: the laws. -/
namespace Go.AR
open Go
section
variable {C : CallRel} {F : Nat → FuncId}
theorem short_oOk {o : Ov} (h : oShort o = true) : oOk o ∧ o.p.length ≤ 12 := by
  unfold oShort at h
  simp only [Bool.and_eq_true, decide_eq_true_eq] at h
  refine ⟨⟨short_ok h.1.1, by omega, by omega⟩, ?_⟩
  have := h.1.1
  unfold pShort at this
  simp only [Bool.and_eq_true, decide_eq_true_eq] at this
  exact this.1
def aw11 : Ov := ⟨3, [[97]], z0, 5, []⟩
theorem right_a : rightB [97] = true := (right_iff _).2 ⟨1, .cons (by decide) (by decide) .nil, by omega, by omega⟩
theorem check_aw11 : oCheck aw11 = 0 := by
  have : pCheck [[97]] = 0 := by unfold pCheck; simp [right_a]
  have h : refsOk [] = true := by simp [refsOk]
  unfold oCheck aw11
  simp [this, h]
theorem code_aw11 : oCode aw11 = [3, 1, 1, 97, 10] := by
  have : oGone aw11 = false := by simp [oGone, aw11, zop]
  unfold oCode
  rw [this]
  have v : ∀ n, n < 128 → vint n = [UInt8.ofNat n] := by
    intro n h; unfold vint; rw [if_pos h]
  simp [aw11, pCode, pText, pInt, v, fold]
theorem g_plaw11_awake (h1 : S_oCheck (C (F n_op_Check))) (h2 : S_oCode (C (F n_op_Code))) (h3 : S_leaf (C (F n_op_Leaf))) : S_yes ((c_plaw11_awake F).gives C) := by
  refine gives_of rfl ?_
  unfold c_plaw11_awake
  have hok : oOk aw11 := ⟨check_ok (check_zero check_aw11).2.1, by simp [aw11, z0], by simp [aw11]⟩
  have hf := fit_of hok (.inl check_aw11)
  simp only [walk, Nat.reduceLT, Nat.reduceBEq, Nat.reduceAdd, Nat.reduceLeDiff, reduceIte, Int.reduceLT, Int.reduceLE, Int.reduceEq, Int.reduceToNat, Int.reduceBEq]
  refine callWp_of (h1 aw11 hok) ?_
  simp only [walk, Nat.reduceLT, Nat.reduceBEq, Nat.reduceAdd, Nat.reduceLeDiff, reduceIte, Int.reduceLT, Int.reduceLE, Int.reduceEq, Int.reduceToNat, Int.reduceBEq, check_aw11]
  refine callWp_of (h2 aw11 hf.1 hf.2) ?_
  simp only [walk, Nat.reduceLT, Nat.reduceBEq, Nat.reduceAdd, Nat.reduceLeDiff, reduceIte, Int.reduceLT, Int.reduceLE, Int.reduceEq, Int.reduceToNat, Int.reduceBEq, code_aw11, beq_self_eq_true]
  refine callWp_of (h3 4) ?_
  have e : oLeaf 4 = 2 := by decide
  simp only [walk, Nat.reduceLT, Nat.reduceBEq, Nat.reduceAdd, Nat.reduceLeDiff, reduceIte, Int.reduceLT, Int.reduceLE, Int.reduceEq, Int.reduceToNat, Int.reduceBEq, e]
def S_o1 (R : Rel) : Prop := ∀ o : Ov, R [.v (oP o)] (.val (.bool true)) []
def S_oNames (R : Rel) : Prop := ∀ (o : Ov) (r : Ud), R [.v (oP o), .v (uP r)] (.val (.bool true)) []
def S_oTells (R : Rel) : Prop := ∀ (o b : Ov) (r : Ud) (k : Int), R [.v (oP o), .v (oP b), .v (uP r), .v (.int .i64 k)] (.val (.bool true)) []
theorem oCode_len {o : Ov} (hs : oShort o = true) (hg : oCheck o = 0 ∨ oGone o = true) : (oCode o).length ≤ 20000000 := by
  obtain ⟨hok, hpl⟩ := short_oOk hs
  have hf := (fit_of hok hg).1
  obtain ⟨_, h1, h2, h3, h4, h5⟩ := hf
  have l1 := pInt_len h1
  have l3 := pInt_len (fold_ok h3 h4)
  have l5 := pInt_len (n := o.rs.length) (i64ok_nat (by have := hok.2.2; omega))
  have l6 := rsFlat_len o.rs h5
  unfold oShort at hs
  simp only [Bool.and_eq_true, decide_eq_true_eq] at hs
  obtain ⟨⟨s1, s2⟩, s3⟩ := hs
  have hp : (pCode o.p).length ≤ 10000 := by
    unfold pShort at s1
    simp only [Bool.and_eq_true, decide_eq_true_eq, List.all_eq_true] at s1
    have key : ∀ (p : List (List UInt8)), (∀ s ∈ p, s.length ≤ 120) → ((p.map pText).flatten).length ≤ p.length * 131 := by
      intro p
      induction p with
      | nil => simp
      | cons a p ih =>
        intro h
        have h2 := h a (by simp)
        have h3 : (vint a.length).length ≤ 11 := vint_len 10 _ (by omega)
        have ih := ih (fun s hs => h s (by simp [hs]))
        rw [List.map_cons, List.flatten_cons, List.length_append, pText, List.length_append, List.length_cons]
        omega
    have k1 := key o.p s1.2
    have k2 := pInt_len (n := o.p.length) (i64ok_nat (by omega))
    rw [pCode, List.length_append]; omega
  have hv : (vCode o.v).length ≤ 1000 := by
    have k1 := pInt_len h2.1
    have k2 := pInt_len (fold_ok h2.2.1 h2.2.2.1)
    have k3 : (vint o.v.2.2.length).length ≤ 11 := vint_len 10 _ (by omega)
    have k4 := pInt_len (n := 2) ⟨by omega, by omega⟩
    unfold vCode pText
    split <;> simp only [List.length_append] <;> omega
  have hrs : (rsCode o.rs).length ≤ 20000 := by
    rw [rsCode, List.length_append]; omega
  unfold oCode
  rw [List.length_append]
  split
  · simp; omega
  · rw [List.length_append]
    split
    · omega
    · rw [List.length_append]
      split <;> split <;> simp <;> omega
theorem g_OpBack (hA : S_yes (C (F n_plaw11_awake))) (h1 : S_oShort (C (F n_pref11_Short))) (h2 : S_oCheck (C (F n_pref11_Check))) (h3 : S_oGone (C (F n_pref11_Gone))) (h4 : S_oCode (C (F n_op_Code))) (h5 : S_Open (C (F n_pack_Open))) (h6 : S_oRead (C (F n_op_Read))) (h7 : S_oSame (C (F n_pref11_Same))) (h8 : S_End (C (F n_pack_Reader_End))) : S_o1 ((c_plaw11_OpBack F).gives C) := by
  intro o
  refine gives_of rfl ?_
  unfold c_plaw11_OpBack
  simp only [walk, Nat.reduceLT, Nat.reduceBEq, Nat.reduceAdd, Nat.reduceLeDiff, reduceIte, Int.reduceLT, Int.reduceLE, Int.reduceEq, Int.reduceToNat, Int.reduceBEq]
  refine callWp_of (h1 o) ?_
  cases hs : oShort o with
  | false =>
    simp only [walk, Nat.reduceLT, Nat.reduceBEq, Nat.reduceAdd, Nat.reduceLeDiff, reduceIte, Int.reduceLT, Int.reduceLE, Int.reduceEq, Int.reduceToNat, Int.reduceBEq]
    refine callWp_of hA ?_
    simp only [walk, Nat.reduceLT, Nat.reduceBEq, Nat.reduceAdd, Nat.reduceLeDiff, reduceIte, Int.reduceLT, Int.reduceLE, Int.reduceEq, Int.reduceToNat, Int.reduceBEq]
  | true =>
  obtain ⟨hok, hpl⟩ := short_oOk hs
  simp only [walk, Nat.reduceLT, Nat.reduceBEq, Nat.reduceAdd, Nat.reduceLeDiff, reduceIte, Int.reduceLT, Int.reduceLE, Int.reduceEq, Int.reduceToNat, Int.reduceBEq]
  refine callWp_of (h2 o hok) ?_
  by_cases hc : oCheck o = 0
  · have hg : oCheck o = 0 ∨ oGone o = true := .inl hc
    simp only [walk, Nat.reduceLT, Nat.reduceBEq, Nat.reduceAdd, Nat.reduceLeDiff, reduceIte, Int.reduceLT, Int.reduceLE, Int.reduceEq, Int.reduceToNat, Int.reduceBEq, hc, bne_self_eq_false]
    have hf := fit_of hok hg
    have hr := rdOp_code hg []
    rw [List.append_nil] at hr
    have hcl : (oCode o).length ≤ 20000000 := oCode_len hs hg
    refine callWp_of (h4 o hf.1 hf.2) ?_
    simp only [walk, Nat.reduceLT, Nat.reduceBEq, Nat.reduceAdd, Nat.reduceLeDiff, reduceIte, Int.reduceLT, Int.reduceLE, Int.reduceEq, Int.reduceToNat, Int.reduceBEq]
    refine callWp_of (h5 _) ?_
    simp only [walk, Nat.reduceLT, Nat.reduceBEq, Nat.reduceAdd, Nat.reduceLeDiff, reduceIte, Int.reduceLT, Int.reduceLE, Int.reduceEq, Int.reduceToNat, Int.reduceBEq]
    refine callWp_of (h6 _ _ hcl) ?_
    simp only [walk, Nat.reduceLT, Nat.reduceBEq, Nat.reduceAdd, Nat.reduceLeDiff, reduceIte, Int.reduceLT, Int.reduceLE, Int.reduceEq, Int.reduceToNat, Int.reduceBEq, hr]
    refine callWp_of (h7 o o hok) ?_
    simp only [walk, Nat.reduceLT, Nat.reduceBEq, Nat.reduceAdd, Nat.reduceLeDiff, reduceIte, Int.reduceLT, Int.reduceLE, Int.reduceEq, Int.reduceToNat, Int.reduceBEq]
    refine callWp_of (h8 _ _ (by unfold sLen; simp)) ?_
    have he : rEnd [] 0 = 0 := rfl
    simp only [walk, Nat.reduceLT, Nat.reduceBEq, Nat.reduceAdd, Nat.reduceLeDiff, reduceIte, Int.reduceLT, Int.reduceLE, Int.reduceEq, Int.reduceToNat, Int.reduceBEq, he]
    refine callWp_of hA ?_
    simp only [walk, Nat.reduceLT, Nat.reduceBEq, Nat.reduceAdd, Nat.reduceLeDiff, reduceIte, Int.reduceLT, Int.reduceLE, Int.reduceEq, Int.reduceToNat, Int.reduceBEq]
  · have hc' : (oCheck o != 0) = true := by simp [hc]
    simp only [walk, Nat.reduceLT, Nat.reduceBEq, Nat.reduceAdd, Nat.reduceLeDiff, reduceIte, Int.reduceLT, Int.reduceLE, Int.reduceEq, Int.reduceToNat, Int.reduceBEq, hc']
    refine callWp_of (h3 o) ?_
    cases hgo : oGone o with
    | false =>
      simp only [walk, Nat.reduceLT, Nat.reduceBEq, Nat.reduceAdd, Nat.reduceLeDiff, reduceIte, Int.reduceLT, Int.reduceLE, Int.reduceEq, Int.reduceToNat, Int.reduceBEq]
      refine callWp_of hA ?_
      simp only [walk, Nat.reduceLT, Nat.reduceBEq, Nat.reduceAdd, Nat.reduceLeDiff, reduceIte, Int.reduceLT, Int.reduceLE, Int.reduceEq, Int.reduceToNat, Int.reduceBEq]
    | true =>
    have hg : oCheck o = 0 ∨ oGone o = true := .inr hgo
    simp only [walk, Nat.reduceLT, Nat.reduceBEq, Nat.reduceAdd, Nat.reduceLeDiff, reduceIte, Int.reduceLT, Int.reduceLE, Int.reduceEq, Int.reduceToNat, Int.reduceBEq]
    have hf := fit_of hok hg
    have hr := rdOp_code hg []
    rw [List.append_nil] at hr
    have hcl : (oCode o).length ≤ 20000000 := oCode_len hs hg
    refine callWp_of (h4 o hf.1 hf.2) ?_
    simp only [walk, Nat.reduceLT, Nat.reduceBEq, Nat.reduceAdd, Nat.reduceLeDiff, reduceIte, Int.reduceLT, Int.reduceLE, Int.reduceEq, Int.reduceToNat, Int.reduceBEq]
    refine callWp_of (h5 _) ?_
    simp only [walk, Nat.reduceLT, Nat.reduceBEq, Nat.reduceAdd, Nat.reduceLeDiff, reduceIte, Int.reduceLT, Int.reduceLE, Int.reduceEq, Int.reduceToNat, Int.reduceBEq]
    refine callWp_of (h6 _ _ hcl) ?_
    simp only [walk, Nat.reduceLT, Nat.reduceBEq, Nat.reduceAdd, Nat.reduceLeDiff, reduceIte, Int.reduceLT, Int.reduceLE, Int.reduceEq, Int.reduceToNat, Int.reduceBEq, hr]
    refine callWp_of (h7 o o hok) ?_
    simp only [walk, Nat.reduceLT, Nat.reduceBEq, Nat.reduceAdd, Nat.reduceLeDiff, reduceIte, Int.reduceLT, Int.reduceLE, Int.reduceEq, Int.reduceToNat, Int.reduceBEq]
    refine callWp_of (h8 _ _ (by unfold sLen; simp)) ?_
    have he : rEnd [] 0 = 0 := rfl
    simp only [walk, Nat.reduceLT, Nat.reduceBEq, Nat.reduceAdd, Nat.reduceLeDiff, reduceIte, Int.reduceLT, Int.reduceLE, Int.reduceEq, Int.reduceToNat, Int.reduceBEq, he]
    refine callWp_of hA ?_
    simp only [walk, Nat.reduceLT, Nat.reduceBEq, Nat.reduceAdd, Nat.reduceLeDiff, reduceIte, Int.reduceLT, Int.reduceLE, Int.reduceEq, Int.reduceToNat, Int.reduceBEq]
theorem g_OpTells (hA : S_yes (C (F n_plaw11_awake))) (h1 : S_oShort (C (F n_pref11_Short))) (h2 : S_oCheck (C (F n_pref11_Check))) (h3 : S_oCheck (C (F n_op_Check))) (h4 : S_leaf (C (F n_op_Leaf))) (h5 : S_leaf (C (F n_pref11_Leaf))) (h6 : S_refs (C (F n_op_Refs))) (h7 : S_refs (C (F n_pref11_Refs))) (h8 : S_oSame (C (F n_op_Same))) (h9 : S_oSame (C (F n_pref11_Same))) (h10 : S_oGone (C (F n_op_Gone))) (h11 : S_oGone (C (F n_pref11_Gone))) (h12 : S_oCov (C (F n_op_Covers))) (h13 : S_oCov (C (F n_pref11_Covers))) (h14 : S_oCode (C (F n_op_Code))) (h15 : S_oCode (C (F n_pref11_Code))) : S_oTells ((c_plaw11_OpTells F).gives C) := by
  intro o b r k
  refine gives_of rfl ?_
  unfold c_plaw11_OpTells
  simp only [walk, Nat.reduceLT, Nat.reduceBEq, Nat.reduceAdd, Nat.reduceLeDiff, reduceIte, Int.reduceLT, Int.reduceLE, Int.reduceEq, Int.reduceToNat, Int.reduceBEq]
  refine callWp_of (h1 o) ?_
  cases hs : oShort o with
  | false =>
    simp only [walk, Nat.reduceLT, Nat.reduceBEq, Nat.reduceAdd, Nat.reduceLeDiff, reduceIte, Int.reduceLT, Int.reduceLE, Int.reduceEq, Int.reduceToNat, Int.reduceBEq]
    refine callWp_of hA ?_
    simp only [walk, Nat.reduceLT, Nat.reduceBEq, Nat.reduceAdd, Nat.reduceLeDiff, reduceIte, Int.reduceLT, Int.reduceLE, Int.reduceEq, Int.reduceToNat, Int.reduceBEq]
  | true =>
  simp only [walk, Nat.reduceLT, Nat.reduceBEq, Nat.reduceAdd, Nat.reduceLeDiff, reduceIte, Int.reduceLT, Int.reduceLE, Int.reduceEq, Int.reduceToNat, Int.reduceBEq]
  refine callWp_of (h1 b) ?_
  cases hsb : oShort b with
  | false =>
    simp only [walk, Nat.reduceLT, Nat.reduceBEq, Nat.reduceAdd, Nat.reduceLeDiff, reduceIte, Int.reduceLT, Int.reduceLE, Int.reduceEq, Int.reduceToNat, Int.reduceBEq]
    refine callWp_of hA ?_
    simp only [walk, Nat.reduceLT, Nat.reduceBEq, Nat.reduceAdd, Nat.reduceLeDiff, reduceIte, Int.reduceLT, Int.reduceLE, Int.reduceEq, Int.reduceToNat, Int.reduceBEq]
  | true =>
  have hok := (short_oOk hs).1
  have hokb := (short_oOk hsb).1
  simp only [walk, Nat.reduceLT, Nat.reduceBEq, Nat.reduceAdd, Nat.reduceLeDiff, reduceIte, Int.reduceLT, Int.reduceLE, Int.reduceEq, Int.reduceToNat, Int.reduceBEq]
  refine callWp_of (h2 o hok) ?_
  simp only [walk, Nat.reduceLT, Nat.reduceBEq, Nat.reduceAdd, Nat.reduceLeDiff, reduceIte, Int.reduceLT, Int.reduceLE, Int.reduceEq, Int.reduceToNat, Int.reduceBEq]
  refine callWp_of (h3 o hok) ?_
  simp only [walk, Nat.reduceLT, Nat.reduceBEq, Nat.reduceAdd, Nat.reduceLeDiff, reduceIte, Int.reduceLT, Int.reduceLE, Int.reduceEq, Int.reduceToNat, Int.reduceBEq, bne_self_eq_false]
  refine callWp_of (h4 k) ?_
  simp only [walk, Nat.reduceLT, Nat.reduceBEq, Nat.reduceAdd, Nat.reduceLeDiff, reduceIte, Int.reduceLT, Int.reduceLE, Int.reduceEq, Int.reduceToNat, Int.reduceBEq]
  refine callWp_of (h5 k) ?_
  simp only [walk, Nat.reduceLT, Nat.reduceBEq, Nat.reduceAdd, Nat.reduceLeDiff, reduceIte, Int.reduceLT, Int.reduceLE, Int.reduceEq, Int.reduceToNat, Int.reduceBEq, bne_self_eq_false]
  refine callWp_of (h6 o.rs hok.2.2) ?_
  simp only [walk, Nat.reduceLT, Nat.reduceBEq, Nat.reduceAdd, Nat.reduceLeDiff, reduceIte, Int.reduceLT, Int.reduceLE, Int.reduceEq, Int.reduceToNat, Int.reduceBEq]
  refine callWp_of (h7 o.rs hok.2.2) ?_
  simp only [walk, Nat.reduceLT, Nat.reduceBEq, Nat.reduceAdd, Nat.reduceLeDiff, reduceIte, Int.reduceLT, Int.reduceLE, Int.reduceEq, Int.reduceToNat, Int.reduceBEq, beq_self_eq_true]
  refine callWp_of (h8 o b hok) ?_
  simp only [walk, Nat.reduceLT, Nat.reduceBEq, Nat.reduceAdd, Nat.reduceLeDiff, reduceIte, Int.reduceLT, Int.reduceLE, Int.reduceEq, Int.reduceToNat, Int.reduceBEq]
  refine callWp_of (h9 o b hok) ?_
  simp only [walk, Nat.reduceLT, Nat.reduceBEq, Nat.reduceAdd, Nat.reduceLeDiff, reduceIte, Int.reduceLT, Int.reduceLE, Int.reduceEq, Int.reduceToNat, Int.reduceBEq, beq_self_eq_true]
  refine callWp_of (h10 o) ?_
  simp only [walk, Nat.reduceLT, Nat.reduceBEq, Nat.reduceAdd, Nat.reduceLeDiff, reduceIte, Int.reduceLT, Int.reduceLE, Int.reduceEq, Int.reduceToNat, Int.reduceBEq]
  refine callWp_of (h11 o) ?_
  simp only [walk, Nat.reduceLT, Nat.reduceBEq, Nat.reduceAdd, Nat.reduceLeDiff, reduceIte, Int.reduceLT, Int.reduceLE, Int.reduceEq, Int.reduceToNat, Int.reduceBEq, beq_self_eq_true]
  refine callWp_of (h7 o.rs hok.2.2) ?_
  cases hr : refsOk o.rs
  all_goals simp only [walk, Nat.reduceLT, Nat.reduceBEq, Nat.reduceAdd, Nat.reduceLeDiff, reduceIte, Int.reduceLT, Int.reduceLE, Int.reduceEq, Int.reduceToNat, Int.reduceBEq]
  rotate_left
  refine callWp_of (h12 o r hok hr) ?_
  simp only [walk, Nat.reduceLT, Nat.reduceBEq, Nat.reduceAdd, Nat.reduceLeDiff, reduceIte, Int.reduceLT, Int.reduceLE, Int.reduceEq, Int.reduceToNat, Int.reduceBEq]
  refine callWp_of (h13 o r hok hr) ?_
  simp only [walk, Nat.reduceLT, Nat.reduceBEq, Nat.reduceAdd, Nat.reduceLeDiff, reduceIte, Int.reduceLT, Int.reduceLE, Int.reduceEq, Int.reduceToNat, Int.reduceBEq, beq_self_eq_true]
  all_goals
    by_cases hc : oCheck o = 0
    · have hf := fit_of hok (.inl hc)
      simp only [walk, Nat.reduceLT, Nat.reduceBEq, Nat.reduceAdd, Nat.reduceLeDiff, reduceIte, Int.reduceLT, Int.reduceLE, Int.reduceEq, Int.reduceToNat, Int.reduceBEq, hc, bne_self_eq_false]
      refine callWp_of (h14 o hf.1 hf.2) ?_
      simp only [walk, Nat.reduceLT, Nat.reduceBEq, Nat.reduceAdd, Nat.reduceLeDiff, reduceIte, Int.reduceLT, Int.reduceLE, Int.reduceEq, Int.reduceToNat, Int.reduceBEq]
      refine callWp_of (h15 o hf.1 hf.2) ?_
      simp only [walk, Nat.reduceLT, Nat.reduceBEq, Nat.reduceAdd, Nat.reduceLeDiff, reduceIte, Int.reduceLT, Int.reduceLE, Int.reduceEq, Int.reduceToNat, Int.reduceBEq, beq_self_eq_true]
      refine callWp_of hA ?_
      simp only [walk, Nat.reduceLT, Nat.reduceBEq, Nat.reduceAdd, Nat.reduceLeDiff, reduceIte, Int.reduceLT, Int.reduceLE, Int.reduceEq, Int.reduceToNat, Int.reduceBEq]
    · have hc' : (oCheck o != 0) = true := by simp [hc]
      simp only [walk, Nat.reduceLT, Nat.reduceBEq, Nat.reduceAdd, Nat.reduceLeDiff, reduceIte, Int.reduceLT, Int.reduceLE, Int.reduceEq, Int.reduceToNat, Int.reduceBEq, hc']
      refine callWp_of (h11 o) ?_
      cases hgo : oGone o with
      | false =>
        simp only [walk, Nat.reduceLT, Nat.reduceBEq, Nat.reduceAdd, Nat.reduceLeDiff, reduceIte, Int.reduceLT, Int.reduceLE, Int.reduceEq, Int.reduceToNat, Int.reduceBEq]
        refine callWp_of hA ?_
        simp only [walk, Nat.reduceLT, Nat.reduceBEq, Nat.reduceAdd, Nat.reduceLeDiff, reduceIte, Int.reduceLT, Int.reduceLE, Int.reduceEq, Int.reduceToNat, Int.reduceBEq]
      | true =>
        have hf := fit_of hok (.inr hgo)
        simp only [walk, Nat.reduceLT, Nat.reduceBEq, Nat.reduceAdd, Nat.reduceLeDiff, reduceIte, Int.reduceLT, Int.reduceLE, Int.reduceEq, Int.reduceToNat, Int.reduceBEq]
        refine callWp_of (h14 o hf.1 hf.2) ?_
        simp only [walk, Nat.reduceLT, Nat.reduceBEq, Nat.reduceAdd, Nat.reduceLeDiff, reduceIte, Int.reduceLT, Int.reduceLE, Int.reduceEq, Int.reduceToNat, Int.reduceBEq]
        refine callWp_of (h15 o hf.1 hf.2) ?_
        simp only [walk, Nat.reduceLT, Nat.reduceBEq, Nat.reduceAdd, Nat.reduceLeDiff, reduceIte, Int.reduceLT, Int.reduceLE, Int.reduceEq, Int.reduceToNat, Int.reduceBEq, beq_self_eq_true]
        refine callWp_of hA ?_
        simp only [walk, Nat.reduceLT, Nat.reduceBEq, Nat.reduceAdd, Nat.reduceLeDiff, reduceIte, Int.reduceLT, Int.reduceLE, Int.reduceEq, Int.reduceToNat, Int.reduceBEq]
/-- How many of the first are there. -/
theorem distinct {l : List Ud} (hs : sortR l) {i j : Nat} (hi : i < l.length) (hj : j < l.length) (h : l.getD i z3 = l.getD j z3) : i = j := by
  rcases Nat.lt_trichotomy i j with k | k | k
  · have := hs i j k hj; rw [h, rcmp_neg] at this; omega
  · exact k
  · have := hs j i k hi; rw [h, rcmp_neg] at this; omega
theorem g_OpNames (hA : S_yes (C (F n_plaw11_awake))) (h1 : S_oShort (C (F n_pref11_Short))) (h2 : S_oCheck (C (F n_pref11_Check))) (h3 : S_oCov (C (F n_op_Covers))) : S_oNames ((c_plaw11_OpNames F).gives C) := by
  intro o r
  refine gives_of rfl ?_
  unfold c_plaw11_OpNames
  simp only [walk, Nat.reduceLT, Nat.reduceBEq, Nat.reduceAdd, Nat.reduceLeDiff, reduceIte, Int.reduceLT, Int.reduceLE, Int.reduceEq, Int.reduceToNat, Int.reduceBEq]
  refine callWp_of (h1 o) ?_
  cases hs : oShort o with
  | false =>
    simp only [walk, Nat.reduceLT, Nat.reduceBEq, Nat.reduceAdd, Nat.reduceLeDiff, reduceIte, Int.reduceLT, Int.reduceLE, Int.reduceEq, Int.reduceToNat, Int.reduceBEq]
    refine callWp_of hA ?_
    simp only [walk, Nat.reduceLT, Nat.reduceBEq, Nat.reduceAdd, Nat.reduceLeDiff, reduceIte, Int.reduceLT, Int.reduceLE, Int.reduceEq, Int.reduceToNat, Int.reduceBEq]
  | true =>
  have hok := (short_oOk hs).1
  simp only [walk, Nat.reduceLT, Nat.reduceBEq, Nat.reduceAdd, Nat.reduceLeDiff, reduceIte, Int.reduceLT, Int.reduceLE, Int.reduceEq, Int.reduceToNat, Int.reduceBEq]
  refine callWp_of (h2 o hok) ?_
  by_cases hc : oCheck o = 0
  · have hr : refsOk o.rs = true := (check_zero hc).2.2.2.2.2.2.2.2
    have hsort := sort_of_refs hr
    have hl := hok.2.2
    simp only [walk, Nat.reduceLT, Nat.reduceBEq, Nat.reduceAdd, Nat.reduceLeDiff, reduceIte, Int.reduceLT, Int.reduceLE, Int.reduceEq, Int.reduceToNat, Int.reduceBEq, hc, bne_self_eq_false, uRows_len]
    refine awp_loop_ind (X := Nat × Int) (fun x => ⟨[(0, .val (oP o)), (1, .val (uP r)), (2, .lp 2 0), (3, .lp 3 0), (4, .val (.bool false)), (5, .val (.int .i64 x.2)), (6, .val (.int .i64 x.1)), (14, .val (.bool false))], [(2, oB o), (3, uB r)]⟩)
      (fun x => x.1 ≤ o.rs.length ∧ x.2 = if hasR (o.rs.take x.1) r = true then 1 else 0) (fun x => o.rs.length - x.1) (0, 0) ⟨by omega, by simp [hasR]⟩ rfl ?_
    rintro R ⟨k, n⟩ ⟨hk, hn⟩ ih
    simp only at hk hn
    simp only [walk, Nat.reduceLT, Nat.reduceBEq, Nat.reduceAdd, Nat.reduceLeDiff, reduceIte, Int.reduceLT, Int.reduceLE, Int.reduceEq, Int.reduceToNat, Int.reduceBEq, uRows_len]
    by_cases c : k < o.rs.length
    · have c1 : (k : Int) < o.rs.length := by omega
      have c0 : (0 : Int) ≤ k := by omega
      have e1 : IntKind.i64.wrap ((k : Int) + 1) = ((k + 1 : Nat) : Int) := wrap64 (by omega) (by omega)
      have htk : hasR (o.rs.take (k + 1)) r = (hasR (o.rs.take k) r || decide (o.rs.getD k z3 = r)) := by
        unfold hasR
        rw [List.take_add_one, List.getElem?_eq_getElem c, List.any_append, getD_at c]
        simp
      simp only [walk, Nat.reduceLT, Nat.reduceBEq, Nat.reduceAdd, Nat.reduceLeDiff, reduceIte, Int.reduceLT, Int.reduceLE, Int.reduceEq, Int.reduceToNat, Int.reduceBEq, c1, uRows_get c, uRows_len]
      refine callWp_of (h3 o (o.rs.getD k z3) hok hr) ?_
      have hh : hasR o.rs (o.rs.getD k z3) = true := hasR_iff.2 ⟨k, c, rfl⟩
      simp only [walk, Nat.reduceLT, Nat.reduceBEq, Nat.reduceAdd, Nat.reduceLeDiff, reduceIte, Int.reduceLT, Int.reduceLE, Int.reduceEq, Int.reduceToNat, Int.reduceBEq, hh, c1, uRows_get c, uRows_len, eq_r]
      by_cases he : o.rs.getD k z3 = r
      · have hno : hasR (o.rs.take k) r = false := by
          rw [← Bool.not_eq_true, hasR_iff]
          rintro ⟨j, hj, e⟩
          rw [List.length_take, Nat.min_eq_left (by omega)] at hj
          have ej : (o.rs.take k).getD j z3 = o.rs.getD j z3 := by
            rw [List.getD_eq_getElem?_getD, List.getD_eq_getElem?_getD, List.getElem?_take_of_lt hj]
          rw [ej, ← he] at e
          have := distinct hsort (by omega) c e
          omega
        rw [hno] at hn
        simp only [Bool.false_eq_true, if_false] at hn
        subst hn
        have w1 : IntKind.i64.wrap ((0 : Int) + 1) = 1 := wrap64 (by omega) (by omega)
        simp only [walk, Nat.reduceLT, Nat.reduceBEq, Nat.reduceAdd, Nat.reduceLeDiff, reduceIte, Int.reduceLT, Int.reduceLE, Int.reduceEq, Int.reduceToNat, Int.reduceBEq, he, w1, e1]
        exact ih (k + 1, 1) ⟨by simp only; omega, by simp only; rw [htk, decide_eq_true he, Bool.or_true]; rfl⟩ (by simp only; omega)
      · simp only [walk, Nat.reduceLT, Nat.reduceBEq, Nat.reduceAdd, Nat.reduceLeDiff, reduceIte, Int.reduceLT, Int.reduceLE, Int.reduceEq, Int.reduceToNat, Int.reduceBEq, he, e1]
        exact ih (k + 1, n) ⟨by simp only; omega, by simp only; rw [htk, hn]; simp only [he, decide_false, Bool.or_false]⟩ (by simp only; omega)
    · have c1 : ¬ (k : Int) < o.rs.length := by omega
      rw [List.take_of_length_le (by omega)] at hn
      have n1 : n ≤ 1 := by rw [hn]; split <;> omega
      have hb : hasR o.rs r = (n == 1) := by
        rw [hn]; cases hasR o.rs r <;> rfl
      simp only [walk, Nat.reduceLT, Nat.reduceBEq, Nat.reduceAdd, Nat.reduceLeDiff, reduceIte, Int.reduceLT, Int.reduceLE, Int.reduceEq, Int.reduceToNat, Int.reduceBEq, c1, n1]
      refine callWp_of (h3 o r hok hr) ?_
      simp only [walk, Nat.reduceLT, Nat.reduceBEq, Nat.reduceAdd, Nat.reduceLeDiff, reduceIte, Int.reduceLT, Int.reduceLE, Int.reduceEq, Int.reduceToNat, Int.reduceBEq, hb, beq_self_eq_true]
      refine callWp_of hA ?_
      simp only [walk, Nat.reduceLT, Nat.reduceBEq, Nat.reduceAdd, Nat.reduceLeDiff, reduceIte, Int.reduceLT, Int.reduceLE, Int.reduceEq, Int.reduceToNat, Int.reduceBEq]
  · have hc' : (oCheck o != 0) = true := by simp [hc]
    simp only [walk, Nat.reduceLT, Nat.reduceBEq, Nat.reduceAdd, Nat.reduceLeDiff, reduceIte, Int.reduceLT, Int.reduceLE, Int.reduceEq, Int.reduceToNat, Int.reduceBEq, hc']
    refine callWp_of hA ?_
    simp only [walk, Nat.reduceLT, Nat.reduceBEq, Nat.reduceAdd, Nat.reduceLeDiff, reduceIte, Int.reduceLT, Int.reduceLE, Int.reduceEq, Int.reduceToNat, Int.reduceBEq]
end
end Go.AR

/-! Operations: what is read, the law. -/
namespace Go.AR
open Go
theorem rdIn_ok {k : Int} {p : List (List UInt8)} {s : List UInt8} {b : Int} (hp : pOk p) (hs : s.length ≤ 20000000) : oOk (rdIn k p s b).1 ∧ (rdIn k p s b).2.1 <:+ s := by
  have hv := rdVal_len s b
  have hvs := rdVal_suf s b
  have hz : z0.2.2.length ≤ 20000000 := by simp [z0]
  unfold rdIn
  by_cases h3 : k = 3
  · rw [if_pos h3]; exact ⟨⟨hp, hz, by simp⟩, rI_suf s b⟩
  rw [if_neg h3]
  by_cases h1 : k = 1 ∨ k = 4
  · rw [if_pos h1]
    have := rdSeen_len (rdVal s b).2.1 (rdVal s b).2.2
    exact ⟨⟨hp, by simp only; omega, by simp only; omega⟩, (rdSeen_suf _ _).trans hvs⟩
  rw [if_neg h1]
  by_cases h2 : k = 2
  · rw [if_pos h2]; exact ⟨⟨hp, by simp only; omega, by simp⟩, hvs⟩
  rw [if_neg h2]
  by_cases h5 : k = 5
  · rw [if_pos h5]
    have := rdSeen_len s b
    exact ⟨⟨hp, hz, by simp only; omega⟩, rdSeen_suf s b⟩
  rw [if_neg h5]; exact ⟨⟨hp, hz, by simp⟩, List.suffix_refl _⟩
theorem rdOp_ok {s : List UInt8} {b : Int} (hs : s.length ≤ 20000000) : oOk (rdOp s b).1 ∧ (rdOp s b).2.1 <:+ s := by
  rw [rdOp_eq]
  have h1 := rI_suf s b
  have l1 := h1.length_le
  by_cases h0 : (rI s b).1 = 0
  · rw [if_pos h0]; exact ⟨oOk_z, h1⟩
  rw [if_neg h0]
  have h2 := rPath_suf (rI s b).2.1 (rI s b).2.2
  have l2 := h2.length_le
  have hp := rPath_ok (s := (rI s b).2.1) (b := (rI s b).2.2) (by omega)
  have hi := rdIn_ok (k := (rI s b).1) (b := (rPath (rI s b).2.1 (rI s b).2.2).2.2) hp (s := (rPath (rI s b).2.1 (rI s b).2.2).2.1) (by omega)
  generalize rdIn (rI s b).1 (rPath (rI s b).2.1 (rI s b).2.2).1 (rPath (rI s b).2.1 (rI s b).2.2).2.1 (rPath (rI s b).2.1 (rI s b).2.2).2.2 = q at *
  refine ⟨?_, hi.2.trans (h2.trans h1)⟩
  unfold rdEnd
  dsimp only
  by_cases hc : (if q.2.2 = 0 then oCheck q.1 else q.2.2) = 0
  · rw [if_pos hc]; exact hi.1
  · rw [if_neg hc]; exact oOk_z
section
variable {C : CallRel} {F : Nat → FuncId}
theorem g_OpReads (hA : S_yes (C (F n_plaw11_awake))) (h1 : S_Open (C (F n_pack_Open))) (h2 : S_oRead (C (F n_op_Read))) (h3 : S_XOp (C (F n_pref11_Read))) (h4 : S_oSame (C (F n_pref11_Same))) (h5 : S_Fault (C (F n_pack_Reader_Fault))) (h6 : S_Left (C (F n_pack_Reader_Left))) (h7 : S_XLeft (C (F n_pref02_Reader_Left))) : S_n1 ((c_plaw11_OpReads F).gives C) := by
  intro s
  refine gives_of rfl ?_
  unfold c_plaw11_OpReads
  simp only [walk, Nat.reduceLT, Nat.reduceBEq, Nat.reduceAdd, Nat.reduceLeDiff, reduceIte, Int.reduceLT, Int.reduceLE, Int.reduceEq, Int.reduceToNat, Int.reduceBEq, gt_iff_lt]
  by_cases hl : 500 < s.length
  · have hl' : (500 : Int) < s.length := by omega
    have c0 : (500 : Int) ≤ s.length := by omega
    simp only [walk, Nat.reduceLT, Nat.reduceBEq, Nat.reduceAdd, Nat.reduceLeDiff, reduceIte, Int.reduceLT, Int.reduceLE, Int.reduceEq, Int.reduceToNat, Int.reduceBEq, hl', c0]
    have hlen : (s.take 500).length ≤ 500 := by rw [List.length_take]; omega
    generalize s.take 500 = u at *
    refine callWp_of (h1 _) ?_
    have hX : X u u 0 = .cells [.val (.str u), .val (.int .i64 0), .val (.int .i64 0)] := by simp [X, xdr]
    have k3 := h3 u u 0 (by omega) (List.suffix_refl _)
    obtain ⟨hok, hsuf⟩ := rdOp_ok (s := u) (b := 0) (by omega)
    rw [hX] at k3
    simp only [walk, Nat.reduceLT, Nat.reduceBEq, Nat.reduceAdd, Nat.reduceLeDiff, reduceIte, Int.reduceLT, Int.reduceLE, Int.reduceEq, Int.reduceToNat, Int.reduceBEq]
    refine callWp_of (h2 u 0 (by omega)) ?_
    simp only [walk, Nat.reduceLT, Nat.reduceBEq, Nat.reduceAdd, Nat.reduceLeDiff, reduceIte, Int.reduceLT, Int.reduceLE, Int.reduceEq, Int.reduceToNat, Int.reduceBEq]
    refine callWp_of k3 ?_
    generalize rdOp u 0 = r at *
    have hl := hsuf.length_le
    simp only [walk, Nat.reduceLT, Nat.reduceBEq, Nat.reduceAdd, Nat.reduceLeDiff, reduceIte, Int.reduceLT, Int.reduceLE, Int.reduceEq, Int.reduceToNat, Int.reduceBEq]
    refine callWp_of (h4 _ _ hok) ?_
    simp only [walk, Nat.reduceLT, Nat.reduceBEq, Nat.reduceAdd, Nat.reduceLeDiff, reduceIte, Int.reduceLT, Int.reduceLE, Int.reduceEq, Int.reduceToNat, Int.reduceBEq]
    refine callWp_of (h5 _ _) ?_
    simp only [walk, Nat.reduceLT, Nat.reduceBEq, Nat.reduceAdd, Nat.reduceLeDiff, reduceIte, Int.reduceLT, Int.reduceLE, Int.reduceEq, Int.reduceToNat, Int.reduceBEq, X, xdr, beq_self_eq_true]
    refine callWp_of (h6 _ _ (by unfold sLen; omega)) ?_
    simp only [walk, Nat.reduceLT, Nat.reduceBEq, Nat.reduceAdd, Nat.reduceLeDiff, reduceIte, Int.reduceLT, Int.reduceLE, Int.reduceEq, Int.reduceToNat, Int.reduceBEq]
    refine callWp_of (h7 u r.2.1 r.2.2 (by unfold sLen; omega) hsuf) ?_
    simp only [walk, Nat.reduceLT, Nat.reduceBEq, Nat.reduceAdd, Nat.reduceLeDiff, reduceIte, Int.reduceLT, Int.reduceLE, Int.reduceEq, Int.reduceToNat, Int.reduceBEq, beq_self_eq_true]
    refine callWp_of hA ?_
    simp only [walk, Nat.reduceLT, Nat.reduceBEq, Nat.reduceAdd, Nat.reduceLeDiff, reduceIte, Int.reduceLT, Int.reduceLE, Int.reduceEq, Int.reduceToNat, Int.reduceBEq]
  · have hl' : ¬ (500 : Int) < s.length := by omega
    have hlen : s.length ≤ 500 := by omega
    simp only [walk, Nat.reduceLT, Nat.reduceBEq, Nat.reduceAdd, Nat.reduceLeDiff, reduceIte, Int.reduceLT, Int.reduceLE, Int.reduceEq, Int.reduceToNat, Int.reduceBEq, hl']
    generalize s = u at *
    refine callWp_of (h1 _) ?_
    have hX : X u u 0 = .cells [.val (.str u), .val (.int .i64 0), .val (.int .i64 0)] := by simp [X, xdr]
    have k3 := h3 u u 0 (by omega) (List.suffix_refl _)
    obtain ⟨hok, hsuf⟩ := rdOp_ok (s := u) (b := 0) (by omega)
    rw [hX] at k3
    simp only [walk, Nat.reduceLT, Nat.reduceBEq, Nat.reduceAdd, Nat.reduceLeDiff, reduceIte, Int.reduceLT, Int.reduceLE, Int.reduceEq, Int.reduceToNat, Int.reduceBEq]
    refine callWp_of (h2 u 0 (by omega)) ?_
    simp only [walk, Nat.reduceLT, Nat.reduceBEq, Nat.reduceAdd, Nat.reduceLeDiff, reduceIte, Int.reduceLT, Int.reduceLE, Int.reduceEq, Int.reduceToNat, Int.reduceBEq]
    refine callWp_of k3 ?_
    generalize rdOp u 0 = r at *
    have hl := hsuf.length_le
    simp only [walk, Nat.reduceLT, Nat.reduceBEq, Nat.reduceAdd, Nat.reduceLeDiff, reduceIte, Int.reduceLT, Int.reduceLE, Int.reduceEq, Int.reduceToNat, Int.reduceBEq]
    refine callWp_of (h4 _ _ hok) ?_
    simp only [walk, Nat.reduceLT, Nat.reduceBEq, Nat.reduceAdd, Nat.reduceLeDiff, reduceIte, Int.reduceLT, Int.reduceLE, Int.reduceEq, Int.reduceToNat, Int.reduceBEq]
    refine callWp_of (h5 _ _) ?_
    simp only [walk, Nat.reduceLT, Nat.reduceBEq, Nat.reduceAdd, Nat.reduceLeDiff, reduceIte, Int.reduceLT, Int.reduceLE, Int.reduceEq, Int.reduceToNat, Int.reduceBEq, X, xdr, beq_self_eq_true]
    refine callWp_of (h6 _ _ (by unfold sLen; omega)) ?_
    simp only [walk, Nat.reduceLT, Nat.reduceBEq, Nat.reduceAdd, Nat.reduceLeDiff, reduceIte, Int.reduceLT, Int.reduceLE, Int.reduceEq, Int.reduceToNat, Int.reduceBEq]
    refine callWp_of (h7 u r.2.1 r.2.2 (by unfold sLen; omega) hsuf) ?_
    simp only [walk, Nat.reduceLT, Nat.reduceBEq, Nat.reduceAdd, Nat.reduceLeDiff, reduceIte, Int.reduceLT, Int.reduceLE, Int.reduceEq, Int.reduceToNat, Int.reduceBEq, beq_self_eq_true]
    refine callWp_of hA ?_
    simp only [walk, Nat.reduceLT, Nat.reduceBEq, Nat.reduceAdd, Nat.reduceLeDiff, reduceIte, Int.reduceLT, Int.reduceLE, Int.reduceEq, Int.reduceToNat, Int.reduceBEq]
end
end Go.AR
