import Derived.Test.YtkankogmljifiaaDoorG33
set_option linter.all false
/-! Operations: the questions, more. -/
namespace Go.AR
open Go
section
variable {C : CallRel} {F : Nat → FuncId}
theorem ieq (a b : Int) : (a == b) = decide (a = b) := rfl
theorem ine (a b : Int) : (a != b) = decide (a ≠ b) := by
  rw [Bool.eq_iff_iff]; simp
theorem g_op_valued (hR : S_vOk (C (F n_value_Right))) : S_oVal ((c_op_valued F).gives C) := by
  intro o ho
  refine gives_of rfl ?_
  unfold c_op_valued
  simp only [walk, Nat.reduceLT, Nat.reduceBEq, Nat.reduceAdd, Nat.reduceLeDiff, reduceIte, Int.reduceLT, Int.reduceLE, Int.reduceEq, Int.reduceToNat, Int.reduceBEq, ieq, ine]
  by_cases h3 : o.k = 3
  · simp only [walk, Nat.reduceLT, Nat.reduceBEq, Nat.reduceAdd, Nat.reduceLeDiff, reduceIte, Int.reduceLT, Int.reduceLE, Int.reduceEq, Int.reduceToNat, Int.reduceBEq, ieq, ine, h3, eq_v0, or_true, true_or]
  · by_cases h5 : o.k = 5
    · simp only [walk, Nat.reduceLT, Nat.reduceBEq, Nat.reduceAdd, Nat.reduceLeDiff, reduceIte, Int.reduceLT, Int.reduceLE, Int.reduceEq, Int.reduceToNat, Int.reduceBEq, ieq, ine, h3, h5, eq_v0, or_true, true_or]
    · simp only [walk, Nat.reduceLT, Nat.reduceBEq, Nat.reduceAdd, Nat.reduceLeDiff, reduceIte, Int.reduceLT, Int.reduceLE, Int.reduceEq, Int.reduceToNat, Int.reduceBEq, ieq, ine, h3, h5, or_self]
      refine callWp_of (hR o.v ho.2.1) ?_
      simp only [walk, Nat.reduceLT, Nat.reduceBEq, Nat.reduceAdd, Nat.reduceLeDiff, reduceIte, Int.reduceLT, Int.reduceLE, Int.reduceEq, Int.reduceToNat, Int.reduceBEq, ieq, ine]
theorem g_op_amount : S_oAm ((c_op_amount F).gives C) := by
  intro o
  refine gives_of rfl ?_
  unfold c_op_amount amOk
  simp only [walk, Nat.reduceLT, Nat.reduceBEq, Nat.reduceAdd, Nat.reduceLeDiff, reduceIte, Int.reduceLT, Int.reduceLE, Int.reduceEq, Int.reduceToNat, Int.reduceBEq, ieq, ine]
  by_cases h3 : o.k = 3
  · simp only [walk, Nat.reduceLT, Nat.reduceBEq, Nat.reduceAdd, Nat.reduceLeDiff, reduceIte, Int.reduceLT, Int.reduceLE, Int.reduceEq, Int.reduceToNat, Int.reduceBEq, ieq, ine, h3]
    by_cases h0 : o.am = 0
    · simp only [walk, Nat.reduceLT, Nat.reduceBEq, Nat.reduceAdd, Nat.reduceLeDiff, reduceIte, Int.reduceLT, Int.reduceLE, Int.reduceEq, Int.reduceToNat, Int.reduceBEq, ieq, ine, h0, ne_eq]
    · by_cases h1 : -2147483647 ≤ o.am
      · simp only [walk, Nat.reduceLT, Nat.reduceBEq, Nat.reduceAdd, Nat.reduceLeDiff, reduceIte, Int.reduceLT, Int.reduceLE, Int.reduceEq, Int.reduceToNat, Int.reduceBEq, ieq, ine, h0, h1, ne_eq, ge_iff_le]
      · simp only [walk, Nat.reduceLT, Nat.reduceBEq, Nat.reduceAdd, Nat.reduceLeDiff, reduceIte, Int.reduceLT, Int.reduceLE, Int.reduceEq, Int.reduceToNat, Int.reduceBEq, ieq, ine, h0, h1, ne_eq, ge_iff_le]
  · simp only [walk, Nat.reduceLT, Nat.reduceBEq, Nat.reduceAdd, Nat.reduceLeDiff, reduceIte, Int.reduceLT, Int.reduceLE, Int.reduceEq, Int.reduceToNat, Int.reduceBEq, ieq, ine, h3]
theorem gone_iff (o : Ov) : oGone o = true ↔ o.k = 0 ∧ o.p.length = 0 ∧ o.v = z0 ∧ o.am = 0 ∧ o.rs.length = 0 := by
  obtain ⟨k, p, v, am, rs⟩ := o
  simp only [oGone, zop, decide_eq_true_eq, Ov.mk.injEq, List.length_eq_zero_iff]
theorem gone_no {o : Ov} (h : ¬ (o.k = 0 ∧ o.p.length = 0 ∧ o.v = z0 ∧ o.am = 0 ∧ o.rs.length = 0)) : oGone o = false := by
  rw [← Bool.not_eq_true, gone_iff]; exact h
theorem g_op_Gone : S_oGone ((c_op_Gone F).gives C) := by
  intro o
  refine gives_of rfl ?_
  unfold c_op_Gone
  simp only [walk, Nat.reduceLT, Nat.reduceBEq, Nat.reduceAdd, Nat.reduceLeDiff, reduceIte, Int.reduceLT, Int.reduceLE, Int.reduceEq, Int.reduceToNat, Int.reduceBEq, ieq, ine]
  by_cases h1 : o.k = 0
  · by_cases h2 : o.p.length = 0
    · have h2' : (o.p.length : Int) = 0 := by omega
      by_cases h3 : o.v = z0
      · by_cases h4 : o.am = 0
        · by_cases h5 : o.rs.length = 0
          · have h5' : (o.rs.length : Int) = 0 := by omega
            simp only [walk, Nat.reduceLT, Nat.reduceBEq, Nat.reduceAdd, Nat.reduceLeDiff, reduceIte, Int.reduceLT, Int.reduceLE, Int.reduceEq, Int.reduceToNat, Int.reduceBEq, ieq, ine, xRows_len, uRows_len, eq_v0, h1, h2', h3, h4, h5', (gone_iff o).2 ⟨h1, h2, h3, h4, h5⟩]
          · have h5' : ¬ (o.rs.length : Int) = 0 := by omega
            simp only [walk, Nat.reduceLT, Nat.reduceBEq, Nat.reduceAdd, Nat.reduceLeDiff, reduceIte, Int.reduceLT, Int.reduceLE, Int.reduceEq, Int.reduceToNat, Int.reduceBEq, ieq, ine, xRows_len, uRows_len, eq_v0, h1, h2', h3, h4, h5', gone_no (o := o) (by simp [h5])]
        · simp only [walk, Nat.reduceLT, Nat.reduceBEq, Nat.reduceAdd, Nat.reduceLeDiff, reduceIte, Int.reduceLT, Int.reduceLE, Int.reduceEq, Int.reduceToNat, Int.reduceBEq, ieq, ine, xRows_len, uRows_len, eq_v0, h1, h2', h3, h4, gone_no (o := o) (by simp [h4])]
      · simp only [walk, Nat.reduceLT, Nat.reduceBEq, Nat.reduceAdd, Nat.reduceLeDiff, reduceIte, Int.reduceLT, Int.reduceLE, Int.reduceEq, Int.reduceToNat, Int.reduceBEq, ieq, ine, xRows_len, uRows_len, eq_v0, h1, h2', h3, gone_no (o := o) (by simp [h3])]
    · have h2' : ¬ (o.p.length : Int) = 0 := by omega
      simp only [walk, Nat.reduceLT, Nat.reduceBEq, Nat.reduceAdd, Nat.reduceLeDiff, reduceIte, Int.reduceLT, Int.reduceLE, Int.reduceEq, Int.reduceToNat, Int.reduceBEq, ieq, ine, xRows_len, uRows_len, eq_v0, h1, h2', gone_no (o := o) (by simp [h2])]
  · simp only [walk, Nat.reduceLT, Nat.reduceBEq, Nat.reduceAdd, Nat.reduceLeDiff, reduceIte, Int.reduceLT, Int.reduceLE, Int.reduceEq, Int.reduceToNat, Int.reduceBEq, ieq, ine, h1, gone_no (o := o) (by simp [h1])]
theorem g_pref11_Gone : S_oGone ((c_pref11_Gone F).gives C) := by
  intro o
  refine gives_of rfl ?_
  unfold c_pref11_Gone
  simp only [walk, Nat.reduceLT, Nat.reduceBEq, Nat.reduceAdd, Nat.reduceLeDiff, reduceIte, Int.reduceLT, Int.reduceLE, Int.reduceEq, Int.reduceToNat, Int.reduceBEq, ieq, ine]
  by_cases h1 : o.k = 0
  · by_cases h2 : o.p.length = 0
    · have h2' : (o.p.length : Int) = 0 := by omega
      by_cases h3 : o.v = z0
      · by_cases h4 : o.am = 0
        · by_cases h5 : o.rs.length = 0
          · have h5' : (o.rs.length : Int) = 0 := by omega
            simp only [walk, Nat.reduceLT, Nat.reduceBEq, Nat.reduceAdd, Nat.reduceLeDiff, reduceIte, Int.reduceLT, Int.reduceLE, Int.reduceEq, Int.reduceToNat, Int.reduceBEq, ieq, ine, xRows_len, uRows_len, eq_v0, h1, h2', h3, h4, h5', (gone_iff o).2 ⟨h1, h2, h3, h4, h5⟩]
          · have h5' : ¬ (o.rs.length : Int) = 0 := by omega
            simp only [walk, Nat.reduceLT, Nat.reduceBEq, Nat.reduceAdd, Nat.reduceLeDiff, reduceIte, Int.reduceLT, Int.reduceLE, Int.reduceEq, Int.reduceToNat, Int.reduceBEq, ieq, ine, xRows_len, uRows_len, eq_v0, h1, h2', h3, h4, h5', gone_no (o := o) (by simp [h5])]
        · simp only [walk, Nat.reduceLT, Nat.reduceBEq, Nat.reduceAdd, Nat.reduceLeDiff, reduceIte, Int.reduceLT, Int.reduceLE, Int.reduceEq, Int.reduceToNat, Int.reduceBEq, ieq, ine, xRows_len, uRows_len, eq_v0, h1, h2', h3, h4, gone_no (o := o) (by simp [h4])]
      · simp only [walk, Nat.reduceLT, Nat.reduceBEq, Nat.reduceAdd, Nat.reduceLeDiff, reduceIte, Int.reduceLT, Int.reduceLE, Int.reduceEq, Int.reduceToNat, Int.reduceBEq, ieq, ine, xRows_len, uRows_len, eq_v0, h1, h2', h3, gone_no (o := o) (by simp [h3])]
    · have h2' : ¬ (o.p.length : Int) = 0 := by omega
      simp only [walk, Nat.reduceLT, Nat.reduceBEq, Nat.reduceAdd, Nat.reduceLeDiff, reduceIte, Int.reduceLT, Int.reduceLE, Int.reduceEq, Int.reduceToNat, Int.reduceBEq, ieq, ine, xRows_len, uRows_len, eq_v0, h1, h2', gone_no (o := o) (by simp [h2])]
  · simp only [walk, Nat.reduceLT, Nat.reduceBEq, Nat.reduceAdd, Nat.reduceLeDiff, reduceIte, Int.reduceLT, Int.reduceLE, Int.reduceEq, Int.reduceToNat, Int.reduceBEq, ieq, ine, h1, gone_no (o := o) (by simp [h1])]
abbrev oB (o : Ov) : Blk := .cells [.val (.int .i64 o.k), .val (ptP o.p), .val (.int .i64 o.v.1), .val (.int .i64 o.v.2.1), .val (.str o.v.2.2), .val (.int .i64 o.am), .val (usP o.rs)]
theorem getD_at {l : List Ud} {k : Nat} (h : k < l.length) : l.getD k z3 = l[k] := by simp [List.getD_eq_getElem?_getD, h]
theorem same_iff (a b : Ov) : a = b ↔ a.k = b.k ∧ a.v = b.v ∧ a.am = b.am ∧ a.p = b.p ∧ a.rs = b.rs := by
  obtain ⟨k, p, v, am, rs⟩ := a
  obtain ⟨k2, p2, v2, am2, rs2⟩ := b
  simp only [Ov.mk.injEq]
  constructor
  · rintro ⟨h1, h2, h3, h4, h5⟩; exact ⟨h1, h3, h4, h2, h5⟩
  · rintro ⟨h1, h3, h4, h2, h5⟩; exact ⟨h1, h2, h3, h4, h5⟩
theorem same_no {a b : Ov} (h : ¬ (a.k = b.k ∧ a.v = b.v ∧ a.am = b.am ∧ a.p = b.p ∧ a.rs = b.rs)) : decide (a = b) = false := decide_eq_false (fun e => h ((same_iff a b).1 e))
theorem same_yes {a b : Ov} (h : (a.k = b.k ∧ a.v = b.v ∧ a.am = b.am ∧ a.p = b.p ∧ a.rs = b.rs)) : decide (a = b) = true := decide_eq_true ((same_iff a b).2 h)
theorem g_op_Same (h1 : S_pSame (C (F n_slices_Equal_string_string))) (h2 : S_rsame (C (F n_slices_Equal_api_Ref_api_Ref))) : S_oSame ((c_op_Same F).gives C) := by
  intro a b ha
  refine gives_of rfl ?_
  unfold c_op_Same
  simp only [walk, Nat.reduceLT, Nat.reduceBEq, Nat.reduceAdd, Nat.reduceLeDiff, reduceIte, Int.reduceLT, Int.reduceLE, Int.reduceEq, Int.reduceToNat, Int.reduceBEq, ieq, ine]
  by_cases d1 : a.k = b.k
  · by_cases d2 : a.v = b.v
    · by_cases d3 : a.am = b.am
      · simp only [walk, Nat.reduceLT, Nat.reduceBEq, Nat.reduceAdd, Nat.reduceLeDiff, reduceIte, Int.reduceLT, Int.reduceLE, Int.reduceEq, Int.reduceToNat, Int.reduceBEq, ieq, d1, d2, d3, eq_v]
        refine callWp_of (h1 a.p b.p ha.1) ?_
        by_cases d4 : a.p = b.p
        · have e4 : (a.p == b.p) = true := by simp [d4]
          simp only [walk, Nat.reduceLT, Nat.reduceBEq, Nat.reduceAdd, Nat.reduceLeDiff, reduceIte, Int.reduceLT, Int.reduceLE, Int.reduceEq, Int.reduceToNat, Int.reduceBEq, e4]
          refine callWp_of (h2 a.rs b.rs ha.2.2) ?_
          by_cases d5 : a.rs = b.rs
          · simp only [walk, Nat.reduceLT, Nat.reduceBEq, Nat.reduceAdd, Nat.reduceLeDiff, reduceIte, Int.reduceLT, Int.reduceLE, Int.reduceEq, Int.reduceToNat, Int.reduceBEq, d5, same_yes ⟨d1, d2, d3, d4, d5⟩]
          · simp only [walk, Nat.reduceLT, Nat.reduceBEq, Nat.reduceAdd, Nat.reduceLeDiff, reduceIte, Int.reduceLT, Int.reduceLE, Int.reduceEq, Int.reduceToNat, Int.reduceBEq, d5, same_no (a := a) (b := b) (by simp [d5])]
        · have e4 : (a.p == b.p) = false := by rw [beq_eq_false_iff_ne]; exact d4
          simp only [walk, Nat.reduceLT, Nat.reduceBEq, Nat.reduceAdd, Nat.reduceLeDiff, reduceIte, Int.reduceLT, Int.reduceLE, Int.reduceEq, Int.reduceToNat, Int.reduceBEq, e4, same_no (a := a) (b := b) (by simp [d4])]
      · simp only [walk, Nat.reduceLT, Nat.reduceBEq, Nat.reduceAdd, Nat.reduceLeDiff, reduceIte, Int.reduceLT, Int.reduceLE, Int.reduceEq, Int.reduceToNat, Int.reduceBEq, ieq, d1, d2, d3, eq_v, same_no (a := a) (b := b) (by simp [d3])]
    · simp only [walk, Nat.reduceLT, Nat.reduceBEq, Nat.reduceAdd, Nat.reduceLeDiff, reduceIte, Int.reduceLT, Int.reduceLE, Int.reduceEq, Int.reduceToNat, Int.reduceBEq, ieq, d1, d2, eq_v, same_no (a := a) (b := b) (by simp [d2])]
  · simp only [walk, Nat.reduceLT, Nat.reduceBEq, Nat.reduceAdd, Nat.reduceLeDiff, reduceIte, Int.reduceLT, Int.reduceLE, Int.reduceEq, Int.reduceToNat, Int.reduceBEq, d1, same_no (a := a) (b := b) (by simp [d1])]
theorem g_pref11_Same (h1 : S_xSame (C (F n_pref03_Same))) : S_oSame ((c_pref11_Same F).gives C) := by
  intro a b ha
  refine gives_of rfl ?_
  unfold c_pref11_Same
  have hl := ha.2.2
  simp only [walk, Nat.reduceLT, Nat.reduceBEq, Nat.reduceAdd, Nat.reduceLeDiff, reduceIte, Int.reduceLT, Int.reduceLE, Int.reduceEq, Int.reduceToNat, Int.reduceBEq, ieq, ine, ne_eq, decide_not]
  by_cases d1 : a.k = b.k
  · by_cases d2 : a.v = b.v
    · by_cases d3 : a.am = b.am
      · simp only [walk, Nat.reduceLT, Nat.reduceBEq, Nat.reduceAdd, Nat.reduceLeDiff, reduceIte, Int.reduceLT, Int.reduceLE, Int.reduceEq, Int.reduceToNat, Int.reduceBEq, ieq, ine, ne_eq, decide_not, d1, d2, d3, eq_v]
        refine callWp_of (h1 a.p b.p (by have := ha.1.1; omega)) ?_
        by_cases d4 : a.p = b.p
        · have e4 : (a.p == b.p) = true := by simp [d4]
          simp only [walk, Nat.reduceLT, Nat.reduceBEq, Nat.reduceAdd, Nat.reduceLeDiff, reduceIte, Int.reduceLT, Int.reduceLE, Int.reduceEq, Int.reduceToNat, Int.reduceBEq, e4]
          by_cases d5 : a.rs.length = b.rs.length
          · have d5' : (a.rs.length : Int) = b.rs.length := by omega
            obtain ⟨ak, ap, av, aam, rs⟩ := a
            simp only at d1 d2 d3 d4 d5 d5' hl
            subst d1 d2 d3 d4
            simp only [walk, Nat.reduceLT, Nat.reduceBEq, Nat.reduceAdd, Nat.reduceLeDiff, reduceIte, Int.reduceLT, Int.reduceLE, Int.reduceEq, Int.reduceToNat, Int.reduceBEq, ieq, ine, ne_eq, decide_not, uRows_len, d5']
            refine awp_loop_ind (X := Nat) (fun k => ⟨[(0, .val (oP ⟨b.k, b.p, b.v, b.am, rs⟩)), (1, .val (oP b)), (2, .lp 2 0), (3, .lp 3 0), (4, .val (.bool false)), (5, .val (.int .i64 k)), (41, .val (.bool false))], [(2, oB ⟨b.k, b.p, b.v, b.am, rs⟩), (3, oB b)]⟩)
              (fun k => k ≤ rs.length ∧ rs.take k = b.rs.take k) (fun k => rs.length - k) 0 ⟨by omega, by simp⟩ rfl ?_
            rintro R k ⟨hk, hJ⟩ ih
            simp only [walk, Nat.reduceLT, Nat.reduceBEq, Nat.reduceAdd, Nat.reduceLeDiff, reduceIte, Int.reduceLT, Int.reduceLE, Int.reduceEq, Int.reduceToNat, Int.reduceBEq, uRows_len]
            by_cases c : k < rs.length
            · have c1 : (k : Int) < b.rs.length := by omega
              have cb : k < b.rs.length := by omega
              have c0 : (0 : Int) ≤ k := by omega
              have e1 : IntKind.i64.wrap ((k : Int) + 1) = ((k + 1 : Nat) : Int) := wrap64 (by omega) (by omega)
              simp only [walk, Nat.reduceLT, Nat.reduceBEq, Nat.reduceAdd, Nat.reduceLeDiff, reduceIte, Int.reduceLT, Int.reduceLE, Int.reduceEq, Int.reduceToNat, Int.reduceBEq, c1, d5', uRows_get c, uRows_get cb, uRows_len, eq_r, getD_at c, getD_at cb]
              by_cases he : rs[k] = b.rs[k]
              · simp only [walk, Nat.reduceLT, Nat.reduceBEq, Nat.reduceAdd, Nat.reduceLeDiff, reduceIte, Int.reduceLT, Int.reduceLE, Int.reduceEq, Int.reduceToNat, Int.reduceBEq, he, e1]
                refine ih (k + 1) ⟨by omega, ?_⟩ (by omega)
                rw [List.take_add_one, List.take_add_one, hJ, List.getElem?_eq_getElem c, List.getElem?_eq_getElem cb, he]
              · have hf : decide ((⟨b.k, b.p, b.v, b.am, rs⟩ : Ov) = b) = false := by
                  apply same_no
                  rintro ⟨_, _, _, _, h⟩
                  simp only at h
                  exact he (by simp only [h])
                simp only [walk, Nat.reduceLT, Nat.reduceBEq, Nat.reduceAdd, Nat.reduceLeDiff, reduceIte, Int.reduceLT, Int.reduceLE, Int.reduceEq, Int.reduceToNat, Int.reduceBEq, he, hf]
            · have c1 : ¬ (k : Int) < b.rs.length := by omega
              rw [List.take_of_length_le (by omega), List.take_of_length_le (by omega)] at hJ
              have hf : decide ((⟨b.k, b.p, b.v, b.am, rs⟩ : Ov) = b) = true := same_yes ⟨rfl, rfl, rfl, rfl, hJ⟩
              simp only [walk, Nat.reduceLT, Nat.reduceBEq, Nat.reduceAdd, Nat.reduceLeDiff, reduceIte, Int.reduceLT, Int.reduceLE, Int.reduceEq, Int.reduceToNat, Int.reduceBEq, c1, d5', hf]
          · have d5' : ¬ (a.rs.length : Int) = b.rs.length := by omega
            simp only [walk, Nat.reduceLT, Nat.reduceBEq, Nat.reduceAdd, Nat.reduceLeDiff, reduceIte, Int.reduceLT, Int.reduceLE, Int.reduceEq, Int.reduceToNat, Int.reduceBEq, ieq, ine, ne_eq, decide_not, uRows_len, d5', same_no (a := a) (b := b) (by rintro ⟨_, _, _, _, h⟩; exact d5 (by rw [h]))]
        · have e4 : (a.p == b.p) = false := by rw [beq_eq_false_iff_ne]; exact d4
          simp only [walk, Nat.reduceLT, Nat.reduceBEq, Nat.reduceAdd, Nat.reduceLeDiff, reduceIte, Int.reduceLT, Int.reduceLE, Int.reduceEq, Int.reduceToNat, Int.reduceBEq, e4, same_no (a := a) (b := b) (by simp [d4])]
      · simp only [walk, Nat.reduceLT, Nat.reduceBEq, Nat.reduceAdd, Nat.reduceLeDiff, reduceIte, Int.reduceLT, Int.reduceLE, Int.reduceEq, Int.reduceToNat, Int.reduceBEq, ieq, ine, ne_eq, decide_not, d1, d2, d3, eq_v, same_no (a := a) (b := b) (by simp [d3])]
    · simp only [walk, Nat.reduceLT, Nat.reduceBEq, Nat.reduceAdd, Nat.reduceLeDiff, reduceIte, Int.reduceLT, Int.reduceLE, Int.reduceEq, Int.reduceToNat, Int.reduceBEq, ieq, ine, ne_eq, decide_not, d1, d2, eq_v, same_no (a := a) (b := b) (by simp [d2])]
  · simp only [walk, Nat.reduceLT, Nat.reduceBEq, Nat.reduceAdd, Nat.reduceLeDiff, reduceIte, Int.reduceLT, Int.reduceLE, Int.reduceEq, Int.reduceToNat, Int.reduceBEq, d1, same_no (a := a) (b := b) (by simp [d1])]
end
end Go.AR

/-! Operations: what is wrong, and the bytes. -/
namespace Go.AR
open Go
section
variable {C : CallRel} {F : Nat → FuncId}
def oVal (o : Ov) : Bool := if o.k = 3 ∨ o.k = 5 then decide (o.v = z0) else vOk o.v
theorem oCheck_eq (o : Ov) : oCheck o = if o.k < 1 ∨ o.k > 5 then 18 else if pCheck o.p ≠ 0 then pCheck o.p
  else if oVal o = false then 2 else if amOk o = false then 2 else if (o.k = 2 ∨ o.k = 3) ∧ o.rs.length > 0 then 2 else if o.rs.length > 256 then 7 else if refsOk o.rs = false then 2 else 0 := by
  unfold oCheck
  by_cases h0 : o.k < 1 ∨ o.k > 5
  · rw [if_pos h0, if_pos h0]
  · rw [if_neg h0, if_neg h0]
    by_cases h1 : pCheck o.p ≠ 0
    · rw [if_pos h1, if_pos h1]
    · rw [if_neg h1, if_neg h1]
      have hv : ((o.k = 3 ∨ o.k = 5) ∧ o.v ≠ z0) ∨ ((o.k ≠ 3 ∧ o.k ≠ 5) ∧ vOk o.v = false) ↔ oVal o = false := by
        unfold oVal
        by_cases h : o.k = 3 ∨ o.k = 5
        · rw [if_pos h]; simp [h]; omega
        · rw [if_neg h]; simp [h]; omega
      have ha : (o.k ≠ 3 ∧ o.am ≠ 0) ∨ (o.k = 3 ∧ (o.am = 0 ∨ o.am > 2147483647 ∨ o.am < -2147483647)) ↔ amOk o = false := by
        unfold amOk
        by_cases h : o.k = 3
        · rw [if_pos h, ← Bool.not_eq_true]; simp [h]; omega
        · rw [if_neg h, ← Bool.not_eq_true]; simp [h]
      have e : ∀ (A B : Prop) [Decidable A] [Decidable B] (x : Int), (if A then 2 else if B then 2 else x) = if A ∨ B then 2 else x := by
        intro A B _ _ x
        by_cases a : A
        · simp [a]
        · by_cases b : B <;> simp [a, b]
      rw [e]
      simp only [hv, ha]
theorem g_op_Check (hP : S_pCheck (C (F n_path_Check))) (hV : S_oVal (C (F n_op_valued))) (hA : S_oAm (C (F n_op_amount))) (hR : S_refs (C (F n_op_Refs))) : S_oCheck ((c_op_Check F).gives C) := by
  intro o ho
  rw [oCheck_eq]
  refine gives_of rfl ?_
  unfold c_op_Check
  have hV := hV o ho
  have hA := hA o
  have hP := hP o.p ho.1
  have hR := hR o.rs ho.2.2
  change C _ _ (.val (.bool (oVal o))) _ at hV
  generalize oVal o = V at *
  generalize amOk o = A at *
  obtain ⟨k, p, v, am, rs⟩ := o
  simp only at hP hR ⊢
  simp only [walk, Nat.reduceLT, Nat.reduceBEq, Nat.reduceAdd, Nat.reduceLeDiff, reduceIte, Int.reduceLT, Int.reduceLE, Int.reduceEq, Int.reduceToNat, Int.reduceBEq, ieq, ine, ne_eq, decide_not]
  by_cases h1 : k < 1
  · simp only [walk, Nat.reduceLT, Nat.reduceBEq, Nat.reduceAdd, Nat.reduceLeDiff, reduceIte, Int.reduceLT, Int.reduceLE, Int.reduceEq, Int.reduceToNat, Int.reduceBEq, h1, true_or]
  by_cases h2 : k > 5
  · simp only [walk, Nat.reduceLT, Nat.reduceBEq, Nat.reduceAdd, Nat.reduceLeDiff, reduceIte, Int.reduceLT, Int.reduceLE, Int.reduceEq, Int.reduceToNat, Int.reduceBEq, h1, h2, or_true]
  simp only [walk, Nat.reduceLT, Nat.reduceBEq, Nat.reduceAdd, Nat.reduceLeDiff, reduceIte, Int.reduceLT, Int.reduceLE, Int.reduceEq, Int.reduceToNat, Int.reduceBEq, h1, h2, or_self]
  refine callWp_of hP ?_
  by_cases hp : pCheck p = 0
  · have hk : k = 1 ∨ k = 2 ∨ k = 3 ∨ k = 4 ∨ k = 5 := by omega
    have e0 : ((rs.length : Int) > 0) = (rs.length > 0) := by apply propext; omega
    have e6 : ((rs.length : Int) > 256) = (rs.length > 256) := by apply propext; omega
    rcases hk with rfl | rfl | rfl | rfl | rfl
    all_goals simp only [walk, Nat.reduceLT, Nat.reduceBEq, Nat.reduceAdd, Nat.reduceLeDiff, reduceIte, Int.reduceLT, Int.reduceLE, Int.reduceEq, Int.reduceToNat, Int.reduceBEq, ieq, ine, ne_eq, decide_not, hp]
    all_goals refine callWp_of hV ?_
    all_goals cases V
    all_goals simp only [walk, Nat.reduceLT, Nat.reduceBEq, Nat.reduceAdd, Nat.reduceLeDiff, reduceIte, Int.reduceLT, Int.reduceLE, Int.reduceEq, Int.reduceToNat, Int.reduceBEq]
    all_goals refine callWp_of hA ?_
    all_goals cases A
    all_goals simp only [walk, Nat.reduceLT, Nat.reduceBEq, Nat.reduceAdd, Nat.reduceLeDiff, reduceIte, Int.reduceLT, Int.reduceLE, Int.reduceEq, Int.reduceToNat, Int.reduceBEq, uRows_len, e0, e6, or_self, or_true, true_or, false_and]
    all_goals try (by_cases d0 : rs.length > 0 <;> simp only [walk, Nat.reduceLT, Nat.reduceBEq, Nat.reduceAdd, Nat.reduceLeDiff, reduceIte, Int.reduceLT, Int.reduceLE, Int.reduceEq, Int.reduceToNat, Int.reduceBEq, d0])
    all_goals try (by_cases d6 : rs.length > 256 <;> simp only [walk, Nat.reduceLT, Nat.reduceBEq, Nat.reduceAdd, Nat.reduceLeDiff, reduceIte, Int.reduceLT, Int.reduceLE, Int.reduceEq, Int.reduceToNat, Int.reduceBEq, uRows_len, e0, e6, d6])
    all_goals try (refine callWp_of hR ?_; cases hr : refsOk rs <;> simp only [walk, Nat.reduceLT, Nat.reduceBEq, Nat.reduceAdd, Nat.reduceLeDiff, reduceIte, Int.reduceLT, Int.reduceLE, Int.reduceEq, Int.reduceToNat, Int.reduceBEq])
  · simp only [walk, Nat.reduceLT, Nat.reduceBEq, Nat.reduceAdd, Nat.reduceLeDiff, reduceIte, Int.reduceLT, Int.reduceLE, Int.reduceEq, Int.reduceToNat, Int.reduceBEq, ieq, ine, ne_eq, decide_not, hp]
set_option maxHeartbeats 1000000 in
theorem g_pref11_Check (hP : S_pCheck (C (F n_pref10_Check))) (hV : S_vOk (C (F n_pref09_Right))) (hR : S_refs (C (F n_pref11_Refs))) : S_oCheck ((c_pref11_Check F).gives C) := by
  intro o ho
  unfold oCheck
  refine gives_of rfl ?_
  unfold c_pref11_Check
  have hV := hV o.v ho.2.1
  have hP := hP o.p ho.1
  have hR := hR o.rs ho.2.2
  obtain ⟨k, p, v, am, rs⟩ := o
  simp only at hP hR hV ⊢
  simp only [walk, Nat.reduceLT, Nat.reduceBEq, Nat.reduceAdd, Nat.reduceLeDiff, reduceIte, Int.reduceLT, Int.reduceLE, Int.reduceEq, Int.reduceToNat, Int.reduceBEq, ieq, ine, ne_eq, decide_not]
  by_cases h1 : k < 1
  · simp only [walk, Nat.reduceLT, Nat.reduceBEq, Nat.reduceAdd, Nat.reduceLeDiff, reduceIte, Int.reduceLT, Int.reduceLE, Int.reduceEq, Int.reduceToNat, Int.reduceBEq, h1, true_or]
  by_cases h2 : k > 5
  · simp only [walk, Nat.reduceLT, Nat.reduceBEq, Nat.reduceAdd, Nat.reduceLeDiff, reduceIte, Int.reduceLT, Int.reduceLE, Int.reduceEq, Int.reduceToNat, Int.reduceBEq, h1, h2, or_true]
  simp only [walk, Nat.reduceLT, Nat.reduceBEq, Nat.reduceAdd, Nat.reduceLeDiff, reduceIte, Int.reduceLT, Int.reduceLE, Int.reduceEq, Int.reduceToNat, Int.reduceBEq, h1, h2, or_self]
  refine callWp_of hP ?_
  by_cases hp : pCheck p = 0
  · have hk : k = 1 ∨ k = 2 ∨ k = 3 ∨ k = 4 ∨ k = 5 := by omega
    have e0 : ((rs.length : Int) > 0) = (rs.length > 0) := by apply propext; omega
    have e6 : ((rs.length : Int) > 256) = (rs.length > 256) := by apply propext; omega
    rcases hk with rfl | rfl | rfl | rfl | rfl
    all_goals simp only [walk, Nat.reduceLT, Nat.reduceBEq, Nat.reduceAdd, Nat.reduceLeDiff, reduceIte, Int.reduceLT, Int.reduceLE, Int.reduceEq, Int.reduceToNat, Int.reduceBEq, ieq, ine, ne_eq, decide_not, hp, eq_v0, or_self, or_true, true_or, false_or, or_false, and_self, false_and, and_false]
    all_goals try (refine callWp_of hV ?_; cases vOk v <;> simp only [walk, Nat.reduceLT, Nat.reduceBEq, Nat.reduceAdd, Nat.reduceLeDiff, reduceIte, Int.reduceLT, Int.reduceLE, Int.reduceEq, Int.reduceToNat, Int.reduceBEq, ieq, ine, ne_eq, decide_not, uRows_len, e0, e6, or_self, or_true, true_or, false_or, or_false, and_self, false_and, and_false])
    all_goals try (by_cases dv : v = z0 <;> simp only [walk, Nat.reduceLT, Nat.reduceBEq, Nat.reduceAdd, Nat.reduceLeDiff, reduceIte, Int.reduceLT, Int.reduceLE, Int.reduceEq, Int.reduceToNat, Int.reduceBEq, ieq, ine, ne_eq, decide_not, uRows_len, e0, e6, or_self, or_true, true_or, false_or, or_false, and_self, false_and, and_false, dv])
    all_goals try (by_cases da : am = 0 <;> simp only [walk, Nat.reduceLT, Nat.reduceBEq, Nat.reduceAdd, Nat.reduceLeDiff, reduceIte, Int.reduceLT, Int.reduceLE, Int.reduceEq, Int.reduceToNat, Int.reduceBEq, ieq, ine, ne_eq, decide_not, uRows_len, e0, e6, or_self, or_true, true_or, false_or, or_false, and_self, false_and, and_false, da])
    all_goals try (by_cases db : am > 2147483647 <;> simp only [walk, Nat.reduceLT, Nat.reduceBEq, Nat.reduceAdd, Nat.reduceLeDiff, reduceIte, Int.reduceLT, Int.reduceLE, Int.reduceEq, Int.reduceToNat, Int.reduceBEq, ieq, ine, ne_eq, decide_not, uRows_len, e0, e6, or_self, or_true, true_or, false_or, or_false, and_self, false_and, and_false, db])
    all_goals try (by_cases dc : am < -2147483647 <;> simp only [walk, Nat.reduceLT, Nat.reduceBEq, Nat.reduceAdd, Nat.reduceLeDiff, reduceIte, Int.reduceLT, Int.reduceLE, Int.reduceEq, Int.reduceToNat, Int.reduceBEq, ieq, ine, ne_eq, decide_not, uRows_len, e0, e6, or_self, or_true, true_or, false_or, or_false, and_self, false_and, and_false, dc])
    all_goals try (by_cases d0 : rs.length > 0 <;> simp only [walk, Nat.reduceLT, Nat.reduceBEq, Nat.reduceAdd, Nat.reduceLeDiff, reduceIte, Int.reduceLT, Int.reduceLE, Int.reduceEq, Int.reduceToNat, Int.reduceBEq, ieq, ine, ne_eq, decide_not, uRows_len, e0, e6, or_self, or_true, true_or, false_or, or_false, and_self, false_and, and_false, d0])
    all_goals try (by_cases d6 : rs.length > 256 <;> simp only [walk, Nat.reduceLT, Nat.reduceBEq, Nat.reduceAdd, Nat.reduceLeDiff, reduceIte, Int.reduceLT, Int.reduceLE, Int.reduceEq, Int.reduceToNat, Int.reduceBEq, ieq, ine, ne_eq, decide_not, uRows_len, e0, e6, or_self, or_true, true_or, false_or, or_false, and_self, false_and, and_false, d6])
    all_goals try (refine callWp_of hR ?_; cases refsOk rs <;> simp only [walk, Nat.reduceLT, Nat.reduceBEq, Nat.reduceAdd, Nat.reduceLeDiff, reduceIte, Int.reduceLT, Int.reduceLE, Int.reduceEq, Int.reduceToNat, Int.reduceBEq, ieq, ine, ne_eq, decide_not, uRows_len, e0, e6, or_self, or_true, true_or, false_or, or_false, and_self, false_and, and_false])
  · simp only [walk, Nat.reduceLT, Nat.reduceBEq, Nat.reduceAdd, Nat.reduceLeDiff, reduceIte, Int.reduceLT, Int.reduceLE, Int.reduceEq, Int.reduceToNat, Int.reduceBEq, ieq, ine, ne_eq, decide_not, hp]
end
end Go.AR
