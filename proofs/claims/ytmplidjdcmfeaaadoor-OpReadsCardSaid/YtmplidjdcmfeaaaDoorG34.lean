import Derived.Test.YtmplidjdcmfeaaaDoorG04
import Derived.Test.YtmplidjdcmfeaaaDoorG09
import Derived.Test.YtmplidjdcmfeaaaDoorG33
import Derived.Test.YtmplidjdcmfeaaaDoorG31
set_option linter.all false
/-! Operations: named operations, and values. -/
namespace Go.AR
open Go
section
variable {C : CallRel} {F : Nat → FuncId}
theorem eq_r (a b : Ud) : eqCells [.i, .i, .i] [.int .i64 a.1.1, .int .i64 a.1.2, .int .i64 a.2] [.int .i64 b.1.1, .int .i64 b.1.2, .int .i64 b.2] = some (decide (a = b)) := by
  obtain ⟨⟨a1, a2⟩, a3⟩ := a; obtain ⟨⟨b1, b2⟩, b3⟩ := b
  simp only [eqCells, eqB, if_true]
  congr 1
  rw [Bool.eq_iff_iff]
  simp [and_assoc]
abbrev vCells (v : Vl) : List PV := [.int .i64 v.1, .int .i64 v.2.1, .str v.2.2]
abbrev vP (v : Vl) : PV := .agg (vCells v)
theorem eq_v (a b : Vl) : eqCells [.i, .i, .s] [.int .i64 a.1, .int .i64 a.2.1, .str a.2.2] [.int .i64 b.1, .int .i64 b.2.1, .str b.2.2] = some (decide (a = b)) := by
  obtain ⟨a1, a2, a3⟩ := a; obtain ⟨b1, b2, b3⟩ := b
  simp only [eqCells, eqB, if_true]
  congr 1
  rw [Bool.eq_iff_iff]
  simp
theorem eq_v0 (a : Vl) : eqCells [.i, .i, .s] [.int .i64 a.1, .int .i64 a.2.1, .str a.2.2] [.int .i64 0, .int .i64 0, .str []] = some (decide (a = z0)) := eq_v a z0
def lowR (l : List Ud) (r : Ud) : Nat := (l.filter fun x => decide (rcmp x r < 0)).length
def S_rcmp (R : Rel) : Prop := ∀ a b : Ud, R [.v (uP a), .v (uP b)] (.val (.int .i64 (rcmp a b))) []
def S_refs (R : Rel) : Prop := ∀ l : List Ud, l.length ≤ 2000000 → R [.v (usP l)] (.val (.bool (refsOk l))) []
def S_rfind (C : CallRel) (R : Rel) : Prop := ∀ (l : List Ud) (r : Ud) (f : FuncId), l.length ≤ 2000000 → sortR l → (∀ a b : Ud, C f [.v (uP a), .v (uP b)] (.val (.int .i64 (rcmp a b))) []) → R [.v (usP l), .v (uP r), .v (.fn f)] (.val (.tup [.int .i64 ((lowR l r : Nat) : Int), .bool (hasR l r)])) []
def S_rsame (R : Rel) : Prop := ∀ a b : List Ud, a.length ≤ 2000000 → R [.v (usP a), .v (usP b)] (.val (.bool (decide (a = b)))) []
def S_vOk (R : Rel) : Prop := ∀ v : Vl, v.2.2.length ≤ 20000000 → R [.v (vP v)] (.val (.bool (vOk v))) []
def S_fold (R : Rel) : Prop := ∀ n : Int, -2147483648 ≤ n → n ≤ 2147483648 → R [.v (.int .i64 n)] (.val (.int .i64 (fold n))) []
def S_unfold (R : Rel) : Prop := ∀ n : Int, 0 ≤ n → n < 72057594037927936 → R [.v (.int .i64 n)] (.val (.int .i64 (unfoldI n))) []
def vFit (v : Vl) : Prop := i64ok v.1 ∧ -2147483648 ≤ v.2.1 ∧ v.2.1 ≤ 2147483648 ∧ v.2.2.length ≤ 20000000
def dFit (d : Dt) : Prop := i64ok d.1 ∧ i64ok d.2
def S_vCode (R : Rel) : Prop := ∀ v : Vl, vFit v → R [.v (vP v)] (.val (.str (vCode v))) []
def S_dCode (R : Rel) : Prop := ∀ d : Dt, dFit d → R [.v (dP d)] (.val (.str (dCode d))) []
def S_dRead (R : Rel) : Prop := ∀ s b, sLen s → R [.r (rdr s b)] (.val (dP (rdDot s b).1)) [rdr (rdDot s b).2.1 (rdDot s b).2.2]
def S_XDot (R : Rel) : Prop := ∀ S s b, sLen S → s <:+ S → R [.r (X S s b)] (.val (dP (rdDot s b).1)) [X S (rdDot s b).2.1 (rdDot s b).2.2]
def S_vRead (R : Rel) : Prop := ∀ s b, s.length ≤ 20000000 → R [.r (rdr s b)] (.val (vP (rdVal s b).1)) [rdr (rdVal s b).2.1 (rdVal s b).2.2]
def S_XVal (R : Rel) : Prop := ∀ S s b, S.length ≤ 20000000 → s <:+ S → R [.r (X S s b)] (.val (vP (rdVal s b).1)) [X S (rdVal s b).2.1 (rdVal s b).2.2]
theorem g_dot_Refs (h : S_dcmp (C (F n_dot_Compare))) (h2 : S_icmp (C (F n_cmp_Compare_int))) (ho : S_or2 (C (F n_cmp_Or_int))) : S_rcmp ((c_dot_Refs F).gives C) := by
  intro a b
  refine gives_of rfl ?_
  unfold c_dot_Refs
  simp only [walk, Nat.reduceLT, Nat.reduceBEq, Nat.reduceAdd, Nat.reduceLeDiff, reduceIte, Int.reduceLT, Int.reduceLE, Int.reduceEq, Int.reduceToNat, Int.reduceBEq]
  refine callWp_of (h a.1 b.1) ?_
  simp only [walk, Nat.reduceLT, Nat.reduceBEq, Nat.reduceAdd, Nat.reduceLeDiff, reduceIte, Int.reduceLT, Int.reduceLE, Int.reduceEq, Int.reduceToNat, Int.reduceBEq]
  refine callWp_of (h2 _ _) ?_
  simp only [walk, Nat.reduceLT, Nat.reduceBEq, Nat.reduceAdd, Nat.reduceLeDiff, reduceIte, Int.reduceLT, Int.reduceLE, Int.reduceEq, Int.reduceToNat, Int.reduceBEq]
  refine callWp_of (ho _ _) ?_
  simp only [walk, Nat.reduceLT, Nat.reduceBEq, Nat.reduceAdd, Nat.reduceLeDiff, reduceIte, Int.reduceLT, Int.reduceLE, Int.reduceEq, Int.reduceToNat, Int.reduceBEq, rcmp]
theorem g_pref04_Refs (h : S_dcmp (C (F n_pref04_Compare))) (h2 : S_icmp (C (F n_pref04_ints))) : S_rcmp ((c_pref04_Refs F).gives C) := by
  intro a b
  refine gives_of rfl ?_
  unfold c_pref04_Refs rcmp
  simp only [walk, Nat.reduceLT, Nat.reduceBEq, Nat.reduceAdd, Nat.reduceLeDiff, reduceIte, Int.reduceLT, Int.reduceLE, Int.reduceEq, Int.reduceToNat, Int.reduceBEq]
  refine callWp_of (h a.1 b.1) ?_
  by_cases h1 : dcmp a.1 b.1 = 0
  · have e : (dcmp a.1 b.1 != 0) = false := by simp [h1]
    simp only [walk, Nat.reduceLT, Nat.reduceBEq, Nat.reduceAdd, Nat.reduceLeDiff, reduceIte, Int.reduceLT, Int.reduceLE, Int.reduceEq, Int.reduceToNat, Int.reduceBEq, e]
    refine callWp_of (h2 _ _) ?_
    simp only [walk, Nat.reduceLT, Nat.reduceBEq, Nat.reduceAdd, Nat.reduceLeDiff, reduceIte, Int.reduceLT, Int.reduceLE, Int.reduceEq, Int.reduceToNat, Int.reduceBEq, h1, ne_eq]
  · have e : (dcmp a.1 b.1 != 0) = true := by simp [h1]
    simp only [walk, Nat.reduceLT, Nat.reduceBEq, Nat.reduceAdd, Nat.reduceLeDiff, reduceIte, Int.reduceLT, Int.reduceLE, Int.reduceEq, Int.reduceToNat, Int.reduceBEq, e]
    refine callWp_of (h a.1 b.1) ?_
    simp only [walk, Nat.reduceLT, Nat.reduceBEq, Nat.reduceAdd, Nat.reduceLeDiff, reduceIte, Int.reduceLT, Int.reduceLE, Int.reduceEq, Int.reduceToNat, Int.reduceBEq, h1, ne_eq]
theorem g_value_Right (hR : S_runes .i32 (C (F n_name_Runes))) : S_vOk ((c_value_Right F).gives C) := by
  intro v hv
  obtain ⟨k, n, s⟩ := v
  simp only at hv
  refine gives_of rfl ?_
  unfold c_value_Right vOk
  simp only [walk, Nat.reduceLT, Nat.reduceBEq, Nat.reduceAdd, Nat.reduceLeDiff, reduceIte, Int.reduceLT, Int.reduceLE, Int.reduceEq, Int.reduceToNat, Int.reduceBEq]
  by_cases h1 : k = 1
  · have e1 : (k == 1) = true := by simp [h1]
    simp only [walk, Nat.reduceLT, Nat.reduceBEq, Nat.reduceAdd, Nat.reduceLeDiff, reduceIte, Int.reduceLT, Int.reduceLE, Int.reduceEq, Int.reduceToNat, Int.reduceBEq, e1]
    by_cases h2 : s = []
    · have e2 : (s == []) = true := by simp [h2]
      simp only [walk, Nat.reduceLT, Nat.reduceBEq, Nat.reduceAdd, Nat.reduceLeDiff, reduceIte, Int.reduceLT, Int.reduceLE, Int.reduceEq, Int.reduceToNat, Int.reduceBEq, e2, h1, h2, beq_self_eq_true]
      by_cases h3 : -2147483647 ≤ n <;> simp only [walk, Nat.reduceLT, Nat.reduceBEq, Nat.reduceAdd, Nat.reduceLeDiff, reduceIte, Int.reduceLT, Int.reduceLE, Int.reduceEq, Int.reduceToNat, Int.reduceBEq, h3, ge_iff_le]
    · have e2 : (s == []) = false := by rw [beq_eq_false_iff_ne]; exact h2
      simp only [walk, Nat.reduceLT, Nat.reduceBEq, Nat.reduceAdd, Nat.reduceLeDiff, reduceIte, Int.reduceLT, Int.reduceLE, Int.reduceEq, Int.reduceToNat, Int.reduceBEq, e2, h1, h2]
  · have e1 : (k == 1) = false := by rw [beq_eq_false_iff_ne]; exact h1
    simp only [walk, Nat.reduceLT, Nat.reduceBEq, Nat.reduceAdd, Nat.reduceLeDiff, reduceIte, Int.reduceLT, Int.reduceLE, Int.reduceEq, Int.reduceToNat, Int.reduceBEq, e1]
    by_cases h2 : k = 2
    · have e2 : (k == 2) = true := by simp [h2]
      simp only [walk, Nat.reduceLT, Nat.reduceBEq, Nat.reduceAdd, Nat.reduceLeDiff, reduceIte, Int.reduceLT, Int.reduceLE, Int.reduceEq, Int.reduceToNat, Int.reduceBEq, e2]
      refine callWp_of (hR s hv) ?_
      cases hr : runes s [] with
      | none => simp only [walk, Nat.reduceLT, Nat.reduceBEq, Nat.reduceAdd, Nat.reduceLeDiff, reduceIte, Int.reduceLT, Int.reduceLE, Int.reduceEq, Int.reduceToNat, Int.reduceBEq, runesP, h1, h2, Option.isSome_none]
      | some l =>
        simp only [walk, Nat.reduceLT, Nat.reduceBEq, Nat.reduceAdd, Nat.reduceLeDiff, reduceIte, Int.reduceLT, Int.reduceLE, Int.reduceEq, Int.reduceToNat, Int.reduceBEq, runesP]
        by_cases h3 : n = 0
        · have e3 : (n == 0) = true := by simp [h3]
          have e4 : ((s.length : Int) ≤ 64) = (s.length ≤ 64) := by apply propext; omega
          simp only [walk, Nat.reduceLT, Nat.reduceBEq, Nat.reduceAdd, Nat.reduceLeDiff, reduceIte, Int.reduceLT, Int.reduceLE, Int.reduceEq, Int.reduceToNat, Int.reduceBEq, e3, h1, h2, h3, Option.isSome_some, e4]
        · have e3 : (n == 0) = false := by rw [beq_eq_false_iff_ne]; exact h3
          simp only [walk, Nat.reduceLT, Nat.reduceBEq, Nat.reduceAdd, Nat.reduceLeDiff, reduceIte, Int.reduceLT, Int.reduceLE, Int.reduceEq, Int.reduceToNat, Int.reduceBEq, e3, h1, h2, h3, Option.isSome_some]
    · have e2 : (k == 2) = false := by rw [beq_eq_false_iff_ne]; exact h2
      simp only [walk, Nat.reduceLT, Nat.reduceBEq, Nat.reduceAdd, Nat.reduceLeDiff, reduceIte, Int.reduceLT, Int.reduceLE, Int.reduceEq, Int.reduceToNat, Int.reduceBEq, e2]
      by_cases h3 : k = 3
      · have e3 : (k == 3) = true := by simp [h3]
        simp only [walk, Nat.reduceLT, Nat.reduceBEq, Nat.reduceAdd, Nat.reduceLeDiff, reduceIte, Int.reduceLT, Int.reduceLE, Int.reduceEq, Int.reduceToNat, Int.reduceBEq, e3, h1, h2, h3]
        by_cases h4 : s = []
        · have e4 : (s == []) = true := by simp [h4]
          simp only [walk, Nat.reduceLT, Nat.reduceBEq, Nat.reduceAdd, Nat.reduceLeDiff, reduceIte, Int.reduceLT, Int.reduceLE, Int.reduceEq, Int.reduceToNat, Int.reduceBEq, h4, beq_self_eq_true]
          by_cases h5 : n = 0
          · have e5 : (n == 0) = true := by simp [h5]
            simp only [walk, Nat.reduceLT, Nat.reduceBEq, Nat.reduceAdd, Nat.reduceLeDiff, reduceIte, Int.reduceLT, Int.reduceLE, Int.reduceEq, Int.reduceToNat, Int.reduceBEq, e5, h5]
          · have e5 : (n == 0) = false := by rw [beq_eq_false_iff_ne]; exact h5
            simp only [walk, Nat.reduceLT, Nat.reduceBEq, Nat.reduceAdd, Nat.reduceLeDiff, reduceIte, Int.reduceLT, Int.reduceLE, Int.reduceEq, Int.reduceToNat, Int.reduceBEq, e5]
            have e6 : (n == 1) = (decide (0 ≤ n) && decide (n ≤ 1)) := by
              rw [Bool.eq_iff_iff]; simp; omega
            simp only [walk, Nat.reduceLT, Nat.reduceBEq, Nat.reduceAdd, Nat.reduceLeDiff, reduceIte, Int.reduceLT, Int.reduceLE, Int.reduceEq, Int.reduceToNat, Int.reduceBEq, e6]
        · have e4 : (s == []) = false := by rw [beq_eq_false_iff_ne]; exact h4
          simp only [walk, Nat.reduceLT, Nat.reduceBEq, Nat.reduceAdd, Nat.reduceLeDiff, reduceIte, Int.reduceLT, Int.reduceLE, Int.reduceEq, Int.reduceToNat, Int.reduceBEq, e4, h4]
      · have e3 : (k == 3) = false := by rw [beq_eq_false_iff_ne]; exact h3
        simp only [walk, Nat.reduceLT, Nat.reduceBEq, Nat.reduceAdd, Nat.reduceLeDiff, reduceIte, Int.reduceLT, Int.reduceLE, Int.reduceEq, Int.reduceToNat, Int.reduceBEq, e3, h1, h2, h3]
theorem g_pref09_Right (hR : S_runes .i64 (C (F n_pref03_Runes))) : S_vOk ((c_pref09_Right F).gives C) := by
  intro v hv
  obtain ⟨k, n, s⟩ := v
  simp only at hv
  refine gives_of rfl ?_
  unfold c_pref09_Right vOk
  simp only [walk, Nat.reduceLT, Nat.reduceBEq, Nat.reduceAdd, Nat.reduceLeDiff, reduceIte, Int.reduceLT, Int.reduceLE, Int.reduceEq, Int.reduceToNat, Int.reduceBEq]
  by_cases h1 : k = 1
  · have e1 : (k == 1) = true := by simp [h1]
    simp only [walk, Nat.reduceLT, Nat.reduceBEq, Nat.reduceAdd, Nat.reduceLeDiff, reduceIte, Int.reduceLT, Int.reduceLE, Int.reduceEq, Int.reduceToNat, Int.reduceBEq, e1]
    by_cases h2 : s = []
    · have e2 : (s == []) = true := by simp [h2]
      simp only [walk, Nat.reduceLT, Nat.reduceBEq, Nat.reduceAdd, Nat.reduceLeDiff, reduceIte, Int.reduceLT, Int.reduceLE, Int.reduceEq, Int.reduceToNat, Int.reduceBEq, e2, h1, h2, beq_self_eq_true]
      by_cases h3 : -2147483647 ≤ n <;> simp only [walk, Nat.reduceLT, Nat.reduceBEq, Nat.reduceAdd, Nat.reduceLeDiff, reduceIte, Int.reduceLT, Int.reduceLE, Int.reduceEq, Int.reduceToNat, Int.reduceBEq, h3, ge_iff_le]
    · have e2 : (s == []) = false := by rw [beq_eq_false_iff_ne]; exact h2
      simp only [walk, Nat.reduceLT, Nat.reduceBEq, Nat.reduceAdd, Nat.reduceLeDiff, reduceIte, Int.reduceLT, Int.reduceLE, Int.reduceEq, Int.reduceToNat, Int.reduceBEq, e2, h1, h2]
  · have e1 : (k == 1) = false := by rw [beq_eq_false_iff_ne]; exact h1
    simp only [walk, Nat.reduceLT, Nat.reduceBEq, Nat.reduceAdd, Nat.reduceLeDiff, reduceIte, Int.reduceLT, Int.reduceLE, Int.reduceEq, Int.reduceToNat, Int.reduceBEq, e1]
    by_cases h2 : k = 2
    · have e2 : (k == 2) = true := by simp [h2]
      simp only [walk, Nat.reduceLT, Nat.reduceBEq, Nat.reduceAdd, Nat.reduceLeDiff, reduceIte, Int.reduceLT, Int.reduceLE, Int.reduceEq, Int.reduceToNat, Int.reduceBEq, e2]
      refine callWp_of (hR s hv) ?_
      by_cases h3 : n = 0
      · have e3 : (n == 0) = true := by simp [h3]
        cases hr : runes s [] with
        | none => simp only [walk, Nat.reduceLT, Nat.reduceBEq, Nat.reduceAdd, Nat.reduceLeDiff, reduceIte, Int.reduceLT, Int.reduceLE, Int.reduceEq, Int.reduceToNat, Int.reduceBEq, runesP, h1, h2, h3, e3, Option.isSome_none]
        | some l =>
          have e4 : ((s.length : Int) ≤ 64) = (s.length ≤ 64) := by apply propext; omega
          simp only [walk, Nat.reduceLT, Nat.reduceBEq, Nat.reduceAdd, Nat.reduceLeDiff, reduceIte, Int.reduceLT, Int.reduceLE, Int.reduceEq, Int.reduceToNat, Int.reduceBEq, runesP, e3, h1, h2, h3, Option.isSome_some, e4]
      · have e3 : (n == 0) = false := by rw [beq_eq_false_iff_ne]; exact h3
        cases hr : runes s [] <;> simp only [walk, Nat.reduceLT, Nat.reduceBEq, Nat.reduceAdd, Nat.reduceLeDiff, reduceIte, Int.reduceLT, Int.reduceLE, Int.reduceEq, Int.reduceToNat, Int.reduceBEq, runesP, e3, h1, h2, h3]
    · have e2 : (k == 2) = false := by rw [beq_eq_false_iff_ne]; exact h2
      simp only [walk, Nat.reduceLT, Nat.reduceBEq, Nat.reduceAdd, Nat.reduceLeDiff, reduceIte, Int.reduceLT, Int.reduceLE, Int.reduceEq, Int.reduceToNat, Int.reduceBEq, e2]
      by_cases h3 : k = 3
      · have e3 : (k == 3) = true := by simp [h3]
        simp only [walk, Nat.reduceLT, Nat.reduceBEq, Nat.reduceAdd, Nat.reduceLeDiff, reduceIte, Int.reduceLT, Int.reduceLE, Int.reduceEq, Int.reduceToNat, Int.reduceBEq, e3, h1, h2, h3]
        by_cases h4 : s = []
        · have e4 : (s == []) = true := by simp [h4]
          simp only [walk, Nat.reduceLT, Nat.reduceBEq, Nat.reduceAdd, Nat.reduceLeDiff, reduceIte, Int.reduceLT, Int.reduceLE, Int.reduceEq, Int.reduceToNat, Int.reduceBEq, h4, beq_self_eq_true]
          by_cases h5 : 0 ≤ n
          · simp only [walk, Nat.reduceLT, Nat.reduceBEq, Nat.reduceAdd, Nat.reduceLeDiff, reduceIte, Int.reduceLT, Int.reduceLE, Int.reduceEq, Int.reduceToNat, Int.reduceBEq, h5, ge_iff_le]
          · simp only [walk, Nat.reduceLT, Nat.reduceBEq, Nat.reduceAdd, Nat.reduceLeDiff, reduceIte, Int.reduceLT, Int.reduceLE, Int.reduceEq, Int.reduceToNat, Int.reduceBEq, h5, ge_iff_le]
        · have e4 : (s == []) = false := by rw [beq_eq_false_iff_ne]; exact h4
          simp only [walk, Nat.reduceLT, Nat.reduceBEq, Nat.reduceAdd, Nat.reduceLeDiff, reduceIte, Int.reduceLT, Int.reduceLE, Int.reduceEq, Int.reduceToNat, Int.reduceBEq, e4, h4]
      · have e3 : (k == 3) = false := by rw [beq_eq_false_iff_ne]; exact h3
        simp only [walk, Nat.reduceLT, Nat.reduceBEq, Nat.reduceAdd, Nat.reduceLeDiff, reduceIte, Int.reduceLT, Int.reduceLE, Int.reduceEq, Int.reduceToNat, Int.reduceBEq, e3, h1, h2, h3]
theorem g_value_Fold : S_fold ((c_value_Fold F).gives C) := by
  intro n h1 h2
  refine gives_of rfl ?_
  unfold c_value_Fold fold
  by_cases h : n < 0
  · have w1 : IntKind.i64.wrap (-2 * n) = -2 * n := wrap64 (by omega) (by omega)
    have w2 : IntKind.i64.wrap (-2 * n - 1) = -2 * n - 1 := wrap64 (by omega) (by omega)
    simp only [walk, Nat.reduceLT, Nat.reduceBEq, Nat.reduceAdd, Nat.reduceLeDiff, reduceIte, Int.reduceLT, Int.reduceLE, Int.reduceEq, Int.reduceToNat, Int.reduceBEq, h, w1, w2]
  · have w1 : IntKind.i64.wrap (2 * n) = 2 * n := wrap64 (by omega) (by omega)
    simp only [walk, Nat.reduceLT, Nat.reduceBEq, Nat.reduceAdd, Nat.reduceLeDiff, reduceIte, Int.reduceLT, Int.reduceLE, Int.reduceEq, Int.reduceToNat, Int.reduceBEq, h, w1]
theorem g_pref09_Fold : S_fold ((c_pref09_Fold F).gives C) := by
  intro n h1 h2
  refine gives_of rfl ?_
  unfold c_pref09_Fold fold
  by_cases h : n < 0
  · have w1 : IntKind.i64.wrap (0 - n) = 0 - n := wrap64 (by omega) (by omega)
    have w2 : IntKind.i64.wrap (0 - n - n) = 0 - n - n := wrap64 (by omega) (by omega)
    have w3 : IntKind.i64.wrap (0 - n - n - 1) = -2 * n - 1 := by rw [wrap64 (by omega) (by omega)]; omega
    simp only [walk, Nat.reduceLT, Nat.reduceBEq, Nat.reduceAdd, Nat.reduceLeDiff, reduceIte, Int.reduceLT, Int.reduceLE, Int.reduceEq, Int.reduceToNat, Int.reduceBEq, h, w1, w2, w3]
  · have w1 : IntKind.i64.wrap (n + n) = 2 * n := by rw [wrap64 (by omega) (by omega)]; omega
    simp only [walk, Nat.reduceLT, Nat.reduceBEq, Nat.reduceAdd, Nat.reduceLeDiff, reduceIte, Int.reduceLT, Int.reduceLE, Int.reduceEq, Int.reduceToNat, Int.reduceBEq, h, w1]
theorem g_value_Unfold : S_unfold ((c_value_Unfold F).gives C) := by
  intro n h1 h2
  refine gives_of rfl ?_
  unfold c_value_Unfold unfoldI
  have e1 : n.tmod 2 = n % 2 := Int.tmod_eq_emod_of_nonneg h1
  have q0 : n.tdiv 2 = n / 2 := Int.tdiv_eq_ediv_of_nonneg h1
  have w1 : IntKind.i64.wrap (n + 1) = n + 1 := wrap64 (by omega) (by omega)
  have w2 : IntKind.i64.wrap (0 - (n + 1)) = 0 - (n + 1) := wrap64 (by omega) (by omega)
  have q1 : (0 - (n + 1)).tdiv 2 = -((n + 1) / 2) := by
    rw [Int.zero_sub, Int.neg_tdiv, Int.tdiv_eq_ediv_of_nonneg (by omega)]
  have w3 : IntKind.i64.wrap (-((n + 1) / 2)) = -((n + 1) / 2) := wrap64 (by omega) (by omega)
  have w4 : IntKind.i64.wrap (n / 2) = n / 2 := wrap64 (by omega) (by omega)
  simp only [walk, Nat.reduceLT, Nat.reduceBEq, Nat.reduceAdd, Nat.reduceLeDiff, reduceIte, Int.reduceLT, Int.reduceLE, Int.reduceEq, Int.reduceToNat, Int.reduceBEq, e1]
  by_cases h : n % 2 = 1
  · simp only [walk, Nat.reduceLT, Nat.reduceBEq, Nat.reduceAdd, Nat.reduceLeDiff, reduceIte, Int.reduceLT, Int.reduceLE, Int.reduceEq, Int.reduceToNat, Int.reduceBEq, h, w1, w2, q1, w3]
  · have h' : (n % 2 == 1) = false := by rw [beq_eq_false_iff_ne]; exact h
    simp only [walk, Nat.reduceLT, Nat.reduceBEq, Nat.reduceAdd, Nat.reduceLeDiff, reduceIte, Int.reduceLT, Int.reduceLE, Int.reduceEq, Int.reduceToNat, Int.reduceBEq, h', h, q0, w4]
theorem g_pref09_Unfold : S_unfold ((c_pref09_Unfold F).gives C) := by
  intro n h1 h2
  refine gives_of rfl ?_
  unfold c_pref09_Unfold unfoldI
  have e1 : n.tmod 2 = n % 2 := Int.tmod_eq_emod_of_nonneg h1
  have q0 : n.tdiv 2 = n / 2 := Int.tdiv_eq_ediv_of_nonneg h1
  have w4 : IntKind.i64.wrap (n / 2) = n / 2 := wrap64 (by omega) (by omega)
  simp only [walk, Nat.reduceLT, Nat.reduceBEq, Nat.reduceAdd, Nat.reduceLeDiff, reduceIte, Int.reduceLT, Int.reduceLE, Int.reduceEq, Int.reduceToNat, Int.reduceBEq, e1]
  by_cases h : n % 2 = 1
  · have h' : (n % 2 == 0) = false := by rw [beq_eq_false_iff_ne]; omega
    have w2 : IntKind.i64.wrap (0 - n / 2) = 0 - n / 2 := wrap64 (by omega) (by omega)
    have w3 : IntKind.i64.wrap (0 - n / 2 - 1) = -((n + 1) / 2) := by rw [wrap64 (by omega) (by omega)]; omega
    simp only [walk, Nat.reduceLT, Nat.reduceBEq, Nat.reduceAdd, Nat.reduceLeDiff, reduceIte, Int.reduceLT, Int.reduceLE, Int.reduceEq, Int.reduceToNat, Int.reduceBEq, h', h, q0, w4, w2, w3]
  · have h' : (n % 2 == 0) = true := by rw [beq_iff_eq]; omega
    simp only [walk, Nat.reduceLT, Nat.reduceBEq, Nat.reduceAdd, Nat.reduceLeDiff, reduceIte, Int.reduceLT, Int.reduceLE, Int.reduceEq, Int.reduceToNat, Int.reduceBEq, h', h, q0, w4]
theorem fold_ok {n : Int} (h1 : -2147483648 ≤ n) (h2 : n ≤ 2147483648) : i64ok (fold n) := by
  unfold fold i64ok; split <;> omega
theorem g_value_Code (hI : S_i2s (C (F n_pack_Int))) (hT : S_ptext (C (F n_pack_Text))) (hF : S_fold (C (F n_value_Fold))) : S_vCode ((c_value_Code F).gives C) := by
  intro v hv
  obtain ⟨k, n, s⟩ := v
  obtain ⟨h1, h2, h3, h4⟩ := hv
  simp only at h1 h2 h3 h4
  refine gives_of rfl ?_
  unfold c_value_Code vCode
  have l1 := pInt_len h1
  simp only [walk, Nat.reduceLT, Nat.reduceBEq, Nat.reduceAdd, Nat.reduceLeDiff, reduceIte, Int.reduceLT, Int.reduceLE, Int.reduceEq, Int.reduceToNat, Int.reduceBEq]
  by_cases h : k = 2
  · subst h
    have l2 := pText_len s h4
    simp only [walk, Nat.reduceLT, Nat.reduceBEq, Nat.reduceAdd, Nat.reduceLeDiff, reduceIte, Int.reduceLT, Int.reduceLE, Int.reduceEq, Int.reduceToNat, Int.reduceBEq]
    refine callWp_of (hI _ h1) ?_
    simp only [walk, Nat.reduceLT, Nat.reduceBEq, Nat.reduceAdd, Nat.reduceLeDiff, reduceIte, Int.reduceLT, Int.reduceLE, Int.reduceEq, Int.reduceToNat, Int.reduceBEq]
    refine callWp_of (hT _ (by omega)) ?_
    simp only [walk, Nat.reduceLT, Nat.reduceBEq, Nat.reduceAdd, Nat.reduceLeDiff, reduceIte, Int.reduceLT, Int.reduceLE, Int.reduceEq, Int.reduceToNat, Int.reduceBEq]
    rw [bins_add (by omega)]
    simp only [walk, Nat.reduceLT, Nat.reduceBEq, Nat.reduceAdd, Nat.reduceLeDiff, reduceIte, Int.reduceLT, Int.reduceLE, Int.reduceEq, Int.reduceToNat, Int.reduceBEq]
  · have e : (k == 2) = false := by rw [beq_eq_false_iff_ne]; exact h
    have l2 := pInt_len (fold_ok h2 h3)
    simp only [walk, Nat.reduceLT, Nat.reduceBEq, Nat.reduceAdd, Nat.reduceLeDiff, reduceIte, Int.reduceLT, Int.reduceLE, Int.reduceEq, Int.reduceToNat, Int.reduceBEq, e, h]
    refine callWp_of (hI _ h1) ?_
    simp only [walk, Nat.reduceLT, Nat.reduceBEq, Nat.reduceAdd, Nat.reduceLeDiff, reduceIte, Int.reduceLT, Int.reduceLE, Int.reduceEq, Int.reduceToNat, Int.reduceBEq]
    refine callWp_of (hF _ h2 h3) ?_
    simp only [walk, Nat.reduceLT, Nat.reduceBEq, Nat.reduceAdd, Nat.reduceLeDiff, reduceIte, Int.reduceLT, Int.reduceLE, Int.reduceEq, Int.reduceToNat, Int.reduceBEq]
    refine callWp_of (hI _ (fold_ok h2 h3)) ?_
    simp only [walk, Nat.reduceLT, Nat.reduceBEq, Nat.reduceAdd, Nat.reduceLeDiff, reduceIte, Int.reduceLT, Int.reduceLE, Int.reduceEq, Int.reduceToNat, Int.reduceBEq]
    rw [bins_add (by omega)]
    simp only [walk, Nat.reduceLT, Nat.reduceBEq, Nat.reduceAdd, Nat.reduceLeDiff, reduceIte, Int.reduceLT, Int.reduceLE, Int.reduceEq, Int.reduceToNat, Int.reduceBEq]
theorem g_pref09_Code (hI : S_i2s (C (F n_pref02_Int))) (hT : S_ptext (C (F n_pref02_Text))) (hF : S_fold (C (F n_pref09_Fold))) : S_vCode ((c_pref09_Code F).gives C) := by
  intro v hv
  obtain ⟨k, n, s⟩ := v
  obtain ⟨h1, h2, h3, h4⟩ := hv
  simp only at h1 h2 h3 h4
  refine gives_of rfl ?_
  unfold c_pref09_Code vCode
  have l1 := pInt_len h1
  simp only [walk, Nat.reduceLT, Nat.reduceBEq, Nat.reduceAdd, Nat.reduceLeDiff, reduceIte, Int.reduceLT, Int.reduceLE, Int.reduceEq, Int.reduceToNat, Int.reduceBEq]
  by_cases h : k = 2
  · subst h
    have l2 := pText_len s h4
    simp only [walk, Nat.reduceLT, Nat.reduceBEq, Nat.reduceAdd, Nat.reduceLeDiff, reduceIte, Int.reduceLT, Int.reduceLE, Int.reduceEq, Int.reduceToNat, Int.reduceBEq]
    refine callWp_of (hI _ h1) ?_
    simp only [walk, Nat.reduceLT, Nat.reduceBEq, Nat.reduceAdd, Nat.reduceLeDiff, reduceIte, Int.reduceLT, Int.reduceLE, Int.reduceEq, Int.reduceToNat, Int.reduceBEq]
    refine callWp_of (hT _ (by omega)) ?_
    simp only [walk, Nat.reduceLT, Nat.reduceBEq, Nat.reduceAdd, Nat.reduceLeDiff, reduceIte, Int.reduceLT, Int.reduceLE, Int.reduceEq, Int.reduceToNat, Int.reduceBEq]
    rw [bins_add (by omega)]
    simp only [walk, Nat.reduceLT, Nat.reduceBEq, Nat.reduceAdd, Nat.reduceLeDiff, reduceIte, Int.reduceLT, Int.reduceLE, Int.reduceEq, Int.reduceToNat, Int.reduceBEq]
  · have e : (k == 2) = false := by rw [beq_eq_false_iff_ne]; exact h
    have l2 := pInt_len (fold_ok h2 h3)
    simp only [walk, Nat.reduceLT, Nat.reduceBEq, Nat.reduceAdd, Nat.reduceLeDiff, reduceIte, Int.reduceLT, Int.reduceLE, Int.reduceEq, Int.reduceToNat, Int.reduceBEq, e, h]
    refine callWp_of (hI _ h1) ?_
    simp only [walk, Nat.reduceLT, Nat.reduceBEq, Nat.reduceAdd, Nat.reduceLeDiff, reduceIte, Int.reduceLT, Int.reduceLE, Int.reduceEq, Int.reduceToNat, Int.reduceBEq]
    refine callWp_of (hF _ h2 h3) ?_
    simp only [walk, Nat.reduceLT, Nat.reduceBEq, Nat.reduceAdd, Nat.reduceLeDiff, reduceIte, Int.reduceLT, Int.reduceLE, Int.reduceEq, Int.reduceToNat, Int.reduceBEq]
    refine callWp_of (hI _ (fold_ok h2 h3)) ?_
    simp only [walk, Nat.reduceLT, Nat.reduceBEq, Nat.reduceAdd, Nat.reduceLeDiff, reduceIte, Int.reduceLT, Int.reduceLE, Int.reduceEq, Int.reduceToNat, Int.reduceBEq]
    rw [bins_add (by omega)]
    simp only [walk, Nat.reduceLT, Nat.reduceBEq, Nat.reduceAdd, Nat.reduceLeDiff, reduceIte, Int.reduceLT, Int.reduceLE, Int.reduceEq, Int.reduceToNat, Int.reduceBEq]
theorem g_dot_Code (hI : S_i2s (C (F n_pack_Int))) : S_dCode ((c_dot_Code F).gives C) := by
  intro d hd
  obtain ⟨a, b⟩ := d
  obtain ⟨h1, h2⟩ := hd
  simp only at h1 h2
  refine gives_of rfl ?_
  unfold c_dot_Code dCode
  have l1 := pInt_len h1
  have l2 := pInt_len h2
  simp only [walk, Nat.reduceLT, Nat.reduceBEq, Nat.reduceAdd, Nat.reduceLeDiff, reduceIte, Int.reduceLT, Int.reduceLE, Int.reduceEq, Int.reduceToNat, Int.reduceBEq]
  refine callWp_of (hI _ h1) ?_
  simp only [walk, Nat.reduceLT, Nat.reduceBEq, Nat.reduceAdd, Nat.reduceLeDiff, reduceIte, Int.reduceLT, Int.reduceLE, Int.reduceEq, Int.reduceToNat, Int.reduceBEq]
  refine callWp_of (hI _ h2) ?_
  simp only [walk, Nat.reduceLT, Nat.reduceBEq, Nat.reduceAdd, Nat.reduceLeDiff, reduceIte, Int.reduceLT, Int.reduceLE, Int.reduceEq, Int.reduceToNat, Int.reduceBEq]
  rw [bins_add (by omega)]
  simp only [walk, Nat.reduceLT, Nat.reduceBEq, Nat.reduceAdd, Nat.reduceLeDiff, reduceIte, Int.reduceLT, Int.reduceLE, Int.reduceEq, Int.reduceToNat, Int.reduceBEq]
theorem g_pref04_Code (hI : S_i2s (C (F n_pref02_Int))) : S_dCode ((c_pref04_Code F).gives C) := by
  intro d hd
  obtain ⟨a, b⟩ := d
  obtain ⟨h1, h2⟩ := hd
  simp only at h1 h2
  refine gives_of rfl ?_
  unfold c_pref04_Code dCode
  have l1 := pInt_len h1
  have l2 := pInt_len h2
  simp only [walk, Nat.reduceLT, Nat.reduceBEq, Nat.reduceAdd, Nat.reduceLeDiff, reduceIte, Int.reduceLT, Int.reduceLE, Int.reduceEq, Int.reduceToNat, Int.reduceBEq]
  refine callWp_of (hI _ h1) ?_
  simp only [walk, Nat.reduceLT, Nat.reduceBEq, Nat.reduceAdd, Nat.reduceLeDiff, reduceIte, Int.reduceLT, Int.reduceLE, Int.reduceEq, Int.reduceToNat, Int.reduceBEq]
  refine callWp_of (hI _ h2) ?_
  simp only [walk, Nat.reduceLT, Nat.reduceBEq, Nat.reduceAdd, Nat.reduceLeDiff, reduceIte, Int.reduceLT, Int.reduceLE, Int.reduceEq, Int.reduceToNat, Int.reduceBEq]
  rw [bins_add (by omega)]
  simp only [walk, Nat.reduceLT, Nat.reduceBEq, Nat.reduceAdd, Nat.reduceLeDiff, reduceIte, Int.reduceLT, Int.reduceLE, Int.reduceEq, Int.reduceToNat, Int.reduceBEq]
theorem sLen_rI {s : List UInt8} (b : Int) (h : sLen s) : sLen (rI s b).2.1 := by
  have := (rI_suf s b).length_le
  unfold sLen at *; omega
theorem g_dot_Read (hI : S_rInt (C (F n_pack_Reader_Int))) (hF : S_Fault (C (F n_pack_Reader_Fault))) (hR : S_dotOk (C (F n_dot_Right))) (hX : S_Fail (C (F n_pack_Reader_Fail))) : S_dRead ((c_dot_Read F).gives C) := by
  intro s b hs
  refine gives_of rfl ?_
  unfold c_dot_Read rdDot
  simp only [walk, Nat.reduceLT, Nat.reduceBEq, Nat.reduceAdd, Nat.reduceLeDiff, reduceIte, Int.reduceLT, Int.reduceLE, Int.reduceEq, Int.reduceToNat, Int.reduceBEq]
  refine callWp_of (hI s b hs) ?_
  have h1 := sLen_rI b hs
  generalize rI s b = x at *
  obtain ⟨x1, s1, b1⟩ := x
  simp only [walk, Nat.reduceLT, Nat.reduceBEq, Nat.reduceAdd, Nat.reduceLeDiff, reduceIte, Int.reduceLT, Int.reduceLE, Int.reduceEq, Int.reduceToNat, Int.reduceBEq]
  refine callWp_of (hI s1 b1 h1) ?_
  generalize rI s1 b1 = y at *
  obtain ⟨y1, s2, b2⟩ := y
  simp only [walk, Nat.reduceLT, Nat.reduceBEq, Nat.reduceAdd, Nat.reduceLeDiff, reduceIte, Int.reduceLT, Int.reduceLE, Int.reduceEq, Int.reduceToNat, Int.reduceBEq]
  refine callWp_of (hF s2 b2) ?_
  by_cases hb : b2 = 0
  · have e : (b2 == 0) = true := by simp [hb]
    simp only [walk, Nat.reduceLT, Nat.reduceBEq, Nat.reduceAdd, Nat.reduceLeDiff, reduceIte, Int.reduceLT, Int.reduceLE, Int.reduceEq, Int.reduceToNat, Int.reduceBEq, e]
    refine callWp_of (hR (x1, y1)) ?_
    cases hd : dotOk (x1, y1) with
    | true =>
      simp only [walk, Nat.reduceLT, Nat.reduceBEq, Nat.reduceAdd, Nat.reduceLeDiff, reduceIte, Int.reduceLT, Int.reduceLE, Int.reduceEq, Int.reduceToNat, Int.reduceBEq]
      refine callWp_of (hF s2 b2) ?_
      simp only [walk, Nat.reduceLT, Nat.reduceBEq, Nat.reduceAdd, Nat.reduceLeDiff, reduceIte, Int.reduceLT, Int.reduceLE, Int.reduceEq, Int.reduceToNat, Int.reduceBEq, hb, bne_self_eq_false, and_false]
    | false =>
      simp only [walk, Nat.reduceLT, Nat.reduceBEq, Nat.reduceAdd, Nat.reduceLeDiff, reduceIte, Int.reduceLT, Int.reduceLE, Int.reduceEq, Int.reduceToNat, Int.reduceBEq]
      refine callWp_of (hX s2 b2 2) ?_
      simp only [walk, Nat.reduceLT, Nat.reduceBEq, Nat.reduceAdd, Nat.reduceLeDiff, reduceIte, Int.reduceLT, Int.reduceLE, Int.reduceEq, Int.reduceToNat, Int.reduceBEq]
      refine callWp_of (hF s2 _) ?_
      have e2 : ((2 : Int) != 0) = true := rfl
      simp only [walk, Nat.reduceLT, Nat.reduceBEq, Nat.reduceAdd, Nat.reduceLeDiff, reduceIte, Int.reduceLT, Int.reduceLE, Int.reduceEq, Int.reduceToNat, Int.reduceBEq, failB, hb, e2, and_self]
  · have e : (b2 == 0) = false := by rw [beq_eq_false_iff_ne]; exact hb
    have e2 : (b2 != 0) = true := by simp [hb]
    simp only [walk, Nat.reduceLT, Nat.reduceBEq, Nat.reduceAdd, Nat.reduceLeDiff, reduceIte, Int.reduceLT, Int.reduceLE, Int.reduceEq, Int.reduceToNat, Int.reduceBEq, e]
    refine callWp_of (hF s2 b2) ?_
    simp only [walk, Nat.reduceLT, Nat.reduceBEq, Nat.reduceAdd, Nat.reduceLeDiff, reduceIte, Int.reduceLT, Int.reduceLE, Int.reduceEq, Int.reduceToNat, Int.reduceBEq, e2, hb, false_and]
theorem g_pref04_Read (hI : S_XInt (C (F n_pref02_Reader_Int))) (hR : S_dotOk (C (F n_pref04_Right))) : S_XDot ((c_pref04_Read F).gives C) := by
  intro S s b hS hs
  refine gives_of rfl ?_
  unfold c_pref04_Read rdDot
  simp only [walk, Nat.reduceLT, Nat.reduceBEq, Nat.reduceAdd, Nat.reduceLeDiff, reduceIte, Int.reduceLT, Int.reduceLE, Int.reduceEq, Int.reduceToNat, Int.reduceBEq]
  refine callWp_of (hI S s b hS hs) ?_
  have h1 := (rI_suf s b).trans hs
  generalize rI s b = x at *
  obtain ⟨x1, s1, b1⟩ := x
  simp only [walk, Nat.reduceLT, Nat.reduceBEq, Nat.reduceAdd, Nat.reduceLeDiff, reduceIte, Int.reduceLT, Int.reduceLE, Int.reduceEq, Int.reduceToNat, Int.reduceBEq]
  refine callWp_of (hI S s1 b1 hS h1) ?_
  generalize rI s1 b1 = y at *
  obtain ⟨y1, s2, b2⟩ := y
  simp only [walk, Nat.reduceLT, Nat.reduceBEq, Nat.reduceAdd, Nat.reduceLeDiff, reduceIte, Int.reduceLT, Int.reduceLE, Int.reduceEq, Int.reduceToNat, Int.reduceBEq, X, xdr]
  by_cases hb : b2 = 0
  · have e : (b2 == 0) = true := by simp [hb]
    simp only [walk, Nat.reduceLT, Nat.reduceBEq, Nat.reduceAdd, Nat.reduceLeDiff, reduceIte, Int.reduceLT, Int.reduceLE, Int.reduceEq, Int.reduceToNat, Int.reduceBEq, e]
    refine callWp_of (hR (x1, y1)) ?_
    cases hd : dotOk (x1, y1) with
    | true =>
      simp only [walk, Nat.reduceLT, Nat.reduceBEq, Nat.reduceAdd, Nat.reduceLeDiff, reduceIte, Int.reduceLT, Int.reduceLE, Int.reduceEq, Int.reduceToNat, Int.reduceBEq, hb, bne_self_eq_false, and_false]
    | false =>
      have e2 : ((2 : Int) != 0) = true := rfl
      simp only [walk, Nat.reduceLT, Nat.reduceBEq, Nat.reduceAdd, Nat.reduceLeDiff, reduceIte, Int.reduceLT, Int.reduceLE, Int.reduceEq, Int.reduceToNat, Int.reduceBEq, hb, e2, and_self]
  · have e : (b2 == 0) = false := by rw [beq_eq_false_iff_ne]; exact hb
    have e2 : (b2 != 0) = true := by simp [hb]
    simp only [walk, Nat.reduceLT, Nat.reduceBEq, Nat.reduceAdd, Nat.reduceLeDiff, reduceIte, Int.reduceLT, Int.reduceLE, Int.reduceEq, Int.reduceToNat, Int.reduceBEq, e, e2, hb, false_and]
end
end Go.AR

/-! Operations: values read, named operations in a row. -/
namespace Go.AR
open Go
section
variable {C : CallRel} {F : Nat → FuncId}
theorem rText_ok (s : List UInt8) (b : Int) : (rText s b).1.length ≤ s.length := by have := rText_len s b; omega
theorem g_value_Read (hI : S_rInt (C (F n_pack_Reader_Int))) (hT : S_rText (C (F n_pack_Reader_Text))) (hU : S_unfold (C (F n_value_Unfold))) (hF : S_Fault (C (F n_pack_Reader_Fault))) (hR : S_vOk (C (F n_value_Right))) (hX : S_Fail (C (F n_pack_Reader_Fail))) : S_vRead ((c_value_Read F).gives C) := by
  intro s b hs
  have hsL : sLen s := by unfold sLen; omega
  refine gives_of rfl ?_
  unfold c_value_Read rdVal
  simp only [walk, Nat.reduceLT, Nat.reduceBEq, Nat.reduceAdd, Nat.reduceLeDiff, reduceIte, Int.reduceLT, Int.reduceLE, Int.reduceEq, Int.reduceToNat, Int.reduceBEq]
  refine callWp_of (hI s b hsL) ?_
  have h1 := sLen_rI b hsL
  have h1' := (rI_suf s b).length_le
  generalize rI s b = x at *
  obtain ⟨x1, s1, b1⟩ := x
  simp only [walk, Nat.reduceLT, Nat.reduceBEq, Nat.reduceAdd, Nat.reduceLeDiff, reduceIte, Int.reduceLT, Int.reduceLE, Int.reduceEq, Int.reduceToNat, Int.reduceBEq]
  have fin : ∀ (v : Vl) (s2 : List UInt8) (b2 : Int), v.2.2.length ≤ 20000000 → True := fun _ _ _ _ => trivial
  by_cases hk : x1 = 2
  · subst hk
    simp only [walk, Nat.reduceLT, Nat.reduceBEq, Nat.reduceAdd, Nat.reduceLeDiff, reduceIte, Int.reduceLT, Int.reduceLE, Int.reduceEq, Int.reduceToNat, Int.reduceBEq]
    refine callWp_of (hT s1 b1 h1) ?_
    have h2 := rText_ok s1 b1
    simp only at h1'
    generalize rText s1 b1 = y at *
    obtain ⟨t, s2, b2⟩ := y
    simp only at h2
    simp only [walk, Nat.reduceLT, Nat.reduceBEq, Nat.reduceAdd, Nat.reduceLeDiff, reduceIte, Int.reduceLT, Int.reduceLE, Int.reduceEq, Int.reduceToNat, Int.reduceBEq]
    refine callWp_of (hF s2 b2) ?_
    by_cases hb : b2 = 0
    · have e : (b2 == 0) = true := by simp [hb]
      simp only [walk, Nat.reduceLT, Nat.reduceBEq, Nat.reduceAdd, Nat.reduceLeDiff, reduceIte, Int.reduceLT, Int.reduceLE, Int.reduceEq, Int.reduceToNat, Int.reduceBEq, e]
      refine callWp_of (hR (2, 0, t) (by simp only; omega)) ?_
      cases hd : vOk (2, 0, t) with
      | true =>
        simp only [walk, Nat.reduceLT, Nat.reduceBEq, Nat.reduceAdd, Nat.reduceLeDiff, reduceIte, Int.reduceLT, Int.reduceLE, Int.reduceEq, Int.reduceToNat, Int.reduceBEq]
        refine callWp_of (hF s2 b2) ?_
        simp only [walk, Nat.reduceLT, Nat.reduceBEq, Nat.reduceAdd, Nat.reduceLeDiff, reduceIte, Int.reduceLT, Int.reduceLE, Int.reduceEq, Int.reduceToNat, Int.reduceBEq, hb, bne_self_eq_false, and_false]
      | false =>
        simp only [walk, Nat.reduceLT, Nat.reduceBEq, Nat.reduceAdd, Nat.reduceLeDiff, reduceIte, Int.reduceLT, Int.reduceLE, Int.reduceEq, Int.reduceToNat, Int.reduceBEq]
        refine callWp_of (hX s2 b2 2) ?_
        simp only [walk, Nat.reduceLT, Nat.reduceBEq, Nat.reduceAdd, Nat.reduceLeDiff, reduceIte, Int.reduceLT, Int.reduceLE, Int.reduceEq, Int.reduceToNat, Int.reduceBEq]
        refine callWp_of (hF s2 _) ?_
        have e2 : ((2 : Int) != 0) = true := rfl
        simp only [walk, Nat.reduceLT, Nat.reduceBEq, Nat.reduceAdd, Nat.reduceLeDiff, reduceIte, Int.reduceLT, Int.reduceLE, Int.reduceEq, Int.reduceToNat, Int.reduceBEq, failB, hb, e2, and_self]
        rfl
    · have e : (b2 == 0) = false := by rw [beq_eq_false_iff_ne]; exact hb
      have e2 : (b2 != 0) = true := by simp [hb]
      simp only [walk, Nat.reduceLT, Nat.reduceBEq, Nat.reduceAdd, Nat.reduceLeDiff, reduceIte, Int.reduceLT, Int.reduceLE, Int.reduceEq, Int.reduceToNat, Int.reduceBEq, e]
      refine callWp_of (hF s2 b2) ?_
      simp only [walk, Nat.reduceLT, Nat.reduceBEq, Nat.reduceAdd, Nat.reduceLeDiff, reduceIte, Int.reduceLT, Int.reduceLE, Int.reduceEq, Int.reduceToNat, Int.reduceBEq, e2, hb, false_and]
      rfl
  · have ek : (x1 == 2) = false := by rw [beq_eq_false_iff_ne]; exact hk
    simp only [walk, Nat.reduceLT, Nat.reduceBEq, Nat.reduceAdd, Nat.reduceLeDiff, reduceIte, Int.reduceLT, Int.reduceLE, Int.reduceEq, Int.reduceToNat, Int.reduceBEq, ek, hk]
    refine callWp_of (hI s1 b1 h1) ?_
    have h3 := rI_lt s1 b1
    generalize rI s1 b1 = y at *
    obtain ⟨n, s2, b2⟩ := y
    simp only at h3
    simp only [walk, Nat.reduceLT, Nat.reduceBEq, Nat.reduceAdd, Nat.reduceLeDiff, reduceIte, Int.reduceLT, Int.reduceLE, Int.reduceEq, Int.reduceToNat, Int.reduceBEq]
    refine callWp_of (hU n h3.1 h3.2.1) ?_
    simp only [walk, Nat.reduceLT, Nat.reduceBEq, Nat.reduceAdd, Nat.reduceLeDiff, reduceIte, Int.reduceLT, Int.reduceLE, Int.reduceEq, Int.reduceToNat, Int.reduceBEq]
    refine callWp_of (hF s2 b2) ?_
    by_cases hb : b2 = 0
    · have e : (b2 == 0) = true := by simp [hb]
      simp only [walk, Nat.reduceLT, Nat.reduceBEq, Nat.reduceAdd, Nat.reduceLeDiff, reduceIte, Int.reduceLT, Int.reduceLE, Int.reduceEq, Int.reduceToNat, Int.reduceBEq, e]
      refine callWp_of (hR (x1, unfoldI n, []) (by simp)) ?_
      cases hd : vOk (x1, unfoldI n, []) with
      | true =>
        simp only [walk, Nat.reduceLT, Nat.reduceBEq, Nat.reduceAdd, Nat.reduceLeDiff, reduceIte, Int.reduceLT, Int.reduceLE, Int.reduceEq, Int.reduceToNat, Int.reduceBEq]
        refine callWp_of (hF s2 b2) ?_
        simp only [walk, Nat.reduceLT, Nat.reduceBEq, Nat.reduceAdd, Nat.reduceLeDiff, reduceIte, Int.reduceLT, Int.reduceLE, Int.reduceEq, Int.reduceToNat, Int.reduceBEq, hb, bne_self_eq_false, and_false]
      | false =>
        simp only [walk, Nat.reduceLT, Nat.reduceBEq, Nat.reduceAdd, Nat.reduceLeDiff, reduceIte, Int.reduceLT, Int.reduceLE, Int.reduceEq, Int.reduceToNat, Int.reduceBEq]
        refine callWp_of (hX s2 b2 2) ?_
        simp only [walk, Nat.reduceLT, Nat.reduceBEq, Nat.reduceAdd, Nat.reduceLeDiff, reduceIte, Int.reduceLT, Int.reduceLE, Int.reduceEq, Int.reduceToNat, Int.reduceBEq]
        refine callWp_of (hF s2 _) ?_
        have e2 : ((2 : Int) != 0) = true := rfl
        simp only [walk, Nat.reduceLT, Nat.reduceBEq, Nat.reduceAdd, Nat.reduceLeDiff, reduceIte, Int.reduceLT, Int.reduceLE, Int.reduceEq, Int.reduceToNat, Int.reduceBEq, failB, hb, e2, and_self]
        rfl
    · have e : (b2 == 0) = false := by rw [beq_eq_false_iff_ne]; exact hb
      have e2 : (b2 != 0) = true := by simp [hb]
      simp only [walk, Nat.reduceLT, Nat.reduceBEq, Nat.reduceAdd, Nat.reduceLeDiff, reduceIte, Int.reduceLT, Int.reduceLE, Int.reduceEq, Int.reduceToNat, Int.reduceBEq, e]
      refine callWp_of (hF s2 b2) ?_
      simp only [walk, Nat.reduceLT, Nat.reduceBEq, Nat.reduceAdd, Nat.reduceLeDiff, reduceIte, Int.reduceLT, Int.reduceLE, Int.reduceEq, Int.reduceToNat, Int.reduceBEq, e2, hb, false_and]
      rfl
theorem g_pref09_Read (hI : S_XInt (C (F n_pref02_Reader_Int))) (hT : S_XText (C (F n_pref02_Reader_Text))) (hU : S_unfold (C (F n_pref09_Unfold))) (hR : S_vOk (C (F n_pref09_Right))) : S_XVal ((c_pref09_Read F).gives C) := by
  intro S s b hS hs
  have hSL : sLen S := by unfold sLen; omega
  refine gives_of rfl ?_
  unfold c_pref09_Read rdVal
  simp only [walk, Nat.reduceLT, Nat.reduceBEq, Nat.reduceAdd, Nat.reduceLeDiff, reduceIte, Int.reduceLT, Int.reduceLE, Int.reduceEq, Int.reduceToNat, Int.reduceBEq]
  refine callWp_of (hI S s b hSL hs) ?_
  have h1 := (rI_suf s b).trans hs
  generalize rI s b = x at *
  obtain ⟨x1, s1, b1⟩ := x
  simp only at h1
  simp only [walk, Nat.reduceLT, Nat.reduceBEq, Nat.reduceAdd, Nat.reduceLeDiff, reduceIte, Int.reduceLT, Int.reduceLE, Int.reduceEq, Int.reduceToNat, Int.reduceBEq]
  by_cases hk : x1 = 2
  · subst hk
    simp only [walk, Nat.reduceLT, Nat.reduceBEq, Nat.reduceAdd, Nat.reduceLeDiff, reduceIte, Int.reduceLT, Int.reduceLE, Int.reduceEq, Int.reduceToNat, Int.reduceBEq]
    refine callWp_of (hT S s1 b1 hSL h1) ?_
    have h2 := rText_ok s1 b1
    have h1' := h1.length_le
    generalize rText s1 b1 = y at *
    obtain ⟨t, s2, b2⟩ := y
    simp only at h2
    simp only [walk, Nat.reduceLT, Nat.reduceBEq, Nat.reduceAdd, Nat.reduceLeDiff, reduceIte, Int.reduceLT, Int.reduceLE, Int.reduceEq, Int.reduceToNat, Int.reduceBEq, X, xdr]
    by_cases hb : b2 = 0
    · have e : (b2 == 0) = true := by simp [hb]
      simp only [walk, Nat.reduceLT, Nat.reduceBEq, Nat.reduceAdd, Nat.reduceLeDiff, reduceIte, Int.reduceLT, Int.reduceLE, Int.reduceEq, Int.reduceToNat, Int.reduceBEq, e]
      refine callWp_of (hR (2, 0, t) (by simp only; omega)) ?_
      cases hd : vOk (2, 0, t) with
      | true => simp only [walk, Nat.reduceLT, Nat.reduceBEq, Nat.reduceAdd, Nat.reduceLeDiff, reduceIte, Int.reduceLT, Int.reduceLE, Int.reduceEq, Int.reduceToNat, Int.reduceBEq, hb, bne_self_eq_false, and_false]
      | false =>
        have e2 : ((2 : Int) != 0) = true := rfl
        simp only [walk, Nat.reduceLT, Nat.reduceBEq, Nat.reduceAdd, Nat.reduceLeDiff, reduceIte, Int.reduceLT, Int.reduceLE, Int.reduceEq, Int.reduceToNat, Int.reduceBEq, hb, e2, and_self]
        rfl
    · have e : (b2 == 0) = false := by rw [beq_eq_false_iff_ne]; exact hb
      have e2 : (b2 != 0) = true := by simp [hb]
      simp only [walk, Nat.reduceLT, Nat.reduceBEq, Nat.reduceAdd, Nat.reduceLeDiff, reduceIte, Int.reduceLT, Int.reduceLE, Int.reduceEq, Int.reduceToNat, Int.reduceBEq, e, e2, hb, false_and]
      rfl
  · have ek : (x1 == 2) = false := by rw [beq_eq_false_iff_ne]; exact hk
    simp only [walk, Nat.reduceLT, Nat.reduceBEq, Nat.reduceAdd, Nat.reduceLeDiff, reduceIte, Int.reduceLT, Int.reduceLE, Int.reduceEq, Int.reduceToNat, Int.reduceBEq, ek, hk]
    refine callWp_of (hI S s1 b1 hSL h1) ?_
    have h3 := rI_lt s1 b1
    generalize rI s1 b1 = y at *
    obtain ⟨n, s2, b2⟩ := y
    simp only at h3
    simp only [walk, Nat.reduceLT, Nat.reduceBEq, Nat.reduceAdd, Nat.reduceLeDiff, reduceIte, Int.reduceLT, Int.reduceLE, Int.reduceEq, Int.reduceToNat, Int.reduceBEq]
    refine callWp_of (hU n h3.1 h3.2.1) ?_
    simp only [walk, Nat.reduceLT, Nat.reduceBEq, Nat.reduceAdd, Nat.reduceLeDiff, reduceIte, Int.reduceLT, Int.reduceLE, Int.reduceEq, Int.reduceToNat, Int.reduceBEq, X, xdr]
    by_cases hb : b2 = 0
    · have e : (b2 == 0) = true := by simp [hb]
      simp only [walk, Nat.reduceLT, Nat.reduceBEq, Nat.reduceAdd, Nat.reduceLeDiff, reduceIte, Int.reduceLT, Int.reduceLE, Int.reduceEq, Int.reduceToNat, Int.reduceBEq, e]
      refine callWp_of (hR (x1, unfoldI n, []) (by simp)) ?_
      cases hd : vOk (x1, unfoldI n, []) with
      | true => simp only [walk, Nat.reduceLT, Nat.reduceBEq, Nat.reduceAdd, Nat.reduceLeDiff, reduceIte, Int.reduceLT, Int.reduceLE, Int.reduceEq, Int.reduceToNat, Int.reduceBEq, hb, bne_self_eq_false, and_false]
      | false =>
        have e2 : ((2 : Int) != 0) = true := rfl
        simp only [walk, Nat.reduceLT, Nat.reduceBEq, Nat.reduceAdd, Nat.reduceLeDiff, reduceIte, Int.reduceLT, Int.reduceLE, Int.reduceEq, Int.reduceToNat, Int.reduceBEq, hb, e2, and_self]
        rfl
    · have e : (b2 == 0) = false := by rw [beq_eq_false_iff_ne]; exact hb
      have e2 : (b2 != 0) = true := by simp [hb]
      simp only [walk, Nat.reduceLT, Nat.reduceBEq, Nat.reduceAdd, Nat.reduceLeDiff, reduceIte, Int.reduceLT, Int.reduceLE, Int.reduceEq, Int.reduceToNat, Int.reduceBEq, e, e2, hb, false_and]
      rfl
end
end Go.AR
