import Derived.Test.YtphggkbbjnpaeaaG04
import Derived.Test.YtphggkbbjnpaeaaG09
import Derived.Test.YtphggkbbjnpaeaaG29
import Derived.Test.YtphggkbbjnpaeaaG26
import Derived.Test.YtphggkbbjnpaeaaG08
import Derived.Test.YtphggkbbjnpaeaaG28
import Derived.Shelf.Strings.OnBuilder
set_option linter.all false
/-! Operations: named operations, and values. -/
namespace Go.AR
open Go
section
variable {C : CallRel} {F : Nat → FuncId}
theorem eq_r (a b : Ud) : eqCells [.i, .i, .i] [.int .i64 a.1.1, .int .i64 a.1.2, .int .i64 a.2] [.int .i64 b.1.1, .int .i64 b.1.2, .int .i64 b.2] = some (decide (a = b)) := by
  obtain ⟨⟨a1, a2⟩, a3⟩ := a; obtain ⟨⟨b1, b2⟩, b3⟩ := b
  simp only [eqCells, eqB, if_true]
  congr 1
  rw [Bool.eq_iff_iff]
  simp [and_assoc]
abbrev vCells (v : Vl) : List PV := [.int .i64 v.1, .int .i64 v.2.1, .str v.2.2]
abbrev vP (v : Vl) : PV := .agg (vCells v)
theorem eq_v (a b : Vl) : eqCells [.i, .i, .s] [.int .i64 a.1, .int .i64 a.2.1, .str a.2.2] [.int .i64 b.1, .int .i64 b.2.1, .str b.2.2] = some (decide (a = b)) := by
  obtain ⟨a1, a2, a3⟩ := a; obtain ⟨b1, b2, b3⟩ := b
  simp only [eqCells, eqB, if_true]
  congr 1
  rw [Bool.eq_iff_iff]
  simp
theorem eq_v0 (a : Vl) : eqCells [.i, .i, .s] [.int .i64 a.1, .int .i64 a.2.1, .str a.2.2] [.int .i64 0, .int .i64 0, .str []] = some (decide (a = z0)) := eq_v a z0
def S_rcmp (R : Rel) : Prop := ∀ a b : Ud, R [.v (uP a), .v (uP b)] (.val (.int .i64 (rcmp a b))) []
def S_refs (R : Rel) : Prop := ∀ l : List Ud, l.length ≤ 2000000 → R [.v (usP l)] (.val (.bool (refsOk l))) []
def S_rsame (R : Rel) : Prop := ∀ a b : List Ud, a.length ≤ 2000000 → R [.v (usP a), .v (usP b)] (.val (.bool (decide (a = b)))) []
def S_vOk (R : Rel) : Prop := ∀ v : Vl, v.2.2.length ≤ 20000000 → R [.v (vP v)] (.val (.bool (vOk v))) []
theorem g_pref04_Refs (h : S_dcmp (C (F n_pref04_Compare))) (h2 : S_icmp (C (F n_pref04_ints))) : S_rcmp ((c_pref04_Refs F).gives C) := by
  intro a b
  refine gives_of rfl ?_
  unfold c_pref04_Refs rcmp
  simp only [walk, Nat.reduceLT, Nat.reduceBEq, Nat.reduceAdd, Nat.reduceLeDiff, reduceIte, Int.reduceLT, Int.reduceLE, Int.reduceEq, Int.reduceToNat, Int.reduceBEq]
  refine callWp_of (h a.1 b.1) ?_
  by_cases h1 : dcmp a.1 b.1 = 0
  · have e : (dcmp a.1 b.1 != 0) = false := by simp [h1]
    simp only [walk, Nat.reduceLT, Nat.reduceBEq, Nat.reduceAdd, Nat.reduceLeDiff, reduceIte, Int.reduceLT, Int.reduceLE, Int.reduceEq, Int.reduceToNat, Int.reduceBEq, e]
    refine callWp_of (h2 _ _) ?_
    simp only [walk, Nat.reduceLT, Nat.reduceBEq, Nat.reduceAdd, Nat.reduceLeDiff, reduceIte, Int.reduceLT, Int.reduceLE, Int.reduceEq, Int.reduceToNat, Int.reduceBEq, h1, ne_eq]
  · have e : (dcmp a.1 b.1 != 0) = true := by simp [h1]
    simp only [walk, Nat.reduceLT, Nat.reduceBEq, Nat.reduceAdd, Nat.reduceLeDiff, reduceIte, Int.reduceLT, Int.reduceLE, Int.reduceEq, Int.reduceToNat, Int.reduceBEq, e]
    refine callWp_of (h a.1 b.1) ?_
    simp only [walk, Nat.reduceLT, Nat.reduceBEq, Nat.reduceAdd, Nat.reduceLeDiff, reduceIte, Int.reduceLT, Int.reduceLE, Int.reduceEq, Int.reduceToNat, Int.reduceBEq, h1, ne_eq]
theorem g_pref09_Right (hR : S_runes .i64 (C (F n_pref03_Runes))) : S_vOk ((c_pref09_Right F).gives C) := by
  intro v hv
  obtain ⟨k, n, s⟩ := v
  simp only at hv
  refine gives_of rfl ?_
  unfold c_pref09_Right vOk
  simp only [walk, Nat.reduceLT, Nat.reduceBEq, Nat.reduceAdd, Nat.reduceLeDiff, reduceIte, Int.reduceLT, Int.reduceLE, Int.reduceEq, Int.reduceToNat, Int.reduceBEq]
  by_cases h1 : k = 1
  · have e1 : (k == 1) = true := by simp [h1]
    simp only [walk, Nat.reduceLT, Nat.reduceBEq, Nat.reduceAdd, Nat.reduceLeDiff, reduceIte, Int.reduceLT, Int.reduceLE, Int.reduceEq, Int.reduceToNat, Int.reduceBEq, e1]
    by_cases h2 : s = []
    · have e2 : (s == []) = true := by simp [h2]
      simp only [walk, Nat.reduceLT, Nat.reduceBEq, Nat.reduceAdd, Nat.reduceLeDiff, reduceIte, Int.reduceLT, Int.reduceLE, Int.reduceEq, Int.reduceToNat, Int.reduceBEq, e2, h1, h2, beq_self_eq_true]
      by_cases h3 : -2147483647 ≤ n <;> simp only [walk, Nat.reduceLT, Nat.reduceBEq, Nat.reduceAdd, Nat.reduceLeDiff, reduceIte, Int.reduceLT, Int.reduceLE, Int.reduceEq, Int.reduceToNat, Int.reduceBEq, h3, ge_iff_le]
    · have e2 : (s == []) = false := by rw [beq_eq_false_iff_ne]; exact h2
      simp only [walk, Nat.reduceLT, Nat.reduceBEq, Nat.reduceAdd, Nat.reduceLeDiff, reduceIte, Int.reduceLT, Int.reduceLE, Int.reduceEq, Int.reduceToNat, Int.reduceBEq, e2, h1, h2]
  · have e1 : (k == 1) = false := by rw [beq_eq_false_iff_ne]; exact h1
    simp only [walk, Nat.reduceLT, Nat.reduceBEq, Nat.reduceAdd, Nat.reduceLeDiff, reduceIte, Int.reduceLT, Int.reduceLE, Int.reduceEq, Int.reduceToNat, Int.reduceBEq, e1]
    by_cases h2 : k = 2
    · have e2 : (k == 2) = true := by simp [h2]
      simp only [walk, Nat.reduceLT, Nat.reduceBEq, Nat.reduceAdd, Nat.reduceLeDiff, reduceIte, Int.reduceLT, Int.reduceLE, Int.reduceEq, Int.reduceToNat, Int.reduceBEq, e2]
      refine callWp_of (hR s hv) ?_
      by_cases h3 : n = 0
      · have e3 : (n == 0) = true := by simp [h3]
        cases hr : runes s [] with
        | none => simp only [walk, Nat.reduceLT, Nat.reduceBEq, Nat.reduceAdd, Nat.reduceLeDiff, reduceIte, Int.reduceLT, Int.reduceLE, Int.reduceEq, Int.reduceToNat, Int.reduceBEq, runesP, h1, h2, h3, e3, Option.isSome_none]
        | some l =>
          have e4 : ((s.length : Int) ≤ 64) = (s.length ≤ 64) := by apply propext; omega
          simp only [walk, Nat.reduceLT, Nat.reduceBEq, Nat.reduceAdd, Nat.reduceLeDiff, reduceIte, Int.reduceLT, Int.reduceLE, Int.reduceEq, Int.reduceToNat, Int.reduceBEq, runesP, e3, h1, h2, h3, Option.isSome_some, e4]
      · have e3 : (n == 0) = false := by rw [beq_eq_false_iff_ne]; exact h3
        cases hr : runes s [] <;> simp only [walk, Nat.reduceLT, Nat.reduceBEq, Nat.reduceAdd, Nat.reduceLeDiff, reduceIte, Int.reduceLT, Int.reduceLE, Int.reduceEq, Int.reduceToNat, Int.reduceBEq, runesP, e3, h1, h2, h3]
    · have e2 : (k == 2) = false := by rw [beq_eq_false_iff_ne]; exact h2
      simp only [walk, Nat.reduceLT, Nat.reduceBEq, Nat.reduceAdd, Nat.reduceLeDiff, reduceIte, Int.reduceLT, Int.reduceLE, Int.reduceEq, Int.reduceToNat, Int.reduceBEq, e2]
      by_cases h3 : k = 3
      · have e3 : (k == 3) = true := by simp [h3]
        simp only [walk, Nat.reduceLT, Nat.reduceBEq, Nat.reduceAdd, Nat.reduceLeDiff, reduceIte, Int.reduceLT, Int.reduceLE, Int.reduceEq, Int.reduceToNat, Int.reduceBEq, e3, h1, h2, h3]
        by_cases h4 : s = []
        · have e4 : (s == []) = true := by simp [h4]
          simp only [walk, Nat.reduceLT, Nat.reduceBEq, Nat.reduceAdd, Nat.reduceLeDiff, reduceIte, Int.reduceLT, Int.reduceLE, Int.reduceEq, Int.reduceToNat, Int.reduceBEq, h4, beq_self_eq_true]
          by_cases h5 : 0 ≤ n
          · simp only [walk, Nat.reduceLT, Nat.reduceBEq, Nat.reduceAdd, Nat.reduceLeDiff, reduceIte, Int.reduceLT, Int.reduceLE, Int.reduceEq, Int.reduceToNat, Int.reduceBEq, h5, ge_iff_le]
          · simp only [walk, Nat.reduceLT, Nat.reduceBEq, Nat.reduceAdd, Nat.reduceLeDiff, reduceIte, Int.reduceLT, Int.reduceLE, Int.reduceEq, Int.reduceToNat, Int.reduceBEq, h5, ge_iff_le]
        · have e4 : (s == []) = false := by rw [beq_eq_false_iff_ne]; exact h4
          simp only [walk, Nat.reduceLT, Nat.reduceBEq, Nat.reduceAdd, Nat.reduceLeDiff, reduceIte, Int.reduceLT, Int.reduceLE, Int.reduceEq, Int.reduceToNat, Int.reduceBEq, e4, h4]
      · have e3 : (k == 3) = false := by rw [beq_eq_false_iff_ne]; exact h3
        simp only [walk, Nat.reduceLT, Nat.reduceBEq, Nat.reduceAdd, Nat.reduceLeDiff, reduceIte, Int.reduceLT, Int.reduceLE, Int.reduceEq, Int.reduceToNat, Int.reduceBEq, e3, h1, h2, h3]
end
end Go.AR

/-! Operations: those that are named, and the small questions. -/
namespace Go.AR
open Go
section
variable {C : CallRel} {F : Nat → FuncId}
theorem refAt_eq (l : List Ud) (k : Nat) : refAt l k = (rOk (l.getD k z3) && (k == 0 || decide (rcmp (l.getD (k - 1) z3) (l.getD k z3) < 0))) := rfl
end
end Go.AR

/-! Operations: the questions. -/
namespace Go.AR
open Go
section
variable {C : CallRel} {F : Nat → FuncId}
abbrev oCells (o : Ov) : List PV := [.int .i64 o.k, ptP o.p, .int .i64 o.v.1, .int .i64 o.v.2.1, .str o.v.2.2, .int .i64 o.am, usP o.rs]
abbrev oP (o : Ov) : PV := .agg (oCells o)
def oOk (o : Ov) : Prop := pOk o.p ∧ o.v.2.2.length ≤ 20000000 ∧ o.rs.length ≤ 2000000
def S_leaf (R : Rel) : Prop := ∀ k : Int, R [.v (.int .i64 k)] (.val (.int .i64 (oLeaf k))) []
def S_oGone (R : Rel) : Prop := ∀ o : Ov, R [.v (oP o)] (.val (.bool (oGone o))) []
def S_oCheck (R : Rel) : Prop := ∀ o : Ov, oOk o → R [.v (oP o)] (.val (.int .i64 (oCheck o))) []
def S_oShort (R : Rel) : Prop := ∀ o : Ov, R [.v (oP o)] (.val (.bool (oShort o))) []
theorem g_pref11_Refs (hR : S_dotOk (C (F n_pref04_Right))) (hC : S_rcmp (C (F n_pref04_Refs))) : S_refs ((c_pref11_Refs F).gives C) := by
  intro l hl
  refine gives_of rfl ?_
  unfold c_pref11_Refs
  simp only [walk, Nat.reduceLT, Nat.reduceBEq, Nat.reduceAdd, Nat.reduceLeDiff, reduceIte, Int.reduceLT, Int.reduceLE, Int.reduceEq, Int.reduceToNat, Int.reduceBEq, uRows_len]
  refine awp_loop_ind (X := Nat) (fun k => ⟨[(0, .val (usP l)), (2, .val (.bool false)), (3, .val (.int .i64 k))], []⟩)
    (fun k => k ≤ l.length ∧ ∀ j, j < k → refAt l j = true) (fun k => l.length - k) 0 ⟨by omega, by omega⟩ rfl ?_
  rintro R k ⟨hk, hJ⟩ ih
  simp only [walk, Nat.reduceLT, Nat.reduceBEq, Nat.reduceAdd, Nat.reduceLeDiff, reduceIte, Int.reduceLT, Int.reduceLE, Int.reduceEq, Int.reduceToNat, Int.reduceBEq, uRows_len]
  by_cases c : k < l.length
  · have c1 : (k : Int) < l.length := by omega
    have c0 : (0 : Int) ≤ k := by omega
    have e1 : IntKind.i64.wrap ((k : Int) + 1) = ((k + 1 : Nat) : Int) := wrap64 (by omega) (by omega)
    have hat := refAt_eq l k
    have next : refAt l k = true → _ := fun h => ih (k + 1) ⟨by omega, fun j hj => by
      by_cases e : j = k
      · subst e; exact h
      · exact hJ j (by omega)⟩ (by omega)
    have nope : refAt l k = false → refsOk l = false := refsOk_no c
    simp only [walk, Nat.reduceLT, Nat.reduceBEq, Nat.reduceAdd, Nat.reduceLeDiff, reduceIte, Int.reduceLT, Int.reduceLE, Int.reduceEq, Int.reduceToNat, Int.reduceBEq, c1, uRows_get c, uRows_len]
    refine callWp_of (hR (l.getD k z3).1) ?_
    generalize hx : l.getD k z3 = x at *
    have hro : rOk x = (dotOk x.1 && decide (0 ≤ x.2) && decide (x.2 < 16)) := rfl
    have hg := uRows_get c
    rw [hx] at hg
    cases hd : dotOk x.1 with
    | false =>
      rw [hd] at hro
      simp only [Bool.false_and] at hro
      rw [hro, Bool.false_and] at hat
      simp only [walk, Nat.reduceLT, Nat.reduceBEq, Nat.reduceAdd, Nat.reduceLeDiff, reduceIte, Int.reduceLT, Int.reduceLE, Int.reduceEq, Int.reduceToNat, Int.reduceBEq, nope hat, c1, hg, uRows_len]
    | true =>
      rw [hd] at hro
      simp only [Bool.true_and] at hro
      by_cases d1 : x.2 < 0
      · have : rOk x = false := by rw [hro]; simp; omega
        rw [this, Bool.false_and] at hat
        simp only [walk, Nat.reduceLT, Nat.reduceBEq, Nat.reduceAdd, Nat.reduceLeDiff, reduceIte, Int.reduceLT, Int.reduceLE, Int.reduceEq, Int.reduceToNat, Int.reduceBEq, nope hat, d1, c1, hg, uRows_len]
      · by_cases d2 : x.2 > 15
        · have : rOk x = false := by rw [hro]; simp; omega
          rw [this, Bool.false_and] at hat
          simp only [walk, Nat.reduceLT, Nat.reduceBEq, Nat.reduceAdd, Nat.reduceLeDiff, reduceIte, Int.reduceLT, Int.reduceLE, Int.reduceEq, Int.reduceToNat, Int.reduceBEq, nope hat, d1, d2, c1, hg, uRows_len]
        · have : rOk x = true := by rw [hro]; simp; omega
          rw [this, Bool.true_and] at hat
          by_cases hk0 : (k : Int) > 0
          · have w1 : IntKind.i64.wrap ((k : Int) - 1) = ((k - 1 : Nat) : Int) := by rw [wrap64 (by omega) (by omega)]; omega
            have c3 : ((k - 1 : Nat) : Int) < l.length := by omega
            have k0 : (k == 0) = false := by rw [beq_eq_false_iff_ne]; omega
            rw [k0, Bool.false_or] at hat
            simp only [walk, Nat.reduceLT, Nat.reduceBEq, Nat.reduceAdd, Nat.reduceLeDiff, reduceIte, Int.reduceLT, Int.reduceLE, Int.reduceEq, Int.reduceToNat, Int.reduceBEq, d1, d2, hk0, w1, c1, c3, hg, uRows_len, uRows_get (show k - 1 < l.length by omega)]
            refine callWp_of (hC (l.getD (k - 1) z3) x) ?_
            have hcs := rcmp_cases (l.getD (k - 1) z3) x
            by_cases d3 : rcmp (l.getD (k - 1) z3) x < 0
            · have d4 : (rcmp (l.getD (k - 1) z3) x != -1) = false := by
                rw [bne, Bool.not_eq_false', beq_iff_eq]; omega
              simp only [walk, Nat.reduceLT, Nat.reduceBEq, Nat.reduceAdd, Nat.reduceLeDiff, reduceIte, Int.reduceLT, Int.reduceLE, Int.reduceEq, Int.reduceToNat, Int.reduceBEq, d4, e1]
              exact next (by rw [hat]; simpa using d3)
            · have d4 : (rcmp (l.getD (k - 1) z3) x != -1) = true := by
                rw [bne, Bool.not_eq_true', beq_eq_false_iff_ne]; omega
              simp only [walk, Nat.reduceLT, Nat.reduceBEq, Nat.reduceAdd, Nat.reduceLeDiff, reduceIte, Int.reduceLT, Int.reduceLE, Int.reduceEq, Int.reduceToNat, Int.reduceBEq, d4, nope (by rw [hat]; simpa using d3)]
          · have k0 : (k == 0) = true := by rw [beq_iff_eq]; omega
            rw [k0, Bool.true_or] at hat
            simp only [walk, Nat.reduceLT, Nat.reduceBEq, Nat.reduceAdd, Nat.reduceLeDiff, reduceIte, Int.reduceLT, Int.reduceLE, Int.reduceEq, Int.reduceToNat, Int.reduceBEq, d1, d2, hk0, e1, c1, hg, uRows_len]
            exact next hat
  · have c1 : ¬ (k : Int) < l.length := by omega
    have : refsOk l = true := refsOk_iff.2 (fun j hj => hJ j (by omega))
    simp only [walk, Nat.reduceLT, Nat.reduceBEq, Nat.reduceAdd, Nat.reduceLeDiff, reduceIte, Int.reduceLT, Int.reduceLE, Int.reduceEq, Int.reduceToNat, Int.reduceBEq, c1, this]
end
end Go.AR

/-! Operations: the questions, more. -/
namespace Go.AR
open Go
section
variable {C : CallRel} {F : Nat → FuncId}
theorem ieq (a b : Int) : (a == b) = decide (a = b) := rfl
theorem ine (a b : Int) : (a != b) = decide (a ≠ b) := by
  rw [Bool.eq_iff_iff]; simp
theorem g_op_Leaf : S_leaf ((c_op_Leaf F).gives C) := by
  intro k
  refine gives_of rfl ?_
  unfold c_op_Leaf oLeaf
  simp only [walk, Nat.reduceLT, Nat.reduceBEq, Nat.reduceAdd, Nat.reduceLeDiff, reduceIte, Int.reduceLT, Int.reduceLE, Int.reduceEq, Int.reduceToNat, Int.reduceBEq, ieq, ine]
  by_cases h1 : k = 1
  · simp only [walk, Nat.reduceLT, Nat.reduceBEq, Nat.reduceAdd, Nat.reduceLeDiff, reduceIte, Int.reduceLT, Int.reduceLE, Int.reduceEq, Int.reduceToNat, Int.reduceBEq, ieq, ine, h1]
  · by_cases h2 : k = 2
    · simp only [walk, Nat.reduceLT, Nat.reduceBEq, Nat.reduceAdd, Nat.reduceLeDiff, reduceIte, Int.reduceLT, Int.reduceLE, Int.reduceEq, Int.reduceToNat, Int.reduceBEq, ieq, ine, h1, h2, true_or]
    · by_cases h4 : k = 4
      · simp only [walk, Nat.reduceLT, Nat.reduceBEq, Nat.reduceAdd, Nat.reduceLeDiff, reduceIte, Int.reduceLT, Int.reduceLE, Int.reduceEq, Int.reduceToNat, Int.reduceBEq, ieq, ine, h1, h2, h4, or_true]
      · by_cases h3 : k = 3
        · simp only [walk, Nat.reduceLT, Nat.reduceBEq, Nat.reduceAdd, Nat.reduceLeDiff, reduceIte, Int.reduceLT, Int.reduceLE, Int.reduceEq, Int.reduceToNat, Int.reduceBEq, ieq, ine, h1, h2, h4, h3, or_self]
        · simp only [walk, Nat.reduceLT, Nat.reduceBEq, Nat.reduceAdd, Nat.reduceLeDiff, reduceIte, Int.reduceLT, Int.reduceLE, Int.reduceEq, Int.reduceToNat, Int.reduceBEq, ieq, ine, h1, h2, h4, h3, or_self]
theorem g_pref11_Leaf : S_leaf ((c_pref11_Leaf F).gives C) := by
  intro k
  refine gives_of rfl ?_
  unfold c_pref11_Leaf oLeaf
  simp only [walk, Nat.reduceLT, Nat.reduceBEq, Nat.reduceAdd, Nat.reduceLeDiff, reduceIte, Int.reduceLT, Int.reduceLE, Int.reduceEq, Int.reduceToNat, Int.reduceBEq, ieq, ine]
  by_cases h1 : k = 1
  · simp only [walk, Nat.reduceLT, Nat.reduceBEq, Nat.reduceAdd, Nat.reduceLeDiff, reduceIte, Int.reduceLT, Int.reduceLE, Int.reduceEq, Int.reduceToNat, Int.reduceBEq, ieq, ine, h1]
  · by_cases h2 : k = 2
    · simp only [walk, Nat.reduceLT, Nat.reduceBEq, Nat.reduceAdd, Nat.reduceLeDiff, reduceIte, Int.reduceLT, Int.reduceLE, Int.reduceEq, Int.reduceToNat, Int.reduceBEq, ieq, ine, h1, h2, true_or]
    · by_cases h4 : k = 4
      · simp only [walk, Nat.reduceLT, Nat.reduceBEq, Nat.reduceAdd, Nat.reduceLeDiff, reduceIte, Int.reduceLT, Int.reduceLE, Int.reduceEq, Int.reduceToNat, Int.reduceBEq, ieq, ine, h1, h2, h4, or_true]
      · by_cases h3 : k = 3
        · simp only [walk, Nat.reduceLT, Nat.reduceBEq, Nat.reduceAdd, Nat.reduceLeDiff, reduceIte, Int.reduceLT, Int.reduceLE, Int.reduceEq, Int.reduceToNat, Int.reduceBEq, ieq, ine, h1, h2, h4, h3, or_self]
        · simp only [walk, Nat.reduceLT, Nat.reduceBEq, Nat.reduceAdd, Nat.reduceLeDiff, reduceIte, Int.reduceLT, Int.reduceLE, Int.reduceEq, Int.reduceToNat, Int.reduceBEq, ieq, ine, h1, h2, h4, h3, or_self]
theorem gone_iff (o : Ov) : oGone o = true ↔ o.k = 0 ∧ o.p.length = 0 ∧ o.v = z0 ∧ o.am = 0 ∧ o.rs.length = 0 := by
  obtain ⟨k, p, v, am, rs⟩ := o
  simp only [oGone, zop, decide_eq_true_eq, Ov.mk.injEq, List.length_eq_zero_iff]
theorem gone_no {o : Ov} (h : ¬ (o.k = 0 ∧ o.p.length = 0 ∧ o.v = z0 ∧ o.am = 0 ∧ o.rs.length = 0)) : oGone o = false := by
  rw [← Bool.not_eq_true, gone_iff]; exact h
theorem g_pref11_Gone : S_oGone ((c_pref11_Gone F).gives C) := by
  intro o
  refine gives_of rfl ?_
  unfold c_pref11_Gone
  simp only [walk, Nat.reduceLT, Nat.reduceBEq, Nat.reduceAdd, Nat.reduceLeDiff, reduceIte, Int.reduceLT, Int.reduceLE, Int.reduceEq, Int.reduceToNat, Int.reduceBEq, ieq, ine]
  by_cases h1 : o.k = 0
  · by_cases h2 : o.p.length = 0
    · have h2' : (o.p.length : Int) = 0 := by omega
      by_cases h3 : o.v = z0
      · by_cases h4 : o.am = 0
        · by_cases h5 : o.rs.length = 0
          · have h5' : (o.rs.length : Int) = 0 := by omega
            simp only [walk, Nat.reduceLT, Nat.reduceBEq, Nat.reduceAdd, Nat.reduceLeDiff, reduceIte, Int.reduceLT, Int.reduceLE, Int.reduceEq, Int.reduceToNat, Int.reduceBEq, ieq, ine, xRows_len, uRows_len, eq_v0, h1, h2', h3, h4, h5', (gone_iff o).2 ⟨h1, h2, h3, h4, h5⟩]
          · have h5' : ¬ (o.rs.length : Int) = 0 := by omega
            simp only [walk, Nat.reduceLT, Nat.reduceBEq, Nat.reduceAdd, Nat.reduceLeDiff, reduceIte, Int.reduceLT, Int.reduceLE, Int.reduceEq, Int.reduceToNat, Int.reduceBEq, ieq, ine, xRows_len, uRows_len, eq_v0, h1, h2', h3, h4, h5', gone_no (o := o) (by simp [h5])]
        · simp only [walk, Nat.reduceLT, Nat.reduceBEq, Nat.reduceAdd, Nat.reduceLeDiff, reduceIte, Int.reduceLT, Int.reduceLE, Int.reduceEq, Int.reduceToNat, Int.reduceBEq, ieq, ine, xRows_len, uRows_len, eq_v0, h1, h2', h3, h4, gone_no (o := o) (by simp [h4])]
      · simp only [walk, Nat.reduceLT, Nat.reduceBEq, Nat.reduceAdd, Nat.reduceLeDiff, reduceIte, Int.reduceLT, Int.reduceLE, Int.reduceEq, Int.reduceToNat, Int.reduceBEq, ieq, ine, xRows_len, uRows_len, eq_v0, h1, h2', h3, gone_no (o := o) (by simp [h3])]
    · have h2' : ¬ (o.p.length : Int) = 0 := by omega
      simp only [walk, Nat.reduceLT, Nat.reduceBEq, Nat.reduceAdd, Nat.reduceLeDiff, reduceIte, Int.reduceLT, Int.reduceLE, Int.reduceEq, Int.reduceToNat, Int.reduceBEq, ieq, ine, xRows_len, uRows_len, eq_v0, h1, h2', gone_no (o := o) (by simp [h2])]
  · simp only [walk, Nat.reduceLT, Nat.reduceBEq, Nat.reduceAdd, Nat.reduceLeDiff, reduceIte, Int.reduceLT, Int.reduceLE, Int.reduceEq, Int.reduceToNat, Int.reduceBEq, ieq, ine, h1, gone_no (o := o) (by simp [h1])]
abbrev oB (o : Ov) : Blk := .cells [.val (.int .i64 o.k), .val (ptP o.p), .val (.int .i64 o.v.1), .val (.int .i64 o.v.2.1), .val (.str o.v.2.2), .val (.int .i64 o.am), .val (usP o.rs)]
abbrev uB (r : Ud) : Blk := .cells [.val (.int .i64 r.1.1), .val (.int .i64 r.1.2), .val (.int .i64 r.2)]
theorem getD_at {l : List Ud} {k : Nat} (h : k < l.length) : l.getD k z3 = l[k] := by simp [List.getD_eq_getElem?_getD, h]
theorem g_pref11_Short (h : S_pShort (C (F n_pref10_Short))) : S_oShort ((c_pref11_Short F).gives C) := by
  intro o
  refine gives_of rfl ?_
  unfold c_pref11_Short oShort
  simp only [walk, Nat.reduceLT, Nat.reduceBEq, Nat.reduceAdd, Nat.reduceLeDiff, reduceIte, Int.reduceLT, Int.reduceLE, Int.reduceEq, Int.reduceToNat, Int.reduceBEq]
  refine callWp_of (h o.p) ?_
  have e2 : ((o.v.2.2.length : Int) ≤ 200) = (o.v.2.2.length ≤ 200) := by apply propext; omega
  have e3 : ((o.rs.length : Int) ≤ 300) = (o.rs.length ≤ 300) := by apply propext; omega
  cases hp : pShort o.p with
  | false => simp only [walk, Nat.reduceLT, Nat.reduceBEq, Nat.reduceAdd, Nat.reduceLeDiff, reduceIte, Int.reduceLT, Int.reduceLE, Int.reduceEq, Int.reduceToNat, Int.reduceBEq]
  | true =>
    by_cases d2 : o.v.2.2.length ≤ 200
    · simp only [walk, Nat.reduceLT, Nat.reduceBEq, Nat.reduceAdd, Nat.reduceLeDiff, reduceIte, Int.reduceLT, Int.reduceLE, Int.reduceEq, Int.reduceToNat, Int.reduceBEq, e2, d2, uRows_len, e3]
    · simp only [walk, Nat.reduceLT, Nat.reduceBEq, Nat.reduceAdd, Nat.reduceLeDiff, reduceIte, Int.reduceLT, Int.reduceLE, Int.reduceEq, Int.reduceToNat, Int.reduceBEq, e2, d2]
end
end Go.AR

/-! Operations: what is wrong, and the bytes. -/
namespace Go.AR
open Go
section
variable {C : CallRel} {F : Nat → FuncId}
set_option maxHeartbeats 1000000 in
theorem g_pref11_Check (hP : S_pCheck (C (F n_pref10_Check))) (hV : S_vOk (C (F n_pref09_Right))) (hR : S_refs (C (F n_pref11_Refs))) : S_oCheck ((c_pref11_Check F).gives C) := by
  intro o ho
  unfold oCheck
  refine gives_of rfl ?_
  unfold c_pref11_Check
  have hV := hV o.v ho.2.1
  have hP := hP o.p ho.1
  have hR := hR o.rs ho.2.2
  obtain ⟨k, p, v, am, rs⟩ := o
  simp only at hP hR hV ⊢
  simp only [walk, Nat.reduceLT, Nat.reduceBEq, Nat.reduceAdd, Nat.reduceLeDiff, reduceIte, Int.reduceLT, Int.reduceLE, Int.reduceEq, Int.reduceToNat, Int.reduceBEq, ieq, ine, ne_eq, decide_not]
  by_cases h1 : k < 1
  · simp only [walk, Nat.reduceLT, Nat.reduceBEq, Nat.reduceAdd, Nat.reduceLeDiff, reduceIte, Int.reduceLT, Int.reduceLE, Int.reduceEq, Int.reduceToNat, Int.reduceBEq, h1, true_or]
  by_cases h2 : k > 5
  · simp only [walk, Nat.reduceLT, Nat.reduceBEq, Nat.reduceAdd, Nat.reduceLeDiff, reduceIte, Int.reduceLT, Int.reduceLE, Int.reduceEq, Int.reduceToNat, Int.reduceBEq, h1, h2, or_true]
  simp only [walk, Nat.reduceLT, Nat.reduceBEq, Nat.reduceAdd, Nat.reduceLeDiff, reduceIte, Int.reduceLT, Int.reduceLE, Int.reduceEq, Int.reduceToNat, Int.reduceBEq, h1, h2, or_self]
  refine callWp_of hP ?_
  by_cases hp : pCheck p = 0
  · have hk : k = 1 ∨ k = 2 ∨ k = 3 ∨ k = 4 ∨ k = 5 := by omega
    have e0 : ((rs.length : Int) > 0) = (rs.length > 0) := by apply propext; omega
    have e6 : ((rs.length : Int) > 256) = (rs.length > 256) := by apply propext; omega
    rcases hk with rfl | rfl | rfl | rfl | rfl
    all_goals simp only [walk, Nat.reduceLT, Nat.reduceBEq, Nat.reduceAdd, Nat.reduceLeDiff, reduceIte, Int.reduceLT, Int.reduceLE, Int.reduceEq, Int.reduceToNat, Int.reduceBEq, ieq, ine, ne_eq, decide_not, hp, eq_v0, or_self, or_true, true_or, false_or, or_false, and_self, false_and, and_false]
    all_goals try (refine callWp_of hV ?_; cases vOk v <;> simp only [walk, Nat.reduceLT, Nat.reduceBEq, Nat.reduceAdd, Nat.reduceLeDiff, reduceIte, Int.reduceLT, Int.reduceLE, Int.reduceEq, Int.reduceToNat, Int.reduceBEq, ieq, ine, ne_eq, decide_not, uRows_len, e0, e6, or_self, or_true, true_or, false_or, or_false, and_self, false_and, and_false])
    all_goals try (by_cases dv : v = z0 <;> simp only [walk, Nat.reduceLT, Nat.reduceBEq, Nat.reduceAdd, Nat.reduceLeDiff, reduceIte, Int.reduceLT, Int.reduceLE, Int.reduceEq, Int.reduceToNat, Int.reduceBEq, ieq, ine, ne_eq, decide_not, uRows_len, e0, e6, or_self, or_true, true_or, false_or, or_false, and_self, false_and, and_false, dv])
    all_goals try (by_cases da : am = 0 <;> simp only [walk, Nat.reduceLT, Nat.reduceBEq, Nat.reduceAdd, Nat.reduceLeDiff, reduceIte, Int.reduceLT, Int.reduceLE, Int.reduceEq, Int.reduceToNat, Int.reduceBEq, ieq, ine, ne_eq, decide_not, uRows_len, e0, e6, or_self, or_true, true_or, false_or, or_false, and_self, false_and, and_false, da])
    all_goals try (by_cases db : am > 2147483647 <;> simp only [walk, Nat.reduceLT, Nat.reduceBEq, Nat.reduceAdd, Nat.reduceLeDiff, reduceIte, Int.reduceLT, Int.reduceLE, Int.reduceEq, Int.reduceToNat, Int.reduceBEq, ieq, ine, ne_eq, decide_not, uRows_len, e0, e6, or_self, or_true, true_or, false_or, or_false, and_self, false_and, and_false, db])
    all_goals try (by_cases dc : am < -2147483647 <;> simp only [walk, Nat.reduceLT, Nat.reduceBEq, Nat.reduceAdd, Nat.reduceLeDiff, reduceIte, Int.reduceLT, Int.reduceLE, Int.reduceEq, Int.reduceToNat, Int.reduceBEq, ieq, ine, ne_eq, decide_not, uRows_len, e0, e6, or_self, or_true, true_or, false_or, or_false, and_self, false_and, and_false, dc])
    all_goals try (by_cases d0 : rs.length > 0 <;> simp only [walk, Nat.reduceLT, Nat.reduceBEq, Nat.reduceAdd, Nat.reduceLeDiff, reduceIte, Int.reduceLT, Int.reduceLE, Int.reduceEq, Int.reduceToNat, Int.reduceBEq, ieq, ine, ne_eq, decide_not, uRows_len, e0, e6, or_self, or_true, true_or, false_or, or_false, and_self, false_and, and_false, d0])
    all_goals try (by_cases d6 : rs.length > 256 <;> simp only [walk, Nat.reduceLT, Nat.reduceBEq, Nat.reduceAdd, Nat.reduceLeDiff, reduceIte, Int.reduceLT, Int.reduceLE, Int.reduceEq, Int.reduceToNat, Int.reduceBEq, ieq, ine, ne_eq, decide_not, uRows_len, e0, e6, or_self, or_true, true_or, false_or, or_false, and_self, false_and, and_false, d6])
    all_goals try (refine callWp_of hR ?_; cases refsOk rs <;> simp only [walk, Nat.reduceLT, Nat.reduceBEq, Nat.reduceAdd, Nat.reduceLeDiff, reduceIte, Int.reduceLT, Int.reduceLE, Int.reduceEq, Int.reduceToNat, Int.reduceBEq, ieq, ine, ne_eq, decide_not, uRows_len, e0, e6, or_self, or_true, true_or, false_or, or_false, and_self, false_and, and_false])
  · simp only [walk, Nat.reduceLT, Nat.reduceBEq, Nat.reduceAdd, Nat.reduceLeDiff, reduceIte, Int.reduceLT, Int.reduceLE, Int.reduceEq, Int.reduceToNat, Int.reduceBEq, ieq, ine, ne_eq, decide_not, hp]
end
end Go.AR

/-! Paths: the laws. -/
namespace Go.AR
open Go
theorem lead_le {c k least c0 : Nat} (h : lead c = some (k, least, c0)) : k ≤ 3 := by
  unfold lead at h
  split at h
  · cases h; omega
  · split at h
    · cases h; omega
    · split at h
      · cases h; omega
      · cases h
theorem chr4 (l : List UInt8) : (chr l).2 ≤ 4 := by
  unfold chr
  repeat' split
  all_goals simp
  rename_i h1 _ _ _ _ _
  exact lead_le h1
theorem Wd.len {l : List UInt8} {n : Nat} (h : Wd l n) : l.length ≤ 4 * n := by
  induction h with
  | nil => simp
  | cons h hm hr ih =>
    rename_i l n
    have := chr4 l
    rw [List.length_drop] at ih
    omega
theorem short_ok {p : List (List UInt8)} (h : pShort p = true) : pOk p := by
  unfold pShort at h
  simp only [Bool.and_eq_true, decide_eq_true_eq, List.all_eq_true] at h
  exact ⟨by omega, fun s hs => by have := h.2 s hs; omega⟩
section
variable {C : CallRel} {F : Nat → FuncId}
end
end Go.AR

/-! Transactions, by definition. -/
namespace Go.AR
open Go
structure Tx where
  d : Dt
  u : Int
  t : Int
  un : Bool
  ops : List Ov
deriving DecidableEq
def zt : Tx := ⟨(0, 0), 0, 0, false, []⟩
/-- What is wrong with the first that may not be. -/
def opsCheck (un : Bool) : List Ov → Int
  | [] => 0
  | o :: l => if oCheck o ≠ 0 ∧ (un && oGone o) = false then oCheck o else opsCheck un l
def tCheck (x : Tx) : Int :=
  if dotOk x.d = false ∨ x.u < 0 ∨ x.u > 7 ∨ x.t < 1 ∨ x.t > 1099511627776 then 2
  else if x.ops.length = 0 then 11 else if x.ops.length > 16 then 7 else opsCheck x.un x.ops
def tShort (x : Tx) : Bool := decide (x.ops.length ≤ 20) && x.ops.all oShort
theorem opsCheck_split (un : Bool) : ∀ (l : List Ov) (k : Nat), (∀ j, j < k → ∀ h : j < l.length, oCheck l[j] = 0 ∨ (un && oGone l[j]) = true) → opsCheck un l = opsCheck un (l.drop k)
  | l, 0, _ => rfl
  | [], k + 1, _ => rfl
  | o :: l, k + 1, h => by
    have h0 := h 0 (by omega) (by simp)
    simp only [List.getElem_cons_zero] at h0
    have ih := opsCheck_split un l k (fun j hj hl => by have := h (j + 1) (by omega) (by simp; omega); rwa [List.getElem_cons_succ] at this)
    rw [opsCheck, List.drop_succ_cons, ← ih, if_neg]
    rintro ⟨h1, h2⟩
    rcases h0 with h0 | h0
    · exact h1 h0
    · rw [h0] at h2; cases h2
end Go.AR

/-! Operations: the laws. -/
namespace Go.AR
open Go
section
variable {C : CallRel} {F : Nat → FuncId}
theorem short_oOk {o : Ov} (h : oShort o = true) : oOk o ∧ o.p.length ≤ 12 := by
  unfold oShort at h
  simp only [Bool.and_eq_true, decide_eq_true_eq] at h
  refine ⟨⟨short_ok h.1.1, by omega, by omega⟩, ?_⟩
  have := h.1.1
  unfold pShort at this
  simp only [Bool.and_eq_true, decide_eq_true_eq] at this
  exact this.1
end
end Go.AR

/-! Transactions: the questions. -/
namespace Go.AR
open Go
section
variable {C : CallRel} {F : Nat → FuncId}
def oRows (l : List Ov) : List (List PV) := l.map oCells
theorem oRows_len (l : List Ov) : (oRows l).length = l.length := by simp [oRows]
theorem oRows_get {l : List Ov} {k : Nat} (h : k < l.length) : (oRows l)[k]? = some (oCells l[k]) := by simp [oRows, h]
abbrev osP (l : List Ov) : PV := .sl 7 (oRows l)
abbrev tCells (x : Tx) : List PV := [.int .i64 x.d.1, .int .i64 x.d.2, .int .i64 x.u, .int .i64 x.t, .bool x.un, osP x.ops]
abbrev tP (x : Tx) : PV := .agg (tCells x)
abbrev tB (x : Tx) : Blk := .cells [.val (.int .i64 x.d.1), .val (.int .i64 x.d.2), .val (.int .i64 x.u), .val (.int .i64 x.t), .val (.bool x.un), .val (osP x.ops)]
def tOk (x : Tx) : Prop := x.ops.length ≤ 2000000 ∧ ∀ o ∈ x.ops, oOk o
def S_tShort (R : Rel) : Prop := ∀ x : Tx, R [.v (tP x)] (.val (.bool (tShort x))) []
def S_tCheck (R : Rel) : Prop := ∀ x : Tx, tOk x → R [.v (tP x)] (.val (.int .i64 (tCheck x))) []
theorem g_pref12_Short (h : S_oShort (C (F n_pref11_Short))) : S_tShort ((c_pref12_Short F).gives C) := by
  intro x
  refine gives_of rfl ?_
  unfold c_pref12_Short tShort
  have e0 : ((x.ops.length : Int) > 20) = (20 < x.ops.length) := by apply propext; omega
  simp only [walk, Nat.reduceLT, Nat.reduceBEq, Nat.reduceAdd, Nat.reduceLeDiff, reduceIte, Int.reduceLT, Int.reduceLE, Int.reduceEq, Int.reduceToNat, Int.reduceBEq, oRows_len, e0]
  by_cases hl : 20 < x.ops.length
  · have : ¬ x.ops.length ≤ 20 := by omega
    simp only [walk, Nat.reduceLT, Nat.reduceBEq, Nat.reduceAdd, Nat.reduceLeDiff, reduceIte, Int.reduceLT, Int.reduceLE, Int.reduceEq, Int.reduceToNat, Int.reduceBEq, hl, this]
  · have hl2 : x.ops.length ≤ 20 := by omega
    simp only [walk, Nat.reduceLT, Nat.reduceBEq, Nat.reduceAdd, Nat.reduceLeDiff, reduceIte, Int.reduceLT, Int.reduceLE, Int.reduceEq, Int.reduceToNat, Int.reduceBEq, hl, hl2]
    refine awp_loop_ind (X := Nat) (fun k => ⟨[(0, .val (tP x)), (1, .lp 1 0), (2, .val (.bool false)), (3, .val (.int .i64 k)), (7, .val (.bool false))], [(1, tB x)]⟩)
      (fun k => k ≤ x.ops.length ∧ (x.ops.take k).all oShort = true) (fun k => x.ops.length - k) 0 ⟨by omega, by simp⟩ rfl ?_
    rintro R k ⟨hk, hJ⟩ ih
    simp only [walk, Nat.reduceLT, Nat.reduceBEq, Nat.reduceAdd, Nat.reduceLeDiff, reduceIte, Int.reduceLT, Int.reduceLE, Int.reduceEq, Int.reduceToNat, Int.reduceBEq, oRows_len]
    by_cases c : k < x.ops.length
    · have c1 : (k : Int) < x.ops.length := by omega
      have c0 : (0 : Int) ≤ k := by omega
      have e1 : IntKind.i64.wrap ((k : Int) + 1) = ((k + 1 : Nat) : Int) := wrap64 (by omega) (by omega)
      simp only [walk, Nat.reduceLT, Nat.reduceBEq, Nat.reduceAdd, Nat.reduceLeDiff, reduceIte, Int.reduceLT, Int.reduceLE, Int.reduceEq, Int.reduceToNat, Int.reduceBEq, c1, oRows_get c, oRows_len]
      refine callWp_of (h x.ops[k]) ?_
      cases hr : oShort x.ops[k] with
      | true =>
        simp only [walk, Nat.reduceLT, Nat.reduceBEq, Nat.reduceAdd, Nat.reduceLeDiff, reduceIte, Int.reduceLT, Int.reduceLE, Int.reduceEq, Int.reduceToNat, Int.reduceBEq, e1]
        refine ih (k + 1) ⟨by omega, ?_⟩ (by omega)
        rw [List.take_add_one, List.getElem?_eq_getElem c, List.all_append, hJ]
        simp [hr]
      | false =>
        have hf : x.ops.all oShort = false := by
          rw [Bool.eq_false_iff]; intro h
          have := List.all_eq_true.1 h _ (List.getElem_mem c)
          rw [hr] at this; cases this
        simp only [walk, Nat.reduceLT, Nat.reduceBEq, Nat.reduceAdd, Nat.reduceLeDiff, reduceIte, Int.reduceLT, Int.reduceLE, Int.reduceEq, Int.reduceToNat, Int.reduceBEq, hf]
    · have c1 : ¬ (k : Int) < x.ops.length := by omega
      rw [List.take_of_length_le (by omega)] at hJ
      simp only [walk, Nat.reduceLT, Nat.reduceBEq, Nat.reduceAdd, Nat.reduceLeDiff, reduceIte, Int.reduceLT, Int.reduceLE, Int.reduceEq, Int.reduceToNat, Int.reduceBEq, c1, hJ]
end
end Go.AR

/-! Transactions: more questions. -/
namespace Go.AR
open Go
section
variable {C : CallRel} {F : Nat → FuncId}
theorem g_pref12_Check (hD : S_dotOk (C (F n_pref04_Right))) (hG : S_oGone (C (F n_pref11_Gone))) (hC : S_oCheck (C (F n_pref11_Check))) : S_tCheck ((c_pref12_Check F).gives C) := by
  intro x hx
  refine gives_of rfl ?_
  unfold c_pref12_Check tCheck
  obtain ⟨hl, hok⟩ := hx
  simp only [walk, Nat.reduceLT, Nat.reduceBEq, Nat.reduceAdd, Nat.reduceLeDiff, reduceIte, Int.reduceLT, Int.reduceLE, Int.reduceEq, Int.reduceToNat, Int.reduceBEq]
  refine callWp_of (hD x.d) ?_
  cases hd : dotOk x.d with
  | false => simp only [walk, Nat.reduceLT, Nat.reduceBEq, Nat.reduceAdd, Nat.reduceLeDiff, reduceIte, Int.reduceLT, Int.reduceLE, Int.reduceEq, Int.reduceToNat, Int.reduceBEq, true_or]
  | true =>
  simp only [walk, Nat.reduceLT, Nat.reduceBEq, Nat.reduceAdd, Nat.reduceLeDiff, reduceIte, Int.reduceLT, Int.reduceLE, Int.reduceEq, Int.reduceToNat, Int.reduceBEq]
  by_cases h1 : x.u < 0
  · simp only [walk, Nat.reduceLT, Nat.reduceBEq, Nat.reduceAdd, Nat.reduceLeDiff, reduceIte, Int.reduceLT, Int.reduceLE, Int.reduceEq, Int.reduceToNat, Int.reduceBEq, h1, or_true, true_or]
  by_cases h2 : x.u > 7
  · simp only [walk, Nat.reduceLT, Nat.reduceBEq, Nat.reduceAdd, Nat.reduceLeDiff, reduceIte, Int.reduceLT, Int.reduceLE, Int.reduceEq, Int.reduceToNat, Int.reduceBEq, h1, h2, or_true, true_or]
  by_cases h3 : x.t < 1
  · simp only [walk, Nat.reduceLT, Nat.reduceBEq, Nat.reduceAdd, Nat.reduceLeDiff, reduceIte, Int.reduceLT, Int.reduceLE, Int.reduceEq, Int.reduceToNat, Int.reduceBEq, h1, h2, h3, or_true, true_or]
  by_cases h4 : x.t > 1099511627776
  · simp only [walk, Nat.reduceLT, Nat.reduceBEq, Nat.reduceAdd, Nat.reduceLeDiff, reduceIte, Int.reduceLT, Int.reduceLE, Int.reduceEq, Int.reduceToNat, Int.reduceBEq, h1, h2, h3, h4, or_true, true_or]
  simp only [walk, Nat.reduceLT, Nat.reduceBEq, Nat.reduceAdd, Nat.reduceLeDiff, reduceIte, Int.reduceLT, Int.reduceLE, Int.reduceEq, Int.reduceToNat, Int.reduceBEq, h1, h2, h3, h4, or_self, oRows_len, ieq]
  by_cases h5 : x.ops.length = 0
  · have h5' : (x.ops.length : Int) = 0 := by omega
    simp only [walk, Nat.reduceLT, Nat.reduceBEq, Nat.reduceAdd, Nat.reduceLeDiff, reduceIte, Int.reduceLT, Int.reduceLE, Int.reduceEq, Int.reduceToNat, Int.reduceBEq, h5, h5', ieq]
  have h5' : ¬ (x.ops.length : Int) = 0 := by omega
  by_cases h6 : x.ops.length > 16
  · have h6' : (x.ops.length : Int) > 16 := by omega
    simp only [walk, Nat.reduceLT, Nat.reduceBEq, Nat.reduceAdd, Nat.reduceLeDiff, reduceIte, Int.reduceLT, Int.reduceLE, Int.reduceEq, Int.reduceToNat, Int.reduceBEq, h5, h5', h6, h6', oRows_len]
  have h6' : ¬ (x.ops.length : Int) > 16 := by omega
  simp only [walk, Nat.reduceLT, Nat.reduceBEq, Nat.reduceAdd, Nat.reduceLeDiff, reduceIte, Int.reduceLT, Int.reduceLE, Int.reduceEq, Int.reduceToNat, Int.reduceBEq, h5, h5', h6, h6', oRows_len]
  refine awp_loop_ind (X := Nat) (fun k => ⟨[(0, .val (tP x)), (1, .lp 1 0), (2, .val (.int .i64 0)), (3, .val (.int .i64 k)), (28, .val (.bool false)), (32, .val (.bool false)), (36, .val (.bool false))], [(1, tB x)]⟩)
    (fun k => k ≤ x.ops.length ∧ ∀ j, j < k → ∀ h : j < x.ops.length, oCheck x.ops[j] = 0 ∨ (x.un && oGone x.ops[j]) = true) (fun k => x.ops.length - k) 0 ⟨by omega, by omega⟩ rfl ?_
  rintro R k ⟨hk, hJ⟩ ih
  simp only [walk, Nat.reduceLT, Nat.reduceBEq, Nat.reduceAdd, Nat.reduceLeDiff, reduceIte, Int.reduceLT, Int.reduceLE, Int.reduceEq, Int.reduceToNat, Int.reduceBEq, oRows_len]
  rw [opsCheck_split x.un x.ops k hJ]
  by_cases c : k < x.ops.length
  · have c1 : (k : Int) < x.ops.length := by omega
    have c0 : (0 : Int) ≤ k := by omega
    have e1 : IntKind.i64.wrap ((k : Int) + 1) = ((k + 1 : Nat) : Int) := wrap64 (by omega) (by omega)
    have next : (oCheck x.ops[k] = 0 ∨ (x.un && oGone x.ops[k]) = true) → _ := fun h => ih (k + 1) ⟨by omega, fun j hj hl => by
      by_cases e : j = k
      · subst e; exact h
      · exact hJ j (by omega) hl⟩ (by omega)
    rw [List.drop_eq_getElem_cons c, opsCheck]
    have hok := hok _ (List.getElem_mem c)
    have hgk := oRows_get c
    generalize x.ops[k] = o at *
    have hG := hG o
    have hC := hC o hok
    simp only [walk, Nat.reduceLT, Nat.reduceBEq, Nat.reduceAdd, Nat.reduceLeDiff, reduceIte, Int.reduceLT, Int.reduceLE, Int.reduceEq, Int.reduceToNat, Int.reduceBEq, c1, hgk, oRows_len]
    refine callWp_of hC ?_
    by_cases hc : oCheck o = 0
    · cases hun : x.un with
      | false =>
        simp only [walk, Nat.reduceLT, Nat.reduceBEq, Nat.reduceAdd, Nat.reduceLeDiff, reduceIte, Int.reduceLT, Int.reduceLE, Int.reduceEq, Int.reduceToNat, Int.reduceBEq, hc, bne_self_eq_false, e1]
        rw [hun] at next
        exact next (.inl hc)
      | true =>
        simp only [walk, Nat.reduceLT, Nat.reduceBEq, Nat.reduceAdd, Nat.reduceLeDiff, reduceIte, Int.reduceLT, Int.reduceLE, Int.reduceEq, Int.reduceToNat, Int.reduceBEq, hc, bne_self_eq_false, e1]
        rw [hun] at next
        exact next (.inl hc)
    · have hc' : (oCheck o != 0) = true := by simp [hc]
      cases hun : x.un with
      | false => simp only [walk, Nat.reduceLT, Nat.reduceBEq, Nat.reduceAdd, Nat.reduceLeDiff, reduceIte, Int.reduceLT, Int.reduceLE, Int.reduceEq, Int.reduceToNat, Int.reduceBEq, hun, hc', hc, ne_eq, and_self]
      | true =>
        simp only [walk, Nat.reduceLT, Nat.reduceBEq, Nat.reduceAdd, Nat.reduceLeDiff, reduceIte, Int.reduceLT, Int.reduceLE, Int.reduceEq, Int.reduceToNat, Int.reduceBEq, hun, hc', hc, c1, hgk, oRows_len]
        refine callWp_of hG ?_
        cases hg : oGone o with
        | true =>
          simp only [walk, Nat.reduceLT, Nat.reduceBEq, Nat.reduceAdd, Nat.reduceLeDiff, reduceIte, Int.reduceLT, Int.reduceLE, Int.reduceEq, Int.reduceToNat, Int.reduceBEq, e1]
          rw [hun] at next
          exact next (.inr (by simp [hg]))
        | false => simp only [walk, Nat.reduceLT, Nat.reduceBEq, Nat.reduceAdd, Nat.reduceLeDiff, reduceIte, Int.reduceLT, Int.reduceLE, Int.reduceEq, Int.reduceToNat, Int.reduceBEq, hc', hc, ne_eq, and_self]
  · have c1 : ¬ (k : Int) < x.ops.length := by omega
    rw [List.drop_eq_nil_of_le (by omega), opsCheck]
    simp only [walk, Nat.reduceLT, Nat.reduceBEq, Nat.reduceAdd, Nat.reduceLeDiff, reduceIte, Int.reduceLT, Int.reduceLE, Int.reduceEq, Int.reduceToNat, Int.reduceBEq, c1]
end
end Go.AR

/-! Transactions: places. -/
namespace Go.AR
open Go
section
variable {C : CallRel} {F : Nat → FuncId}
def tRows (l : List Tx) : List (List PV) := l.map tCells
theorem tRows_len (l : List Tx) : (tRows l).length = l.length := by simp [tRows]
theorem tRows_get {l : List Tx} {k : Nat} (h : k < l.length) : (tRows l)[k]? = some (tCells l[k]) := by simp [tRows, h]
abbrev tsP (l : List Tx) : PV := .sl 6 (tRows l)
theorem getT_at {l : List Tx} {k : Nat} (h : k < l.length) : l.getD k zt = l[k] := by simp [List.getD_eq_getElem?_getD, h]
theorem tShort_ok {x : Tx} (h : tShort x = true) : x.ops.length ≤ 20 ∧ (∀ o ∈ x.ops, oShort o = true) ∧ tOk x := by
  unfold tShort at h
  simp only [Bool.and_eq_true, decide_eq_true_eq, List.all_eq_true] at h
  exact ⟨h.1, h.2, by omega, fun o ho => (short_oOk (h.2 o ho)).1⟩
end
end Go.AR
