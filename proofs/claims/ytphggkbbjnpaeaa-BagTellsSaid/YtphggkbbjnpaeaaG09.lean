import Derived.Test.YtphggkbbjnpaeaaG05
import Derived.Test.YtphggkbbjnpaeaaG08
import Derived.Test.YtphggkbbjnpaeaaG02
import Derived.Test.YtphggkbbjnpaeaaG03
set_option linter.all false
/-! Counts of dots: the small functions. -/
namespace Go.AR
open Go
section
variable {C : CallRel} {F : Nat → FuncId}
abbrev dP (d : Dt) : PV := .agg [.int .i64 d.1, .int .i64 d.2]
abbrev uRow (u : Ud) : List PV := [.int .i64 u.1.1, .int .i64 u.1.2, .int .i64 u.2]
abbrev uP (u : Ud) : PV := .agg (uRow u)
def uRows (l : List Ud) : List (List PV) := l.map uRow
theorem uRows_len (l : List Ud) : (uRows l).length = l.length := by simp [uRows]
theorem uRows_get {l : List Ud} {k : Nat} (h : k < l.length) : (uRows l)[k]? = some [.int .i64 (l.getD k z3).1.1, .int .i64 (l.getD k z3).1.2, .int .i64 (l.getD k z3).2] := by
  simp [uRows, List.getD_eq_getElem?_getD, h]
theorem uRows_app (l : List Ud) (u : Ud) : uRows l ++ [[.int .i64 u.1.1, .int .i64 u.1.2, .int .i64 u.2]] = uRows (l ++ [u]) := by simp [uRows]
abbrev usP (l : List Ud) : PV := .sl 3 (uRows l)
def S_isNaN (R : Rel) : Prop := ∀ x : Int, R [.v (.int .i64 x)] (.val (.bool false)) []
def S_icmp (R : Rel) : Prop := ∀ x y : Int, R [.v (.int .i64 x), .v (.int .i64 y)] (.val (.int .i64 (icmp x y))) []
def S_or2 (R : Rel) : Prop := ∀ x y : Int, R [.v (.sl 1 [[.int .i64 x], [.int .i64 y]])] (.val (.int .i64 (if x ≠ 0 then x else y))) []
def S_dcmp (R : Rel) : Prop := ∀ a b : Dt, R [.v (dP a), .v (dP b)] (.val (.int .i64 (dcmp a b))) []
def S_ucmp (R : Rel) : Prop := ∀ a b : Ud, R [.v (uP a), .v (uP b)] (.val (.int .i64 (dcmp a.1 b.1))) []
def S_dotOk (R : Rel) : Prop := ∀ d : Dt, R [.v (dP d)] (.val (.bool (dotOk d))) []
def S_uOk (R : Rel) : Prop := ∀ u : Ud, R [.v (uP u)] (.val (.bool (uOk u))) []
theorem g_cmp_isNaN_int : S_isNaN ((c_cmp_isNaN_int F).gives C) := by
  intro x
  refine gives_of rfl ?_
  unfold c_cmp_isNaN_int
  have e : (x != x) = false := by simp
  simp only [walk, Nat.reduceLT, Nat.reduceBEq, Nat.reduceAdd, Nat.reduceLeDiff, reduceIte, Int.reduceLT, Int.reduceLE, Int.reduceEq, Int.reduceToNat, Int.reduceBEq, e]
theorem g_cmp_Compare_int (h : S_isNaN (C (F n_cmp_isNaN_int))) : S_icmp ((c_cmp_Compare_int F).gives C) := by
  intro x y
  refine gives_of rfl ?_
  unfold c_cmp_Compare_int icmp
  simp only [walk, Nat.reduceLT, Nat.reduceBEq, Nat.reduceAdd, Nat.reduceLeDiff, reduceIte, Int.reduceLT, Int.reduceLE, Int.reduceEq, Int.reduceToNat, Int.reduceBEq]
  refine callWp_of (h x) ?_
  simp only [walk, Nat.reduceLT, Nat.reduceBEq, Nat.reduceAdd, Nat.reduceLeDiff, reduceIte, Int.reduceLT, Int.reduceLE, Int.reduceEq, Int.reduceToNat, Int.reduceBEq]
  refine callWp_of (h y) ?_
  simp only [walk, Nat.reduceLT, Nat.reduceBEq, Nat.reduceAdd, Nat.reduceLeDiff, reduceIte, Int.reduceLT, Int.reduceLE, Int.reduceEq, Int.reduceToNat, Int.reduceBEq]
  by_cases h1 : x < y
  · simp only [walk, Nat.reduceLT, Nat.reduceBEq, Nat.reduceAdd, Nat.reduceLeDiff, reduceIte, Int.reduceLT, Int.reduceLE, Int.reduceEq, Int.reduceToNat, Int.reduceBEq, h1]
  · by_cases h2 : x > y <;> simp only [walk, Nat.reduceLT, Nat.reduceBEq, Nat.reduceAdd, Nat.reduceLeDiff, reduceIte, Int.reduceLT, Int.reduceLE, Int.reduceEq, Int.reduceToNat, Int.reduceBEq, h1, h2]
theorem g_cmp_Or_int : S_or2 ((c_cmp_Or_int F).gives C) := by
  intro x y
  refine gives_of rfl ?_
  unfold c_cmp_Or_int
  simp only [walk, Nat.reduceLT, Nat.reduceBEq, Nat.reduceAdd, Nat.reduceLeDiff, reduceIte, Int.reduceLT, Int.reduceLE, Int.reduceEq, Int.reduceToNat, Int.reduceBEq]
  refine awp_loop ?_
  simp only [walk, Nat.reduceLT, Nat.reduceBEq, Nat.reduceAdd, Nat.reduceLeDiff, reduceIte, Int.reduceLT, Int.reduceLE, Int.reduceEq, Int.reduceToNat, Int.reduceBEq]
  have w1 : IntKind.i64.wrap ((0 : Int) + 1) = 1 := wrap64 (by omega) (by omega)
  have w2 : IntKind.i64.wrap ((1 : Int) + 1) = 2 := wrap64 (by omega) (by omega)
  by_cases hx : x = 0
  · subst hx
    have e : ((0 : Int) != 0) = false := rfl
    simp only [walk, Nat.reduceLT, Nat.reduceBEq, Nat.reduceAdd, Nat.reduceLeDiff, reduceIte, Int.reduceLT, Int.reduceLE, Int.reduceEq, Int.reduceToNat, Int.reduceBEq, e, w1]
    refine awp_loop ?_
    have t1 : (1 : Int).toNat = 1 := rfl
    simp only [walk, Nat.reduceLT, Nat.reduceBEq, Nat.reduceAdd, Nat.reduceLeDiff, reduceIte, Int.reduceLT, Int.reduceLE, Int.reduceEq, Int.reduceToNat, Int.reduceBEq, t1]
    by_cases hy : y = 0
    · subst hy
      simp only [walk, Nat.reduceLT, Nat.reduceBEq, Nat.reduceAdd, Nat.reduceLeDiff, reduceIte, Int.reduceLT, Int.reduceLE, Int.reduceEq, Int.reduceToNat, Int.reduceBEq, e, w2]
      refine awp_loop ?_
      simp only [walk, Nat.reduceLT, Nat.reduceBEq, Nat.reduceAdd, Nat.reduceLeDiff, reduceIte, Int.reduceLT, Int.reduceLE, Int.reduceEq, Int.reduceToNat, Int.reduceBEq, ne_eq]
    · have e2 : (y != 0) = true := by simp [hy]
      simp only [walk, Nat.reduceLT, Nat.reduceBEq, Nat.reduceAdd, Nat.reduceLeDiff, reduceIte, Int.reduceLT, Int.reduceLE, Int.reduceEq, Int.reduceToNat, Int.reduceBEq, e2, ne_eq]
  · have e : (x != 0) = true := by simp [hx]
    simp only [walk, Nat.reduceLT, Nat.reduceBEq, Nat.reduceAdd, Nat.reduceLeDiff, reduceIte, Int.reduceLT, Int.reduceLE, Int.reduceEq, Int.reduceToNat, Int.reduceBEq, e, hx, ne_eq]
theorem g_dot_Compare (h : S_icmp (C (F n_cmp_Compare_int))) (ho : S_or2 (C (F n_cmp_Or_int))) : S_dcmp ((c_dot_Compare F).gives C) := by
  intro a b
  refine gives_of rfl ?_
  unfold c_dot_Compare
  simp only [walk, Nat.reduceLT, Nat.reduceBEq, Nat.reduceAdd, Nat.reduceLeDiff, reduceIte, Int.reduceLT, Int.reduceLE, Int.reduceEq, Int.reduceToNat, Int.reduceBEq]
  refine callWp_of (h _ _) ?_
  simp only [walk, Nat.reduceLT, Nat.reduceBEq, Nat.reduceAdd, Nat.reduceLeDiff, reduceIte, Int.reduceLT, Int.reduceLE, Int.reduceEq, Int.reduceToNat, Int.reduceBEq]
  refine callWp_of (h _ _) ?_
  simp only [walk, Nat.reduceLT, Nat.reduceBEq, Nat.reduceAdd, Nat.reduceLeDiff, reduceIte, Int.reduceLT, Int.reduceLE, Int.reduceEq, Int.reduceToNat, Int.reduceBEq]
  refine callWp_of (ho _ _) ?_
  simp only [walk, Nat.reduceLT, Nat.reduceBEq, Nat.reduceAdd, Nat.reduceLeDiff, reduceIte, Int.reduceLT, Int.reduceLE, Int.reduceEq, Int.reduceToNat, Int.reduceBEq, dcmp]
theorem g_tally_compare (h : S_dcmp (C (F n_dot_Compare))) : S_ucmp ((c_tally_compare F).gives C) := by
  intro a b
  refine gives_of rfl ?_
  unfold c_tally_compare
  simp only [walk, Nat.reduceLT, Nat.reduceBEq, Nat.reduceAdd, Nat.reduceLeDiff, reduceIte, Int.reduceLT, Int.reduceLE, Int.reduceEq, Int.reduceToNat, Int.reduceBEq]
  refine callWp_of (h a.1 b.1) ?_
  simp only [walk, Nat.reduceLT, Nat.reduceBEq, Nat.reduceAdd, Nat.reduceLeDiff, reduceIte, Int.reduceLT, Int.reduceLE, Int.reduceEq, Int.reduceToNat, Int.reduceBEq]
theorem g_pref04_ints : S_icmp ((c_pref04_ints F).gives C) := by
  intro x y
  refine gives_of rfl ?_
  unfold c_pref04_ints icmp
  simp only [walk, Nat.reduceLT, Nat.reduceBEq, Nat.reduceAdd, Nat.reduceLeDiff, reduceIte, Int.reduceLT, Int.reduceLE, Int.reduceEq, Int.reduceToNat, Int.reduceBEq]
  by_cases h1 : x < y
  · simp only [walk, Nat.reduceLT, Nat.reduceBEq, Nat.reduceAdd, Nat.reduceLeDiff, reduceIte, Int.reduceLT, Int.reduceLE, Int.reduceEq, Int.reduceToNat, Int.reduceBEq, h1]
  · by_cases h2 : x > y <;> simp only [walk, Nat.reduceLT, Nat.reduceBEq, Nat.reduceAdd, Nat.reduceLeDiff, reduceIte, Int.reduceLT, Int.reduceLE, Int.reduceEq, Int.reduceToNat, Int.reduceBEq, h1, h2]
theorem g_pref04_Compare (h : S_icmp (C (F n_pref04_ints))) : S_dcmp ((c_pref04_Compare F).gives C) := by
  intro a b
  refine gives_of rfl ?_
  unfold c_pref04_Compare dcmp
  simp only [walk, Nat.reduceLT, Nat.reduceBEq, Nat.reduceAdd, Nat.reduceLeDiff, reduceIte, Int.reduceLT, Int.reduceLE, Int.reduceEq, Int.reduceToNat, Int.reduceBEq]
  by_cases h1 : a.1 = b.1
  · have e : (a.1 != b.1) = false := by simp [h1]
    have e2 : icmp a.1 b.1 = 0 := by rw [h1]; simp [icmp]
    simp only [walk, Nat.reduceLT, Nat.reduceBEq, Nat.reduceAdd, Nat.reduceLeDiff, reduceIte, Int.reduceLT, Int.reduceLE, Int.reduceEq, Int.reduceToNat, Int.reduceBEq, e]
    refine callWp_of (h _ _) ?_
    simp only [walk, Nat.reduceLT, Nat.reduceBEq, Nat.reduceAdd, Nat.reduceLeDiff, reduceIte, Int.reduceLT, Int.reduceLE, Int.reduceEq, Int.reduceToNat, Int.reduceBEq, e2, ne_eq]
  · have e : (a.1 != b.1) = true := by simp [h1]
    have e2 : icmp a.1 b.1 ≠ 0 := by unfold icmp; split; · omega
                                     · split <;> omega
    simp only [walk, Nat.reduceLT, Nat.reduceBEq, Nat.reduceAdd, Nat.reduceLeDiff, reduceIte, Int.reduceLT, Int.reduceLE, Int.reduceEq, Int.reduceToNat, Int.reduceBEq, e]
    refine callWp_of (h _ _) ?_
    simp only [walk, Nat.reduceLT, Nat.reduceBEq, Nat.reduceAdd, Nat.reduceLeDiff, reduceIte, Int.reduceLT, Int.reduceLE, Int.reduceEq, Int.reduceToNat, Int.reduceBEq, e2, ne_eq]
theorem g_pref04_Right : S_dotOk ((c_pref04_Right F).gives C) := by
  intro d
  refine gives_of rfl ?_
  unfold c_pref04_Right dotOk
  simp only [walk, Nat.reduceLT, Nat.reduceBEq, Nat.reduceAdd, Nat.reduceLeDiff, reduceIte, Int.reduceLT, Int.reduceLE, Int.reduceEq, Int.reduceToNat, Int.reduceBEq]
  by_cases h1 : d.1 ≥ 0 <;> simp only [walk, Nat.reduceLT, Nat.reduceBEq, Nat.reduceAdd, Nat.reduceLeDiff, reduceIte, Int.reduceLT, Int.reduceLE, Int.reduceEq, Int.reduceToNat, Int.reduceBEq, h1]
  have h2' : (d.1 ≤ 15) = (d.1 < 16) := by apply propext; omega
  by_cases h2 : d.1 < 16 <;> simp only [walk, Nat.reduceLT, Nat.reduceBEq, Nat.reduceAdd, Nat.reduceLeDiff, reduceIte, Int.reduceLT, Int.reduceLE, Int.reduceEq, Int.reduceToNat, Int.reduceBEq, h2, h2']
  by_cases h3 : d.2 ≥ 1 <;> simp only [walk, Nat.reduceLT, Nat.reduceBEq, Nat.reduceAdd, Nat.reduceLeDiff, reduceIte, Int.reduceLT, Int.reduceLE, Int.reduceEq, Int.reduceToNat, Int.reduceBEq, h3]
theorem g_pref08_one (h : S_dotOk (C (F n_pref04_Right))) : S_uOk ((c_pref08_one F).gives C) := by
  intro u
  refine gives_of rfl ?_
  unfold c_pref08_one uOk
  simp only [walk, Nat.reduceLT, Nat.reduceBEq, Nat.reduceAdd, Nat.reduceLeDiff, reduceIte, Int.reduceLT, Int.reduceLE, Int.reduceEq, Int.reduceToNat, Int.reduceBEq]
  refine callWp_of (h u.1) ?_
  cases dotOk u.1 <;> simp only [walk, Nat.reduceLT, Nat.reduceBEq, Nat.reduceAdd, Nat.reduceLeDiff, reduceIte, Int.reduceLT, Int.reduceLE, Int.reduceEq, Int.reduceToNat, Int.reduceBEq]
  by_cases h3 : u.2 ≥ 1 <;> simp only [walk, Nat.reduceLT, Nat.reduceBEq, Nat.reduceAdd, Nat.reduceLeDiff, reduceIte, Int.reduceLT, Int.reduceLE, Int.reduceEq, Int.reduceToNat, Int.reduceBEq, h3]
end
end Go.AR

/-! Names: quoting and splitting. -/
namespace Go.AR
open Go
section
variable {C : CallRel} {F : Nat → FuncId}
def xRows (l : List (List UInt8)) : List (List PV) := l.map fun s => [.str s]
theorem xRows_len (l : List (List UInt8)) : (xRows l).length = l.length := by simp [xRows]
def quo (s : List UInt8) : List UInt8 := s.flatMap fun c => if c = 47 ∨ c = 92 then [92, c] else [c]
end
end Go.AR

/-! Counts of dots: loops. -/
namespace Go.AR
open Go
section
variable {C : CallRel} {F : Nat → FuncId}
def bigL : Nat := 1000000
/-- slices.BinarySearchFunc, asked for a count by its dot. -/
def S_bsf (C : CallRel) (R : Rel) : Prop := ∀ (f : Nat), S_ucmp (C f) → ∀ (l : List Ud) (u : Ud), sortU l → l.length ≤ bigL → R [.v (usP l), .v (uP u), .v (.fn f)] (.val (.tup [.int .i64 (lowU l u.1), .bool (hasU l u.1)])) []
def S_uAt (R : Rel) : Prop := ∀ (l : List Ud) (d : Dt), sortU l → l.length ≤ bigL → R [.v (usP l), .v (dP d)] (.val (.tup [.int .i64 (lowU l d), .bool (hasU l d)])) []
def S_uGet (R : Rel) : Prop := ∀ (l : List Ud) (d : Dt), sortU l → l.length ≤ bigL → R [.v (usP l), .v (dP d)] (.val (.int .i64 (getU l d))) []
def S_uSeen (R : Rel) : Prop := ∀ (l : List Ud) (d : Dt), sortU l → l.length ≤ bigL → R [.v (usP l), .v (dP d)] (.val (.bool (decide ((getU l d).tmod 2 = 0)))) []
def S_uRight (R : Rel) : Prop := ∀ (l : List Ud), l.length ≤ bigL → R [.v (usP l)] (.val (.bool (rightU l))) []
def S_rGet (R : Rel) : Prop := ∀ (l : List Ud) (d : Dt), l.length ≤ bigL → R [.v (usP l), .v (dP d)] (.val (.int .i64 (getU l d))) []
def S_rSeen (R : Rel) : Prop := ∀ (l : List Ud) (d : Dt), l.length ≤ bigL → R [.v (usP l), .v (dP d)] (.val (.bool (decide ((getU l d).tmod 2 = 0)))) []
theorem g_slices_BinarySearchFunc_api_Undo_api_Undo_api_Undo : S_bsf C ((c_slices_BinarySearchFunc_api_Undo_api_Undo_api_Undo F).gives C) := by
  intro f hf l u hs hl
  refine gives_of rfl ?_
  unfold c_slices_BinarySearchFunc_api_Undo_api_Undo_api_Undo
  simp only [walk, Nat.reduceLT, Nat.reduceBEq, Nat.reduceAdd, Nat.reduceLeDiff, reduceIte, Int.reduceLT, Int.reduceLE, Int.reduceEq, Int.reduceToNat, Int.reduceBEq, uRows_len]
  refine awp_loop_ind (X := Nat × Nat) (fun x => ⟨[(0, .val (usP l)), (1, .val (uP u)), (2, .val (.fn f)), (4, .lp 4 0), (6, .val (.int .i64 0)), (7, .val (.bool false)), (8, .val (.int .i64 l.length)), (9, .val (.int .i64 x.1)), (10, .val (.int .i64 x.2))],
      [(4, .cells [.val (.int .i64 u.1.1), .val (.int .i64 u.1.2), .val (.int .i64 u.2)])]⟩)
      (fun x => x.1 ≤ x.2 ∧ x.2 ≤ l.length ∧ (∀ k, k < x.1 → dcmp (l.getD k z3).1 u.1 < 0) ∧ ∀ k, x.2 ≤ k → k < l.length → ¬ dcmp (l.getD k z3).1 u.1 < 0) (fun x => x.2 - x.1) (0, l.length) ⟨by omega, Nat.le_refl _, by omega, by omega⟩ rfl ?_
  rintro R ⟨i, j⟩ ⟨h1, h2, h3, h4⟩ ih
  simp only at h1 h2 h3 h4
  unfold bigL at hl
  simp only [walk, Nat.reduceLT, Nat.reduceBEq, Nat.reduceAdd, Nat.reduceLeDiff, reduceIte, Int.reduceLT, Int.reduceLE, Int.reduceEq, Int.reduceToNat, Int.reduceBEq]
  by_cases hij : i < j
  · have c1 : (i : Int) < j := by omega
    have e1 : IntKind.i64.wrap ((i : Int) + j) = ((i + j : Nat) : Int) := wrap64 (by omega) (by omega)
    have e2 : IntKind.u64.wrap ((i + j : Nat) : Int) = ((i + j : Nat) : Int) := by unfold IntKind.wrap; simp [IntKind.bits, IntKind.signed]; omega
    have e3 : ((i + j : Nat) : Int).fdiv (2 ^ (min (1 : Nat) IntKind.u64.bits)) = (((i + j) / 2 : Nat) : Int) := by
      simp [IntKind.bits, Int.fdiv_eq_ediv]
    have e4 : IntKind.i64.wrap (((i + j) / 2 : Nat) : Int) = (((i + j) / 2 : Nat) : Int) := wrap64 (by omega) (by omega)
    obtain ⟨h, hh⟩ : ∃ h, h = (i + j) / 2 := ⟨_, rfl⟩
    have hb : i ≤ h ∧ h < j := by omega
    have hlt : h < l.length := by omega
    rw [← hh] at e3 e4
    have e5 : IntKind.i64.wrap ((h : Int) + 1) = ((h + 1 : Nat) : Int) := wrap64 (by omega) (by omega)
    simp only [walk, Nat.reduceLT, Nat.reduceBEq, Nat.reduceAdd, Nat.reduceLeDiff, reduceIte, Int.reduceLT, Int.reduceLE, Int.reduceEq, Int.reduceToNat, Int.reduceBEq, c1, e1, e2, e3, e4, uRows_get hlt]
    refine callWp_of (hf _ u) ?_
    simp only [walk, Nat.reduceLT, Nat.reduceBEq, Nat.reduceAdd, Nat.reduceLeDiff, reduceIte, Int.reduceLT, Int.reduceLE, Int.reduceEq, Int.reduceToNat, Int.reduceBEq]
    by_cases c2 : dcmp (l.getD h z3).1 u.1 < 0
    · simp only [walk, Nat.reduceLT, Nat.reduceBEq, Nat.reduceAdd, Nat.reduceLeDiff, reduceIte, Int.reduceLT, Int.reduceLE, Int.reduceEq, Int.reduceToNat, Int.reduceBEq, c2, e5]
      refine ih (h + 1, j) ⟨by simp only; omega, h2, fun k hk => ?_, h4⟩ (by simp only; omega)
      simp only at hk
      by_cases e : k = h
      · subst e; exact c2
      · exact dcmp_trans (hs k h (by omega) hlt) c2
    · simp only [walk, Nat.reduceLT, Nat.reduceBEq, Nat.reduceAdd, Nat.reduceLeDiff, reduceIte, Int.reduceLT, Int.reduceLE, Int.reduceEq, Int.reduceToNat, Int.reduceBEq, c2]
      refine ih (i, h) ⟨by simp only; omega, by simp only; omega, h3, fun k hk hl' => ?_⟩ (by simp only; omega)
      simp only at hk
      by_cases e : k = h
      · subst e; exact c2
      · intro hc
        exact c2 (dcmp_trans (hs h k (by omega) hl') hc)
  · have hij' : i = j := by omega
    subst hij'
    have c1 : ¬ ((i : Int) < i) := by omega
    have q1 : lowU l u.1 = i := lowU_of h2 h3 h4
    have q2 := hasU_low h2 h3 h4 hs
    simp only [walk, Nat.reduceLT, Nat.reduceBEq, Nat.reduceAdd, Nat.reduceLeDiff, reduceIte, Int.reduceLT, Int.reduceLE, Int.reduceEq, Int.reduceToNat, Int.reduceBEq, c1]
    by_cases hlt : i < l.length
    · have c2 : (i : Int) < l.length := by omega
      have c0 : (0 : Int) ≤ i := by omega
      simp only [walk, Nat.reduceLT, Nat.reduceBEq, Nat.reduceAdd, Nat.reduceLeDiff, reduceIte, Int.reduceLT, Int.reduceLE, Int.reduceEq, Int.reduceToNat, Int.reduceBEq, c2, uRows_get hlt]
      refine callWp_of (hf _ u) ?_
      have q3 : (decide (i < l.length)) = true := by simpa using hlt
      rw [q3, Bool.true_and] at q2
      have q4 : ∀ x : Int, (x == 0) = decide (x = 0) := fun x => by rw [Bool.eq_iff_iff]; simp
      simp only [walk, Nat.reduceLT, Nat.reduceBEq, Nat.reduceAdd, Nat.reduceLeDiff, reduceIte, Int.reduceLT, Int.reduceLE, Int.reduceEq, Int.reduceToNat, Int.reduceBEq, q1, q2, q4]
    · have c2 : ¬ ((i : Int) < l.length) := by omega
      have q3 : (decide (i < l.length)) = false := by simpa using hlt
      rw [q3, Bool.false_and] at q2
      simp only [walk, Nat.reduceLT, Nat.reduceBEq, Nat.reduceAdd, Nat.reduceLeDiff, reduceIte, Int.reduceLT, Int.reduceLE, Int.reduceEq, Int.reduceToNat, Int.reduceBEq, c2, q1, q2]
theorem eqCells_d {x1 x2 y1 y2 : Int} : eqCells [.i, .i] [.int .i64 x1, .int .i64 x2] [.int .i64 y1, .int .i64 y2] = some (decide ((x1, x2) = (y1, y2))) := by
  simp [eqCells, eqB, Bool.decide_and]
  rw [Bool.eq_iff_iff]; simp
theorem g_pref08_Right (h : S_uOk (C (F n_pref08_one))) (hc : S_dcmp (C (F n_pref04_Compare))) : S_uRight ((c_pref08_Right F).gives C) := by
  intro l hl
  refine gives_of rfl ?_
  unfold c_pref08_Right
  simp only [walk, Nat.reduceLT, Nat.reduceBEq, Nat.reduceAdd, Nat.reduceLeDiff, reduceIte, Int.reduceLT, Int.reduceLE, Int.reduceEq, Int.reduceToNat, Int.reduceBEq, uRows_len]
  unfold bigL at hl
  refine awp_loop_ind (X := Nat) (fun k => ⟨[(0, .val (usP l)), (2, .val (.bool false)), (3, .val (.int .i64 k))], []⟩)
    (fun k => k ≤ l.length ∧ ∀ j, j < k → okAt l j = true) (fun k => l.length - k) 0 ⟨by omega, by omega⟩ rfl ?_
  rintro R k ⟨hk, hj⟩ ih
  simp only [walk, Nat.reduceLT, Nat.reduceBEq, Nat.reduceAdd, Nat.reduceLeDiff, reduceIte, Int.reduceLT, Int.reduceLE, Int.reduceEq, Int.reduceToNat, Int.reduceBEq, uRows_len]
  by_cases c : k < l.length
  · have c1 : (k : Int) < l.length := by omega
    have c0 : (0 : Int) ≤ k := by omega
    have e1 : IntKind.i64.wrap ((k : Int) + 1) = ((k + 1 : Nat) : Int) := wrap64 (by omega) (by omega)
    have step : okAt l k = true → R (⟨[(0, .val (usP l)), (2, .val (.bool false)), (3, .val (.int .i64 ((k + 1 : Nat) : Int)))], []⟩) := fun h => ih (k + 1) ⟨by omega, fun j hj' => by
      by_cases e : j = k
      · subst e; exact h
      · exact hj j (by omega)⟩ (by omega)
    simp only [walk, Nat.reduceLT, Nat.reduceBEq, Nat.reduceAdd, Nat.reduceLeDiff, reduceIte, Int.reduceLT, Int.reduceLE, Int.reduceEq, Int.reduceToNat, Int.reduceBEq, c1, uRows_get c]
    refine callWp_of (h (l.getD k z3)) ?_
    cases q1 : uOk (l.getD k z3) with
    | false =>
      have q2 := rightU_no c (by unfold okAt; rw [q1]; rfl)
      simp only [walk, Nat.reduceLT, Nat.reduceBEq, Nat.reduceAdd, Nat.reduceLeDiff, reduceIte, Int.reduceLT, Int.reduceLE, Int.reduceEq, Int.reduceToNat, Int.reduceBEq, q2]
    | true =>
      simp only [walk, Nat.reduceLT, Nat.reduceBEq, Nat.reduceAdd, Nat.reduceLeDiff, reduceIte, Int.reduceLT, Int.reduceLE, Int.reduceEq, Int.reduceToNat, Int.reduceBEq]
      by_cases k0 : k = 0
      · have g0 : ¬ ((k : Int) > 0) := by omega
        simp only [walk, Nat.reduceLT, Nat.reduceBEq, Nat.reduceAdd, Nat.reduceLeDiff, reduceIte, Int.reduceLT, Int.reduceLE, Int.reduceEq, Int.reduceToNat, Int.reduceBEq, g0, e1]
        exact step (by unfold okAt; rw [q1, show (k == 0) = true by simpa using k0]; rfl)
      · have g0 : ((k : Nat) : Int) > 0 := by omega
        have e2 : IntKind.i64.wrap ((k : Int) - 1) = ((k - 1 : Nat) : Int) := by rw [wrap64 (by omega) (by omega)]; omega
        have c' : k - 1 < l.length := by omega
        simp only [walk, Nat.reduceLT, Nat.reduceBEq, Nat.reduceAdd, Nat.reduceLeDiff, reduceIte, Int.reduceLT, Int.reduceLE, Int.reduceEq, Int.reduceToNat, Int.reduceBEq, g0, e2, uRows_get c', uRows_get c]
        refine callWp_of (hc (l.getD (k - 1) z3).1 (l.getD k z3).1) ?_
        by_cases q5 : dcmp (l.getD (k - 1) z3).1 (l.getD k z3).1 < 0
        · have q6 : (dcmp (l.getD (k - 1) z3).1 (l.getD k z3).1 != -1) = false := by simp; exact dcmp_m1.2 q5
          simp only [walk, Nat.reduceLT, Nat.reduceBEq, Nat.reduceAdd, Nat.reduceLeDiff, reduceIte, Int.reduceLT, Int.reduceLE, Int.reduceEq, Int.reduceToNat, Int.reduceBEq, q6, e1]
          exact step (by unfold okAt; rw [q1, show decide (dcmp (l.getD (k - 1) z3).1 (l.getD k z3).1 < 0) = true from decide_eq_true q5]; simp)
        · have q6 : (dcmp (l.getD (k - 1) z3).1 (l.getD k z3).1 != -1) = true := by simp; exact fun h => q5 (dcmp_m1.1 h)
          have q2 := rightU_no c (by unfold okAt; rw [q1, show (k == 0) = false by simpa using k0, show decide (dcmp (l.getD (k - 1) z3).1 (l.getD k z3).1 < 0) = false from decide_eq_false q5]; rfl)
          simp only [walk, Nat.reduceLT, Nat.reduceBEq, Nat.reduceAdd, Nat.reduceLeDiff, reduceIte, Int.reduceLT, Int.reduceLE, Int.reduceEq, Int.reduceToNat, Int.reduceBEq, q6, q2]
  · have c1 : ¬ ((k : Int) < l.length) := by omega
    have q2 : rightU l = true := rightU_iff.2 (fun j h => hj j (by omega))
    simp only [walk, Nat.reduceLT, Nat.reduceBEq, Nat.reduceAdd, Nat.reduceLeDiff, reduceIte, Int.reduceLT, Int.reduceLE, Int.reduceEq, Int.reduceToNat, Int.reduceBEq, c1, q2]
theorem g_pref08_Get : S_rGet ((c_pref08_Get F).gives C) := by
  intro l d hl
  refine gives_of rfl ?_
  unfold c_pref08_Get
  simp only [walk, Nat.reduceLT, Nat.reduceBEq, Nat.reduceAdd, Nat.reduceLeDiff, reduceIte, Int.reduceLT, Int.reduceLE, Int.reduceEq, Int.reduceToNat, Int.reduceBEq, uRows_len]
  unfold bigL at hl
  refine awp_loop_ind (X := Nat) (fun k => ⟨[(0, .val (usP l)), (1, .val (dP d)), (3, .lp 3 0), (4, .val (.int .i64 0)), (5, .val (.int .i64 k))], [(3, .cells [.val (.int .i64 d.1), .val (.int .i64 d.2)])]⟩)
    (fun k => k ≤ l.length ∧ ∀ j, j < k → (l.getD j z3).1 ≠ d) (fun k => l.length - k) 0 ⟨by omega, by omega⟩ rfl ?_
  rintro R k ⟨hk, hj⟩ ih
  simp only [walk, Nat.reduceLT, Nat.reduceBEq, Nat.reduceAdd, Nat.reduceLeDiff, reduceIte, Int.reduceLT, Int.reduceLE, Int.reduceEq, Int.reduceToNat, Int.reduceBEq, uRows_len]
  by_cases c : k < l.length
  · have c1 : (k : Int) < l.length := by omega
    have c0 : (0 : Int) ≤ k := by omega
    have e1 : IntKind.i64.wrap ((k : Int) + 1) = ((k + 1 : Nat) : Int) := wrap64 (by omega) (by omega)
    simp only [walk, Nat.reduceLT, Nat.reduceBEq, Nat.reduceAdd, Nat.reduceLeDiff, reduceIte, Int.reduceLT, Int.reduceLE, Int.reduceEq, Int.reduceToNat, Int.reduceBEq, c1, uRows_get c, eqCells_d]
    by_cases q : (l.getD k z3).1 = d
    · have q' : decide ((((l.getD k z3).1.1, (l.getD k z3).1.2) : Dt) = (d.1, d.2)) = true := by rw [decide_eq_true_eq]; exact q
      simp only [walk, Nat.reduceLT, Nat.reduceBEq, Nat.reduceAdd, Nat.reduceLeDiff, reduceIte, Int.reduceLT, Int.reduceLE, Int.reduceEq, Int.reduceToNat, Int.reduceBEq, q', getU_at hj c q, uRows_get c]
    · have q' : decide ((((l.getD k z3).1.1, (l.getD k z3).1.2) : Dt) = (d.1, d.2)) = false := by rw [decide_eq_false_iff_not]; exact q
      simp only [walk, Nat.reduceLT, Nat.reduceBEq, Nat.reduceAdd, Nat.reduceLeDiff, reduceIte, Int.reduceLT, Int.reduceLE, Int.reduceEq, Int.reduceToNat, Int.reduceBEq, q', e1]
      refine ih (k + 1) ⟨by omega, fun j hj' => ?_⟩ (by omega)
      by_cases e : j = k
      · subst e; exact q
      · exact hj j (by omega)
  · have c1 : ¬ ((k : Int) < l.length) := by omega
    simp only [walk, Nat.reduceLT, Nat.reduceBEq, Nat.reduceAdd, Nat.reduceLeDiff, reduceIte, Int.reduceLT, Int.reduceLE, Int.reduceEq, Int.reduceToNat, Int.reduceBEq, c1, getU_none (fun j h => hj j (by omega : j < k))]
end
end Go.AR

/-! Codes, printed by program. -/
namespace Go.AR
def H_pref12_Short : Hints := [(1, { ops := [(1, { mr := [1] })], kt := [4, 5, 6], kb := [] }),
 (4, { ops := [(2, { mr := [1] })], kt := [8, 9, 10, 11], kb := [] }),
 (5, { ops := [], kt := [8, 9, 10, 11, 12, 13, 14, 15, 16, 17, 18, 19, 20, 21], kb := [] }),
 (6, { ops := [(1, { mr := [1] })], kt := [15, 16, 17, 18, 19, 20], kb := [] })]
def c_pref12_Short (F : Nat → FuncId) : AFun := { nparams := 1, ntmps := 22, results := [.tmp 2], body :=
 (.seq
 (.reg [⟨(some 1), [], [.t 0], [], [1], .box, none⟩,
 ⟨(some 2), [], [.c (.bool false)], [], [], .cp, none⟩] [] [])
 (.seq
 (.seq
 (.reg [⟨(some 4), [], [.t 1], [], [], .faddr 5, none⟩,
 ⟨(some 5), [], [.t 4], [1], [], .load false 1, none⟩,
 ⟨(some 6), [], [.t 5], [], [], .len false, none⟩,
 ⟨(some 7), [], [.t 6, .c (.int .i64 20)], [], [], .bini .gtr, none⟩] [4, 5, 6] [])
 (.cond (.t 7)
 (.seq
 (.reg [⟨(some 2), [], [.c (.bool false)], [], [], .cp, none⟩] [] [])
 .ret)
 .skip))
 (.seq
 (.seq
 (.reg [⟨(some 3), [], [.c (.int .i64 0)], [], [], .cp, none⟩] [] [])
 (.block 0
 (.loop
 (.seq
 (.seq
 (.reg [⟨(some 8), [], [.t 3], [], [], .cp, none⟩,
 ⟨(some 9), [], [.t 1], [], [], .faddr 5, none⟩,
 ⟨(some 10), [], [.t 9], [1], [], .load false 1, none⟩,
 ⟨(some 11), [], [.t 10], [], [], .len false, none⟩,
 ⟨(some 12), [], [.t 8, .t 11], [], [], .bini .lss, none⟩] [8, 9, 10, 11] [])
 (.cond (.t 12)
 .skip
 (.exit 0)))
 (.seq
 (.block 1
 (.seq
 (.reg [⟨(some 15), [], [.t 1], [], [], .faddr 5, none⟩,
 ⟨(some 16), [], [.t 15], [1], [], .load false 1, none⟩,
 ⟨(some 17), [], [.t 3], [], [], .cp, none⟩,
 ⟨(some 18), [], [.t 16, .t 17], [], [], .iaddr none 7, none⟩,
 ⟨(some 19), [], [.t 18], [], [], .load true 7, none⟩,
 ⟨(some 20), [], [.c (.fn (F n_pref11_Short)), .t 19], [], [], .call 0 false, none⟩,
 ⟨(some 21), [], [.t 20], [], [], .not, none⟩] [15, 16, 17, 18, 19, 20] [])
 (.cond (.t 21)
 (.seq
 (.reg [⟨(some 2), [], [.c (.bool false)], [], [], .cp, none⟩] [] [])
 .ret)
 .skip)))
 (.reg [⟨(some 13), [], [.t 3], [], [], .cp, none⟩,
 ⟨(some 14), [], [.t 13, .c (.int .i64 1)], [], [], .bini .add, none⟩,
 ⟨(some 3), [14], [.t 14], [], [], .mv, none⟩] [8, 9, 10, 11, 12, 13, 14, 15, 16, 17, 18, 19, 20, 21] []))))))
 (.seq
 (.reg [⟨(some 2), [], [.c (.bool true)], [], [], .cp, none⟩] [] [])
 .ret)))) }

def H_pref12_Check : Hints := [(1, { ops := [(1, { mr := [1] }), (6, { mr := [1] }), (11, { mr := [1] }), (16, { mr := [1] }), (21, { mr := [1] })], kt := [5, 6, 7, 8, 9, 10, 11, 12, 13, 14, 15, 16, 17, 18, 19, 20, 21, 22, 23, 24, 25, 26, 27], kb := [] }),
 (3, { ops := [(1, { mr := [1] })], kt := [29, 30, 31], kb := [] }),
 (5, { ops := [(1, { mr := [1] })], kt := [33, 34, 35], kb := [] }),
 (8, { ops := [(2, { mr := [1] })], kt := [37, 38, 39, 40], kb := [] }),
 (9, { ops := [], kt := [4, 37, 38, 39, 40, 41, 42, 43, 44, 45, 46, 47, 48, 49, 50, 51, 52, 53, 54, 55, 56, 57, 58, 59, 60, 61, 62, 63, 64, 65], kb := [] }),
 (10, { ops := [(1, { mr := [1] })], kt := [44, 45, 46, 47, 48, 49], kb := [] }),
 (11, { ops := [(4, { mr := [1] }), (7, { mr := [1] })], kt := [50, 51, 52, 53, 54, 55, 56, 57, 58, 59, 60, 61, 62, 63], kb := [] }),
 (12, { ops := [], kt := [65], kb := [] })]
def c_pref12_Check (F : Nat → FuncId) : AFun := { nparams := 1, ntmps := 66, results := [.tmp 2], body :=
 (.seq
 (.reg [⟨(some 1), [], [.t 0], [], [1], .box, none⟩,
 ⟨(some 2), [], [.c (.int .i64 0)], [], [], .cp, none⟩] [] [])
 (.seq
 (.seq
 (.reg [⟨(some 5), [], [.t 1], [], [], .faddr 0, none⟩,
 ⟨(some 6), [], [.t 5], [1], [], .load true 2, none⟩,
 ⟨(some 7), [], [.c (.fn (F n_pref04_Right)), .t 6], [], [], .call 0 false, none⟩,
 ⟨(some 8), [], [.t 7], [], [], .not, none⟩,
 ⟨(some 9), [], [.t 8], [], [], .cp, none⟩,
 ⟨(some 10), [], [.t 1], [], [], .faddr 2, some (9, false)⟩,
 ⟨(some 11), [], [.t 10], [1], [], .load false 1, some (9, false)⟩,
 ⟨(some 12), [], [.t 11, .c (.int .i64 0)], [], [], .bini .lss, some (9, false)⟩,
 ⟨(some 13), [], [.t 9, .c (.bool true), .t 12], [], [], .pick, none⟩,
 ⟨(some 14), [], [.t 13], [], [], .cp, none⟩,
 ⟨(some 15), [], [.t 1], [], [], .faddr 2, some (14, false)⟩,
 ⟨(some 16), [], [.t 15], [1], [], .load false 1, some (14, false)⟩,
 ⟨(some 17), [], [.t 16, .c (.int .i64 7)], [], [], .bini .gtr, some (14, false)⟩,
 ⟨(some 18), [], [.t 14, .c (.bool true), .t 17], [], [], .pick, none⟩,
 ⟨(some 19), [], [.t 18], [], [], .cp, none⟩,
 ⟨(some 20), [], [.t 1], [], [], .faddr 3, some (19, false)⟩,
 ⟨(some 21), [], [.t 20], [1], [], .load false 1, some (19, false)⟩,
 ⟨(some 22), [], [.t 21, .c (.int .i64 1)], [], [], .bini .lss, some (19, false)⟩,
 ⟨(some 23), [], [.t 19, .c (.bool true), .t 22], [], [], .pick, none⟩,
 ⟨(some 24), [], [.t 23], [], [], .cp, none⟩,
 ⟨(some 25), [], [.t 1], [], [], .faddr 3, some (24, false)⟩,
 ⟨(some 26), [], [.t 25], [1], [], .load false 1, some (24, false)⟩,
 ⟨(some 27), [], [.t 26, .c (.int .i64 1099511627776)], [], [], .bini .gtr, some (24, false)⟩,
 ⟨(some 28), [], [.t 24, .c (.bool true), .t 27], [], [], .pick, none⟩] [5, 6, 7, 8, 9, 10, 11, 12, 13, 14, 15, 16, 17, 18, 19, 20, 21, 22, 23, 24, 25, 26, 27] [])
 (.cond (.t 28)
 (.seq
 (.reg [⟨(some 2), [], [.c (.int .i64 2)], [], [], .cp, none⟩] [] [])
 .ret)
 .skip))
 (.seq
 (.seq
 (.reg [⟨(some 29), [], [.t 1], [], [], .faddr 5, none⟩,
 ⟨(some 30), [], [.t 29], [1], [], .load false 1, none⟩,
 ⟨(some 31), [], [.t 30], [], [], .len false, none⟩,
 ⟨(some 32), [], [.t 31, .c (.int .i64 0)], [], [], .bini .eql, none⟩] [29, 30, 31] [])
 (.cond (.t 32)
 (.seq
 (.reg [⟨(some 2), [], [.c (.int .i64 11)], [], [], .cp, none⟩] [] [])
 .ret)
 .skip))
 (.seq
 (.seq
 (.reg [⟨(some 33), [], [.t 1], [], [], .faddr 5, none⟩,
 ⟨(some 34), [], [.t 33], [1], [], .load false 1, none⟩,
 ⟨(some 35), [], [.t 34], [], [], .len false, none⟩,
 ⟨(some 36), [], [.t 35, .c (.int .i64 16)], [], [], .bini .gtr, none⟩] [33, 34, 35] [])
 (.cond (.t 36)
 (.seq
 (.reg [⟨(some 2), [], [.c (.int .i64 7)], [], [], .cp, none⟩] [] [])
 .ret)
 .skip))
 (.seq
 (.seq
 (.reg [⟨(some 3), [], [.c (.int .i64 0)], [], [], .cp, none⟩] [] [])
 (.block 0
 (.loop
 (.seq
 (.seq
 (.reg [⟨(some 37), [], [.t 3], [], [], .cp, none⟩,
 ⟨(some 38), [], [.t 1], [], [], .faddr 5, none⟩,
 ⟨(some 39), [], [.t 38], [1], [], .load false 1, none⟩,
 ⟨(some 40), [], [.t 39], [], [], .len false, none⟩,
 ⟨(some 41), [], [.t 37, .t 40], [], [], .bini .lss, none⟩] [37, 38, 39, 40] [])
 (.cond (.t 41)
 .skip
 (.exit 0)))
 (.seq
 (.block 1
 (.seq
 (.reg [⟨(some 44), [], [.t 1], [], [], .faddr 5, none⟩,
 ⟨(some 45), [], [.t 44], [1], [], .load false 1, none⟩,
 ⟨(some 46), [], [.t 3], [], [], .cp, none⟩,
 ⟨(some 47), [], [.t 45, .t 46], [], [], .iaddr none 7, none⟩,
 ⟨(some 48), [], [.t 47], [], [], .load true 7, none⟩,
 ⟨(some 49), [], [.c (.fn (F n_pref11_Check)), .t 48], [], [], .call 0 false, none⟩,
 ⟨(some 4), [49], [.t 49], [], [], .mv, none⟩] [44, 45, 46, 47, 48, 49] [])
 (.seq
 (.reg [⟨(some 50), [], [.t 4], [], [], .cp, none⟩,
 ⟨(some 51), [], [.t 50, .c (.int .i64 0)], [], [], .bini .neq, none⟩,
 ⟨(some 52), [], [.t 51], [], [], .cp, none⟩,
 ⟨(some 53), [], [.t 1], [], [], .faddr 4, some (52, true)⟩,
 ⟨(some 54), [], [.t 53], [1], [], .load false 1, some (52, true)⟩,
 ⟨(some 55), [], [.t 54], [], [], .cp, some (52, true)⟩,
 ⟨(some 56), [], [.t 1], [], [], .faddr 5, some (55, true)⟩,
 ⟨(some 57), [], [.t 56], [1], [], .load false 1, some (55, true)⟩,
 ⟨(some 58), [], [.t 3], [], [], .cp, some (55, true)⟩,
 ⟨(some 59), [], [.t 57, .t 58], [], [], .iaddr none 7, some (55, true)⟩,
 ⟨(some 60), [], [.t 59], [], [], .load true 7, some (55, true)⟩,
 ⟨(some 61), [], [.c (.fn (F n_pref11_Gone)), .t 60], [], [], .call 0 false, some (55, true)⟩,
 ⟨(some 62), [], [.t 55, .t 61, .c (.bool false)], [], [], .pick, some (52, true)⟩,
 ⟨(some 63), [], [.t 62], [], [], .not, some (52, true)⟩,
 ⟨(some 64), [], [.t 52, .t 63, .c (.bool false)], [], [], .pick, none⟩] [50, 51, 52, 53, 54, 55, 56, 57, 58, 59, 60, 61, 62, 63] [])
 (.cond (.t 64)
 (.seq
 (.reg [⟨(some 65), [], [.t 4], [], [], .cp, none⟩,
 ⟨(some 2), [65], [.t 65], [], [], .mv, none⟩] [65] [])
 .ret)
 .skip))))
 (.reg [⟨(some 42), [], [.t 3], [], [], .cp, none⟩,
 ⟨(some 43), [], [.t 42, .c (.int .i64 1)], [], [], .bini .add, none⟩,
 ⟨(some 3), [43], [.t 43], [], [], .mv, none⟩] [4, 37, 38, 39, 40, 41, 42, 43, 44, 45, 46, 47, 48, 49, 50, 51, 52, 53, 54, 55, 56, 57, 58, 59, 60, 61, 62, 63, 64, 65] []))))))
 (.seq
 (.reg [⟨(some 2), [], [.c (.int .i64 0)], [], [], .cp, none⟩] [] [])
 .ret)))))) }

def H_pref12_Rises : Hints := [(2, { ops := [], kt := [4, 5, 6], kb := [] }),
 (3, { ops := [], kt := [4, 5, 6, 7, 8, 9, 10, 11, 12, 13, 14, 15, 16, 17, 18, 19, 20, 21, 22], kb := [] }),
 (4, { ops := [], kt := [10, 11, 12, 13, 14, 15, 16, 17, 18, 19, 20, 21], kb := [] })]
def c_pref12_Rises (F : Nat → FuncId) : AFun := { nparams := 1, ntmps := 23, results := [.tmp 2], body :=
 (.seq
 (.reg [⟨(some 2), [], [.c (.bool false)], [], [], .cp, none⟩] [] [])
 (.seq
 (.seq
 (.reg [⟨(some 3), [], [.c (.int .i64 1)], [], [], .cp, none⟩] [] [])
 (.block 0
 (.loop
 (.seq
 (.seq
 (.reg [⟨(some 4), [], [.t 3], [], [], .cp, none⟩,
 ⟨(some 5), [], [.t 0], [], [], .cp, none⟩,
 ⟨(some 6), [], [.t 5], [], [], .len false, none⟩,
 ⟨(some 7), [], [.t 4, .t 6], [], [], .bini .lss, none⟩] [4, 5, 6] [])
 (.cond (.t 7)
 .skip
 (.exit 0)))
 (.seq
 (.block 1
 (.seq
 (.reg [⟨(some 10), [], [.t 0], [], [], .cp, none⟩,
 ⟨(some 11), [], [.t 3], [], [], .cp, none⟩,
 ⟨(some 12), [], [.t 11, .c (.int .i64 1)], [], [], .bini .sub, none⟩,
 ⟨(some 13), [], [.t 10, .t 12], [], [], .iaddr none 6, none⟩,
 ⟨(some 14), [], [.t 13], [], [], .faddr 0, none⟩,
 ⟨(some 15), [], [.t 14], [], [], .load true 2, none⟩,
 ⟨(some 16), [], [.t 0], [], [], .cp, none⟩,
 ⟨(some 17), [], [.t 3], [], [], .cp, none⟩,
 ⟨(some 18), [], [.t 16, .t 17], [], [], .iaddr none 6, none⟩,
 ⟨(some 19), [], [.t 18], [], [], .faddr 0, none⟩,
 ⟨(some 20), [], [.t 19], [], [], .load true 2, none⟩,
 ⟨(some 21), [], [.c (.fn (F n_pref04_Compare)), .t 15, .t 20], [], [], .call 0 false, none⟩,
 ⟨(some 22), [], [.t 21, .c (.int .i64 (-1))], [], [], .bini .neq, none⟩] [10, 11, 12, 13, 14, 15, 16, 17, 18, 19, 20, 21] [])
 (.cond (.t 22)
 (.seq
 (.reg [⟨(some 2), [], [.c (.bool false)], [], [], .cp, none⟩] [] [])
 .ret)
 .skip)))
 (.reg [⟨(some 8), [], [.t 3], [], [], .cp, none⟩,
 ⟨(some 9), [], [.t 8, .c (.int .i64 1)], [], [], .bini .add, none⟩,
 ⟨(some 3), [9], [.t 9], [], [], .mv, none⟩] [4, 5, 6, 7, 8, 9, 10, 11, 12, 13, 14, 15, 16, 17, 18, 19, 20, 21, 22] []))))))
 (.seq
 (.reg [⟨(some 2), [], [.c (.bool true)], [], [], .cp, none⟩] [] [])
 .ret))) }

def H_pref12_Good : Hints := [(1, { ops := [], kt := [6, 7, 8, 9, 10, 11, 12, 13], kb := [] }),
 (4, { ops := [], kt := [15, 16, 17], kb := [] }),
 (5, { ops := [], kt := [15, 16, 17, 18, 19, 20, 21, 22, 23, 24, 25, 26, 27, 28, 29, 30, 31, 32, 33, 34], kb := [] }),
 (6, { ops := [], kt := [21, 22, 23, 24, 25, 26, 27, 28, 29, 30, 31, 32, 33], kb := [] })]
def c_pref12_Good (F : Nat → FuncId) : AFun := { nparams := 2, ntmps := 35, results := [.tmp 4], body :=
 (.seq
 (.reg [⟨(some 4), [], [.c (.bool false)], [], [], .cp, none⟩] [] [])
 (.seq
 (.seq
 (.reg [⟨(some 6), [], [.t 0], [], [], .cp, none⟩,
 ⟨(some 7), [], [.t 6], [], [], .len false, none⟩,
 ⟨(some 8), [], [.t 1], [], [], .cp, none⟩,
 ⟨(some 9), [], [.t 7, .t 8], [], [], .bini .gtr, none⟩,
 ⟨(some 10), [], [.t 9], [], [], .cp, none⟩,
 ⟨(some 11), [], [.t 0], [], [], .cp, some (10, false)⟩,
 ⟨(some 12), [], [.c (.fn (F n_pref12_Rises)), .t 11], [], [], .call 0 false, some (10, false)⟩,
 ⟨(some 13), [], [.t 12], [], [], .not, some (10, false)⟩,
 ⟨(some 14), [], [.t 10, .c (.bool true), .t 13], [], [], .pick, none⟩] [6, 7, 8, 9, 10, 11, 12, 13] [])
 (.cond (.t 14)
 (.seq
 (.reg [⟨(some 4), [], [.c (.bool false)], [], [], .cp, none⟩] [] [])
 .ret)
 .skip))
 (.seq
 (.seq
 (.reg [⟨(some 5), [], [.c (.int .i64 0)], [], [], .cp, none⟩] [] [])
 (.block 0
 (.loop
 (.seq
 (.seq
 (.reg [⟨(some 15), [], [.t 5], [], [], .cp, none⟩,
 ⟨(some 16), [], [.t 0], [], [], .cp, none⟩,
 ⟨(some 17), [], [.t 16], [], [], .len false, none⟩,
 ⟨(some 18), [], [.t 15, .t 17], [], [], .bini .lss, none⟩] [15, 16, 17] [])
 (.cond (.t 18)
 .skip
 (.exit 0)))
 (.seq
 (.block 1
 (.seq
 (.reg [⟨(some 21), [], [.t 0], [], [], .cp, none⟩,
 ⟨(some 22), [], [.t 5], [], [], .cp, none⟩,
 ⟨(some 23), [], [.t 21, .t 22], [], [], .iaddr none 6, none⟩,
 ⟨(some 24), [], [.t 23], [], [], .load true 6, none⟩,
 ⟨(some 25), [], [.c (.fn (F n_pref12_Short)), .t 24], [], [], .call 0 false, none⟩,
 ⟨(some 26), [], [.t 25], [], [], .not, none⟩,
 ⟨(some 27), [], [.t 26], [], [], .cp, none⟩,
 ⟨(some 28), [], [.t 0], [], [], .cp, some (27, false)⟩,
 ⟨(some 29), [], [.t 5], [], [], .cp, some (27, false)⟩,
 ⟨(some 30), [], [.t 28, .t 29], [], [], .iaddr none 6, some (27, false)⟩,
 ⟨(some 31), [], [.t 30], [], [], .load true 6, some (27, false)⟩,
 ⟨(some 32), [], [.c (.fn (F n_pref12_Check)), .t 31], [], [], .call 0 false, some (27, false)⟩,
 ⟨(some 33), [], [.t 32, .c (.int .i64 0)], [], [], .bini .neq, some (27, false)⟩,
 ⟨(some 34), [], [.t 27, .c (.bool true), .t 33], [], [], .pick, none⟩] [21, 22, 23, 24, 25, 26, 27, 28, 29, 30, 31, 32, 33] [])
 (.cond (.t 34)
 (.seq
 (.reg [⟨(some 4), [], [.c (.bool false)], [], [], .cp, none⟩] [] [])
 .ret)
 .skip)))
 (.reg [⟨(some 19), [], [.t 5], [], [], .cp, none⟩,
 ⟨(some 20), [], [.t 19, .c (.int .i64 1)], [], [], .bini .add, none⟩,
 ⟨(some 5), [20], [.t 20], [], [], .mv, none⟩] [15, 16, 17, 18, 19, 20, 21, 22, 23, 24, 25, 26, 27, 28, 29, 30, 31, 32, 33, 34] []))))))
 (.seq
 (.reg [⟨(some 4), [], [.c (.bool true)], [], [], .cp, none⟩] [] [])
 .ret)))) }

end Go.AR
