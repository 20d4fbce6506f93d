import Derived.Test.YtojhbllkhljggaaK08
import Derived.Test.YtojhbllkhljggaaBase
import Derived.Test.YtojhbllkhljggaaD08
set_option linter.all false
/-! Counts of dots: the small functions. -/
namespace Go.AR
open Go
section
variable {C : CallRel} {F : Nat → FuncId}
abbrev dP (d : Dt) : PV := .agg [.int .i64 d.1, .int .i64 d.2]
abbrev uRow (u : Ud) : List PV := [.int .i64 u.1.1, .int .i64 u.1.2, .int .i64 u.2]
abbrev uP (u : Ud) : PV := .agg (uRow u)
def uRows (l : List Ud) : List (List PV) := l.map uRow
theorem uRows_len (l : List Ud) : (uRows l).length = l.length := by simp [uRows]
theorem uRows_get {l : List Ud} {k : Nat} (h : k < l.length) : (uRows l)[k]? = some [.int .i64 (l.getD k z3).1.1, .int .i64 (l.getD k z3).1.2, .int .i64 (l.getD k z3).2] := by
  simp [uRows, List.getD_eq_getElem?_getD, h]
theorem uRows_app (l : List Ud) (u : Ud) : uRows l ++ [[.int .i64 u.1.1, .int .i64 u.1.2, .int .i64 u.2]] = uRows (l ++ [u]) := by simp [uRows]
abbrev usP (l : List Ud) : PV := .sl 3 (uRows l)
def S_isNaN (R : Rel) : Prop := ∀ x : Int, R [.v (.int .i64 x)] (.val (.bool false)) []
def S_icmp (R : Rel) : Prop := ∀ x y : Int, R [.v (.int .i64 x), .v (.int .i64 y)] (.val (.int .i64 (icmp x y))) []
def S_or2 (R : Rel) : Prop := ∀ x y : Int, R [.v (.sl 1 [[.int .i64 x], [.int .i64 y]])] (.val (.int .i64 (if x ≠ 0 then x else y))) []
def S_dcmp (R : Rel) : Prop := ∀ a b : Dt, R [.v (dP a), .v (dP b)] (.val (.int .i64 (dcmp a b))) []
def S_ucmp (R : Rel) : Prop := ∀ a b : Ud, R [.v (uP a), .v (uP b)] (.val (.int .i64 (dcmp a.1 b.1))) []
def S_dotOk (R : Rel) : Prop := ∀ d : Dt, R [.v (dP d)] (.val (.bool (dotOk d))) []
def S_uOk (R : Rel) : Prop := ∀ u : Ud, R [.v (uP u)] (.val (.bool (uOk u))) []
theorem g_cmp_isNaN_int : S_isNaN ((c_cmp_isNaN_int F).gives C) := by
  intro x
  refine gives_of rfl ?_
  unfold c_cmp_isNaN_int
  have e : (x != x) = false := by simp
  simp only [walk, Nat.reduceLT, Nat.reduceBEq, Nat.reduceAdd, Nat.reduceLeDiff, reduceIte, Int.reduceLT, Int.reduceLE, Int.reduceEq, Int.reduceToNat, Int.reduceBEq, e]
theorem g_cmp_Compare_int (h : S_isNaN (C (F n_cmp_isNaN_int))) : S_icmp ((c_cmp_Compare_int F).gives C) := by
  intro x y
  refine gives_of rfl ?_
  unfold c_cmp_Compare_int icmp
  simp only [walk, Nat.reduceLT, Nat.reduceBEq, Nat.reduceAdd, Nat.reduceLeDiff, reduceIte, Int.reduceLT, Int.reduceLE, Int.reduceEq, Int.reduceToNat, Int.reduceBEq]
  refine callWp_of (h x) ?_
  simp only [walk, Nat.reduceLT, Nat.reduceBEq, Nat.reduceAdd, Nat.reduceLeDiff, reduceIte, Int.reduceLT, Int.reduceLE, Int.reduceEq, Int.reduceToNat, Int.reduceBEq]
  refine callWp_of (h y) ?_
  simp only [walk, Nat.reduceLT, Nat.reduceBEq, Nat.reduceAdd, Nat.reduceLeDiff, reduceIte, Int.reduceLT, Int.reduceLE, Int.reduceEq, Int.reduceToNat, Int.reduceBEq]
  by_cases h1 : x < y
  · simp only [walk, Nat.reduceLT, Nat.reduceBEq, Nat.reduceAdd, Nat.reduceLeDiff, reduceIte, Int.reduceLT, Int.reduceLE, Int.reduceEq, Int.reduceToNat, Int.reduceBEq, h1]
  · by_cases h2 : x > y <;> simp only [walk, Nat.reduceLT, Nat.reduceBEq, Nat.reduceAdd, Nat.reduceLeDiff, reduceIte, Int.reduceLT, Int.reduceLE, Int.reduceEq, Int.reduceToNat, Int.reduceBEq, h1, h2]
theorem g_cmp_Or_int : S_or2 ((c_cmp_Or_int F).gives C) := by
  intro x y
  refine gives_of rfl ?_
  unfold c_cmp_Or_int
  simp only [walk, Nat.reduceLT, Nat.reduceBEq, Nat.reduceAdd, Nat.reduceLeDiff, reduceIte, Int.reduceLT, Int.reduceLE, Int.reduceEq, Int.reduceToNat, Int.reduceBEq]
  refine awp_loop ?_
  simp only [walk, Nat.reduceLT, Nat.reduceBEq, Nat.reduceAdd, Nat.reduceLeDiff, reduceIte, Int.reduceLT, Int.reduceLE, Int.reduceEq, Int.reduceToNat, Int.reduceBEq]
  have w1 : IntKind.i64.wrap ((0 : Int) + 1) = 1 := wrap64 (by omega) (by omega)
  have w2 : IntKind.i64.wrap ((1 : Int) + 1) = 2 := wrap64 (by omega) (by omega)
  by_cases hx : x = 0
  · subst hx
    have e : ((0 : Int) != 0) = false := rfl
    simp only [walk, Nat.reduceLT, Nat.reduceBEq, Nat.reduceAdd, Nat.reduceLeDiff, reduceIte, Int.reduceLT, Int.reduceLE, Int.reduceEq, Int.reduceToNat, Int.reduceBEq, e, w1]
    refine awp_loop ?_
    have t1 : (1 : Int).toNat = 1 := rfl
    simp only [walk, Nat.reduceLT, Nat.reduceBEq, Nat.reduceAdd, Nat.reduceLeDiff, reduceIte, Int.reduceLT, Int.reduceLE, Int.reduceEq, Int.reduceToNat, Int.reduceBEq, t1]
    by_cases hy : y = 0
    · subst hy
      simp only [walk, Nat.reduceLT, Nat.reduceBEq, Nat.reduceAdd, Nat.reduceLeDiff, reduceIte, Int.reduceLT, Int.reduceLE, Int.reduceEq, Int.reduceToNat, Int.reduceBEq, e, w2]
      refine awp_loop ?_
      simp only [walk, Nat.reduceLT, Nat.reduceBEq, Nat.reduceAdd, Nat.reduceLeDiff, reduceIte, Int.reduceLT, Int.reduceLE, Int.reduceEq, Int.reduceToNat, Int.reduceBEq, ne_eq]
    · have e2 : (y != 0) = true := by simp [hy]
      simp only [walk, Nat.reduceLT, Nat.reduceBEq, Nat.reduceAdd, Nat.reduceLeDiff, reduceIte, Int.reduceLT, Int.reduceLE, Int.reduceEq, Int.reduceToNat, Int.reduceBEq, e2, ne_eq]
  · have e : (x != 0) = true := by simp [hx]
    simp only [walk, Nat.reduceLT, Nat.reduceBEq, Nat.reduceAdd, Nat.reduceLeDiff, reduceIte, Int.reduceLT, Int.reduceLE, Int.reduceEq, Int.reduceToNat, Int.reduceBEq, e, hx, ne_eq]
theorem g_dot_Compare (h : S_icmp (C (F n_cmp_Compare_int))) (ho : S_or2 (C (F n_cmp_Or_int))) : S_dcmp ((c_dot_Compare F).gives C) := by
  intro a b
  refine gives_of rfl ?_
  unfold c_dot_Compare
  simp only [walk, Nat.reduceLT, Nat.reduceBEq, Nat.reduceAdd, Nat.reduceLeDiff, reduceIte, Int.reduceLT, Int.reduceLE, Int.reduceEq, Int.reduceToNat, Int.reduceBEq]
  refine callWp_of (h _ _) ?_
  simp only [walk, Nat.reduceLT, Nat.reduceBEq, Nat.reduceAdd, Nat.reduceLeDiff, reduceIte, Int.reduceLT, Int.reduceLE, Int.reduceEq, Int.reduceToNat, Int.reduceBEq]
  refine callWp_of (h _ _) ?_
  simp only [walk, Nat.reduceLT, Nat.reduceBEq, Nat.reduceAdd, Nat.reduceLeDiff, reduceIte, Int.reduceLT, Int.reduceLE, Int.reduceEq, Int.reduceToNat, Int.reduceBEq]
  refine callWp_of (ho _ _) ?_
  simp only [walk, Nat.reduceLT, Nat.reduceBEq, Nat.reduceAdd, Nat.reduceLeDiff, reduceIte, Int.reduceLT, Int.reduceLE, Int.reduceEq, Int.reduceToNat, Int.reduceBEq, dcmp]
theorem g_tally_compare (h : S_dcmp (C (F n_dot_Compare))) : S_ucmp ((c_tally_compare F).gives C) := by
  intro a b
  refine gives_of rfl ?_
  unfold c_tally_compare
  simp only [walk, Nat.reduceLT, Nat.reduceBEq, Nat.reduceAdd, Nat.reduceLeDiff, reduceIte, Int.reduceLT, Int.reduceLE, Int.reduceEq, Int.reduceToNat, Int.reduceBEq]
  refine callWp_of (h a.1 b.1) ?_
  simp only [walk, Nat.reduceLT, Nat.reduceBEq, Nat.reduceAdd, Nat.reduceLeDiff, reduceIte, Int.reduceLT, Int.reduceLE, Int.reduceEq, Int.reduceToNat, Int.reduceBEq]
theorem g_pref04_ints : S_icmp ((c_pref04_ints F).gives C) := by
  intro x y
  refine gives_of rfl ?_
  unfold c_pref04_ints icmp
  simp only [walk, Nat.reduceLT, Nat.reduceBEq, Nat.reduceAdd, Nat.reduceLeDiff, reduceIte, Int.reduceLT, Int.reduceLE, Int.reduceEq, Int.reduceToNat, Int.reduceBEq]
  by_cases h1 : x < y
  · simp only [walk, Nat.reduceLT, Nat.reduceBEq, Nat.reduceAdd, Nat.reduceLeDiff, reduceIte, Int.reduceLT, Int.reduceLE, Int.reduceEq, Int.reduceToNat, Int.reduceBEq, h1]
  · by_cases h2 : x > y <;> simp only [walk, Nat.reduceLT, Nat.reduceBEq, Nat.reduceAdd, Nat.reduceLeDiff, reduceIte, Int.reduceLT, Int.reduceLE, Int.reduceEq, Int.reduceToNat, Int.reduceBEq, h1, h2]
theorem g_pref04_Compare (h : S_icmp (C (F n_pref04_ints))) : S_dcmp ((c_pref04_Compare F).gives C) := by
  intro a b
  refine gives_of rfl ?_
  unfold c_pref04_Compare dcmp
  simp only [walk, Nat.reduceLT, Nat.reduceBEq, Nat.reduceAdd, Nat.reduceLeDiff, reduceIte, Int.reduceLT, Int.reduceLE, Int.reduceEq, Int.reduceToNat, Int.reduceBEq]
  by_cases h1 : a.1 = b.1
  · have e : (a.1 != b.1) = false := by simp [h1]
    have e2 : icmp a.1 b.1 = 0 := by rw [h1]; simp [icmp]
    simp only [walk, Nat.reduceLT, Nat.reduceBEq, Nat.reduceAdd, Nat.reduceLeDiff, reduceIte, Int.reduceLT, Int.reduceLE, Int.reduceEq, Int.reduceToNat, Int.reduceBEq, e]
    refine callWp_of (h _ _) ?_
    simp only [walk, Nat.reduceLT, Nat.reduceBEq, Nat.reduceAdd, Nat.reduceLeDiff, reduceIte, Int.reduceLT, Int.reduceLE, Int.reduceEq, Int.reduceToNat, Int.reduceBEq, e2, ne_eq]
  · have e : (a.1 != b.1) = true := by simp [h1]
    have e2 : icmp a.1 b.1 ≠ 0 := by unfold icmp; split; · omega
                                     · split <;> omega
    simp only [walk, Nat.reduceLT, Nat.reduceBEq, Nat.reduceAdd, Nat.reduceLeDiff, reduceIte, Int.reduceLT, Int.reduceLE, Int.reduceEq, Int.reduceToNat, Int.reduceBEq, e]
    refine callWp_of (h _ _) ?_
    simp only [walk, Nat.reduceLT, Nat.reduceBEq, Nat.reduceAdd, Nat.reduceLeDiff, reduceIte, Int.reduceLT, Int.reduceLE, Int.reduceEq, Int.reduceToNat, Int.reduceBEq, e2, ne_eq]
theorem g_dot_Right : S_dotOk ((c_dot_Right F).gives C) := by
  intro d
  refine gives_of rfl ?_
  unfold c_dot_Right dotOk
  simp only [walk, Nat.reduceLT, Nat.reduceBEq, Nat.reduceAdd, Nat.reduceLeDiff, reduceIte, Int.reduceLT, Int.reduceLE, Int.reduceEq, Int.reduceToNat, Int.reduceBEq]
  by_cases h1 : d.1 ≥ 0 <;> simp only [walk, Nat.reduceLT, Nat.reduceBEq, Nat.reduceAdd, Nat.reduceLeDiff, reduceIte, Int.reduceLT, Int.reduceLE, Int.reduceEq, Int.reduceToNat, Int.reduceBEq, h1]
  by_cases h2 : d.1 < 16 <;> simp only [walk, Nat.reduceLT, Nat.reduceBEq, Nat.reduceAdd, Nat.reduceLeDiff, reduceIte, Int.reduceLT, Int.reduceLE, Int.reduceEq, Int.reduceToNat, Int.reduceBEq, h2]
  by_cases h3 : d.2 ≥ 1 <;> simp only [walk, Nat.reduceLT, Nat.reduceBEq, Nat.reduceAdd, Nat.reduceLeDiff, reduceIte, Int.reduceLT, Int.reduceLE, Int.reduceEq, Int.reduceToNat, Int.reduceBEq, h3]
theorem g_pref04_Right : S_dotOk ((c_pref04_Right F).gives C) := by
  intro d
  refine gives_of rfl ?_
  unfold c_pref04_Right dotOk
  simp only [walk, Nat.reduceLT, Nat.reduceBEq, Nat.reduceAdd, Nat.reduceLeDiff, reduceIte, Int.reduceLT, Int.reduceLE, Int.reduceEq, Int.reduceToNat, Int.reduceBEq]
  by_cases h1 : d.1 ≥ 0 <;> simp only [walk, Nat.reduceLT, Nat.reduceBEq, Nat.reduceAdd, Nat.reduceLeDiff, reduceIte, Int.reduceLT, Int.reduceLE, Int.reduceEq, Int.reduceToNat, Int.reduceBEq, h1]
  have h2' : (d.1 ≤ 15) = (d.1 < 16) := by apply propext; omega
  by_cases h2 : d.1 < 16 <;> simp only [walk, Nat.reduceLT, Nat.reduceBEq, Nat.reduceAdd, Nat.reduceLeDiff, reduceIte, Int.reduceLT, Int.reduceLE, Int.reduceEq, Int.reduceToNat, Int.reduceBEq, h2, h2']
  by_cases h3 : d.2 ≥ 1 <;> simp only [walk, Nat.reduceLT, Nat.reduceBEq, Nat.reduceAdd, Nat.reduceLeDiff, reduceIte, Int.reduceLT, Int.reduceLE, Int.reduceEq, Int.reduceToNat, Int.reduceBEq, h3]
theorem g_pref08_one (h : S_dotOk (C (F n_pref04_Right))) : S_uOk ((c_pref08_one F).gives C) := by
  intro u
  refine gives_of rfl ?_
  unfold c_pref08_one uOk
  simp only [walk, Nat.reduceLT, Nat.reduceBEq, Nat.reduceAdd, Nat.reduceLeDiff, reduceIte, Int.reduceLT, Int.reduceLE, Int.reduceEq, Int.reduceToNat, Int.reduceBEq]
  refine callWp_of (h u.1) ?_
  cases dotOk u.1 <;> simp only [walk, Nat.reduceLT, Nat.reduceBEq, Nat.reduceAdd, Nat.reduceLeDiff, reduceIte, Int.reduceLT, Int.reduceLE, Int.reduceEq, Int.reduceToNat, Int.reduceBEq]
  by_cases h3 : u.2 ≥ 1 <;> simp only [walk, Nat.reduceLT, Nat.reduceBEq, Nat.reduceAdd, Nat.reduceLeDiff, reduceIte, Int.reduceLT, Int.reduceLE, Int.reduceEq, Int.reduceToNat, Int.reduceBEq, h3]
end
end Go.AR
