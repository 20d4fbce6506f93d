import Derived.Test.YtphggkbbjnpaeaaG37
import Derived.Test.YtphggkbbjnpaeaaG36
import Derived.Test.YtphggkbbjnpaeaaG38
import Derived.Test.YtphggkbbjnpaeaaG31
set_option linter.all false
/-! Bags: values compared, and found. -/
namespace Go.AR
open Go
section
variable {C : CallRel} {F : Nat → FuncId}
def vRows (l : List Vl) : List (List PV) := l.map vCells
abbrev vsP (l : List Vl) : PV := .sl 3 (vRows l)
theorem vRows_len (l : List Vl) : (vRows l).length = l.length := by simp [vRows]
theorem vRows_get {l : List Vl} {k : Nat} (h : k < l.length) : (vRows l)[k]? = some (vCells l[k]) := by simp [vRows, h]
theorem vRows_app (l : List Vl) (v : Vl) : vRows l ++ [vCells v] = vRows (l ++ [v]) := by simp [vRows]
theorem vRows_c (l : List Vl) : ∀ r ∈ vRows l, r.length = 3 := by
  intro r hr
  obtain ⟨v, _, rfl⟩ := List.mem_map.1 hr
  rfl
theorem vRows_one (l : List Vl) : ∀ p ∈ (vRows l).flatten, p.one = true := by
  intro p hp
  obtain ⟨r, hr, hp⟩ := List.mem_flatten.1 hp
  obtain ⟨v, _, rfl⟩ := List.mem_map.1 hr
  simp only [vCells, List.mem_cons, List.not_mem_nil, or_false] at hp
  rcases hp with rfl | rfl | rfl <;> rfl
def S_or3 (R : Rel) : Prop := ∀ x y z : Int, R [.v (.sl 1 [[.int .i64 x], [.int .i64 y], [.int .i64 z]])] (.val (.int .i64 (if x ≠ 0 then x else if y ≠ 0 then y else z))) []
def S_vcmp (R : Rel) : Prop := ∀ a b : Vl, R [.v (vP a), .v (vP b)] (.val (.int .i64 (vcmp a b))) []
def S_vcmpR (R : Rel) : Prop := ∀ a b : Vl, a.2.2.length ≤ 20000000 → b.2.2.length ≤ 20000000 → R [.v (vP a), .v (vP b)] (.val (.int .i64 (vcmp a b))) []
theorem g_cmp_Or_int3 : S_or3 ((c_cmp_Or_int F).gives C) := by
  intro x y z
  refine gives_of rfl ?_
  unfold c_cmp_Or_int
  simp only [walk, Nat.reduceLT, Nat.reduceBEq, Nat.reduceAdd, Nat.reduceLeDiff, reduceIte, Int.reduceLT, Int.reduceLE, Int.reduceEq, Int.reduceToNat, Int.reduceBEq]
  refine awp_loop ?_
  simp only [walk, Nat.reduceLT, Nat.reduceBEq, Nat.reduceAdd, Nat.reduceLeDiff, reduceIte, Int.reduceLT, Int.reduceLE, Int.reduceEq, Int.reduceToNat, Int.reduceBEq]
  have w1 : IntKind.i64.wrap ((0 : Int) + 1) = 1 := wrap64 (by omega) (by omega)
  have w2 : IntKind.i64.wrap ((1 : Int) + 1) = 2 := wrap64 (by omega) (by omega)
  have w3 : IntKind.i64.wrap ((2 : Int) + 1) = 3 := wrap64 (by omega) (by omega)
  by_cases hx : x = 0
  · subst hx
    have e : ((0 : Int) != 0) = false := rfl
    simp only [walk, Nat.reduceLT, Nat.reduceBEq, Nat.reduceAdd, Nat.reduceLeDiff, reduceIte, Int.reduceLT, Int.reduceLE, Int.reduceEq, Int.reduceToNat, Int.reduceBEq, e, w1]
    refine awp_loop ?_
    have t1 : (1 : Int).toNat = 1 := rfl
    simp only [walk, Nat.reduceLT, Nat.reduceBEq, Nat.reduceAdd, Nat.reduceLeDiff, reduceIte, Int.reduceLT, Int.reduceLE, Int.reduceEq, Int.reduceToNat, Int.reduceBEq, t1]
    by_cases hy : y = 0
    · subst hy
      simp only [walk, Nat.reduceLT, Nat.reduceBEq, Nat.reduceAdd, Nat.reduceLeDiff, reduceIte, Int.reduceLT, Int.reduceLE, Int.reduceEq, Int.reduceToNat, Int.reduceBEq, e, w2]
      refine awp_loop ?_
      have t2 : (2 : Int).toNat = 2 := rfl
      simp only [walk, Nat.reduceLT, Nat.reduceBEq, Nat.reduceAdd, Nat.reduceLeDiff, reduceIte, Int.reduceLT, Int.reduceLE, Int.reduceEq, Int.reduceToNat, Int.reduceBEq, t2]
      by_cases hz : z = 0
      · subst hz
        simp only [walk, Nat.reduceLT, Nat.reduceBEq, Nat.reduceAdd, Nat.reduceLeDiff, reduceIte, Int.reduceLT, Int.reduceLE, Int.reduceEq, Int.reduceToNat, Int.reduceBEq, e, w3]
        refine awp_loop ?_
        simp only [walk, Nat.reduceLT, Nat.reduceBEq, Nat.reduceAdd, Nat.reduceLeDiff, reduceIte, Int.reduceLT, Int.reduceLE, Int.reduceEq, Int.reduceToNat, Int.reduceBEq, ne_eq]
      · have e2 : (z != 0) = true := by simp [hz]
        simp only [walk, Nat.reduceLT, Nat.reduceBEq, Nat.reduceAdd, Nat.reduceLeDiff, reduceIte, Int.reduceLT, Int.reduceLE, Int.reduceEq, Int.reduceToNat, Int.reduceBEq, e2, ne_eq]
    · have e2 : (y != 0) = true := by simp [hy]
      simp only [walk, Nat.reduceLT, Nat.reduceBEq, Nat.reduceAdd, Nat.reduceLeDiff, reduceIte, Int.reduceLT, Int.reduceLE, Int.reduceEq, Int.reduceToNat, Int.reduceBEq, e2, hy, ne_eq]
  · have e : (x != 0) = true := by simp [hx]
    simp only [walk, Nat.reduceLT, Nat.reduceBEq, Nat.reduceAdd, Nat.reduceLeDiff, reduceIte, Int.reduceLT, Int.reduceLE, Int.reduceEq, Int.reduceToNat, Int.reduceBEq, e, hx, ne_eq]
theorem g_value_Compare (h1 : S_icmp (C (F n_cmp_Compare_int))) (h2 : S_scmp (C (F n_strings_Compare))) (h3 : S_or3 (C (F n_cmp_Or_int))) : S_vcmp ((c_value_Compare F).gives C) := by
  intro a b
  refine gives_of rfl ?_
  unfold c_value_Compare vcmp
  simp only [walk, Nat.reduceLT, Nat.reduceBEq, Nat.reduceAdd, Nat.reduceLeDiff, reduceIte, Int.reduceLT, Int.reduceLE, Int.reduceEq, Int.reduceToNat, Int.reduceBEq]
  refine callWp_of (h1 a.1 b.1) ?_
  simp only [walk, Nat.reduceLT, Nat.reduceBEq, Nat.reduceAdd, Nat.reduceLeDiff, reduceIte, Int.reduceLT, Int.reduceLE, Int.reduceEq, Int.reduceToNat, Int.reduceBEq]
  refine callWp_of (h1 a.2.1 b.2.1) ?_
  simp only [walk, Nat.reduceLT, Nat.reduceBEq, Nat.reduceAdd, Nat.reduceLeDiff, reduceIte, Int.reduceLT, Int.reduceLE, Int.reduceEq, Int.reduceToNat, Int.reduceBEq]
  refine callWp_of (h2 a.2.2 b.2.2) ?_
  simp only [walk, Nat.reduceLT, Nat.reduceBEq, Nat.reduceAdd, Nat.reduceLeDiff, reduceIte, Int.reduceLT, Int.reduceLE, Int.reduceEq, Int.reduceToNat, Int.reduceBEq]
  refine callWp_of (h3 _ _ _) ?_
  simp only [walk, Nat.reduceLT, Nat.reduceBEq, Nat.reduceAdd, Nat.reduceLeDiff, reduceIte, Int.reduceLT, Int.reduceLE, Int.reduceEq, Int.reduceToNat, Int.reduceBEq]
theorem icmp_ne {x y : Int} (h : ¬ x = y) : icmp x y ≠ 0 := by
  rcases icmp_cases x y with ⟨e, _⟩ | ⟨_, e⟩ | ⟨e, _⟩
  · rw [e]; omega
  · exact absurd e h
  · rw [e]; omega
theorem icmp_self (x : Int) : icmp x x = 0 := by simp [icmp]
theorem g_pref09_Compare (h1 : S_ints (C (F n_pref09_ints))) (h2 : S_tcmp (C (F n_pref09_Texts))) : S_vcmpR ((c_pref09_Compare F).gives C) := by
  intro a b ha hb
  refine gives_of rfl ?_
  unfold c_pref09_Compare vcmp
  simp only [walk, Nat.reduceLT, Nat.reduceBEq, Nat.reduceAdd, Nat.reduceLeDiff, reduceIte, Int.reduceLT, Int.reduceLE, Int.reduceEq, Int.reduceToNat, Int.reduceBEq, ine, ne_eq, decide_not]
  by_cases c1 : a.1 = b.1
  · have i1 : icmp a.1 b.1 = 0 := by rw [c1, icmp_self]
    simp only [walk, Nat.reduceLT, Nat.reduceBEq, Nat.reduceAdd, Nat.reduceLeDiff, reduceIte, Int.reduceLT, Int.reduceLE, Int.reduceEq, Int.reduceToNat, Int.reduceBEq, ine, ne_eq, decide_not, c1]
    by_cases c2 : a.2.1 = b.2.1
    · have i2 : icmp a.2.1 b.2.1 = 0 := by rw [c2, icmp_self]
      simp only [walk, Nat.reduceLT, Nat.reduceBEq, Nat.reduceAdd, Nat.reduceLeDiff, reduceIte, Int.reduceLT, Int.reduceLE, Int.reduceEq, Int.reduceToNat, Int.reduceBEq, ine, ne_eq, decide_not, c1, c2]
      refine callWp_of (h2 a.2.2 b.2.2 ha hb) ?_
      simp only [walk, Nat.reduceLT, Nat.reduceBEq, Nat.reduceAdd, Nat.reduceLeDiff, reduceIte, Int.reduceLT, Int.reduceLE, Int.reduceEq, Int.reduceToNat, Int.reduceBEq, icmp_self]
    · have i2 := icmp_ne c2
      simp only [walk, Nat.reduceLT, Nat.reduceBEq, Nat.reduceAdd, Nat.reduceLeDiff, reduceIte, Int.reduceLT, Int.reduceLE, Int.reduceEq, Int.reduceToNat, Int.reduceBEq, ine, ne_eq, decide_not, c1, c2]
      refine callWp_of (h1 a.2.1 b.2.1) ?_
      simp only [walk, Nat.reduceLT, Nat.reduceBEq, Nat.reduceAdd, Nat.reduceLeDiff, reduceIte, Int.reduceLT, Int.reduceLE, Int.reduceEq, Int.reduceToNat, Int.reduceBEq, icmp_self, ne_eq, if_neg i2]
      all_goals simp only [i2, not_false_eq_true, not_true_eq_false, if_true, if_false]
  · have i1 := icmp_ne c1
    simp only [walk, Nat.reduceLT, Nat.reduceBEq, Nat.reduceAdd, Nat.reduceLeDiff, reduceIte, Int.reduceLT, Int.reduceLE, Int.reduceEq, Int.reduceToNat, Int.reduceBEq, ine, ne_eq, decide_not, c1]
    refine callWp_of (h1 a.1 b.1) ?_
    simp only [walk, Nat.reduceLT, Nat.reduceBEq, Nat.reduceAdd, Nat.reduceLeDiff, reduceIte, Int.reduceLT, Int.reduceLE, Int.reduceEq, Int.reduceToNat, Int.reduceBEq, ne_eq, i1]
def S_vbs (C : CallRel) (R : Rel) : Prop := ∀ (l : List Vl) (d : Vl) (f : FuncId), l.length ≤ 2000000 → sortV l → (∀ a e : Vl, C f [.v (vP a), .v (vP e)] (.val (.int .i64 (vcmp a e))) []) → R [.v (vsP l), .v (vP d), .v (.fn f)] (.val (.tup [.int .i64 ((lowV l d : Nat) : Int), .bool (hasV l d)])) []
theorem g_slices_BinarySearchFunc_Value : S_vbs C ((c_slices_BinarySearchFunc_api_Value_api_Value_api_Value F).gives C) := by
  intro l d f hl hs hf
  refine gives_of rfl ?_
  unfold c_slices_BinarySearchFunc_api_Value_api_Value_api_Value
  simp only [walk, Nat.reduceLT, Nat.reduceBEq, Nat.reduceAdd, Nat.reduceLeDiff, reduceIte, Int.reduceLT, Int.reduceLE, Int.reduceEq, Int.reduceToNat, Int.reduceBEq, vRows_len]
  refine awp_loop_ind (X := Nat × Nat) (fun x => ⟨[(0, .val (vsP l)), (1, .val (vP d)), (2, .val (.fn f)), (4, .lp 4 0), (6, .val (.int .i64 0)), (7, .val (.bool false)), (8, .val (.int .i64 l.length)), (9, .val (.int .i64 x.1)), (10, .val (.int .i64 x.2))],
      [(4, .cells [.val (.int .i64 d.1), .val (.int .i64 d.2.1), .val (.str d.2.2)])]⟩)
      (fun x => x.1 ≤ x.2 ∧ x.2 ≤ l.length ∧ (∀ k, k < x.1 → vcmp (l.getD k z0) d < 0) ∧ ∀ k, x.2 ≤ k → k < l.length → ¬ vcmp (l.getD k z0) d < 0) (fun x => x.2 - x.1) (0, l.length) ⟨by omega, Nat.le_refl _, by omega, by omega⟩ rfl ?_
  rintro R ⟨i, j⟩ ⟨h1, h2, h3, h4⟩ ih
  simp only at h1 h2 h3 h4
  simp only [walk, Nat.reduceLT, Nat.reduceBEq, Nat.reduceAdd, Nat.reduceLeDiff, reduceIte, Int.reduceLT, Int.reduceLE, Int.reduceEq, Int.reduceToNat, Int.reduceBEq]
  by_cases hij : i < j
  · have c1 : (i : Int) < j := by omega
    have e1 : IntKind.i64.wrap ((i : Int) + j) = ((i + j : Nat) : Int) := wrap64 (by omega) (by omega)
    have e2 : IntKind.u64.wrap ((i + j : Nat) : Int) = ((i + j : Nat) : Int) := by unfold IntKind.wrap; simp [IntKind.bits, IntKind.signed]; omega
    have e3 : ((i + j : Nat) : Int).fdiv (2 ^ (min (1 : Nat) IntKind.u64.bits)) = (((i + j) / 2 : Nat) : Int) := by
      simp [IntKind.bits, Int.fdiv_eq_ediv]
    have e4 : IntKind.i64.wrap (((i + j) / 2 : Nat) : Int) = (((i + j) / 2 : Nat) : Int) := wrap64 (by omega) (by omega)
    obtain ⟨h, hh⟩ : ∃ h, h = (i + j) / 2 := ⟨_, rfl⟩
    have hb : i ≤ h ∧ h < j := by omega
    have hlt : h < l.length := by omega
    rw [← hh] at e3 e4
    have e5 : IntKind.i64.wrap ((h : Int) + 1) = ((h + 1 : Nat) : Int) := wrap64 (by omega) (by omega)
    simp only [walk, Nat.reduceLT, Nat.reduceBEq, Nat.reduceAdd, Nat.reduceLeDiff, reduceIte, Int.reduceLT, Int.reduceLE, Int.reduceEq, Int.reduceToNat, Int.reduceBEq, c1, e1, e2, e3, e4, vRows_get hlt]
    refine callWp_of (hf _ d) ?_
    simp only [walk, Nat.reduceLT, Nat.reduceBEq, Nat.reduceAdd, Nat.reduceLeDiff, reduceIte, Int.reduceLT, Int.reduceLE, Int.reduceEq, Int.reduceToNat, Int.reduceBEq]
    have hat := getV_at hlt
    by_cases c2 : vcmp l[h] d < 0
    · simp only [walk, Nat.reduceLT, Nat.reduceBEq, Nat.reduceAdd, Nat.reduceLeDiff, reduceIte, Int.reduceLT, Int.reduceLE, Int.reduceEq, Int.reduceToNat, Int.reduceBEq, c2, e5]
      refine ih (h + 1, j) ⟨by simp only; omega, h2, fun k hk => ?_, h4⟩ (by simp only; omega)
      simp only at hk
      by_cases e : k = h
      · subst e; rw [hat]; exact c2
      · exact vcmp_trans (hs k h (by omega) hlt) (by rw [hat]; exact c2)
    · simp only [walk, Nat.reduceLT, Nat.reduceBEq, Nat.reduceAdd, Nat.reduceLeDiff, reduceIte, Int.reduceLT, Int.reduceLE, Int.reduceEq, Int.reduceToNat, Int.reduceBEq, c2]
      refine ih (i, h) ⟨by simp only; omega, by simp only; omega, h3, fun k hk hl' => ?_⟩ (by simp only; omega)
      simp only at hk
      by_cases e : k = h
      · subst e; rw [hat]; exact c2
      · intro hc
        exact c2 (by rw [← hat]; exact vcmp_trans (hs h k (by omega) hl') hc)
  · have hij' : i = j := by omega
    subst hij'
    have c1 : ¬ ((i : Int) < i) := by omega
    have q1 : lowV l d = i := lowV_of h2 h3 h4
    have q2 := hasV_low h3 h4 hs
    simp only [walk, Nat.reduceLT, Nat.reduceBEq, Nat.reduceAdd, Nat.reduceLeDiff, reduceIte, Int.reduceLT, Int.reduceLE, Int.reduceEq, Int.reduceToNat, Int.reduceBEq, c1]
    by_cases hlt : i < l.length
    · have c2 : (i : Int) < l.length := by omega
      have c0 : (0 : Int) ≤ i := by omega
      simp only [walk, Nat.reduceLT, Nat.reduceBEq, Nat.reduceAdd, Nat.reduceLeDiff, reduceIte, Int.reduceLT, Int.reduceLE, Int.reduceEq, Int.reduceToNat, Int.reduceBEq, c2, vRows_get hlt]
      refine callWp_of (hf _ d) ?_
      have q3 : (decide (i < l.length)) = true := by simpa using hlt
      rw [q3, Bool.true_and, getV_at hlt] at q2
      simp only [walk, Nat.reduceLT, Nat.reduceBEq, Nat.reduceAdd, Nat.reduceLeDiff, reduceIte, Int.reduceLT, Int.reduceLE, Int.reduceEq, Int.reduceToNat, Int.reduceBEq, q1, q2, ieq]
    · have c2 : ¬ ((i : Int) < l.length) := by omega
      have q3 : (decide (i < l.length)) = false := by simpa using hlt
      rw [q3, Bool.false_and] at q2
      simp only [walk, Nat.reduceLT, Nat.reduceBEq, Nat.reduceAdd, Nat.reduceLeDiff, reduceIte, Int.reduceLT, Int.reduceLE, Int.reduceEq, Int.reduceToNat, Int.reduceBEq, c2, q1, q2]
end
end Go.AR

/-! Bags: a bag's values. -/
namespace Go.AR
open Go
section
variable {C : CallRel} {F : Nat → FuncId}
def bagL (l : List It) (p : List (List UInt8)) : List Vl := valsV (atL l p 2)
def S_bagV (R : Rel) : Prop := ∀ (l : List It) (p : List (List UInt8)), isOk l → pOk p → R [.v (isP l), .v (ptP p)] (.val (vsP (bagL l p))) []
theorem g_bag_Values (hA : S_iAt (C (F n_live_At))) (hB : S_vbs C (C (F n_slices_BinarySearchFunc_api_Value_api_Value_api_Value))) (hc : S_vcmp (C (F n_value_Compare))) (hI : S_Insert 3 32 (C (F n_slices_Insert_api_Value_api_Value))) : S_bagV ((c_bag_Values F).gives C) := by
  intro l p hl hp
  refine gives_of rfl ?_
  unfold c_bag_Values bagL
  simp only [walk, Nat.reduceLT, Nat.reduceBEq, Nat.reduceAdd, Nat.reduceLeDiff, reduceIte, Int.reduceLT, Int.reduceLE, Int.reduceEq, Int.reduceToNat, Int.reduceBEq]
  refine callWp_of (hA l p 2 hl hp) ?_
  have hAl := (filter_ok (fun i => decide (oLeaf i.o.k = 2) && decide (i.o.p = p)) hl).1
  generalize hAA : atL l p 2 = A at *
  have hAl : A.length ≤ 1000000 := by rw [← hAA]; exact hAl
  simp only [walk, Nat.reduceLT, Nat.reduceBEq, Nat.reduceAdd, Nat.reduceLeDiff, reduceIte, Int.reduceLT, Int.reduceLE, Int.reduceEq, Int.reduceToNat, Int.reduceBEq, iRs_len]
  refine awp_loop_ind (X := Nat) (fun k => ⟨[(0, .val (isP l)), (1, .val (ptP p)), (4, .val (.sl 3 [])), (5, .exc 3 (vRows (valsV (A.take k)))), (12, .val (isP A)), (13, .val (.int .i64 A.length)), (14, .val (.int .i64 k))], []⟩)
    (fun k => k ≤ A.length) (fun k => A.length - k) 0 (by omega) rfl ?_
  rintro R k hk ih
  simp only [walk, Nat.reduceLT, Nat.reduceBEq, Nat.reduceAdd, Nat.reduceLeDiff, reduceIte, Int.reduceLT, Int.reduceLE, Int.reduceEq, Int.reduceToNat, Int.reduceBEq]
  by_cases c : k < A.length
  · have c1 : (k : Int) < A.length := by omega
    have c0 : (0 : Int) ≤ k := by omega
    have e1 : IntKind.i64.wrap ((k : Int) + 1) = ((k + 1 : Nat) : Int) := wrap64 (by omega) (by omega)
    obtain ⟨o1, o2, _⟩ := valsV_ok A k hk
    have next := ih (k + 1) (by omega) (by omega)
    rw [valsV_add A k c] at next
    have hget := iRs_get c
    clear ih
    generalize valsV (A.take k) = X at *
    generalize A[k] = i at *
    have hins := hI (vRows X) (lowV X i.o.v) (vCells i.o.v) (by rw [vRows_len]; exact (lowV_spec i.o.v o1).1) (by rw [vRows_len]; omega) (by rw [vRows_len]; omega)
    have er : (vRows X).take (lowV X i.o.v) ++ vCells i.o.v :: (vRows X).drop (lowV X i.o.v) = vRows (X.take (lowV X i.o.v) ++ i.o.v :: X.drop (lowV X i.o.v)) := by simp [vRows]
    have hbs := hB X i.o.v (F n_value_Compare) (by omega) o1 hc
    rw [er] at hins
    unfold insV at next
    by_cases hX : X = []
    · subst hX
      have r0 : vRows [] = [] := rfl
      have h0 : hasV [] i.o.v = false := rfl
      have l0 : lowV [] i.o.v = 0 := rfl
      rw [h0] at next
      simp only [Bool.false_eq_true, if_false] at next
      rw [r0] at hins
      simp only [walk, Nat.reduceLT, Nat.reduceBEq, Nat.reduceAdd, Nat.reduceLeDiff, reduceIte, Int.reduceLT, Int.reduceLE, Int.reduceEq, Int.reduceToNat, Int.reduceBEq, c1, hget, r0, setAll_nil]
      refine callWp_of hbs ?_
      rw [h0]
      simp only [walk, Nat.reduceLT, Nat.reduceBEq, Nat.reduceAdd, Nat.reduceLeDiff, reduceIte, Int.reduceLT, Int.reduceLE, Int.reduceEq, Int.reduceToNat, Int.reduceBEq]
      refine closeW_nil ?_
      simp only [walk, Nat.reduceLT, Nat.reduceBEq, Nat.reduceAdd, Nat.reduceLeDiff, reduceIte, Int.reduceLT, Int.reduceLE, Int.reduceEq, Int.reduceToNat, Int.reduceBEq]
      refine callWp_of hins ?_
      simp only [walk, Nat.reduceLT, Nat.reduceBEq, Nat.reduceAdd, Nat.reduceLeDiff, reduceIte, Int.reduceLT, Int.reduceLE, Int.reduceEq, Int.reduceToNat, Int.reduceBEq, e1]
      exact next
    · have hne : vRows X ≠ [] := fun e => hX (by have := congrArg List.length e; rw [vRows_len] at this; exact List.eq_nil_of_length_eq_zero this)
      simp only [walk, Nat.reduceLT, Nat.reduceBEq, Nat.reduceAdd, Nat.reduceLeDiff, reduceIte, Int.reduceLT, Int.reduceLE, Int.reduceEq, Int.reduceToNat, Int.reduceBEq, c1, hget, x_openx hne]
      rw [mkB_xs (rows := vRows X) rfl rfl rfl (vRows_c _) (vRows_one _)]
      simp only [walk, Nat.reduceLT, Nat.reduceBEq, Nat.reduceAdd, Nat.reduceLeDiff, reduceIte, Int.reduceLT, Int.reduceLE, Int.reduceEq, Int.reduceToNat, Int.reduceBEq]
      refine callWp_of hbs ?_
      simp only [walk, Nat.reduceLT, Nat.reduceBEq, Nat.reduceAdd, Nat.reduceLeDiff, reduceIte, Int.reduceLT, Int.reduceLE, Int.reduceEq, Int.reduceToNat, Int.reduceBEq]
      refine closeW_of (C := C) (rows := vRows X) rfl (vRows_c _) rfl (vRows_one _) (by simp [del, TV.rf]) ?_
      simp only [walk, Nat.reduceLT, Nat.reduceBEq, Nat.reduceAdd, Nat.reduceLeDiff, reduceIte, Int.reduceLT, Int.reduceLE, Int.reduceEq, Int.reduceToNat, Int.reduceBEq]
      cases hh : hasV X i.o.v with
      | true =>
        rw [hh] at next
        simp only [if_true] at next
        simp only [walk, Nat.reduceLT, Nat.reduceBEq, Nat.reduceAdd, Nat.reduceLeDiff, reduceIte, Int.reduceLT, Int.reduceLE, Int.reduceEq, Int.reduceToNat, Int.reduceBEq, hh, e1]
        exact next
      | false =>
        rw [hh] at next
        simp only [Bool.false_eq_true, if_false] at next
        simp only [walk, Nat.reduceLT, Nat.reduceBEq, Nat.reduceAdd, Nat.reduceLeDiff, reduceIte, Int.reduceLT, Int.reduceLE, Int.reduceEq, Int.reduceToNat, Int.reduceBEq, hh]
        refine callWp_of hins ?_
        simp only [walk, Nat.reduceLT, Nat.reduceBEq, Nat.reduceAdd, Nat.reduceLeDiff, reduceIte, Int.reduceLT, Int.reduceLE, Int.reduceEq, Int.reduceToNat, Int.reduceBEq, e1]
        exact next
  · have c1 : ¬ (k : Int) < A.length := by omega
    rw [List.take_of_length_le (by omega)]
    simp only [walk, Nat.reduceLT, Nat.reduceBEq, Nat.reduceAdd, Nat.reduceLeDiff, reduceIte, Int.reduceLT, Int.reduceLE, Int.reduceEq, Int.reduceToNat, Int.reduceBEq, c1]
end
end Go.AR

/-! Bags: the document's values, and what added one. -/
namespace Go.AR
open Go
theorem rIns_bound {l : List Vl} (hl : l.length ≤ 1000000) (v : Vl) (k : Nat) : ((rIns l v k).1.length + 1) * 32 ≤ 140737488355328 ∧ ((rIns l v k).1.length + 1 + 1) * 32 ≤ 140737488355328 := by
  have h := rIns_len l v k
  generalize (rIns l v k).1.length = n at *
  omega
section
variable {C : CallRel} {F : Nat → FuncId}
def S_rIns (R : Rel) : Prop := ∀ (l : List Vl) (v : Vl), l.length ≤ 1000000 → sortV l → (∀ x ∈ l, x.2.2.length ≤ 20000000) → v.2.2.length ≤ 20000000 → R [.v (vsP l), .v (vP v)] (.val (vsP (insV l v))) []
def S_addsL (R : Rel) : Prop := ∀ (l : List It) (p : List (List UInt8)) (v : Vl), isOk l → pOk p → R [.v (isP l), .v (ptP p), .v (vP v)] (.val (usP (((atL l p 2).filter fun i => decide (i.o.v = v)).map (·.x)))) []
def S_hasB (R : Rel) : Prop := ∀ (l : List It) (p : List (List UInt8)) (v : Vl), isOk l → pOk p → R [.v (isP l), .v (ptP p), .v (vP v)] (.val (.bool (decide (0 < ((atL l p 2).filter fun i => decide (i.o.v = v)).length)))) []
def S_vSame (R : Rel) : Prop := ∀ a b : List Vl, a.length ≤ 2000000 → R [.v (vsP a), .v (vsP b)] (.val (.bool (decide (a = b)))) []
set_option maxHeartbeats 1000000 in
theorem g_pref14_Insert (hc : S_vcmpR (C (F n_pref09_Compare))) : S_rIns ((c_pref14_Insert F).gives C) := by
  intro l v hl hs hb hv
  refine gives_of rfl ?_
  unfold c_pref14_Insert
  simp only [walk, Nat.reduceLT, Nat.reduceBEq, Nat.reduceAdd, Nat.reduceLeDiff, reduceIte, Int.reduceLT, Int.reduceLE, Int.reduceEq, Int.reduceToNat, Int.reduceBEq]
  refine awp_loop_ind (X := Nat) (fun k => ⟨[(0, .val (vsP l)), (1, .val (vP v)), (3, .lp 3 0), (4, .val (.sl 3 [])), (5, .own 3 (vRows (rIns l v k).1)), (6, .val (.bool (rIns l v k).2)), (7, .val (.int .i64 k))], [(3, .cells [.val (.int .i64 v.1), .val (.int .i64 v.2.1), .val (.str v.2.2)])]⟩)
    (fun k => k ≤ l.length ∧ ∀ j, j < k → ∀ h : j < l.length, ¬ l[j] = v) (fun k => l.length - k) 0 ⟨by omega, by omega⟩ (by
      have e : rIns l v 0 = ([], false) := by unfold rIns; rw [if_pos (by omega)]; simp
      rw [e]; rfl) ?_
  rintro R k ⟨hk, hJ⟩ ih
  simp only [walk, Nat.reduceLT, Nat.reduceBEq, Nat.reduceAdd, Nat.reduceLeDiff, reduceIte, Int.reduceLT, Int.reduceLE, Int.reduceEq, Int.reduceToNat, Int.reduceBEq, vRows_len]
  obtain ⟨b1, b2⟩ := rIns_bound hl v k
  by_cases c : k < l.length
  · have c1 : (k : Int) < l.length := by omega
    have c0 : (0 : Int) ≤ k := by omega
    have e1 : IntKind.i64.wrap ((k : Int) + 1) = ((k + 1 : Nat) : Int) := wrap64 (by omega) (by omega)
    have hget := vRows_get c
    have hbk := hb _ (List.getElem_mem c)
    simp only [walk, Nat.reduceLT, Nat.reduceBEq, Nat.reduceAdd, Nat.reduceLeDiff, reduceIte, Int.reduceLT, Int.reduceLE, Int.reduceEq, Int.reduceToNat, Int.reduceBEq, c1, hget]
    refine callWp_of (hc v l[k] hv hbk) ?_
    rcases vcmp_cases v l[k] with ⟨e, hlt⟩ | ⟨e, heq⟩ | ⟨e, hgt⟩
    · -- it stands ahead
      have hne : ¬ l[k] = v := fun q => by rw [q] at hlt; exact vlt_irrefl _ hlt
      obtain ⟨b, hb2, hstep⟩ := rIns_lt hs c (by rw [e]; omega)
      have next := ih (k + 1) ⟨by omega, fun j hj h => by
        by_cases q : j = k
        · subst q; exact hne
        · exact hJ j (by omega) h⟩ (by omega)
      rw [hstep] at next
      have m0 : ((-1 : Int) == 0) = false := rfl
      rw [e]
      cases b with
      | true =>
        simp only [if_true, ← vRows_app] at next
        simp only [walk, Nat.reduceLT, Nat.reduceBEq, Nat.reduceAdd, Nat.reduceLeDiff, reduceIte, Int.reduceLT, Int.reduceLE, Int.reduceEq, Int.reduceToNat, Int.reduceBEq, m0, hb2, hget, c1, vRows_len, b1, e1]
        exact next
      | false =>
        simp only [Bool.false_eq_true, if_false, ← vRows_app] at next
        have b2' : ((rIns l v k).1.length + 1 + 1) * 32 ≤ 140737488355328 := b2
        simp only [walk, Nat.reduceLT, Nat.reduceBEq, Nat.reduceAdd, Nat.reduceLeDiff, reduceIte, Int.reduceLT, Int.reduceLE, Int.reduceEq, Int.reduceToNat, Int.reduceBEq, m0, hb2, hget, c1, vRows_len, b1, b2, e1, List.length_append, List.length_singleton]
        exact next
    · -- it is there
      have hh : hasV l v = true := hasV_iff.2 ⟨k, c, by rw [getV_at c]; exact heq.symm⟩
      have hi : insV l v = l := by unfold insV; rw [if_pos hh]
      have m0 : ((0 : Int) == 0) = true := rfl
      rw [e, hi]
      simp only [walk, Nat.reduceLT, Nat.reduceBEq, Nat.reduceAdd, Nat.reduceLeDiff, reduceIte, Int.reduceLT, Int.reduceLE, Int.reduceEq, Int.reduceToNat, Int.reduceBEq, m0]
    · -- behind
      have hne : ¬ l[k] = v := fun q => by rw [q] at hgt; exact vlt_irrefl _ hgt
      obtain ⟨hb2, hstep⟩ := rIns_gt hs c (by rw [e]; omega)
      have next := ih (k + 1) ⟨by omega, fun j hj h => by
        by_cases q : j = k
        · subst q; exact hne
        · exact hJ j (by omega) h⟩ (by omega)
      rw [hstep] at next
      have m0 : ((1 : Int) == 0) = false := rfl
      rw [e]
      simp only [← vRows_app] at next
      simp only [walk, Nat.reduceLT, Nat.reduceBEq, Nat.reduceAdd, Nat.reduceLeDiff, reduceIte, Int.reduceLT, Int.reduceLE, Int.reduceEq, Int.reduceToNat, Int.reduceBEq, m0, hb2, hget, c1, vRows_len, b1, e1]
      exact next
  · have c1 : ¬ (k : Int) < l.length := by omega
    have hkl : k = l.length := by omega
    subst hkl
    have hn : hasV l v = false := by
      rw [← Bool.not_eq_true, hasV_iff]
      rintro ⟨j, hj, e⟩
      rw [getV_at hj] at e
      exact hJ j hj hj e
    have hend := rIns_end hs hn
    rw [hend]
    cases hb2 : (rIns l v l.length).2 with
    | true => simp only [walk, Nat.reduceLT, Nat.reduceBEq, Nat.reduceAdd, Nat.reduceLeDiff, reduceIte, Int.reduceLT, Int.reduceLE, Int.reduceEq, Int.reduceToNat, Int.reduceBEq, c1, hb2]
    | false =>
      simp only [walk, Nat.reduceLT, Nat.reduceBEq, Nat.reduceAdd, Nat.reduceLeDiff, reduceIte, Int.reduceLT, Int.reduceLE, Int.reduceEq, Int.reduceToNat, Int.reduceBEq, c1, hb2, vRows_len, b1, Bool.false_eq_true]
      exact congrArg (fun r => some (RV.val (.sl 3 r))) (vRows_app _ v)
theorem g_pref15_Values (hA : S_iAt (C (F n_pref13_At))) (hI : S_rIns (C (F n_pref14_Insert))) : S_bagV ((c_pref15_Values F).gives C) := by
  intro l p hl hp
  refine gives_of rfl ?_
  unfold c_pref15_Values bagL
  simp only [walk, Nat.reduceLT, Nat.reduceBEq, Nat.reduceAdd, Nat.reduceLeDiff, reduceIte, Int.reduceLT, Int.reduceLE, Int.reduceEq, Int.reduceToNat, Int.reduceBEq]
  refine callWp_of (hA l p 2 hl hp) ?_
  have hok := filter_ok (fun i => decide (oLeaf i.o.k = 2) && decide (i.o.p = p)) hl
  have hok' : isOk (atL l p 2) := hok
  clear hok
  generalize atL l p 2 = A at *
  obtain ⟨hAl, hAo⟩ := hok'
  simp only [walk, Nat.reduceLT, Nat.reduceBEq, Nat.reduceAdd, Nat.reduceLeDiff, reduceIte, Int.reduceLT, Int.reduceLE, Int.reduceEq, Int.reduceToNat, Int.reduceBEq, iRs_len]
  refine awp_loop_ind (X := Nat) (fun k => ⟨[(0, .val (isP l)), (1, .val (ptP p)), (4, .val (.sl 3 [])), (5, .val (vsP (valsV (A.take k)))), (6, .val (isP A)), (7, .val (.int .i64 k))], []⟩)
    (fun k => k ≤ A.length) (fun k => A.length - k) 0 (by omega) rfl ?_
  rintro R k hk ih
  simp only [walk, Nat.reduceLT, Nat.reduceBEq, Nat.reduceAdd, Nat.reduceLeDiff, reduceIte, Int.reduceLT, Int.reduceLE, Int.reduceEq, Int.reduceToNat, Int.reduceBEq, iRs_len]
  by_cases c : k < A.length
  · have c1 : (k : Int) < A.length := by omega
    have c0 : (0 : Int) ≤ k := by omega
    have e1 : IntKind.i64.wrap ((k : Int) + 1) = ((k + 1 : Nat) : Int) := wrap64 (by omega) (by omega)
    obtain ⟨o1, o2, o3⟩ := valsV_ok A k hk
    have next := ih (k + 1) (by omega) (by omega)
    rw [valsV_add A k c] at next
    have hget := iRs_get c
    have hov := (hAo _ (List.getElem_mem c)).2.1
    clear ih
    generalize valsV (A.take k) = X at *
    generalize A[k] = i at *
    simp only [walk, Nat.reduceLT, Nat.reduceBEq, Nat.reduceAdd, Nat.reduceLeDiff, reduceIte, Int.reduceLT, Int.reduceLE, Int.reduceEq, Int.reduceToNat, Int.reduceBEq, c1, hget, iRs_len]
    refine callWp_of (hI X i.o.v (by omega) o1 (fun x hx => by
      obtain ⟨j, hj, rfl⟩ := o3 x hx
      exact (hAo j hj).2.1) hov) ?_
    simp only [walk, Nat.reduceLT, Nat.reduceBEq, Nat.reduceAdd, Nat.reduceLeDiff, reduceIte, Int.reduceLT, Int.reduceLE, Int.reduceEq, Int.reduceToNat, Int.reduceBEq, e1]
    exact next
  · have c1 : ¬ (k : Int) < A.length := by omega
    rw [List.take_of_length_le (by omega)]
    simp only [walk, Nat.reduceLT, Nat.reduceBEq, Nat.reduceAdd, Nat.reduceLeDiff, reduceIte, Int.reduceLT, Int.reduceLE, Int.reduceEq, Int.reduceToNat, Int.reduceBEq, c1]
theorem g_bag_Adds (hA : S_iAt (C (F n_live_At))) : S_addsL ((c_bag_Adds F).gives C) := by
  intro l p v hl hp
  refine gives_of rfl ?_
  unfold c_bag_Adds
  simp only [walk, Nat.reduceLT, Nat.reduceBEq, Nat.reduceAdd, Nat.reduceLeDiff, reduceIte, Int.reduceLT, Int.reduceLE, Int.reduceEq, Int.reduceToNat, Int.reduceBEq]
  refine callWp_of (hA l p 2 hl hp) ?_
  have hok : isOk (atL l p 2) := filter_ok (fun i => decide (oLeaf i.o.k = 2) && decide (i.o.p = p)) hl
  generalize atL l p 2 = A at *
  obtain ⟨hAl, hAo⟩ := hok
  simp only [walk, Nat.reduceLT, Nat.reduceBEq, Nat.reduceAdd, Nat.reduceLeDiff, reduceIte, Int.reduceLT, Int.reduceLE, Int.reduceEq, Int.reduceToNat, Int.reduceBEq, iRs_len]
  generalize hf : (fun i : It => decide (i.o.v = v)) = f
  refine awp_loop_ind (X := Nat) (fun k => ⟨[(0, .val (isP l)), (1, .val (ptP p)), (2, .val (vP v)), (5, .lp 5 0), (6, .val (.sl 3 [])), (7, .own 3 (uRows (((A.take k).filter f).map (·.x)))), (12, .val (isP A)), (13, .val (.int .i64 A.length)), (14, .val (.int .i64 k))], [(5, .cells [.val (.int .i64 v.1), .val (.int .i64 v.2.1), .val (.str v.2.2)])]⟩)
    (fun k => k ≤ A.length) (fun k => A.length - k) 0 (by omega) rfl ?_
  rintro R k hk ih
  simp only [walk, Nat.reduceLT, Nat.reduceBEq, Nat.reduceAdd, Nat.reduceLeDiff, reduceIte, Int.reduceLT, Int.reduceLE, Int.reduceEq, Int.reduceToNat, Int.reduceBEq, iRs_len]
  by_cases c : k < A.length
  · have c1 : (k : Int) < A.length := by omega
    have c0 : (0 : Int) ≤ k := by omega
    have e1 : IntKind.i64.wrap ((k : Int) + 1) = ((k + 1 : Nat) : Int) := wrap64 (by omega) (by omega)
    have hfl := fl_len f A k
    have b1 : (((A.take k).filter f).length + 1) * 24 ≤ 140737488355328 := by omega
    have next := ih (k + 1) (by omega) (by omega)
    rw [filter_take f A k c] at next
    have hget := iRs_get c
    have hfk : f A[k] = decide (A[k].o.v = v) := by rw [← hf]
    rw [hfk] at next
    clear ih hfk
    generalize (A.take k).filter f = X at *
    generalize A[k] = i at *
    by_cases h : i.o.v = v
    · have hd : decide (i.o.v = v) = true := decide_eq_true h
      rw [hd] at next
      simp only [if_true, List.map_append, List.map_cons, List.map_nil, ← uRows_app] at next
      simp only [walk, Nat.reduceLT, Nat.reduceBEq, Nat.reduceAdd, Nat.reduceLeDiff, reduceIte, Int.reduceLT, Int.reduceLE, Int.reduceEq, Int.reduceToNat, Int.reduceBEq, c1, hget, eq_v, h, uRows_len, b1, e1]
      exact next
    · have hd : decide (i.o.v = v) = false := decide_eq_false h
      rw [hd] at next
      simp only [Bool.false_eq_true, if_false, List.append_nil] at next
      simp only [walk, Nat.reduceLT, Nat.reduceBEq, Nat.reduceAdd, Nat.reduceLeDiff, reduceIte, Int.reduceLT, Int.reduceLE, Int.reduceEq, Int.reduceToNat, Int.reduceBEq, c1, hget, eq_v, h, e1]
      exact next
  · have c1 : ¬ (k : Int) < A.length := by omega
    rw [List.take_of_length_le (by omega)]
    simp only [walk, Nat.reduceLT, Nat.reduceBEq, Nat.reduceAdd, Nat.reduceLeDiff, reduceIte, Int.reduceLT, Int.reduceLE, Int.reduceEq, Int.reduceToNat, Int.reduceBEq, c1]
theorem g_pref15_Adds (hA : S_iAt (C (F n_pref13_At))) : S_addsL ((c_pref15_Adds F).gives C) := by
  intro l p v hl hp
  refine gives_of rfl ?_
  unfold c_pref15_Adds
  simp only [walk, Nat.reduceLT, Nat.reduceBEq, Nat.reduceAdd, Nat.reduceLeDiff, reduceIte, Int.reduceLT, Int.reduceLE, Int.reduceEq, Int.reduceToNat, Int.reduceBEq]
  refine callWp_of (hA l p 2 hl hp) ?_
  have hok : isOk (atL l p 2) := filter_ok (fun i => decide (oLeaf i.o.k = 2) && decide (i.o.p = p)) hl
  generalize atL l p 2 = A at *
  obtain ⟨hAl, hAo⟩ := hok
  simp only [walk, Nat.reduceLT, Nat.reduceBEq, Nat.reduceAdd, Nat.reduceLeDiff, reduceIte, Int.reduceLT, Int.reduceLE, Int.reduceEq, Int.reduceToNat, Int.reduceBEq, iRs_len]
  generalize hf : (fun i : It => decide (i.o.v = v)) = f
  refine awp_loop_ind (X := Nat) (fun k => ⟨[(0, .val (isP l)), (1, .val (ptP p)), (2, .val (vP v)), (5, .lp 5 0), (6, .val (.sl 3 [])), (7, .own 3 (uRows (((A.take k).filter f).map (·.x)))), (8, .val (isP A)), (9, .val (.int .i64 k))], [(5, .cells [.val (.int .i64 v.1), .val (.int .i64 v.2.1), .val (.str v.2.2)])]⟩)
    (fun k => k ≤ A.length) (fun k => A.length - k) 0 (by omega) rfl ?_
  rintro R k hk ih
  simp only [walk, Nat.reduceLT, Nat.reduceBEq, Nat.reduceAdd, Nat.reduceLeDiff, reduceIte, Int.reduceLT, Int.reduceLE, Int.reduceEq, Int.reduceToNat, Int.reduceBEq, iRs_len]
  by_cases c : k < A.length
  · have c1 : (k : Int) < A.length := by omega
    have c0 : (0 : Int) ≤ k := by omega
    have e1 : IntKind.i64.wrap ((k : Int) + 1) = ((k + 1 : Nat) : Int) := wrap64 (by omega) (by omega)
    have hfl := fl_len f A k
    have b1 : (((A.take k).filter f).length + 1) * 24 ≤ 140737488355328 := by omega
    have next := ih (k + 1) (by omega) (by omega)
    rw [filter_take f A k c] at next
    have hget := iRs_get c
    have hfk : f A[k] = decide (A[k].o.v = v) := by rw [← hf]
    rw [hfk] at next
    clear ih hfk
    generalize (A.take k).filter f = X at *
    generalize A[k] = i at *
    by_cases h : i.o.v = v
    · have hd : decide (i.o.v = v) = true := decide_eq_true h
      rw [hd] at next
      simp only [if_true, List.map_append, List.map_cons, List.map_nil, ← uRows_app] at next
      simp only [walk, Nat.reduceLT, Nat.reduceBEq, Nat.reduceAdd, Nat.reduceLeDiff, reduceIte, Int.reduceLT, Int.reduceLE, Int.reduceEq, Int.reduceToNat, Int.reduceBEq, c1, hget, eq_v, h, uRows_len, iRs_len, b1, e1]
      exact next
    · have hd : decide (i.o.v = v) = false := decide_eq_false h
      rw [hd] at next
      simp only [Bool.false_eq_true, if_false, List.append_nil] at next
      simp only [walk, Nat.reduceLT, Nat.reduceBEq, Nat.reduceAdd, Nat.reduceLeDiff, reduceIte, Int.reduceLT, Int.reduceLE, Int.reduceEq, Int.reduceToNat, Int.reduceBEq, c1, hget, eq_v, h, iRs_len, e1]
      exact next
  · have c1 : ¬ (k : Int) < A.length := by omega
    rw [List.take_of_length_le (by omega)]
    simp only [walk, Nat.reduceLT, Nat.reduceBEq, Nat.reduceAdd, Nat.reduceLeDiff, reduceIte, Int.reduceLT, Int.reduceLE, Int.reduceEq, Int.reduceToNat, Int.reduceBEq, c1]
theorem g_bag_Has (h : S_addsL (C (F n_bag_Adds))) : S_hasB ((c_bag_Has F).gives C) := by
  intro l p v hl hp
  refine gives_of rfl ?_
  unfold c_bag_Has
  simp only [walk, Nat.reduceLT, Nat.reduceBEq, Nat.reduceAdd, Nat.reduceLeDiff, reduceIte, Int.reduceLT, Int.reduceLE, Int.reduceEq, Int.reduceToNat, Int.reduceBEq]
  refine callWp_of (h l p v hl hp) ?_
  have e : ((((atL l p 2).filter fun i => decide (i.o.v = v)).length : Int) > 0) = (0 < ((atL l p 2).filter fun i => decide (i.o.v = v)).length) := by apply propext; omega
  simp only [walk, Nat.reduceLT, Nat.reduceBEq, Nat.reduceAdd, Nat.reduceLeDiff, reduceIte, Int.reduceLT, Int.reduceLE, Int.reduceEq, Int.reduceToNat, Int.reduceBEq, uRows_len, e]
theorem g_pref09_Same : S_vSame ((c_pref09_Same F).gives C) := by
  intro a b ha
  refine gives_of rfl ?_
  unfold c_pref09_Same
  simp only [walk, Nat.reduceLT, Nat.reduceBEq, Nat.reduceAdd, Nat.reduceLeDiff, reduceIte, Int.reduceLT, Int.reduceLE, Int.reduceEq, Int.reduceToNat, Int.reduceBEq, vRows_len, ine, ne_eq, decide_not]
  by_cases hl : a.length = b.length
  · have hl' : (a.length : Int) = b.length := by omega
    simp only [walk, Nat.reduceLT, Nat.reduceBEq, Nat.reduceAdd, Nat.reduceLeDiff, reduceIte, Int.reduceLT, Int.reduceLE, Int.reduceEq, Int.reduceToNat, Int.reduceBEq, hl', vRows_len]
    refine awp_loop_ind (X := Nat) (fun k => ⟨[(0, .val (vsP a)), (1, .val (vsP b)), (4, .val (.bool false)), (5, .val (.int .i64 k)), (10, .val (.bool false))], []⟩)
      (fun k => k ≤ a.length ∧ a.take k = b.take k) (fun k => a.length - k) 0 ⟨by omega, by simp⟩ rfl ?_
    rintro R k ⟨hk, hJ⟩ ih
    simp only [walk, Nat.reduceLT, Nat.reduceBEq, Nat.reduceAdd, Nat.reduceLeDiff, reduceIte, Int.reduceLT, Int.reduceLE, Int.reduceEq, Int.reduceToNat, Int.reduceBEq, vRows_len]
    by_cases c : k < a.length
    · have c1 : (k : Int) < b.length := by omega
      have c2 : (k : Int) < a.length := by omega
      have cb : k < b.length := by omega
      have c0 : (0 : Int) ≤ k := by omega
      have e1 : IntKind.i64.wrap ((k : Int) + 1) = ((k + 1 : Nat) : Int) := wrap64 (by omega) (by omega)
      have ga := vRows_get c
      have gb := vRows_get cb
      by_cases he : a[k] = b[k]
      · simp only [walk, Nat.reduceLT, Nat.reduceBEq, Nat.reduceAdd, Nat.reduceLeDiff, reduceIte, Int.reduceLT, Int.reduceLE, Int.reduceEq, Int.reduceToNat, Int.reduceBEq, c1, c2, ga, gb, vRows_len, eq_v, he, e1]
        refine ih (k + 1) ⟨by omega, ?_⟩ (by omega)
        rw [List.take_add_one, List.take_add_one, hJ, List.getElem?_eq_getElem c, List.getElem?_eq_getElem cb, he]
      · have hf : ¬ a = b := by
          rintro rfl
          exact he rfl
        simp only [walk, Nat.reduceLT, Nat.reduceBEq, Nat.reduceAdd, Nat.reduceLeDiff, reduceIte, Int.reduceLT, Int.reduceLE, Int.reduceEq, Int.reduceToNat, Int.reduceBEq, c1, c2, ga, gb, vRows_len, eq_v, he, hf]
    · have c1 : ¬ (k : Int) < b.length := by omega
      have c2 : ¬ (k : Int) < a.length := by omega
      rw [List.take_of_length_le (by omega), List.take_of_length_le (by omega)] at hJ
      subst hJ
      simp only [walk, Nat.reduceLT, Nat.reduceBEq, Nat.reduceAdd, Nat.reduceLeDiff, reduceIte, Int.reduceLT, Int.reduceLE, Int.reduceEq, Int.reduceToNat, Int.reduceBEq, c1]
  · have hl' : ¬ (a.length : Int) = b.length := by omega
    have hf : ¬ a = b := by
      rintro rfl
      exact hl rfl
    simp only [walk, Nat.reduceLT, Nat.reduceBEq, Nat.reduceAdd, Nat.reduceLeDiff, reduceIte, Int.reduceLT, Int.reduceLE, Int.reduceEq, Int.reduceToNat, Int.reduceBEq, hl', hf]
end
end Go.AR
