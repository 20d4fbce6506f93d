import Derived.Test.YtfipbmlnklmjoaaDoorG04
import Derived.Test.YtfipbmlnklmjoaaDoorG34
set_option linter.all false
/-! Paths. -/
namespace Go.AR
open Go
section
variable {C : CallRel} {F : Nat → FuncId}
abbrev ptP (p : List (List UInt8)) : PV := .sl 1 (xRows p)
def S_ints (R : Rel) : Prop := ∀ x y : Int, R [.v (.int .i64 x), .v (.int .i64 y)] (.val (.int .i64 (icmp x y))) []
def S_tcmp (R : Rel) : Prop := ∀ x y : List UInt8, x.length ≤ 20000000 → y.length ≤ 20000000 → R [.v (.str x), .v (.str y)] (.val (.int .i64 (tcmp x y))) []
/-- Paths that fit. -/
def pOk (p : List (List UInt8)) : Prop := p.length ≤ 2000000 ∧ ∀ s ∈ p, s.length ≤ 20000000
def S_pCmp (R : Rel) : Prop := ∀ a b, pOk a → pOk b → R [.v (ptP a), .v (ptP b)] (.val (.int .i64 (pCmp a b))) []
def S_pSame (R : Rel) : Prop := ∀ a b, pOk a → R [.v (ptP a), .v (ptP b)] (.val (.bool (a == b))) []
def S_under (R : Rel) : Prop := ∀ a b, pOk a → pOk b → R [.v (ptP a), .v (ptP b)] (.val (.bool (under a b))) []
def S_pCheck (R : Rel) : Prop := ∀ p, pOk p → R [.v (ptP p)] (.val (.int .i64 (pCheck p))) []
def S_pShort (R : Rel) : Prop := ∀ p, R [.v (ptP p)] (.val (.bool (pShort p))) []
theorem g_pref09_ints : S_ints ((c_pref09_ints F).gives C) := by
  intro x y
  refine gives_of rfl ?_
  unfold c_pref09_ints icmp
  simp only [walk, Nat.reduceLT, Nat.reduceBEq, Nat.reduceAdd, Nat.reduceLeDiff, reduceIte, Int.reduceLT, Int.reduceLE, Int.reduceEq, Int.reduceToNat, Int.reduceBEq]
  by_cases h1 : x < y
  · simp only [walk, Nat.reduceLT, Nat.reduceBEq, Nat.reduceAdd, Nat.reduceLeDiff, reduceIte, Int.reduceLT, Int.reduceLE, Int.reduceEq, Int.reduceToNat, Int.reduceBEq, h1]
  · by_cases h2 : x > y <;> simp only [walk, Nat.reduceLT, Nat.reduceBEq, Nat.reduceAdd, Nat.reduceLeDiff, reduceIte, Int.reduceLT, Int.reduceLE, Int.reduceEq, Int.reduceToNat, Int.reduceBEq, h1, h2]
theorem icmp_nat (x y : Nat) : icmp (x : Int) y = if x < y then -1 else if y < x then 1 else 0 := by
  unfold icmp
  by_cases h1 : x < y
  · rw [if_pos h1, if_pos (by omega)]
  · rw [if_neg h1, if_neg (by omega)]
    by_cases h2 : y < x
    · rw [if_pos h2, if_pos (by omega)]
    · rw [if_neg h2, if_neg (by omega)]
theorem tcmp_end (x y : List UInt8) (h : x = [] ∨ y = []) : tcmp x y = icmp x.length y.length := by
  rw [icmp_nat]
  rcases h with rfl | rfl
  · cases y with
    | nil => simp [tcmp_self]
    | cons b y => simp [tcmp, Op.bytesLess]
  · cases x with
    | nil => simp [tcmp_self]
    | cons b y => simp [tcmp, Op.bytesLess]
theorem icmp_sub (x y k : Nat) (hx : k ≤ x) (hy : k ≤ y) : icmp ((x - k : Nat) : Int) ((y - k : Nat) : Int) = icmp x y := by
  rw [icmp_nat, icmp_nat]
  by_cases h1 : x < y
  · rw [if_pos h1, if_pos (by omega)]
  · rw [if_neg h1, if_neg (by omega)]
    by_cases h2 : y < x
    · rw [if_pos h2, if_pos (by omega)]
    · rw [if_neg h2, if_neg (by omega)]
theorem g_pref09_Texts (hI : S_ints (C (F n_pref09_ints))) : S_tcmp ((c_pref09_Texts F).gives C) := by
  intro x y hx hy
  refine gives_of rfl ?_
  unfold c_pref09_Texts
  simp only [walk, Nat.reduceLT, Nat.reduceBEq, Nat.reduceAdd, Nat.reduceLeDiff, reduceIte, Int.reduceLT, Int.reduceLE, Int.reduceEq, Int.reduceToNat, Int.reduceBEq]
  refine awp_loop_ind (X := Nat) (fun k => ⟨[(0, .val (.str x)), (1, .val (.str y)), (4, .val (.int .i64 0)), (5, .val (.int .i64 k))], []⟩)
    (fun k => k ≤ x.length ∧ k ≤ y.length ∧ tcmp (x.drop k) (y.drop k) = tcmp x y) (fun k => x.length - k) 0 ⟨by omega, by omega, rfl⟩ rfl ?_
  rintro R k ⟨h1, h2, hJ⟩ ih
  simp only [walk, Nat.reduceLT, Nat.reduceBEq, Nat.reduceAdd, Nat.reduceLeDiff, reduceIte, Int.reduceLT, Int.reduceLE, Int.reduceEq, Int.reduceToNat, Int.reduceBEq]
  by_cases c1 : k < x.length
  · have c1' : (k : Int) < x.length := by omega
    by_cases c2 : k < y.length
    · have c2' : (k : Int) < y.length := by omega
      have c0 : (0 : Int) ≤ k := by omega
      have e1 : IntKind.i64.wrap ((k : Int) + 1) = ((k + 1 : Nat) : Int) := wrap64 (by omega) (by omega)
      rw [List.drop_eq_getElem_cons c1, List.drop_eq_getElem_cons c2, tcmp_cons] at hJ
      have hg1 := List.getElem?_eq_getElem c1
      have hg2 := List.getElem?_eq_getElem c2
      generalize x[k] = a at hJ hg1
      generalize y[k] = b at hJ hg2
      have la := a.toNat_lt
      have lb := b.toNat_lt
      simp only [walk, Nat.reduceLT, Nat.reduceBEq, Nat.reduceAdd, Nat.reduceLeDiff, reduceIte, Int.reduceLT, Int.reduceLE, Int.reduceEq, Int.reduceToNat, Int.reduceBEq, c1', c2', hg1, hg2]
      by_cases hab : a = b
      · have hne : ((a.toNat : Int) != (b.toNat : Int)) = false := by rw [hab]; simp
        rw [if_pos hab] at hJ
        simp only [walk, Nat.reduceLT, Nat.reduceBEq, Nat.reduceAdd, Nat.reduceLeDiff, reduceIte, Int.reduceLT, Int.reduceLE, Int.reduceEq, Int.reduceToNat, Int.reduceBEq, hne, e1]
        exact ih (k + 1) ⟨by omega, by omega, hJ⟩ (by omega)
      · have hne : ((a.toNat : Int) != (b.toNat : Int)) = true := by
          rw [bne, Bool.not_eq_true', beq_eq_false_iff_ne]
          intro e
          exact hab (UInt8.toNat_inj.1 (by omega))
        rw [if_neg hab] at hJ
        have w1 : IntKind.i64.wrap (a.toNat : Int) = a.toNat := wrap64 (by omega) (by omega)
        have w2 : IntKind.i64.wrap (b.toNat : Int) = b.toNat := wrap64 (by omega) (by omega)
        simp only [walk, Nat.reduceLT, Nat.reduceBEq, Nat.reduceAdd, Nat.reduceLeDiff, reduceIte, Int.reduceLT, Int.reduceLE, Int.reduceEq, Int.reduceToNat, Int.reduceBEq, hne, hg1, hg2, w1, w2]
        refine callWp_of (hI _ _) ?_
        simp only [walk, Nat.reduceLT, Nat.reduceBEq, Nat.reduceAdd, Nat.reduceLeDiff, reduceIte, Int.reduceLT, Int.reduceLE, Int.reduceEq, Int.reduceToNat, Int.reduceBEq, hJ]
    · have c2' : ¬ (k : Int) < y.length := by omega
      rw [tcmp_end _ _ (.inr (List.drop_eq_nil_of_le (by omega))), List.length_drop, List.length_drop, icmp_sub _ _ _ h1 h2] at hJ
      simp only [walk, Nat.reduceLT, Nat.reduceBEq, Nat.reduceAdd, Nat.reduceLeDiff, reduceIte, Int.reduceLT, Int.reduceLE, Int.reduceEq, Int.reduceToNat, Int.reduceBEq, c1', c2']
      refine callWp_of (hI _ _) ?_
      simp only [walk, Nat.reduceLT, Nat.reduceBEq, Nat.reduceAdd, Nat.reduceLeDiff, reduceIte, Int.reduceLT, Int.reduceLE, Int.reduceEq, Int.reduceToNat, Int.reduceBEq, hJ]
  · have c1' : ¬ (k : Int) < x.length := by omega
    rw [tcmp_end _ _ (.inl (List.drop_eq_nil_of_le (by omega))), List.length_drop, List.length_drop, icmp_sub _ _ _ h1 h2] at hJ
    simp only [walk, Nat.reduceLT, Nat.reduceBEq, Nat.reduceAdd, Nat.reduceLeDiff, reduceIte, Int.reduceLT, Int.reduceLE, Int.reduceEq, Int.reduceToNat, Int.reduceBEq, c1']
    refine callWp_of (hI _ _) ?_
    simp only [walk, Nat.reduceLT, Nat.reduceBEq, Nat.reduceAdd, Nat.reduceLeDiff, reduceIte, Int.reduceLT, Int.reduceLE, Int.reduceEq, Int.reduceToNat, Int.reduceBEq, hJ]
def S_sNaN (R : Rel) : Prop := ∀ x : List UInt8, R [.v (.str x)] (.val (.bool false)) []
theorem g_cmp_isNaN_string : S_sNaN ((c_cmp_isNaN_string F).gives C) := by
  intro x
  refine gives_of rfl ?_
  unfold c_cmp_isNaN_string
  simp only [walk, Nat.reduceLT, Nat.reduceBEq, Nat.reduceAdd, Nat.reduceLeDiff, reduceIte, Int.reduceLT, Int.reduceLE, Int.reduceEq, Int.reduceToNat, Int.reduceBEq, beq_self_eq_true]
theorem g_cmp_Compare_string (hN : S_sNaN (C (F n_cmp_isNaN_string))) : S_tcmp ((c_cmp_Compare_string F).gives C) := by
  intro x y hx hy
  refine gives_of rfl ?_
  unfold c_cmp_Compare_string tcmp
  simp only [walk, Nat.reduceLT, Nat.reduceBEq, Nat.reduceAdd, Nat.reduceLeDiff, reduceIte, Int.reduceLT, Int.reduceLE, Int.reduceEq, Int.reduceToNat, Int.reduceBEq]
  refine callWp_of (hN x) ?_
  simp only [walk, Nat.reduceLT, Nat.reduceBEq, Nat.reduceAdd, Nat.reduceLeDiff, reduceIte, Int.reduceLT, Int.reduceLE, Int.reduceEq, Int.reduceToNat, Int.reduceBEq]
  refine callWp_of (hN y) ?_
  cases hl : Op.bytesLess x y with
  | true => simp only [walk, Nat.reduceLT, Nat.reduceBEq, Nat.reduceAdd, Nat.reduceLeDiff, reduceIte, Int.reduceLT, Int.reduceLE, Int.reduceEq, Int.reduceToNat, Int.reduceBEq, hl]
  | false =>
    by_cases he : x = y
    · have he' : (x == y) = true := by rw [beq_iff_eq]; exact he
      simp only [walk, Nat.reduceLT, Nat.reduceBEq, Nat.reduceAdd, Nat.reduceLeDiff, reduceIte, Int.reduceLT, Int.reduceLE, Int.reduceEq, Int.reduceToNat, Int.reduceBEq, hl, he']
      simp [he]
    · have he' : (x == y) = false := by rw [beq_eq_false_iff_ne]; exact he
      simp only [walk, Nat.reduceLT, Nat.reduceBEq, Nat.reduceAdd, Nat.reduceLeDiff, reduceIte, Int.reduceLT, Int.reduceLE, Int.reduceEq, Int.reduceToNat, Int.reduceBEq, hl, he']
      simp [he]
theorem pCmp_end (a b : List (List UInt8)) (h : a = [] ∨ b = []) : pCmp a b = icmp a.length b.length := by
  rw [icmp_nat]
  rcases h with rfl | rfl
  · cases b <;> simp [pCmp]
  · cases a <;> simp [pCmp]
theorem g_slices_Compare (hT : S_tcmp (C (F n_cmp_Compare_string))) : S_pCmp ((c_slices_Compare_string_string F).gives C) := by
  intro a b ha hb
  refine gives_of rfl ?_
  unfold c_slices_Compare_string_string
  have hla := ha.1
  have hlb := hb.1
  simp only [walk, Nat.reduceLT, Nat.reduceBEq, Nat.reduceAdd, Nat.reduceLeDiff, reduceIte, Int.reduceLT, Int.reduceLE, Int.reduceEq, Int.reduceToNat, Int.reduceBEq, xRows_len]
  refine awp_loop_ind (X := Nat) (fun k => ⟨[(0, .val (ptP a)), (1, .val (ptP b)), (4, .val (.int .i64 0)), (9, .val (ptP a)), (10, .val (.int .i64 a.length)), (11, .val (.int .i64 k))], []⟩)
    (fun k => k ≤ a.length ∧ k ≤ b.length ∧ pCmp (a.drop k) (b.drop k) = pCmp a b) (fun k => a.length - k) 0 ⟨by omega, by omega, rfl⟩ rfl ?_
  rintro R k ⟨h1, h2, hJ⟩ ih
  simp only [walk, Nat.reduceLT, Nat.reduceBEq, Nat.reduceAdd, Nat.reduceLeDiff, reduceIte, Int.reduceLT, Int.reduceLE, Int.reduceEq, Int.reduceToNat, Int.reduceBEq]
  by_cases c1 : k < a.length
  · have c1' : (k : Int) < a.length := by omega
    have c0 : (0 : Int) ≤ k := by omega
    have e1 : IntKind.i64.wrap ((k : Int) + 1) = ((k + 1 : Nat) : Int) := wrap64 (by omega) (by omega)
    by_cases c2 : k < b.length
    · have c2' : ¬ (b.length : Int) ≤ k := by omega
      rw [List.drop_eq_getElem_cons c1, List.drop_eq_getElem_cons c2, pCmp] at hJ
      simp only [walk, Nat.reduceLT, Nat.reduceBEq, Nat.reduceAdd, Nat.reduceLeDiff, reduceIte, Int.reduceLT, Int.reduceLE, Int.reduceEq, Int.reduceToNat, Int.reduceBEq, c1', xRows_get a k c1, xRows_len, ge_iff_le, c2', xRows_get b k c2]
      refine callWp_of (hT _ _ (ha.2 _ (List.getElem_mem c1)) (hb.2 _ (List.getElem_mem c2))) ?_
      by_cases ht : tcmp a[k] b[k] = 0
      · have ht' : (tcmp a[k] b[k] != 0) = false := by simp [ht]
        rw [if_neg (by simp [ht])] at hJ
        simp only [walk, Nat.reduceLT, Nat.reduceBEq, Nat.reduceAdd, Nat.reduceLeDiff, reduceIte, Int.reduceLT, Int.reduceLE, Int.reduceEq, Int.reduceToNat, Int.reduceBEq, ht', e1]
        exact ih (k + 1) ⟨by omega, by omega, hJ⟩ (by omega)
      · have ht' : (tcmp a[k] b[k] != 0) = true := by simp [ht]
        rw [if_pos ht] at hJ
        rw [hJ] at ht'
        simp only [walk, Nat.reduceLT, Nat.reduceBEq, Nat.reduceAdd, Nat.reduceLeDiff, reduceIte, Int.reduceLT, Int.reduceLE, Int.reduceEq, Int.reduceToNat, Int.reduceBEq, hJ, ht']
    · have c2' : (b.length : Int) ≤ k := by omega
      rw [pCmp_end _ _ (.inr (List.drop_eq_nil_of_le (by omega))), List.length_drop, List.length_drop, icmp_sub _ _ _ h1 h2, icmp_nat, if_neg (by omega), if_pos (by omega)] at hJ
      simp only [walk, Nat.reduceLT, Nat.reduceBEq, Nat.reduceAdd, Nat.reduceLeDiff, reduceIte, Int.reduceLT, Int.reduceLE, Int.reduceEq, Int.reduceToNat, Int.reduceBEq, c1', xRows_get a k c1, xRows_len, ge_iff_le, c2', ← hJ]
  · have c1' : ¬ (k : Int) < a.length := by omega
    rw [pCmp_end _ _ (.inl (List.drop_eq_nil_of_le (by omega))), List.length_drop, List.length_drop, icmp_sub _ _ _ h1 h2, icmp_nat] at hJ
    by_cases h3 : a.length < b.length
    · have h3' : (a.length : Int) < b.length := by omega
      rw [if_pos h3] at hJ
      simp only [walk, Nat.reduceLT, Nat.reduceBEq, Nat.reduceAdd, Nat.reduceLeDiff, reduceIte, Int.reduceLT, Int.reduceLE, Int.reduceEq, Int.reduceToNat, Int.reduceBEq, c1', xRows_len, h3', ← hJ]
    · have h3' : ¬ (a.length : Int) < b.length := by omega
      rw [if_neg h3, if_neg (by omega)] at hJ
      simp only [walk, Nat.reduceLT, Nat.reduceBEq, Nat.reduceAdd, Nat.reduceLeDiff, reduceIte, Int.reduceLT, Int.reduceLE, Int.reduceEq, Int.reduceToNat, Int.reduceBEq, c1', xRows_len, h3', ← hJ]
theorem g_path_Compare (h : S_pCmp (C (F n_slices_Compare_string_string))) : S_pCmp ((c_path_Compare F).gives C) := by
  intro a b ha hb
  refine gives_of rfl ?_
  unfold c_path_Compare
  simp only [walk, Nat.reduceLT, Nat.reduceBEq, Nat.reduceAdd, Nat.reduceLeDiff, reduceIte, Int.reduceLT, Int.reduceLE, Int.reduceEq, Int.reduceToNat, Int.reduceBEq]
  refine callWp_of (h a b ha hb) ?_
  simp only [walk, Nat.reduceLT, Nat.reduceBEq, Nat.reduceAdd, Nat.reduceLeDiff, reduceIte, Int.reduceLT, Int.reduceLE, Int.reduceEq, Int.reduceToNat, Int.reduceBEq]
theorem g_pref10_Compare (hT : S_tcmp (C (F n_pref09_Texts))) : S_pCmp ((c_pref10_Compare F).gives C) := by
  intro a b ha hb
  refine gives_of rfl ?_
  unfold c_pref10_Compare
  have hla := ha.1
  have hlb := hb.1
  simp only [walk, Nat.reduceLT, Nat.reduceBEq, Nat.reduceAdd, Nat.reduceLeDiff, reduceIte, Int.reduceLT, Int.reduceLE, Int.reduceEq, Int.reduceToNat, Int.reduceBEq]
  refine awp_loop_ind (X := Nat) (fun k => ⟨[(0, .val (ptP a)), (1, .val (ptP b)), (4, .val (.int .i64 0)), (5, .val (.int .i64 k))], []⟩)
    (fun k => k ≤ a.length ∧ k ≤ b.length ∧ pCmp (a.drop k) (b.drop k) = pCmp a b) (fun k => a.length - k) 0 ⟨by omega, by omega, rfl⟩ rfl ?_
  rintro R k ⟨h1, h2, hJ⟩ ih
  have fin : (¬ k < a.length ∨ ¬ k < b.length) → pCmp a b = if a.length < b.length then -1 else if b.length < a.length then 1 else 0 := by
    intro h
    rw [← hJ, pCmp_end _ _ (h.imp (fun h => List.drop_eq_nil_of_le (by omega)) (fun h => List.drop_eq_nil_of_le (by omega))), List.length_drop, List.length_drop, icmp_sub _ _ _ h1 h2, icmp_nat]
  simp only [walk, Nat.reduceLT, Nat.reduceBEq, Nat.reduceAdd, Nat.reduceLeDiff, reduceIte, Int.reduceLT, Int.reduceLE, Int.reduceEq, Int.reduceToNat, Int.reduceBEq, xRows_len]
  by_cases c1 : k < a.length
  · have c1' : (k : Int) < a.length := by omega
    have c0 : (0 : Int) ≤ k := by omega
    have e1 : IntKind.i64.wrap ((k : Int) + 1) = ((k + 1 : Nat) : Int) := wrap64 (by omega) (by omega)
    by_cases c2 : k < b.length
    · have c2' : (k : Int) < b.length := by omega
      rw [List.drop_eq_getElem_cons c1, List.drop_eq_getElem_cons c2, pCmp] at hJ
      simp only [walk, Nat.reduceLT, Nat.reduceBEq, Nat.reduceAdd, Nat.reduceLeDiff, reduceIte, Int.reduceLT, Int.reduceLE, Int.reduceEq, Int.reduceToNat, Int.reduceBEq, c1', c2', xRows_get a k c1, xRows_len, xRows_get b k c2]
      refine callWp_of (hT _ _ (ha.2 _ (List.getElem_mem c1)) (hb.2 _ (List.getElem_mem c2))) ?_
      by_cases ht : tcmp a[k] b[k] = 0
      · have ht' : (tcmp a[k] b[k] != 0) = false := by simp [ht]
        rw [if_neg (by simp [ht])] at hJ
        simp only [walk, Nat.reduceLT, Nat.reduceBEq, Nat.reduceAdd, Nat.reduceLeDiff, reduceIte, Int.reduceLT, Int.reduceLE, Int.reduceEq, Int.reduceToNat, Int.reduceBEq, ht', e1]
        exact ih (k + 1) ⟨by omega, by omega, hJ⟩ (by omega)
      · have ht' : (tcmp a[k] b[k] != 0) = true := by simp [ht]
        rw [if_pos ht] at hJ
        rw [hJ] at ht'
        simp only [walk, Nat.reduceLT, Nat.reduceBEq, Nat.reduceAdd, Nat.reduceLeDiff, reduceIte, Int.reduceLT, Int.reduceLE, Int.reduceEq, Int.reduceToNat, Int.reduceBEq, hJ, ht']
    · have c2' : ¬ (k : Int) < b.length := by omega
      have fin := fin (.inr c2)
      have h3' : ¬ (a.length : Int) < b.length := by omega
      have h4' : (a.length : Int) > b.length := by omega
      rw [if_neg (by omega), if_pos (by omega)] at fin
      simp only [walk, Nat.reduceLT, Nat.reduceBEq, Nat.reduceAdd, Nat.reduceLeDiff, reduceIte, Int.reduceLT, Int.reduceLE, Int.reduceEq, Int.reduceToNat, Int.reduceBEq, c1', c2', xRows_len, h3', h4', fin]
  · have c1' : ¬ (k : Int) < a.length := by omega
    have fin := fin (.inl c1)
    by_cases h3 : a.length < b.length
    · have h3' : (a.length : Int) < b.length := by omega
      rw [if_pos h3] at fin
      simp only [walk, Nat.reduceLT, Nat.reduceBEq, Nat.reduceAdd, Nat.reduceLeDiff, reduceIte, Int.reduceLT, Int.reduceLE, Int.reduceEq, Int.reduceToNat, Int.reduceBEq, c1', xRows_len, h3', fin]
    · have h3' : ¬ (a.length : Int) < b.length := by omega
      have h4' : ¬ (a.length : Int) > b.length := by omega
      rw [if_neg h3, if_neg (by omega)] at fin
      simp only [walk, Nat.reduceLT, Nat.reduceBEq, Nat.reduceAdd, Nat.reduceLeDiff, reduceIte, Int.reduceLT, Int.reduceLE, Int.reduceEq, Int.reduceToNat, Int.reduceBEq, c1', xRows_len, h3', h4', fin]
theorem g_slices_Equal : S_pSame ((c_slices_Equal_string_string F).gives C) := by
  intro a b ha
  refine gives_of rfl ?_
  unfold c_slices_Equal_string_string
  have hla := ha.1
  simp only [walk, Nat.reduceLT, Nat.reduceBEq, Nat.reduceAdd, Nat.reduceLeDiff, reduceIte, Int.reduceLT, Int.reduceLE, Int.reduceEq, Int.reduceToNat, Int.reduceBEq, xRows_len]
  by_cases hl : a.length = b.length
  · have hl' : ((a.length : Int) != (b.length : Int)) = false := by rw [bne, hl]; simp
    simp only [walk, Nat.reduceLT, Nat.reduceBEq, Nat.reduceAdd, Nat.reduceLeDiff, reduceIte, Int.reduceLT, Int.reduceLE, Int.reduceEq, Int.reduceToNat, Int.reduceBEq, hl', xRows_len]
    refine awp_loop_ind (X := Nat) (fun k => ⟨[(0, .val (ptP a)), (1, .val (ptP b)), (4, .val (.bool false)), (10, .val (.bool false)), (12, .val (.int .i64 a.length)), (13, .val (.int .i64 k))], []⟩)
      (fun k => k ≤ a.length ∧ a.take k = b.take k) (fun k => a.length - k) 0 ⟨by omega, by simp⟩ rfl ?_
    rintro R k ⟨hk, hJ⟩ ih
    simp only [walk, Nat.reduceLT, Nat.reduceBEq, Nat.reduceAdd, Nat.reduceLeDiff, reduceIte, Int.reduceLT, Int.reduceLE, Int.reduceEq, Int.reduceToNat, Int.reduceBEq, xRows_len]
    by_cases c : k < a.length
    · have c1 : (k : Int) < a.length := by omega
      have cb : k < b.length := by omega
      have c0 : (0 : Int) ≤ k := by omega
      have e1 : IntKind.i64.wrap ((k : Int) + 1) = ((k + 1 : Nat) : Int) := wrap64 (by omega) (by omega)
      simp only [walk, Nat.reduceLT, Nat.reduceBEq, Nat.reduceAdd, Nat.reduceLeDiff, reduceIte, Int.reduceLT, Int.reduceLE, Int.reduceEq, Int.reduceToNat, Int.reduceBEq, c1, xRows_get a k c, xRows_get b k cb]
      by_cases he : a[k] = b[k]
      · have he' : (a[k] == b[k]) = true := by rw [beq_iff_eq]; exact he
        simp only [walk, Nat.reduceLT, Nat.reduceBEq, Nat.reduceAdd, Nat.reduceLeDiff, reduceIte, Int.reduceLT, Int.reduceLE, Int.reduceEq, Int.reduceToNat, Int.reduceBEq, he', e1]
        refine ih (k + 1) ⟨by omega, ?_⟩ (by omega)
        rw [List.take_add_one, List.take_add_one, hJ, List.getElem?_eq_getElem c, List.getElem?_eq_getElem cb, he]
      · have he' : (a[k] == b[k]) = false := by rw [beq_eq_false_iff_ne]; exact he
        have hf : (a == b) = false := by
          rw [beq_eq_false_iff_ne]
          rintro rfl
          exact he rfl
        simp only [walk, Nat.reduceLT, Nat.reduceBEq, Nat.reduceAdd, Nat.reduceLeDiff, reduceIte, Int.reduceLT, Int.reduceLE, Int.reduceEq, Int.reduceToNat, Int.reduceBEq, he', hf]
    · have c1 : ¬ (k : Int) < a.length := by omega
      rw [List.take_of_length_le (by omega), List.take_of_length_le (by omega)] at hJ
      subst hJ
      simp only [walk, Nat.reduceLT, Nat.reduceBEq, Nat.reduceAdd, Nat.reduceLeDiff, reduceIte, Int.reduceLT, Int.reduceLE, Int.reduceEq, Int.reduceToNat, Int.reduceBEq, c1, beq_self_eq_true]
  · have hl' : ((a.length : Int) != (b.length : Int)) = true := by
      rw [bne, Bool.not_eq_true', beq_eq_false_iff_ne]; omega
    have hf : (a == b) = false := by
      rw [beq_eq_false_iff_ne]
      rintro rfl
      exact hl rfl
    simp only [walk, Nat.reduceLT, Nat.reduceBEq, Nat.reduceAdd, Nat.reduceLeDiff, reduceIte, Int.reduceLT, Int.reduceLE, Int.reduceEq, Int.reduceToNat, Int.reduceBEq, hl', hf]
theorem g_path_Same (h : S_pSame (C (F n_slices_Equal_string_string))) : S_pSame ((c_path_Same F).gives C) := by
  intro a b ha
  refine gives_of rfl ?_
  unfold c_path_Same
  simp only [walk, Nat.reduceLT, Nat.reduceBEq, Nat.reduceAdd, Nat.reduceLeDiff, reduceIte, Int.reduceLT, Int.reduceLE, Int.reduceEq, Int.reduceToNat, Int.reduceBEq]
  refine callWp_of (h a b ha) ?_
  simp only [walk, Nat.reduceLT, Nat.reduceBEq, Nat.reduceAdd, Nat.reduceLeDiff, reduceIte, Int.reduceLT, Int.reduceLE, Int.reduceEq, Int.reduceToNat, Int.reduceBEq]
theorem xRows_take (l : List (List UInt8)) (n : Nat) : (xRows l).take n = xRows (l.take n) := by simp [xRows]
theorem g_path_Under (h : S_pSame (C (F n_slices_Equal_string_string))) : S_under ((c_path_Under F).gives C) := by
  intro a b ha hb
  refine gives_of rfl ?_
  unfold c_path_Under under
  simp only [walk, Nat.reduceLT, Nat.reduceBEq, Nat.reduceAdd, Nat.reduceLeDiff, reduceIte, Int.reduceLT, Int.reduceLE, Int.reduceEq, Int.reduceToNat, Int.reduceBEq, xRows_len, ge_iff_le]
  by_cases hl : b.length ≤ a.length
  · have hl' : (b.length : Int) ≤ a.length := by omega
    have h0 : (0 : Int) ≤ b.length := by omega
    simp only [walk, Nat.reduceLT, Nat.reduceBEq, Nat.reduceAdd, Nat.reduceLeDiff, reduceIte, Int.reduceLT, Int.reduceLE, Int.reduceEq, Int.reduceToNat, Int.reduceBEq, hl', xRows_len, xRows_take]
    refine callWp_of (h (a.take b.length) b ⟨by rw [List.length_take]; have := ha.1; omega, fun s hs => ha.2 s (List.mem_of_mem_take hs)⟩) ?_
    simp only [walk, Nat.reduceLT, Nat.reduceBEq, Nat.reduceAdd, Nat.reduceLeDiff, reduceIte, Int.reduceLT, Int.reduceLE, Int.reduceEq, Int.reduceToNat, Int.reduceBEq, hl]
  · have hl' : ¬ (b.length : Int) ≤ a.length := by omega
    simp only [walk, Nat.reduceLT, Nat.reduceBEq, Nat.reduceAdd, Nat.reduceLeDiff, reduceIte, Int.reduceLT, Int.reduceLE, Int.reduceEq, Int.reduceToNat, Int.reduceBEq, hl', hl]
theorem g_pref10_Under : S_under ((c_pref10_Under F).gives C) := by
  intro a b ha hb
  refine gives_of rfl ?_
  unfold c_pref10_Under
  have hla := ha.1
  simp only [walk, Nat.reduceLT, Nat.reduceBEq, Nat.reduceAdd, Nat.reduceLeDiff, reduceIte, Int.reduceLT, Int.reduceLE, Int.reduceEq, Int.reduceToNat, Int.reduceBEq, xRows_len, gt_iff_lt]
  by_cases hl : b.length ≤ a.length
  · have hl' : ¬ (a.length : Int) < b.length := by omega
    simp only [walk, Nat.reduceLT, Nat.reduceBEq, Nat.reduceAdd, Nat.reduceLeDiff, reduceIte, Int.reduceLT, Int.reduceLE, Int.reduceEq, Int.reduceToNat, Int.reduceBEq, hl']
    refine awp_loop_ind (X := Nat) (fun k => ⟨[(0, .val (ptP a)), (1, .val (ptP b)), (4, .val (.bool false)), (5, .val (.int .i64 k)), (10, .val (.bool false))], []⟩)
      (fun k => k ≤ b.length ∧ a.take k = b.take k) (fun k => b.length - k) 0 ⟨by omega, by simp⟩ rfl ?_
    rintro R k ⟨hk, hJ⟩ ih
    simp only [walk, Nat.reduceLT, Nat.reduceBEq, Nat.reduceAdd, Nat.reduceLeDiff, reduceIte, Int.reduceLT, Int.reduceLE, Int.reduceEq, Int.reduceToNat, Int.reduceBEq, xRows_len]
    by_cases c : k < b.length
    · have c1 : (k : Int) < b.length := by omega
      have ca : k < a.length := by omega
      have c0 : (0 : Int) ≤ k := by omega
      have e1 : IntKind.i64.wrap ((k : Int) + 1) = ((k + 1 : Nat) : Int) := wrap64 (by omega) (by omega)
      simp only [walk, Nat.reduceLT, Nat.reduceBEq, Nat.reduceAdd, Nat.reduceLeDiff, reduceIte, Int.reduceLT, Int.reduceLE, Int.reduceEq, Int.reduceToNat, Int.reduceBEq, c1, xRows_get a k ca, xRows_get b k c]
      by_cases he : a[k] = b[k]
      · have he' : (a[k] == b[k]) = true := by rw [beq_iff_eq]; exact he
        simp only [walk, Nat.reduceLT, Nat.reduceBEq, Nat.reduceAdd, Nat.reduceLeDiff, reduceIte, Int.reduceLT, Int.reduceLE, Int.reduceEq, Int.reduceToNat, Int.reduceBEq, he', e1]
        refine ih (k + 1) ⟨by omega, ?_⟩ (by omega)
        rw [List.take_add_one, List.take_add_one, hJ, List.getElem?_eq_getElem c, List.getElem?_eq_getElem ca, he]
      · have he' : (a[k] == b[k]) = false := by rw [beq_eq_false_iff_ne]; exact he
        have hf : under a b = false := by
          rw [Bool.eq_false_iff]
          intro hu
          obtain ⟨r, rfl⟩ := under_iff.1 hu
          rw [List.getElem_append_left c] at he
          exact he rfl
        simp only [walk, Nat.reduceLT, Nat.reduceBEq, Nat.reduceAdd, Nat.reduceLeDiff, reduceIte, Int.reduceLT, Int.reduceLE, Int.reduceEq, Int.reduceToNat, Int.reduceBEq, he', hf]
    · have c1 : ¬ (k : Int) < b.length := by omega
      have hkb : k = b.length := by omega
      subst hkb
      rw [List.take_length] at hJ
      have ht : under a b = true := by
        unfold under
        rw [hJ]; simp [hl]
      simp only [walk, Nat.reduceLT, Nat.reduceBEq, Nat.reduceAdd, Nat.reduceLeDiff, reduceIte, Int.reduceLT, Int.reduceLE, Int.reduceEq, Int.reduceToNat, Int.reduceBEq, c1, ht]
  · have hl' : (a.length : Int) < b.length := by omega
    have hf : under a b = false := by unfold under; simp [hl]
    simp only [walk, Nat.reduceLT, Nat.reduceBEq, Nat.reduceAdd, Nat.reduceLeDiff, reduceIte, Int.reduceLT, Int.reduceLE, Int.reduceEq, Int.reduceToNat, Int.reduceBEq, hl', hf]
/-- Where the first part stands of which a function says so. -/
def S_notRight (R : Rel) : Prop := ∀ s : List UInt8, s.length ≤ 20000000 → R [.v (.str s)] (.val (.bool (!rightB s))) []
def S_idxF (C : CallRel) (R : Rel) : Prop := ∀ (p : List (List UInt8)) (f : FuncId) (q : List UInt8 → Bool), pOk p → (∀ s ∈ p, C f [.v (.str s)] (.val (.bool (q s))) []) → R [.v (ptP p), .v (.fn f)] (.val (.int .i64 (if p.any q = true then (p.findIdx q : Int) else -1))) []
def S_conF (C : CallRel) (R : Rel) : Prop := ∀ (p : List (List UInt8)) (f : FuncId) (q : List UInt8 → Bool), pOk p → (∀ s ∈ p, C f [.v (.str s)] (.val (.bool (q s))) []) → R [.v (ptP p), .v (.fn f)] (.val (.bool (p.any q))) []
theorem g_slices_IndexFunc : S_idxF C ((c_slices_IndexFunc_string_string F).gives C) := by
  intro p f q hp hq
  refine gives_of rfl ?_
  unfold c_slices_IndexFunc_string_string
  have hl := hp.1
  simp only [walk, Nat.reduceLT, Nat.reduceBEq, Nat.reduceAdd, Nat.reduceLeDiff, reduceIte, Int.reduceLT, Int.reduceLE, Int.reduceEq, Int.reduceToNat, Int.reduceBEq, xRows_len]
  refine awp_loop_ind (X := Nat) (fun k => ⟨[(0, .val (ptP p)), (1, .val (.fn f)), (4, .val (.int .i64 0)), (7, .val (.int .i64 p.length)), (8, .val (.int .i64 k))], []⟩)
    (fun k => k ≤ p.length ∧ ∀ s ∈ p.take k, q s = false) (fun k => p.length - k) 0 ⟨by omega, by simp⟩ rfl ?_
  rintro R k ⟨hk, hJ⟩ ih
  simp only [walk, Nat.reduceLT, Nat.reduceBEq, Nat.reduceAdd, Nat.reduceLeDiff, reduceIte, Int.reduceLT, Int.reduceLE, Int.reduceEq, Int.reduceToNat, Int.reduceBEq]
  by_cases c : k < p.length
  · have c1 : (k : Int) < p.length := by omega
    have c0 : (0 : Int) ≤ k := by omega
    have e1 : IntKind.i64.wrap ((k : Int) + 1) = ((k + 1 : Nat) : Int) := wrap64 (by omega) (by omega)
    simp only [walk, Nat.reduceLT, Nat.reduceBEq, Nat.reduceAdd, Nat.reduceLeDiff, reduceIte, Int.reduceLT, Int.reduceLE, Int.reduceEq, Int.reduceToNat, Int.reduceBEq, c1, xRows_get p k c]
    refine callWp_of (hq p[k] (List.getElem_mem c)) ?_
    cases hqk : q p[k] with
    | true =>
      have ha : p.any q = true := List.any_eq_true.2 ⟨p[k], List.getElem_mem c, hqk⟩
      have hi : p.findIdx q = k := by
        have hsplit : p = p.take k ++ p[k] :: p.drop (k + 1) := by simp
        rw [hsplit, List.findIdx_append]
        have h1 : (p.take k).findIdx q = (p.take k).length := by
          rw [List.findIdx_eq_length]
          intro x hx; rw [hJ x hx]
        rw [h1, List.length_take, Nat.min_eq_left (by omega), if_neg (by omega), List.findIdx_cons, hqk]
        simp
      simp only [walk, Nat.reduceLT, Nat.reduceBEq, Nat.reduceAdd, Nat.reduceLeDiff, reduceIte, Int.reduceLT, Int.reduceLE, Int.reduceEq, Int.reduceToNat, Int.reduceBEq, ha, hi]
    | false =>
      simp only [walk, Nat.reduceLT, Nat.reduceBEq, Nat.reduceAdd, Nat.reduceLeDiff, reduceIte, Int.reduceLT, Int.reduceLE, Int.reduceEq, Int.reduceToNat, Int.reduceBEq, e1]
      refine ih (k + 1) ⟨by omega, fun s hs => ?_⟩ (by omega)
      rw [List.take_add_one, List.getElem?_eq_getElem c] at hs
      rcases List.mem_append.1 hs with hs | hs
      · exact hJ s hs
      · simp at hs; rw [hs]; exact hqk
  · have c1 : ¬ (k : Int) < p.length := by omega
    rw [List.take_of_length_le (by omega)] at hJ
    have ha : p.any q = false := by
      rw [Bool.eq_false_iff]; intro h
      obtain ⟨s, hs, h⟩ := List.any_eq_true.1 h
      rw [hJ s hs] at h; cases h
    simp only [walk, Nat.reduceLT, Nat.reduceBEq, Nat.reduceAdd, Nat.reduceLeDiff, reduceIte, Int.reduceLT, Int.reduceLE, Int.reduceEq, Int.reduceToNat, Int.reduceBEq, c1, ha]
theorem g_slices_ContainsFunc (hI : S_idxF C (C (F n_slices_IndexFunc_string_string))) : S_conF C ((c_slices_ContainsFunc_string_string F).gives C) := by
  intro p f q hp hq
  refine gives_of rfl ?_
  unfold c_slices_ContainsFunc_string_string
  simp only [walk, Nat.reduceLT, Nat.reduceBEq, Nat.reduceAdd, Nat.reduceLeDiff, reduceIte, Int.reduceLT, Int.reduceLE, Int.reduceEq, Int.reduceToNat, Int.reduceBEq]
  refine callWp_of (hI p f q hp hq) ?_
  cases ha : p.any q with
  | true =>
    have h0 : (0 : Int) ≤ (p.findIdx q : Int) := by omega
    simp only [walk, Nat.reduceLT, Nat.reduceBEq, Nat.reduceAdd, Nat.reduceLeDiff, reduceIte, Int.reduceLT, Int.reduceLE, Int.reduceEq, Int.reduceToNat, Int.reduceBEq, ge_iff_le]
  | false => simp only [walk, Nat.reduceLT, Nat.reduceBEq, Nat.reduceAdd, Nat.reduceLeDiff, reduceIte, Int.reduceLT, Int.reduceLE, Int.reduceEq, Int.reduceToNat, Int.reduceBEq, ge_iff_le]
theorem g_path_Check_1 (h : S_right (C (F n_name_Right))) : S_notRight ((c_path_Check_1 F).gives C) := by
  intro s hs
  refine gives_of rfl ?_
  unfold c_path_Check_1
  simp only [walk, Nat.reduceLT, Nat.reduceBEq, Nat.reduceAdd, Nat.reduceLeDiff, reduceIte, Int.reduceLT, Int.reduceLE, Int.reduceEq, Int.reduceToNat, Int.reduceBEq]
  refine callWp_of (h s hs) ?_
  simp only [walk, Nat.reduceLT, Nat.reduceBEq, Nat.reduceAdd, Nat.reduceLeDiff, reduceIte, Int.reduceLT, Int.reduceLE, Int.reduceEq, Int.reduceToNat, Int.reduceBEq]
theorem any_not (p : List (List UInt8)) : (p.any fun s => !rightB s) = !p.all rightB := by
  induction p with
  | nil => rfl
  | cons s p ih => simp only [List.any_cons, List.all_cons, ih]; cases rightB s <;> simp
theorem g_path_Check (hC : S_conF C (C (F n_slices_ContainsFunc_string_string))) (hR : S_notRight (C (F n_path_Check_1))) : S_pCheck ((c_path_Check F).gives C) := by
  intro p hp
  refine gives_of rfl ?_
  unfold c_path_Check pCheck
  simp only [walk, Nat.reduceLT, Nat.reduceBEq, Nat.reduceAdd, Nat.reduceLeDiff, reduceIte, Int.reduceLT, Int.reduceLE, Int.reduceEq, Int.reduceToNat, Int.reduceBEq, xRows_len, gt_iff_lt]
  by_cases h0 : p.length = 0
  · have h0' : ((p.length : Int) == 0) = true := by rw [beq_iff_eq]; omega
    simp only [walk, Nat.reduceLT, Nat.reduceBEq, Nat.reduceAdd, Nat.reduceLeDiff, reduceIte, Int.reduceLT, Int.reduceLE, Int.reduceEq, Int.reduceToNat, Int.reduceBEq, h0', h0]
  · have h0' : ((p.length : Int) == 0) = false := by rw [beq_eq_false_iff_ne]; omega
    by_cases h8 : 8 < p.length
    · have h8' : (8 : Int) < p.length := by omega
      simp only [walk, Nat.reduceLT, Nat.reduceBEq, Nat.reduceAdd, Nat.reduceLeDiff, reduceIte, Int.reduceLT, Int.reduceLE, Int.reduceEq, Int.reduceToNat, Int.reduceBEq, h0', h0, xRows_len, h8', h8]
    · have h8' : ¬ (8 : Int) < p.length := by omega
      simp only [walk, Nat.reduceLT, Nat.reduceBEq, Nat.reduceAdd, Nat.reduceLeDiff, reduceIte, Int.reduceLT, Int.reduceLE, Int.reduceEq, Int.reduceToNat, Int.reduceBEq, h0', h0, xRows_len, h8', h8]
      refine callWp_of (hC p _ (fun s => !rightB s) hp (fun s hs => hR s (hp.2 s hs))) ?_
      rw [any_not]
      cases ha : p.all rightB <;> simp only [walk, Nat.reduceLT, Nat.reduceBEq, Nat.reduceAdd, Nat.reduceLeDiff, reduceIte, Int.reduceLT, Int.reduceLE, Int.reduceEq, Int.reduceToNat, Int.reduceBEq]
theorem g_pref10_Check (hR : S_right (C (F n_pref03_Right))) : S_pCheck ((c_pref10_Check F).gives C) := by
  intro p hp
  refine gives_of rfl ?_
  unfold c_pref10_Check pCheck
  simp only [walk, Nat.reduceLT, Nat.reduceBEq, Nat.reduceAdd, Nat.reduceLeDiff, reduceIte, Int.reduceLT, Int.reduceLE, Int.reduceEq, Int.reduceToNat, Int.reduceBEq, xRows_len, gt_iff_lt]
  by_cases h0 : p.length = 0
  · have h0' : ((p.length : Int) == 0) = true := by rw [beq_iff_eq]; omega
    simp only [walk, Nat.reduceLT, Nat.reduceBEq, Nat.reduceAdd, Nat.reduceLeDiff, reduceIte, Int.reduceLT, Int.reduceLE, Int.reduceEq, Int.reduceToNat, Int.reduceBEq, h0', h0]
  · have h0' : ((p.length : Int) == 0) = false := by rw [beq_eq_false_iff_ne]; omega
    by_cases h8 : 8 < p.length
    · have h8' : (8 : Int) < p.length := by omega
      simp only [walk, Nat.reduceLT, Nat.reduceBEq, Nat.reduceAdd, Nat.reduceLeDiff, reduceIte, Int.reduceLT, Int.reduceLE, Int.reduceEq, Int.reduceToNat, Int.reduceBEq, h0', h0, xRows_len, h8', h8]
    · have h8' : ¬ (8 : Int) < p.length := by omega
      simp only [walk, Nat.reduceLT, Nat.reduceBEq, Nat.reduceAdd, Nat.reduceLeDiff, reduceIte, Int.reduceLT, Int.reduceLE, Int.reduceEq, Int.reduceToNat, Int.reduceBEq, h0', h0, xRows_len, h8', h8]
      refine awp_loop_ind (X := Nat) (fun k => ⟨[(0, .val (ptP p)), (2, .val (.int .i64 0)), (3, .val (.int .i64 k)), (6, .val (.bool false)), (9, .val (.bool false))], []⟩)
        (fun k => k ≤ p.length ∧ (p.take k).all rightB = true) (fun k => p.length - k) 0 ⟨by omega, by simp⟩ rfl ?_
      rintro R k ⟨hk, hJ⟩ ih
      simp only [walk, Nat.reduceLT, Nat.reduceBEq, Nat.reduceAdd, Nat.reduceLeDiff, reduceIte, Int.reduceLT, Int.reduceLE, Int.reduceEq, Int.reduceToNat, Int.reduceBEq, xRows_len]
      by_cases c : k < p.length
      · have c1 : (k : Int) < p.length := by omega
        have c0 : (0 : Int) ≤ k := by omega
        have e1 : IntKind.i64.wrap ((k : Int) + 1) = ((k + 1 : Nat) : Int) := wrap64 (by omega) (by omega)
        simp only [walk, Nat.reduceLT, Nat.reduceBEq, Nat.reduceAdd, Nat.reduceLeDiff, reduceIte, Int.reduceLT, Int.reduceLE, Int.reduceEq, Int.reduceToNat, Int.reduceBEq, c1, xRows_get p k c]
        refine callWp_of (hR p[k] (hp.2 _ (List.getElem_mem c))) ?_
        cases hr : rightB p[k] with
        | true =>
          simp only [walk, Nat.reduceLT, Nat.reduceBEq, Nat.reduceAdd, Nat.reduceLeDiff, reduceIte, Int.reduceLT, Int.reduceLE, Int.reduceEq, Int.reduceToNat, Int.reduceBEq, e1]
          refine ih (k + 1) ⟨by omega, ?_⟩ (by omega)
          rw [List.take_add_one, List.getElem?_eq_getElem c, List.all_append, hJ]
          simp [hr]
        | false =>
          have hf : p.all rightB = false := by
            rw [Bool.eq_false_iff]; intro h
            have := List.all_eq_true.1 h _ (List.getElem_mem c)
            rw [hr] at this; cases this
          simp only [walk, Nat.reduceLT, Nat.reduceBEq, Nat.reduceAdd, Nat.reduceLeDiff, reduceIte, Int.reduceLT, Int.reduceLE, Int.reduceEq, Int.reduceToNat, Int.reduceBEq, hf]
      · have c1 : ¬ (k : Int) < p.length := by omega
        rw [List.take_of_length_le (by omega)] at hJ
        simp only [walk, Nat.reduceLT, Nat.reduceBEq, Nat.reduceAdd, Nat.reduceLeDiff, reduceIte, Int.reduceLT, Int.reduceLE, Int.reduceEq, Int.reduceToNat, Int.reduceBEq, c1, hJ]
theorem g_pref10_Short : S_pShort ((c_pref10_Short F).gives C) := by
  intro p
  refine gives_of rfl ?_
  unfold c_pref10_Short pShort
  simp only [walk, Nat.reduceLT, Nat.reduceBEq, Nat.reduceAdd, Nat.reduceLeDiff, reduceIte, Int.reduceLT, Int.reduceLE, Int.reduceEq, Int.reduceToNat, Int.reduceBEq, xRows_len, gt_iff_lt]
  by_cases h12 : 12 < p.length
  · have h12' : (12 : Int) < p.length := by omega
    have h12'' : ¬ p.length ≤ 12 := by omega
    simp only [walk, Nat.reduceLT, Nat.reduceBEq, Nat.reduceAdd, Nat.reduceLeDiff, reduceIte, Int.reduceLT, Int.reduceLE, Int.reduceEq, Int.reduceToNat, Int.reduceBEq, h12', h12'']
  · have h12' : ¬ (12 : Int) < p.length := by omega
    have h12'' : p.length ≤ 12 := by omega
    simp only [walk, Nat.reduceLT, Nat.reduceBEq, Nat.reduceAdd, Nat.reduceLeDiff, reduceIte, Int.reduceLT, Int.reduceLE, Int.reduceEq, Int.reduceToNat, Int.reduceBEq, h12', h12'']
    refine awp_loop_ind (X := Nat) (fun k => ⟨[(0, .val (ptP p)), (2, .val (.bool false)), (3, .val (.int .i64 k)), (6, .val (.bool false))], []⟩)
      (fun k => k ≤ p.length ∧ ((p.take k).all fun s => decide (s.length ≤ 120)) = true) (fun k => p.length - k) 0 ⟨by omega, by simp⟩ rfl ?_
    rintro R k ⟨hk, hJ⟩ ih
    simp only [walk, Nat.reduceLT, Nat.reduceBEq, Nat.reduceAdd, Nat.reduceLeDiff, reduceIte, Int.reduceLT, Int.reduceLE, Int.reduceEq, Int.reduceToNat, Int.reduceBEq, xRows_len]
    by_cases c : k < p.length
    · have c1 : (k : Int) < p.length := by omega
      have c0 : (0 : Int) ≤ k := by omega
      have e1 : IntKind.i64.wrap ((k : Int) + 1) = ((k + 1 : Nat) : Int) := wrap64 (by omega) (by omega)
      simp only [walk, Nat.reduceLT, Nat.reduceBEq, Nat.reduceAdd, Nat.reduceLeDiff, reduceIte, Int.reduceLT, Int.reduceLE, Int.reduceEq, Int.reduceToNat, Int.reduceBEq, c1, xRows_get p k c, gt_iff_lt]
      by_cases hl : 120 < p[k].length
      · have hl' : (120 : Int) < p[k].length := by omega
        have hf : (p.all fun s => decide (s.length ≤ 120)) = false := by
          rw [Bool.eq_false_iff]; intro h
          have := List.all_eq_true.1 h _ (List.getElem_mem c)
          simp at this; omega
        simp only [walk, Nat.reduceLT, Nat.reduceBEq, Nat.reduceAdd, Nat.reduceLeDiff, reduceIte, Int.reduceLT, Int.reduceLE, Int.reduceEq, Int.reduceToNat, Int.reduceBEq, hl', hf]
      · have hl' : ¬ (120 : Int) < p[k].length := by omega
        simp only [walk, Nat.reduceLT, Nat.reduceBEq, Nat.reduceAdd, Nat.reduceLeDiff, reduceIte, Int.reduceLT, Int.reduceLE, Int.reduceEq, Int.reduceToNat, Int.reduceBEq, hl', e1]
        refine ih (k + 1) ⟨by omega, ?_⟩ (by omega)
        rw [List.take_add_one, List.getElem?_eq_getElem c, List.all_append, hJ]
        simp; omega
    · have c1 : ¬ (k : Int) < p.length := by omega
      rw [List.take_of_length_le (by omega)] at hJ
      simp only [walk, Nat.reduceLT, Nat.reduceBEq, Nat.reduceAdd, Nat.reduceLeDiff, reduceIte, Int.reduceLT, Int.reduceLE, Int.reduceEq, Int.reduceToNat, Int.reduceBEq, c1, hJ]
end
end Go.AR
