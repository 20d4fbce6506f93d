import Derived.Test.YtkankogmljifiaaDoorG28
import Derived.Test.YtkankogmljifiaaDoorG25
import Derived.Test.YtkankogmljifiaaDoorG09
import Derived.Test.YtkankogmljifiaaDoorG08
import Derived.Test.YtkankogmljifiaaDoorG27
import Derived.Test.YtkankogmljifiaaDoorG04
import Derived.Shelf.Strings.OnBuilder
set_option linter.all false
/-! Paths: bytes, texts, readers. -/
namespace Go.AR
open Go
section
variable {C : CallRel} {F : Nat → FuncId}
def S_pCode (R : Rel) : Prop := ∀ p, pOk p → R [.v (ptP p)] (.val (.str (pCode p))) []
theorem i64ok_nat {n : Nat} (h : n ≤ 9223372036854775807) : i64ok (n : Int) := ⟨by omega, by omega⟩
theorem pText_len (s : List UInt8) (h : s.length ≤ 20000000) : (pText s).length ≤ 20000011 := by
  have : (vint s.length).length ≤ 11 := vint_len 10 _ (by omega)
  unfold pText; rw [List.length_append]; omega
theorem pParts_len : ∀ (p : List (List UInt8)), (∀ s ∈ p, s.length ≤ 20000000) → ((p.map pText).flatten).length ≤ p.length * 20000011
  | [], _ => by simp
  | s :: p, h => by
    have h1 := pText_len s (h s (by simp))
    have h2 := pParts_len p (fun t ht => h t (by simp [ht]))
    rw [List.map_cons, List.flatten_cons, List.length_append, List.length_cons]; omega
theorem code_take (p : List (List UInt8)) (k : Nat) (h : k < p.length) : (pInt p.length ++ ((p.take k).map pText).flatten) ++ pText p[k] = pInt p.length ++ ((p.take (k + 1)).map pText).flatten := by
  rw [List.take_add_one, List.getElem?_eq_getElem h, Option.toList_some, List.map_append, List.flatten_append, List.append_assoc]
  simp only [List.map_cons, List.map_nil, List.flatten_cons, List.flatten_nil, List.append_nil]
theorem code_len (p : List (List UInt8)) (hp : pOk p) (k : Nat) (h : k < p.length) : (pInt p.length ++ ((p.take k).map pText).flatten).length + (pText p[k]).length ≤ 9223372036854775807 := by
  have h1 := pParts_len (p.take k) (fun s hs => hp.2 s (List.mem_of_mem_take hs))
  have h2 := pInt_len (n := p.length) (i64ok_nat (by have := hp.1; omega))
  have h3 := pText_len p[k] (hp.2 _ (List.getElem_mem h))
  have h4 := hp.1
  rw [List.length_take, Nat.min_eq_left (by omega)] at h1
  rw [List.length_append]
  omega
theorem g_path_Code (hI : S_i2s (C (F n_pack_Int))) (hT : S_ptext (C (F n_pack_Text))) : S_pCode ((c_path_Code F).gives C) := by
  intro p hp
  refine gives_of rfl ?_
  unfold c_path_Code
  have hl := hp.1
  simp only [walk, Nat.reduceLT, Nat.reduceBEq, Nat.reduceAdd, Nat.reduceLeDiff, reduceIte, Int.reduceLT, Int.reduceLE, Int.reduceEq, Int.reduceToNat, Int.reduceBEq, xRows_len]
  refine callWp_of (hI p.length (i64ok_nat (by omega))) ?_
  simp only [walk, Nat.reduceLT, Nat.reduceBEq, Nat.reduceAdd, Nat.reduceLeDiff, reduceIte, Int.reduceLT, Int.reduceLE, Int.reduceEq, Int.reduceToNat, Int.reduceBEq, xRows_len]
  refine awp_loop_ind (X := Nat) (fun k => ⟨[(0, .val (ptP p)), (2, .val (.str [])), (3, .val (.str (pInt p.length ++ ((p.take k).map pText).flatten))), (9, .val (ptP p)), (10, .val (.int .i64 p.length)), (11, .val (.int .i64 k))], []⟩)
    (fun k => k ≤ p.length) (fun k => p.length - k) 0 (by omega) (by simp) ?_
  rintro R k hk ih
  simp only [walk, Nat.reduceLT, Nat.reduceBEq, Nat.reduceAdd, Nat.reduceLeDiff, reduceIte, Int.reduceLT, Int.reduceLE, Int.reduceEq, Int.reduceToNat, Int.reduceBEq]
  by_cases c : k < p.length
  · have c1 : (k : Int) < p.length := by omega
    have c0 : (0 : Int) ≤ k := by omega
    have e1 : IntKind.i64.wrap ((k : Int) + 1) = ((k + 1 : Nat) : Int) := wrap64 (by omega) (by omega)
    have step := ih (k + 1) (by omega) (by omega)
    rw [← code_take p k c] at step
    have hb := code_len p hp k c
    simp only [walk, Nat.reduceLT, Nat.reduceBEq, Nat.reduceAdd, Nat.reduceLeDiff, reduceIte, Int.reduceLT, Int.reduceLE, Int.reduceEq, Int.reduceToNat, Int.reduceBEq, c1, xRows_get p k c]
    refine callWp_of (hT p[k] (by have := hp.2 _ (List.getElem_mem c); omega)) ?_
    simp only [walk, Nat.reduceLT, Nat.reduceBEq, Nat.reduceAdd, Nat.reduceLeDiff, reduceIte, Int.reduceLT, Int.reduceLE, Int.reduceEq, Int.reduceToNat, Int.reduceBEq]
    rw [bins_add hb]
    simp only [walk, Nat.reduceLT, Nat.reduceBEq, Nat.reduceAdd, Nat.reduceLeDiff, reduceIte, Int.reduceLT, Int.reduceLE, Int.reduceEq, Int.reduceToNat, Int.reduceBEq, e1]
    exact step
  · have c1 : ¬ (k : Int) < p.length := by omega
    rw [List.take_of_length_le (by omega)]
    simp only [walk, Nat.reduceLT, Nat.reduceBEq, Nat.reduceAdd, Nat.reduceLeDiff, reduceIte, Int.reduceLT, Int.reduceLE, Int.reduceEq, Int.reduceToNat, Int.reduceBEq, c1, pCode]
theorem g_pref10_Code (hI : S_i2s (C (F n_pref02_Int))) (hT : S_ptext (C (F n_pref02_Text))) : S_pCode ((c_pref10_Code F).gives C) := by
  intro p hp
  refine gives_of rfl ?_
  unfold c_pref10_Code
  have hl := hp.1
  simp only [walk, Nat.reduceLT, Nat.reduceBEq, Nat.reduceAdd, Nat.reduceLeDiff, reduceIte, Int.reduceLT, Int.reduceLE, Int.reduceEq, Int.reduceToNat, Int.reduceBEq, xRows_len]
  refine callWp_of (hI p.length (i64ok_nat (by omega))) ?_
  simp only [walk, Nat.reduceLT, Nat.reduceBEq, Nat.reduceAdd, Nat.reduceLeDiff, reduceIte, Int.reduceLT, Int.reduceLE, Int.reduceEq, Int.reduceToNat, Int.reduceBEq, xRows_len]
  refine awp_loop_ind (X := Nat) (fun k => ⟨[(0, .val (ptP p)), (2, .val (.str [])), (3, .val (.str (pInt p.length ++ ((p.take k).map pText).flatten))), (4, .val (.int .i64 k))], []⟩)
    (fun k => k ≤ p.length) (fun k => p.length - k) 0 (by omega) (by simp) ?_
  rintro R k hk ih
  simp only [walk, Nat.reduceLT, Nat.reduceBEq, Nat.reduceAdd, Nat.reduceLeDiff, reduceIte, Int.reduceLT, Int.reduceLE, Int.reduceEq, Int.reduceToNat, Int.reduceBEq, xRows_len]
  by_cases c : k < p.length
  · have c1 : (k : Int) < p.length := by omega
    have c0 : (0 : Int) ≤ k := by omega
    have e1 : IntKind.i64.wrap ((k : Int) + 1) = ((k + 1 : Nat) : Int) := wrap64 (by omega) (by omega)
    have step := ih (k + 1) (by omega) (by omega)
    rw [← code_take p k c] at step
    have hb := code_len p hp k c
    simp only [walk, Nat.reduceLT, Nat.reduceBEq, Nat.reduceAdd, Nat.reduceLeDiff, reduceIte, Int.reduceLT, Int.reduceLE, Int.reduceEq, Int.reduceToNat, Int.reduceBEq, c1, xRows_get p k c]
    refine callWp_of (hT p[k] (by have := hp.2 _ (List.getElem_mem c); omega)) ?_
    simp only [walk, Nat.reduceLT, Nat.reduceBEq, Nat.reduceAdd, Nat.reduceLeDiff, reduceIte, Int.reduceLT, Int.reduceLE, Int.reduceEq, Int.reduceToNat, Int.reduceBEq]
    rw [bins_add hb]
    simp only [walk, Nat.reduceLT, Nat.reduceBEq, Nat.reduceAdd, Nat.reduceLeDiff, reduceIte, Int.reduceLT, Int.reduceLE, Int.reduceEq, Int.reduceToNat, Int.reduceBEq, e1]
    exact step
  · have c1 : ¬ (k : Int) < p.length := by omega
    rw [List.take_of_length_le (by omega)]
    simp only [walk, Nat.reduceLT, Nat.reduceBEq, Nat.reduceAdd, Nat.reduceLeDiff, reduceIte, Int.reduceLT, Int.reduceLE, Int.reduceEq, Int.reduceToNat, Int.reduceBEq, c1, pCode]
end
end Go.AR

/-! Operations: named operations, and values. -/
namespace Go.AR
open Go
section
variable {C : CallRel} {F : Nat → FuncId}
theorem eq_r (a b : Ud) : eqCells [.i, .i, .i] [.int .i64 a.1.1, .int .i64 a.1.2, .int .i64 a.2] [.int .i64 b.1.1, .int .i64 b.1.2, .int .i64 b.2] = some (decide (a = b)) := by
  obtain ⟨⟨a1, a2⟩, a3⟩ := a; obtain ⟨⟨b1, b2⟩, b3⟩ := b
  simp only [eqCells, eqB, if_true]
  congr 1
  rw [Bool.eq_iff_iff]
  simp [and_assoc]
abbrev vCells (v : Vl) : List PV := [.int .i64 v.1, .int .i64 v.2.1, .str v.2.2]
abbrev vP (v : Vl) : PV := .agg (vCells v)
theorem eq_v (a b : Vl) : eqCells [.i, .i, .s] [.int .i64 a.1, .int .i64 a.2.1, .str a.2.2] [.int .i64 b.1, .int .i64 b.2.1, .str b.2.2] = some (decide (a = b)) := by
  obtain ⟨a1, a2, a3⟩ := a; obtain ⟨b1, b2, b3⟩ := b
  simp only [eqCells, eqB, if_true]
  congr 1
  rw [Bool.eq_iff_iff]
  simp
theorem eq_v0 (a : Vl) : eqCells [.i, .i, .s] [.int .i64 a.1, .int .i64 a.2.1, .str a.2.2] [.int .i64 0, .int .i64 0, .str []] = some (decide (a = z0)) := eq_v a z0
def S_rcmp (R : Rel) : Prop := ∀ a b : Ud, R [.v (uP a), .v (uP b)] (.val (.int .i64 (rcmp a b))) []
def S_refs (R : Rel) : Prop := ∀ l : List Ud, l.length ≤ 2000000 → R [.v (usP l)] (.val (.bool (refsOk l))) []
def S_rsame (R : Rel) : Prop := ∀ a b : List Ud, a.length ≤ 2000000 → R [.v (usP a), .v (usP b)] (.val (.bool (decide (a = b)))) []
def S_vOk (R : Rel) : Prop := ∀ v : Vl, v.2.2.length ≤ 20000000 → R [.v (vP v)] (.val (.bool (vOk v))) []
def S_fold (R : Rel) : Prop := ∀ n : Int, -2147483648 ≤ n → n ≤ 2147483648 → R [.v (.int .i64 n)] (.val (.int .i64 (fold n))) []
def vFit (v : Vl) : Prop := i64ok v.1 ∧ -2147483648 ≤ v.2.1 ∧ v.2.1 ≤ 2147483648 ∧ v.2.2.length ≤ 20000000
def dFit (d : Dt) : Prop := i64ok d.1 ∧ i64ok d.2
def S_vCode (R : Rel) : Prop := ∀ v : Vl, vFit v → R [.v (vP v)] (.val (.str (vCode v))) []
def S_dCode (R : Rel) : Prop := ∀ d : Dt, dFit d → R [.v (dP d)] (.val (.str (dCode d))) []
theorem g_dot_Refs (h : S_dcmp (C (F n_dot_Compare))) (h2 : S_icmp (C (F n_cmp_Compare_int))) (ho : S_or2 (C (F n_cmp_Or_int))) : S_rcmp ((c_dot_Refs F).gives C) := by
  intro a b
  refine gives_of rfl ?_
  unfold c_dot_Refs
  simp only [walk, Nat.reduceLT, Nat.reduceBEq, Nat.reduceAdd, Nat.reduceLeDiff, reduceIte, Int.reduceLT, Int.reduceLE, Int.reduceEq, Int.reduceToNat, Int.reduceBEq]
  refine callWp_of (h a.1 b.1) ?_
  simp only [walk, Nat.reduceLT, Nat.reduceBEq, Nat.reduceAdd, Nat.reduceLeDiff, reduceIte, Int.reduceLT, Int.reduceLE, Int.reduceEq, Int.reduceToNat, Int.reduceBEq]
  refine callWp_of (h2 _ _) ?_
  simp only [walk, Nat.reduceLT, Nat.reduceBEq, Nat.reduceAdd, Nat.reduceLeDiff, reduceIte, Int.reduceLT, Int.reduceLE, Int.reduceEq, Int.reduceToNat, Int.reduceBEq]
  refine callWp_of (ho _ _) ?_
  simp only [walk, Nat.reduceLT, Nat.reduceBEq, Nat.reduceAdd, Nat.reduceLeDiff, reduceIte, Int.reduceLT, Int.reduceLE, Int.reduceEq, Int.reduceToNat, Int.reduceBEq, rcmp]
theorem g_pref04_Refs (h : S_dcmp (C (F n_pref04_Compare))) (h2 : S_icmp (C (F n_pref04_ints))) : S_rcmp ((c_pref04_Refs F).gives C) := by
  intro a b
  refine gives_of rfl ?_
  unfold c_pref04_Refs rcmp
  simp only [walk, Nat.reduceLT, Nat.reduceBEq, Nat.reduceAdd, Nat.reduceLeDiff, reduceIte, Int.reduceLT, Int.reduceLE, Int.reduceEq, Int.reduceToNat, Int.reduceBEq]
  refine callWp_of (h a.1 b.1) ?_
  by_cases h1 : dcmp a.1 b.1 = 0
  · have e : (dcmp a.1 b.1 != 0) = false := by simp [h1]
    simp only [walk, Nat.reduceLT, Nat.reduceBEq, Nat.reduceAdd, Nat.reduceLeDiff, reduceIte, Int.reduceLT, Int.reduceLE, Int.reduceEq, Int.reduceToNat, Int.reduceBEq, e]
    refine callWp_of (h2 _ _) ?_
    simp only [walk, Nat.reduceLT, Nat.reduceBEq, Nat.reduceAdd, Nat.reduceLeDiff, reduceIte, Int.reduceLT, Int.reduceLE, Int.reduceEq, Int.reduceToNat, Int.reduceBEq, h1, ne_eq]
  · have e : (dcmp a.1 b.1 != 0) = true := by simp [h1]
    simp only [walk, Nat.reduceLT, Nat.reduceBEq, Nat.reduceAdd, Nat.reduceLeDiff, reduceIte, Int.reduceLT, Int.reduceLE, Int.reduceEq, Int.reduceToNat, Int.reduceBEq, e]
    refine callWp_of (h a.1 b.1) ?_
    simp only [walk, Nat.reduceLT, Nat.reduceBEq, Nat.reduceAdd, Nat.reduceLeDiff, reduceIte, Int.reduceLT, Int.reduceLE, Int.reduceEq, Int.reduceToNat, Int.reduceBEq, h1, ne_eq]
theorem g_value_Right (hR : S_runes .i32 (C (F n_name_Runes))) : S_vOk ((c_value_Right F).gives C) := by
  intro v hv
  obtain ⟨k, n, s⟩ := v
  simp only at hv
  refine gives_of rfl ?_
  unfold c_value_Right vOk
  simp only [walk, Nat.reduceLT, Nat.reduceBEq, Nat.reduceAdd, Nat.reduceLeDiff, reduceIte, Int.reduceLT, Int.reduceLE, Int.reduceEq, Int.reduceToNat, Int.reduceBEq]
  by_cases h1 : k = 1
  · have e1 : (k == 1) = true := by simp [h1]
    simp only [walk, Nat.reduceLT, Nat.reduceBEq, Nat.reduceAdd, Nat.reduceLeDiff, reduceIte, Int.reduceLT, Int.reduceLE, Int.reduceEq, Int.reduceToNat, Int.reduceBEq, e1]
    by_cases h2 : s = []
    · have e2 : (s == []) = true := by simp [h2]
      simp only [walk, Nat.reduceLT, Nat.reduceBEq, Nat.reduceAdd, Nat.reduceLeDiff, reduceIte, Int.reduceLT, Int.reduceLE, Int.reduceEq, Int.reduceToNat, Int.reduceBEq, e2, h1, h2, beq_self_eq_true]
      by_cases h3 : -2147483647 ≤ n <;> simp only [walk, Nat.reduceLT, Nat.reduceBEq, Nat.reduceAdd, Nat.reduceLeDiff, reduceIte, Int.reduceLT, Int.reduceLE, Int.reduceEq, Int.reduceToNat, Int.reduceBEq, h3, ge_iff_le]
    · have e2 : (s == []) = false := by rw [beq_eq_false_iff_ne]; exact h2
      simp only [walk, Nat.reduceLT, Nat.reduceBEq, Nat.reduceAdd, Nat.reduceLeDiff, reduceIte, Int.reduceLT, Int.reduceLE, Int.reduceEq, Int.reduceToNat, Int.reduceBEq, e2, h1, h2]
  · have e1 : (k == 1) = false := by rw [beq_eq_false_iff_ne]; exact h1
    simp only [walk, Nat.reduceLT, Nat.reduceBEq, Nat.reduceAdd, Nat.reduceLeDiff, reduceIte, Int.reduceLT, Int.reduceLE, Int.reduceEq, Int.reduceToNat, Int.reduceBEq, e1]
    by_cases h2 : k = 2
    · have e2 : (k == 2) = true := by simp [h2]
      simp only [walk, Nat.reduceLT, Nat.reduceBEq, Nat.reduceAdd, Nat.reduceLeDiff, reduceIte, Int.reduceLT, Int.reduceLE, Int.reduceEq, Int.reduceToNat, Int.reduceBEq, e2]
      refine callWp_of (hR s hv) ?_
      cases hr : runes s [] with
      | none => simp only [walk, Nat.reduceLT, Nat.reduceBEq, Nat.reduceAdd, Nat.reduceLeDiff, reduceIte, Int.reduceLT, Int.reduceLE, Int.reduceEq, Int.reduceToNat, Int.reduceBEq, runesP, h1, h2, Option.isSome_none]
      | some l =>
        simp only [walk, Nat.reduceLT, Nat.reduceBEq, Nat.reduceAdd, Nat.reduceLeDiff, reduceIte, Int.reduceLT, Int.reduceLE, Int.reduceEq, Int.reduceToNat, Int.reduceBEq, runesP]
        by_cases h3 : n = 0
        · have e3 : (n == 0) = true := by simp [h3]
          have e4 : ((s.length : Int) ≤ 64) = (s.length ≤ 64) := by apply propext; omega
          simp only [walk, Nat.reduceLT, Nat.reduceBEq, Nat.reduceAdd, Nat.reduceLeDiff, reduceIte, Int.reduceLT, Int.reduceLE, Int.reduceEq, Int.reduceToNat, Int.reduceBEq, e3, h1, h2, h3, Option.isSome_some, e4]
        · have e3 : (n == 0) = false := by rw [beq_eq_false_iff_ne]; exact h3
          simp only [walk, Nat.reduceLT, Nat.reduceBEq, Nat.reduceAdd, Nat.reduceLeDiff, reduceIte, Int.reduceLT, Int.reduceLE, Int.reduceEq, Int.reduceToNat, Int.reduceBEq, e3, h1, h2, h3, Option.isSome_some]
    · have e2 : (k == 2) = false := by rw [beq_eq_false_iff_ne]; exact h2
      simp only [walk, Nat.reduceLT, Nat.reduceBEq, Nat.reduceAdd, Nat.reduceLeDiff, reduceIte, Int.reduceLT, Int.reduceLE, Int.reduceEq, Int.reduceToNat, Int.reduceBEq, e2]
      by_cases h3 : k = 3
      · have e3 : (k == 3) = true := by simp [h3]
        simp only [walk, Nat.reduceLT, Nat.reduceBEq, Nat.reduceAdd, Nat.reduceLeDiff, reduceIte, Int.reduceLT, Int.reduceLE, Int.reduceEq, Int.reduceToNat, Int.reduceBEq, e3, h1, h2, h3]
        by_cases h4 : s = []
        · have e4 : (s == []) = true := by simp [h4]
          simp only [walk, Nat.reduceLT, Nat.reduceBEq, Nat.reduceAdd, Nat.reduceLeDiff, reduceIte, Int.reduceLT, Int.reduceLE, Int.reduceEq, Int.reduceToNat, Int.reduceBEq, h4, beq_self_eq_true]
          by_cases h5 : n = 0
          · have e5 : (n == 0) = true := by simp [h5]
            simp only [walk, Nat.reduceLT, Nat.reduceBEq, Nat.reduceAdd, Nat.reduceLeDiff, reduceIte, Int.reduceLT, Int.reduceLE, Int.reduceEq, Int.reduceToNat, Int.reduceBEq, e5, h5]
          · have e5 : (n == 0) = false := by rw [beq_eq_false_iff_ne]; exact h5
            simp only [walk, Nat.reduceLT, Nat.reduceBEq, Nat.reduceAdd, Nat.reduceLeDiff, reduceIte, Int.reduceLT, Int.reduceLE, Int.reduceEq, Int.reduceToNat, Int.reduceBEq, e5]
            have e6 : (n == 1) = (decide (0 ≤ n) && decide (n ≤ 1)) := by
              rw [Bool.eq_iff_iff]; simp; omega
            simp only [walk, Nat.reduceLT, Nat.reduceBEq, Nat.reduceAdd, Nat.reduceLeDiff, reduceIte, Int.reduceLT, Int.reduceLE, Int.reduceEq, Int.reduceToNat, Int.reduceBEq, e6]
        · have e4 : (s == []) = false := by rw [beq_eq_false_iff_ne]; exact h4
          simp only [walk, Nat.reduceLT, Nat.reduceBEq, Nat.reduceAdd, Nat.reduceLeDiff, reduceIte, Int.reduceLT, Int.reduceLE, Int.reduceEq, Int.reduceToNat, Int.reduceBEq, e4, h4]
      · have e3 : (k == 3) = false := by rw [beq_eq_false_iff_ne]; exact h3
        simp only [walk, Nat.reduceLT, Nat.reduceBEq, Nat.reduceAdd, Nat.reduceLeDiff, reduceIte, Int.reduceLT, Int.reduceLE, Int.reduceEq, Int.reduceToNat, Int.reduceBEq, e3, h1, h2, h3]
theorem g_pref09_Right (hR : S_runes .i64 (C (F n_pref03_Runes))) : S_vOk ((c_pref09_Right F).gives C) := by
  intro v hv
  obtain ⟨k, n, s⟩ := v
  simp only at hv
  refine gives_of rfl ?_
  unfold c_pref09_Right vOk
  simp only [walk, Nat.reduceLT, Nat.reduceBEq, Nat.reduceAdd, Nat.reduceLeDiff, reduceIte, Int.reduceLT, Int.reduceLE, Int.reduceEq, Int.reduceToNat, Int.reduceBEq]
  by_cases h1 : k = 1
  · have e1 : (k == 1) = true := by simp [h1]
    simp only [walk, Nat.reduceLT, Nat.reduceBEq, Nat.reduceAdd, Nat.reduceLeDiff, reduceIte, Int.reduceLT, Int.reduceLE, Int.reduceEq, Int.reduceToNat, Int.reduceBEq, e1]
    by_cases h2 : s = []
    · have e2 : (s == []) = true := by simp [h2]
      simp only [walk, Nat.reduceLT, Nat.reduceBEq, Nat.reduceAdd, Nat.reduceLeDiff, reduceIte, Int.reduceLT, Int.reduceLE, Int.reduceEq, Int.reduceToNat, Int.reduceBEq, e2, h1, h2, beq_self_eq_true]
      by_cases h3 : -2147483647 ≤ n <;> simp only [walk, Nat.reduceLT, Nat.reduceBEq, Nat.reduceAdd, Nat.reduceLeDiff, reduceIte, Int.reduceLT, Int.reduceLE, Int.reduceEq, Int.reduceToNat, Int.reduceBEq, h3, ge_iff_le]
    · have e2 : (s == []) = false := by rw [beq_eq_false_iff_ne]; exact h2
      simp only [walk, Nat.reduceLT, Nat.reduceBEq, Nat.reduceAdd, Nat.reduceLeDiff, reduceIte, Int.reduceLT, Int.reduceLE, Int.reduceEq, Int.reduceToNat, Int.reduceBEq, e2, h1, h2]
  · have e1 : (k == 1) = false := by rw [beq_eq_false_iff_ne]; exact h1
    simp only [walk, Nat.reduceLT, Nat.reduceBEq, Nat.reduceAdd, Nat.reduceLeDiff, reduceIte, Int.reduceLT, Int.reduceLE, Int.reduceEq, Int.reduceToNat, Int.reduceBEq, e1]
    by_cases h2 : k = 2
    · have e2 : (k == 2) = true := by simp [h2]
      simp only [walk, Nat.reduceLT, Nat.reduceBEq, Nat.reduceAdd, Nat.reduceLeDiff, reduceIte, Int.reduceLT, Int.reduceLE, Int.reduceEq, Int.reduceToNat, Int.reduceBEq, e2]
      refine callWp_of (hR s hv) ?_
      by_cases h3 : n = 0
      · have e3 : (n == 0) = true := by simp [h3]
        cases hr : runes s [] with
        | none => simp only [walk, Nat.reduceLT, Nat.reduceBEq, Nat.reduceAdd, Nat.reduceLeDiff, reduceIte, Int.reduceLT, Int.reduceLE, Int.reduceEq, Int.reduceToNat, Int.reduceBEq, runesP, h1, h2, h3, e3, Option.isSome_none]
        | some l =>
          have e4 : ((s.length : Int) ≤ 64) = (s.length ≤ 64) := by apply propext; omega
          simp only [walk, Nat.reduceLT, Nat.reduceBEq, Nat.reduceAdd, Nat.reduceLeDiff, reduceIte, Int.reduceLT, Int.reduceLE, Int.reduceEq, Int.reduceToNat, Int.reduceBEq, runesP, e3, h1, h2, h3, Option.isSome_some, e4]
      · have e3 : (n == 0) = false := by rw [beq_eq_false_iff_ne]; exact h3
        cases hr : runes s [] <;> simp only [walk, Nat.reduceLT, Nat.reduceBEq, Nat.reduceAdd, Nat.reduceLeDiff, reduceIte, Int.reduceLT, Int.reduceLE, Int.reduceEq, Int.reduceToNat, Int.reduceBEq, runesP, e3, h1, h2, h3]
    · have e2 : (k == 2) = false := by rw [beq_eq_false_iff_ne]; exact h2
      simp only [walk, Nat.reduceLT, Nat.reduceBEq, Nat.reduceAdd, Nat.reduceLeDiff, reduceIte, Int.reduceLT, Int.reduceLE, Int.reduceEq, Int.reduceToNat, Int.reduceBEq, e2]
      by_cases h3 : k = 3
      · have e3 : (k == 3) = true := by simp [h3]
        simp only [walk, Nat.reduceLT, Nat.reduceBEq, Nat.reduceAdd, Nat.reduceLeDiff, reduceIte, Int.reduceLT, Int.reduceLE, Int.reduceEq, Int.reduceToNat, Int.reduceBEq, e3, h1, h2, h3]
        by_cases h4 : s = []
        · have e4 : (s == []) = true := by simp [h4]
          simp only [walk, Nat.reduceLT, Nat.reduceBEq, Nat.reduceAdd, Nat.reduceLeDiff, reduceIte, Int.reduceLT, Int.reduceLE, Int.reduceEq, Int.reduceToNat, Int.reduceBEq, h4, beq_self_eq_true]
          by_cases h5 : 0 ≤ n
          · simp only [walk, Nat.reduceLT, Nat.reduceBEq, Nat.reduceAdd, Nat.reduceLeDiff, reduceIte, Int.reduceLT, Int.reduceLE, Int.reduceEq, Int.reduceToNat, Int.reduceBEq, h5, ge_iff_le]
          · simp only [walk, Nat.reduceLT, Nat.reduceBEq, Nat.reduceAdd, Nat.reduceLeDiff, reduceIte, Int.reduceLT, Int.reduceLE, Int.reduceEq, Int.reduceToNat, Int.reduceBEq, h5, ge_iff_le]
        · have e4 : (s == []) = false := by rw [beq_eq_false_iff_ne]; exact h4
          simp only [walk, Nat.reduceLT, Nat.reduceBEq, Nat.reduceAdd, Nat.reduceLeDiff, reduceIte, Int.reduceLT, Int.reduceLE, Int.reduceEq, Int.reduceToNat, Int.reduceBEq, e4, h4]
      · have e3 : (k == 3) = false := by rw [beq_eq_false_iff_ne]; exact h3
        simp only [walk, Nat.reduceLT, Nat.reduceBEq, Nat.reduceAdd, Nat.reduceLeDiff, reduceIte, Int.reduceLT, Int.reduceLE, Int.reduceEq, Int.reduceToNat, Int.reduceBEq, e3, h1, h2, h3]
theorem g_value_Fold : S_fold ((c_value_Fold F).gives C) := by
  intro n h1 h2
  refine gives_of rfl ?_
  unfold c_value_Fold fold
  by_cases h : n < 0
  · have w1 : IntKind.i64.wrap (-2 * n) = -2 * n := wrap64 (by omega) (by omega)
    have w2 : IntKind.i64.wrap (-2 * n - 1) = -2 * n - 1 := wrap64 (by omega) (by omega)
    simp only [walk, Nat.reduceLT, Nat.reduceBEq, Nat.reduceAdd, Nat.reduceLeDiff, reduceIte, Int.reduceLT, Int.reduceLE, Int.reduceEq, Int.reduceToNat, Int.reduceBEq, h, w1, w2]
  · have w1 : IntKind.i64.wrap (2 * n) = 2 * n := wrap64 (by omega) (by omega)
    simp only [walk, Nat.reduceLT, Nat.reduceBEq, Nat.reduceAdd, Nat.reduceLeDiff, reduceIte, Int.reduceLT, Int.reduceLE, Int.reduceEq, Int.reduceToNat, Int.reduceBEq, h, w1]
theorem g_pref09_Fold : S_fold ((c_pref09_Fold F).gives C) := by
  intro n h1 h2
  refine gives_of rfl ?_
  unfold c_pref09_Fold fold
  by_cases h : n < 0
  · have w1 : IntKind.i64.wrap (0 - n) = 0 - n := wrap64 (by omega) (by omega)
    have w2 : IntKind.i64.wrap (0 - n - n) = 0 - n - n := wrap64 (by omega) (by omega)
    have w3 : IntKind.i64.wrap (0 - n - n - 1) = -2 * n - 1 := by rw [wrap64 (by omega) (by omega)]; omega
    simp only [walk, Nat.reduceLT, Nat.reduceBEq, Nat.reduceAdd, Nat.reduceLeDiff, reduceIte, Int.reduceLT, Int.reduceLE, Int.reduceEq, Int.reduceToNat, Int.reduceBEq, h, w1, w2, w3]
  · have w1 : IntKind.i64.wrap (n + n) = 2 * n := by rw [wrap64 (by omega) (by omega)]; omega
    simp only [walk, Nat.reduceLT, Nat.reduceBEq, Nat.reduceAdd, Nat.reduceLeDiff, reduceIte, Int.reduceLT, Int.reduceLE, Int.reduceEq, Int.reduceToNat, Int.reduceBEq, h, w1]
theorem fold_ok {n : Int} (h1 : -2147483648 ≤ n) (h2 : n ≤ 2147483648) : i64ok (fold n) := by
  unfold fold i64ok; split <;> omega
theorem g_value_Code (hI : S_i2s (C (F n_pack_Int))) (hT : S_ptext (C (F n_pack_Text))) (hF : S_fold (C (F n_value_Fold))) : S_vCode ((c_value_Code F).gives C) := by
  intro v hv
  obtain ⟨k, n, s⟩ := v
  obtain ⟨h1, h2, h3, h4⟩ := hv
  simp only at h1 h2 h3 h4
  refine gives_of rfl ?_
  unfold c_value_Code vCode
  have l1 := pInt_len h1
  simp only [walk, Nat.reduceLT, Nat.reduceBEq, Nat.reduceAdd, Nat.reduceLeDiff, reduceIte, Int.reduceLT, Int.reduceLE, Int.reduceEq, Int.reduceToNat, Int.reduceBEq]
  by_cases h : k = 2
  · subst h
    have l2 := pText_len s h4
    simp only [walk, Nat.reduceLT, Nat.reduceBEq, Nat.reduceAdd, Nat.reduceLeDiff, reduceIte, Int.reduceLT, Int.reduceLE, Int.reduceEq, Int.reduceToNat, Int.reduceBEq]
    refine callWp_of (hI _ h1) ?_
    simp only [walk, Nat.reduceLT, Nat.reduceBEq, Nat.reduceAdd, Nat.reduceLeDiff, reduceIte, Int.reduceLT, Int.reduceLE, Int.reduceEq, Int.reduceToNat, Int.reduceBEq]
    refine callWp_of (hT _ (by omega)) ?_
    simp only [walk, Nat.reduceLT, Nat.reduceBEq, Nat.reduceAdd, Nat.reduceLeDiff, reduceIte, Int.reduceLT, Int.reduceLE, Int.reduceEq, Int.reduceToNat, Int.reduceBEq]
    rw [bins_add (by omega)]
    simp only [walk, Nat.reduceLT, Nat.reduceBEq, Nat.reduceAdd, Nat.reduceLeDiff, reduceIte, Int.reduceLT, Int.reduceLE, Int.reduceEq, Int.reduceToNat, Int.reduceBEq]
  · have e : (k == 2) = false := by rw [beq_eq_false_iff_ne]; exact h
    have l2 := pInt_len (fold_ok h2 h3)
    simp only [walk, Nat.reduceLT, Nat.reduceBEq, Nat.reduceAdd, Nat.reduceLeDiff, reduceIte, Int.reduceLT, Int.reduceLE, Int.reduceEq, Int.reduceToNat, Int.reduceBEq, e, h]
    refine callWp_of (hI _ h1) ?_
    simp only [walk, Nat.reduceLT, Nat.reduceBEq, Nat.reduceAdd, Nat.reduceLeDiff, reduceIte, Int.reduceLT, Int.reduceLE, Int.reduceEq, Int.reduceToNat, Int.reduceBEq]
    refine callWp_of (hF _ h2 h3) ?_
    simp only [walk, Nat.reduceLT, Nat.reduceBEq, Nat.reduceAdd, Nat.reduceLeDiff, reduceIte, Int.reduceLT, Int.reduceLE, Int.reduceEq, Int.reduceToNat, Int.reduceBEq]
    refine callWp_of (hI _ (fold_ok h2 h3)) ?_
    simp only [walk, Nat.reduceLT, Nat.reduceBEq, Nat.reduceAdd, Nat.reduceLeDiff, reduceIte, Int.reduceLT, Int.reduceLE, Int.reduceEq, Int.reduceToNat, Int.reduceBEq]
    rw [bins_add (by omega)]
    simp only [walk, Nat.reduceLT, Nat.reduceBEq, Nat.reduceAdd, Nat.reduceLeDiff, reduceIte, Int.reduceLT, Int.reduceLE, Int.reduceEq, Int.reduceToNat, Int.reduceBEq]
theorem g_pref09_Code (hI : S_i2s (C (F n_pref02_Int))) (hT : S_ptext (C (F n_pref02_Text))) (hF : S_fold (C (F n_pref09_Fold))) : S_vCode ((c_pref09_Code F).gives C) := by
  intro v hv
  obtain ⟨k, n, s⟩ := v
  obtain ⟨h1, h2, h3, h4⟩ := hv
  simp only at h1 h2 h3 h4
  refine gives_of rfl ?_
  unfold c_pref09_Code vCode
  have l1 := pInt_len h1
  simp only [walk, Nat.reduceLT, Nat.reduceBEq, Nat.reduceAdd, Nat.reduceLeDiff, reduceIte, Int.reduceLT, Int.reduceLE, Int.reduceEq, Int.reduceToNat, Int.reduceBEq]
  by_cases h : k = 2
  · subst h
    have l2 := pText_len s h4
    simp only [walk, Nat.reduceLT, Nat.reduceBEq, Nat.reduceAdd, Nat.reduceLeDiff, reduceIte, Int.reduceLT, Int.reduceLE, Int.reduceEq, Int.reduceToNat, Int.reduceBEq]
    refine callWp_of (hI _ h1) ?_
    simp only [walk, Nat.reduceLT, Nat.reduceBEq, Nat.reduceAdd, Nat.reduceLeDiff, reduceIte, Int.reduceLT, Int.reduceLE, Int.reduceEq, Int.reduceToNat, Int.reduceBEq]
    refine callWp_of (hT _ (by omega)) ?_
    simp only [walk, Nat.reduceLT, Nat.reduceBEq, Nat.reduceAdd, Nat.reduceLeDiff, reduceIte, Int.reduceLT, Int.reduceLE, Int.reduceEq, Int.reduceToNat, Int.reduceBEq]
    rw [bins_add (by omega)]
    simp only [walk, Nat.reduceLT, Nat.reduceBEq, Nat.reduceAdd, Nat.reduceLeDiff, reduceIte, Int.reduceLT, Int.reduceLE, Int.reduceEq, Int.reduceToNat, Int.reduceBEq]
  · have e : (k == 2) = false := by rw [beq_eq_false_iff_ne]; exact h
    have l2 := pInt_len (fold_ok h2 h3)
    simp only [walk, Nat.reduceLT, Nat.reduceBEq, Nat.reduceAdd, Nat.reduceLeDiff, reduceIte, Int.reduceLT, Int.reduceLE, Int.reduceEq, Int.reduceToNat, Int.reduceBEq, e, h]
    refine callWp_of (hI _ h1) ?_
    simp only [walk, Nat.reduceLT, Nat.reduceBEq, Nat.reduceAdd, Nat.reduceLeDiff, reduceIte, Int.reduceLT, Int.reduceLE, Int.reduceEq, Int.reduceToNat, Int.reduceBEq]
    refine callWp_of (hF _ h2 h3) ?_
    simp only [walk, Nat.reduceLT, Nat.reduceBEq, Nat.reduceAdd, Nat.reduceLeDiff, reduceIte, Int.reduceLT, Int.reduceLE, Int.reduceEq, Int.reduceToNat, Int.reduceBEq]
    refine callWp_of (hI _ (fold_ok h2 h3)) ?_
    simp only [walk, Nat.reduceLT, Nat.reduceBEq, Nat.reduceAdd, Nat.reduceLeDiff, reduceIte, Int.reduceLT, Int.reduceLE, Int.reduceEq, Int.reduceToNat, Int.reduceBEq]
    rw [bins_add (by omega)]
    simp only [walk, Nat.reduceLT, Nat.reduceBEq, Nat.reduceAdd, Nat.reduceLeDiff, reduceIte, Int.reduceLT, Int.reduceLE, Int.reduceEq, Int.reduceToNat, Int.reduceBEq]
theorem g_dot_Code (hI : S_i2s (C (F n_pack_Int))) : S_dCode ((c_dot_Code F).gives C) := by
  intro d hd
  obtain ⟨a, b⟩ := d
  obtain ⟨h1, h2⟩ := hd
  simp only at h1 h2
  refine gives_of rfl ?_
  unfold c_dot_Code dCode
  have l1 := pInt_len h1
  have l2 := pInt_len h2
  simp only [walk, Nat.reduceLT, Nat.reduceBEq, Nat.reduceAdd, Nat.reduceLeDiff, reduceIte, Int.reduceLT, Int.reduceLE, Int.reduceEq, Int.reduceToNat, Int.reduceBEq]
  refine callWp_of (hI _ h1) ?_
  simp only [walk, Nat.reduceLT, Nat.reduceBEq, Nat.reduceAdd, Nat.reduceLeDiff, reduceIte, Int.reduceLT, Int.reduceLE, Int.reduceEq, Int.reduceToNat, Int.reduceBEq]
  refine callWp_of (hI _ h2) ?_
  simp only [walk, Nat.reduceLT, Nat.reduceBEq, Nat.reduceAdd, Nat.reduceLeDiff, reduceIte, Int.reduceLT, Int.reduceLE, Int.reduceEq, Int.reduceToNat, Int.reduceBEq]
  rw [bins_add (by omega)]
  simp only [walk, Nat.reduceLT, Nat.reduceBEq, Nat.reduceAdd, Nat.reduceLeDiff, reduceIte, Int.reduceLT, Int.reduceLE, Int.reduceEq, Int.reduceToNat, Int.reduceBEq]
theorem g_pref04_Code (hI : S_i2s (C (F n_pref02_Int))) : S_dCode ((c_pref04_Code F).gives C) := by
  intro d hd
  obtain ⟨a, b⟩ := d
  obtain ⟨h1, h2⟩ := hd
  simp only at h1 h2
  refine gives_of rfl ?_
  unfold c_pref04_Code dCode
  have l1 := pInt_len h1
  have l2 := pInt_len h2
  simp only [walk, Nat.reduceLT, Nat.reduceBEq, Nat.reduceAdd, Nat.reduceLeDiff, reduceIte, Int.reduceLT, Int.reduceLE, Int.reduceEq, Int.reduceToNat, Int.reduceBEq]
  refine callWp_of (hI _ h1) ?_
  simp only [walk, Nat.reduceLT, Nat.reduceBEq, Nat.reduceAdd, Nat.reduceLeDiff, reduceIte, Int.reduceLT, Int.reduceLE, Int.reduceEq, Int.reduceToNat, Int.reduceBEq]
  refine callWp_of (hI _ h2) ?_
  simp only [walk, Nat.reduceLT, Nat.reduceBEq, Nat.reduceAdd, Nat.reduceLeDiff, reduceIte, Int.reduceLT, Int.reduceLE, Int.reduceEq, Int.reduceToNat, Int.reduceBEq]
  rw [bins_add (by omega)]
  simp only [walk, Nat.reduceLT, Nat.reduceBEq, Nat.reduceAdd, Nat.reduceLeDiff, reduceIte, Int.reduceLT, Int.reduceLE, Int.reduceEq, Int.reduceToNat, Int.reduceBEq]
end
end Go.AR

/-! Operations: those that are named, and the small questions. -/
namespace Go.AR
open Go
section
variable {C : CallRel} {F : Nat → FuncId}
theorem refAt_eq (l : List Ud) (k : Nat) : refAt l k = (rOk (l.getD k z3) && (k == 0 || decide (rcmp (l.getD (k - 1) z3) (l.getD k z3) < 0))) := rfl
theorem g_op_Refs (hR : S_dotOk (C (F n_dot_Right))) (hC : S_rcmp (C (F n_dot_Refs))) : S_refs ((c_op_Refs F).gives C) := by
  intro l hl
  refine gives_of rfl ?_
  unfold c_op_Refs
  simp only [walk, Nat.reduceLT, Nat.reduceBEq, Nat.reduceAdd, Nat.reduceLeDiff, reduceIte, Int.reduceLT, Int.reduceLE, Int.reduceEq, Int.reduceToNat, Int.reduceBEq, uRows_len]
  refine awp_loop_ind (X := Nat) (fun k => ⟨[(0, .val (usP l)), (2, .val (.bool false)), (5, .val (usP l)), (6, .val (.int .i64 l.length)), (7, .val (.int .i64 k))], []⟩)
    (fun k => k ≤ l.length ∧ ∀ j, j < k → refAt l j = true) (fun k => l.length - k) 0 ⟨by omega, by omega⟩ rfl ?_
  rintro R k ⟨hk, hJ⟩ ih
  simp only [walk, Nat.reduceLT, Nat.reduceBEq, Nat.reduceAdd, Nat.reduceLeDiff, reduceIte, Int.reduceLT, Int.reduceLE, Int.reduceEq, Int.reduceToNat, Int.reduceBEq]
  by_cases c : k < l.length
  · have c1 : (k : Int) < l.length := by omega
    have c0 : (0 : Int) ≤ k := by omega
    have e1 : IntKind.i64.wrap ((k : Int) + 1) = ((k + 1 : Nat) : Int) := wrap64 (by omega) (by omega)
    have hat := refAt_eq l k
    have next : refAt l k = true → _ := fun h => ih (k + 1) ⟨by omega, fun j hj => by
      by_cases e : j = k
      · subst e; exact h
      · exact hJ j (by omega)⟩ (by omega)
    have nope : refAt l k = false → refsOk l = false := refsOk_no c
    simp only [walk, Nat.reduceLT, Nat.reduceBEq, Nat.reduceAdd, Nat.reduceLeDiff, reduceIte, Int.reduceLT, Int.reduceLE, Int.reduceEq, Int.reduceToNat, Int.reduceBEq, c1, uRows_get c]
    refine callWp_of (hR (l.getD k z3).1) ?_
    generalize hx : l.getD k z3 = x at *
    have hro : rOk x = (dotOk x.1 && decide (0 ≤ x.2) && decide (x.2 < 16)) := rfl
    cases hd : dotOk x.1 with
    | false =>
      rw [hd] at hro
      simp only [Bool.false_and] at hro
      rw [hro, Bool.false_and] at hat
      by_cases hk0 : (k : Int) > 0
      · have w1 : IntKind.i64.wrap ((k : Int) - 1) = ((k - 1 : Nat) : Int) := by rw [wrap64 (by omega) (by omega)]; omega
        have c3 : ((k - 1 : Nat) : Int) < l.length := by omega
        simp only [walk, Nat.reduceLT, Nat.reduceBEq, Nat.reduceAdd, Nat.reduceLeDiff, reduceIte, Int.reduceLT, Int.reduceLE, Int.reduceEq, Int.reduceToNat, Int.reduceBEq, nope hat, hk0, w1, c3, uRows_get (show k - 1 < l.length by omega)]
      · simp only [walk, Nat.reduceLT, Nat.reduceBEq, Nat.reduceAdd, Nat.reduceLeDiff, reduceIte, Int.reduceLT, Int.reduceLE, Int.reduceEq, Int.reduceToNat, Int.reduceBEq, nope hat, hk0]
    | true =>
      rw [hd] at hro
      simp only [Bool.true_and] at hro
      by_cases d1 : x.2 < 0
      · have : rOk x = false := by rw [hro]; simp; omega
        rw [this, Bool.false_and] at hat
        simp only [walk, Nat.reduceLT, Nat.reduceBEq, Nat.reduceAdd, Nat.reduceLeDiff, reduceIte, Int.reduceLT, Int.reduceLE, Int.reduceEq, Int.reduceToNat, Int.reduceBEq, nope hat, d1]
      · by_cases d2 : x.2 ≥ 16
        · have : rOk x = false := by rw [hro]; simp; omega
          rw [this, Bool.false_and] at hat
          simp only [walk, Nat.reduceLT, Nat.reduceBEq, Nat.reduceAdd, Nat.reduceLeDiff, reduceIte, Int.reduceLT, Int.reduceLE, Int.reduceEq, Int.reduceToNat, Int.reduceBEq, nope hat, d1, d2]
        · have : rOk x = true := by rw [hro]; simp; omega
          rw [this, Bool.true_and] at hat
          by_cases hk0 : (k : Int) > 0
          · have w1 : IntKind.i64.wrap ((k : Int) - 1) = ((k - 1 : Nat) : Int) := by rw [wrap64 (by omega) (by omega)]; omega
            have c3 : ((k - 1 : Nat) : Int) < l.length := by omega
            have k0 : (k == 0) = false := by rw [beq_eq_false_iff_ne]; omega
            rw [k0, Bool.false_or] at hat
            simp only [walk, Nat.reduceLT, Nat.reduceBEq, Nat.reduceAdd, Nat.reduceLeDiff, reduceIte, Int.reduceLT, Int.reduceLE, Int.reduceEq, Int.reduceToNat, Int.reduceBEq, d1, d2, hk0, w1, c3, uRows_get (show k - 1 < l.length by omega)]
            refine callWp_of (hC (l.getD (k - 1) z3) x) ?_
            by_cases d3 : rcmp (l.getD (k - 1) z3) x < 0
            · have d4 : ¬ rcmp (l.getD (k - 1) z3) x ≥ 0 := by omega
              simp only [walk, Nat.reduceLT, Nat.reduceBEq, Nat.reduceAdd, Nat.reduceLeDiff, reduceIte, Int.reduceLT, Int.reduceLE, Int.reduceEq, Int.reduceToNat, Int.reduceBEq, d4, e1]
              exact next (by rw [hat]; simpa using d3)
            · have d4 : rcmp (l.getD (k - 1) z3) x ≥ 0 := by omega
              simp only [walk, Nat.reduceLT, Nat.reduceBEq, Nat.reduceAdd, Nat.reduceLeDiff, reduceIte, Int.reduceLT, Int.reduceLE, Int.reduceEq, Int.reduceToNat, Int.reduceBEq, d4, nope (by rw [hat]; simpa using d3)]
          · have k0 : (k == 0) = true := by rw [beq_iff_eq]; omega
            rw [k0, Bool.true_or] at hat
            simp only [walk, Nat.reduceLT, Nat.reduceBEq, Nat.reduceAdd, Nat.reduceLeDiff, reduceIte, Int.reduceLT, Int.reduceLE, Int.reduceEq, Int.reduceToNat, Int.reduceBEq, d1, d2, hk0, e1]
            exact next hat
  · have c1 : ¬ (k : Int) < l.length := by omega
    have : refsOk l = true := refsOk_iff.2 (fun j hj => hJ j (by omega))
    simp only [walk, Nat.reduceLT, Nat.reduceBEq, Nat.reduceAdd, Nat.reduceLeDiff, reduceIte, Int.reduceLT, Int.reduceLE, Int.reduceEq, Int.reduceToNat, Int.reduceBEq, c1, this]
end
end Go.AR

/-! Operations: the questions. -/
namespace Go.AR
open Go
section
variable {C : CallRel} {F : Nat → FuncId}
abbrev oCells (o : Ov) : List PV := [.int .i64 o.k, ptP o.p, .int .i64 o.v.1, .int .i64 o.v.2.1, .str o.v.2.2, .int .i64 o.am, usP o.rs]
abbrev oP (o : Ov) : PV := .agg (oCells o)
def oOk (o : Ov) : Prop := pOk o.p ∧ o.v.2.2.length ≤ 20000000 ∧ o.rs.length ≤ 2000000
def S_oVal (R : Rel) : Prop := ∀ o : Ov, oOk o → R [.v (oP o)] (.val (.bool (if o.k = 3 ∨ o.k = 5 then decide (o.v = z0) else vOk o.v))) []
def amOk (o : Ov) : Bool := if o.k = 3 then decide (o.am ≠ 0) && (decide (-2147483647 ≤ o.am) && decide (o.am ≤ 2147483647)) else decide (o.am = 0)
def S_oAm (R : Rel) : Prop := ∀ o : Ov, R [.v (oP o)] (.val (.bool (amOk o))) []
def S_oGone (R : Rel) : Prop := ∀ o : Ov, R [.v (oP o)] (.val (.bool (oGone o))) []
def S_oSame (R : Rel) : Prop := ∀ a b : Ov, oOk a → R [.v (oP a), .v (oP b)] (.val (.bool (decide (a = b)))) []
def S_oCheck (R : Rel) : Prop := ∀ o : Ov, oOk o → R [.v (oP o)] (.val (.int .i64 (oCheck o))) []
def S_oShort (R : Rel) : Prop := ∀ o : Ov, R [.v (oP o)] (.val (.bool (oShort o))) []
theorem g_pref11_Refs (hR : S_dotOk (C (F n_pref04_Right))) (hC : S_rcmp (C (F n_pref04_Refs))) : S_refs ((c_pref11_Refs F).gives C) := by
  intro l hl
  refine gives_of rfl ?_
  unfold c_pref11_Refs
  simp only [walk, Nat.reduceLT, Nat.reduceBEq, Nat.reduceAdd, Nat.reduceLeDiff, reduceIte, Int.reduceLT, Int.reduceLE, Int.reduceEq, Int.reduceToNat, Int.reduceBEq, uRows_len]
  refine awp_loop_ind (X := Nat) (fun k => ⟨[(0, .val (usP l)), (2, .val (.bool false)), (3, .val (.int .i64 k))], []⟩)
    (fun k => k ≤ l.length ∧ ∀ j, j < k → refAt l j = true) (fun k => l.length - k) 0 ⟨by omega, by omega⟩ rfl ?_
  rintro R k ⟨hk, hJ⟩ ih
  simp only [walk, Nat.reduceLT, Nat.reduceBEq, Nat.reduceAdd, Nat.reduceLeDiff, reduceIte, Int.reduceLT, Int.reduceLE, Int.reduceEq, Int.reduceToNat, Int.reduceBEq, uRows_len]
  by_cases c : k < l.length
  · have c1 : (k : Int) < l.length := by omega
    have c0 : (0 : Int) ≤ k := by omega
    have e1 : IntKind.i64.wrap ((k : Int) + 1) = ((k + 1 : Nat) : Int) := wrap64 (by omega) (by omega)
    have hat := refAt_eq l k
    have next : refAt l k = true → _ := fun h => ih (k + 1) ⟨by omega, fun j hj => by
      by_cases e : j = k
      · subst e; exact h
      · exact hJ j (by omega)⟩ (by omega)
    have nope : refAt l k = false → refsOk l = false := refsOk_no c
    simp only [walk, Nat.reduceLT, Nat.reduceBEq, Nat.reduceAdd, Nat.reduceLeDiff, reduceIte, Int.reduceLT, Int.reduceLE, Int.reduceEq, Int.reduceToNat, Int.reduceBEq, c1, uRows_get c, uRows_len]
    refine callWp_of (hR (l.getD k z3).1) ?_
    generalize hx : l.getD k z3 = x at *
    have hro : rOk x = (dotOk x.1 && decide (0 ≤ x.2) && decide (x.2 < 16)) := rfl
    have hg := uRows_get c
    rw [hx] at hg
    cases hd : dotOk x.1 with
    | false =>
      rw [hd] at hro
      simp only [Bool.false_and] at hro
      rw [hro, Bool.false_and] at hat
      simp only [walk, Nat.reduceLT, Nat.reduceBEq, Nat.reduceAdd, Nat.reduceLeDiff, reduceIte, Int.reduceLT, Int.reduceLE, Int.reduceEq, Int.reduceToNat, Int.reduceBEq, nope hat, c1, hg, uRows_len]
    | true =>
      rw [hd] at hro
      simp only [Bool.true_and] at hro
      by_cases d1 : x.2 < 0
      · have : rOk x = false := by rw [hro]; simp; omega
        rw [this, Bool.false_and] at hat
        simp only [walk, Nat.reduceLT, Nat.reduceBEq, Nat.reduceAdd, Nat.reduceLeDiff, reduceIte, Int.reduceLT, Int.reduceLE, Int.reduceEq, Int.reduceToNat, Int.reduceBEq, nope hat, d1, c1, hg, uRows_len]
      · by_cases d2 : x.2 > 15
        · have : rOk x = false := by rw [hro]; simp; omega
          rw [this, Bool.false_and] at hat
          simp only [walk, Nat.reduceLT, Nat.reduceBEq, Nat.reduceAdd, Nat.reduceLeDiff, reduceIte, Int.reduceLT, Int.reduceLE, Int.reduceEq, Int.reduceToNat, Int.reduceBEq, nope hat, d1, d2, c1, hg, uRows_len]
        · have : rOk x = true := by rw [hro]; simp; omega
          rw [this, Bool.true_and] at hat
          by_cases hk0 : (k : Int) > 0
          · have w1 : IntKind.i64.wrap ((k : Int) - 1) = ((k - 1 : Nat) : Int) := by rw [wrap64 (by omega) (by omega)]; omega
            have c3 : ((k - 1 : Nat) : Int) < l.length := by omega
            have k0 : (k == 0) = false := by rw [beq_eq_false_iff_ne]; omega
            rw [k0, Bool.false_or] at hat
            simp only [walk, Nat.reduceLT, Nat.reduceBEq, Nat.reduceAdd, Nat.reduceLeDiff, reduceIte, Int.reduceLT, Int.reduceLE, Int.reduceEq, Int.reduceToNat, Int.reduceBEq, d1, d2, hk0, w1, c1, c3, hg, uRows_len, uRows_get (show k - 1 < l.length by omega)]
            refine callWp_of (hC (l.getD (k - 1) z3) x) ?_
            have hcs := rcmp_cases (l.getD (k - 1) z3) x
            by_cases d3 : rcmp (l.getD (k - 1) z3) x < 0
            · have d4 : (rcmp (l.getD (k - 1) z3) x != -1) = false := by
                rw [bne, Bool.not_eq_false', beq_iff_eq]; omega
              simp only [walk, Nat.reduceLT, Nat.reduceBEq, Nat.reduceAdd, Nat.reduceLeDiff, reduceIte, Int.reduceLT, Int.reduceLE, Int.reduceEq, Int.reduceToNat, Int.reduceBEq, d4, e1]
              exact next (by rw [hat]; simpa using d3)
            · have d4 : (rcmp (l.getD (k - 1) z3) x != -1) = true := by
                rw [bne, Bool.not_eq_true', beq_eq_false_iff_ne]; omega
              simp only [walk, Nat.reduceLT, Nat.reduceBEq, Nat.reduceAdd, Nat.reduceLeDiff, reduceIte, Int.reduceLT, Int.reduceLE, Int.reduceEq, Int.reduceToNat, Int.reduceBEq, d4, nope (by rw [hat]; simpa using d3)]
          · have k0 : (k == 0) = true := by rw [beq_iff_eq]; omega
            rw [k0, Bool.true_or] at hat
            simp only [walk, Nat.reduceLT, Nat.reduceBEq, Nat.reduceAdd, Nat.reduceLeDiff, reduceIte, Int.reduceLT, Int.reduceLE, Int.reduceEq, Int.reduceToNat, Int.reduceBEq, d1, d2, hk0, e1, c1, hg, uRows_len]
            exact next hat
  · have c1 : ¬ (k : Int) < l.length := by omega
    have : refsOk l = true := refsOk_iff.2 (fun j hj => hJ j (by omega))
    simp only [walk, Nat.reduceLT, Nat.reduceBEq, Nat.reduceAdd, Nat.reduceLeDiff, reduceIte, Int.reduceLT, Int.reduceLE, Int.reduceEq, Int.reduceToNat, Int.reduceBEq, c1, this]
theorem g_slices_Equal_api_Ref : S_rsame ((c_slices_Equal_api_Ref_api_Ref F).gives C) := by
  intro a b ha
  refine gives_of rfl ?_
  unfold c_slices_Equal_api_Ref_api_Ref
  simp only [walk, Nat.reduceLT, Nat.reduceBEq, Nat.reduceAdd, Nat.reduceLeDiff, reduceIte, Int.reduceLT, Int.reduceLE, Int.reduceEq, Int.reduceToNat, Int.reduceBEq, uRows_len]
  by_cases hl : a.length = b.length
  · have hl' : ((a.length : Int) != (b.length : Int)) = false := by rw [bne, hl]; simp
    simp only [walk, Nat.reduceLT, Nat.reduceBEq, Nat.reduceAdd, Nat.reduceLeDiff, reduceIte, Int.reduceLT, Int.reduceLE, Int.reduceEq, Int.reduceToNat, Int.reduceBEq, hl', uRows_len]
    refine awp_loop_ind (X := Nat) (fun k => ⟨[(0, .val (usP a)), (1, .val (usP b)), (4, .val (.bool false)), (10, .val (.bool false)), (12, .val (.int .i64 a.length)), (13, .val (.int .i64 k))], []⟩)
      (fun k => k ≤ a.length ∧ a.take k = b.take k) (fun k => a.length - k) 0 ⟨by omega, by simp⟩ rfl ?_
    rintro R k ⟨hk, hJ⟩ ih
    simp only [walk, Nat.reduceLT, Nat.reduceBEq, Nat.reduceAdd, Nat.reduceLeDiff, reduceIte, Int.reduceLT, Int.reduceLE, Int.reduceEq, Int.reduceToNat, Int.reduceBEq, uRows_len]
    by_cases c : k < a.length
    · have c1 : (k : Int) < a.length := by omega
      have cb : k < b.length := by omega
      have cb1 : (k : Int) < b.length := by omega
      have c0 : (0 : Int) ≤ k := by omega
      have e1 : IntKind.i64.wrap ((k : Int) + 1) = ((k + 1 : Nat) : Int) := wrap64 (by omega) (by omega)
      have ga : a.getD k z3 = a[k] := by simp [List.getD_eq_getElem?_getD, c]
      have gb : b.getD k z3 = b[k] := by simp [List.getD_eq_getElem?_getD, cb]
      simp only [walk, Nat.reduceLT, Nat.reduceBEq, Nat.reduceAdd, Nat.reduceLeDiff, reduceIte, Int.reduceLT, Int.reduceLE, Int.reduceEq, Int.reduceToNat, Int.reduceBEq, c1, cb1, uRows_get c, uRows_get cb, uRows_len, eq_r, ga, gb]
      by_cases he : a[k] = b[k]
      · simp only [walk, Nat.reduceLT, Nat.reduceBEq, Nat.reduceAdd, Nat.reduceLeDiff, reduceIte, Int.reduceLT, Int.reduceLE, Int.reduceEq, Int.reduceToNat, Int.reduceBEq, he, e1]
        refine ih (k + 1) ⟨by omega, ?_⟩ (by omega)
        rw [List.take_add_one, List.take_add_one, hJ, List.getElem?_eq_getElem c, List.getElem?_eq_getElem cb, he]
      · have hf : ¬ a = b := by
          rintro rfl
          exact he rfl
        simp only [walk, Nat.reduceLT, Nat.reduceBEq, Nat.reduceAdd, Nat.reduceLeDiff, reduceIte, Int.reduceLT, Int.reduceLE, Int.reduceEq, Int.reduceToNat, Int.reduceBEq, he, hf]
    · have c1 : ¬ (k : Int) < a.length := by omega
      rw [List.take_of_length_le (by omega), List.take_of_length_le (by omega)] at hJ
      subst hJ
      simp only [walk, Nat.reduceLT, Nat.reduceBEq, Nat.reduceAdd, Nat.reduceLeDiff, reduceIte, Int.reduceLT, Int.reduceLE, Int.reduceEq, Int.reduceToNat, Int.reduceBEq, c1]
  · have hl' : ((a.length : Int) != (b.length : Int)) = true := by
      rw [bne, Bool.not_eq_true', beq_eq_false_iff_ne]; omega
    have hf : ¬ a = b := by
      rintro rfl
      exact hl rfl
    simp only [walk, Nat.reduceLT, Nat.reduceBEq, Nat.reduceAdd, Nat.reduceLeDiff, reduceIte, Int.reduceLT, Int.reduceLE, Int.reduceEq, Int.reduceToNat, Int.reduceBEq, hl', hf]
end
end Go.AR
