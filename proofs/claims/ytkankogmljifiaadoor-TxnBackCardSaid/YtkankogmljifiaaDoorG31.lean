import Derived.Test.YtkankogmljifiaaDoorG29
import Derived.Test.YtkankogmljifiaaDoorG30
import Derived.Test.YtkankogmljifiaaDoorG08
import Derived.Test.YtkankogmljifiaaDoorG05
set_option linter.all false
/-! Paths, by definition. -/
namespace Go.AR
open Go
def pCheck (p : List (List UInt8)) : Int := if p.length = 0 then 8 else if 8 < p.length then 9 else if p.all rightB = true then 0 else 8
def pShort (p : List (List UInt8)) : Bool := decide (p.length ≤ 12) && p.all fun s => decide (s.length ≤ 120)
def pCode (p : List (List UInt8)) : List UInt8 := pInt p.length ++ (p.map pText).flatten
/-- Parts that are read. -/
def rdTexts : Nat → List UInt8 → Int → List (List UInt8) × List UInt8 × Int
  | 0, s, b => ([], s, b)
  | n + 1, s, b => ((rText s b).1 :: (rdTexts n (rText s b).2.1 (rText s b).2.2).1, (rdTexts n (rText s b).2.1 (rText s b).2.2).2)
def rPath (s : List UInt8) (b : Int) : List (List UInt8) × List UInt8 × Int :=
  let m := rMany 8 s b
  let q := rdTexts m.1.toNat m.2.1 m.2.2
  let e := if q.2.2 = 0 then pCheck q.1 else q.2.2
  (if e = 0 then q.1 else [], q.2.1, e)
end Go.AR

/-! Paths. -/
namespace Go.AR
open Go
section
variable {C : CallRel} {F : Nat → FuncId}
abbrev ptP (p : List (List UInt8)) : PV := .sl 1 (xRows p)
/-- Paths that fit. -/
def pOk (p : List (List UInt8)) : Prop := p.length ≤ 2000000 ∧ ∀ s ∈ p, s.length ≤ 20000000
def S_pSame (R : Rel) : Prop := ∀ a b, pOk a → R [.v (ptP a), .v (ptP b)] (.val (.bool (a == b))) []
def S_pCheck (R : Rel) : Prop := ∀ p, pOk p → R [.v (ptP p)] (.val (.int .i64 (pCheck p))) []
def S_pShort (R : Rel) : Prop := ∀ p, R [.v (ptP p)] (.val (.bool (pShort p))) []
theorem g_slices_Equal : S_pSame ((c_slices_Equal_string_string F).gives C) := by
  intro a b ha
  refine gives_of rfl ?_
  unfold c_slices_Equal_string_string
  have hla := ha.1
  simp only [walk, Nat.reduceLT, Nat.reduceBEq, Nat.reduceAdd, Nat.reduceLeDiff, reduceIte, Int.reduceLT, Int.reduceLE, Int.reduceEq, Int.reduceToNat, Int.reduceBEq, xRows_len]
  by_cases hl : a.length = b.length
  · have hl' : ((a.length : Int) != (b.length : Int)) = false := by rw [bne, hl]; simp
    simp only [walk, Nat.reduceLT, Nat.reduceBEq, Nat.reduceAdd, Nat.reduceLeDiff, reduceIte, Int.reduceLT, Int.reduceLE, Int.reduceEq, Int.reduceToNat, Int.reduceBEq, hl', xRows_len]
    refine awp_loop_ind (X := Nat) (fun k => ⟨[(0, .val (ptP a)), (1, .val (ptP b)), (4, .val (.bool false)), (10, .val (.bool false)), (12, .val (.int .i64 a.length)), (13, .val (.int .i64 k))], []⟩)
      (fun k => k ≤ a.length ∧ a.take k = b.take k) (fun k => a.length - k) 0 ⟨by omega, by simp⟩ rfl ?_
    rintro R k ⟨hk, hJ⟩ ih
    simp only [walk, Nat.reduceLT, Nat.reduceBEq, Nat.reduceAdd, Nat.reduceLeDiff, reduceIte, Int.reduceLT, Int.reduceLE, Int.reduceEq, Int.reduceToNat, Int.reduceBEq, xRows_len]
    by_cases c : k < a.length
    · have c1 : (k : Int) < a.length := by omega
      have cb : k < b.length := by omega
      have c0 : (0 : Int) ≤ k := by omega
      have e1 : IntKind.i64.wrap ((k : Int) + 1) = ((k + 1 : Nat) : Int) := wrap64 (by omega) (by omega)
      simp only [walk, Nat.reduceLT, Nat.reduceBEq, Nat.reduceAdd, Nat.reduceLeDiff, reduceIte, Int.reduceLT, Int.reduceLE, Int.reduceEq, Int.reduceToNat, Int.reduceBEq, c1, xRows_get a k c, xRows_get b k cb]
      by_cases he : a[k] = b[k]
      · have he' : (a[k] == b[k]) = true := by rw [beq_iff_eq]; exact he
        simp only [walk, Nat.reduceLT, Nat.reduceBEq, Nat.reduceAdd, Nat.reduceLeDiff, reduceIte, Int.reduceLT, Int.reduceLE, Int.reduceEq, Int.reduceToNat, Int.reduceBEq, he', e1]
        refine ih (k + 1) ⟨by omega, ?_⟩ (by omega)
        rw [List.take_add_one, List.take_add_one, hJ, List.getElem?_eq_getElem c, List.getElem?_eq_getElem cb, he]
      · have he' : (a[k] == b[k]) = false := by rw [beq_eq_false_iff_ne]; exact he
        have hf : (a == b) = false := by
          rw [beq_eq_false_iff_ne]
          rintro rfl
          exact he rfl
        simp only [walk, Nat.reduceLT, Nat.reduceBEq, Nat.reduceAdd, Nat.reduceLeDiff, reduceIte, Int.reduceLT, Int.reduceLE, Int.reduceEq, Int.reduceToNat, Int.reduceBEq, he', hf]
    · have c1 : ¬ (k : Int) < a.length := by omega
      rw [List.take_of_length_le (by omega), List.take_of_length_le (by omega)] at hJ
      subst hJ
      simp only [walk, Nat.reduceLT, Nat.reduceBEq, Nat.reduceAdd, Nat.reduceLeDiff, reduceIte, Int.reduceLT, Int.reduceLE, Int.reduceEq, Int.reduceToNat, Int.reduceBEq, c1, beq_self_eq_true]
  · have hl' : ((a.length : Int) != (b.length : Int)) = true := by
      rw [bne, Bool.not_eq_true', beq_eq_false_iff_ne]; omega
    have hf : (a == b) = false := by
      rw [beq_eq_false_iff_ne]
      rintro rfl
      exact hl rfl
    simp only [walk, Nat.reduceLT, Nat.reduceBEq, Nat.reduceAdd, Nat.reduceLeDiff, reduceIte, Int.reduceLT, Int.reduceLE, Int.reduceEq, Int.reduceToNat, Int.reduceBEq, hl', hf]
/-- Where the first part stands of which a function says so. -/
def S_notRight (R : Rel) : Prop := ∀ s : List UInt8, s.length ≤ 20000000 → R [.v (.str s)] (.val (.bool (!rightB s))) []
def S_idxF (C : CallRel) (R : Rel) : Prop := ∀ (p : List (List UInt8)) (f : FuncId) (q : List UInt8 → Bool), pOk p → (∀ s ∈ p, C f [.v (.str s)] (.val (.bool (q s))) []) → R [.v (ptP p), .v (.fn f)] (.val (.int .i64 (if p.any q = true then (p.findIdx q : Int) else -1))) []
def S_conF (C : CallRel) (R : Rel) : Prop := ∀ (p : List (List UInt8)) (f : FuncId) (q : List UInt8 → Bool), pOk p → (∀ s ∈ p, C f [.v (.str s)] (.val (.bool (q s))) []) → R [.v (ptP p), .v (.fn f)] (.val (.bool (p.any q))) []
theorem g_slices_IndexFunc : S_idxF C ((c_slices_IndexFunc_string_string F).gives C) := by
  intro p f q hp hq
  refine gives_of rfl ?_
  unfold c_slices_IndexFunc_string_string
  have hl := hp.1
  simp only [walk, Nat.reduceLT, Nat.reduceBEq, Nat.reduceAdd, Nat.reduceLeDiff, reduceIte, Int.reduceLT, Int.reduceLE, Int.reduceEq, Int.reduceToNat, Int.reduceBEq, xRows_len]
  refine awp_loop_ind (X := Nat) (fun k => ⟨[(0, .val (ptP p)), (1, .val (.fn f)), (4, .val (.int .i64 0)), (7, .val (.int .i64 p.length)), (8, .val (.int .i64 k))], []⟩)
    (fun k => k ≤ p.length ∧ ∀ s ∈ p.take k, q s = false) (fun k => p.length - k) 0 ⟨by omega, by simp⟩ rfl ?_
  rintro R k ⟨hk, hJ⟩ ih
  simp only [walk, Nat.reduceLT, Nat.reduceBEq, Nat.reduceAdd, Nat.reduceLeDiff, reduceIte, Int.reduceLT, Int.reduceLE, Int.reduceEq, Int.reduceToNat, Int.reduceBEq]
  by_cases c : k < p.length
  · have c1 : (k : Int) < p.length := by omega
    have c0 : (0 : Int) ≤ k := by omega
    have e1 : IntKind.i64.wrap ((k : Int) + 1) = ((k + 1 : Nat) : Int) := wrap64 (by omega) (by omega)
    simp only [walk, Nat.reduceLT, Nat.reduceBEq, Nat.reduceAdd, Nat.reduceLeDiff, reduceIte, Int.reduceLT, Int.reduceLE, Int.reduceEq, Int.reduceToNat, Int.reduceBEq, c1, xRows_get p k c]
    refine callWp_of (hq p[k] (List.getElem_mem c)) ?_
    cases hqk : q p[k] with
    | true =>
      have ha : p.any q = true := List.any_eq_true.2 ⟨p[k], List.getElem_mem c, hqk⟩
      have hi : p.findIdx q = k := by
        have hsplit : p = p.take k ++ p[k] :: p.drop (k + 1) := by simp
        rw [hsplit, List.findIdx_append]
        have h1 : (p.take k).findIdx q = (p.take k).length := by
          rw [List.findIdx_eq_length]
          intro x hx; rw [hJ x hx]
        rw [h1, List.length_take, Nat.min_eq_left (by omega), if_neg (by omega), List.findIdx_cons, hqk]
        simp
      simp only [walk, Nat.reduceLT, Nat.reduceBEq, Nat.reduceAdd, Nat.reduceLeDiff, reduceIte, Int.reduceLT, Int.reduceLE, Int.reduceEq, Int.reduceToNat, Int.reduceBEq, ha, hi]
    | false =>
      simp only [walk, Nat.reduceLT, Nat.reduceBEq, Nat.reduceAdd, Nat.reduceLeDiff, reduceIte, Int.reduceLT, Int.reduceLE, Int.reduceEq, Int.reduceToNat, Int.reduceBEq, e1]
      refine ih (k + 1) ⟨by omega, fun s hs => ?_⟩ (by omega)
      rw [List.take_add_one, List.getElem?_eq_getElem c] at hs
      rcases List.mem_append.1 hs with hs | hs
      · exact hJ s hs
      · simp at hs; rw [hs]; exact hqk
  · have c1 : ¬ (k : Int) < p.length := by omega
    rw [List.take_of_length_le (by omega)] at hJ
    have ha : p.any q = false := by
      rw [Bool.eq_false_iff]; intro h
      obtain ⟨s, hs, h⟩ := List.any_eq_true.1 h
      rw [hJ s hs] at h; cases h
    simp only [walk, Nat.reduceLT, Nat.reduceBEq, Nat.reduceAdd, Nat.reduceLeDiff, reduceIte, Int.reduceLT, Int.reduceLE, Int.reduceEq, Int.reduceToNat, Int.reduceBEq, c1, ha]
theorem g_slices_ContainsFunc (hI : S_idxF C (C (F n_slices_IndexFunc_string_string))) : S_conF C ((c_slices_ContainsFunc_string_string F).gives C) := by
  intro p f q hp hq
  refine gives_of rfl ?_
  unfold c_slices_ContainsFunc_string_string
  simp only [walk, Nat.reduceLT, Nat.reduceBEq, Nat.reduceAdd, Nat.reduceLeDiff, reduceIte, Int.reduceLT, Int.reduceLE, Int.reduceEq, Int.reduceToNat, Int.reduceBEq]
  refine callWp_of (hI p f q hp hq) ?_
  cases ha : p.any q with
  | true =>
    have h0 : (0 : Int) ≤ (p.findIdx q : Int) := by omega
    simp only [walk, Nat.reduceLT, Nat.reduceBEq, Nat.reduceAdd, Nat.reduceLeDiff, reduceIte, Int.reduceLT, Int.reduceLE, Int.reduceEq, Int.reduceToNat, Int.reduceBEq, ge_iff_le]
  | false => simp only [walk, Nat.reduceLT, Nat.reduceBEq, Nat.reduceAdd, Nat.reduceLeDiff, reduceIte, Int.reduceLT, Int.reduceLE, Int.reduceEq, Int.reduceToNat, Int.reduceBEq, ge_iff_le]
theorem g_path_Check_1 (h : S_right (C (F n_name_Right))) : S_notRight ((c_path_Check_1 F).gives C) := by
  intro s hs
  refine gives_of rfl ?_
  unfold c_path_Check_1
  simp only [walk, Nat.reduceLT, Nat.reduceBEq, Nat.reduceAdd, Nat.reduceLeDiff, reduceIte, Int.reduceLT, Int.reduceLE, Int.reduceEq, Int.reduceToNat, Int.reduceBEq]
  refine callWp_of (h s hs) ?_
  simp only [walk, Nat.reduceLT, Nat.reduceBEq, Nat.reduceAdd, Nat.reduceLeDiff, reduceIte, Int.reduceLT, Int.reduceLE, Int.reduceEq, Int.reduceToNat, Int.reduceBEq]
theorem any_not (p : List (List UInt8)) : (p.any fun s => !rightB s) = !p.all rightB := by
  induction p with
  | nil => rfl
  | cons s p ih => simp only [List.any_cons, List.all_cons, ih]; cases rightB s <;> simp
theorem g_path_Check (hC : S_conF C (C (F n_slices_ContainsFunc_string_string))) (hR : S_notRight (C (F n_path_Check_1))) : S_pCheck ((c_path_Check F).gives C) := by
  intro p hp
  refine gives_of rfl ?_
  unfold c_path_Check pCheck
  simp only [walk, Nat.reduceLT, Nat.reduceBEq, Nat.reduceAdd, Nat.reduceLeDiff, reduceIte, Int.reduceLT, Int.reduceLE, Int.reduceEq, Int.reduceToNat, Int.reduceBEq, xRows_len, gt_iff_lt]
  by_cases h0 : p.length = 0
  · have h0' : ((p.length : Int) == 0) = true := by rw [beq_iff_eq]; omega
    simp only [walk, Nat.reduceLT, Nat.reduceBEq, Nat.reduceAdd, Nat.reduceLeDiff, reduceIte, Int.reduceLT, Int.reduceLE, Int.reduceEq, Int.reduceToNat, Int.reduceBEq, h0', h0]
  · have h0' : ((p.length : Int) == 0) = false := by rw [beq_eq_false_iff_ne]; omega
    by_cases h8 : 8 < p.length
    · have h8' : (8 : Int) < p.length := by omega
      simp only [walk, Nat.reduceLT, Nat.reduceBEq, Nat.reduceAdd, Nat.reduceLeDiff, reduceIte, Int.reduceLT, Int.reduceLE, Int.reduceEq, Int.reduceToNat, Int.reduceBEq, h0', h0, xRows_len, h8', h8]
    · have h8' : ¬ (8 : Int) < p.length := by omega
      simp only [walk, Nat.reduceLT, Nat.reduceBEq, Nat.reduceAdd, Nat.reduceLeDiff, reduceIte, Int.reduceLT, Int.reduceLE, Int.reduceEq, Int.reduceToNat, Int.reduceBEq, h0', h0, xRows_len, h8', h8]
      refine callWp_of (hC p _ (fun s => !rightB s) hp (fun s hs => hR s (hp.2 s hs))) ?_
      rw [any_not]
      cases ha : p.all rightB <;> simp only [walk, Nat.reduceLT, Nat.reduceBEq, Nat.reduceAdd, Nat.reduceLeDiff, reduceIte, Int.reduceLT, Int.reduceLE, Int.reduceEq, Int.reduceToNat, Int.reduceBEq]
theorem g_pref10_Check (hR : S_right (C (F n_pref03_Right))) : S_pCheck ((c_pref10_Check F).gives C) := by
  intro p hp
  refine gives_of rfl ?_
  unfold c_pref10_Check pCheck
  simp only [walk, Nat.reduceLT, Nat.reduceBEq, Nat.reduceAdd, Nat.reduceLeDiff, reduceIte, Int.reduceLT, Int.reduceLE, Int.reduceEq, Int.reduceToNat, Int.reduceBEq, xRows_len, gt_iff_lt]
  by_cases h0 : p.length = 0
  · have h0' : ((p.length : Int) == 0) = true := by rw [beq_iff_eq]; omega
    simp only [walk, Nat.reduceLT, Nat.reduceBEq, Nat.reduceAdd, Nat.reduceLeDiff, reduceIte, Int.reduceLT, Int.reduceLE, Int.reduceEq, Int.reduceToNat, Int.reduceBEq, h0', h0]
  · have h0' : ((p.length : Int) == 0) = false := by rw [beq_eq_false_iff_ne]; omega
    by_cases h8 : 8 < p.length
    · have h8' : (8 : Int) < p.length := by omega
      simp only [walk, Nat.reduceLT, Nat.reduceBEq, Nat.reduceAdd, Nat.reduceLeDiff, reduceIte, Int.reduceLT, Int.reduceLE, Int.reduceEq, Int.reduceToNat, Int.reduceBEq, h0', h0, xRows_len, h8', h8]
    · have h8' : ¬ (8 : Int) < p.length := by omega
      simp only [walk, Nat.reduceLT, Nat.reduceBEq, Nat.reduceAdd, Nat.reduceLeDiff, reduceIte, Int.reduceLT, Int.reduceLE, Int.reduceEq, Int.reduceToNat, Int.reduceBEq, h0', h0, xRows_len, h8', h8]
      refine awp_loop_ind (X := Nat) (fun k => ⟨[(0, .val (ptP p)), (2, .val (.int .i64 0)), (3, .val (.int .i64 k)), (6, .val (.bool false)), (9, .val (.bool false))], []⟩)
        (fun k => k ≤ p.length ∧ (p.take k).all rightB = true) (fun k => p.length - k) 0 ⟨by omega, by simp⟩ rfl ?_
      rintro R k ⟨hk, hJ⟩ ih
      simp only [walk, Nat.reduceLT, Nat.reduceBEq, Nat.reduceAdd, Nat.reduceLeDiff, reduceIte, Int.reduceLT, Int.reduceLE, Int.reduceEq, Int.reduceToNat, Int.reduceBEq, xRows_len]
      by_cases c : k < p.length
      · have c1 : (k : Int) < p.length := by omega
        have c0 : (0 : Int) ≤ k := by omega
        have e1 : IntKind.i64.wrap ((k : Int) + 1) = ((k + 1 : Nat) : Int) := wrap64 (by omega) (by omega)
        simp only [walk, Nat.reduceLT, Nat.reduceBEq, Nat.reduceAdd, Nat.reduceLeDiff, reduceIte, Int.reduceLT, Int.reduceLE, Int.reduceEq, Int.reduceToNat, Int.reduceBEq, c1, xRows_get p k c]
        refine callWp_of (hR p[k] (hp.2 _ (List.getElem_mem c))) ?_
        cases hr : rightB p[k] with
        | true =>
          simp only [walk, Nat.reduceLT, Nat.reduceBEq, Nat.reduceAdd, Nat.reduceLeDiff, reduceIte, Int.reduceLT, Int.reduceLE, Int.reduceEq, Int.reduceToNat, Int.reduceBEq, e1]
          refine ih (k + 1) ⟨by omega, ?_⟩ (by omega)
          rw [List.take_add_one, List.getElem?_eq_getElem c, List.all_append, hJ]
          simp [hr]
        | false =>
          have hf : p.all rightB = false := by
            rw [Bool.eq_false_iff]; intro h
            have := List.all_eq_true.1 h _ (List.getElem_mem c)
            rw [hr] at this; cases this
          simp only [walk, Nat.reduceLT, Nat.reduceBEq, Nat.reduceAdd, Nat.reduceLeDiff, reduceIte, Int.reduceLT, Int.reduceLE, Int.reduceEq, Int.reduceToNat, Int.reduceBEq, hf]
      · have c1 : ¬ (k : Int) < p.length := by omega
        rw [List.take_of_length_le (by omega)] at hJ
        simp only [walk, Nat.reduceLT, Nat.reduceBEq, Nat.reduceAdd, Nat.reduceLeDiff, reduceIte, Int.reduceLT, Int.reduceLE, Int.reduceEq, Int.reduceToNat, Int.reduceBEq, c1, hJ]
theorem g_pref10_Short : S_pShort ((c_pref10_Short F).gives C) := by
  intro p
  refine gives_of rfl ?_
  unfold c_pref10_Short pShort
  simp only [walk, Nat.reduceLT, Nat.reduceBEq, Nat.reduceAdd, Nat.reduceLeDiff, reduceIte, Int.reduceLT, Int.reduceLE, Int.reduceEq, Int.reduceToNat, Int.reduceBEq, xRows_len, gt_iff_lt]
  by_cases h12 : 12 < p.length
  · have h12' : (12 : Int) < p.length := by omega
    have h12'' : ¬ p.length ≤ 12 := by omega
    simp only [walk, Nat.reduceLT, Nat.reduceBEq, Nat.reduceAdd, Nat.reduceLeDiff, reduceIte, Int.reduceLT, Int.reduceLE, Int.reduceEq, Int.reduceToNat, Int.reduceBEq, h12', h12'']
  · have h12' : ¬ (12 : Int) < p.length := by omega
    have h12'' : p.length ≤ 12 := by omega
    simp only [walk, Nat.reduceLT, Nat.reduceBEq, Nat.reduceAdd, Nat.reduceLeDiff, reduceIte, Int.reduceLT, Int.reduceLE, Int.reduceEq, Int.reduceToNat, Int.reduceBEq, h12', h12'']
    refine awp_loop_ind (X := Nat) (fun k => ⟨[(0, .val (ptP p)), (2, .val (.bool false)), (3, .val (.int .i64 k)), (6, .val (.bool false))], []⟩)
      (fun k => k ≤ p.length ∧ ((p.take k).all fun s => decide (s.length ≤ 120)) = true) (fun k => p.length - k) 0 ⟨by omega, by simp⟩ rfl ?_
    rintro R k ⟨hk, hJ⟩ ih
    simp only [walk, Nat.reduceLT, Nat.reduceBEq, Nat.reduceAdd, Nat.reduceLeDiff, reduceIte, Int.reduceLT, Int.reduceLE, Int.reduceEq, Int.reduceToNat, Int.reduceBEq, xRows_len]
    by_cases c : k < p.length
    · have c1 : (k : Int) < p.length := by omega
      have c0 : (0 : Int) ≤ k := by omega
      have e1 : IntKind.i64.wrap ((k : Int) + 1) = ((k + 1 : Nat) : Int) := wrap64 (by omega) (by omega)
      simp only [walk, Nat.reduceLT, Nat.reduceBEq, Nat.reduceAdd, Nat.reduceLeDiff, reduceIte, Int.reduceLT, Int.reduceLE, Int.reduceEq, Int.reduceToNat, Int.reduceBEq, c1, xRows_get p k c, gt_iff_lt]
      by_cases hl : 120 < p[k].length
      · have hl' : (120 : Int) < p[k].length := by omega
        have hf : (p.all fun s => decide (s.length ≤ 120)) = false := by
          rw [Bool.eq_false_iff]; intro h
          have := List.all_eq_true.1 h _ (List.getElem_mem c)
          simp at this; omega
        simp only [walk, Nat.reduceLT, Nat.reduceBEq, Nat.reduceAdd, Nat.reduceLeDiff, reduceIte, Int.reduceLT, Int.reduceLE, Int.reduceEq, Int.reduceToNat, Int.reduceBEq, hl', hf]
      · have hl' : ¬ (120 : Int) < p[k].length := by omega
        simp only [walk, Nat.reduceLT, Nat.reduceBEq, Nat.reduceAdd, Nat.reduceLeDiff, reduceIte, Int.reduceLT, Int.reduceLE, Int.reduceEq, Int.reduceToNat, Int.reduceBEq, hl', e1]
        refine ih (k + 1) ⟨by omega, ?_⟩ (by omega)
        rw [List.take_add_one, List.getElem?_eq_getElem c, List.all_append, hJ]
        simp; omega
    · have c1 : ¬ (k : Int) < p.length := by omega
      rw [List.take_of_length_le (by omega)] at hJ
      simp only [walk, Nat.reduceLT, Nat.reduceBEq, Nat.reduceAdd, Nat.reduceLeDiff, reduceIte, Int.reduceLT, Int.reduceLE, Int.reduceEq, Int.reduceToNat, Int.reduceBEq, c1, hJ]
end
end Go.AR

/-! Operations, by definition. -/
namespace Go.AR
open Go
/-- Which named operation stands first. -/
def rcmp (a b : Ud) : Int := if dcmp a.1 b.1 ≠ 0 then dcmp a.1 b.1 else icmp a.2 b.2
theorem rcmp_cases (a b : Ud) : rcmp a b = -1 ∨ rcmp a b = 0 ∨ rcmp a b = 1 := by
  unfold rcmp
  rcases dcmp_cases a.1 b.1 with ⟨h, k⟩ | ⟨h, k⟩ | ⟨h, k⟩
  · rw [h]; exact .inl rfl
  · rw [h, if_neg (by simp)]; unfold icmp; split
    · exact .inl rfl
    · split
      · exact .inr (.inr rfl)
      · exact .inr (.inl rfl)
  · rw [h]; exact .inr (.inr rfl)
def rOk (r : Ud) : Bool := dotOk r.1 && decide (0 ≤ r.2) && decide (r.2 < 16)
def refAt (l : List Ud) (j : Nat) : Bool := rOk (l.getD j z3) && (j == 0 || decide (rcmp (l.getD (j - 1) z3) (l.getD j z3) < 0))
def refsOk (l : List Ud) : Bool := (List.range l.length).all (refAt l)
theorem refsOk_iff {l : List Ud} : refsOk l = true ↔ ∀ j, j < l.length → refAt l j = true := by simp [refsOk, List.all_eq_true]
theorem refsOk_no {l : List Ud} {j : Nat} (hj : j < l.length) (h : refAt l j = false) : refsOk l = false := by
  rw [← Bool.not_eq_true, refsOk_iff]
  intro k
  rw [k j hj] at h; cases h
abbrev Vl := Int × Int × List UInt8
def z0 : Vl := (0, 0, [])
def vOk (v : Vl) : Bool :=
  if v.1 = 1 then decide (v.2.2 = []) && decide (-2147483647 ≤ v.2.1) && decide (v.2.1 ≤ 2147483647)
  else if v.1 = 2 then (runes v.2.2 []).isSome && decide (v.2.1 = 0) && decide (v.2.2.length ≤ 64)
  else decide (v.1 = 3) && decide (v.2.2 = []) && decide (0 ≤ v.2.1) && decide (v.2.1 ≤ 1)
def fold (n : Int) : Int := if n < 0 then -2 * n - 1 else 2 * n
def unfoldI (n : Int) : Int := if n % 2 = 1 then - ((n + 1) / 2) else n / 2
def vCode (v : Vl) : List UInt8 := if v.1 = 2 then pInt 2 ++ pText v.2.2 else pInt v.1 ++ pInt (fold v.2.1)
def dCode (d : Dt) : List UInt8 := pInt d.1 ++ pInt d.2
def rCode (r : Ud) : List UInt8 := dCode r.1 ++ pInt r.2
structure Ov where
  k : Int
  p : List (List UInt8)
  v : Vl
  am : Int
  rs : List Ud
deriving DecidableEq
def zop : Ov := ⟨0, [], z0, 0, []⟩
def oGone (o : Ov) : Bool := decide (o = zop)
def oCheck (o : Ov) : Int :=
  if o.k < 1 ∨ o.k > 5 then 18 else if pCheck o.p ≠ 0 then pCheck o.p
  else if (o.k = 3 ∨ o.k = 5) ∧ o.v ≠ z0 then 2 else if (o.k ≠ 3 ∧ o.k ≠ 5) ∧ vOk o.v = false then 2
  else if (o.k ≠ 3 ∧ o.am ≠ 0) ∨ (o.k = 3 ∧ (o.am = 0 ∨ o.am > 2147483647 ∨ o.am < -2147483647)) then 2
  else if (o.k = 2 ∨ o.k = 3) ∧ o.rs.length > 0 then 2 else if o.rs.length > 256 then 7 else if refsOk o.rs = false then 2 else 0
def oShort (o : Ov) : Bool := pShort o.p && decide (o.v.2.2.length ≤ 200) && decide (o.rs.length ≤ 300)
def rsCode (l : List Ud) : List UInt8 := pInt l.length ++ (l.map rCode).flatten
def oCode (o : Ov) : List UInt8 := pInt o.k ++ if oGone o = true then [] else
  pCode o.p ++ if o.k = 3 then pInt (fold o.am) else (if o.k = 5 then [] else vCode o.v) ++ if o.k = 2 then [] else rsCode o.rs
def rdDot (s : List UInt8) (b : Int) : Dt × List UInt8 × Int :=
  let x := rI s b; let y := rI x.2.1 x.2.2
  let e := if y.2.2 = 0 ∧ dotOk (x.1, y.1) = false then 2 else y.2.2
  (if e = 0 then (x.1, y.1) else (0, 0), y.2.1, e)
def rdVal (s : List UInt8) (b : Int) : Vl × List UInt8 × Int :=
  let x := rI s b
  let q : Vl × List UInt8 × Int := if x.1 = 2 then let t := rText x.2.1 x.2.2; ((2, 0, t.1), t.2) else let n := rI x.2.1 x.2.2; ((x.1, unfoldI n.1, []), n.2)
  let e := if q.2.2 = 0 ∧ vOk q.1 = false then 2 else q.2.2
  (if e = 0 then q.1 else z0, q.2.1, e)
def rdRefs : Nat → List UInt8 → Int → List Ud × List UInt8 × Int
  | 0, s, b => ([], s, b)
  | n + 1, s, b => let d := rdDot s b; let k := rI d.2.1 d.2.2; let r := rdRefs n k.2.1 k.2.2; ((d.1, k.1) :: r.1, r.2)
def rdSeen (s : List UInt8) (b : Int) : List Ud × List UInt8 × Int := let m := rMany 256 s b; rdRefs m.1.toNat m.2.1 m.2.2
/-- An operation's inside, as its kind asks. -/
def rdIn (k : Int) (p : List (List UInt8)) (s : List UInt8) (b : Int) : Ov × List UInt8 × Int :=
  if k = 3 then let n := rI s b; (⟨3, p, z0, unfoldI n.1, []⟩, n.2)
  else if k = 1 ∨ k = 4 then let v := rdVal s b; let r := rdSeen v.2.1 v.2.2; (⟨k, p, v.1, 0, r.1⟩, r.2)
  else if k = 2 then let v := rdVal s b; (⟨2, p, v.1, 0, []⟩, v.2)
  else if k = 5 then let r := rdSeen s b; (⟨5, p, z0, 0, r.1⟩, r.2)
  else (⟨k, p, z0, 0, []⟩, s, b)
def rdOp (s : List UInt8) (b : Int) : Ov × List UInt8 × Int :=
  let x := rI s b
  if x.1 = 0 then (zop, x.2) else
  let p := rPath x.2.1 x.2.2
  let q := rdIn x.1 p.1 p.2.1 p.2.2
  let e := if q.2.2 = 0 then oCheck q.1 else q.2.2
  (if e = 0 then q.1 else zop, q.2.1, e)
end Go.AR
