import Derived.Test.YtkankogmljifiaaDoorG26
import Derived.Test.YtkankogmljifiaaDoorG28
set_option linter.all false
/-! Names: the rest, and the laws. -/
namespace Go.AR
open Go
section
variable {C : CallRel} {F : Nat → FuncId}
theorem g_pref03_Runes (hC : S_chr (C (F n_pref03_Char))) : S_runes .i64 ((c_pref03_Runes F).gives C) := by
  intro s hs
  refine gives_of rfl ?_
  unfold c_pref03_Runes
  simp only [walk, Nat.reduceLT, Nat.reduceBEq, Nat.reduceAdd, Nat.reduceLeDiff, reduceIte, Int.reduceLT, Int.reduceLE, Int.reduceEq, Int.reduceToNat, Int.reduceBEq]
  refine awp_loop_ind (X := Nat × List Int) (fun x => ⟨[(0, .val (.str s)), (2, .own 1 []), (3, .val (.bool false)), (4, .own 1 (iRows .i64 x.2)), (5, .val (.int .i64 x.1))], []⟩)
    (fun x => x.1 ≤ s.length ∧ x.2.length ≤ x.1 ∧ runes (s.drop x.1) x.2 = runes s []) (fun x => s.length - x.1) (0, []) ⟨by omega, by simp, rfl⟩ (by simp [iRows]) ?_
  rintro R ⟨k, out⟩ ⟨hk, ho, hJ⟩ ih
  simp only at hk ho hJ
  have hb2 : (out.length + 1) * 8 ≤ 140737488355328 := by omega
  simp only [walk, Nat.reduceLT, Nat.reduceBEq, Nat.reduceAdd, Nat.reduceLeDiff, reduceIte, Int.reduceLT, Int.reduceLE, Int.reduceEq, Int.reduceToNat, Int.reduceBEq]
  by_cases c : k < s.length
  · have hne := drop_lt_ne s k c
    have hle := (chr_le (s.drop k)).1
    rw [List.length_drop] at hle
    have c2 : (k : Int) < s.length := by omega
    have c0 : (0 : Int) ≤ k := by omega
    have c1 : (k : Int) ≤ s.length := by omega
    have hcut : (s.drop k).take (s.length - k) = s.drop k := List.take_of_length_le (by rw [List.length_drop]; omega)
    simp only [walk, Nat.reduceLT, Nat.reduceBEq, Nat.reduceAdd, Nat.reduceLeDiff, reduceIte, Int.reduceLT, Int.reduceLE, Int.reduceEq, Int.reduceToNat, Int.reduceBEq, c2, c0, c1, hcut]
    refine callWp_of (hC (s.drop k) (by rw [List.length_drop]; omega)) ?_
    by_cases h0 : (chr (s.drop k)).2 = 0
    · rw [runes_none _ hne h0] at hJ
      have h0' : (((chr (s.drop k)).2 : Int) == 0) = true := by rw [beq_iff_eq]; omega
      simp only [walk, Nat.reduceLT, Nat.reduceBEq, Nat.reduceAdd, Nat.reduceLeDiff, reduceIte, Int.reduceLT, Int.reduceLE, Int.reduceEq, Int.reduceToNat, Int.reduceBEq, h0', ← hJ, runesP]
    · rw [runes_some _ hne h0, List.drop_drop] at hJ
      have h0' : (((chr (s.drop k)).2 : Int) == 0) = false := by rw [beq_eq_false_iff_ne]; omega
      have e1 : IntKind.i64.wrap ((k : Int) + ((chr (s.drop k)).2 : Int)) = ((k + (chr (s.drop k)).2 : Nat) : Int) := by rw [wrap64 (by omega) (by omega)]; omega
      simp only [walk, Nat.reduceLT, Nat.reduceBEq, Nat.reduceAdd, Nat.reduceLeDiff, reduceIte, Int.reduceLT, Int.reduceLE, Int.reduceEq, Int.reduceToNat, Int.reduceBEq, h0', iRows_len, hb2, e1]
      have step := ih (k + (chr (s.drop k)).2, out ++ [((chr (s.drop k)).1 : Int)]) ⟨by simp only; omega, by simp; omega, hJ⟩ (by simp only; omega)
      rw [← iRows_app] at step
      exact step
  · have c1 : ¬ (k : Int) < s.length := by omega
    rw [List.drop_eq_nil_of_le (by omega), runes_nil] at hJ
    simp only [walk, Nat.reduceLT, Nat.reduceBEq, Nat.reduceAdd, Nat.reduceLeDiff, reduceIte, Int.reduceLT, Int.reduceLE, Int.reduceEq, Int.reduceToNat, Int.reduceBEq, c1, ← hJ, runesP]
theorem g_pref03_Right (hR : S_runes .i64 (C (F n_pref03_Runes))) (hM : S_may .i64 (C (F n_pref03_may))) : S_right ((c_pref03_Right F).gives C) := by
  intro s hs
  refine gives_of rfl ?_
  unfold c_pref03_Right
  simp only [walk, Nat.reduceLT, Nat.reduceBEq, Nat.reduceAdd, Nat.reduceLeDiff, reduceIte, Int.reduceLT, Int.reduceLE, Int.reduceEq, Int.reduceToNat, Int.reduceBEq]
  refine callWp_of (hR s hs) ?_
  unfold rightB
  cases hr : runes s [] with
  | none =>
    simp only [walk, Nat.reduceLT, Nat.reduceBEq, Nat.reduceAdd, Nat.reduceLeDiff, reduceIte, Int.reduceLT, Int.reduceLE, Int.reduceEq, Int.reduceToNat, Int.reduceBEq, runesP]
    refine awp_loop_ind (X := Nat) (fun k => ⟨[(0, .val (.str s)), (2, .val (.bool false)), (3, .val (.sl 1 [])), (4, .val (.bool false)), (5, .val (.int .i64 k))], []⟩) (fun k => k = 0) (fun k => k) 0 rfl rfl ?_
    rintro R k rfl ih
    simp only [walk, Nat.reduceLT, Nat.reduceBEq, Nat.reduceAdd, Nat.reduceLeDiff, reduceIte, Int.reduceLT, Int.reduceLE, Int.reduceEq, Int.reduceToNat, Int.reduceBEq]
  | some l =>
    have hl := runes_len s.length s [] l (Nat.le_refl _) hr
    simp only [List.length_nil, Nat.zero_add] at hl
    simp only [walk, Nat.reduceLT, Nat.reduceBEq, Nat.reduceAdd, Nat.reduceLeDiff, reduceIte, Int.reduceLT, Int.reduceLE, Int.reduceEq, Int.reduceToNat, Int.reduceBEq, runesP, iRows_len]
    refine awp_loop_ind (X := Nat) (fun k => ⟨[(0, .val (.str s)), (2, .val (.bool false)), (3, .val (.sl 1 (iRows .i64 l))), (4, .val (.bool true)), (5, .val (.int .i64 k))], []⟩)
      (fun k => k ≤ l.length ∧ (l.take k).all mayB = true) (fun k => l.length - k) 0 ⟨by omega, by simp⟩ rfl ?_
    rintro R k ⟨hk, hJ⟩ ih
    simp only [walk, Nat.reduceLT, Nat.reduceBEq, Nat.reduceAdd, Nat.reduceLeDiff, reduceIte, Int.reduceLT, Int.reduceLE, Int.reduceEq, Int.reduceToNat, Int.reduceBEq, iRows_len]
    by_cases c : k < l.length
    · have c1 : (k : Int) < l.length := by omega
      have c0 : (0 : Int) ≤ k := by omega
      have e1 : IntKind.i64.wrap ((k : Int) + 1) = ((k + 1 : Nat) : Int) := wrap64 (by omega) (by omega)
      have hg := iRows_get .i64 l k c
      simp only [walk, Nat.reduceLT, Nat.reduceBEq, Nat.reduceAdd, Nat.reduceLeDiff, reduceIte, Int.reduceLT, Int.reduceLE, Int.reduceEq, Int.reduceToNat, Int.reduceBEq, c1, hg]
      refine callWp_of (hM l[k]) ?_
      by_cases hm : mayB l[k] = true
      · simp only [walk, Nat.reduceLT, Nat.reduceBEq, Nat.reduceAdd, Nat.reduceLeDiff, reduceIte, Int.reduceLT, Int.reduceLE, Int.reduceEq, Int.reduceToNat, Int.reduceBEq, hm, e1]
        refine ih (k + 1) ⟨by omega, ?_⟩ (by omega)
        rw [List.take_add_one, List.getElem?_eq_getElem c, List.all_append, hJ]
        simp [hm]
      · have hf : l.all mayB = false := by
          rw [Bool.eq_false_iff]
          intro h
          exact hm (List.all_eq_true.1 h _ (List.getElem_mem c))
        simp only [walk, Nat.reduceLT, Nat.reduceBEq, Nat.reduceAdd, Nat.reduceLeDiff, reduceIte, Int.reduceLT, Int.reduceLE, Int.reduceEq, Int.reduceToNat, Int.reduceBEq, hm, hf]
    · have c1 : ¬ (k : Int) < l.length := by omega
      rw [List.take_of_length_le (by omega)] at hJ
      by_cases h1 : 1 ≤ l.length
      · have h1' : (1 : Int) ≤ l.length := by omega
        by_cases h2 : l.length ≤ 24
        · have h2' : (l.length : Int) ≤ 24 := by omega
          simp only [walk, Nat.reduceLT, Nat.reduceBEq, Nat.reduceAdd, Nat.reduceLeDiff, reduceIte, Int.reduceLT, Int.reduceLE, Int.reduceEq, Int.reduceToNat, Int.reduceBEq, c1, hJ, ge_iff_le, iRows_len, h1', h2', h1, h2]
        · have h2' : ¬ (l.length : Int) ≤ 24 := by omega
          simp only [walk, Nat.reduceLT, Nat.reduceBEq, Nat.reduceAdd, Nat.reduceLeDiff, reduceIte, Int.reduceLT, Int.reduceLE, Int.reduceEq, Int.reduceToNat, Int.reduceBEq, c1, hJ, ge_iff_le, iRows_len, h1', h2', h1, h2]
      · have h1' : ¬ (1 : Int) ≤ l.length := by omega
        simp only [walk, Nat.reduceLT, Nat.reduceBEq, Nat.reduceAdd, Nat.reduceLeDiff, reduceIte, Int.reduceLT, Int.reduceLE, Int.reduceEq, Int.reduceToNat, Int.reduceBEq, c1, hJ, ge_iff_le, iRows_len, h1', h1]
def S_xSame (R : Rel) : Prop := ∀ a b : List (List UInt8), a.length ≤ 20000000 → R [.v (.sl 1 (xRows a)), .v (.sl 1 (xRows b))] (.val (.bool (a == b))) []
theorem xRows_get (l : List (List UInt8)) (i : Nat) (h : i < l.length) : (xRows l)[i]? = some [.str l[i]] := by simp [xRows, h]
theorem g_pref03_Same : S_xSame ((c_pref03_Same F).gives C) := by
  intro a b ha
  refine gives_of rfl ?_
  unfold c_pref03_Same
  simp only [walk, Nat.reduceLT, Nat.reduceBEq, Nat.reduceAdd, Nat.reduceLeDiff, reduceIte, Int.reduceLT, Int.reduceLE, Int.reduceEq, Int.reduceToNat, Int.reduceBEq, xRows_len]
  by_cases hl : a.length = b.length
  · have hl' : ((a.length : Int) != (b.length : Int)) = false := by rw [bne, hl]; simp
    simp only [walk, Nat.reduceLT, Nat.reduceBEq, Nat.reduceAdd, Nat.reduceLeDiff, reduceIte, Int.reduceLT, Int.reduceLE, Int.reduceEq, Int.reduceToNat, Int.reduceBEq, hl']
    refine awp_loop_ind (X := Nat) (fun k => ⟨[(0, .val (.sl 1 (xRows a))), (1, .val (.sl 1 (xRows b))), (4, .val (.bool false)), (5, .val (.int .i64 k)), (10, .val (.bool false))], []⟩)
      (fun k => k ≤ a.length ∧ a.take k = b.take k) (fun k => a.length - k) 0 ⟨by omega, by simp⟩ rfl ?_
    rintro R k ⟨hk, hJ⟩ ih
    simp only [walk, Nat.reduceLT, Nat.reduceBEq, Nat.reduceAdd, Nat.reduceLeDiff, reduceIte, Int.reduceLT, Int.reduceLE, Int.reduceEq, Int.reduceToNat, Int.reduceBEq, xRows_len]
    by_cases c : k < a.length
    · have c1 : (k : Int) < a.length := by omega
      have cb : k < b.length := by omega
      have c0 : (0 : Int) ≤ k := by omega
      have e1 : IntKind.i64.wrap ((k : Int) + 1) = ((k + 1 : Nat) : Int) := wrap64 (by omega) (by omega)
      simp only [walk, Nat.reduceLT, Nat.reduceBEq, Nat.reduceAdd, Nat.reduceLeDiff, reduceIte, Int.reduceLT, Int.reduceLE, Int.reduceEq, Int.reduceToNat, Int.reduceBEq, c1, xRows_get a k c, xRows_get b k cb]
      by_cases he : a[k] = b[k]
      · have he' : (a[k] == b[k]) = true := by rw [beq_iff_eq]; exact he
        simp only [walk, Nat.reduceLT, Nat.reduceBEq, Nat.reduceAdd, Nat.reduceLeDiff, reduceIte, Int.reduceLT, Int.reduceLE, Int.reduceEq, Int.reduceToNat, Int.reduceBEq, he', e1]
        refine ih (k + 1) ⟨by omega, ?_⟩ (by omega)
        rw [List.take_add_one, List.take_add_one, hJ, List.getElem?_eq_getElem c, List.getElem?_eq_getElem cb, he]
      · have he' : (a[k] == b[k]) = false := by rw [beq_eq_false_iff_ne]; exact he
        have hf : (a == b) = false := by
          rw [beq_eq_false_iff_ne]
          rintro rfl
          exact he rfl
        simp only [walk, Nat.reduceLT, Nat.reduceBEq, Nat.reduceAdd, Nat.reduceLeDiff, reduceIte, Int.reduceLT, Int.reduceLE, Int.reduceEq, Int.reduceToNat, Int.reduceBEq, he', hf]
    · have c1 : ¬ (k : Int) < a.length := by omega
      rw [List.take_of_length_le (by omega), List.take_of_length_le (by omega)] at hJ
      subst hJ
      simp only [walk, Nat.reduceLT, Nat.reduceBEq, Nat.reduceAdd, Nat.reduceLeDiff, reduceIte, Int.reduceLT, Int.reduceLE, Int.reduceEq, Int.reduceToNat, Int.reduceBEq, c1, beq_self_eq_true]
  · have hl' : ((a.length : Int) != (b.length : Int)) = true := by
      rw [bne, Bool.not_eq_true', beq_eq_false_iff_ne]; omega
    have hf : (a == b) = false := by
      rw [beq_eq_false_iff_ne]
      rintro rfl
      exact hl rfl
    simp only [walk, Nat.reduceLT, Nat.reduceBEq, Nat.reduceAdd, Nat.reduceLeDiff, reduceIte, Int.reduceLT, Int.reduceLE, Int.reduceEq, Int.reduceToNat, Int.reduceBEq, hl', hf]
end
end Go.AR
