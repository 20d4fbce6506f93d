import Derived.Test.YtfipbmlnklmjoaaDoorG27
import Derived.Test.YtfipbmlnklmjoaaDoorG29
import Derived.Test.YtfipbmlnklmjoaaDoorG30
set_option linter.all false
/-! Names: the rest, and the laws. -/
namespace Go.AR
open Go
section
variable {C : CallRel} {F : Nat → FuncId}
theorem g_pref03_Runes (hC : S_chr (C (F n_pref03_Char))) : S_runes .i64 ((c_pref03_Runes F).gives C) := by
  intro s hs
  refine gives_of rfl ?_
  unfold c_pref03_Runes
  simp only [walk, Nat.reduceLT, Nat.reduceBEq, Nat.reduceAdd, Nat.reduceLeDiff, reduceIte, Int.reduceLT, Int.reduceLE, Int.reduceEq, Int.reduceToNat, Int.reduceBEq]
  refine awp_loop_ind (X := Nat × List Int) (fun x => ⟨[(0, .val (.str s)), (2, .own 1 []), (3, .val (.bool false)), (4, .own 1 (iRows .i64 x.2)), (5, .val (.int .i64 x.1))], []⟩)
    (fun x => x.1 ≤ s.length ∧ x.2.length ≤ x.1 ∧ runes (s.drop x.1) x.2 = runes s []) (fun x => s.length - x.1) (0, []) ⟨by omega, by simp, rfl⟩ (by simp [iRows]) ?_
  rintro R ⟨k, out⟩ ⟨hk, ho, hJ⟩ ih
  simp only at hk ho hJ
  have hb2 : (out.length + 1) * 8 ≤ 140737488355328 := by omega
  simp only [walk, Nat.reduceLT, Nat.reduceBEq, Nat.reduceAdd, Nat.reduceLeDiff, reduceIte, Int.reduceLT, Int.reduceLE, Int.reduceEq, Int.reduceToNat, Int.reduceBEq]
  by_cases c : k < s.length
  · have hne := drop_lt_ne s k c
    have hle := (chr_le (s.drop k)).1
    rw [List.length_drop] at hle
    have c2 : (k : Int) < s.length := by omega
    have c0 : (0 : Int) ≤ k := by omega
    have c1 : (k : Int) ≤ s.length := by omega
    have hcut : (s.drop k).take (s.length - k) = s.drop k := List.take_of_length_le (by rw [List.length_drop]; omega)
    simp only [walk, Nat.reduceLT, Nat.reduceBEq, Nat.reduceAdd, Nat.reduceLeDiff, reduceIte, Int.reduceLT, Int.reduceLE, Int.reduceEq, Int.reduceToNat, Int.reduceBEq, c2, c0, c1, hcut]
    refine callWp_of (hC (s.drop k) (by rw [List.length_drop]; omega)) ?_
    by_cases h0 : (chr (s.drop k)).2 = 0
    · rw [runes_none _ hne h0] at hJ
      have h0' : (((chr (s.drop k)).2 : Int) == 0) = true := by rw [beq_iff_eq]; omega
      simp only [walk, Nat.reduceLT, Nat.reduceBEq, Nat.reduceAdd, Nat.reduceLeDiff, reduceIte, Int.reduceLT, Int.reduceLE, Int.reduceEq, Int.reduceToNat, Int.reduceBEq, h0', ← hJ, runesP]
    · rw [runes_some _ hne h0, List.drop_drop] at hJ
      have h0' : (((chr (s.drop k)).2 : Int) == 0) = false := by rw [beq_eq_false_iff_ne]; omega
      have e1 : IntKind.i64.wrap ((k : Int) + ((chr (s.drop k)).2 : Int)) = ((k + (chr (s.drop k)).2 : Nat) : Int) := by rw [wrap64 (by omega) (by omega)]; omega
      simp only [walk, Nat.reduceLT, Nat.reduceBEq, Nat.reduceAdd, Nat.reduceLeDiff, reduceIte, Int.reduceLT, Int.reduceLE, Int.reduceEq, Int.reduceToNat, Int.reduceBEq, h0', iRows_len, hb2, e1]
      have step := ih (k + (chr (s.drop k)).2, out ++ [((chr (s.drop k)).1 : Int)]) ⟨by simp only; omega, by simp; omega, hJ⟩ (by simp only; omega)
      rw [← iRows_app] at step
      exact step
  · have c1 : ¬ (k : Int) < s.length := by omega
    rw [List.drop_eq_nil_of_le (by omega), runes_nil] at hJ
    simp only [walk, Nat.reduceLT, Nat.reduceBEq, Nat.reduceAdd, Nat.reduceLeDiff, reduceIte, Int.reduceLT, Int.reduceLE, Int.reduceEq, Int.reduceToNat, Int.reduceBEq, c1, ← hJ, runesP]
theorem g_pref03_Right (hR : S_runes .i64 (C (F n_pref03_Runes))) (hM : S_may .i64 (C (F n_pref03_may))) : S_right ((c_pref03_Right F).gives C) := by
  intro s hs
  refine gives_of rfl ?_
  unfold c_pref03_Right
  simp only [walk, Nat.reduceLT, Nat.reduceBEq, Nat.reduceAdd, Nat.reduceLeDiff, reduceIte, Int.reduceLT, Int.reduceLE, Int.reduceEq, Int.reduceToNat, Int.reduceBEq]
  refine callWp_of (hR s hs) ?_
  unfold rightB
  cases hr : runes s [] with
  | none =>
    simp only [walk, Nat.reduceLT, Nat.reduceBEq, Nat.reduceAdd, Nat.reduceLeDiff, reduceIte, Int.reduceLT, Int.reduceLE, Int.reduceEq, Int.reduceToNat, Int.reduceBEq, runesP]
    refine awp_loop_ind (X := Nat) (fun k => ⟨[(0, .val (.str s)), (2, .val (.bool false)), (3, .val (.sl 1 [])), (4, .val (.bool false)), (5, .val (.int .i64 k))], []⟩) (fun k => k = 0) (fun k => k) 0 rfl rfl ?_
    rintro R k rfl ih
    simp only [walk, Nat.reduceLT, Nat.reduceBEq, Nat.reduceAdd, Nat.reduceLeDiff, reduceIte, Int.reduceLT, Int.reduceLE, Int.reduceEq, Int.reduceToNat, Int.reduceBEq]
  | some l =>
    have hl := runes_len s.length s [] l (Nat.le_refl _) hr
    simp only [List.length_nil, Nat.zero_add] at hl
    simp only [walk, Nat.reduceLT, Nat.reduceBEq, Nat.reduceAdd, Nat.reduceLeDiff, reduceIte, Int.reduceLT, Int.reduceLE, Int.reduceEq, Int.reduceToNat, Int.reduceBEq, runesP, iRows_len]
    refine awp_loop_ind (X := Nat) (fun k => ⟨[(0, .val (.str s)), (2, .val (.bool false)), (3, .val (.sl 1 (iRows .i64 l))), (4, .val (.bool true)), (5, .val (.int .i64 k))], []⟩)
      (fun k => k ≤ l.length ∧ (l.take k).all mayB = true) (fun k => l.length - k) 0 ⟨by omega, by simp⟩ rfl ?_
    rintro R k ⟨hk, hJ⟩ ih
    simp only [walk, Nat.reduceLT, Nat.reduceBEq, Nat.reduceAdd, Nat.reduceLeDiff, reduceIte, Int.reduceLT, Int.reduceLE, Int.reduceEq, Int.reduceToNat, Int.reduceBEq, iRows_len]
    by_cases c : k < l.length
    · have c1 : (k : Int) < l.length := by omega
      have c0 : (0 : Int) ≤ k := by omega
      have e1 : IntKind.i64.wrap ((k : Int) + 1) = ((k + 1 : Nat) : Int) := wrap64 (by omega) (by omega)
      have hg := iRows_get .i64 l k c
      simp only [walk, Nat.reduceLT, Nat.reduceBEq, Nat.reduceAdd, Nat.reduceLeDiff, reduceIte, Int.reduceLT, Int.reduceLE, Int.reduceEq, Int.reduceToNat, Int.reduceBEq, c1, hg]
      refine callWp_of (hM l[k]) ?_
      by_cases hm : mayB l[k] = true
      · simp only [walk, Nat.reduceLT, Nat.reduceBEq, Nat.reduceAdd, Nat.reduceLeDiff, reduceIte, Int.reduceLT, Int.reduceLE, Int.reduceEq, Int.reduceToNat, Int.reduceBEq, hm, e1]
        refine ih (k + 1) ⟨by omega, ?_⟩ (by omega)
        rw [List.take_add_one, List.getElem?_eq_getElem c, List.all_append, hJ]
        simp [hm]
      · have hf : l.all mayB = false := by
          rw [Bool.eq_false_iff]
          intro h
          exact hm (List.all_eq_true.1 h _ (List.getElem_mem c))
        simp only [walk, Nat.reduceLT, Nat.reduceBEq, Nat.reduceAdd, Nat.reduceLeDiff, reduceIte, Int.reduceLT, Int.reduceLE, Int.reduceEq, Int.reduceToNat, Int.reduceBEq, hm, hf]
    · have c1 : ¬ (k : Int) < l.length := by omega
      rw [List.take_of_length_le (by omega)] at hJ
      by_cases h1 : 1 ≤ l.length
      · have h1' : (1 : Int) ≤ l.length := by omega
        by_cases h2 : l.length ≤ 24
        · have h2' : (l.length : Int) ≤ 24 := by omega
          simp only [walk, Nat.reduceLT, Nat.reduceBEq, Nat.reduceAdd, Nat.reduceLeDiff, reduceIte, Int.reduceLT, Int.reduceLE, Int.reduceEq, Int.reduceToNat, Int.reduceBEq, c1, hJ, ge_iff_le, iRows_len, h1', h2', h1, h2]
        · have h2' : ¬ (l.length : Int) ≤ 24 := by omega
          simp only [walk, Nat.reduceLT, Nat.reduceBEq, Nat.reduceAdd, Nat.reduceLeDiff, reduceIte, Int.reduceLT, Int.reduceLE, Int.reduceEq, Int.reduceToNat, Int.reduceBEq, c1, hJ, ge_iff_le, iRows_len, h1', h2', h1, h2]
      · have h1' : ¬ (1 : Int) ≤ l.length := by omega
        simp only [walk, Nat.reduceLT, Nat.reduceBEq, Nat.reduceAdd, Nat.reduceLeDiff, reduceIte, Int.reduceLT, Int.reduceLE, Int.reduceEq, Int.reduceToNat, Int.reduceBEq, c1, hJ, ge_iff_le, iRows_len, h1', h1]
theorem g_name_Clean (hM : S_may .i32 (C (F n_name_may))) : S_clean ((c_name_Clean F).gives C) := by
  intro s hs
  refine gives_of rfl ?_
  unfold c_name_Clean
  simp only [walk, Nat.reduceLT, Nat.reduceBEq, Nat.reduceAdd, Nat.reduceLeDiff, reduceIte, Int.reduceLT, Int.reduceLE, Int.reduceEq, Int.reduceToNat, Int.reduceBEq]
  refine awp_loop_ind (X := Nat × List Int) (fun x => ⟨[(0, .val (.str s)), (2, .val (.str [])), (3, .own 1 (iRows .i32 x.2)), (7, .lp 7 0)], [(7, .iter s x.1)]⟩)
    (fun x => x.1 ≤ s.length ∧ x.2.length ≤ x.1 ∧ clean (s.drop x.1) (encs x.2) x.2.length = clean s [] 0) (fun x => s.length - x.1) (0, []) ⟨by omega, by simp, rfl⟩ (by simp [iRows]) ?_
  rintro R ⟨k, out⟩ ⟨hk, ho, hJ⟩ ih
  simp only at hk ho hJ
  have hb2 : (out.length + 1) * 4 ≤ 140737488355328 := by omega
  simp only [walk, Nat.reduceLT, Nat.reduceBEq, Nat.reduceAdd, Nat.reduceLeDiff, reduceIte, Int.reduceLT, Int.reduceLE, Int.reduceEq, Int.reduceToNat, Int.reduceBEq]
  by_cases c : k < s.length
  · have hne := drop_lt_ne s k c
    have hdec := decB_chr s k c
    have hle := (chr_le (s.drop k)).1
    rw [List.length_drop] at hle
    by_cases h0 : (chr (s.drop k)).2 = 0
    · rw [if_pos h0] at hdec
      rw [clean_bad _ _ hne h0, List.drop_drop] at hJ
      have hm : mayB 65533 = false := by decide
      simp only [walk, Nat.reduceLT, Nat.reduceBEq, Nat.reduceAdd, Nat.reduceLeDiff, reduceIte, Int.reduceLT, Int.reduceLE, Int.reduceEq, Int.reduceToNat, Int.reduceBEq, c, hdec]
      refine callWp_of (hM 65533) ?_
      simp only [walk, Nat.reduceLT, Nat.reduceBEq, Nat.reduceAdd, Nat.reduceLeDiff, reduceIte, Int.reduceLT, Int.reduceLE, Int.reduceEq, Int.reduceToNat, Int.reduceBEq, hm]
      exact ih (k + 1, out) ⟨by simp only; omega, by simp only; omega, hJ⟩ (by simp only; omega)
    · rw [if_neg h0] at hdec
      simp only [walk, Nat.reduceLT, Nat.reduceBEq, Nat.reduceAdd, Nat.reduceLeDiff, reduceIte, Int.reduceLT, Int.reduceLE, Int.reduceEq, Int.reduceToNat, Int.reduceBEq, c, hdec]
      refine callWp_of (hM _) ?_
      by_cases hm : mayB ((chr (s.drop k)).1 : Int) = true
      · simp only [walk, Nat.reduceLT, Nat.reduceBEq, Nat.reduceAdd, Nat.reduceLeDiff, reduceIte, Int.reduceLT, Int.reduceLE, Int.reduceEq, Int.reduceToNat, Int.reduceBEq, hm, iRows_len]
        by_cases h24 : out.length < 24
        · have h24' : (out.length : Int) < 24 := by omega
          rw [clean_in _ _ hne h0 ⟨hm, h24⟩, List.drop_drop, ← enc_chr _ h0, ← encs_app] at hJ
          have step := ih (k + (chr (s.drop k)).2, out ++ [((chr (s.drop k)).1 : Int)]) ⟨by simp only; omega, by simp; omega, by simpa using hJ⟩ (by simp only; omega)
          rw [← iRows_app] at step
          simp only [walk, Nat.reduceLT, Nat.reduceBEq, Nat.reduceAdd, Nat.reduceLeDiff, reduceIte, Int.reduceLT, Int.reduceLE, Int.reduceEq, Int.reduceToNat, Int.reduceBEq, h24', iRows_len, hb2]
          exact step
        · have h24' : ¬ (out.length : Int) < 24 := by omega
          rw [clean_out _ _ hne h0 (fun h => h24 h.2), List.drop_drop] at hJ
          simp only [walk, Nat.reduceLT, Nat.reduceBEq, Nat.reduceAdd, Nat.reduceLeDiff, reduceIte, Int.reduceLT, Int.reduceLE, Int.reduceEq, Int.reduceToNat, Int.reduceBEq, h24']
          exact ih (k + (chr (s.drop k)).2, out) ⟨by simp only; omega, by simp only; omega, hJ⟩ (by simp only; omega)
      · have hm' : mayB ((chr (s.drop k)).1 : Int) = false := by simpa using hm
        rw [clean_out _ _ hne h0 (fun h => hm h.1), List.drop_drop] at hJ
        simp only [walk, Nat.reduceLT, Nat.reduceBEq, Nat.reduceAdd, Nat.reduceLeDiff, reduceIte, Int.reduceLT, Int.reduceLE, Int.reduceEq, Int.reduceToNat, Int.reduceBEq, hm']
        exact ih (k + (chr (s.drop k)).2, out) ⟨by simp only; omega, by simp only; omega, hJ⟩ (by simp only; omega)
  · rw [List.drop_eq_nil_of_le (by omega), clean_nil] at hJ
    by_cases h1 : out.length = 0
    · have h1' : ((out.length : Int) == 0) = true := by rw [beq_iff_eq]; omega
      rw [if_pos h1] at hJ
      simp only [walk, Nat.reduceLT, Nat.reduceBEq, Nat.reduceAdd, Nat.reduceLeDiff, reduceIte, Int.reduceLT, Int.reduceLE, Int.reduceEq, Int.reduceToNat, Int.reduceBEq, c, iRows_len, h1', ← hJ]
    · have h1' : ((out.length : Int) == 0) = false := by rw [beq_eq_false_iff_ne]; omega
      rw [if_neg h1] at hJ
      simp only [walk, Nat.reduceLT, Nat.reduceBEq, Nat.reduceAdd, Nat.reduceLeDiff, reduceIte, Int.reduceLT, Int.reduceLE, Int.reduceEq, Int.reduceToNat, Int.reduceBEq, c, iRows_len, h1', runesOf_iRows, ← hJ]
theorem g_pref03_Clean (hC : S_chr (C (F n_pref03_Char))) (hM : S_may .i64 (C (F n_pref03_may))) : S_clean ((c_pref03_Clean F).gives C) := by
  intro s hs
  refine gives_of rfl ?_
  unfold c_pref03_Clean
  simp only [walk, Nat.reduceLT, Nat.reduceBEq, Nat.reduceAdd, Nat.reduceLeDiff, reduceIte, Int.reduceLT, Int.reduceLE, Int.reduceEq, Int.reduceToNat, Int.reduceBEq]
  refine awp_loop_ind (X := Nat × List UInt8 × Nat) (fun x => ⟨[(0, .val (.str s)), (2, .val (.str [])), (3, .val (.str x.2.1)), (4, .val (.int .i64 x.2.2)), (5, .val (.int .i64 x.1))], []⟩)
    (fun x => x.1 ≤ s.length ∧ x.2.1.length ≤ x.1 ∧ x.2.2 ≤ x.1 ∧ clean (s.drop x.1) x.2.1 x.2.2 = clean s [] 0) (fun x => s.length - x.1) (0, [], 0) ⟨by omega, by simp, by simp, rfl⟩ rfl ?_
  rintro R ⟨k, out, many⟩ ⟨hk, ho, hm0, hJ⟩ ih
  simp only at hk ho hm0 hJ
  simp only [walk, Nat.reduceLT, Nat.reduceBEq, Nat.reduceAdd, Nat.reduceLeDiff, reduceIte, Int.reduceLT, Int.reduceLE, Int.reduceEq, Int.reduceToNat, Int.reduceBEq]
  by_cases c : k < s.length
  · have hne := drop_lt_ne s k c
    have hle := (chr_le (s.drop k)).1
    rw [List.length_drop] at hle
    have c2 : (k : Int) < s.length := by omega
    have c0 : (0 : Int) ≤ k := by omega
    have c1 : (k : Int) ≤ s.length := by omega
    have hcut : (s.drop k).take (s.length - k) = s.drop k := List.take_of_length_le (by rw [List.length_drop]; omega)
    simp only [walk, Nat.reduceLT, Nat.reduceBEq, Nat.reduceAdd, Nat.reduceLeDiff, reduceIte, Int.reduceLT, Int.reduceLE, Int.reduceEq, Int.reduceToNat, Int.reduceBEq, c2, c0, c1, hcut]
    refine callWp_of (hC (s.drop k) (by rw [List.length_drop]; omega)) ?_
    by_cases h0 : (chr (s.drop k)).2 = 0
    · rw [clean_bad _ _ hne h0, List.drop_drop] at hJ
      have h0' : (((chr (s.drop k)).2 : Int) == 0) = true := by rw [beq_iff_eq]; omega
      have e1 : IntKind.i64.wrap ((k : Int) + 1) = ((k + 1 : Nat) : Int) := wrap64 (by omega) (by omega)
      simp only [walk, Nat.reduceLT, Nat.reduceBEq, Nat.reduceAdd, Nat.reduceLeDiff, reduceIte, Int.reduceLT, Int.reduceLE, Int.reduceEq, Int.reduceToNat, Int.reduceBEq, h0', e1]
      exact ih (k + 1, out, many) ⟨by simp only; omega, by simp only; omega, by simp only; omega, hJ⟩ (by simp only; omega)
    · have h0' : (((chr (s.drop k)).2 : Int) == 0) = false := by rw [beq_eq_false_iff_ne]; omega
      have e1 : IntKind.i64.wrap ((k : Int) + ((chr (s.drop k)).2 : Int)) = ((k + (chr (s.drop k)).2 : Nat) : Int) := by rw [wrap64 (by omega) (by omega)]; omega
      simp only [walk, Nat.reduceLT, Nat.reduceBEq, Nat.reduceAdd, Nat.reduceLeDiff, reduceIte, Int.reduceLT, Int.reduceLE, Int.reduceEq, Int.reduceToNat, Int.reduceBEq, h0']
      refine callWp_of (hM _) ?_
      by_cases hm : mayB ((chr (s.drop k)).1 : Int) = true
      · by_cases h24 : many < 24
        · have h24' : (many : Int) < 24 := by omega
          have e2 : IntKind.i64.wrap ((many : Int) + 1) = ((many + 1 : Nat) : Int) := wrap64 (by omega) (by omega)
          have d0 : (k : Int) ≤ ((k + (chr (s.drop k)).2 : Nat) : Int) := by omega
          have d1 : ((k + (chr (s.drop k)).2 : Nat) : Int) ≤ s.length := by omega
          have d2 : k + (chr (s.drop k)).2 - k = (chr (s.drop k)).2 := by omega
          rw [clean_in _ _ hne h0 ⟨hm, h24⟩, List.drop_drop] at hJ
          simp only [walk, Nat.reduceLT, Nat.reduceBEq, Nat.reduceAdd, Nat.reduceLeDiff, reduceIte, Int.reduceLT, Int.reduceLE, Int.reduceEq, Int.reduceToNat, Int.reduceBEq, hm, h24', e1, d0, d1, d2]
          rw [bins_add (by rw [List.length_take, List.length_drop]; omega)]
          simp only [walk, Nat.reduceLT, Nat.reduceBEq, Nat.reduceAdd, Nat.reduceLeDiff, reduceIte, Int.reduceLT, Int.reduceLE, Int.reduceEq, Int.reduceToNat, Int.reduceBEq, e2, e1]
          exact ih (k + (chr (s.drop k)).2, out ++ (s.drop k).take (chr (s.drop k)).2, many + 1) ⟨by simp only; omega, by simp only; rw [List.length_append, List.length_take, List.length_drop]; omega, by simp only; omega, hJ⟩ (by simp only; omega)
        · have h24' : ¬ (many : Int) < 24 := by omega
          rw [clean_out _ _ hne h0 (fun h => h24 h.2), List.drop_drop] at hJ
          simp only [walk, Nat.reduceLT, Nat.reduceBEq, Nat.reduceAdd, Nat.reduceLeDiff, reduceIte, Int.reduceLT, Int.reduceLE, Int.reduceEq, Int.reduceToNat, Int.reduceBEq, hm, h24', e1]
          exact ih (k + (chr (s.drop k)).2, out, many) ⟨by simp only; omega, by simp only; omega, by simp only; omega, hJ⟩ (by simp only; omega)
      · have hm' : mayB ((chr (s.drop k)).1 : Int) = false := by simpa using hm
        rw [clean_out _ _ hne h0 (fun h => hm h.1), List.drop_drop] at hJ
        simp only [walk, Nat.reduceLT, Nat.reduceBEq, Nat.reduceAdd, Nat.reduceLeDiff, reduceIte, Int.reduceLT, Int.reduceLE, Int.reduceEq, Int.reduceToNat, Int.reduceBEq, hm', e1]
        exact ih (k + (chr (s.drop k)).2, out, many) ⟨by simp only; omega, by simp only; omega, by simp only; omega, hJ⟩ (by simp only; omega)
  · have c1 : ¬ (k : Int) < s.length := by omega
    rw [List.drop_eq_nil_of_le (by omega), clean_nil] at hJ
    by_cases h1 : many = 0
    · have h1' : ((many : Int) == 0) = true := by rw [beq_iff_eq]; omega
      rw [if_pos h1] at hJ
      simp only [walk, Nat.reduceLT, Nat.reduceBEq, Nat.reduceAdd, Nat.reduceLeDiff, reduceIte, Int.reduceLT, Int.reduceLE, Int.reduceEq, Int.reduceToNat, Int.reduceBEq, c1, h1', ← hJ]
    · have h1' : ((many : Int) == 0) = false := by rw [beq_eq_false_iff_ne]; omega
      rw [if_neg h1] at hJ
      simp only [walk, Nat.reduceLT, Nat.reduceBEq, Nat.reduceAdd, Nat.reduceLeDiff, reduceIte, Int.reduceLT, Int.reduceLE, Int.reduceEq, Int.reduceToNat, Int.reduceBEq, c1, h1', ← hJ]
theorem g_name_Quote (hW : S_WriteByte (F n_T_strings_Builder) (F n_T_uint8) (C (F n_strings_Builder_WriteByte))) (hS : S_BString (F n_T_strings_Builder) (F n_T_uint8) (C (F n_strings_Builder_String))) : S_quote ((c_name_Quote F).gives C) := by
  intro s hs
  refine gives_of rfl ?_
  unfold c_name_Quote
  simp only [walk, Nat.reduceLT, Nat.reduceBEq, Nat.reduceAdd, Nat.reduceLeDiff, reduceIte, Int.reduceLT, Int.reduceLE, Int.reduceEq, Int.reduceToNat, Int.reduceBEq]
  refine awp_loop_ind (X := Nat × TV) (fun x => ⟨[(0, .val (.str s)), (2, .val (.str [])), (3, .lp 3 0), (6, .val (.int .i64 s.length)), (7, .val (.int .i64 x.1))], [(3, .cellsE (some (F n_T_strings_Builder)) [x.2, .ownE (some (F n_T_uint8)) 1 (bRows (quo (s.take x.1)))])]⟩)
    (fun x => x.1 ≤ s.length ∧ bldOk x.2) (fun x => s.length - x.1) (0, .val .nilp) ⟨by omega, S_nilp⟩ rfl ?_
  rintro R ⟨k, x⟩ ⟨hk, hx⟩ ih
  simp only at hk hx
  simp only [walk, Nat.reduceLT, Nat.reduceBEq, Nat.reduceAdd, Nat.reduceLeDiff, reduceIte, Int.reduceLT, Int.reduceLE, Int.reduceEq, Int.reduceToNat, Int.reduceBEq]
  have hl := quo_len (s.take k)
  rw [List.length_take] at hl
  by_cases c : k < s.length
  · have c1 : (k : Int) < s.length := by omega
    have c0 : (0 : Int) ≤ k := by omega
    have e1 : IntKind.i64.wrap ((k : Int) + 1) = ((k + 1 : Nat) : Int) := wrap64 (by omega) (by omega)
    have hg := List.getElem?_eq_getElem c
    have step := ih (k + 1, .self) ⟨by simp only; omega, S_self⟩ (by simp only; omega)
    simp only at step
    rw [take_one s k c, quo_app] at step
    generalize s[k] = y at hg step
    simp only [walk, Nat.reduceLT, Nat.reduceBEq, Nat.reduceAdd, Nat.reduceLeDiff, reduceIte, Int.reduceLT, Int.reduceLE, Int.reduceEq, Int.reduceToNat, Int.reduceBEq, c1, hg, e47]
    by_cases q1 : y = 47
    · have w1 : ((92 : UInt8).toNat : Int) = 92 := rfl
      simp only [walk, Nat.reduceLT, Nat.reduceBEq, Nat.reduceAdd, Nat.reduceLeDiff, reduceIte, Int.reduceLT, Int.reduceLE, Int.reduceEq, Int.reduceToNat, Int.reduceBEq, decide_eq_true q1]
      refine callWp_of (hW x (quo (s.take k)) 92 hx (by omega)) ?_
      simp only [walk, Nat.reduceLT, Nat.reduceBEq, Nat.reduceAdd, Nat.reduceLeDiff, reduceIte, Int.reduceLT, Int.reduceLE, Int.reduceEq, Int.reduceToNat, Int.reduceBEq, hg]
      refine callWp_of (hW .self (quo (s.take k) ++ [92]) y S_self (by simp; omega)) ?_
      rw [quo_1 (.inl q1), ← List.append_assoc] at step
      simp only [walk, Nat.reduceLT, Nat.reduceBEq, Nat.reduceAdd, Nat.reduceLeDiff, reduceIte, Int.reduceLT, Int.reduceLE, Int.reduceEq, Int.reduceToNat, Int.reduceBEq, e1]
      exact step
    · simp only [walk, Nat.reduceLT, Nat.reduceBEq, Nat.reduceAdd, Nat.reduceLeDiff, reduceIte, Int.reduceLT, Int.reduceLE, Int.reduceEq, Int.reduceToNat, Int.reduceBEq, decide_eq_false q1, hg, e92]
      by_cases q2 : y = 92
      · simp only [walk, Nat.reduceLT, Nat.reduceBEq, Nat.reduceAdd, Nat.reduceLeDiff, reduceIte, Int.reduceLT, Int.reduceLE, Int.reduceEq, Int.reduceToNat, Int.reduceBEq, decide_eq_true q2]
        refine callWp_of (hW x (quo (s.take k)) 92 hx (by omega)) ?_
        simp only [walk, Nat.reduceLT, Nat.reduceBEq, Nat.reduceAdd, Nat.reduceLeDiff, reduceIte, Int.reduceLT, Int.reduceLE, Int.reduceEq, Int.reduceToNat, Int.reduceBEq, hg]
        refine callWp_of (hW .self (quo (s.take k) ++ [92]) y S_self (by simp; omega)) ?_
        rw [quo_1 (.inr q2), ← List.append_assoc] at step
        simp only [walk, Nat.reduceLT, Nat.reduceBEq, Nat.reduceAdd, Nat.reduceLeDiff, reduceIte, Int.reduceLT, Int.reduceLE, Int.reduceEq, Int.reduceToNat, Int.reduceBEq, e1]
        exact step
      · simp only [walk, Nat.reduceLT, Nat.reduceBEq, Nat.reduceAdd, Nat.reduceLeDiff, reduceIte, Int.reduceLT, Int.reduceLE, Int.reduceEq, Int.reduceToNat, Int.reduceBEq, decide_eq_false q2, hg]
        refine callWp_of (hW x (quo (s.take k)) y hx (by omega)) ?_
        rw [quo_0 (by simp [q1, q2])] at step
        simp only [walk, Nat.reduceLT, Nat.reduceBEq, Nat.reduceAdd, Nat.reduceLeDiff, reduceIte, Int.reduceLT, Int.reduceLE, Int.reduceEq, Int.reduceToNat, Int.reduceBEq, e1]
        exact step
  · have c1 : ¬ ((k : Int) < s.length) := by omega
    have e2 : s.take k = s := List.take_of_length_le (by omega)
    simp only [walk, Nat.reduceLT, Nat.reduceBEq, Nat.reduceAdd, Nat.reduceLeDiff, reduceIte, Int.reduceLT, Int.reduceLE, Int.reduceEq, Int.reduceToNat, Int.reduceBEq, c1, e2]
    refine callWp_of (hS x (quo s)) ?_
    simp only [walk, Nat.reduceLT, Nat.reduceBEq, Nat.reduceAdd, Nat.reduceLeDiff, reduceIte, Int.reduceLT, Int.reduceLE, Int.reduceEq, Int.reduceToNat, Int.reduceBEq]
def S_xSame (R : Rel) : Prop := ∀ a b : List (List UInt8), a.length ≤ 20000000 → R [.v (.sl 1 (xRows a)), .v (.sl 1 (xRows b))] (.val (.bool (a == b))) []
theorem xRows_get (l : List (List UInt8)) (i : Nat) (h : i < l.length) : (xRows l)[i]? = some [.str l[i]] := by simp [xRows, h]
theorem g_pref03_Same : S_xSame ((c_pref03_Same F).gives C) := by
  intro a b ha
  refine gives_of rfl ?_
  unfold c_pref03_Same
  simp only [walk, Nat.reduceLT, Nat.reduceBEq, Nat.reduceAdd, Nat.reduceLeDiff, reduceIte, Int.reduceLT, Int.reduceLE, Int.reduceEq, Int.reduceToNat, Int.reduceBEq, xRows_len]
  by_cases hl : a.length = b.length
  · have hl' : ((a.length : Int) != (b.length : Int)) = false := by rw [bne, hl]; simp
    simp only [walk, Nat.reduceLT, Nat.reduceBEq, Nat.reduceAdd, Nat.reduceLeDiff, reduceIte, Int.reduceLT, Int.reduceLE, Int.reduceEq, Int.reduceToNat, Int.reduceBEq, hl']
    refine awp_loop_ind (X := Nat) (fun k => ⟨[(0, .val (.sl 1 (xRows a))), (1, .val (.sl 1 (xRows b))), (4, .val (.bool false)), (5, .val (.int .i64 k)), (10, .val (.bool false))], []⟩)
      (fun k => k ≤ a.length ∧ a.take k = b.take k) (fun k => a.length - k) 0 ⟨by omega, by simp⟩ rfl ?_
    rintro R k ⟨hk, hJ⟩ ih
    simp only [walk, Nat.reduceLT, Nat.reduceBEq, Nat.reduceAdd, Nat.reduceLeDiff, reduceIte, Int.reduceLT, Int.reduceLE, Int.reduceEq, Int.reduceToNat, Int.reduceBEq, xRows_len]
    by_cases c : k < a.length
    · have c1 : (k : Int) < a.length := by omega
      have cb : k < b.length := by omega
      have c0 : (0 : Int) ≤ k := by omega
      have e1 : IntKind.i64.wrap ((k : Int) + 1) = ((k + 1 : Nat) : Int) := wrap64 (by omega) (by omega)
      simp only [walk, Nat.reduceLT, Nat.reduceBEq, Nat.reduceAdd, Nat.reduceLeDiff, reduceIte, Int.reduceLT, Int.reduceLE, Int.reduceEq, Int.reduceToNat, Int.reduceBEq, c1, xRows_get a k c, xRows_get b k cb]
      by_cases he : a[k] = b[k]
      · have he' : (a[k] == b[k]) = true := by rw [beq_iff_eq]; exact he
        simp only [walk, Nat.reduceLT, Nat.reduceBEq, Nat.reduceAdd, Nat.reduceLeDiff, reduceIte, Int.reduceLT, Int.reduceLE, Int.reduceEq, Int.reduceToNat, Int.reduceBEq, he', e1]
        refine ih (k + 1) ⟨by omega, ?_⟩ (by omega)
        rw [List.take_add_one, List.take_add_one, hJ, List.getElem?_eq_getElem c, List.getElem?_eq_getElem cb, he]
      · have he' : (a[k] == b[k]) = false := by rw [beq_eq_false_iff_ne]; exact he
        have hf : (a == b) = false := by
          rw [beq_eq_false_iff_ne]
          rintro rfl
          exact he rfl
        simp only [walk, Nat.reduceLT, Nat.reduceBEq, Nat.reduceAdd, Nat.reduceLeDiff, reduceIte, Int.reduceLT, Int.reduceLE, Int.reduceEq, Int.reduceToNat, Int.reduceBEq, he', hf]
    · have c1 : ¬ (k : Int) < a.length := by omega
      rw [List.take_of_length_le (by omega), List.take_of_length_le (by omega)] at hJ
      subst hJ
      simp only [walk, Nat.reduceLT, Nat.reduceBEq, Nat.reduceAdd, Nat.reduceLeDiff, reduceIte, Int.reduceLT, Int.reduceLE, Int.reduceEq, Int.reduceToNat, Int.reduceBEq, c1, beq_self_eq_true]
  · have hl' : ((a.length : Int) != (b.length : Int)) = true := by
      rw [bne, Bool.not_eq_true', beq_eq_false_iff_ne]; omega
    have hf : (a == b) = false := by
      rw [beq_eq_false_iff_ne]
      rintro rfl
      exact hl rfl
    simp only [walk, Nat.reduceLT, Nat.reduceBEq, Nat.reduceAdd, Nat.reduceLeDiff, reduceIte, Int.reduceLT, Int.reduceLE, Int.reduceEq, Int.reduceToNat, Int.reduceBEq, hl', hf]
theorem g_plaw03_awake (h1 : S_split (C (F n_name_Split))) (h2 : S_xSame (C (F n_pref03_Same))) (h3 : S_quote (C (F n_name_Quote))) (h4 : S_right (C (F n_name_Right))) : S_yes ((c_plaw03_awake F).gives C) := by
  refine gives_of rfl ?_
  unfold c_plaw03_awake
  simp only [walk, Nat.reduceLT, Nat.reduceBEq, Nat.reduceAdd, Nat.reduceLeDiff, reduceIte, Int.reduceLT, Int.reduceLE, Int.reduceEq, Int.reduceToNat, Int.reduceBEq]
  refine callWp_of (h1 _ (by simp)) ?_
  have e1 : spl [120, 92, 92, 121, 47, 122] [] [] false = some [[120, 92, 121], [122]] := by decide
  have e2 : quo [97, 47, 98] = [97, 92, 47, 98] := by decide
  have e3 : rightB [107, 101, 121] = true := (right_iff _).2 ⟨3, .cons (by decide) (by decide) (.cons (by decide) (by decide) (.cons (by decide) (by decide) .nil)), by omega, by omega⟩
  have e4 : rightB [] = false := by unfold rightB; rw [runes_nil]; rfl
  simp only [walk, Nat.reduceLT, Nat.reduceBEq, Nat.reduceAdd, Nat.reduceLeDiff, reduceIte, Int.reduceLT, Int.reduceLE, Int.reduceEq, Int.reduceToNat, Int.reduceBEq, e1, splP]
  have r1 : [[PV.str [120, 92, 121]], [PV.str [122]]] = xRows [[120, 92, 121], [122]] := rfl
  rw [r1]
  refine callWp_of (h2 _ _ (by simp)) ?_
  simp only [walk, Nat.reduceLT, Nat.reduceBEq, Nat.reduceAdd, Nat.reduceLeDiff, reduceIte, Int.reduceLT, Int.reduceLE, Int.reduceEq, Int.reduceToNat, Int.reduceBEq, beq_self_eq_true]
  refine callWp_of (h3 _ (by simp)) ?_
  simp only [walk, Nat.reduceLT, Nat.reduceBEq, Nat.reduceAdd, Nat.reduceLeDiff, reduceIte, Int.reduceLT, Int.reduceLE, Int.reduceEq, Int.reduceToNat, Int.reduceBEq, e2, beq_self_eq_true]
  refine callWp_of (h4 _ (by simp)) ?_
  simp only [walk, Nat.reduceLT, Nat.reduceBEq, Nat.reduceAdd, Nat.reduceLeDiff, reduceIte, Int.reduceLT, Int.reduceLE, Int.reduceEq, Int.reduceToNat, Int.reduceBEq, e3]
  refine callWp_of (h4 _ (by simp)) ?_
  simp only [walk, Nat.reduceLT, Nat.reduceBEq, Nat.reduceAdd, Nat.reduceLeDiff, reduceIte, Int.reduceLT, Int.reduceLE, Int.reduceEq, Int.reduceToNat, Int.reduceBEq, e4]
def S_n1 (R : Rel) : Prop := ∀ s : List UInt8, R [.v (.str s)] (.val (.bool true)) []
theorem g_NameTells (hA : S_yes (C (F n_plaw03_awake))) (h1 : S_runes .i32 (C (F n_name_Runes))) (h2 : S_runes .i64 (C (F n_pref03_Runes))) (h3 : S_right (C (F n_name_Right))) (h4 : S_right (C (F n_pref03_Right))) (h5 : S_clean (C (F n_name_Clean))) (h6 : S_clean (C (F n_pref03_Clean))) : S_n1 ((c_plaw03_NameTells F).gives C) := by
  intro s
  refine gives_of rfl ?_
  unfold c_plaw03_NameTells
  simp only [walk, Nat.reduceLT, Nat.reduceBEq, Nat.reduceAdd, Nat.reduceLeDiff, reduceIte, Int.reduceLT, Int.reduceLE, Int.reduceEq, Int.reduceToNat, Int.reduceBEq, gt_iff_lt]
  by_cases hl : 500 < s.length
  · have hl' : (500 : Int) < s.length := by omega
    simp only [walk, Nat.reduceLT, Nat.reduceBEq, Nat.reduceAdd, Nat.reduceLeDiff, reduceIte, Int.reduceLT, Int.reduceLE, Int.reduceEq, Int.reduceToNat, Int.reduceBEq, hl']
    refine callWp_of hA ?_
    simp only [walk, Nat.reduceLT, Nat.reduceBEq, Nat.reduceAdd, Nat.reduceLeDiff, reduceIte, Int.reduceLT, Int.reduceLE, Int.reduceEq, Int.reduceToNat, Int.reduceBEq]
  have hl' : ¬ (500 : Int) < s.length := by omega
  have hs : s.length ≤ 20000000 := by omega
  have fin : ∀ (l5 : List (List PV)), True := fun _ => trivial
  simp only [walk, Nat.reduceLT, Nat.reduceBEq, Nat.reduceAdd, Nat.reduceLeDiff, reduceIte, Int.reduceLT, Int.reduceLE, Int.reduceEq, Int.reduceToNat, Int.reduceBEq, hl']
  refine callWp_of (h1 s hs) ?_
  cases hr : runes s [] with
  | none =>
    simp only [walk, Nat.reduceLT, Nat.reduceBEq, Nat.reduceAdd, Nat.reduceLeDiff, reduceIte, Int.reduceLT, Int.reduceLE, Int.reduceEq, Int.reduceToNat, Int.reduceBEq, runesP]
    refine callWp_of (h2 s hs) ?_
    have b1 : ((0 : Int) != 0) = false := by decide
    simp only [walk, Nat.reduceLT, Nat.reduceBEq, Nat.reduceAdd, Nat.reduceLeDiff, reduceIte, Int.reduceLT, Int.reduceLE, Int.reduceEq, Int.reduceToNat, Int.reduceBEq, hr, runesP, beq_self_eq_true, b1]
    refine awp_loop_ind (X := Nat) (fun k => ⟨[(0, .val (.str s)), (2, .val (.bool false)), (3, .val (.sl 1 [])), (4, .val (.bool false)), (5, .val (.sl 1 [])), (6, .val (.bool false)), (7, .val (.int .i64 k)), (10, .val (.bool false)), (31, .val (.bool false))], []⟩) (fun k => k = 0) (fun k => k) 0 rfl rfl ?_
    rintro R k rfl ih
    simp only [walk, Nat.reduceLT, Nat.reduceBEq, Nat.reduceAdd, Nat.reduceLeDiff, reduceIte, Int.reduceLT, Int.reduceLE, Int.reduceEq, Int.reduceToNat, Int.reduceBEq]
    refine callWp_of (h3 s hs) ?_
    simp only [walk, Nat.reduceLT, Nat.reduceBEq, Nat.reduceAdd, Nat.reduceLeDiff, reduceIte, Int.reduceLT, Int.reduceLE, Int.reduceEq, Int.reduceToNat, Int.reduceBEq]
    refine callWp_of (h4 s hs) ?_
    simp only [walk, Nat.reduceLT, Nat.reduceBEq, Nat.reduceAdd, Nat.reduceLeDiff, reduceIte, Int.reduceLT, Int.reduceLE, Int.reduceEq, Int.reduceToNat, Int.reduceBEq, beq_self_eq_true]
    refine callWp_of (h5 s hs) ?_
    simp only [walk, Nat.reduceLT, Nat.reduceBEq, Nat.reduceAdd, Nat.reduceLeDiff, reduceIte, Int.reduceLT, Int.reduceLE, Int.reduceEq, Int.reduceToNat, Int.reduceBEq]
    refine callWp_of (h6 s hs) ?_
    simp only [walk, Nat.reduceLT, Nat.reduceBEq, Nat.reduceAdd, Nat.reduceLeDiff, reduceIte, Int.reduceLT, Int.reduceLE, Int.reduceEq, Int.reduceToNat, Int.reduceBEq, beq_self_eq_true]
    refine callWp_of hA ?_
    simp only [walk, Nat.reduceLT, Nat.reduceBEq, Nat.reduceAdd, Nat.reduceLeDiff, reduceIte, Int.reduceLT, Int.reduceLE, Int.reduceEq, Int.reduceToNat, Int.reduceBEq]
  | some l =>
    have hll := runes_len s.length s [] l (Nat.le_refl _) hr
    simp only [List.length_nil, Nat.zero_add] at hll
    simp only [walk, Nat.reduceLT, Nat.reduceBEq, Nat.reduceAdd, Nat.reduceLeDiff, reduceIte, Int.reduceLT, Int.reduceLE, Int.reduceEq, Int.reduceToNat, Int.reduceBEq, runesP]
    refine callWp_of (h2 s hs) ?_
    have b1 : ((l.length : Int) != l.length) = false := by simp
    simp only [walk, Nat.reduceLT, Nat.reduceBEq, Nat.reduceAdd, Nat.reduceLeDiff, reduceIte, Int.reduceLT, Int.reduceLE, Int.reduceEq, Int.reduceToNat, Int.reduceBEq, hr, runesP, beq_self_eq_true, iRows_len, b1]
    refine awp_loop_ind (X := Nat) (fun k => ⟨[(0, .val (.str s)), (2, .val (.bool false)), (3, .val (.sl 1 (iRows .i32 l))), (4, .val (.bool true)), (5, .val (.sl 1 (iRows .i64 l))), (6, .val (.bool true)), (7, .val (.int .i64 k)), (10, .val (.bool false)), (31, .val (.bool false))], []⟩) (fun k => k ≤ l.length) (fun k => l.length - k) 0 (by omega) rfl ?_
    rintro R k hk ih
    simp only [walk, Nat.reduceLT, Nat.reduceBEq, Nat.reduceAdd, Nat.reduceLeDiff, reduceIte, Int.reduceLT, Int.reduceLE, Int.reduceEq, Int.reduceToNat, Int.reduceBEq, iRows_len]
    by_cases c : k < l.length
    · have c1 : (k : Int) < l.length := by omega
      have c0 : (0 : Int) ≤ k := by omega
      have e1 : IntKind.i64.wrap ((k : Int) + 1) = ((k + 1 : Nat) : Int) := wrap64 (by omega) (by omega)
      have hb := runes_bound s.length s [] l (Nat.le_refl _) (by simp) hr l[k] (List.getElem_mem c)
      have e2 : IntKind.i64.wrap l[k] = l[k] := wrap64 (by omega) (by omega)
      simp only [walk, Nat.reduceLT, Nat.reduceBEq, Nat.reduceAdd, Nat.reduceLeDiff, reduceIte, Int.reduceLT, Int.reduceLE, Int.reduceEq, Int.reduceToNat, Int.reduceBEq, c1, iRows_get .i32 l k c, iRows_get .i64 l k c, e2, bne_self_eq_false, e1]
      exact ih (k + 1) (by omega) (by omega)
    · have c1 : ¬ (k : Int) < l.length := by omega
      simp only [walk, Nat.reduceLT, Nat.reduceBEq, Nat.reduceAdd, Nat.reduceLeDiff, reduceIte, Int.reduceLT, Int.reduceLE, Int.reduceEq, Int.reduceToNat, Int.reduceBEq, c1]
      refine callWp_of (h3 s hs) ?_
      simp only [walk, Nat.reduceLT, Nat.reduceBEq, Nat.reduceAdd, Nat.reduceLeDiff, reduceIte, Int.reduceLT, Int.reduceLE, Int.reduceEq, Int.reduceToNat, Int.reduceBEq]
      refine callWp_of (h4 s hs) ?_
      simp only [walk, Nat.reduceLT, Nat.reduceBEq, Nat.reduceAdd, Nat.reduceLeDiff, reduceIte, Int.reduceLT, Int.reduceLE, Int.reduceEq, Int.reduceToNat, Int.reduceBEq, beq_self_eq_true]
      refine callWp_of (h5 s hs) ?_
      simp only [walk, Nat.reduceLT, Nat.reduceBEq, Nat.reduceAdd, Nat.reduceLeDiff, reduceIte, Int.reduceLT, Int.reduceLE, Int.reduceEq, Int.reduceToNat, Int.reduceBEq]
      refine callWp_of (h6 s hs) ?_
      simp only [walk, Nat.reduceLT, Nat.reduceBEq, Nat.reduceAdd, Nat.reduceLeDiff, reduceIte, Int.reduceLT, Int.reduceLE, Int.reduceEq, Int.reduceToNat, Int.reduceBEq, beq_self_eq_true]
      refine callWp_of hA ?_
      simp only [walk, Nat.reduceLT, Nat.reduceBEq, Nat.reduceAdd, Nat.reduceLeDiff, reduceIte, Int.reduceLT, Int.reduceLE, Int.reduceEq, Int.reduceToNat, Int.reduceBEq]
theorem g_NameCleans (hA : S_yes (C (F n_plaw03_awake))) (h3 : S_right (C (F n_name_Right))) (h5 : S_clean (C (F n_name_Clean))) : S_n1 ((c_plaw03_NameCleans F).gives C) := by
  intro s
  refine gives_of rfl ?_
  unfold c_plaw03_NameCleans
  simp only [walk, Nat.reduceLT, Nat.reduceBEq, Nat.reduceAdd, Nat.reduceLeDiff, reduceIte, Int.reduceLT, Int.reduceLE, Int.reduceEq, Int.reduceToNat, Int.reduceBEq, gt_iff_lt]
  by_cases hl : 500 < s.length
  · have hl' : (500 : Int) < s.length := by omega
    simp only [walk, Nat.reduceLT, Nat.reduceBEq, Nat.reduceAdd, Nat.reduceLeDiff, reduceIte, Int.reduceLT, Int.reduceLE, Int.reduceEq, Int.reduceToNat, Int.reduceBEq, hl']
    refine callWp_of hA ?_
    simp only [walk, Nat.reduceLT, Nat.reduceBEq, Nat.reduceAdd, Nat.reduceLeDiff, reduceIte, Int.reduceLT, Int.reduceLE, Int.reduceEq, Int.reduceToNat, Int.reduceBEq]
  have hl' : ¬ (500 : Int) < s.length := by omega
  have hs : s.length ≤ 20000000 := by omega
  have hc := clean_len s.length s [] 0 (Nat.le_refl _)
  simp only [walk, Nat.reduceLT, Nat.reduceBEq, Nat.reduceAdd, Nat.reduceLeDiff, reduceIte, Int.reduceLT, Int.reduceLE, Int.reduceEq, Int.reduceToNat, Int.reduceBEq, hl']
  refine callWp_of (h5 s hs) ?_
  simp only [walk, Nat.reduceLT, Nat.reduceBEq, Nat.reduceAdd, Nat.reduceLeDiff, reduceIte, Int.reduceLT, Int.reduceLE, Int.reduceEq, Int.reduceToNat, Int.reduceBEq]
  refine callWp_of (h3 _ (by simp at hc; omega)) ?_
  simp only [walk, Nat.reduceLT, Nat.reduceBEq, Nat.reduceAdd, Nat.reduceLeDiff, reduceIte, Int.reduceLT, Int.reduceLE, Int.reduceEq, Int.reduceToNat, Int.reduceBEq, clean_right]
  refine callWp_of (h5 _ (by simp at hc; omega)) ?_
  simp only [walk, Nat.reduceLT, Nat.reduceBEq, Nat.reduceAdd, Nat.reduceLeDiff, reduceIte, Int.reduceLT, Int.reduceLE, Int.reduceEq, Int.reduceToNat, Int.reduceBEq, clean_clean, beq_self_eq_true]
  refine callWp_of (h3 s hs) ?_
  simp only [walk, Nat.reduceLT, Nat.reduceBEq, Nat.reduceAdd, Nat.reduceLeDiff, reduceIte, Int.reduceLT, Int.reduceLE, Int.reduceEq, Int.reduceToNat, Int.reduceBEq, right_same, beq_self_eq_true]
  refine callWp_of hA ?_
  simp only [walk, Nat.reduceLT, Nat.reduceBEq, Nat.reduceAdd, Nat.reduceLeDiff, reduceIte, Int.reduceLT, Int.reduceLE, Int.reduceEq, Int.reduceToNat, Int.reduceBEq]
theorem g_NameSplits (hA : S_yes (C (F n_plaw03_awake))) (h1 : S_split (C (F n_name_Split))) (h2 : S_split (C (F n_pref03_Split))) (h3 : S_quote (C (F n_name_Quote))) (h4 : S_quote (C (F n_pref03_Quote))) (h5 : S_xSame (C (F n_pref03_Same))) : S_n1 ((c_plaw03_NameSplits F).gives C) := by
  intro s
  refine gives_of rfl ?_
  unfold c_plaw03_NameSplits
  simp only [walk, Nat.reduceLT, Nat.reduceBEq, Nat.reduceAdd, Nat.reduceLeDiff, reduceIte, Int.reduceLT, Int.reduceLE, Int.reduceEq, Int.reduceToNat, Int.reduceBEq, gt_iff_lt]
  by_cases hl : 500 < s.length
  · have hl' : (500 : Int) < s.length := by omega
    simp only [walk, Nat.reduceLT, Nat.reduceBEq, Nat.reduceAdd, Nat.reduceLeDiff, reduceIte, Int.reduceLT, Int.reduceLE, Int.reduceEq, Int.reduceToNat, Int.reduceBEq, hl']
    refine callWp_of hA ?_
    simp only [walk, Nat.reduceLT, Nat.reduceBEq, Nat.reduceAdd, Nat.reduceLeDiff, reduceIte, Int.reduceLT, Int.reduceLE, Int.reduceEq, Int.reduceToNat, Int.reduceBEq]
  have hl' : ¬ (500 : Int) < s.length := by omega
  have hs : s.length ≤ 20000000 := by omega
  simp only [walk, Nat.reduceLT, Nat.reduceBEq, Nat.reduceAdd, Nat.reduceLeDiff, reduceIte, Int.reduceLT, Int.reduceLE, Int.reduceEq, Int.reduceToNat, Int.reduceBEq, hl']
  refine callWp_of (h1 s hs) ?_
  have hsp := spl_len s [] [] false
  cases hr : spl s [] [] false with
  | none =>
    simp only [walk, Nat.reduceLT, Nat.reduceBEq, Nat.reduceAdd, Nat.reduceLeDiff, reduceIte, Int.reduceLT, Int.reduceLE, Int.reduceEq, Int.reduceToNat, Int.reduceBEq, splP]
    refine callWp_of (h2 s hs) ?_
    simp only [walk, Nat.reduceLT, Nat.reduceBEq, Nat.reduceAdd, Nat.reduceLeDiff, reduceIte, Int.reduceLT, Int.reduceLE, Int.reduceEq, Int.reduceToNat, Int.reduceBEq, hr, splP]
    refine callWp_of (h3 s hs) ?_
    simp only [walk, Nat.reduceLT, Nat.reduceBEq, Nat.reduceAdd, Nat.reduceLeDiff, reduceIte, Int.reduceLT, Int.reduceLE, Int.reduceEq, Int.reduceToNat, Int.reduceBEq]
    refine callWp_of (h4 s hs) ?_
    simp only [walk, Nat.reduceLT, Nat.reduceBEq, Nat.reduceAdd, Nat.reduceLeDiff, reduceIte, Int.reduceLT, Int.reduceLE, Int.reduceEq, Int.reduceToNat, Int.reduceBEq, beq_self_eq_true]
    refine callWp_of (h5 [] [] (by simp)) ?_
    simp only [walk, Nat.reduceLT, Nat.reduceBEq, Nat.reduceAdd, Nat.reduceLeDiff, reduceIte, Int.reduceLT, Int.reduceLE, Int.reduceEq, Int.reduceToNat, Int.reduceBEq, beq_self_eq_true]
    refine callWp_of hA ?_
    simp only [walk, Nat.reduceLT, Nat.reduceBEq, Nat.reduceAdd, Nat.reduceLeDiff, reduceIte, Int.reduceLT, Int.reduceLE, Int.reduceEq, Int.reduceToNat, Int.reduceBEq]
  | some l =>
    have hll := hsp l hr
    simp at hll
    simp only [walk, Nat.reduceLT, Nat.reduceBEq, Nat.reduceAdd, Nat.reduceLeDiff, reduceIte, Int.reduceLT, Int.reduceLE, Int.reduceEq, Int.reduceToNat, Int.reduceBEq, splP]
    refine callWp_of (h2 s hs) ?_
    simp only [walk, Nat.reduceLT, Nat.reduceBEq, Nat.reduceAdd, Nat.reduceLeDiff, reduceIte, Int.reduceLT, Int.reduceLE, Int.reduceEq, Int.reduceToNat, Int.reduceBEq, hr, splP]
    refine callWp_of (h3 s hs) ?_
    simp only [walk, Nat.reduceLT, Nat.reduceBEq, Nat.reduceAdd, Nat.reduceLeDiff, reduceIte, Int.reduceLT, Int.reduceLE, Int.reduceEq, Int.reduceToNat, Int.reduceBEq]
    refine callWp_of (h4 s hs) ?_
    simp only [walk, Nat.reduceLT, Nat.reduceBEq, Nat.reduceAdd, Nat.reduceLeDiff, reduceIte, Int.reduceLT, Int.reduceLE, Int.reduceEq, Int.reduceToNat, Int.reduceBEq, beq_self_eq_true]
    refine callWp_of (h5 l l (by omega)) ?_
    simp only [walk, Nat.reduceLT, Nat.reduceBEq, Nat.reduceAdd, Nat.reduceLeDiff, reduceIte, Int.reduceLT, Int.reduceLE, Int.reduceEq, Int.reduceToNat, Int.reduceBEq, beq_self_eq_true]
    refine callWp_of hA ?_
    simp only [walk, Nat.reduceLT, Nat.reduceBEq, Nat.reduceAdd, Nat.reduceLeDiff, reduceIte, Int.reduceLT, Int.reduceLE, Int.reduceEq, Int.reduceToNat, Int.reduceBEq]
def S_nB (R : Rel) : Prop := ∀ l : List (List UInt8), R [.v (.sl 1 (xRows l))] (.val (.bool true)) []
theorem g_NameBack (hA : S_yes (C (F n_plaw03_awake))) (h1 : S_split (C (F n_name_Split))) (h3 : S_quote (C (F n_name_Quote))) (h5 : S_xSame (C (F n_pref03_Same))) : S_nB ((c_plaw03_NameBack F).gives C) := by
  intro l
  refine gives_of rfl ?_
  unfold c_plaw03_NameBack
  simp only [walk, Nat.reduceLT, Nat.reduceBEq, Nat.reduceAdd, Nat.reduceLeDiff, reduceIte, Int.reduceLT, Int.reduceLE, Int.reduceEq, Int.reduceToNat, Int.reduceBEq, xRows_len, gt_iff_lt]
  by_cases h0 : l.length = 0
  · have h0' : ((l.length : Int) == 0) = true := by rw [beq_iff_eq]; omega
    simp only [walk, Nat.reduceLT, Nat.reduceBEq, Nat.reduceAdd, Nat.reduceLeDiff, reduceIte, Int.reduceLT, Int.reduceLE, Int.reduceEq, Int.reduceToNat, Int.reduceBEq, h0']
    refine callWp_of hA ?_
    simp only [walk, Nat.reduceLT, Nat.reduceBEq, Nat.reduceAdd, Nat.reduceLeDiff, reduceIte, Int.reduceLT, Int.reduceLE, Int.reduceEq, Int.reduceToNat, Int.reduceBEq]
  have h0' : ((l.length : Int) == 0) = false := by rw [beq_eq_false_iff_ne]; omega
  by_cases h12 : 12 < l.length
  · have h12' : (12 : Int) < l.length := by omega
    simp only [walk, Nat.reduceLT, Nat.reduceBEq, Nat.reduceAdd, Nat.reduceLeDiff, reduceIte, Int.reduceLT, Int.reduceLE, Int.reduceEq, Int.reduceToNat, Int.reduceBEq, h0', h12', xRows_len]
    refine callWp_of hA ?_
    simp only [walk, Nat.reduceLT, Nat.reduceBEq, Nat.reduceAdd, Nat.reduceLeDiff, reduceIte, Int.reduceLT, Int.reduceLE, Int.reduceEq, Int.reduceToNat, Int.reduceBEq]
  have h12' : ¬ (12 : Int) < l.length := by omega
  simp only [walk, Nat.reduceLT, Nat.reduceBEq, Nat.reduceAdd, Nat.reduceLeDiff, reduceIte, Int.reduceLT, Int.reduceLE, Int.reduceEq, Int.reduceToNat, Int.reduceBEq, h0', h12', xRows_len]
  refine awp_loop_ind (X := Nat) (fun k => ⟨[(0, .val (.sl 1 (xRows l))), (2, .val (.bool false)), (3, .val (.str (joinQ (l.take k)))), (4, .val (.int .i64 k)), (14, .val (.bool false))], []⟩)
    (fun k => k ≤ l.length ∧ (joinQ (l.take k)).length ≤ 201 * k) (fun k => l.length - k) 0 ⟨by omega, by simp [joinQ]⟩ (by simp [joinQ]) ?_
  rintro R k ⟨hk, hJ⟩ ih
  simp only [walk, Nat.reduceLT, Nat.reduceBEq, Nat.reduceAdd, Nat.reduceLeDiff, reduceIte, Int.reduceLT, Int.reduceLE, Int.reduceEq, Int.reduceToNat, Int.reduceBEq, xRows_len]
  by_cases c : k < l.length
  · have c1 : (k : Int) < l.length := by omega
    have c0 : (0 : Int) ≤ k := by omega
    have e1 : IntKind.i64.wrap ((k : Int) + 1) = ((k + 1 : Nat) : Int) := wrap64 (by omega) (by omega)
    have step := ih (k + 1)
    simp only [walk, Nat.reduceLT, Nat.reduceBEq, Nat.reduceAdd, Nat.reduceLeDiff, reduceIte, Int.reduceLT, Int.reduceLE, Int.reduceEq, Int.reduceToNat, Int.reduceBEq, c1, xRows_get l k c, gt_iff_lt]
    have ht : l.take (k + 1) = l.take k ++ [l[k]] := by rw [List.take_add_one, List.getElem?_eq_getElem c]; rfl
    rw [ht, joinQ_app] at step
    have hq := quo_len l[k]
    have hlen : (l.take k = []) ↔ k = 0 := by
      rw [List.take_eq_nil_iff]
      constructor
      · rintro (h | h)
        · exact h
        · rw [h] at c; simp at c
      · exact .inl
    generalize hw : l[k] = w at step hq
    by_cases h100 : 100 < w.length
    · have h100' : (100 : Int) < w.length := by omega
      simp only [walk, Nat.reduceLT, Nat.reduceBEq, Nat.reduceAdd, Nat.reduceLeDiff, reduceIte, Int.reduceLT, Int.reduceLE, Int.reduceEq, Int.reduceToNat, Int.reduceBEq, h100']
      refine callWp_of hA ?_
      simp only [walk, Nat.reduceLT, Nat.reduceBEq, Nat.reduceAdd, Nat.reduceLeDiff, reduceIte, Int.reduceLT, Int.reduceLE, Int.reduceEq, Int.reduceToNat, Int.reduceBEq]
    · have h100' : ¬ (100 : Int) < w.length := by omega
      simp only [walk, Nat.reduceLT, Nat.reduceBEq, Nat.reduceAdd, Nat.reduceLeDiff, reduceIte, Int.reduceLT, Int.reduceLE, Int.reduceEq, Int.reduceToNat, Int.reduceBEq, h100', gt_iff_lt]
      by_cases hk0 : k = 0
      · have hk0' : ¬ (0 : Int) < k := by omega
        rw [if_pos (hlen.2 hk0)] at step
        simp only [walk, Nat.reduceLT, Nat.reduceBEq, Nat.reduceAdd, Nat.reduceLeDiff, reduceIte, Int.reduceLT, Int.reduceLE, Int.reduceEq, Int.reduceToNat, Int.reduceBEq, hk0', xRows_get l k c, hw]
        refine callWp_of (h3 w (by omega)) ?_
        simp only [walk, Nat.reduceLT, Nat.reduceBEq, Nat.reduceAdd, Nat.reduceLeDiff, reduceIte, Int.reduceLT, Int.reduceLE, Int.reduceEq, Int.reduceToNat, Int.reduceBEq]
        rw [bins_add (by omega)]
        have e2 : joinQ (l.take k) = [] := by rw [hlen.2 hk0]; rfl
        simp only [walk, Nat.reduceLT, Nat.reduceBEq, Nat.reduceAdd, Nat.reduceLeDiff, reduceIte, Int.reduceLT, Int.reduceLE, Int.reduceEq, Int.reduceToNat, Int.reduceBEq, e1, e2, List.nil_append]
        exact step ⟨by omega, by omega⟩ (by omega)
      · have hk0' : (0 : Int) < k := by omega
        rw [if_neg (fun h => hk0 (hlen.1 h))] at step
        simp only [walk, Nat.reduceLT, Nat.reduceBEq, Nat.reduceAdd, Nat.reduceLeDiff, reduceIte, Int.reduceLT, Int.reduceLE, Int.reduceEq, Int.reduceToNat, Int.reduceBEq, hk0']
        rw [bins_add (by simp; omega)]
        simp only [walk, Nat.reduceLT, Nat.reduceBEq, Nat.reduceAdd, Nat.reduceLeDiff, reduceIte, Int.reduceLT, Int.reduceLE, Int.reduceEq, Int.reduceToNat, Int.reduceBEq, xRows_get l k c, hw]
        refine callWp_of (h3 w (by omega)) ?_
        simp only [walk, Nat.reduceLT, Nat.reduceBEq, Nat.reduceAdd, Nat.reduceLeDiff, reduceIte, Int.reduceLT, Int.reduceLE, Int.reduceEq, Int.reduceToNat, Int.reduceBEq]
        rw [bins_add (by simp; omega)]
        simp only [walk, Nat.reduceLT, Nat.reduceBEq, Nat.reduceAdd, Nat.reduceLeDiff, reduceIte, Int.reduceLT, Int.reduceLE, Int.reduceEq, Int.reduceToNat, Int.reduceBEq, e1]
        rw [List.append_assoc]
        exact step ⟨by omega, by simp; omega⟩ (by omega)
  · have c1 : ¬ (k : Int) < l.length := by omega
    rw [List.take_of_length_le (by omega)] at hJ ⊢
    have hne : l ≠ [] := by rintro rfl; simp at h0
    simp only [walk, Nat.reduceLT, Nat.reduceBEq, Nat.reduceAdd, Nat.reduceLeDiff, reduceIte, Int.reduceLT, Int.reduceLE, Int.reduceEq, Int.reduceToNat, Int.reduceBEq, c1]
    refine callWp_of (h1 _ (by omega)) ?_
    simp only [walk, Nat.reduceLT, Nat.reduceBEq, Nat.reduceAdd, Nat.reduceLeDiff, reduceIte, Int.reduceLT, Int.reduceLE, Int.reduceEq, Int.reduceToNat, Int.reduceBEq, spl_join l hne, splP]
    refine callWp_of (h5 l l (by omega)) ?_
    simp only [walk, Nat.reduceLT, Nat.reduceBEq, Nat.reduceAdd, Nat.reduceLeDiff, reduceIte, Int.reduceLT, Int.reduceLE, Int.reduceEq, Int.reduceToNat, Int.reduceBEq, beq_self_eq_true]
    refine callWp_of hA ?_
    simp only [walk, Nat.reduceLT, Nat.reduceBEq, Nat.reduceAdd, Nat.reduceLeDiff, reduceIte, Int.reduceLT, Int.reduceLE, Int.reduceEq, Int.reduceToNat, Int.reduceBEq]
end
end Go.AR
