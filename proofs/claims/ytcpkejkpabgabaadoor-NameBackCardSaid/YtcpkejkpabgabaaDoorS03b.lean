import Derived.Test.YtcpkejkpabgabaaDoorK03
import Derived.Test.YtcpkejkpabgabaaDoorK03b
import Derived.Test.YtcpkejkpabgabaaDoorS03
import Derived.Test.YtcpkejkpabgabaaDoorD03
import Derived.Test.YtcpkejkpabgabaaDoorDec
set_option linter.all false
/-! Names: characters. -/
namespace Go.AR
open Go
section
variable {C : CallRel} {F : Nat → FuncId}
def iRows (k : IntKind) (l : List Int) : List (List PV) := l.map fun c => [.int k c]
theorem iRows_len (k : IntKind) (l : List Int) : (iRows k l).length = l.length := by simp [iRows]
theorem iRows_app (k : IntKind) (l : List Int) (c : Int) : iRows k l ++ [[.int k c]] = iRows k (l ++ [c]) := by simp [iRows]
theorem iRows_get (k : IntKind) (l : List Int) (i : Nat) (h : i < l.length) : (iRows k l)[i]? = some [.int k l[i]] := by simp [iRows, h]
theorem runesOf_iRows (l : List Int) : runesOf (iRows .i32 l) = some l := by
  induction l with
  | nil => rfl
  | cons c l ih => simp only [iRows, List.map_cons] at ih ⊢; simp only [runesOf, ih]
theorem encs_app (l : List Int) (c : Int) : encs (l ++ [c]) = encs l ++ (Utf8.encode c).data.toList := by simp [encs]
def runesP (k : IntKind) : Option (List Int) → PV
  | some l => .tup [.sl 1 (iRows k l), .bool true]
  | none => .tup [.sl 1 [], .bool false]
def S_may (k : IntKind) (R : Rel) : Prop := ∀ c : Int, R [.v (.int k c)] (.val (.bool (mayB c))) []
def S_runes (k : IntKind) (R : Rel) : Prop := ∀ s : List UInt8, s.length ≤ 1000000 → R [.v (.str s)] (.val (runesP k (runes s []))) []
def S_right (R : Rel) : Prop := ∀ s : List UInt8, s.length ≤ 1000000 → R [.v (.str s)] (.val (.bool (rightB s))) []
def S_clean (R : Rel) : Prop := ∀ s : List UInt8, s.length ≤ 1000000 → R [.v (.str s)] (.val (.str (clean s [] 0))) []
def S_chr (R : Rel) : Prop := ∀ s : List UInt8, s.length ≤ 1000000 → R [.v (.str s)] (.val (.tup [.int .i64 (chr s).1, .int .i64 (chr s).2])) []
theorem runes_len : ∀ (k : Nat) (l : List UInt8) (out cs : List Int), l.length ≤ k → runes l out = some cs → cs.length ≤ out.length + l.length
  | k, [], out, cs, _, h => by
    rw [runes_nil] at h
    cases h; simp
  | 0, b :: l, out, cs, hk, h => by simp at hk
  | k + 1, b :: l, out, cs, hk, h => by
    by_cases h2 : (chr (b :: l)).2 = 0
    · rw [runes_none _ (by simp) h2] at h; cases h
    · rw [runes_some _ (by simp) h2] at h
      have hle := (chr_le (b :: l)).1
      have := runes_len k _ _ _ (by rw [List.length_drop]; simp at hk ⊢; omega) h
      rw [List.length_append, List.length_drop] at this
      simp at this ⊢
      omega
theorem drop_lt_ne (s : List UInt8) (k : Nat) (h : k < s.length) : s.drop k ≠ [] := fun e => by
  have := congrArg List.length e
  rw [List.length_drop] at this; simp at this; omega
theorem g_name_may : S_may .i32 ((c_name_may F).gives C) := by
  intro c
  refine gives_of rfl ?_
  unfold c_name_may
  simp only [walk, Nat.reduceLT, Nat.reduceBEq, Nat.reduceAdd, Nat.reduceLeDiff, reduceIte, Int.reduceLT, Int.reduceLE, Int.reduceEq, Int.reduceToNat, Int.reduceBEq]
  by_cases h1 : c < 32
  · simp only [walk, Nat.reduceLT, Nat.reduceBEq, Nat.reduceAdd, Nat.reduceLeDiff, reduceIte, Int.reduceLT, Int.reduceLE, Int.reduceEq, Int.reduceToNat, Int.reduceBEq, h1, mayB]
  · simp only [walk, Nat.reduceLT, Nat.reduceBEq, Nat.reduceAdd, Nat.reduceLeDiff, reduceIte, Int.reduceLT, Int.reduceLE, Int.reduceEq, Int.reduceToNat, Int.reduceBEq, h1, mayB, ge_iff_le]
    by_cases h2 : 127 ≤ c
    · simp only [walk, Nat.reduceLT, Nat.reduceBEq, Nat.reduceAdd, Nat.reduceLeDiff, reduceIte, Int.reduceLT, Int.reduceLE, Int.reduceEq, Int.reduceToNat, Int.reduceBEq, h2]
      by_cases h3 : c < 160
      · simp only [walk, Nat.reduceLT, Nat.reduceBEq, Nat.reduceAdd, Nat.reduceLeDiff, reduceIte, Int.reduceLT, Int.reduceLE, Int.reduceEq, Int.reduceToNat, Int.reduceBEq, h3]
      · simp only [walk, Nat.reduceLT, Nat.reduceBEq, Nat.reduceAdd, Nat.reduceLeDiff, reduceIte, Int.reduceLT, Int.reduceLE, Int.reduceEq, Int.reduceToNat, Int.reduceBEq, h3]
    · simp only [walk, Nat.reduceLT, Nat.reduceBEq, Nat.reduceAdd, Nat.reduceLeDiff, reduceIte, Int.reduceLT, Int.reduceLE, Int.reduceEq, Int.reduceToNat, Int.reduceBEq, h2]
theorem g_name_Runes (hD : S_dec (C (F n_unicode_utf8_DecodeRuneInString))) : S_runes .i32 ((c_name_Runes F).gives C) := by
  intro s hs
  refine gives_of rfl ?_
  unfold c_name_Runes
  simp only [walk, Nat.reduceLT, Nat.reduceBEq, Nat.reduceAdd, Nat.reduceLeDiff, reduceIte, Int.reduceLT, Int.reduceLE, Int.reduceEq, Int.reduceToNat, Int.reduceBEq]
  refine awp_loop_ind (X := Nat × List Int) (fun x => ⟨[(0, .val (.str s)), (2, .own 1 []), (3, .val (.bool false)), (4, .own 1 (iRows .i32 x.2)), (10, .lp 10 0)], [(10, .iter s x.1)]⟩)
    (fun x => x.1 ≤ s.length ∧ x.2.length ≤ x.1 ∧ runes (s.drop x.1) x.2 = runes s []) (fun x => s.length - x.1) (0, []) ⟨by omega, by simp, rfl⟩ (by simp [iRows]) ?_
  rintro R ⟨k, out⟩ ⟨hk, ho, hJ⟩ ih
  simp only at hk ho hJ
  have hb2 : (out.length + 1) * 4 ≤ 140737488355328 := by omega
  simp only [walk, Nat.reduceLT, Nat.reduceBEq, Nat.reduceAdd, Nat.reduceLeDiff, reduceIte, Int.reduceLT, Int.reduceLE, Int.reduceEq, Int.reduceToNat, Int.reduceBEq]
  by_cases c : k < s.length
  · have hne := drop_lt_ne s k c
    have hdec := decB_chr s k c
    have hle := (chr_le (s.drop k)).1
    rw [List.length_drop] at hle
    have c0 : (0 : Int) ≤ k := by omega
    have c1 : (k : Int) ≤ s.length := by omega
    have hcut : (s.drop k).take (s.length - k) = s.drop k := List.take_of_length_le (by rw [List.length_drop]; omega)
    by_cases h0 : (chr (s.drop k)).2 = 0
    · rw [if_pos h0] at hdec
      rw [runes_none _ hne h0] at hJ
      simp only [walk, Nat.reduceLT, Nat.reduceBEq, Nat.reduceAdd, Nat.reduceLeDiff, reduceIte, Int.reduceLT, Int.reduceLE, Int.reduceEq, Int.reduceToNat, Int.reduceBEq, c, hdec]
      simp only [walk, Nat.reduceLT, Nat.reduceBEq, Nat.reduceAdd, Nat.reduceLeDiff, reduceIte, Int.reduceLT, Int.reduceLE, Int.reduceEq, Int.reduceToNat, Int.reduceBEq, c0, c1, hcut]
      refine callWp_of (hD (s.drop k)) ?_
      have e : decG (s.drop k) = (65533, 1) := by unfold decG; rw [if_neg hne, if_pos h0]
      simp only [walk, Nat.reduceLT, Nat.reduceBEq, Nat.reduceAdd, Nat.reduceLeDiff, reduceIte, Int.reduceLT, Int.reduceLE, Int.reduceEq, Int.reduceToNat, Int.reduceBEq, decP, e, ← hJ, runesP]
    · rw [if_neg h0] at hdec
      rw [runes_some _ hne h0, List.drop_drop] at hJ
      have e : decG (s.drop k) = chr (s.drop k) := by unfold decG; rw [if_neg hne, if_neg h0]
      have h1 : (chr (s.drop k)).1 = 65533 → ¬ (((chr (s.drop k)).2 : Nat) : Int) ≤ 1 := fun hc hle1 => by
        have h11 : (chr (s.drop k)).2 = 1 := by omega
        have := chr_N (s.drop k) hne
        rw [this] at hc h11
        unfold chrN at hc h11
        repeat' split at h11
        all_goals simp at h11
        rename_i hlt
        rw [if_pos hlt] at hc
        simp only at hc; omega
      have step := ih (k + (chr (s.drop k)).2, out ++ [((chr (s.drop k)).1 : Int)]) ⟨by simp only; omega, by simp; omega, hJ⟩ (by simp only; omega)
      rw [← iRows_app] at step
      generalize chr (s.drop k) = x at hdec e h1 step
      obtain ⟨x, n⟩ := x
      simp only at hdec h1 step
      simp only [walk, Nat.reduceLT, Nat.reduceBEq, Nat.reduceAdd, Nat.reduceLeDiff, reduceIte, Int.reduceLT, Int.reduceLE, Int.reduceEq, Int.reduceToNat, Int.reduceBEq, c, hdec]
      by_cases hx : x = 65533
      · have hx' : ((x : Int) == 65533) = true := by rw [beq_iff_eq]; omega
        simp only [walk, Nat.reduceLT, Nat.reduceBEq, Nat.reduceAdd, Nat.reduceLeDiff, reduceIte, Int.reduceLT, Int.reduceLE, Int.reduceEq, Int.reduceToNat, Int.reduceBEq, hx', c0, c1, hcut]
        refine callWp_of (hD (s.drop k)) ?_
        have h2 := h1 hx
        simp only [walk, Nat.reduceLT, Nat.reduceBEq, Nat.reduceAdd, Nat.reduceLeDiff, reduceIte, Int.reduceLT, Int.reduceLE, Int.reduceEq, Int.reduceToNat, Int.reduceBEq, decP, e, h2, iRows_len, hb2]
        exact step
      · have hx' : ((x : Int) == 65533) = false := by rw [beq_eq_false_iff_ne]; omega
        simp only [walk, Nat.reduceLT, Nat.reduceBEq, Nat.reduceAdd, Nat.reduceLeDiff, reduceIte, Int.reduceLT, Int.reduceLE, Int.reduceEq, Int.reduceToNat, Int.reduceBEq, hx', iRows_len, hb2]
        exact step
  · rw [List.drop_eq_nil_of_le (by omega), runes_nil] at hJ
    simp only [walk, Nat.reduceLT, Nat.reduceBEq, Nat.reduceAdd, Nat.reduceLeDiff, reduceIte, Int.reduceLT, Int.reduceLE, Int.reduceEq, Int.reduceToNat, Int.reduceBEq, c, ← hJ, runesP]
theorem g_name_Right (hR : S_runes .i32 (C (F n_name_Runes))) (hM : S_may .i32 (C (F n_name_may))) : S_right ((c_name_Right F).gives C) := by
  intro s hs
  refine gives_of rfl ?_
  unfold c_name_Right
  simp only [walk, Nat.reduceLT, Nat.reduceBEq, Nat.reduceAdd, Nat.reduceLeDiff, reduceIte, Int.reduceLT, Int.reduceLE, Int.reduceEq, Int.reduceToNat, Int.reduceBEq]
  refine callWp_of (hR s hs) ?_
  unfold rightB
  cases hr : runes s [] with
  | none => simp only [walk, Nat.reduceLT, Nat.reduceBEq, Nat.reduceAdd, Nat.reduceLeDiff, reduceIte, Int.reduceLT, Int.reduceLE, Int.reduceEq, Int.reduceToNat, Int.reduceBEq, runesP]
  | some l =>
    have hl := runes_len s.length s [] l (Nat.le_refl _) hr
    simp only [List.length_nil, Nat.zero_add] at hl
    simp only [walk, Nat.reduceLT, Nat.reduceBEq, Nat.reduceAdd, Nat.reduceLeDiff, reduceIte, Int.reduceLT, Int.reduceLE, Int.reduceEq, Int.reduceToNat, Int.reduceBEq, runesP, iRows_len]
    by_cases h1 : l.length = 0
    · have h1' : ((l.length : Int) == 0) = true := by rw [beq_iff_eq]; omega
      have h2 : ¬ 1 ≤ l.length := by omega
      simp only [walk, Nat.reduceLT, Nat.reduceBEq, Nat.reduceAdd, Nat.reduceLeDiff, reduceIte, Int.reduceLT, Int.reduceLE, Int.reduceEq, Int.reduceToNat, Int.reduceBEq, h1', h2]
    · have h1' : ((l.length : Int) == 0) = false := by rw [beq_eq_false_iff_ne]; omega
      have h2 : 1 ≤ l.length := by omega
      by_cases h3 : 24 < l.length
      · have h3' : (24 : Int) < l.length := by omega
        have h4 : ¬ l.length ≤ 24 := by omega
        simp only [walk, Nat.reduceLT, Nat.reduceBEq, Nat.reduceAdd, Nat.reduceLeDiff, reduceIte, Int.reduceLT, Int.reduceLE, Int.reduceEq, Int.reduceToNat, Int.reduceBEq, h1', h2, gt_iff_lt, iRows_len, h3', h4]
      · have h3' : ¬ (24 : Int) < l.length := by omega
        have h4 : l.length ≤ 24 := by omega
        simp only [walk, Nat.reduceLT, Nat.reduceBEq, Nat.reduceAdd, Nat.reduceLeDiff, reduceIte, Int.reduceLT, Int.reduceLE, Int.reduceEq, Int.reduceToNat, Int.reduceBEq, h1', h2, gt_iff_lt, iRows_len, h3', h4]
        refine awp_loop_ind (X := Nat) (fun k => ⟨[(0, .val (.str s)), (2, .val (.bool false)), (3, .val (.sl 1 (iRows .i32 l))), (4, .val (.bool true)), (23, .val (.bool false)), (24, .val (.sl 1 (iRows .i32 l))), (25, .val (.int .i64 l.length)), (26, .val (.int .i64 k))], []⟩)
          (fun k => k ≤ l.length ∧ (l.take k).all mayB = true) (fun k => l.length - k) 0 ⟨by omega, by simp⟩ rfl ?_
        rintro R k ⟨hk, hJ⟩ ih
        simp only [walk, Nat.reduceLT, Nat.reduceBEq, Nat.reduceAdd, Nat.reduceLeDiff, reduceIte, Int.reduceLT, Int.reduceLE, Int.reduceEq, Int.reduceToNat, Int.reduceBEq]
        by_cases c : k < l.length
        · have c1 : (k : Int) < l.length := by omega
          have c0 : (0 : Int) ≤ k := by omega
          have e1 : IntKind.i64.wrap ((k : Int) + 1) = ((k + 1 : Nat) : Int) := wrap64 (by omega) (by omega)
          have hg := iRows_get .i32 l k c
          simp only [walk, Nat.reduceLT, Nat.reduceBEq, Nat.reduceAdd, Nat.reduceLeDiff, reduceIte, Int.reduceLT, Int.reduceLE, Int.reduceEq, Int.reduceToNat, Int.reduceBEq, c1, hg]
          refine callWp_of (hM l[k]) ?_
          by_cases hm : mayB l[k] = true
          · simp only [walk, Nat.reduceLT, Nat.reduceBEq, Nat.reduceAdd, Nat.reduceLeDiff, reduceIte, Int.reduceLT, Int.reduceLE, Int.reduceEq, Int.reduceToNat, Int.reduceBEq, hm, e1]
            refine ih (k + 1) ⟨by omega, ?_⟩ (by omega)
            rw [List.take_add_one, List.getElem?_eq_getElem c, List.all_append, hJ]
            simp [hm]
          · have hf : l.all mayB = false := by
              rw [Bool.eq_false_iff]
              intro h
              exact hm (List.all_eq_true.1 h _ (List.getElem_mem c))
            simp only [walk, Nat.reduceLT, Nat.reduceBEq, Nat.reduceAdd, Nat.reduceLeDiff, reduceIte, Int.reduceLT, Int.reduceLE, Int.reduceEq, Int.reduceToNat, Int.reduceBEq, hm, hf]
        · have c1 : ¬ (k : Int) < l.length := by omega
          rw [List.take_of_length_le (by omega)] at hJ
          simp only [walk, Nat.reduceLT, Nat.reduceBEq, Nat.reduceAdd, Nat.reduceLeDiff, reduceIte, Int.reduceLT, Int.reduceLE, Int.reduceEq, Int.reduceToNat, Int.reduceBEq, c1, hJ]
end
end Go.AR
