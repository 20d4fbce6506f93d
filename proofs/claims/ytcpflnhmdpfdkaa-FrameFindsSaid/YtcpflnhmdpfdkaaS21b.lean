import Derived.Test.YtcpflnhmdpfdkaaS21
import Derived.Test.YtcpflnhmdpfdkaaS02x
set_option linter.all false
/-! Frames: the document's; and rows of texts. -/
namespace Go.AR
open Go
section
variable {C : CallRel} {F : Nat → FuncId}
theorem g_pref21_Cut (hI : S_xInt (C (F n_pref02_Reader_Int))) (hO : S_of (C (F n_pref01_Of))) (hB : S_bytes (C (F n_pref01_Bytes))) : S_fCut ((c_pref21_Cut F).gives C) := by
  intro s hs
  unfold bigLen at hs
  refine gives_of rfl ?_
  unfold c_pref21_Cut
  simp only [walk, Nat.reduceLT, Nat.reduceBEq, Nat.reduceAdd, Nat.reduceLeDiff, reduceIte, Int.reduceLT, Int.reduceLE, Int.reduceEq, Int.reduceToNat, Int.reduceBEq]
  have hx := hI s 0 0 (by unfold sLen; omega) (Nat.zero_le _)
  simp only [xdr] at hx
  refine callWp_of hx ?_
  obtain ⟨q1, q2, q3⟩ := xI_rI s 0 0
  have hle := xI_le s 0 0 (Nat.zero_le _)
  have hl := rI_lt s 0
  rw [List.drop_zero] at q1 q2 q3
  unfold fCut
  rw [← q1, ← q2, ← q3]
  rw [← q1] at hl
  generalize xI s 0 0 = r at hle hl
  obtain ⟨n, k, b⟩ := r
  simp only at hle hl ⊢
  have ld : (s.drop k).length = s.length - k := List.length_drop
  rw [ld]
  by_cases hb : b = 0
  · subst hb
    have b0 : ((0 : Int) != 0) = false := rfl
    have n0 : ((0 : Int) ≠ 0) ↔ False := by simp
    by_cases c1 : n > 1048576
    · simp only [walk, Nat.reduceLT, Nat.reduceBEq, Nat.reduceAdd, Nat.reduceLeDiff, reduceIte, Int.reduceLT, Int.reduceLE, Int.reduceEq, Int.reduceToNat, Int.reduceBEq, b0, c1, n0, if_false]
    · have e1 : IntKind.i64.wrap ((s.length : Int) - k) = s.length - k := wrap64 (by omega) (by omega)
      have e2 : IntKind.i64.wrap ((s.length : Int) - k - 4) = s.length - k - 4 := wrap64 (by omega) (by omega)
      by_cases c2 : (s.length : Int) - k - 4 < n
      · have c2' : n + 4 > ((s.length - k : Nat) : Int) := by omega
        simp only [walk, Nat.reduceLT, Nat.reduceBEq, Nat.reduceAdd, Nat.reduceLeDiff, reduceIte, Int.reduceLT, Int.reduceLE, Int.reduceEq, Int.reduceToNat, Int.reduceBEq, b0, c1, n0, if_false, e1, e2, c2, c2']
      · have c2' : ¬ n + 4 > ((s.length - k : Nat) : Int) := by omega
        obtain ⟨m, rfl⟩ : ∃ m : Nat, n = m := ⟨n.toNat, by omega⟩
        have e3 : IntKind.i64.wrap ((k : Int) + m) = ((k + m : Nat) : Int) := wrap64 (by omega) (by omega)
        have e4 : IntKind.i64.wrap (((k + m : Nat) : Int) + 4) = ((k + m + 4 : Nat) : Int) := wrap64 (by omega) (by omega)
        have e5 : ((k + m : Nat) : Int) ≤ s.length := by omega
        have e6 : (0 : Int) ≤ ((k + m : Nat) : Int) := by omega
        have e7 : ((k + m + 4 : Nat) : Int) ≤ s.length := by omega
        have e8 : ((k + m : Nat) : Int) ≤ ((k + m + 4 : Nat) : Int) := by omega
        have e9 : (0 : Int) ≤ k := by omega
        have e10 : (k : Int) ≤ ((k + m : Nat) : Int) := by omega
        have e11 : (0 : Int) ≤ ((k + m + 4 : Nat) : Int) := by omega
        simp only [walk, Nat.reduceLT, Nat.reduceBEq, Nat.reduceAdd, Nat.reduceLeDiff, reduceIte, Int.reduceLT, Int.reduceLE, Int.reduceEq, Int.reduceToNat, Int.reduceBEq, b0, c1, n0, if_false, e1, e2, c2, c2', e3, e5, e6]
        refine callWp_of (hO _ (by rw [List.length_take]; omega)) ?_
        simp only [walk, Nat.reduceLT, Nat.reduceBEq, Nat.reduceAdd, Nat.reduceLeDiff, reduceIte, Int.reduceLT, Int.reduceLE, Int.reduceEq, Int.reduceToNat, Int.reduceBEq]
        refine callWp_of (hB _) ?_
        have f1 : s.length - (s.length - k) + m = k + m := by omega
        have f2 : k + m + 4 - (k + m) = 4 := by omega
        have f3 : k + m - k = m := by omega
        have f4 : (s.drop k).drop (m + 4) = s.drop (k + m + 4) := by rw [List.drop_drop, Nat.add_assoc]
        by_cases c3 : bytes4 (more 0 (s.take (k + m))) = (s.drop (k + m)).take 4
        · have c3' : (bytes4 (more 0 (s.take (k + m))) == (s.drop (k + m)).take 4) = true := beq_iff_eq.2 c3
          have c3e := eq_true c3
          simp only [walk, Nat.reduceLT, Nat.reduceBEq, Nat.reduceAdd, Nat.reduceLeDiff, reduceIte, Int.reduceLT, Int.reduceLE, Int.reduceEq, Int.reduceToNat, Int.reduceBEq, e3, e4, e5, e6, e7, e8, e9, e10, e11, f1, f2, f3, f4, c3', c3e, if_true]
        · have c3' : (bytes4 (more 0 (s.take (k + m))) == (s.drop (k + m)).take 4) = false := by rw [← Bool.not_eq_true, beq_iff_eq]; exact c3
          have c3e := eq_false c3
          simp only [walk, Nat.reduceLT, Nat.reduceBEq, Nat.reduceAdd, Nat.reduceLeDiff, reduceIte, Int.reduceLT, Int.reduceLE, Int.reduceEq, Int.reduceToNat, Int.reduceBEq, e3, e4, e5, e6, e7, e8, e9, e10, e11, f1, f2, f3, c3', c3e, if_false]
  · have b0 : (b != 0) = true := by simp [hb]
    have n0 : (b ≠ 0) ↔ True := by simp [hb]
    simp only [walk, Nat.reduceLT, Nat.reduceBEq, Nat.reduceAdd, Nat.reduceLeDiff, reduceIte, Int.reduceLT, Int.reduceLE, Int.reduceEq, Int.reduceToNat, Int.reduceBEq, b0, n0, if_true]
/-- The rows of texts. -/
def tRows (l : List (List UInt8)) : List (List PV) := l.map fun s => [.str s]
theorem tRows_len (l : List (List UInt8)) : (tRows l).length = l.length := by simp [tRows]
theorem tRows_get (l : List (List UInt8)) (i : Nat) : (tRows l)[i]? = (l[i]?).map fun s => [.str s] := by simp [tRows]
theorem tRows_app (l : List (List UInt8)) (s : List UInt8) : tRows l ++ [[.str s]] = tRows (l ++ [s]) := by simp [tRows]
def S_same (R : Rel) : Prop := ∀ a b : List (List UInt8), a.length ≤ 9223372036854775807 → R [.v (.sl 1 (tRows a)), .v (.sl 1 (tRows b))] (.val (.bool (a == b))) []
theorem same_upto {α : Type} [BEq α] [LawfulBEq α] {a b : List α} (hl : a.length = b.length) (h : ∀ j, j < a.length → a[j]? = b[j]?) : a = b := by
  apply List.ext_getElem?
  intro j
  by_cases hj : j < a.length
  · exact h j hj
  · rw [List.getElem?_eq_none (by omega), List.getElem?_eq_none (by omega)]
theorem g_pref03_Same : S_same ((c_pref03_Same F).gives C) := by
  intro a b hla
  refine gives_of rfl ?_
  unfold c_pref03_Same
  simp only [walk, Nat.reduceLT, Nat.reduceBEq, Nat.reduceAdd, Nat.reduceLeDiff, reduceIte, Int.reduceLT, Int.reduceLE, Int.reduceEq, Int.reduceToNat, Int.reduceBEq, tRows_len]
  by_cases hl : a.length = b.length
  · have e0 : ((a.length : Int) != b.length) = false := by simp [hl]
    simp only [walk, Nat.reduceLT, Nat.reduceBEq, Nat.reduceAdd, Nat.reduceLeDiff, reduceIte, Int.reduceLT, Int.reduceLE, Int.reduceEq, Int.reduceToNat, Int.reduceBEq, tRows_len, e0]
    refine awp_loop_ind (X := Nat) (fun i => ⟨[(0, .val (.sl 1 (tRows a))), (1, .val (.sl 1 (tRows b))), (4, .val (.bool false)), (5, .val (.int .i64 i)), (10, .val (.bool false))], []⟩)
      (fun i => i ≤ a.length ∧ ∀ j, j < i → a[j]? = b[j]?) (fun i => a.length - i) 0 ⟨by omega, by intro j hj; omega⟩ rfl ?_
    rintro R i ⟨hi, hj⟩ ih
    simp only [walk, Nat.reduceLT, Nat.reduceBEq, Nat.reduceAdd, Nat.reduceLeDiff, reduceIte, Int.reduceLT, Int.reduceLE, Int.reduceEq, Int.reduceToNat, Int.reduceBEq, tRows_len]
    by_cases h : i = a.length
    · have h1 : ¬ ((i : Int) < a.length) := by omega
      have e : (a == b) = true := by rw [beq_iff_eq]; exact same_upto hl (fun j hlt => hj j (by omega))
      simp only [h1, e, walk, Nat.reduceLT, Nat.reduceBEq, Nat.reduceAdd, Nat.reduceLeDiff, reduceIte, Int.reduceLT, Int.reduceLE, Int.reduceEq, Int.reduceToNat, Int.reduceBEq]
    · have h1 : ((i : Int) < a.length) := by omega
      have i0 : (0 : Int) ≤ i := by omega
      have g1 : a[i]? = some (a[i]'(by omega)) := List.getElem?_eq_getElem _
      have g2 : b[i]? = some (b[i]'(by omega)) := List.getElem?_eq_getElem _
      generalize a[i]'(by omega) = x at g1
      generalize b[i]'(by omega) = y at g2
      by_cases hxy : x = y
      · have e1 : (x == y) = true := by simp [hxy]
        simp only [h1, i0, walk, Nat.reduceLT, Nat.reduceBEq, Nat.reduceAdd, Nat.reduceLeDiff, reduceIte, Int.reduceLT, Int.reduceLE, Int.reduceEq, Int.reduceToNat, Int.reduceBEq, tRows_get, g1, g2, e1]
        rw [wrap64 (by omega) (by omega)]
        refine ih (i + 1) ⟨by omega, fun j hlt => ?_⟩ (by omega)
        by_cases hji : j = i
        · subst hji; rw [g1, g2, hxy]
        · exact hj j (by omega)
      · have e1 : (x == y) = false := by simp [hxy]
        have e : (a == b) = false := by
          rw [← Bool.not_eq_true, beq_iff_eq]
          intro e; rw [e, g2] at g1; exact hxy (Option.some.inj g1).symm
        simp only [h1, i0, walk, Nat.reduceLT, Nat.reduceBEq, Nat.reduceAdd, Nat.reduceLeDiff, reduceIte, Int.reduceLT, Int.reduceLE, Int.reduceEq, Int.reduceToNat, Int.reduceBEq, tRows_get, g1, g2, e1, e]
  · have e0 : ((a.length : Int) != b.length) = true := by simp; omega
    have e : (a == b) = false := by
      rw [← Bool.not_eq_true, beq_iff_eq]; intro e; rw [e] at hl; exact hl rfl
    simp only [walk, Nat.reduceLT, Nat.reduceBEq, Nat.reduceAdd, Nat.reduceLeDiff, reduceIte, Int.reduceLT, Int.reduceLE, Int.reduceEq, Int.reduceToNat, Int.reduceBEq, tRows_len, e0, e]
end
end Go.AR
