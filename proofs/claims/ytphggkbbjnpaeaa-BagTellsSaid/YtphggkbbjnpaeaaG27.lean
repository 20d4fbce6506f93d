import Derived.Test.YtphggkbbjnpaeaaG02
import Derived.Test.YtphggkbbjnpaeaaG03
import Derived.Test.YtphggkbbjnpaeaaG05
import Derived.Test.YtphggkbbjnpaeaaG09
import Derived.Test.YtphggkbbjnpaeaaG10
import Derived.Test.YtphggkbbjnpaeaaG26
import Derived.Test.YtphggkbbjnpaeaaG08
import Derived.Lib.LaidU8
import Derived.Shelf.Unicode.DecodeSlow
set_option linter.all false
/-! Names: characters. -/
namespace Go.AR
open Go
section
variable {C : CallRel} {F : Nat → FuncId}
def iRows (k : IntKind) (l : List Int) : List (List PV) := l.map fun c => [.int k c]
theorem iRows_len (k : IntKind) (l : List Int) : (iRows k l).length = l.length := by simp [iRows]
theorem iRows_app (k : IntKind) (l : List Int) (c : Int) : iRows k l ++ [[.int k c]] = iRows k (l ++ [c]) := by simp [iRows]
theorem iRows_get (k : IntKind) (l : List Int) (i : Nat) (h : i < l.length) : (iRows k l)[i]? = some [.int k l[i]] := by simp [iRows, h]
def runesP (k : IntKind) : Option (List Int) → PV
  | some l => .tup [.sl 1 (iRows k l), .bool true]
  | none => .tup [.sl 1 [], .bool false]
def S_may (k : IntKind) (R : Rel) : Prop := ∀ c : Int, R [.v (.int k c)] (.val (.bool (mayB c))) []
def S_runes (k : IntKind) (R : Rel) : Prop := ∀ s : List UInt8, s.length ≤ 20000000 → R [.v (.str s)] (.val (runesP k (runes s []))) []
def S_right (R : Rel) : Prop := ∀ s : List UInt8, s.length ≤ 20000000 → R [.v (.str s)] (.val (.bool (rightB s))) []
def S_chr (R : Rel) : Prop := ∀ s : List UInt8, s.length ≤ 20000000 → R [.v (.str s)] (.val (.tup [.int .i64 (chr s).1, .int .i64 (chr s).2])) []
theorem runes_len : ∀ (k : Nat) (l : List UInt8) (out cs : List Int), l.length ≤ k → runes l out = some cs → cs.length ≤ out.length + l.length
  | k, [], out, cs, _, h => by
    rw [runes_nil] at h
    cases h; simp
  | 0, b :: l, out, cs, hk, h => by simp at hk
  | k + 1, b :: l, out, cs, hk, h => by
    by_cases h2 : (chr (b :: l)).2 = 0
    · rw [runes_none _ (by simp) h2] at h; cases h
    · rw [runes_some _ (by simp) h2] at h
      have hle := (chr_le (b :: l)).1
      have := runes_len k _ _ _ (by rw [List.length_drop]; simp at hk ⊢; omega) h
      rw [List.length_append, List.length_drop] at this
      simp at this ⊢
      omega
theorem drop_lt_ne (s : List UInt8) (k : Nat) (h : k < s.length) : s.drop k ≠ [] := fun e => by
  have := congrArg List.length e
  rw [List.length_drop] at this; simp at this; omega
end
end Go.AR

/-! Names: the document's characters. -/
namespace Go.AR
open Go
section
variable {C : CallRel} {F : Nat → FuncId}
theorem g_pref03_may : S_may .i64 ((c_pref03_may F).gives C) := by
  intro c
  refine gives_of rfl ?_
  unfold c_pref03_may
  simp only [walk, Nat.reduceLT, Nat.reduceBEq, Nat.reduceAdd, Nat.reduceLeDiff, reduceIte, Int.reduceLT, Int.reduceLE, Int.reduceEq, Int.reduceToNat, Int.reduceBEq]
  by_cases h1 : c < 32
  · have h1' : ¬ (32 ≤ c) := by omega
    simp only [walk, Nat.reduceLT, Nat.reduceBEq, Nat.reduceAdd, Nat.reduceLeDiff, reduceIte, Int.reduceLT, Int.reduceLE, Int.reduceEq, Int.reduceToNat, Int.reduceBEq, ge_iff_le, h1, h1', mayB]
  · have h1' : 32 ≤ c := by omega
    by_cases h2 : c < 127
    · have h2' : ¬ 127 ≤ c := by omega
      simp only [walk, Nat.reduceLT, Nat.reduceBEq, Nat.reduceAdd, Nat.reduceLeDiff, reduceIte, Int.reduceLT, Int.reduceLE, Int.reduceEq, Int.reduceToNat, Int.reduceBEq, ge_iff_le, h1, h1', h2, h2', mayB]
    · have h2' : 127 ≤ c := by omega
      by_cases h3 : c < 160
      · have h3' : ¬ (159 < c) := by omega
        simp only [walk, Nat.reduceLT, Nat.reduceBEq, Nat.reduceAdd, Nat.reduceLeDiff, reduceIte, Int.reduceLT, Int.reduceLE, Int.reduceEq, Int.reduceToNat, Int.reduceBEq, ge_iff_le, gt_iff_lt, h1, h1', h2, h2', h3, h3', mayB]
      · have h3' : 159 < c := by omega
        simp only [walk, Nat.reduceLT, Nat.reduceBEq, Nat.reduceAdd, Nat.reduceLeDiff, reduceIte, Int.reduceLT, Int.reduceLE, Int.reduceEq, Int.reduceToNat, Int.reduceBEq, ge_iff_le, gt_iff_lt, h1, h1', h2, h2', h3, h3', mayB]
set_option maxHeartbeats 20000000 in
set_option maxRecDepth 10000 in
theorem g_pref03_Char : S_chr ((c_pref03_Char F).gives C) := by
  intro s hs
  refine gives_of rfl ?_
  unfold c_pref03_Char
  rcases s with _ | ⟨b, r⟩
  · have e : ((([] : List UInt8).length : Int) == 0) = true := rfl
    simp only [walk, Nat.reduceLT, Nat.reduceBEq, Nat.reduceAdd, Nat.reduceLeDiff, reduceIte, Int.reduceLT, Int.reduceLE, Int.reduceEq, Int.reduceToNat, Int.reduceBEq, chr]
  have hb := b.toNat_lt
  have l0 : (((b :: r).length : Int) == 0) = false := by rw [beq_eq_false_iff_ne]; simp; omega
  have e0 : IntKind.i64.wrap (b.toNat : Int) = b.toNat := wrap64 (by omega) (by omega)
  have hget : ∀ i : Nat, i < r.length → (b :: r)[i + 1]? = r[i]? := fun i _ => by simp
  simp only [List.length_cons] at hs
  rw [chr]
  simp only [walk, Nat.reduceLT, Nat.reduceBEq, Nat.reduceAdd, Nat.reduceLeDiff, reduceIte, Int.reduceLT, Int.reduceLE, Int.reduceEq, Int.reduceToNat, Int.reduceBEq] at l0
  simp only [walk, Nat.reduceLT, Nat.reduceBEq, Nat.reduceAdd, Nat.reduceLeDiff, reduceIte, Int.reduceLT, Int.reduceLE, Int.reduceEq, Int.reduceToNat, Int.reduceBEq, l0, e0, ge_iff_le]
  generalize hx : b.toNat = x at *
  by_cases h0 : x < 128
  · have h0' : (x : Int) < 128 := by omega
    simp only [walk, Nat.reduceLT, Nat.reduceBEq, Nat.reduceAdd, Nat.reduceLeDiff, reduceIte, Int.reduceLT, Int.reduceLE, Int.reduceEq, Int.reduceToNat, Int.reduceBEq, h0', h0]
    all_goals simp
  have h0' : ¬ (x : Int) < 128 := by omega
  rw [if_neg h0]
  unfold lead
  simp only [walk, Nat.reduceLT, Nat.reduceBEq, Nat.reduceAdd, Nat.reduceLeDiff, reduceIte, Int.reduceLT, Int.reduceLE, Int.reduceEq, Int.reduceToNat, Int.reduceBEq, h0']
  by_cases h1 : 194 ≤ x ∧ x < 224
  · have g1 : (194 : Int) ≤ x := by omega
    have g2 : (x : Int) < 224 := by omega
    have e1 : IntKind.i64.wrap ((x : Int) - 192) = ((x - 192 : Nat) : Int) := by rw [wrap64 (by omega) (by omega)]; omega
    rw [if_pos h1]
    simp only [walk, Nat.reduceLT, Nat.reduceBEq, Nat.reduceAdd, Nat.reduceLeDiff, reduceIte, Int.reduceLT, Int.reduceLE, Int.reduceEq, Int.reduceToNat, Int.reduceBEq, g1, g2, e1]
    by_cases hl : r.length < 1
    · have hl' : (((r.length + 1 : Nat) : Int) < 2) := by omega
      rw [if_pos hl]
      simp only [walk, Nat.reduceLT, Nat.reduceBEq, Nat.reduceAdd, Nat.reduceLeDiff, reduceIte, Int.reduceLT, Int.reduceLE, Int.reduceEq, Int.reduceToNat, Int.reduceBEq, hl']
      all_goals simp
    · have hl' : ¬ (((r.length + 1 : Nat) : Int) < 2) := by omega
      rw [if_neg hl]
      simp only [walk, Nat.reduceLT, Nat.reduceBEq, Nat.reduceAdd, Nat.reduceLeDiff, reduceIte, Int.reduceLT, Int.reduceLE, Int.reduceEq, Int.reduceToNat, Int.reduceBEq, hl']
      refine awp_loop_ind (X := Nat × Nat) (fun y => ⟨[(0, .val (.str (b :: r))), (2, .val (.int .i64 0)), (3, .val (.int .i64 0)), (4, .val (.int .i64 y.2)), (5, .val (.int .i64 2)), (6, .val (.int .i64 128)), (7, .val (.int .i64 y.1)), (10, .val (.bool false)), (14, .val (.bool false)), (18, .val (.bool true)), (48, .val (.bool false))], []⟩)
        (fun y => 1 ≤ y.1 ∧ y.1 ≤ 2 ∧ y.2 < 64 ^ y.1 ∧ contB (2 - y.1) y.2 (r.drop (y.1 - 1)) = contB 1 (x - 192) r) (fun y => 2 - y.1) (1, x - 192) ⟨by omega, by omega, by simp only; omega, by simp⟩ rfl ?_
      rintro R ⟨i, c⟩ ⟨hi1, hi2, hc, hJ⟩ ih
      simp only at hi1 hi2 hc hJ
      have hc4 : c < 16777216 := Nat.lt_of_lt_of_le hc (Nat.pow_le_pow_right (by omega) (show i ≤ 4 by omega))
      simp only [walk, Nat.reduceLT, Nat.reduceBEq, Nat.reduceAdd, Nat.reduceLeDiff, reduceIte, Int.reduceLT, Int.reduceLE, Int.reduceEq, Int.reduceToNat, Int.reduceBEq]
      by_cases ci : i < 2
      · have ci' : (i : Int) < 2 := by omega
        have ci0 : (0 : Int) ≤ i := by omega
        have hil : i - 1 < r.length := by omega
        have hg : (b :: r)[i]? = some r[i - 1] := by have := hget (i - 1) hil; rwa [show i - 1 + 1 = i by omega, List.getElem?_eq_getElem hil] at this
        have e2 : IntKind.i64.wrap ((i : Int) + 1) = ((i + 1 : Nat) : Int) := wrap64 (by omega) (by omega)
        rw [show 2 - i = (2 - (i + 1)) + 1 by omega, List.drop_eq_getElem_cons hil, contB, show i - 1 + 1 = i + 1 - 1 by omega] at hJ
        have hu := (r[i - 1]).toNat_lt
        simp only [walk, Nat.reduceLT, Nat.reduceBEq, Nat.reduceAdd, Nat.reduceLeDiff, reduceIte, Int.reduceLT, Int.reduceLE, Int.reduceEq, Int.reduceToNat, Int.reduceBEq, ci', hg, gt_iff_lt]
        generalize hv : (r[i - 1]).toNat = v at *
        by_cases j1 : v < 128
        · have j1' : (v : Int) < 128 := by omega
          rw [if_pos (.inl j1)] at hJ
          simp only [walk, Nat.reduceLT, Nat.reduceBEq, Nat.reduceAdd, Nat.reduceLeDiff, reduceIte, Int.reduceLT, Int.reduceLE, Int.reduceEq, Int.reduceToNat, Int.reduceBEq, j1', ← hJ]
          all_goals simp
        · have j1' : ¬ (v : Int) < 128 := by omega
          by_cases j2 : 191 < v
          · have j2' : (191 : Int) < v := by omega
            rw [if_pos (.inr j2)] at hJ
            simp only [walk, Nat.reduceLT, Nat.reduceBEq, Nat.reduceAdd, Nat.reduceLeDiff, reduceIte, Int.reduceLT, Int.reduceLE, Int.reduceEq, Int.reduceToNat, Int.reduceBEq, j1', hg, hv, j2', ← hJ]
            all_goals simp
          · have j2' : ¬ (191 : Int) < v := by omega
            rw [if_neg (by omega)] at hJ
            have f1 : IntKind.i64.wrap (64 * (c : Int)) = ((64 * c : Nat) : Int) := by rw [wrap64 (by omega) (by omega)]; omega
            have f2 : IntKind.i64.wrap (v : Int) = v := wrap64 (by omega) (by omega)
            have f3 : IntKind.i64.wrap (((64 * c : Nat) : Int) + v) = ((64 * c + v : Nat) : Int) := by rw [wrap64 (by omega) (by omega)]; omega
            have f4 : IntKind.i64.wrap (((64 * c + v : Nat) : Int) - 128) = ((64 * c + v - 128 : Nat) : Int) := by rw [wrap64 (by omega) (by omega)]; omega
            simp only [walk, Nat.reduceLT, Nat.reduceBEq, Nat.reduceAdd, Nat.reduceLeDiff, reduceIte, Int.reduceLT, Int.reduceLE, Int.reduceEq, Int.reduceToNat, Int.reduceBEq, j1', hg, hv, j2', f1, f2, f3, f4, e2]
            exact ih (i + 1, 64 * c + v - 128) ⟨by simp only; omega, by simp only; omega, by simp only; rw [Nat.pow_succ]; omega, hJ⟩ (by simp only; omega)
      · have ci' : ¬ (i : Int) < 2 := by omega
        rw [show 2 - i = 0 by omega, contB] at hJ
        rw [← hJ]
        dsimp only
        by_cases k1 : c < 128
        · have k1' : (c : Int) < 128 := by omega
          rw [if_pos (.inl k1)]
          simp only [walk, Nat.reduceLT, Nat.reduceBEq, Nat.reduceAdd, Nat.reduceLeDiff, reduceIte, Int.reduceLT, Int.reduceLE, Int.reduceEq, Int.reduceToNat, Int.reduceBEq, ci', gt_iff_lt, k1']
          all_goals simp
        · have k1' : ¬ (c : Int) < 128 := by omega
          by_cases k2 : 1114111 < c
          · have k2' : (1114111 : Int) < c := by omega
            rw [if_pos (.inr (.inl k2))]
            simp only [walk, Nat.reduceLT, Nat.reduceBEq, Nat.reduceAdd, Nat.reduceLeDiff, reduceIte, Int.reduceLT, Int.reduceLE, Int.reduceEq, Int.reduceToNat, Int.reduceBEq, ci', gt_iff_lt, k1', k2']
            all_goals simp
          · have k2' : ¬ (1114111 : Int) < c := by omega
            by_cases k3 : 55296 ≤ c
            · have k3' : (55296 : Int) ≤ c := by omega
              by_cases k4 : c ≤ 57343
              · have k4' : (c : Int) ≤ 57343 := by omega
                rw [if_pos (.inr (.inr ⟨k3, k4⟩))]
                simp only [walk, Nat.reduceLT, Nat.reduceBEq, Nat.reduceAdd, Nat.reduceLeDiff, reduceIte, Int.reduceLT, Int.reduceLE, Int.reduceEq, Int.reduceToNat, Int.reduceBEq, ci', gt_iff_lt, k1', k2', k3', k4']
                all_goals simp
              · have k4' : ¬ (c : Int) ≤ 57343 := by omega
                rw [if_neg (by omega)]
                simp only [walk, Nat.reduceLT, Nat.reduceBEq, Nat.reduceAdd, Nat.reduceLeDiff, reduceIte, Int.reduceLT, Int.reduceLE, Int.reduceEq, Int.reduceToNat, Int.reduceBEq, ci', gt_iff_lt, k1', k2', k3', k4']
                all_goals simp
            · have k3' : ¬ (55296 : Int) ≤ c := by omega
              rw [if_neg (by omega)]
              simp only [walk, Nat.reduceLT, Nat.reduceBEq, Nat.reduceAdd, Nat.reduceLeDiff, reduceIte, Int.reduceLT, Int.reduceLE, Int.reduceEq, Int.reduceToNat, Int.reduceBEq, ci', gt_iff_lt, k1', k2', k3']
              all_goals simp
  rw [if_neg h1]
  by_cases n1 : x < 194
  · have n1' : ¬ (194 : Int) ≤ x := by omega
    have n2' : ¬ (224 : Int) ≤ x := by omega
    have n3' : ¬ (240 : Int) ≤ x := by omega
    rw [if_neg (by omega), if_neg (by omega)]
    simp only [walk, Nat.reduceLT, Nat.reduceBEq, Nat.reduceAdd, Nat.reduceLeDiff, reduceIte, Int.reduceLT, Int.reduceLE, Int.reduceEq, Int.reduceToNat, Int.reduceBEq, n1', n2', n3']
    all_goals simp
  have n1' : (194 : Int) ≤ x := by omega
  have n1'' : ¬ (x : Int) < 224 := by omega
  by_cases h2 : 224 ≤ x ∧ x < 240
  · have g1 : (224 : Int) ≤ x := by omega
    have g2 : (x : Int) < 240 := by omega
    have e1 : IntKind.i64.wrap ((x : Int) - 224) = ((x - 224 : Nat) : Int) := by rw [wrap64 (by omega) (by omega)]; omega
    rw [if_pos h2]
    simp only [walk, Nat.reduceLT, Nat.reduceBEq, Nat.reduceAdd, Nat.reduceLeDiff, reduceIte, Int.reduceLT, Int.reduceLE, Int.reduceEq, Int.reduceToNat, Int.reduceBEq, n1', n1'', g1, g2, e1]
    by_cases hl : r.length < 2
    · have hl' : (((r.length + 1 : Nat) : Int) < 3) := by omega
      rw [if_pos hl]
      simp only [walk, Nat.reduceLT, Nat.reduceBEq, Nat.reduceAdd, Nat.reduceLeDiff, reduceIte, Int.reduceLT, Int.reduceLE, Int.reduceEq, Int.reduceToNat, Int.reduceBEq, hl']
      all_goals simp
    · have hl' : ¬ (((r.length + 1 : Nat) : Int) < 3) := by omega
      rw [if_neg hl]
      simp only [walk, Nat.reduceLT, Nat.reduceBEq, Nat.reduceAdd, Nat.reduceLeDiff, reduceIte, Int.reduceLT, Int.reduceLE, Int.reduceEq, Int.reduceToNat, Int.reduceBEq, hl']
      refine awp_loop_ind (X := Nat × Nat) (fun y => ⟨[(0, .val (.str (b :: r))), (2, .val (.int .i64 0)), (3, .val (.int .i64 0)), (4, .val (.int .i64 y.2)), (5, .val (.int .i64 3)), (6, .val (.int .i64 2048)), (7, .val (.int .i64 y.1)), (10, .val (.bool false)), (14, .val (.bool false)), (18, .val (.bool false)), (27, .val (.bool true)), (48, .val (.bool false))], []⟩)
        (fun y => 1 ≤ y.1 ∧ y.1 ≤ 3 ∧ y.2 < 64 ^ y.1 ∧ contB (3 - y.1) y.2 (r.drop (y.1 - 1)) = contB 2 (x - 224) r) (fun y => 3 - y.1) (1, x - 224) ⟨by omega, by omega, by simp only; omega, by simp⟩ rfl ?_
      rintro R ⟨i, c⟩ ⟨hi1, hi2, hc, hJ⟩ ih
      simp only at hi1 hi2 hc hJ
      have hc4 : c < 16777216 := Nat.lt_of_lt_of_le hc (Nat.pow_le_pow_right (by omega) (show i ≤ 4 by omega))
      simp only [walk, Nat.reduceLT, Nat.reduceBEq, Nat.reduceAdd, Nat.reduceLeDiff, reduceIte, Int.reduceLT, Int.reduceLE, Int.reduceEq, Int.reduceToNat, Int.reduceBEq]
      by_cases ci : i < 3
      · have ci' : (i : Int) < 3 := by omega
        have ci0 : (0 : Int) ≤ i := by omega
        have hil : i - 1 < r.length := by omega
        have hg : (b :: r)[i]? = some r[i - 1] := by have := hget (i - 1) hil; rwa [show i - 1 + 1 = i by omega, List.getElem?_eq_getElem hil] at this
        have e2 : IntKind.i64.wrap ((i : Int) + 1) = ((i + 1 : Nat) : Int) := wrap64 (by omega) (by omega)
        rw [show 3 - i = (3 - (i + 1)) + 1 by omega, List.drop_eq_getElem_cons hil, contB, show i - 1 + 1 = i + 1 - 1 by omega] at hJ
        have hu := (r[i - 1]).toNat_lt
        simp only [walk, Nat.reduceLT, Nat.reduceBEq, Nat.reduceAdd, Nat.reduceLeDiff, reduceIte, Int.reduceLT, Int.reduceLE, Int.reduceEq, Int.reduceToNat, Int.reduceBEq, ci', hg, gt_iff_lt]
        generalize hv : (r[i - 1]).toNat = v at *
        by_cases j1 : v < 128
        · have j1' : (v : Int) < 128 := by omega
          rw [if_pos (.inl j1)] at hJ
          simp only [walk, Nat.reduceLT, Nat.reduceBEq, Nat.reduceAdd, Nat.reduceLeDiff, reduceIte, Int.reduceLT, Int.reduceLE, Int.reduceEq, Int.reduceToNat, Int.reduceBEq, j1', ← hJ]
          all_goals simp
        · have j1' : ¬ (v : Int) < 128 := by omega
          by_cases j2 : 191 < v
          · have j2' : (191 : Int) < v := by omega
            rw [if_pos (.inr j2)] at hJ
            simp only [walk, Nat.reduceLT, Nat.reduceBEq, Nat.reduceAdd, Nat.reduceLeDiff, reduceIte, Int.reduceLT, Int.reduceLE, Int.reduceEq, Int.reduceToNat, Int.reduceBEq, j1', hg, hv, j2', ← hJ]
            all_goals simp
          · have j2' : ¬ (191 : Int) < v := by omega
            rw [if_neg (by omega)] at hJ
            have f1 : IntKind.i64.wrap (64 * (c : Int)) = ((64 * c : Nat) : Int) := by rw [wrap64 (by omega) (by omega)]; omega
            have f2 : IntKind.i64.wrap (v : Int) = v := wrap64 (by omega) (by omega)
            have f3 : IntKind.i64.wrap (((64 * c : Nat) : Int) + v) = ((64 * c + v : Nat) : Int) := by rw [wrap64 (by omega) (by omega)]; omega
            have f4 : IntKind.i64.wrap (((64 * c + v : Nat) : Int) - 128) = ((64 * c + v - 128 : Nat) : Int) := by rw [wrap64 (by omega) (by omega)]; omega
            simp only [walk, Nat.reduceLT, Nat.reduceBEq, Nat.reduceAdd, Nat.reduceLeDiff, reduceIte, Int.reduceLT, Int.reduceLE, Int.reduceEq, Int.reduceToNat, Int.reduceBEq, j1', hg, hv, j2', f1, f2, f3, f4, e2]
            exact ih (i + 1, 64 * c + v - 128) ⟨by simp only; omega, by simp only; omega, by simp only; rw [Nat.pow_succ]; omega, hJ⟩ (by simp only; omega)
      · have ci' : ¬ (i : Int) < 3 := by omega
        rw [show 3 - i = 0 by omega, contB] at hJ
        rw [← hJ]
        dsimp only
        by_cases k1 : c < 2048
        · have k1' : (c : Int) < 2048 := by omega
          rw [if_pos (.inl k1)]
          simp only [walk, Nat.reduceLT, Nat.reduceBEq, Nat.reduceAdd, Nat.reduceLeDiff, reduceIte, Int.reduceLT, Int.reduceLE, Int.reduceEq, Int.reduceToNat, Int.reduceBEq, ci', gt_iff_lt, k1']
          all_goals simp
        · have k1' : ¬ (c : Int) < 2048 := by omega
          by_cases k2 : 1114111 < c
          · have k2' : (1114111 : Int) < c := by omega
            rw [if_pos (.inr (.inl k2))]
            simp only [walk, Nat.reduceLT, Nat.reduceBEq, Nat.reduceAdd, Nat.reduceLeDiff, reduceIte, Int.reduceLT, Int.reduceLE, Int.reduceEq, Int.reduceToNat, Int.reduceBEq, ci', gt_iff_lt, k1', k2']
            all_goals simp
          · have k2' : ¬ (1114111 : Int) < c := by omega
            by_cases k3 : 55296 ≤ c
            · have k3' : (55296 : Int) ≤ c := by omega
              by_cases k4 : c ≤ 57343
              · have k4' : (c : Int) ≤ 57343 := by omega
                rw [if_pos (.inr (.inr ⟨k3, k4⟩))]
                simp only [walk, Nat.reduceLT, Nat.reduceBEq, Nat.reduceAdd, Nat.reduceLeDiff, reduceIte, Int.reduceLT, Int.reduceLE, Int.reduceEq, Int.reduceToNat, Int.reduceBEq, ci', gt_iff_lt, k1', k2', k3', k4']
                all_goals simp
              · have k4' : ¬ (c : Int) ≤ 57343 := by omega
                rw [if_neg (by omega)]
                simp only [walk, Nat.reduceLT, Nat.reduceBEq, Nat.reduceAdd, Nat.reduceLeDiff, reduceIte, Int.reduceLT, Int.reduceLE, Int.reduceEq, Int.reduceToNat, Int.reduceBEq, ci', gt_iff_lt, k1', k2', k3', k4']
                all_goals simp
            · have k3' : ¬ (55296 : Int) ≤ c := by omega
              rw [if_neg (by omega)]
              simp only [walk, Nat.reduceLT, Nat.reduceBEq, Nat.reduceAdd, Nat.reduceLeDiff, reduceIte, Int.reduceLT, Int.reduceLE, Int.reduceEq, Int.reduceToNat, Int.reduceBEq, ci', gt_iff_lt, k1', k2', k3']
              all_goals simp
  rw [if_neg h2]
  have n2' : (224 : Int) ≤ x := by omega
  have n2'' : ¬ (x : Int) < 240 := by omega
  by_cases h3 : 240 ≤ x ∧ x < 245
  · have g1 : (240 : Int) ≤ x := by omega
    have g2 : (x : Int) < 245 := by omega
    have e1 : IntKind.i64.wrap ((x : Int) - 240) = ((x - 240 : Nat) : Int) := by rw [wrap64 (by omega) (by omega)]; omega
    rw [if_pos h3]
    simp only [walk, Nat.reduceLT, Nat.reduceBEq, Nat.reduceAdd, Nat.reduceLeDiff, reduceIte, Int.reduceLT, Int.reduceLE, Int.reduceEq, Int.reduceToNat, Int.reduceBEq, n1', n1'', n2', n2'', g1, g2, e1]
    by_cases hl : r.length < 3
    · have hl' : (((r.length + 1 : Nat) : Int) < 4) := by omega
      rw [if_pos hl]
      simp only [walk, Nat.reduceLT, Nat.reduceBEq, Nat.reduceAdd, Nat.reduceLeDiff, reduceIte, Int.reduceLT, Int.reduceLE, Int.reduceEq, Int.reduceToNat, Int.reduceBEq, hl']
      all_goals simp
    · have hl' : ¬ (((r.length + 1 : Nat) : Int) < 4) := by omega
      rw [if_neg hl]
      simp only [walk, Nat.reduceLT, Nat.reduceBEq, Nat.reduceAdd, Nat.reduceLeDiff, reduceIte, Int.reduceLT, Int.reduceLE, Int.reduceEq, Int.reduceToNat, Int.reduceBEq, hl']
      refine awp_loop_ind (X := Nat × Nat) (fun y => ⟨[(0, .val (.str (b :: r))), (2, .val (.int .i64 0)), (3, .val (.int .i64 0)), (4, .val (.int .i64 y.2)), (5, .val (.int .i64 4)), (6, .val (.int .i64 65536)), (7, .val (.int .i64 y.1)), (10, .val (.bool false)), (14, .val (.bool false)), (18, .val (.bool false)), (27, .val (.bool false)), (36, .val (.bool true)), (48, .val (.bool false))], []⟩)
        (fun y => 1 ≤ y.1 ∧ y.1 ≤ 4 ∧ y.2 < 64 ^ y.1 ∧ contB (4 - y.1) y.2 (r.drop (y.1 - 1)) = contB 3 (x - 240) r) (fun y => 4 - y.1) (1, x - 240) ⟨by omega, by omega, by simp only; omega, by simp⟩ rfl ?_
      rintro R ⟨i, c⟩ ⟨hi1, hi2, hc, hJ⟩ ih
      simp only at hi1 hi2 hc hJ
      have hc4 : c < 16777216 := Nat.lt_of_lt_of_le hc (Nat.pow_le_pow_right (by omega) (show i ≤ 4 by omega))
      simp only [walk, Nat.reduceLT, Nat.reduceBEq, Nat.reduceAdd, Nat.reduceLeDiff, reduceIte, Int.reduceLT, Int.reduceLE, Int.reduceEq, Int.reduceToNat, Int.reduceBEq]
      by_cases ci : i < 4
      · have ci' : (i : Int) < 4 := by omega
        have ci0 : (0 : Int) ≤ i := by omega
        have hil : i - 1 < r.length := by omega
        have hg : (b :: r)[i]? = some r[i - 1] := by have := hget (i - 1) hil; rwa [show i - 1 + 1 = i by omega, List.getElem?_eq_getElem hil] at this
        have e2 : IntKind.i64.wrap ((i : Int) + 1) = ((i + 1 : Nat) : Int) := wrap64 (by omega) (by omega)
        rw [show 4 - i = (4 - (i + 1)) + 1 by omega, List.drop_eq_getElem_cons hil, contB, show i - 1 + 1 = i + 1 - 1 by omega] at hJ
        have hu := (r[i - 1]).toNat_lt
        simp only [walk, Nat.reduceLT, Nat.reduceBEq, Nat.reduceAdd, Nat.reduceLeDiff, reduceIte, Int.reduceLT, Int.reduceLE, Int.reduceEq, Int.reduceToNat, Int.reduceBEq, ci', hg, gt_iff_lt]
        generalize hv : (r[i - 1]).toNat = v at *
        by_cases j1 : v < 128
        · have j1' : (v : Int) < 128 := by omega
          rw [if_pos (.inl j1)] at hJ
          simp only [walk, Nat.reduceLT, Nat.reduceBEq, Nat.reduceAdd, Nat.reduceLeDiff, reduceIte, Int.reduceLT, Int.reduceLE, Int.reduceEq, Int.reduceToNat, Int.reduceBEq, j1', ← hJ]
          all_goals simp
        · have j1' : ¬ (v : Int) < 128 := by omega
          by_cases j2 : 191 < v
          · have j2' : (191 : Int) < v := by omega
            rw [if_pos (.inr j2)] at hJ
            simp only [walk, Nat.reduceLT, Nat.reduceBEq, Nat.reduceAdd, Nat.reduceLeDiff, reduceIte, Int.reduceLT, Int.reduceLE, Int.reduceEq, Int.reduceToNat, Int.reduceBEq, j1', hg, hv, j2', ← hJ]
            all_goals simp
          · have j2' : ¬ (191 : Int) < v := by omega
            rw [if_neg (by omega)] at hJ
            have f1 : IntKind.i64.wrap (64 * (c : Int)) = ((64 * c : Nat) : Int) := by rw [wrap64 (by omega) (by omega)]; omega
            have f2 : IntKind.i64.wrap (v : Int) = v := wrap64 (by omega) (by omega)
            have f3 : IntKind.i64.wrap (((64 * c : Nat) : Int) + v) = ((64 * c + v : Nat) : Int) := by rw [wrap64 (by omega) (by omega)]; omega
            have f4 : IntKind.i64.wrap (((64 * c + v : Nat) : Int) - 128) = ((64 * c + v - 128 : Nat) : Int) := by rw [wrap64 (by omega) (by omega)]; omega
            simp only [walk, Nat.reduceLT, Nat.reduceBEq, Nat.reduceAdd, Nat.reduceLeDiff, reduceIte, Int.reduceLT, Int.reduceLE, Int.reduceEq, Int.reduceToNat, Int.reduceBEq, j1', hg, hv, j2', f1, f2, f3, f4, e2]
            exact ih (i + 1, 64 * c + v - 128) ⟨by simp only; omega, by simp only; omega, by simp only; rw [Nat.pow_succ]; omega, hJ⟩ (by simp only; omega)
      · have ci' : ¬ (i : Int) < 4 := by omega
        rw [show 4 - i = 0 by omega, contB] at hJ
        rw [← hJ]
        dsimp only
        by_cases k1 : c < 65536
        · have k1' : (c : Int) < 65536 := by omega
          rw [if_pos (.inl k1)]
          simp only [walk, Nat.reduceLT, Nat.reduceBEq, Nat.reduceAdd, Nat.reduceLeDiff, reduceIte, Int.reduceLT, Int.reduceLE, Int.reduceEq, Int.reduceToNat, Int.reduceBEq, ci', gt_iff_lt, k1']
          all_goals simp
        · have k1' : ¬ (c : Int) < 65536 := by omega
          by_cases k2 : 1114111 < c
          · have k2' : (1114111 : Int) < c := by omega
            rw [if_pos (.inr (.inl k2))]
            simp only [walk, Nat.reduceLT, Nat.reduceBEq, Nat.reduceAdd, Nat.reduceLeDiff, reduceIte, Int.reduceLT, Int.reduceLE, Int.reduceEq, Int.reduceToNat, Int.reduceBEq, ci', gt_iff_lt, k1', k2']
            all_goals simp
          · have k2' : ¬ (1114111 : Int) < c := by omega
            by_cases k3 : 55296 ≤ c
            · have k3' : (55296 : Int) ≤ c := by omega
              by_cases k4 : c ≤ 57343
              · have k4' : (c : Int) ≤ 57343 := by omega
                rw [if_pos (.inr (.inr ⟨k3, k4⟩))]
                simp only [walk, Nat.reduceLT, Nat.reduceBEq, Nat.reduceAdd, Nat.reduceLeDiff, reduceIte, Int.reduceLT, Int.reduceLE, Int.reduceEq, Int.reduceToNat, Int.reduceBEq, ci', gt_iff_lt, k1', k2', k3', k4']
                all_goals simp
              · have k4' : ¬ (c : Int) ≤ 57343 := by omega
                rw [if_neg (by omega)]
                simp only [walk, Nat.reduceLT, Nat.reduceBEq, Nat.reduceAdd, Nat.reduceLeDiff, reduceIte, Int.reduceLT, Int.reduceLE, Int.reduceEq, Int.reduceToNat, Int.reduceBEq, ci', gt_iff_lt, k1', k2', k3', k4']
                all_goals simp
            · have k3' : ¬ (55296 : Int) ≤ c := by omega
              rw [if_neg (by omega)]
              simp only [walk, Nat.reduceLT, Nat.reduceBEq, Nat.reduceAdd, Nat.reduceLeDiff, reduceIte, Int.reduceLT, Int.reduceLE, Int.reduceEq, Int.reduceToNat, Int.reduceBEq, ci', gt_iff_lt, k1', k2', k3']
              all_goals simp
  · rw [if_neg h3]
    have n3' : (240 : Int) ≤ x := by omega
    have n3'' : ¬ (x : Int) < 245 := by omega
    simp only [walk, Nat.reduceLT, Nat.reduceBEq, Nat.reduceAdd, Nat.reduceLeDiff, reduceIte, Int.reduceLT, Int.reduceLE, Int.reduceEq, Int.reduceToNat, Int.reduceBEq, n1', n1'', n2', n2'', n3', n3'']
    all_goals simp
end
end Go.AR
