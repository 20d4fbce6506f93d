import Derived.Test.YtphggkbbjnpaeaaG02
import Derived.Test.YtphggkbbjnpaeaaG03
import Derived.Test.YtphggkbbjnpaeaaG08
import Derived.Test.YtphggkbbjnpaeaaG26
import Derived.Shelf.Lays
import Derived.Shelf.RegionOpenPlain
import Derived.Lib.Strings
import Derived.Lib.Slices
import Derived.Lib.Walk
import Derived.Lib.Builder
import Derived.Lib.AppendStr
import Derived.Lib.UnsafeStr
import Derived.WalkKit
import Derived.Laws.Externs
import Derived.Laws.IdiomCopy
import Derived.Laws.BitsLemmas
set_option linter.all false
/-! Numbers and texts as bytes: what the functions give. -/
namespace Go.AR
open Go
section
variable {C : CallRel} {F : Nat → FuncId}
/-- A number's bytes. -/
def vint (n : Nat) : List UInt8 := if n < 128 then [UInt8.ofNat n] else UInt8.ofNat (n % 128 + 128) :: vint (n / 128)
termination_by n
decreasing_by omega
def pInt (n : Int) : List UInt8 := vint n.toNat
def pText (s : List UInt8) : List UInt8 := vint s.length ++ s
theorem vint_lt {n : Nat} (h : n < 128) : vint n = [UInt8.ofNat n] := by rw [vint, if_pos h]
theorem vint_ge {n : Nat} (h : ¬ n < 128) : vint n = UInt8.ofNat (n % 128 + 128) :: vint (n / 128) := by rw [vint, if_neg h]
theorem vint_pos (n : Nat) : 1 ≤ (vint n).length := by
  rw [vint]; split <;> simp
end
end Go.AR

/-! Readers of the package pack. -/
namespace Go.AR
open Go
section
variable {C : CallRel} {F : Nat → FuncId}
/-- A number read from the place i on: the number, how many bytes it had, an error. -/
def scanI (s : List UInt8) : Nat → Nat → Nat → Int × Nat × Int
  | 0, _, _ => (0, 0, 6)
  | k + 1, i, n => match s[i]? with
    | none => (0, 0, 4)
    | some c => if c.toNat < 128 then (if c.toNat = 0 ∧ 0 < i then (0, 0, 3) else (((n + c.toNat * 128 ^ i : Nat) : Int), i + 1, 0)) else scanI s k (i + 1) (n + (c.toNat - 128) * 128 ^ i)
def readI (s : List UInt8) : Int × Nat × Int := scanI s 8 0 0
/-- What reading a number does to a reader's text and error. -/
def rI (s : List UInt8) (b : Int) : Int × List UInt8 × Int := if b = 0 then ((readI s).1, s.drop (readI s).2.1, (readI s).2.2) else (0, s, b)
def rText (s : List UInt8) (b : Int) : List UInt8 × List UInt8 × Int :=
  let r := rI s b
  if r.2.2 = 0 then (if r.1 > r.2.1.length then ([], r.2.1, 4) else (r.2.1.take r.1.toNat, r.2.1.drop r.1.toNat, 0)) else ([], r.2.1, r.2.2)
def sLen (s : List UInt8) : Prop := s.length ≤ 4611686018427387904
theorem scanI_lt (s : List UInt8) : ∀ (k i n : Nat), n < 128 ^ i → 0 ≤ (scanI s k i n).1 ∧ (scanI s k i n).1 < ((128 ^ (i + k) : Nat) : Int) ∧ ((scanI s k i n).2.1 ≤ s.length)
  | 0, i, n, h => by
    have : 0 < 128 ^ i := Nat.pow_pos (by decide)
    simp only [scanI, Nat.add_zero]; omega
  | k + 1, i, n, h => by
    unfold scanI
    have hp : 0 < 128 ^ i := Nat.pow_pos (by decide)
    have hq : 128 ^ (i + (k + 1)) = 128 ^ (i + 1 + k) := by rw [Nat.add_right_comm, Nat.add_assoc]
    have hm : 128 ^ (i + 1) ≤ 128 ^ (i + 1 + k) := Nat.pow_le_pow_right (by decide) (by omega)
    split
    · refine ⟨by decide, ?_, Nat.zero_le _⟩
      show (0 : Int) < _
      have : 0 < 128 ^ (i + (k + 1)) := Nat.pow_pos (by decide)
      omega
    · rename_i c hc
      have hi : i < s.length := (List.getElem?_eq_some_iff.1 hc).1
      split
      · rename_i hlt
        split
        · refine ⟨by decide, ?_, Nat.zero_le _⟩
          show (0 : Int) < _
          have : 0 < 128 ^ (i + (k + 1)) := Nat.pow_pos (by decide)
          omega
        · refine ⟨by simp only; omega, ?_, by simp only; omega⟩
          simp only
          rw [hq]
          have h1 : n + c.toNat * 128 ^ i < 128 ^ (i + 1) := by
            rw [Nat.pow_succ, Nat.mul_comm (128 ^ i)]
            have : c.toNat * 128 ^ i ≤ 127 * 128 ^ i := Nat.mul_le_mul_right _ (by omega)
            omega
          omega
      · have hlt := c.toNat_lt
        have := scanI_lt s k (i + 1) (n + (c.toNat - 128) * 128 ^ i) (by
          rw [Nat.pow_succ, Nat.mul_comm (128 ^ i)]
          have : (c.toNat - 128) * 128 ^ i ≤ 127 * 128 ^ i := Nat.mul_le_mul_right _ (by omega)
          omega)
        rw [hq]; exact this
theorem readI_lt (s : List UInt8) : 0 ≤ (readI s).1 ∧ (readI s).1 < 72057594037927936 ∧ (readI s).2.1 ≤ s.length := by
  have := scanI_lt s 8 0 0 (by decide)
  simpa [readI] using this
theorem rI_lt (s : List UInt8) (b : Int) : 0 ≤ (rI s b).1 ∧ (rI s b).1 < 72057594037927936 ∧ (rI s b).2.1.length ≤ s.length := by
  unfold rI
  split
  · have := readI_lt s
    simp only [List.length_drop]; omega
  · simp
end
end Go.AR

/-! The document's readers. -/
namespace Go.AR
open Go
section
variable {C : CallRel} {F : Nat → FuncId}
def xdr (s : List UInt8) (at' : Nat) (b : Int) : Blk := .cells [.val (.str s), .val (.int .i64 at'), .val (.int .i64 b)]
end
end Go.AR

/-! The document's readers: as the program's, of a text of which a part is left. -/
namespace Go.AR
open Go
section
variable {C : CallRel} {F : Nat → FuncId}
def X (S s : List UInt8) (b : Int) : Blk := xdr S (S.length - s.length) b
end
end Go.AR

/-! Chapter 2's laws. -/
namespace Go.AR
open Go
section
variable {C : CallRel} {F : Nat → FuncId}
/-- What was read is just what it is told as. -/
theorem scan_back (s : List UInt8) : ∀ (k i acc : Nat) (v : Int) (j : Nat), scanI s k i acc = (v, j, 0) → ∃ m : Nat, v = ((acc + m * 128 ^ i : Nat) : Int) ∧ i + (vint m).length = j ∧ j ≤ s.length ∧ (s.drop i).take (j - i) = vint m ∧ (1 ≤ m ∨ i = 0)
  | 0, i, acc, v, j, h => by simp [scanI] at h
  | k + 1, i, acc, v, j, h => by
    unfold scanI at h
    split at h
    · simp at h
    · rename_i c hc
      have hi : i < s.length := (List.getElem?_eq_some_iff.1 hc).1
      have hd : s.drop i = c :: s.drop (i + 1) := by
        rw [List.drop_eq_getElem_cons hi]
        congr 1
        exact (List.getElem?_eq_some_iff.1 hc).2
      split at h
      · rename_i hlt
        split at h
        · simp at h
        · rename_i hz
          simp only [Prod.mk.injEq, and_true] at h
          obtain ⟨rfl, rfl⟩ := h
          refine ⟨c.toNat, rfl, by rw [vint_lt hlt]; rfl, by omega, ?_, by omega⟩
          rw [hd, show i + 1 - i = 1 by omega, vint_lt hlt]
          simp
      · rename_i hge
        have hlt := c.toNat_lt
        obtain ⟨m, h1, h2, h3, h4, h5⟩ := scan_back s k (i + 1) _ v j h
        have h6 : ¬ (c.toNat - 128 + 128 * m) < 128 := by omega
        have e1 : (c.toNat - 128 + 128 * m) / 128 = m := by omega
        have e2 : (c.toNat - 128 + 128 * m) % 128 + 128 = c.toNat := by omega
        refine ⟨c.toNat - 128 + 128 * m, ?_, ?_, h3, ?_, by omega⟩
        · rw [h1]
          congr 1
          rw [Nat.pow_succ, Nat.mul_comm (128 ^ i), ← Nat.mul_assoc, Nat.add_mul, Nat.mul_comm 128 m]
          omega
        · rw [vint_ge h6, e1, List.length_cons]; omega
        · rw [hd, vint_ge h6, e1, e2, show j - i = (j - (i + 1)) + 1 by have := vint_pos m; omega, List.take_succ_cons, h4]
          simp
theorem readI_back {s : List UInt8} {v : Int} {j : Nat} (h : readI s = (v, j, 0)) : pInt v = s.take j ∧ (pInt v).length = j ∧ j ≤ s.length := by
  obtain ⟨m, h1, h2, h3, h4, _⟩ := scan_back s 8 0 0 v j h
  have : v.toNat = m := by rw [h1]; simp
  unfold pInt
  rw [this, ← h4]
  simp at h2 ⊢
  omega
theorem rI_back {s : List UInt8} (h : (rI s 0).2.2 = 0) : pInt (rI s 0).1 ++ (rI s 0).2.1 = s := by
  unfold rI at h ⊢
  rw [if_pos rfl] at h ⊢
  generalize hr : readI s = q at h ⊢
  obtain ⟨v, j, e⟩ := q
  simp only at h ⊢
  subst h
  have := (readI_back hr).1
  rw [this, List.take_append_drop]
theorem once {s : List UInt8} (h : (rText (rI s 0).2.1 (rI s 0).2.2).2.2 = 0) : (pInt (rI s 0).1 ++ pText (rText (rI s 0).2.1 (rI s 0).2.2).1) ++ (rText (rI s 0).2.1 (rI s 0).2.2).2.1 = s := by
  have hb : (rI s 0).2.2 = 0 := by
    rw [← Classical.not_not (a := (rI s 0).2.2 = 0)]
    intro hne
    apply hne
    unfold rText at h
    have : rI (rI s 0).2.1 (rI s 0).2.2 = (0, (rI s 0).2.1, (rI s 0).2.2) := by rw [rI, if_neg hne]
    rw [this] at h
    simp only at h
    rw [if_neg hne] at h
    exact h
  have e1 := rI_back hb
  rw [hb] at h ⊢
  generalize (rI s 0).2.1 = s1 at h e1
  generalize (rI s 0).1 = v at e1
  rw [List.append_assoc, ← e1]
  congr 1
  unfold rText at h ⊢
  have hl := rI_lt s1 0
  have e2 := fun h => rI_back (s := s1) h
  generalize rI s1 0 = r at h e2 hl
  obtain ⟨m, s2, b2⟩ := r
  simp only at h e2 hl ⊢
  by_cases h0 : b2 = 0
  · rw [if_pos h0] at h ⊢
    by_cases h1 : m > s2.length
    · rw [if_pos h1] at h; simp at h
    · rw [if_neg h1]
      rw [← e1, ← e2 h0] at *
      simp only [pText]
      rw [List.append_assoc, List.take_append_drop]
      congr 1
      rw [pInt, List.length_take]
      congr 1
      omega
  · rw [if_neg h0] at h
    exact absurd h h0
end
end Go.AR
