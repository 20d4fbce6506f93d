import Derived.Test.YtphggkbbjnpaeaaG01
import Derived.Shelf.Unicode.DecodeSlow
set_option linter.all false
/-! Characters, by definition, and the model's. -/
namespace Go.AR
open Go

/-- Of a first byte: how many there are, the least number, and its own bits. -/
def lead (c : Nat) : Option (Nat × Nat × Nat) :=
  if 194 ≤ c ∧ c < 224 then some (1, 128, c - 192) else if 224 ≤ c ∧ c < 240 then some (2, 2048, c - 224) else if 240 ≤ c ∧ c < 245 then some (3, 65536, c - 240) else none
def contB : Nat → Nat → List UInt8 → Option Nat
  | 0, c, _ => some c
  | _ + 1, _, [] => none
  | k + 1, c, b :: r => if b.toNat < 128 ∨ 191 < b.toNat then none else contB k (64 * c + b.toNat - 128) r
/-- The character with which bytes begin, and how many it has; none: 0. -/
def chr : List UInt8 → Nat × Nat
  | [] => (0, 0)
  | b :: r => if b.toNat < 128 then (b.toNat, 1) else match lead b.toNat with
    | none => (0, 0)
    | some (k, least, c0) => if r.length < k then (0, 0) else match contB k c0 r with
      | none => (0, 0)
      | some c => if c < least ∨ 1114111 < c ∨ (55296 ≤ c ∧ c ≤ 57343) then (0, 0) else (c, k + 1)

theorem chr_le : ∀ (l : List UInt8), (chr l).2 ≤ l.length ∧ (chr l).1 ≤ 1114111 ∧ ((chr l).2 ≠ 0 → (chr l).1 < 55296 ∨ 57343 < (chr l).1)
  | [] => by simp [chr]
  | b :: r => by
    rw [chr]
    split
    · simp only [List.length_cons]; omega
    · split
      · simp
      · split
        · simp
        · split
          · simp
          · split
            · simp
            · simp only [List.length_cons]; omega
theorem contB_pre : ∀ (k c : Nat) (r q : List UInt8), k ≤ r.length → contB k c (r.take k ++ q) = contB k c r
  | 0, _, _, _, _ => rfl
  | k + 1, c, [], q, h => by simp at h
  | k + 1, c, b :: r, q, h => by
    simp only [List.take_succ_cons, List.cons_append, contB]
    rw [contB_pre k _ r q (by simpa using h)]
/-- A character's bytes are a character, whatever stands behind. -/
theorem chr_pre (l q : List UInt8) (h : (chr l).2 ≠ 0) : chr (l.take (chr l).2 ++ q) = chr l := by
  rcases l with _ | ⟨b, r⟩
  · simp [chr] at h
  · rw [chr] at h ⊢
    split
    · rename_i h0
      simp [chr, h0]
    · rename_i h0
      rw [if_neg h0] at h
      split
      · rename_i e
        rw [e] at h
        simp at h
      · rename_i k least c0 e
        rw [e] at h
        simp only at h
        split
        · rename_i hl; rw [if_pos hl] at h; simp at h
        · rename_i hl
          rw [if_neg hl] at h
          split
          · rename_i e2; rw [e2] at h; simp at h
          · rename_i c e2
            rw [e2] at h
            simp only at h
            split
            · rename_i e3; rw [if_pos e3] at h; simp at h
            · rename_i e3
              simp only [List.take_succ_cons, List.cons_append]
              rw [chr, if_neg h0, e]
              simp only
              rw [if_neg (by simp; omega), contB_pre _ _ _ _ (by omega), e2]
              simp only
              rw [if_neg e3]
end Go.AR

/-! Names, by definition. -/
namespace Go.AR
open Go
def runes (l : List UInt8) (out : List Int) : Option (List Int) :=
  if h : l = [] then some out else if h2 : (chr l).2 = 0 then none else runes (l.drop (chr l).2) (out ++ [((chr l).1 : Int)])
termination_by l.length
decreasing_by
  rw [List.length_drop]
  have := List.length_pos_iff.2 h
  omega
theorem runes_nil (out : List Int) : runes [] out = some out := by rw [runes]; simp
theorem runes_none {l : List UInt8} (out : List Int) (h : l ≠ []) (h2 : (chr l).2 = 0) : runes l out = none := by rw [runes, dif_neg h, dif_pos h2]
theorem runes_some {l : List UInt8} (out : List Int) (h : l ≠ []) (h2 : (chr l).2 ≠ 0) : runes l out = runes (l.drop (chr l).2) (out ++ [((chr l).1 : Int)]) := by rw [runes, dif_neg h, dif_neg h2]
def mayB (c : Int) : Bool := !decide (c < 32) && (!(decide (127 ≤ c) && decide (c < 160)) && c != 65533)
def rightB (s : List UInt8) : Bool := match runes s [] with
  | none => false
  | some l => decide (1 ≤ l.length) && (decide (l.length ≤ 24) && l.all mayB)
theorem chr_ne {l : List UInt8} (h : (chr l).2 ≠ 0) : l ≠ [] := by rintro rfl; simp [chr] at h
/-- A text of so many characters, each of which may stand in a name. -/
inductive Wd : List UInt8 → Nat → Prop where
  | nil : Wd [] 0
  | cons {l : List UInt8} {n : Nat} (h : (chr l).2 ≠ 0) (hm : mayB (chr l).1 = true) (hr : Wd (l.drop (chr l).2) n) : Wd l (n + 1)
theorem Wd.one {q : List UInt8} (h : (chr q).2 ≠ 0) (hm : mayB (chr q).1 = true) : Wd (q.take (chr q).2) 1 := by
  have e := chr_pre q [] h
  rw [List.append_nil] at e
  refine .cons (by rw [e]; exact h) (by rw [e]; exact hm) ?_
  rw [e, List.drop_take_self]
  exact .nil
theorem Wd.runes {l : List UInt8} {n : Nat} (h : Wd l n) : ∀ out : List Int, ∃ cs : List Int, runes l out = some (out ++ cs) ∧ cs.length = n ∧ cs.all mayB = true := by
  induction h with
  | nil => intro out; exact ⟨[], by rw [runes_nil]; simp, rfl, rfl⟩
  | @cons l n h hm hr ih =>
    intro out
    obtain ⟨cs, h1, h2, h3⟩ := ih (out ++ [((chr l).1 : Int)])
    exact ⟨((chr l).1 : Int) :: cs, by rw [runes_some _ (chr_ne h) h, h1]; simp, by simp [h2], by simp [hm, h3]⟩
end Go.AR
