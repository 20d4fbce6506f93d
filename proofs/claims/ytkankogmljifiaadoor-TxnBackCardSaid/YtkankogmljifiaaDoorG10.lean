import Derived.Test.YtkankogmljifiaaDoorG01
import Derived.Shelf.Unicode.DecodeSlow
set_option linter.all false
/-! Characters, by definition, and the model's. -/
namespace Go.AR
open Go

/-- Of a first byte: how many there are, the least number, and its own bits. -/
def lead (c : Nat) : Option (Nat × Nat × Nat) :=
  if 194 ≤ c ∧ c < 224 then some (1, 128, c - 192) else if 224 ≤ c ∧ c < 240 then some (2, 2048, c - 224) else if 240 ≤ c ∧ c < 245 then some (3, 65536, c - 240) else none
def contB : Nat → Nat → List UInt8 → Option Nat
  | 0, c, _ => some c
  | _ + 1, _, [] => none
  | k + 1, c, b :: r => if b.toNat < 128 ∨ 191 < b.toNat then none else contB k (64 * c + b.toNat - 128) r
/-- The character with which bytes begin, and how many it has; none: 0. -/
def chr : List UInt8 → Nat × Nat
  | [] => (0, 0)
  | b :: r => if b.toNat < 128 then (b.toNat, 1) else match lead b.toNat with
    | none => (0, 0)
    | some (k, least, c0) => if r.length < k then (0, 0) else match contB k c0 r with
      | none => (0, 0)
      | some c => if c < least ∨ 1114111 < c ∨ (55296 ≤ c ∧ c ≤ 57343) then (0, 0) else (c, k + 1)

/-- The same of numbers: 'n' bytes, the first four. -/
def chrN (n b0 b1 b2 b3 : Nat) : Nat × Nat :=
  if b0 < 128 then (b0, 1)
  else if 194 ≤ b0 ∧ b0 < 224 then
    (if n < 2 ∨ (b1 < 128 ∨ 191 < b1) then (0, 0) else if 64 * (b0 - 192) + b1 - 128 < 128 ∨ 1114111 < 64 * (b0 - 192) + b1 - 128 ∨ (55296 ≤ 64 * (b0 - 192) + b1 - 128 ∧ 64 * (b0 - 192) + b1 - 128 ≤ 57343) then (0, 0) else (64 * (b0 - 192) + b1 - 128, 2))
  else if 224 ≤ b0 ∧ b0 < 240 then
    (if n < 3 ∨ (b1 < 128 ∨ 191 < b1) ∨ (b2 < 128 ∨ 191 < b2) then (0, 0) else
     if 64 * (64 * (b0 - 224) + b1 - 128) + b2 - 128 < 2048 ∨ 1114111 < 64 * (64 * (b0 - 224) + b1 - 128) + b2 - 128 ∨ (55296 ≤ 64 * (64 * (b0 - 224) + b1 - 128) + b2 - 128 ∧ 64 * (64 * (b0 - 224) + b1 - 128) + b2 - 128 ≤ 57343) then (0, 0) else (64 * (64 * (b0 - 224) + b1 - 128) + b2 - 128, 3))
  else if 240 ≤ b0 ∧ b0 < 245 then
    (if n < 4 ∨ (b1 < 128 ∨ 191 < b1) ∨ (b2 < 128 ∨ 191 < b2) ∨ (b3 < 128 ∨ 191 < b3) then (0, 0) else
     if 64 * (64 * (64 * (b0 - 240) + b1 - 128) + b2 - 128) + b3 - 128 < 65536 ∨ 1114111 < 64 * (64 * (64 * (b0 - 240) + b1 - 128) + b2 - 128) + b3 - 128 ∨ (55296 ≤ 64 * (64 * (64 * (b0 - 240) + b1 - 128) + b2 - 128) + b3 - 128 ∧ 64 * (64 * (64 * (b0 - 240) + b1 - 128) + b2 - 128) + b3 - 128 ≤ 57343) then (0, 0) else (64 * (64 * (64 * (b0 - 240) + b1 - 128) + b2 - 128) + b3 - 128, 4))
  else (0, 0)
def byteAt (l : List UInt8) (i : Nat) : Nat := (l.getD i 0).toNat
theorem byteAt_lt (l : List UInt8) (i : Nat) : byteAt l i < 256 := (l.getD i 0).toNat_lt
theorem contB_1 {c : Nat} (r : List UInt8) (h : 1 ≤ r.length) : contB 1 c r = if byteAt r 0 < 128 ∨ 191 < byteAt r 0 then none else some (64 * c + byteAt r 0 - 128) := by
  rcases r with _ | ⟨b1, r⟩
  · simp at h
  · simp [contB, byteAt]
theorem contB_2 {c : Nat} (r : List UInt8) (h : 2 ≤ r.length) : contB 2 c r = if (byteAt r 0 < 128 ∨ 191 < byteAt r 0) ∨ (byteAt r 1 < 128 ∨ 191 < byteAt r 1) then none else some (64 * (64 * c + byteAt r 0 - 128) + byteAt r 1 - 128) := by
  rcases r with _ | ⟨b1, _ | ⟨b2, r⟩⟩
  · simp at h
  · simp at h
  · simp only [contB, byteAt, List.getD_cons_zero, List.getD_cons_succ]
    by_cases h1 : b1.toNat < 128 ∨ 191 < b1.toNat
    · simp [h1]
    · by_cases h2 : b2.toNat < 128 ∨ 191 < b2.toNat
      · simp [h1, h2]
      · simp [h1, h2]
theorem contB_3 {c : Nat} (r : List UInt8) (h : 3 ≤ r.length) : contB 3 c r = if (byteAt r 0 < 128 ∨ 191 < byteAt r 0) ∨ (byteAt r 1 < 128 ∨ 191 < byteAt r 1) ∨ (byteAt r 2 < 128 ∨ 191 < byteAt r 2) then none else some (64 * (64 * (64 * c + byteAt r 0 - 128) + byteAt r 1 - 128) + byteAt r 2 - 128) := by
  rcases r with _ | ⟨b1, _ | ⟨b2, _ | ⟨b3, r⟩⟩⟩
  · simp at h
  · simp at h
  · simp at h
  · simp only [contB, byteAt, List.getD_cons_zero, List.getD_cons_succ]
    by_cases h1 : b1.toNat < 128 ∨ 191 < b1.toNat
    · simp [h1]
    · by_cases h2 : b2.toNat < 128 ∨ 191 < b2.toNat
      · simp [h1, h2]
      · by_cases h3 : b3.toNat < 128 ∨ 191 < b3.toNat
        · simp [h1, h2, h3]
        · simp [h1, h2, h3]
theorem chr_N (l : List UInt8) (h : l ≠ []) : chr l = chrN l.length (byteAt l 0) (byteAt l 1) (byteAt l 2) (byteAt l 3) := by
  rcases l with _ | ⟨b, r⟩
  · exact absurd rfl h
  · have e0 : byteAt (b :: r) 0 = b.toNat := rfl
    have e1 : byteAt (b :: r) 1 = byteAt r 0 := rfl
    have e2 : byteAt (b :: r) 2 = byteAt r 1 := rfl
    have e3 : byteAt (b :: r) 3 = byteAt r 2 := rfl
    rw [e0, e1, e2, e3]
    rw [chr]
    unfold chrN lead
    by_cases h0 : b.toNat < 128
    · rw [if_pos h0, if_pos h0]
    · rw [if_neg h0, if_neg h0]
      by_cases h1 : 194 ≤ b.toNat ∧ b.toNat < 224
      · rw [if_pos h1, if_pos h1]
        simp only [List.length_cons]
        by_cases hl : r.length < 1
        · rw [if_pos hl, if_pos (.inl (by omega))]
        · rw [if_neg hl, contB_1 r (by omega)]
          by_cases hb : byteAt r 0 < 128 ∨ 191 < byteAt r 0
          · rw [if_pos hb, if_pos (.inr hb)]
          · rw [if_neg hb, if_neg (fun h => h.elim (by omega) hb)]
      · rw [if_neg h1, if_neg h1]
        by_cases h2 : 224 ≤ b.toNat ∧ b.toNat < 240
        · rw [if_pos h2, if_pos h2]
          simp only [List.length_cons]
          by_cases hl : r.length < 2
          · rw [if_pos hl, if_pos (.inl (by omega))]
          · rw [if_neg hl, contB_2 r (by omega)]
            by_cases hb : (byteAt r 0 < 128 ∨ 191 < byteAt r 0) ∨ (byteAt r 1 < 128 ∨ 191 < byteAt r 1)
            · rw [if_pos hb, if_pos (.inr hb)]
            · rw [if_neg hb, if_neg (fun h => h.elim (by omega) hb)]
        · rw [if_neg h2, if_neg h2]
          by_cases h3 : 240 ≤ b.toNat ∧ b.toNat < 245
          · rw [if_pos h3, if_pos h3]
            simp only [List.length_cons]
            by_cases hl : r.length < 3
            · rw [if_pos hl, if_pos (.inl (by omega))]
            · rw [if_neg hl, contB_3 r (by omega)]
              by_cases hb : (byteAt r 0 < 128 ∨ 191 < byteAt r 0) ∨ (byteAt r 1 < 128 ∨ 191 < byteAt r 1) ∨ (byteAt r 2 < 128 ∨ 191 < byteAt r 2)
              · rw [if_pos hb, if_pos (.inr hb)]
              · rw [if_neg hb, if_neg (fun h => h.elim (by omega) hb)]
          · rw [if_neg h3, if_neg h3]
set_option maxRecDepth 100000 in
set_option maxHeartbeats 1000000 in
theorem chrN_decodeN (n b0 b1 b2 b3 : Nat) (h0 : b0 < 256) (h1 : b1 < 256) (h2 : b2 < 256) (h3 : b3 < 256) : Lib.decodeN n b0 b1 b2 b3 = if (chrN n b0 b1 b2 b3).2 = 0 then (65533, 1) else chrN n b0 b1 b2 b3 := by
  by_cases c0 : b0 < 128
  · simp [Lib.decodeN, chrN, c0]
  by_cases c1 : 194 ≤ b0 ∧ b0 < 224
  · have e : chrN n b0 b1 b2 b3 = (if n < 2 ∨ (b1 < 128 ∨ 191 < b1) then (0, 0) else if 64 * (b0 - 192) + b1 - 128 < 128 ∨ 1114111 < 64 * (b0 - 192) + b1 - 128 ∨ (55296 ≤ 64 * (b0 - 192) + b1 - 128 ∧ 64 * (b0 - 192) + b1 - 128 ≤ 57343) then (0, 0) else (64 * (b0 - 192) + b1 - 128, 2)) := by
      unfold chrN; rw [if_neg c0, if_pos c1]
    rw [e]; clear e
    unfold Lib.decodeN
    repeat' split
    all_goals first | rfl | (exfalso; omega) | (exfalso; simp_all; omega) | (apply Prod.ext <;> simp only <;> omega)
  by_cases c2 : 224 ≤ b0 ∧ b0 < 240
  · have e : chrN n b0 b1 b2 b3 = (if n < 3 ∨ (b1 < 128 ∨ 191 < b1) ∨ (b2 < 128 ∨ 191 < b2) then (0, 0) else
     if 64 * (64 * (b0 - 224) + b1 - 128) + b2 - 128 < 2048 ∨ 1114111 < 64 * (64 * (b0 - 224) + b1 - 128) + b2 - 128 ∨ (55296 ≤ 64 * (64 * (b0 - 224) + b1 - 128) + b2 - 128 ∧ 64 * (64 * (b0 - 224) + b1 - 128) + b2 - 128 ≤ 57343) then (0, 0) else (64 * (64 * (b0 - 224) + b1 - 128) + b2 - 128, 3)) := by
      unfold chrN; rw [if_neg c0, if_neg c1, if_pos c2]
    rw [e]; clear e
    unfold Lib.decodeN
    repeat' split
    all_goals first | rfl | (exfalso; omega) | (exfalso; simp_all; omega) | (apply Prod.ext <;> simp only <;> omega)
  by_cases c3 : 240 ≤ b0 ∧ b0 < 245
  · have e : chrN n b0 b1 b2 b3 = (if n < 4 ∨ (b1 < 128 ∨ 191 < b1) ∨ (b2 < 128 ∨ 191 < b2) ∨ (b3 < 128 ∨ 191 < b3) then (0, 0) else
     if 64 * (64 * (64 * (b0 - 240) + b1 - 128) + b2 - 128) + b3 - 128 < 65536 ∨ 1114111 < 64 * (64 * (64 * (b0 - 240) + b1 - 128) + b2 - 128) + b3 - 128 ∨ (55296 ≤ 64 * (64 * (64 * (b0 - 240) + b1 - 128) + b2 - 128) + b3 - 128 ∧ 64 * (64 * (64 * (b0 - 240) + b1 - 128) + b2 - 128) + b3 - 128 ≤ 57343) then (0, 0) else (64 * (64 * (64 * (b0 - 240) + b1 - 128) + b2 - 128) + b3 - 128, 4)) := by
      unfold chrN; rw [if_neg c0, if_neg c1, if_neg c2, if_pos c3]
    rw [e]; clear e
    unfold Lib.decodeN
    repeat' split
    all_goals first | rfl | (exfalso; omega) | (exfalso; simp_all; omega) | (apply Prod.ext <;> simp only <;> omega)
  · have e : chrN n b0 b1 b2 b3 = (0, 0) := by unfold chrN; rw [if_neg c0, if_neg c1, if_neg c2, if_neg c3]
    rw [e]
    unfold Lib.decodeN
    repeat' split
    all_goals first | rfl | (exfalso; omega) | (exfalso; simp_all; omega)
theorem get!_list (l : List UInt8) (i : Nat) : ((⟨⟨l⟩⟩ : ByteArray).get! i).toNat = byteAt l i := by
  unfold byteAt
  congr 1
  show (⟨l⟩ : Array UInt8)[i]! = _
  simp [List.getD_eq_getElem?_getD]
  cases l[i]? <;> rfl
theorem byteAt_drop (l : List UInt8) (p i : Nat) : byteAt (l.drop p) i = byteAt l (p + i) := by simp [byteAt, List.getD_eq_getElem?_getD]
theorem decode_chr (l : List UInt8) (pos : Nat) (h : pos < l.length) : Utf8.decode ⟨⟨l⟩⟩ pos = if (chr (l.drop pos)).2 = 0 then (65533, 1) else chr (l.drop pos) := by
  have hne : l.drop pos ≠ [] := fun e => by have := congrArg List.length e; simp at this; omega
  rw [Lib.decode_at, get!_list, get!_list, get!_list, get!_list, chr_N _ hne, byteAt_drop, byteAt_drop, byteAt_drop, byteAt_drop, List.length_drop]
  exact chrN_decodeN _ _ _ _ _ (byteAt_lt _ _) (byteAt_lt _ _) (byteAt_lt _ _) (byteAt_lt _ _)
theorem decB_chr (l : List UInt8) (pos : Nat) (h : pos < l.length) : decB l pos = if (chr (l.drop pos)).2 = 0 then (65533, 1) else (((chr (l.drop pos)).1 : Int), (chr (l.drop pos)).2) := by
  unfold decB
  rw [decode_chr l pos h]
  split <;> rfl
theorem chr_le : ∀ (l : List UInt8), (chr l).2 ≤ l.length ∧ (chr l).1 ≤ 1114111 ∧ ((chr l).2 ≠ 0 → (chr l).1 < 55296 ∨ 57343 < (chr l).1)
  | [] => by simp [chr]
  | b :: r => by
    rw [chr]
    split
    · simp only [List.length_cons]; omega
    · split
      · simp
      · split
        · simp
        · split
          · simp
          · split
            · simp
            · simp only [List.length_cons]; omega
theorem contB_pre : ∀ (k c : Nat) (r q : List UInt8), k ≤ r.length → contB k c (r.take k ++ q) = contB k c r
  | 0, _, _, _, _ => rfl
  | k + 1, c, [], q, h => by simp at h
  | k + 1, c, b :: r, q, h => by
    simp only [List.take_succ_cons, List.cons_append, contB]
    rw [contB_pre k _ r q (by simpa using h)]
/-- A character's bytes are a character, whatever stands behind. -/
theorem chr_pre (l q : List UInt8) (h : (chr l).2 ≠ 0) : chr (l.take (chr l).2 ++ q) = chr l := by
  rcases l with _ | ⟨b, r⟩
  · simp [chr] at h
  · rw [chr] at h ⊢
    split
    · rename_i h0
      simp [chr, h0]
    · rename_i h0
      rw [if_neg h0] at h
      split
      · rename_i e
        rw [e] at h
        simp at h
      · rename_i k least c0 e
        rw [e] at h
        simp only at h
        split
        · rename_i hl; rw [if_pos hl] at h; simp at h
        · rename_i hl
          rw [if_neg hl] at h
          split
          · rename_i e2; rw [e2] at h; simp at h
          · rename_i c e2
            rw [e2] at h
            simp only at h
            split
            · rename_i e3; rw [if_pos e3] at h; simp at h
            · rename_i e3
              simp only [List.take_succ_cons, List.cons_append]
              rw [chr, if_neg h0, e]
              simp only
              rw [if_neg (by simp; omega), contB_pre _ _ _ _ (by omega), e2]
              simp only
              rw [if_neg e3]
end Go.AR

/-! Names, by definition. -/
namespace Go.AR
open Go
def runes (l : List UInt8) (out : List Int) : Option (List Int) :=
  if h : l = [] then some out else if h2 : (chr l).2 = 0 then none else runes (l.drop (chr l).2) (out ++ [((chr l).1 : Int)])
termination_by l.length
decreasing_by
  rw [List.length_drop]
  have := List.length_pos_iff.2 h
  omega
theorem runes_nil (out : List Int) : runes [] out = some out := by rw [runes]; simp
theorem runes_none {l : List UInt8} (out : List Int) (h : l ≠ []) (h2 : (chr l).2 = 0) : runes l out = none := by rw [runes, dif_neg h, dif_pos h2]
theorem runes_some {l : List UInt8} (out : List Int) (h : l ≠ []) (h2 : (chr l).2 ≠ 0) : runes l out = runes (l.drop (chr l).2) (out ++ [((chr l).1 : Int)]) := by rw [runes, dif_neg h, dif_neg h2]
def mayB (c : Int) : Bool := !decide (c < 32) && (!(decide (127 ≤ c) && decide (c < 160)) && c != 65533)
def rightB (s : List UInt8) : Bool := match runes s [] with
  | none => false
  | some l => decide (1 ≤ l.length) && (decide (l.length ≤ 24) && l.all mayB)
theorem chr_ne {l : List UInt8} (h : (chr l).2 ≠ 0) : l ≠ [] := by rintro rfl; simp [chr] at h
/-- A text of so many characters, each of which may stand in a name. -/
inductive Wd : List UInt8 → Nat → Prop where
  | nil : Wd [] 0
  | cons {l : List UInt8} {n : Nat} (h : (chr l).2 ≠ 0) (hm : mayB (chr l).1 = true) (hr : Wd (l.drop (chr l).2) n) : Wd l (n + 1)
theorem Wd.one {q : List UInt8} (h : (chr q).2 ≠ 0) (hm : mayB (chr q).1 = true) : Wd (q.take (chr q).2) 1 := by
  have e := chr_pre q [] h
  rw [List.append_nil] at e
  refine .cons (by rw [e]; exact h) (by rw [e]; exact hm) ?_
  rw [e, List.drop_take_self]
  exact .nil
theorem Wd.runes {l : List UInt8} {n : Nat} (h : Wd l n) : ∀ out : List Int, ∃ cs : List Int, runes l out = some (out ++ cs) ∧ cs.length = n ∧ cs.all mayB = true := by
  induction h with
  | nil => intro out; exact ⟨[], by rw [runes_nil]; simp, rfl, rfl⟩
  | @cons l n h hm hr ih =>
    intro out
    obtain ⟨cs, h1, h2, h3⟩ := ih (out ++ [((chr l).1 : Int)])
    exact ⟨((chr l).1 : Int) :: cs, by rw [runes_some _ (chr_ne h) h, h1]; simp, by simp [h2], by simp [hm, h3]⟩
theorem wd_of_runes : ∀ (k : Nat) (l : List UInt8) (out cs : List Int), l.length ≤ k → Go.AR.runes l out = some cs → ∃ r, cs = out ++ r ∧ (r.all mayB = true → Wd l r.length)
  | k, [], out, cs, _, h => by
    rw [runes_nil] at h
    cases h
    exact ⟨[], by simp, fun _ => .nil⟩
  | 0, b :: l, out, cs, hk, h => by simp at hk
  | k + 1, b :: l, out, cs, hk, h => by
    by_cases h2 : (chr (b :: l)).2 = 0
    · rw [runes_none _ (by simp) h2] at h; cases h
    · rw [runes_some _ (by simp) h2] at h
      obtain ⟨r, e, hr⟩ := wd_of_runes k _ _ _ (by rw [List.length_drop]; simp at hk ⊢; omega) h
      refine ⟨((chr (b :: l)).1 : Int) :: r, by rw [e]; simp, fun ha => ?_⟩
      simp only [List.all_cons, Bool.and_eq_true] at ha
      exact .cons h2 ha.1 (hr ha.2)
theorem right_iff (s : List UInt8) : rightB s = true ↔ ∃ n, Wd s n ∧ 1 ≤ n ∧ n ≤ 24 := by
  unfold rightB
  constructor
  · intro h
    split at h
    · cases h
    · rename_i l hl
      obtain ⟨r, e, hr⟩ := wd_of_runes s.length s [] l (Nat.le_refl _) hl
      rw [List.nil_append] at e
      subst e
      simp only [Bool.and_eq_true, decide_eq_true_eq] at h
      exact ⟨l.length, hr h.2.2, h.1, h.2.1⟩
  · rintro ⟨n, h, h1, h2⟩
    obtain ⟨cs, e1, e2, e3⟩ := h.runes []
    rw [e1]
    simp [e2, e3, h1, h2]
end Go.AR
