import Derived.Test.YtfipbmlnklmjoaaDoorG01
import Derived.Shelf.Unicode.DecodeSlow
set_option linter.all false
/-! Characters, by definition, and the model's. -/
namespace Go.AR
open Go

/-- Of a first byte: how many there are, the least number, and its own bits. -/
def lead (c : Nat) : Option (Nat × Nat × Nat) :=
  if 194 ≤ c ∧ c < 224 then some (1, 128, c - 192) else if 224 ≤ c ∧ c < 240 then some (2, 2048, c - 224) else if 240 ≤ c ∧ c < 245 then some (3, 65536, c - 240) else none
def contB : Nat → Nat → List UInt8 → Option Nat
  | 0, c, _ => some c
  | _ + 1, _, [] => none
  | k + 1, c, b :: r => if b.toNat < 128 ∨ 191 < b.toNat then none else contB k (64 * c + b.toNat - 128) r
/-- The character with which bytes begin, and how many it has; none: 0. -/
def chr : List UInt8 → Nat × Nat
  | [] => (0, 0)
  | b :: r => if b.toNat < 128 then (b.toNat, 1) else match lead b.toNat with
    | none => (0, 0)
    | some (k, least, c0) => if r.length < k then (0, 0) else match contB k c0 r with
      | none => (0, 0)
      | some c => if c < least ∨ 1114111 < c ∨ (55296 ≤ c ∧ c ≤ 57343) then (0, 0) else (c, k + 1)

/-- The same of numbers: 'n' bytes, the first four. -/
def chrN (n b0 b1 b2 b3 : Nat) : Nat × Nat :=
  if b0 < 128 then (b0, 1)
  else if 194 ≤ b0 ∧ b0 < 224 then
    (if n < 2 ∨ (b1 < 128 ∨ 191 < b1) then (0, 0) else if 64 * (b0 - 192) + b1 - 128 < 128 ∨ 1114111 < 64 * (b0 - 192) + b1 - 128 ∨ (55296 ≤ 64 * (b0 - 192) + b1 - 128 ∧ 64 * (b0 - 192) + b1 - 128 ≤ 57343) then (0, 0) else (64 * (b0 - 192) + b1 - 128, 2))
  else if 224 ≤ b0 ∧ b0 < 240 then
    (if n < 3 ∨ (b1 < 128 ∨ 191 < b1) ∨ (b2 < 128 ∨ 191 < b2) then (0, 0) else
     if 64 * (64 * (b0 - 224) + b1 - 128) + b2 - 128 < 2048 ∨ 1114111 < 64 * (64 * (b0 - 224) + b1 - 128) + b2 - 128 ∨ (55296 ≤ 64 * (64 * (b0 - 224) + b1 - 128) + b2 - 128 ∧ 64 * (64 * (b0 - 224) + b1 - 128) + b2 - 128 ≤ 57343) then (0, 0) else (64 * (64 * (b0 - 224) + b1 - 128) + b2 - 128, 3))
  else if 240 ≤ b0 ∧ b0 < 245 then
    (if n < 4 ∨ (b1 < 128 ∨ 191 < b1) ∨ (b2 < 128 ∨ 191 < b2) ∨ (b3 < 128 ∨ 191 < b3) then (0, 0) else
     if 64 * (64 * (64 * (b0 - 240) + b1 - 128) + b2 - 128) + b3 - 128 < 65536 ∨ 1114111 < 64 * (64 * (64 * (b0 - 240) + b1 - 128) + b2 - 128) + b3 - 128 ∨ (55296 ≤ 64 * (64 * (64 * (b0 - 240) + b1 - 128) + b2 - 128) + b3 - 128 ∧ 64 * (64 * (64 * (b0 - 240) + b1 - 128) + b2 - 128) + b3 - 128 ≤ 57343) then (0, 0) else (64 * (64 * (64 * (b0 - 240) + b1 - 128) + b2 - 128) + b3 - 128, 4))
  else (0, 0)
def byteAt (l : List UInt8) (i : Nat) : Nat := (l.getD i 0).toNat
theorem byteAt_lt (l : List UInt8) (i : Nat) : byteAt l i < 256 := (l.getD i 0).toNat_lt
theorem contB_1 {c : Nat} (r : List UInt8) (h : 1 ≤ r.length) : contB 1 c r = if byteAt r 0 < 128 ∨ 191 < byteAt r 0 then none else some (64 * c + byteAt r 0 - 128) := by
  rcases r with _ | ⟨b1, r⟩
  · simp at h
  · simp [contB, byteAt]
theorem contB_2 {c : Nat} (r : List UInt8) (h : 2 ≤ r.length) : contB 2 c r = if (byteAt r 0 < 128 ∨ 191 < byteAt r 0) ∨ (byteAt r 1 < 128 ∨ 191 < byteAt r 1) then none else some (64 * (64 * c + byteAt r 0 - 128) + byteAt r 1 - 128) := by
  rcases r with _ | ⟨b1, _ | ⟨b2, r⟩⟩
  · simp at h
  · simp at h
  · simp only [contB, byteAt, List.getD_cons_zero, List.getD_cons_succ]
    by_cases h1 : b1.toNat < 128 ∨ 191 < b1.toNat
    · simp [h1]
    · by_cases h2 : b2.toNat < 128 ∨ 191 < b2.toNat
      · simp [h1, h2]
      · simp [h1, h2]
theorem contB_3 {c : Nat} (r : List UInt8) (h : 3 ≤ r.length) : contB 3 c r = if (byteAt r 0 < 128 ∨ 191 < byteAt r 0) ∨ (byteAt r 1 < 128 ∨ 191 < byteAt r 1) ∨ (byteAt r 2 < 128 ∨ 191 < byteAt r 2) then none else some (64 * (64 * (64 * c + byteAt r 0 - 128) + byteAt r 1 - 128) + byteAt r 2 - 128) := by
  rcases r with _ | ⟨b1, _ | ⟨b2, _ | ⟨b3, r⟩⟩⟩
  · simp at h
  · simp at h
  · simp at h
  · simp only [contB, byteAt, List.getD_cons_zero, List.getD_cons_succ]
    by_cases h1 : b1.toNat < 128 ∨ 191 < b1.toNat
    · simp [h1]
    · by_cases h2 : b2.toNat < 128 ∨ 191 < b2.toNat
      · simp [h1, h2]
      · by_cases h3 : b3.toNat < 128 ∨ 191 < b3.toNat
        · simp [h1, h2, h3]
        · simp [h1, h2, h3]
theorem chr_N (l : List UInt8) (h : l ≠ []) : chr l = chrN l.length (byteAt l 0) (byteAt l 1) (byteAt l 2) (byteAt l 3) := by
  rcases l with _ | ⟨b, r⟩
  · exact absurd rfl h
  · have e0 : byteAt (b :: r) 0 = b.toNat := rfl
    have e1 : byteAt (b :: r) 1 = byteAt r 0 := rfl
    have e2 : byteAt (b :: r) 2 = byteAt r 1 := rfl
    have e3 : byteAt (b :: r) 3 = byteAt r 2 := rfl
    rw [e0, e1, e2, e3]
    rw [chr]
    unfold chrN lead
    by_cases h0 : b.toNat < 128
    · rw [if_pos h0, if_pos h0]
    · rw [if_neg h0, if_neg h0]
      by_cases h1 : 194 ≤ b.toNat ∧ b.toNat < 224
      · rw [if_pos h1, if_pos h1]
        simp only [List.length_cons]
        by_cases hl : r.length < 1
        · rw [if_pos hl, if_pos (.inl (by omega))]
        · rw [if_neg hl, contB_1 r (by omega)]
          by_cases hb : byteAt r 0 < 128 ∨ 191 < byteAt r 0
          · rw [if_pos hb, if_pos (.inr hb)]
          · rw [if_neg hb, if_neg (fun h => h.elim (by omega) hb)]
      · rw [if_neg h1, if_neg h1]
        by_cases h2 : 224 ≤ b.toNat ∧ b.toNat < 240
        · rw [if_pos h2, if_pos h2]
          simp only [List.length_cons]
          by_cases hl : r.length < 2
          · rw [if_pos hl, if_pos (.inl (by omega))]
          · rw [if_neg hl, contB_2 r (by omega)]
            by_cases hb : (byteAt r 0 < 128 ∨ 191 < byteAt r 0) ∨ (byteAt r 1 < 128 ∨ 191 < byteAt r 1)
            · rw [if_pos hb, if_pos (.inr hb)]
            · rw [if_neg hb, if_neg (fun h => h.elim (by omega) hb)]
        · rw [if_neg h2, if_neg h2]
          by_cases h3 : 240 ≤ b.toNat ∧ b.toNat < 245
          · rw [if_pos h3, if_pos h3]
            simp only [List.length_cons]
            by_cases hl : r.length < 3
            · rw [if_pos hl, if_pos (.inl (by omega))]
            · rw [if_neg hl, contB_3 r (by omega)]
              by_cases hb : (byteAt r 0 < 128 ∨ 191 < byteAt r 0) ∨ (byteAt r 1 < 128 ∨ 191 < byteAt r 1) ∨ (byteAt r 2 < 128 ∨ 191 < byteAt r 2)
              · rw [if_pos hb, if_pos (.inr hb)]
              · rw [if_neg hb, if_neg (fun h => h.elim (by omega) hb)]
          · rw [if_neg h3, if_neg h3]
set_option maxRecDepth 100000 in
set_option maxHeartbeats 1000000 in
theorem chrN_decodeN (n b0 b1 b2 b3 : Nat) (h0 : b0 < 256) (h1 : b1 < 256) (h2 : b2 < 256) (h3 : b3 < 256) : Lib.decodeN n b0 b1 b2 b3 = if (chrN n b0 b1 b2 b3).2 = 0 then (65533, 1) else chrN n b0 b1 b2 b3 := by
  by_cases c0 : b0 < 128
  · simp [Lib.decodeN, chrN, c0]
  by_cases c1 : 194 ≤ b0 ∧ b0 < 224
  · have e : chrN n b0 b1 b2 b3 = (if n < 2 ∨ (b1 < 128 ∨ 191 < b1) then (0, 0) else if 64 * (b0 - 192) + b1 - 128 < 128 ∨ 1114111 < 64 * (b0 - 192) + b1 - 128 ∨ (55296 ≤ 64 * (b0 - 192) + b1 - 128 ∧ 64 * (b0 - 192) + b1 - 128 ≤ 57343) then (0, 0) else (64 * (b0 - 192) + b1 - 128, 2)) := by
      unfold chrN; rw [if_neg c0, if_pos c1]
    rw [e]; clear e
    unfold Lib.decodeN
    repeat' split
    all_goals first | rfl | (exfalso; omega) | (exfalso; simp_all; omega) | (apply Prod.ext <;> simp only <;> omega)
  by_cases c2 : 224 ≤ b0 ∧ b0 < 240
  · have e : chrN n b0 b1 b2 b3 = (if n < 3 ∨ (b1 < 128 ∨ 191 < b1) ∨ (b2 < 128 ∨ 191 < b2) then (0, 0) else
     if 64 * (64 * (b0 - 224) + b1 - 128) + b2 - 128 < 2048 ∨ 1114111 < 64 * (64 * (b0 - 224) + b1 - 128) + b2 - 128 ∨ (55296 ≤ 64 * (64 * (b0 - 224) + b1 - 128) + b2 - 128 ∧ 64 * (64 * (b0 - 224) + b1 - 128) + b2 - 128 ≤ 57343) then (0, 0) else (64 * (64 * (b0 - 224) + b1 - 128) + b2 - 128, 3)) := by
      unfold chrN; rw [if_neg c0, if_neg c1, if_pos c2]
    rw [e]; clear e
    unfold Lib.decodeN
    repeat' split
    all_goals first | rfl | (exfalso; omega) | (exfalso; simp_all; omega) | (apply Prod.ext <;> simp only <;> omega)
  by_cases c3 : 240 ≤ b0 ∧ b0 < 245
  · have e : chrN n b0 b1 b2 b3 = (if n < 4 ∨ (b1 < 128 ∨ 191 < b1) ∨ (b2 < 128 ∨ 191 < b2) ∨ (b3 < 128 ∨ 191 < b3) then (0, 0) else
     if 64 * (64 * (64 * (b0 - 240) + b1 - 128) + b2 - 128) + b3 - 128 < 65536 ∨ 1114111 < 64 * (64 * (64 * (b0 - 240) + b1 - 128) + b2 - 128) + b3 - 128 ∨ (55296 ≤ 64 * (64 * (64 * (b0 - 240) + b1 - 128) + b2 - 128) + b3 - 128 ∧ 64 * (64 * (64 * (b0 - 240) + b1 - 128) + b2 - 128) + b3 - 128 ≤ 57343) then (0, 0) else (64 * (64 * (64 * (b0 - 240) + b1 - 128) + b2 - 128) + b3 - 128, 4)) := by
      unfold chrN; rw [if_neg c0, if_neg c1, if_neg c2, if_pos c3]
    rw [e]; clear e
    unfold Lib.decodeN
    repeat' split
    all_goals first | rfl | (exfalso; omega) | (exfalso; simp_all; omega) | (apply Prod.ext <;> simp only <;> omega)
  · have e : chrN n b0 b1 b2 b3 = (0, 0) := by unfold chrN; rw [if_neg c0, if_neg c1, if_neg c2, if_neg c3]
    rw [e]
    unfold Lib.decodeN
    repeat' split
    all_goals first | rfl | (exfalso; omega) | (exfalso; simp_all; omega)
theorem get!_list (l : List UInt8) (i : Nat) : ((⟨⟨l⟩⟩ : ByteArray).get! i).toNat = byteAt l i := by
  unfold byteAt
  congr 1
  show (⟨l⟩ : Array UInt8)[i]! = _
  simp [List.getD_eq_getElem?_getD]
  cases l[i]? <;> rfl
theorem byteAt_drop (l : List UInt8) (p i : Nat) : byteAt (l.drop p) i = byteAt l (p + i) := by simp [byteAt, List.getD_eq_getElem?_getD]
theorem decode_chr (l : List UInt8) (pos : Nat) (h : pos < l.length) : Utf8.decode ⟨⟨l⟩⟩ pos = if (chr (l.drop pos)).2 = 0 then (65533, 1) else chr (l.drop pos) := by
  have hne : l.drop pos ≠ [] := fun e => by have := congrArg List.length e; simp at this; omega
  rw [Lib.decode_at, get!_list, get!_list, get!_list, get!_list, chr_N _ hne, byteAt_drop, byteAt_drop, byteAt_drop, byteAt_drop, List.length_drop]
  exact chrN_decodeN _ _ _ _ _ (byteAt_lt _ _) (byteAt_lt _ _) (byteAt_lt _ _) (byteAt_lt _ _)
theorem decB_chr (l : List UInt8) (pos : Nat) (h : pos < l.length) : decB l pos = if (chr (l.drop pos)).2 = 0 then (65533, 1) else (((chr (l.drop pos)).1 : Int), (chr (l.drop pos)).2) := by
  unfold decB
  rw [decode_chr l pos h]
  split <;> rfl
theorem chr_le : ∀ (l : List UInt8), (chr l).2 ≤ l.length ∧ (chr l).1 ≤ 1114111 ∧ ((chr l).2 ≠ 0 → (chr l).1 < 55296 ∨ 57343 < (chr l).1)
  | [] => by simp [chr]
  | b :: r => by
    rw [chr]
    split
    · simp only [List.length_cons]; omega
    · split
      · simp
      · split
        · simp
        · split
          · simp
          · split
            · simp
            · simp only [List.length_cons]; omega
theorem contB_pre : ∀ (k c : Nat) (r q : List UInt8), k ≤ r.length → contB k c (r.take k ++ q) = contB k c r
  | 0, _, _, _, _ => rfl
  | k + 1, c, [], q, h => by simp at h
  | k + 1, c, b :: r, q, h => by
    simp only [List.take_succ_cons, List.cons_append, contB]
    rw [contB_pre k _ r q (by simpa using h)]
/-- A character's bytes are a character, whatever stands behind. -/
theorem chr_pre (l q : List UInt8) (h : (chr l).2 ≠ 0) : chr (l.take (chr l).2 ++ q) = chr l := by
  rcases l with _ | ⟨b, r⟩
  · simp [chr] at h
  · rw [chr] at h ⊢
    split
    · rename_i h0
      simp [chr, h0]
    · rename_i h0
      rw [if_neg h0] at h
      split
      · rename_i e
        rw [e] at h
        simp at h
      · rename_i k least c0 e
        rw [e] at h
        simp only at h
        split
        · rename_i hl; rw [if_pos hl] at h; simp at h
        · rename_i hl
          rw [if_neg hl] at h
          split
          · rename_i e2; rw [e2] at h; simp at h
          · rename_i c e2
            rw [e2] at h
            simp only at h
            split
            · rename_i e3; rw [if_pos e3] at h; simp at h
            · rename_i e3
              simp only [List.take_succ_cons, List.cons_append]
              rw [chr, if_neg h0, e]
              simp only
              rw [if_neg (by simp; omega), contB_pre _ _ _ _ (by omega), e2]
              simp only
              rw [if_neg e3]
theorem chrN_le (n b0 b1 b2 b3 : Nat) : (chrN n b0 b1 b2 b3).2 ≤ 4 := by
  unfold chrN
  repeat' split
  all_goals simp
theorem u8_nat (b : UInt8) (n : Nat) (h : n = b.toNat) : UInt8.ofNat n = b := by subst h; simp
theorem byteAt_get (l : List UInt8) (i : Nat) (h : i < l.length) : byteAt l i = l[i].toNat := by simp [byteAt, List.getD_eq_getElem?_getD, h]
/-- Encoded, a character is its bytes. -/
theorem enc_chr (l : List UInt8) (h : (chr l).2 ≠ 0) : (Utf8.encode ((chr l).1 : Int)).data.toList = l.take (chr l).2 := by
  have hne : l ≠ [] := by rintro rfl; simp [chr] at h
  obtain ⟨hle, hmax, hsur⟩ := chr_le l
  have hsur := hsur h
  have hv : Utf8.valid ((chr l).1 : Int) = true := by
    unfold Utf8.valid
    simp only [Bool.or_eq_true, Bool.and_eq_true, decide_eq_true_eq]
    omega
  have htn : (((chr l).1 : Nat) : Int).toNat = (chr l).1 := by simp
  unfold Utf8.encode
  simp only [hv, if_true, htn]
  have e := chr_N l hne
  have hb0 := byteAt_lt l 0
  have hb1 := byteAt_lt l 1
  have hb2 := byteAt_lt l 2
  have hb3 := byteAt_lt l 3
  have take1 : 1 ≤ l.length → l.take 1 = [l.getD 0 0] := by
    intro h; rcases l with _ | ⟨a, l⟩ <;> simp at h ⊢
  have take2 : 2 ≤ l.length → l.take 2 = [l.getD 0 0, l.getD 1 0] := by
    intro h; rcases l with _ | ⟨a, _ | ⟨b, l⟩⟩ <;> simp at h ⊢
  have take3 : 3 ≤ l.length → l.take 3 = [l.getD 0 0, l.getD 1 0, l.getD 2 0] := by
    intro h; rcases l with _ | ⟨a, _ | ⟨b, _ | ⟨c, l⟩⟩⟩ <;> simp at h ⊢
  have take4 : 4 ≤ l.length → l.take 4 = [l.getD 0 0, l.getD 1 0, l.getD 2 0, l.getD 3 0] := by
    intro h; rcases l with _ | ⟨a, _ | ⟨b, _ | ⟨c, _ | ⟨d, l⟩⟩⟩⟩ <;> simp at h ⊢
  have u0 : ∀ n, n = byteAt l 0 → UInt8.ofNat n = l.getD 0 0 := fun n h => u8_nat _ _ h
  have u1 : ∀ n, n = byteAt l 1 → UInt8.ofNat n = l.getD 1 0 := fun n h => u8_nat _ _ h
  have u2 : ∀ n, n = byteAt l 2 → UInt8.ofNat n = l.getD 2 0 := fun n h => u8_nat _ _ h
  have u3 : ∀ n, n = byteAt l 3 → UInt8.ofNat n = l.getD 3 0 := fun n h => u8_nat _ _ h
  generalize byteAt l 0 = x0 at *
  generalize byteAt l 1 = x1 at *
  generalize byteAt l 2 = x2 at *
  generalize byteAt l 3 = x3 at *
  rw [e] at h hle hmax hsur ⊢
  unfold chrN at h hle hmax hsur ⊢
  by_cases c0 : x0 < 128
  · simp only [c0, if_true] at h hle ⊢
    rw [take1 hle]
    simp [u0 x0 rfl]
  simp only [c0, if_false] at h hle hmax hsur ⊢
  by_cases c1 : 194 ≤ x0 ∧ x0 < 224
  · simp only [c1, and_self, if_true] at h hle hmax hsur ⊢
    split at h
    · simp at h
    rename_i d1
    split at h
    · simp at h
    rename_i d2
    simp only [d1, d2, if_false] at hle ⊢
    rw [take2 hle, if_neg (by omega), if_pos (by omega)]
    simp only [List.cons.injEq, and_true]
    exact ⟨u0 _ (by omega), u1 _ (by omega)⟩
  simp only [c1, if_false] at h hle hmax hsur ⊢
  by_cases c2 : 224 ≤ x0 ∧ x0 < 240
  · simp only [c2, and_self, if_true] at h hle hmax hsur ⊢
    split at h
    · simp at h
    rename_i d1
    split at h
    · simp at h
    rename_i d2
    simp only [d1, d2, if_false] at hle ⊢
    rw [take3 hle, if_neg (by omega), if_neg (by omega), if_pos (by omega)]
    simp only [List.cons.injEq, and_true]
    exact ⟨u0 _ (by omega), u1 _ (by omega), u2 _ (by omega)⟩
  simp only [c2, if_false] at h hle hmax hsur ⊢
  by_cases c3 : 240 ≤ x0 ∧ x0 < 245
  · simp only [c3, and_self, if_true] at h hle hmax hsur ⊢
    split at h
    · simp at h
    rename_i d1
    split at h
    · simp at h
    rename_i d2
    simp only [d1, d2, if_false] at hle ⊢
    rw [take4 hle, if_neg (by omega), if_neg (by omega), if_neg (by omega)]
    simp only [List.cons.injEq, and_true]
    exact ⟨u0 _ (by omega), u1 _ (by omega), u2 _ (by omega), u3 _ (by omega)⟩
  · simp [c3] at h
end Go.AR

/-! Names, by definition. -/
namespace Go.AR
open Go
def runes (l : List UInt8) (out : List Int) : Option (List Int) :=
  if h : l = [] then some out else if h2 : (chr l).2 = 0 then none else runes (l.drop (chr l).2) (out ++ [((chr l).1 : Int)])
termination_by l.length
decreasing_by
  rw [List.length_drop]
  have := List.length_pos_iff.2 h
  omega
theorem runes_nil (out : List Int) : runes [] out = some out := by rw [runes]; simp
theorem runes_none {l : List UInt8} (out : List Int) (h : l ≠ []) (h2 : (chr l).2 = 0) : runes l out = none := by rw [runes, dif_neg h, dif_pos h2]
theorem runes_some {l : List UInt8} (out : List Int) (h : l ≠ []) (h2 : (chr l).2 ≠ 0) : runes l out = runes (l.drop (chr l).2) (out ++ [((chr l).1 : Int)]) := by rw [runes, dif_neg h, dif_neg h2]
def mayB (c : Int) : Bool := !decide (c < 32) && (!(decide (127 ≤ c) && decide (c < 160)) && c != 65533)
def rightB (s : List UInt8) : Bool := match runes s [] with
  | none => false
  | some l => decide (1 ≤ l.length) && (decide (l.length ≤ 24) && l.all mayB)
def clean (l out : List UInt8) (many : Nat) : List UInt8 :=
  if h : l = [] then (if many = 0 then [95] else out) else if h2 : (chr l).2 = 0 then clean (l.drop 1) out many
  else if mayB (chr l).1 = true ∧ many < 24 then clean (l.drop (chr l).2) (out ++ l.take (chr l).2) (many + 1) else clean (l.drop (chr l).2) out many
termination_by l.length
decreasing_by
  all_goals (rw [List.length_drop]; have := List.length_pos_iff.2 h; omega)
theorem clean_nil (out : List UInt8) (many : Nat) : clean [] out many = if many = 0 then [95] else out := by rw [clean]; simp
theorem clean_bad {l : List UInt8} (out : List UInt8) (many : Nat) (h : l ≠ []) (h2 : (chr l).2 = 0) : clean l out many = clean (l.drop 1) out many := by rw [clean, dif_neg h, dif_pos h2]
theorem clean_in {l : List UInt8} (out : List UInt8) (many : Nat) (h : l ≠ []) (h2 : (chr l).2 ≠ 0) (h3 : mayB (chr l).1 = true ∧ many < 24) : clean l out many = clean (l.drop (chr l).2) (out ++ l.take (chr l).2) (many + 1) := by rw [clean, dif_neg h, dif_neg h2, if_pos h3]
theorem clean_out {l : List UInt8} (out : List UInt8) (many : Nat) (h : l ≠ []) (h2 : (chr l).2 ≠ 0) (h3 : ¬ (mayB (chr l).1 = true ∧ many < 24)) : clean l out many = clean (l.drop (chr l).2) out many := by rw [clean, dif_neg h, dif_neg h2, if_neg h3]
theorem chr_ne {l : List UInt8} (h : (chr l).2 ≠ 0) : l ≠ [] := by rintro rfl; simp [chr] at h
theorem chr_app (l q : List UInt8) (h : (chr l).2 ≠ 0) : chr (l ++ q) = chr l := by
  have e : l ++ q = l.take (chr l).2 ++ (l.drop (chr l).2 ++ q) := by rw [← List.append_assoc, List.take_append_drop]
  rw [e, chr_pre l _ h]
/-- A text of so many characters, each of which may stand in a name. -/
inductive Wd : List UInt8 → Nat → Prop where
  | nil : Wd [] 0
  | cons {l : List UInt8} {n : Nat} (h : (chr l).2 ≠ 0) (hm : mayB (chr l).1 = true) (hr : Wd (l.drop (chr l).2) n) : Wd l (n + 1)
theorem Wd.one {q : List UInt8} (h : (chr q).2 ≠ 0) (hm : mayB (chr q).1 = true) : Wd (q.take (chr q).2) 1 := by
  have e := chr_pre q [] h
  rw [List.append_nil] at e
  refine .cons (by rw [e]; exact h) (by rw [e]; exact hm) ?_
  rw [e, List.drop_take_self]
  exact .nil
theorem Wd.app : ∀ {a : List UInt8} {n : Nat}, Wd a n → ∀ {b : List UInt8} {m : Nat}, Wd b m → Wd (a ++ b) (n + m) := by
  intro a n h
  induction h with
  | nil => intro b m h; simpa using h
  | @cons l n h hm hr ih =>
    intro b m hb
    have e := chr_app l b h
    rw [show n + 1 + m = (n + m) + 1 by omega]
    refine .cons (by rw [e]; exact h) (by rw [e]; exact hm) ?_
    rw [e, List.drop_append_of_le_length (chr_le l).1]
    exact ih hb
theorem Wd.runes {l : List UInt8} {n : Nat} (h : Wd l n) : ∀ out : List Int, ∃ cs : List Int, runes l out = some (out ++ cs) ∧ cs.length = n ∧ cs.all mayB = true := by
  induction h with
  | nil => intro out; exact ⟨[], by rw [runes_nil]; simp, rfl, rfl⟩
  | @cons l n h hm hr ih =>
    intro out
    obtain ⟨cs, h1, h2, h3⟩ := ih (out ++ [((chr l).1 : Int)])
    exact ⟨((chr l).1 : Int) :: cs, by rw [runes_some _ (chr_ne h) h, h1]; simp, by simp [h2], by simp [hm, h3]⟩
theorem wd_of_runes : ∀ (k : Nat) (l : List UInt8) (out cs : List Int), l.length ≤ k → Go.AR.runes l out = some cs → ∃ r, cs = out ++ r ∧ (r.all mayB = true → Wd l r.length)
  | k, [], out, cs, _, h => by
    rw [runes_nil] at h
    cases h
    exact ⟨[], by simp, fun _ => .nil⟩
  | 0, b :: l, out, cs, hk, h => by simp at hk
  | k + 1, b :: l, out, cs, hk, h => by
    by_cases h2 : (chr (b :: l)).2 = 0
    · rw [runes_none _ (by simp) h2] at h; cases h
    · rw [runes_some _ (by simp) h2] at h
      obtain ⟨r, e, hr⟩ := wd_of_runes k _ _ _ (by rw [List.length_drop]; simp at hk ⊢; omega) h
      refine ⟨((chr (b :: l)).1 : Int) :: r, by rw [e]; simp, fun ha => ?_⟩
      simp only [List.all_cons, Bool.and_eq_true] at ha
      exact .cons h2 ha.1 (hr ha.2)
theorem right_iff (s : List UInt8) : rightB s = true ↔ ∃ n, Wd s n ∧ 1 ≤ n ∧ n ≤ 24 := by
  unfold rightB
  constructor
  · intro h
    split at h
    · cases h
    · rename_i l hl
      obtain ⟨r, e, hr⟩ := wd_of_runes s.length s [] l (Nat.le_refl _) hl
      rw [List.nil_append] at e
      subst e
      simp only [Bool.and_eq_true, decide_eq_true_eq] at h
      exact ⟨l.length, hr h.2.2, h.1, h.2.1⟩
  · rintro ⟨n, h, h1, h2⟩
    obtain ⟨cs, e1, e2, e3⟩ := h.runes []
    rw [e1]
    simp [e2, e3, h1, h2]
theorem wd_95 : Wd [95] 1 := by
  have e : chr [95] = (95, 1) := by decide
  refine .cons (by rw [e]; decide) (by rw [e]; decide) ?_
  rw [e]; exact .nil
theorem clean_wd : ∀ (k : Nat) (l out : List UInt8) (many : Nat), l.length ≤ k → Wd out many → many ≤ 24 → ∃ n, Wd (clean l out many) n ∧ 1 ≤ n ∧ n ≤ 24
  | k, [], out, many, _, h, hm => by
    rw [clean_nil]
    split
    · exact ⟨1, wd_95, by omega, by omega⟩
    · exact ⟨many, h, by omega, hm⟩
  | 0, b :: l, out, many, hk, _, _ => by simp at hk
  | k + 1, b :: l, out, many, hk, h, hm => by
    by_cases h2 : (chr (b :: l)).2 = 0
    · rw [clean_bad _ _ (by simp) h2]
      exact clean_wd k _ _ _ (by simp at hk ⊢; omega) h hm
    · have hd : ((b :: l).drop (chr (b :: l)).2).length ≤ k := by rw [List.length_drop]; simp at hk ⊢; omega
      by_cases h3 : mayB (chr (b :: l)).1 = true ∧ many < 24
      · rw [clean_in _ _ (by simp) h2 h3]
        exact clean_wd k _ _ _ hd (h.app (.one h2 h3.1)) (by omega)
      · rw [clean_out _ _ (by simp) h2 h3]
        exact clean_wd k _ _ _ hd h hm
theorem wd_clean {l : List UInt8} {n : Nat} (h : Wd l n) : ∀ (out : List UInt8) (many : Nat), many + n ≤ 24 → clean l out many = if many + n = 0 then [95] else out ++ l := by
  induction h with
  | nil => intro out many _; rw [clean_nil]; simp
  | @cons l n h hm hr ih =>
    intro out many hle
    rw [clean_in _ _ (chr_ne h) h ⟨hm, by omega⟩, ih _ _ (by omega), if_neg (by omega), if_neg (by omega), List.append_assoc, List.take_append_drop]
theorem clean_right (s : List UInt8) : rightB (clean s [] 0) = true := by
  obtain ⟨n, h, h1, h2⟩ := clean_wd s.length s [] 0 (Nat.le_refl _) .nil (by omega)
  exact (right_iff _).2 ⟨n, h, h1, h2⟩
theorem right_clean {s : List UInt8} (h : rightB s = true) : clean s [] 0 = s := by
  obtain ⟨n, h, h1, h2⟩ := (right_iff s).1 h
  rw [wd_clean h [] 0 (by omega), if_neg (by omega)]
  rfl
theorem clean_clean (s : List UInt8) : clean (clean s [] 0) [] 0 = clean s [] 0 := right_clean (clean_right s)
theorem right_same (s : List UInt8) : rightB s = (clean s [] 0 == s) := by
  rw [Bool.eq_iff_iff, beq_iff_eq]
  exact ⟨right_clean, fun h => h ▸ clean_right s⟩
theorem clean_len : ∀ (k : Nat) (l out : List UInt8) (many : Nat), l.length ≤ k → (clean l out many).length ≤ out.length + l.length + 1
  | k, [], out, many, _ => by
    rw [clean_nil]
    split <;> simp
  | 0, b :: l, out, many, hk => by simp at hk
  | k + 1, b :: l, out, many, hk => by
    by_cases h2 : (chr (b :: l)).2 = 0
    · rw [clean_bad _ _ (by simp) h2]
      have := clean_len k ((b :: l).drop 1) out many (by simp at hk ⊢; omega)
      simp at this ⊢; omega
    · have hd : ((b :: l).drop (chr (b :: l)).2).length ≤ k := by rw [List.length_drop]; simp at hk ⊢; omega
      have hle := (chr_le (b :: l)).1
      by_cases h3 : mayB (chr (b :: l)).1 = true ∧ many < 24
      · rw [clean_in _ _ (by simp) h2 h3]
        have := clean_len k _ (out ++ (b :: l).take (chr (b :: l)).2) (many + 1) hd
        rw [List.length_append, List.length_drop, List.length_take] at this
        omega
      · rw [clean_out _ _ (by simp) h2 h3]
        have := clean_len k _ out many hd
        rw [List.length_drop] at this
        omega
end Go.AR
