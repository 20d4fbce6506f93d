import Derived.Test.YtcpflnhmdpfdkaaBv
set_option linter.all false
/-! CRC-32, bit by bit, and by half bytes. -/
namespace Go.AR
/-- A bit's step. -/
def bitS (c : BitVec 32) : BitVec 32 := if c &&& 1#32 = 1#32 then (c >>> 1) ^^^ 3988292384#32 else c >>> 1
def bitN : Nat → BitVec 32 → BitVec 32
  | 0, c => c
  | n + 1, c => bitN n (bitS c)
def byteS (c : BitVec 32) (w : UInt8) : BitVec 32 := bitN 8 (c ^^^ BitVec.ofNat 32 w.toNat)
def crc (c : BitVec 32) (l : List UInt8) : BitVec 32 := l.foldl byteS c
def more (n : BitVec 32) (l : List UInt8) : BitVec 32 := ~~~ (crc (~~~ n) l)
theorem bitN_succ (n : Nat) : ∀ c, bitN (n + 1) c = bitS (bitN n c) := by
  induction n with
  | zero => intro c; rfl
  | succ n ih => intro c; show bitN (n + 1) (bitS c) = _; rw [ih]; rfl
theorem bitN_add (m n : Nat) : ∀ c, bitN (m + n) c = bitN n (bitN m c) := by
  induction n with
  | zero => intro c; rfl
  | succ n ih => intro c; rw [Nat.add_succ, bitN_succ, bitN_succ, ih]
theorem low_iff (c : BitVec 32) : c &&& 1#32 = 1#32 ↔ c.getLsbD 0 = true := by
  constructor
  · intro h
    have := congrArg (fun x => x.getLsbD 0) h
    simpa using this
  · intro h
    apply BitVec.eq_of_getLsbD_eq
    intro i hi
    by_cases h0 : i = 0
    · subst h0; simp [h]
    · have : (1#32).getLsbD i = false := by
        have : ∀ j, j < 32 → j ≠ 0 → (1#32).getLsbD j = false := by decide
        exact this i hi h0
      simp [this]
theorem bitS_eq (c : BitVec 32) : bitS c = (c >>> 1) ^^^ (if c.getLsbD 0 = true then 3988292384#32 else 0#32) := by
  unfold bitS
  by_cases h : c.getLsbD 0 = true
  · rw [if_pos ((low_iff c).2 h), if_pos h]
  · rw [if_neg (fun e => h ((low_iff c).1 e)), if_neg h, BitVec.xor_zero]
theorem shr_xor (a b : BitVec 32) (n : Nat) : (a ^^^ b) >>> n = (a >>> n) ^^^ (b >>> n) := by
  apply BitVec.eq_of_getLsbD_eq
  intro i hi
  simp
theorem bitS_xor (a b : BitVec 32) : bitS (a ^^^ b) = bitS a ^^^ bitS b := by
  rw [bitS_eq, bitS_eq, bitS_eq, shr_xor, BitVec.getLsbD_xor]
  have ac : ∀ x y p q : BitVec 32, (x ^^^ y) ^^^ (p ^^^ q) = (x ^^^ p) ^^^ (y ^^^ q) := fun x y p q => by
    rw [BitVec.xor_assoc, BitVec.xor_assoc, ← BitVec.xor_assoc y p q, BitVec.xor_comm y p, BitVec.xor_assoc p y q]
  rw [← ac]
  congr 1
  cases a.getLsbD 0 <;> cases b.getLsbD 0 <;> simp
theorem bitN_xor : ∀ (n : Nat) (a b : BitVec 32), bitN n (a ^^^ b) = bitN n a ^^^ bitN n b
  | 0, _, _ => rfl
  | n + 1, a, b => by show bitN n (bitS (a ^^^ b)) = _; rw [bitS_xor, bitN_xor n]; rfl
theorem bitN_shr (x : BitVec 32) : ∀ n : Nat, (∀ k, k < n → x.getLsbD k = false) → bitN n x = x >>> n
  | 0, _ => by simp [bitN]
  | n + 1, h => by
    rw [bitN_succ, bitN_shr x n (fun k hk => h k (by omega)), bitS_eq]
    have : (x >>> n).getLsbD 0 = false := by simp [h n (by omega)]
    rw [this]
    simp [← BitVec.shiftRight_add]
theorem split15 (c : BitVec 32) : c = (c &&& ~~~15#32) ^^^ (c &&& 15#32) := by
  apply BitVec.eq_of_getLsbD_eq
  intro i hi
  simp only [BitVec.getLsbD_xor, BitVec.getLsbD_and, BitVec.getLsbD_not]
  simp only [hi, decide_true, Bool.true_and]
  cases c.getLsbD i <;> cases (15#32).getLsbD i <;> rfl
theorem nib (c : BitVec 32) : (c >>> 4) ^^^ bitN 4 (c &&& 15#32) = bitN 4 c := by
  conv => rhs; rw [split15 c, bitN_xor]
  congr 1
  rw [bitN_shr _ 4]
  · apply BitVec.eq_of_getLsbD_eq
    intro i hi
    simp only [BitVec.getLsbD_ushiftRight, BitVec.getLsbD_and]
    by_cases h : 4 + i < 32
    · have : ∀ j, j < 32 → 4 ≤ j → (~~~15#32).getLsbD j = true := by decide
      rw [this (4 + i) h (by omega)]; simp
    · rw [BitVec.getLsbD_of_ge c (4 + i) (by omega)]; rfl
  · have : ∀ k, k < 4 → (~~~15#32).getLsbD k = false := by decide
    intro k hk
    rw [BitVec.getLsbD_and, this k hk, Bool.and_false]
theorem nib2 (c : BitVec 32) : bitN 4 (bitN 4 c) = bitN 8 c := (bitN_add 4 4 c).symm
theorem crc_append (c : BitVec 32) (l r : List UInt8) : crc c (l ++ r) = crc (crc c l) r := by simp [crc]
theorem crc_take (c : BitVec 32) (l : List UInt8) {i : Nat} (h : i < l.length) : crc c (l.take (i + 1)) = byteS (crc c (l.take i)) l[i] := by
  have e : l.take (i + 1) = l.take i ++ [l[i]] := by rw [List.take_add_one, List.getElem?_eq_getElem h]; rfl
  rw [e, crc_append]
  rfl
theorem and15_lt (c : BitVec 32) : ((c &&& 15#32).toNat : Int) < 16 := by
  rw [BitVec.toNat_and]
  have : c.toNat &&& 15 ≤ 15 := Nat.and_le_right
  have h2 : (15#32).toNat = 15 := rfl
  rw [h2]; omega

/-! ### Steps take different sums to different sums -/
theorem top_bit (c : BitVec 32) : (bitS c).getLsbD 31 = c.getLsbD 0 := by
  rw [bitS_eq, BitVec.getLsbD_xor]
  have : (c >>> 1).getLsbD 31 = false := by simp
  rw [this]
  cases c.getLsbD 0 <;> decide
theorem bitS_inj {a b : BitVec 32} (h : bitS a = bitS b) : a = b := by
  have h0 : a.getLsbD 0 = b.getLsbD 0 := by rw [← top_bit, ← top_bit, h]
  rw [bitS_eq, bitS_eq, h0] at h
  have h1 : a >>> 1 = b >>> 1 := by
    have := congrArg (· ^^^ (if b.getLsbD 0 = true then 3988292384#32 else 0#32)) h
    simpa [BitVec.xor_assoc] using this
  apply BitVec.eq_of_getLsbD_eq
  intro i hi
  cases i with
  | zero => exact h0
  | succ i =>
    have := congrArg (fun x => x.getLsbD i) h1
    simpa [Nat.add_comm] using this
theorem bitN_inj : ∀ (n : Nat) {a b : BitVec 32}, bitN n a = bitN n b → a = b
  | 0, _, _, h => h
  | n + 1, _, _, h => bitS_inj (bitN_inj n h)
theorem xor_inj {a b x : BitVec 32} (h : a ^^^ x = b ^^^ x) : a = b := by
  have := congrArg (· ^^^ x) h
  simpa [BitVec.xor_assoc] using this
theorem byteS_inj {a b : BitVec 32} {w : UInt8} (h : byteS a w = byteS b w) : a = b := xor_inj (bitN_inj 8 h)
theorem byteS_inj2 {a : BitVec 32} {v w : UInt8} (h : byteS a v = byteS a w) : v = w := by
  have := bitN_inj 8 h
  have h2 : BitVec.ofNat 32 v.toNat = BitVec.ofNat 32 w.toNat := by
    have e := congrArg (a ^^^ ·) this
    simpa [← BitVec.xor_assoc] using e
  have h3 := congrArg BitVec.toNat h2
  simp only [BitVec.toNat_ofNat] at h3
  have hv := v.toNat_lt; have hw := w.toNat_lt
  rw [Nat.mod_eq_of_lt (by omega), Nat.mod_eq_of_lt (by omega)] at h3
  exact UInt8.toNat_inj.1 h3
theorem crc_inj : ∀ (l : List UInt8) {a b : BitVec 32}, crc a l = crc b l → a = b
  | [], _, _, h => h
  | w :: l, _, _, h => byteS_inj (crc_inj l h)
end Go.AR
