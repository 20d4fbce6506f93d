import Derived.Test.YtcpkejkpabgabaaDoorWalk3
set_option linter.all false
/-! Unsigned numbers of 32 bits, and bytes. -/
namespace Go.AR
open Go
section
variable {a b : BitVec 32} {d : Option Nat} {mr mw : List Nat} {rb wbk : List (Option Blk)}

theorem wrap_u32 {n : Nat} : IntKind.u32.wrap (n : Int) = ((n % 4294967296 : Nat) : Int) := by
  unfold IntKind.wrap; simp [IntKind.bits, IntKind.signed]
theorem wrap_u8 {n : Nat} : IntKind.u8.wrap (n : Int) = ((n % 256 : Nat) : Int) := by
  unfold IntKind.wrap; simp [IntKind.bits, IntKind.signed]
theorem wrap_u32_bv : IntKind.u32.wrap (a.toNat : Int) = a.toNat := by
  rw [wrap_u32, Nat.mod_eq_of_lt a.isLt]
theorem ofInt_bv : BitVec.ofInt 32 (a.toNat : Int) = a := by
  apply BitVec.eq_of_toNat_eq; simp
theorem u32_xor : IntKind.u32.wrap ((BitVec.ofInt IntKind.u32.bits a.toNat ^^^ BitVec.ofInt IntKind.u32.bits b.toNat).toNat : Int) = (a ^^^ b).toNat := by
  show IntKind.u32.wrap ((BitVec.ofInt 32 a.toNat ^^^ BitVec.ofInt 32 b.toNat).toNat : Int) = _
  rw [ofInt_bv, ofInt_bv, wrap_u32_bv]
theorem u32_xorp : IntKind.u32.wrap ((BitVec.ofInt IntKind.u32.bits a.toNat ^^^ BitVec.ofInt IntKind.u32.bits 3988292384).toNat : Int) = (a ^^^ 3988292384#32).toNat := by
  show IntKind.u32.wrap ((BitVec.ofInt 32 a.toNat ^^^ BitVec.ofInt 32 3988292384).toNat : Int) = _
  rw [ofInt_bv, show BitVec.ofInt 32 3988292384 = 3988292384#32 from rfl, wrap_u32_bv]
theorem u32_xorf : IntKind.u32.wrap ((BitVec.ofInt IntKind.u32.bits a.toNat ^^^ BitVec.ofInt IntKind.u32.bits 4294967295).toNat : Int) = (~~~a).toNat := by
  show IntKind.u32.wrap ((BitVec.ofInt 32 a.toNat ^^^ BitVec.ofInt 32 4294967295).toNat : Int) = _
  rw [ofInt_bv, show BitVec.ofInt 32 4294967295 = BitVec.allOnes 32 from rfl, wrap_u32_bv, BitVec.xor_allOnes]
theorem u32_and15 : IntKind.u32.wrap ((BitVec.ofInt IntKind.u32.bits a.toNat &&& BitVec.ofInt IntKind.u32.bits 15).toNat : Int) = (a &&& 15#32).toNat := by
  show IntKind.u32.wrap ((BitVec.ofInt 32 a.toNat &&& BitVec.ofInt 32 15).toNat : Int) = _
  rw [ofInt_bv, show BitVec.ofInt 32 15 = 15#32 from rfl, wrap_u32_bv]
theorem u32_and1 : IntKind.u32.wrap ((BitVec.ofInt IntKind.u32.bits a.toNat &&& BitVec.ofInt IntKind.u32.bits 1).toNat : Int) = (a &&& 1#32).toNat := by
  show IntKind.u32.wrap ((BitVec.ofInt 32 a.toNat &&& BitVec.ofInt 32 1).toNat : Int) = _
  rw [ofInt_bv, show BitVec.ofInt 32 1 = 1#32 from rfl, wrap_u32_bv]
theorem fdiv_bv (n : Nat) : (a.toNat : Int).fdiv (2 ^ n) = (a >>> n).toNat := by
  rw [BitVec.toNat_ushiftRight, Nat.shiftRight_eq_div_pow, Int.fdiv_eq_ediv_of_nonneg _ (Int.pow_nonneg (by decide))]
  simp
theorem u32_shr1 : (a.toNat : Int).fdiv (2 ^ min 1 IntKind.u32.bits) = (a >>> 1).toNat := fdiv_bv 1
theorem u32_shr4 : (a.toNat : Int).fdiv (2 ^ min 4 IntKind.u32.bits) = (a >>> 4).toNat := fdiv_bv 4
theorem u32_shr8 : (a.toNat : Int).fdiv (2 ^ min 8 IntKind.u32.bits) = (a >>> 8).toNat := fdiv_bv 8
theorem u32_shr16 : (a.toNat : Int).fdiv (2 ^ min 16 IntKind.u32.bits) = (a >>> 16).toNat := fdiv_bv 16
theorem u32_shr24 : (a.toNat : Int).fdiv (2 ^ min 24 IntKind.u32.bits) = (a >>> 24).toNat := fdiv_bv 24
theorem x_cpl32 : sem (.unint .xor) d mr mw [.val (.int .u32 a.toNat)] rb wbk = some (.val (.int .u32 (~~~a).toNat), [], []) := by
  show some (TV.val (.int .u32 (IntKind.u32.wrap ((BitVec.ofInt 32 4294967295 ^^^ BitVec.ofInt 32 a.toNat).toNat : Int))), _, _) = _
  rw [ofInt_bv, show BitVec.ofInt 32 4294967295 = BitVec.allOnes 32 from rfl, wrap_u32_bv, BitVec.allOnes_xor]
theorem u32_rem2 : (a.toNat : Int).tmod 2 = (a &&& 1#32).toNat := by
  rw [Int.tmod_eq_emod_of_nonneg (by omega), BitVec.toNat_and]
  show ((a.toNat : Int) % 2) = ((a.toNat &&& 1 : Nat) : Int)
  rw [Nat.and_one_is_mod]; rfl
theorem u32_quo2 : IntKind.u32.wrap ((a.toNat : Int).tdiv 2) = (a >>> 1).toNat := by
  have : (a.toNat : Int).tdiv 2 = ((a >>> 1).toNat : Int) := by
    rw [Int.tdiv_eq_ediv_of_nonneg (by omega), BitVec.toNat_ushiftRight, Nat.shiftRight_eq_div_pow]; rfl
  rw [this, wrap_u32_bv]
theorem u32_quo256 : IntKind.u32.wrap ((a.toNat : Int).tdiv 256) = (a >>> 8).toNat := by
  have : (a.toNat : Int).tdiv 256 = ((a >>> 8).toNat : Int) := by
    rw [Int.tdiv_eq_ediv_of_nonneg (by omega), BitVec.toNat_ushiftRight, Nat.shiftRight_eq_div_pow]; rfl
  rw [this, wrap_u32_bv]
theorem u32_rem256 : IntKind.u8.wrap ((a.toNat : Int).tmod 256) = ((UInt8.ofNat a.toNat).toNat : Int) := by
  rw [Int.tmod_eq_emod_of_nonneg (by omega), show ((a.toNat : Int) % 256) = ((a.toNat % 256 : Nat) : Int) from rfl, wrap_u8]
  simp
theorem u8_of {n : Nat} : IntKind.u8.wrap (n : Int) = ((UInt8.ofNat n).toNat : Int) := by rw [wrap_u8]; simp
theorem u32_of8 {w : UInt8} : IntKind.u32.wrap (w.toNat : Int) = ((BitVec.ofNat 32 w.toNat).toNat : Int) := by rw [wrap_u32]; simp
theorem u8_xor {v w : UInt8} : IntKind.u8.wrap ((BitVec.ofInt IntKind.u8.bits v.toNat ^^^ BitVec.ofInt IntKind.u8.bits w.toNat).toNat : Int) = (v ^^^ w).toNat := by
  show IntKind.u8.wrap ((BitVec.ofInt 8 v.toNat ^^^ BitVec.ofInt 8 w.toNat).toNat : Int) = _
  have e : ∀ u : UInt8, BitVec.ofInt 8 (u.toNat : Int) = u.toBitVec := fun u => by apply BitVec.eq_of_toNat_eq; simp
  rw [e, e, wrap_u8]
  have : (v.toBitVec ^^^ w.toBitVec) = (v ^^^ w).toBitVec := rfl
  rw [this]
  have h := (v ^^^ w).toNat_lt
  show (((v ^^^ w).toNat % 256 : Nat) : Int) = _
  rw [Nat.mod_eq_of_lt (by omega)]
theorem u8_of32 : IntKind.u8.wrap (a.toNat : Int) = ((UInt8.ofNat a.toNat).toNat : Int) := u8_of
theorem bytes_nil : bytesOf [] = some [] := rfl
theorem bytes_cons {w : UInt8} {r : List (List PV)} : bytesOf ([.int .u8 (w.toNat : Int)] :: r) = (bytesOf r).map (w :: ·) := by
  simp only [bytesOf]; cases bytesOf r <;> simp
theorem bytes_map : ∀ l : List UInt8, bytesOf (l.map fun w => [.int .u8 (w.toNat : Int)]) = some l
  | [] => rfl
  | w :: l => by rw [List.map_cons, bytes_cons, bytes_map l]; rfl
/-- A row of bytes. -/
def bRows (l : List UInt8) : List (List PV) := l.map fun w => [.int .u8 (w.toNat : Int)]
theorem bRows_len {l : List UInt8} : (bRows l).length = l.length := by simp [bRows]
theorem bRows_app {l : List UInt8} {w : UInt8} : bRows l ++ [[.int .u8 (w.toNat : Int)]] = bRows (l ++ [w]) := by simp [bRows]
theorem bRows_bytes {l : List UInt8} : bytesOf (bRows l) = some l := bytes_map l
theorem u32_eq1 : ((a &&& 1#32).toNat : Int) == 1 ↔ a &&& 1#32 = 1#32 := by
  rw [beq_iff_eq]
  constructor
  · intro h; apply BitVec.eq_of_toNat_eq; simp only [BitVec.toNat_ofNat]; omega
  · intro h; rw [h]; rfl
end
end Go.AR
