import Derived.Test.YtcpkejkpabgabaaDoorWalk3
import Derived.Test.YtcpkejkpabgabaaDoorBv
set_option linter.all false
/-! Whole numbers of 64 bits: and, or, shifts. -/
namespace Go.AR
open Go
theorem i64_wrap {n : Nat} (h : n < 9223372036854775808) : IntKind.i64.wrap (n : Int) = n := wrap64 (by omega) (by omega)
theorem bv64 (n : Nat) : BitVec.ofInt 64 (n : Int) = BitVec.ofNat 64 n := by apply BitVec.eq_of_toNat_eq; simp
theorem i64_and127 {n : Nat} : IntKind.i64.wrap ((BitVec.ofInt IntKind.i64.bits (n : Int) &&& BitVec.ofInt IntKind.i64.bits 127).toNat : Int) = ((n % 128 : Nat) : Int) := by
  show IntKind.i64.wrap ((BitVec.ofInt 64 (n : Int) &&& BitVec.ofInt 64 127).toNat : Int) = _
  rw [bv64, show (127 : Int) = ((127 : Nat) : Int) from rfl, bv64, BitVec.toNat_and]
  simp only [BitVec.toNat_ofNat]
  rw [show 127 % 2 ^ 64 = 2 ^ 7 - 1 by decide, Nat.and_two_pow_sub_one_eq_mod, show n % 2 ^ 64 % 2 ^ 7 = n % 128 by omega]
  exact i64_wrap (by omega)
theorem i64_or {a b k : Nat} (ha : a < 2 ^ k) (hk : a + b * 2 ^ k < 9223372036854775808) : IntKind.i64.wrap ((BitVec.ofInt IntKind.i64.bits (a : Int) ||| BitVec.ofInt IntKind.i64.bits ((b * 2 ^ k : Nat) : Int)).toNat : Int) = ((a + b * 2 ^ k : Nat) : Int) := by
  show IntKind.i64.wrap ((BitVec.ofInt 64 (a : Int) ||| BitVec.ofInt 64 ((b * 2 ^ k : Nat) : Int)).toNat : Int) = _
  rw [bv64, bv64, BitVec.toNat_or]
  simp only [BitVec.toNat_ofNat]
  generalize hc : b * 2 ^ k = c at *
  have e : a ||| c = a + c := by
    have := Nat.two_pow_add_eq_or_of_lt ha b
    rw [Nat.mul_comm, hc] at this
    rw [Nat.or_comm, ← this, Nat.add_comm]
  rw [Nat.mod_eq_of_lt (show a < 2 ^ 64 by omega), Nat.mod_eq_of_lt (show c < 2 ^ 64 by omega), e]
  exact i64_wrap hk
theorem i64_or128 {a : Nat} (ha : a < 128) : IntKind.i64.wrap ((BitVec.ofInt IntKind.i64.bits (a : Int) ||| BitVec.ofInt IntKind.i64.bits 128).toNat : Int) = ((a + 128 : Nat) : Int) := i64_or (k := 7) (b := 1) ha (by omega)
theorem i64_shr7 {n : Nat} : ((n : Int)).fdiv (2 ^ (min (7 : Nat) IntKind.i64.bits)) = ((n / 128 : Nat) : Int) := by
  show ((n : Int)).fdiv 128 = _
  rw [Int.fdiv_eq_ediv_of_nonneg _ (by decide)]; rfl
theorem i64_shl {a k : Nat} (hk : k ≤ 63) (h : a * 2 ^ k < 9223372036854775808) : IntKind.i64.wrap ((a : Int) * 2 ^ (min k IntKind.i64.bits)) = ((a * 2 ^ k : Nat) : Int) := by
  show IntKind.i64.wrap ((a : Int) * 2 ^ (min k 64)) = _
  rw [Nat.min_eq_left (by omega), show (a : Int) * 2 ^ k = ((a * 2 ^ k : Nat) : Int) by simp [Int.natCast_pow]]
  exact i64_wrap h
theorem pow7 (i : Nat) : (128 : Nat) ^ i = 2 ^ (7 * i) := by rw [show (128 : Nat) = 2 ^ 7 by decide, ← Nat.pow_mul]
end Go.AR
