/- Small laws for walks. Conditions: none. -/
import Derived.Test.YtjfenbkhgamidaaAv19
namespace Go.Proofs.Ytjfenbkhgamidaa
def I64 (n : Int) : Prop := -9223372036854775808 ≤ n ∧ n ≤ 9223372036854775807
theorem u8_lo (b : UInt8) : (0 ≤ (b.toNat : Int)) = True := by simp
theorem u8_hi (b : UInt8) : ((b.toNat : Int) ≤ 255) = True := by have := UInt8.toNat_lt b; simp; omega
theorem u8_and (a b : UInt8) : UInt8.ofNat (((a.toNat : Int).toNat &&& (b.toNat : Int).toNat : Nat) : Int).toNat = a &&& b := by
  simp only [Int.toNat_natCast]
  rw [← UInt8.toNat_and, UInt8.ofNat_toNat]
theorem u8_ahi (a b : UInt8) : ((((a.toNat : Int).toNat &&& (b.toNat : Int).toNat : Nat) : Int) ≤ 255) = True := by
  have := UInt8.toNat_lt (a &&& b); rw [UInt8.toNat_and] at this; simp only [Int.toNat_natCast]; simp; omega
theorem u8_ohi (a b : UInt8) : ((((a.toNat : Int).toNat ||| (b.toNat : Int).toNat : Nat) : Int) ≤ 255) = True := by
  have := UInt8.toNat_lt (a ||| b); rw [UInt8.toNat_or] at this; simp only [Int.toNat_natCast]; simp; omega
theorem u8_xhi (a b : UInt8) : ((((a.toNat : Int).toNat ^^^ (b.toNat : Int).toNat : Nat) : Int) ≤ 255) = True := by
  have := UInt8.toNat_lt (a ^^^ b); rw [UInt8.toNat_xor] at this; simp only [Int.toNat_natCast]; simp; omega
theorem nn (n : Nat) : (0 ≤ (n : Int)) = True := by simp
end Go.Proofs.Ytjfenbkhgamidaa
