/- Bits as numbers. -/
import Derived.Test.YtjjacchnalemaaaDoorHs
namespace Go.Hw
theorem wrap64 {x : Int} (h1 : -9223372036854775808 ≤ x) (h2 : x < 9223372036854775808) : IntKind.i64.wrap x = x := by
  unfold IntKind.wrap
  simp [IntKind.signed, IntKind.bits]
  omega
theorem and_mask {a m : Int} (k : Nat) (hk : k < 63) (hm : m = 2 ^ k - 1) : bitOp .and .i64 a m = a % 2 ^ k := by
  subst hm
  have hp : (2 : Nat) ^ k < 2 ^ 63 := Nat.pow_lt_pow_right (by omega) hk
  have hp0 : 0 < (2 : Nat) ^ k := Nat.two_pow_pos k
  have e1 : ((2 : Int) ^ k - 1) = ((2 ^ k - 1 : Nat) : Int) := by
    rw [Int.natCast_sub (by omega)]; simp
  have e2 : (BitVec.ofInt 64 ((2 : Int) ^ k - 1)).toNat = 2 ^ k - 1 := by
    rw [e1]
    simp only [BitVec.ofInt_natCast, BitVec.toNat_ofNat]
    exact Nat.mod_eq_of_lt (by omega)
  have e3 : ((BitVec.ofInt 64 a &&& BitVec.ofInt 64 ((2 : Int) ^ k - 1)).toNat : Int) = a % 2 ^ k := by
    rw [BitVec.toNat_and, e2, Nat.and_two_pow_sub_one_eq_mod, BitVec.toNat_ofInt]
    rw [Int.natCast_emod]
    have h0 : 0 ≤ a % ((2 ^ 64 : Nat) : Int) := Int.emod_nonneg _ (by decide)
    rw [Int.toNat_of_nonneg h0]
    have hd : (((2 ^ k : Nat)) : Int) ∣ ((2 ^ 64 : Nat) : Int) := by
      exact Int.natCast_dvd_natCast.2 (Nat.pow_dvd_pow 2 (by omega))
    rw [Int.emod_emod_of_dvd _ hd]
    simp
  unfold bitOp
  simp only
  have e4 : IntKind.i64.bits = 64 := rfl
  rw [e4, e3]
  have h1 : 0 ≤ a % 2 ^ k := Int.emod_nonneg _ (by rw [show ((2 : Int) ^ k) = ((2 ^ k : Nat) : Int) by simp]; omega)
  have h2 : a % 2 ^ k < 2 ^ k := Int.emod_lt_of_pos _ (by rw [show ((2 : Int) ^ k) = ((2 ^ k : Nat) : Int) by simp]; omega)
  have h3 : ((2 : Int) ^ k) < 9223372036854775808 := by rw [show ((2 : Int) ^ k) = ((2 ^ k : Nat) : Int) by simp]; omega
  exact wrap64 (by omega) (by omega)
end Go.Hw
