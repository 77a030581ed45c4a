/- Rows of numbers as cells; bits of numbers with a sign. -/
import Derived.Test.YtjjacchnalemaaaDoorPb
namespace Go.Hw
abbrev u64V (l : List Nat) : List Value := l.map fun v : Nat => Value.int .u64 (v : Int)
abbrev i64V (l : List Int) : List Value := l.map fun v => .int .i64 v
theorem u64V_one (l : List Nat) : ∀ u ∈ u64V l, u.oneCell' = true := by
  intro u hu
  obtain ⟨v, _, rfl⟩ := List.mem_map.1 hu
  rfl
theorem i64V_one (l : List Int) : ∀ u ∈ i64V l, u.oneCell' = true := by
  intro u hu
  obtain ⟨v, _, rfl⟩ := List.mem_map.1 hu
  rfl
theorem u64V_get {l : List Nat} {j v : Nat} (h : l[j]? = some v) : (u64V l)[j]? = some (.int .u64 (v : Int)) := by simp [u64V, h]
theorem i64V_get {l : List Int} {j : Nat} {v : Int} (h : l[j]? = some v) : (i64V l)[j]? = some (.int .i64 v) := by simp [i64V, h]
theorem ofInt_us (a : Int) : (BitVec.ofInt 64 a).toNat = us a := by
  rw [BitVec.toNat_ofInt]; rfl
theorem bit_i64 (a b : Int) : bitOp .and .i64 a b = sg (us a &&& us b) ∧ bitOp .or .i64 a b = sg (us a ||| us b) ∧ bitOp .xor .i64 a b = sg (us a ^^^ us b) := by
  have e : IntKind.i64.bits = 64 := rfl
  refine ⟨?_, ?_, ?_⟩ <;> unfold bitOp <;> simp only [e, BitVec.toNat_and, BitVec.toNat_or, BitVec.toNat_xor, ofInt_us]
  · exact wrap_sg (Nat.and_lt_two_pow (n := 64) _ (us_lt b))
  · exact wrap_sg (Nat.or_lt_two_pow (n := 64) (us_lt a) (us_lt b))
  · exact wrap_sg (Nat.xor_lt_two_pow (n := 64) (us_lt a) (us_lt b))
theorem xor_ones {x : Nat} (h : x < 18446744073709551616) : x ^^^ 18446744073709551615 = 18446744073709551615 - x := by
  have h1 : (BitVec.ofNat 64 x ^^^ BitVec.allOnes 64).toNat = x ^^^ 18446744073709551615 := by
    rw [BitVec.toNat_xor, BitVec.toNat_ofNat, Nat.mod_eq_of_lt h, BitVec.toNat_allOnes]
  rw [← h1, BitVec.xor_allOnes, BitVec.toNat_not, BitVec.toNat_ofNat, Nat.mod_eq_of_lt h]
theorem or_shift {a b i : Nat} (h : a < 2 ^ i) : a ||| b * 2 ^ i = a + b * 2 ^ i := by
  have := Nat.two_pow_add_eq_or_of_lt h b
  rw [Nat.or_comm, Nat.mul_comm, ← this, Nat.add_comm]
/-- The lowest bits. -/
theorem and_low (a k : Nat) : a &&& (2 ^ k - 1) = a % 2 ^ k := Nat.and_two_pow_sub_one_eq_mod a k
end Go.Hw
