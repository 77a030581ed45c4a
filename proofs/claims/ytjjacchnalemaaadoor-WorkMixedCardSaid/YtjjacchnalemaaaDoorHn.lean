/- Numbers without a sign, as natural numbers. -/
import Derived.Test.YtjjacchnalemaaaDoorHx
namespace Go.Hw
theorem wrap_u64 (x : Nat) : IntKind.u64.wrap (x : Int) = ((x % 18446744073709551616 : Nat) : Int) := by
  unfold IntKind.wrap
  simp [IntKind.signed, IntKind.bits]
theorem wrap_u8 (x : Nat) : IntKind.u8.wrap (x : Int) = ((x % 256 : Nat) : Int) := by
  unfold IntKind.wrap
  simp [IntKind.signed, IntKind.bits]
theorem bit_u64 {a b : Nat} (ha : a < 18446744073709551616) (hb : b < 18446744073709551616) :
    bitOp .and .u64 (a : Int) (b : Int) = ((a &&& b : Nat) : Int) ∧ bitOp .or .u64 (a : Int) (b : Int) = ((a ||| b : Nat) : Int) ∧ bitOp .xor .u64 (a : Int) (b : Int) = ((a ^^^ b : Nat) : Int) := by
  have ha' : a % 2 ^ 64 = a := Nat.mod_eq_of_lt ha
  have hb' : b % 2 ^ 64 = b := Nat.mod_eq_of_lt hb
  have e : IntKind.u64.bits = 64 := rfl
  refine ⟨?_, ?_, ?_⟩ <;> unfold bitOp <;> simp only [e, BitVec.ofInt_natCast, BitVec.toNat_and, BitVec.toNat_or, BitVec.toNat_xor, BitVec.toNat_ofNat, ha', hb', wrap_u64]
  · rw [Nat.mod_eq_of_lt (Nat.and_lt_two_pow (n := 64) _ hb)]
  · rw [Nat.mod_eq_of_lt (Nat.or_lt_two_pow (n := 64) ha hb)]
  · rw [Nat.mod_eq_of_lt (Nat.xor_lt_two_pow (n := 64) ha hb)]
theorem bit_u8 {a b : Nat} (ha : a < 256) (hb : b < 256) :
    bitOp .and .u8 (a : Int) (b : Int) = ((a &&& b : Nat) : Int) ∧ bitOp .or .u8 (a : Int) (b : Int) = ((a ||| b : Nat) : Int) ∧ bitOp .xor .u8 (a : Int) (b : Int) = ((a ^^^ b : Nat) : Int) := by
  have ha' : a % 2 ^ 8 = a := Nat.mod_eq_of_lt ha
  have hb' : b % 2 ^ 8 = b := Nat.mod_eq_of_lt hb
  have e : IntKind.u8.bits = 8 := rfl
  refine ⟨?_, ?_, ?_⟩ <;> unfold bitOp <;> simp only [e, BitVec.ofInt_natCast, BitVec.toNat_and, BitVec.toNat_or, BitVec.toNat_xor, BitVec.toNat_ofNat, ha', hb', wrap_u8]
  · rw [Nat.mod_eq_of_lt (Nat.and_lt_two_pow (n := 8) _ hb)]
  · rw [Nat.mod_eq_of_lt (Nat.or_lt_two_pow (n := 8) ha hb)]
  · rw [Nat.mod_eq_of_lt (Nat.xor_lt_two_pow (n := 8) ha hb)]
theorem or_bytes (x y : UInt8) : bitOp .or .u8 (x.toNat : Int) (y.toNat : Int) = ((x ||| y).toNat : Int) := by
  rw [(bit_u8 x.toNat_lt y.toNat_lt).2.1]; rfl
theorem fdiv_nat (a i n : Nat) (h : i ≤ n) : (a : Int).fdiv (2 ^ (min ((i : Int)).toNat n)) = ((a / 2 ^ i : Nat) : Int) := by
  rw [Int.toNat_natCast, Nat.min_eq_left h, Int.fdiv_eq_ediv_of_nonneg _ (by exact Int.le_of_lt (Int.pow_pos (by decide)))]
  rw [Int.natCast_ediv]
  simp
theorem shl_u64 (a i : Nat) (h : i ≤ 64) : IntKind.u64.wrap ((a : Int) * 2 ^ (min ((i : Int)).toNat IntKind.u64.bits)) = ((a * 2 ^ i % 18446744073709551616 : Nat) : Int) := by
  rw [Int.toNat_natCast, Nat.min_eq_left (show i ≤ IntKind.u64.bits from h), ← wrap_u64]
  simp
theorem shl_u8 (a i : Nat) (h : i ≤ 8) : IntKind.u8.wrap ((a : Int) * 2 ^ (min ((i : Int)).toNat IntKind.u8.bits)) = ((a * 2 ^ i % 256 : Nat) : Int) := by
  rw [Int.toNat_natCast, Nat.min_eq_left (show i ≤ IntKind.u8.bits from h), ← wrap_u8]
  simp
theorem tmod_nat (a b : Nat) : (a : Int).tmod (b : Int) = ((a % b : Nat) : Int) := by
  rw [Int.tmod_eq_emod_of_nonneg (Int.natCast_nonneg _), Int.natCast_emod]
theorem tdiv_nat (a b : Nat) : (a : Int).tdiv (b : Int) = ((a / b : Nat) : Int) := by
  rw [Int.tdiv_eq_ediv_of_nonneg (Int.natCast_nonneg _), Int.natCast_ediv]

/-- Eight bits, the first one the highest. -/
def mk8 (b0 b1 b2 b3 b4 b5 b6 b7 : Bool) : UInt8 := (b0.toUInt8 <<< 7) ||| (b1.toUInt8 <<< 6) ||| (b2.toUInt8 <<< 5) ||| (b3.toUInt8 <<< 4) ||| (b4.toUInt8 <<< 3) ||| (b5.toUInt8 <<< 2) ||| (b6.toUInt8 <<< 1) ||| b7.toUInt8
def byteAt (l : List Bool) (k : Nat) : UInt8 := mk8 (l.getD (8 * k) false) (l.getD (8 * k + 1) false) (l.getD (8 * k + 2) false) (l.getD (8 * k + 3) false) (l.getD (8 * k + 4) false) (l.getD (8 * k + 5) false) (l.getD (8 * k + 6) false) (l.getD (8 * k + 7) false)
/-- Bits, eight to a byte. -/
def pack (l : List Bool) : List UInt8 := (List.range ((l.length + 7) / 8)).map (byteAt l)
def padz (l : List Bool) : List UInt8 := (List.range (l.length / 8 + 1)).map (byteAt l)
theorem pack_len (l : List Bool) : (pack l).length = (l.length + 7) / 8 := by simp [pack]
theorem padz_len (l : List Bool) : (padz l).length = l.length / 8 + 1 := by simp [padz]
theorem getD_snoc_lt {l : List Bool} {b : Bool} {i : Nat} (h : i < l.length) : (l ++ [b]).getD i false = l.getD i false := by
  simp [List.getD, List.getElem?_append_left h]
theorem getD_snoc_at {l : List Bool} {b : Bool} {i : Nat} (h : i = l.length) : (l ++ [b]).getD i false = b := by
  subst h; simp [List.getD]
theorem getD_ge {l : List Bool} {i : Nat} (h : l.length ≤ i) : l.getD i false = false := by
  simp [List.getD, List.getElem?_eq_none h]
theorem byteAt_lt {l : List Bool} {b : Bool} {k : Nat} (h : k < l.length / 8) : byteAt (l ++ [b]) k = byteAt l k := by
  unfold byteAt
  rw [getD_snoc_lt (by omega), getD_snoc_lt (by omega), getD_snoc_lt (by omega), getD_snoc_lt (by omega), getD_snoc_lt (by omega), getD_snoc_lt (by omega), getD_snoc_lt (by omega), getD_snoc_lt (by omega)]
theorem byteAt_at (l : List Bool) (b : Bool) : byteAt (l ++ [b]) (l.length / 8) = byteAt l (l.length / 8) ||| UInt8.ofNat (b.toNat * 2 ^ (7 - l.length % 8)) := by
  have hr : l.length % 8 < 8 := Nat.mod_lt _ (by decide)
  have hl : l.length = 8 * (l.length / 8) + l.length % 8 := (Nat.div_add_mod _ _).symm
  generalize l.length / 8 = k at hl
  generalize l.length % 8 = r at hl hr
  unfold byteAt
  have go : ∀ j, j < 8 → (l ++ [b]).getD (8 * k + j) false = if j < r then l.getD (8 * k + j) false else if j = r then b else false := by
    intro j _
    by_cases h1 : j < r
    · rw [if_pos h1, getD_snoc_lt (by omega)]
    · rw [if_neg h1]
      by_cases h2 : j = r
      · rw [if_pos h2, getD_snoc_at (by omega)]
      · rw [if_neg h2, getD_ge (by simp; omega)]
  have g2 : ∀ j, j < 8 → r ≤ j → l.getD (8 * k + j) false = false := fun j _ h => getD_ge (by omega)
  have g0 := go 0 (by decide); have g1 := go 1 (by decide); have g3 := go 2 (by decide); have g4 := go 3 (by decide); have g5 := go 4 (by decide); have g6 := go 5 (by decide); have g7 := go 6 (by decide); have g8 := go 7 (by decide)
  rw [Nat.add_zero] at g0
  rw [g0, g1, g3, g4, g5, g6, g7, g8]
  have y0 := g2 0 (by decide); have y1 := g2 1 (by decide); have y2 := g2 2 (by decide); have y3 := g2 3 (by decide); have y4 := g2 4 (by decide); have y5 := g2 5 (by decide); have y6 := g2 6 (by decide); have y7 := g2 7 (by decide)
  rw [Nat.add_zero] at y0
  generalize l.getD (8 * k) false = x0 at *
  generalize l.getD (8 * k + 1) false = x1 at *
  generalize l.getD (8 * k + 2) false = x2 at *
  generalize l.getD (8 * k + 3) false = x3 at *
  generalize l.getD (8 * k + 4) false = x4 at *
  generalize l.getD (8 * k + 5) false = x5 at *
  generalize l.getD (8 * k + 6) false = x6 at *
  generalize l.getD (8 * k + 7) false = x7 at *
  clear go g2 hl g0 g1 g3 g4 g5 g6 g7 g8
  rcases (by omega : r = 0 ∨ r = 1 ∨ r = 2 ∨ r = 3 ∨ r = 4 ∨ r = 5 ∨ r = 6 ∨ r = 7) with rfl | rfl | rfl | rfl | rfl | rfl | rfl | rfl
  · have z0 := y0 (by decide); have z1 := y1 (by decide); have z2 := y2 (by decide); have z3 := y3 (by decide); have z4 := y4 (by decide); have z5 := y5 (by decide); have z6 := y6 (by decide); have z7 := y7 (by decide)
    subst z0 z1 z2 z3 z4 z5 z6 z7; clear y0 y1 y2 y3 y4 y5 y6 y7; revert b; decide
  · have z1 := y1 (by decide); have z2 := y2 (by decide); have z3 := y3 (by decide); have z4 := y4 (by decide); have z5 := y5 (by decide); have z6 := y6 (by decide); have z7 := y7 (by decide)
    subst z1 z2 z3 z4 z5 z6 z7; clear y0 y1 y2 y3 y4 y5 y6 y7; revert b x0; decide
  · have z2 := y2 (by decide); have z3 := y3 (by decide); have z4 := y4 (by decide); have z5 := y5 (by decide); have z6 := y6 (by decide); have z7 := y7 (by decide)
    subst z2 z3 z4 z5 z6 z7; clear y0 y1 y2 y3 y4 y5 y6 y7; revert b x0 x1; decide
  · have z3 := y3 (by decide); have z4 := y4 (by decide); have z5 := y5 (by decide); have z6 := y6 (by decide); have z7 := y7 (by decide)
    subst z3 z4 z5 z6 z7; clear y0 y1 y2 y3 y4 y5 y6 y7; revert b x0 x1 x2; decide
  · have z4 := y4 (by decide); have z5 := y5 (by decide); have z6 := y6 (by decide); have z7 := y7 (by decide)
    subst z4 z5 z6 z7; clear y0 y1 y2 y3 y4 y5 y6 y7; revert b x0 x1 x2 x3; decide
  · have z5 := y5 (by decide); have z6 := y6 (by decide); have z7 := y7 (by decide)
    subst z5 z6 z7; clear y0 y1 y2 y3 y4 y5 y6 y7; revert b x0 x1 x2 x3 x4; decide
  · have z6 := y6 (by decide); have z7 := y7 (by decide)
    subst z6 z7; clear y0 y1 y2 y3 y4 y5 y6 y7; revert b x0 x1 x2 x3 x4 x5; decide
  · have z7 := y7 (by decide)
    subst z7; clear y0 y1 y2 y3 y4 y5 y6 y7; revert b x0 x1 x2 x3 x4 x5 x6; decide
theorem pack_snoc (l : List Bool) (b : Bool) : pack (l ++ [b]) = (padz l).set (l.length / 8) (byteAt l (l.length / 8) ||| UInt8.ofNat (b.toNat * 2 ^ (7 - l.length % 8))) := by
  apply List.ext_getElem?
  intro i
  have hlen : ((l ++ [b]).length + 7) / 8 = l.length / 8 + 1 := by simp; omega
  unfold pack padz
  rw [hlen, List.getElem?_set]
  simp only [List.getElem?_map, List.length_map, List.length_range]
  by_cases h1 : l.length / 8 = i
  · subst h1
    simp [byteAt_at]
  · rw [if_neg h1]
    by_cases h2 : i < l.length / 8 + 1
    · rw [List.getElem?_range h2]
      simp [byteAt_lt (l := l) (b := b) (show i < l.length / 8 by omega)]
    · rw [List.getElem?_eq_none (by simp; omega)]; rfl
theorem padz_at (l : List Bool) : (padz l)[l.length / 8]? = some (byteAt l (l.length / 8)) := by simp [padz]
theorem padz_even {l : List Bool} (h : l.length % 8 = 0) : padz l = pack l ++ [0] := by
  unfold padz pack
  have e : (l.length + 7) / 8 = l.length / 8 := by omega
  rw [e, List.range_succ, List.map_append]
  congr 1
  simp only [List.map_cons, List.map_nil, List.cons.injEq, and_true]
  unfold byteAt
  rw [getD_ge (by omega), getD_ge (by omega), getD_ge (by omega), getD_ge (by omega), getD_ge (by omega), getD_ge (by omega), getD_ge (by omega), getD_ge (by omega)]
  rfl
theorem padz_odd {l : List Bool} (h : l.length % 8 ≠ 0) : padz l = pack l := by
  unfold padz pack
  congr 2
  omega
/-- A number's lowest bits, the highest first. -/
def bitsOf (v : Nat) : Nat → List Bool
  | 0 => []
  | n + 1 => v.testBit n :: bitsOf v n
theorem bitsOf_len (v : Nat) : ∀ n, (bitsOf v n).length = n
  | 0 => rfl
  | n + 1 => by simp [bitsOf, bitsOf_len v n]
/-- How many bits a number may have. -/
def heldN (n : Int) : Nat := (min (max n 0) 64).toNat
end Go.Hw
