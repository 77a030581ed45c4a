/- Bits and bytes, numbers of any length, times: what they are in plain Lean, and that what is told is read back. -/
import Derived.Test.YtjjacchnalemaaaDoorHn
namespace Go.Hw

theorem bitsOf_append_mod (v : Nat) : ∀ n, bitsOf (v % 2 ^ n) n = bitsOf v n := by
  have key : ∀ m n, m ≤ n → bitsOf (v % 2 ^ n) m = bitsOf v m := by
    intro m
    induction m with
    | zero => intro n _; rfl
    | succ m ih =>
      intro n h
      rw [bitsOf, bitsOf, ih n (by omega), Nat.testBit_mod_two_pow]
      simp [show m < n by omega]
  exact fun n => key n n (Nat.le_refl _)

/-- The number that bits are, the highest first. -/
def numA (a : Nat) : List Bool → Nat
  | [] => a
  | b :: l => numA (2 * a + b.toNat) l
def num (l : List Bool) : Nat := numA 0 l
theorem numA_eq : ∀ (l : List Bool) (a : Nat), numA a l = a * 2 ^ l.length + num l
  | [], a => by simp [numA, num]
  | b :: l, a => by
    have h1 := numA_eq l (2 * a + b.toNat)
    have h2 := numA_eq l (2 * 0 + b.toNat)
    unfold num
    rw [numA, numA, h1, h2, List.length_cons, Nat.pow_succ, Nat.mul_zero, Nat.zero_add, Nat.add_mul, Nat.mul_comm (2 ^ l.length) 2, ← Nat.mul_assoc, Nat.mul_comm a 2]
    omega
theorem numA_snoc : ∀ (l : List Bool) (a : Nat) (b : Bool), numA a (l ++ [b]) = 2 * numA a l + b.toNat
  | [], a, b => rfl
  | c :: l, a, b => by rw [List.cons_append, numA, numA, numA_snoc l]
theorem num_snoc (l : List Bool) (b : Bool) : num (l ++ [b]) = 2 * num l + b.toNat := numA_snoc l 0 b
theorem num_lt : ∀ (l : List Bool), num l < 2 ^ l.length
  | [] => by simp [num, numA]
  | b :: l => by
    have h1 := num_lt l
    have h2 : num (b :: l) = b.toNat * 2 ^ l.length + num l := by
      have := numA_eq l (2 * 0 + b.toNat)
      simpa [num, numA] using this
    rw [h2, List.length_cons, Nat.pow_succ]
    cases b <;> simp <;> omega
theorem num_bitsOf (v : Nat) : ∀ n, num (bitsOf v n) = v % 2 ^ n
  | 0 => by simp [bitsOf, num, numA, Nat.mod_one]
  | n + 1 => by
    have h2 : num (bitsOf v (n + 1)) = (v.testBit n).toNat * 2 ^ n + num (bitsOf v n) := by
      have := numA_eq (bitsOf v n) (2 * 0 + (v.testBit n).toNat)
      rw [bitsOf_len] at this
      simpa [num, numA, bitsOf] using this
    rw [h2, num_bitsOf v n, Nat.toNat_testBit, Nat.mod_pow_succ, Nat.mul_comm, Nat.add_comm]

/-- The bits of bytes. -/
def bitsB (bs : List UInt8) : List Bool := bs.flatMap fun b => bitsOf b.toNat 8
theorem bitsB_len (bs : List UInt8) : (bitsB bs).length = 8 * bs.length := by
  induction bs with
  | nil => rfl
  | cons b bs ih =>
    show (bitsOf b.toNat 8 ++ bitsB bs).length = _
    rw [List.length_append, bitsOf_len, ih, List.length_cons]; omega
theorem bitsOf_get (v : Nat) : ∀ (n j : Nat), j < n → (bitsOf v n)[j]? = some (v.testBit (n - 1 - j))
  | n + 1, 0, _ => by simp [bitsOf]
  | n + 1, j + 1, h => by
    rw [bitsOf, List.getElem?_cons_succ, bitsOf_get v n j (by omega)]
    congr 2
    omega
theorem bitsB_get : ∀ (bs : List UInt8) (k : Nat) (b : UInt8), bs[k / 8]? = some b → (bitsB bs)[k]? = some (b.toNat.testBit (7 - k % 8))
  | [], k, b, h => by simp at h
  | c :: bs, k, b, h => by
    show (bitsOf c.toNat 8 ++ bitsB bs)[k]? = _
    by_cases hk : k < 8
    · rw [List.getElem?_append_left (by rw [bitsOf_len]; exact hk), bitsOf_get _ _ _ hk]
      have h0 : k / 8 = 0 := by omega
      rw [h0] at h
      simp at h
      rw [h, Nat.mod_eq_of_lt hk]
    · rw [List.getElem?_append_right (by rw [bitsOf_len]; omega), bitsOf_len]
      have h0 : k / 8 = (k - 8) / 8 + 1 := by omega
      rw [h0, List.getElem?_cons_succ] at h
      rw [bitsB_get bs (k - 8) b h]
      congr 3
      omega
theorem mk8_bits : ∀ (b0 b1 b2 b3 b4 b5 b6 b7 : Bool), bitsOf (mk8 b0 b1 b2 b3 b4 b5 b6 b7).toNat 8 = [b0, b1, b2, b3, b4, b5, b6, b7] := by decide
theorem byteAt_bit (l : List Bool) (k j : Nat) (hj : j < 8) : (byteAt l k).toNat.testBit (7 - j) = l.getD (8 * k + j) false := by
  have h := bitsOf_get (byteAt l k).toNat 8 j hj
  unfold byteAt at h ⊢
  rw [mk8_bits] at h
  have h2 : 8 - 1 - j = 7 - j := by omega
  rw [h2] at h
  rcases (by omega : j = 0 ∨ j = 1 ∨ j = 2 ∨ j = 3 ∨ j = 4 ∨ j = 5 ∨ j = 6 ∨ j = 7) with rfl | rfl | rfl | rfl | rfl | rfl | rfl | rfl <;> simpa using h.symm
theorem bitsB_pack (l : List Bool) : bitsB (pack l) = l ++ List.replicate (8 * ((l.length + 7) / 8) - l.length) false := by
  apply List.ext_getElem?
  intro k
  by_cases hk : k < 8 * ((l.length + 7) / 8)
  · have h1 : (pack l)[k / 8]? = some (byteAt l (k / 8)) := by unfold pack; rw [List.getElem?_map, List.getElem?_range (by omega)]; rfl
    rw [bitsB_get _ _ _ h1, byteAt_bit _ _ _ (Nat.mod_lt _ (by decide)), Nat.div_add_mod]
    by_cases h2 : k < l.length
    · rw [List.getElem?_append_left h2]
      simp [List.getD, List.getElem?_eq_getElem h2]
    · rw [List.getElem?_append_right (by omega), getD_ge (by omega)]
      rw [List.getElem?_replicate, if_pos (by omega)]
  · rw [List.getElem?_eq_none (by rw [bitsB_len, pack_len]; omega), List.getElem?_eq_none (by rw [List.length_append, List.length_replicate]; omega)]
theorem bitsB_append (a b : List UInt8) : bitsB (a ++ b) = bitsB a ++ bitsB b := by simp [bitsB]

/-- What a reader has before it. -/
structure RS where
  rest : List Bool
  bad : Bool
def RS.get (s : RS) (n : Nat) : Nat × RS := if s.bad = true ∨ s.rest.length < n then (0, ⟨s.rest, true⟩) else (num (s.rest.take n), ⟨s.rest.drop n, false⟩)
theorem RS.get_put (v n : Nat) (r : List Bool) : RS.get ⟨bitsOf v n ++ r, false⟩ n = (v % 2 ^ n, ⟨r, false⟩) := by
  unfold RS.get
  rw [if_neg (by rw [List.length_append, bitsOf_len]; simp)]
  simp [List.take_append_of_le_length, bitsOf_len, List.drop_append, num_bitsOf]
theorem RS.get_len (s : RS) (n : Nat) : (s.get n).2.rest.length ≤ s.rest.length := by
  unfold RS.get; split
  · exact Nat.le_refl _
  · simp
theorem RS.get_lt (s : RS) (n : Nat) : (s.get n).1 < 2 ^ n := by
  unfold RS.get; split
  · exact Nat.two_pow_pos n
  · have h := num_lt (s.rest.take n)
    refine Nat.lt_of_lt_of_le h (Nat.pow_le_pow_right (by decide) (by simp; omega))

/-- A number, seven bits to a byte. -/
def vputF : Nat → Nat → List UInt8
  | 0, u => [UInt8.ofNat u]
  | k + 1, u => if u < 128 then [UInt8.ofNat u] else UInt8.ofNat (u % 128 + 128) :: vputF k (u / 128)
def vput (u : Nat) : List UInt8 := vputF 9 u
def vgetA : List UInt8 → Nat → Nat → Nat × Nat
  | [], _, _ => (0, 0)
  | c :: r, i, u => if i = 10 ∨ (i = 9 ∧ 1 < c.toNat) ∨ (0 < i ∧ c.toNat = 0) then (0, 0) else if c.toNat < 128 then (u + c.toNat * 2 ^ (7 * i), i + 1) else vgetA r (i + 1) (u + c.toNat % 128 * 2 ^ (7 * i))
/-- The number that bytes begin with, and how many bytes it takes. -/
def vget (l : List UInt8) : Nat × Nat := vgetA l 0 0
theorem vputF_fuel : ∀ (k m u : Nat), u < 128 ^ (k + 1) → k ≤ m → vputF m u = vputF k u
  | 0, 0, u, _, _ => rfl
  | 0, m + 1, u, h, _ => by rw [show vputF (m + 1) u = if u < 128 then [UInt8.ofNat u] else UInt8.ofNat (u % 128 + 128) :: vputF m (u / 128) from rfl, if_pos (by simpa using h)]; rfl
  | k + 1, 0, u, _, h => by omega
  | k + 1, m + 1, u, h, hm => by
    rw [vputF, vputF]
    split
    · rfl
    · rw [vputF_fuel k m (u / 128) (by rw [Nat.pow_succ] at h; omega) (by omega)]
theorem vput_lt {u : Nat} (h : u < 128) : vput u = [UInt8.ofNat u] := by unfold vput; rw [vputF, if_pos h]
theorem vput_ge {u : Nat} (h : ¬ u < 128) (hu : u < 18446744073709551616) : vput u = UInt8.ofNat (u % 128 + 128) :: vput (u / 128) := by
  unfold vput
  rw [vputF, if_neg h, vputF_fuel 8 9 (u / 128) (by have : (128 : Nat) ^ 9 = 9223372036854775808 := by decide
                                                    omega) (by decide)]
theorem vputF_len : ∀ (k u : Nat), (vputF k u).length ≤ k + 1 ∧ 0 < (vputF k u).length
  | 0, u => by simp [vputF]
  | k + 1, u => by
    rw [vputF]; split
    · simp
    · have := vputF_len k (u / 128); simp; omega
theorem vput_len (u : Nat) : (vput u).length ≤ 10 ∧ 0 < (vput u).length := vputF_len 9 u
theorem vgetA_vput (r : List UInt8) : ∀ (v i u : Nat), v * 2 ^ (7 * i) < 18446744073709551616 → (i = 0 ∨ 0 < v) → vgetA (vput v ++ r) i u = (u + v * 2 ^ (7 * i), i + (vput v).length) := by
  intro v
  induction v using Nat.strongRecOn with
  | ind v ih =>
    intro i u h h0
    have hv64 : v < 18446744073709551616 := Nat.lt_of_le_of_lt (Nat.le_mul_of_pos_right _ (Nat.two_pow_pos _)) h
    have hi : i ≤ 9 := by
      rcases Nat.lt_or_ge i 10 with hi | hi
      · omega
      · exfalso
        have h1 : 2 ^ (7 * 10) ≤ 2 ^ (7 * i) := Nat.pow_le_pow_right (by decide) (by omega)
        have h2 : 1 * 2 ^ (7 * i) ≤ v * 2 ^ (7 * i) := Nat.mul_le_mul_right _ (by omega)
        have h3 : (2 : Nat) ^ (7 * 10) = 1180591620717411303424 := by decide
        omega
    by_cases hv : v < 128
    · rw [vput_lt hv]
      have hc : (UInt8.ofNat v).toNat = v := by rw [UInt8.toNat_ofNat', Nat.mod_eq_of_lt (by omega)]
      show vgetA (UInt8.ofNat v :: r) i u = _
      rw [vgetA, hc, if_neg, if_pos hv]
      · rfl
      · rintro (h1 | ⟨h1, h2⟩ | ⟨h1, h2⟩)
        · omega
        · subst h1
          have : (2 : Nat) ^ (7 * 9) = 9223372036854775808 := by decide
          rw [this] at h
          omega
        · omega
    · rw [vput_ge hv hv64]
      have hc : (UInt8.ofNat (v % 128 + 128)).toNat = v % 128 + 128 := by rw [UInt8.toNat_ofNat', Nat.mod_eq_of_lt (by omega)]
      have hi8 : i ≤ 8 := by
        rcases Nat.lt_or_ge i 9 with hi | hi
        · omega
        · exfalso
          obtain rfl : i = 9 := by omega
          have : (2 : Nat) ^ (7 * 9) = 9223372036854775808 := by decide
          rw [this] at h
          omega
      have hp : (2 : Nat) ^ (7 * (i + 1)) = 128 * 2 ^ (7 * i) := by rw [Nat.mul_add, Nat.pow_add, Nat.mul_comm]
      have hdm : v = 128 * (v / 128) + v % 128 := (Nat.div_add_mod v 128).symm
      show vgetA (UInt8.ofNat (v % 128 + 128) :: (vput (v / 128) ++ r)) i u = _
      rw [vgetA, hc, if_neg (by omega), if_neg (by omega), ih (v / 128) (by omega) (i + 1) _ ?_ (by omega)]
      · rw [List.length_cons]
        refine Prod.ext ?_ (by dsimp only; omega)
        dsimp only
        rw [show (v % 128 + 128) % 128 = v % 128 by omega, hp, Nat.add_assoc]
        congr 1
        have e : v / 128 * (128 * 2 ^ (7 * i)) = 128 * (v / 128) * 2 ^ (7 * i) := by rw [Nat.mul_comm 128 (v / 128), Nat.mul_assoc]
        rw [e, ← Nat.add_mul, Nat.add_comm, ← hdm]
      · rw [hp]
        have e : v / 128 * (128 * 2 ^ (7 * i)) = 128 * (v / 128) * 2 ^ (7 * i) := by rw [Nat.mul_comm 128 (v / 128), Nat.mul_assoc]
        rw [e]
        refine Nat.lt_of_le_of_lt (Nat.mul_le_mul_right _ (by omega)) h
theorem vget_vput {v : Nat} (h : v < 18446744073709551616) (r : List UInt8) : vget (vput v ++ r) = (v, (vput v).length) := by
  have := vgetA_vput r v 0 0 (by simpa using h) (.inl rfl)
  simpa [vget] using this
theorem vgetA_le : ∀ (l : List UInt8) (i u : Nat), i ≤ 10 → (vgetA l i u).2 = 0 ∨ (i < (vgetA l i u).2 ∧ (vgetA l i u).2 ≤ i + l.length ∧ (vgetA l i u).2 ≤ 10)
  | [], i, u, _ => .inl rfl
  | c :: r, i, u, hi => by
    rw [vgetA]
    split
    · exact .inl rfl
    · rename_i h
      have h9 : i ≤ 9 := by omega
      split
      · exact .inr ⟨Nat.lt_succ_self i, by rw [List.length_cons]; omega, by dsimp only; omega⟩
      · rcases vgetA_le r (i + 1) (u + c.toNat % 128 * 2 ^ (7 * i)) (by omega) with h1 | ⟨h1, h2, h3⟩
        · exact .inl h1
        · exact .inr ⟨by omega, by rw [List.length_cons]; omega, h3⟩
theorem vget_le (l : List UInt8) : (vget l).2 ≤ l.length := by
  rcases vgetA_le l 0 0 (by decide) with h | ⟨_, h, _⟩
  · unfold vget; omega
  · unfold vget; omega
theorem vgetA_lt : ∀ (l : List UInt8) (i u : Nat), u < 2 ^ (7 * i) → i ≤ 10 → (vgetA l i u).1 < 18446744073709551616
  | [], i, u, _, _ => (by decide : (0 : Nat) < 18446744073709551616)
  | c :: r, i, u, hu, hi => by
    rw [vgetA]
    split
    · exact (by decide : (0 : Nat) < 18446744073709551616)
    · rename_i h
      have hp : (2 : Nat) ^ (7 * (i + 1)) = 128 * 2 ^ (7 * i) := by rw [Nat.mul_add, Nat.pow_add, Nat.mul_comm]
      have hc := c.toNat_lt
      split
      · rename_i h1
        dsimp only
        have h9 : i ≤ 9 := by omega
        rcases Nat.lt_or_ge i 9 with h2 | h2
        · have h3 : (2 : Nat) ^ (7 * i) ≤ 2 ^ 56 := Nat.pow_le_pow_right (by decide) (by omega)
          have h4 : c.toNat * 2 ^ (7 * i) ≤ 127 * 2 ^ 56 := Nat.mul_le_mul (by omega) h3
          omega
        · obtain rfl : i = 9 := by omega
          have h3 : c.toNat ≤ 1 := by omega
          have h4 : c.toNat * 2 ^ (7 * 9) ≤ 1 * 2 ^ (7 * 9) := Nat.mul_le_mul_right _ h3
          have h5 : (2 : Nat) ^ (7 * 9) = 9223372036854775808 := by decide
          omega
      · refine vgetA_lt r (i + 1) _ ?_ (by omega)
        rw [hp]
        have h4 : c.toNat % 128 * 2 ^ (7 * i) ≤ 127 * 2 ^ (7 * i) := Nat.mul_le_mul_right _ (by omega)
        omega
theorem vget_lt (l : List UInt8) : (vget l).1 < 18446744073709551616 := vgetA_lt l 0 0 (by decide) (by decide)

/-- A number with a sign, without it; and back. -/
def us (t : Int) : Nat := (t % 18446744073709551616).toNat
def sg (u : Nat) : Int := if u < 9223372036854775808 then u else (u : Int) - 18446744073709551616
def I64 (t : Int) : Prop := -9223372036854775808 ≤ t ∧ t < 9223372036854775808
theorem us_lt (t : Int) : us t < 18446744073709551616 := by unfold us; omega
theorem sg_us {t : Int} (h : I64 t) : sg (us t) = t := by obtain ⟨h1, h2⟩ := h; unfold sg us; split <;> omega
theorem us_sg {u : Nat} (h : u < 18446744073709551616) : us (sg u) = u := by unfold sg us; split <;> omega
theorem sg_wf {u : Nat} (h : u < 18446744073709551616) : I64 (sg u) := by unfold sg I64; split <;> omega
theorem wrap_us (t : Int) : IntKind.u64.wrap t = (us t : Int) := by
  unfold IntKind.wrap us
  simp [IntKind.signed, IntKind.bits]
  omega
theorem wrap_sg {u : Nat} (h : u < 18446744073709551616) : IntKind.i64.wrap (u : Int) = sg u := by
  unfold IntKind.wrap sg
  simp [IntKind.signed, IntKind.bits]
  omega

/-- How a difference of times is told: what stands ahead of it, in how many bits, and how many bits it has. -/
structure Frm where
  ahead : Nat
  long : Nat
  bits : Nat
def which (d : Int) : Frm := if d = 0 then ⟨0, 1, 0⟩ else if -64 ≤ d ∧ d ≤ 63 then ⟨2, 2, 7⟩ else if -256 ≤ d ∧ d ≤ 255 then ⟨6, 3, 9⟩ else if -2048 ≤ d ∧ d ≤ 2047 then ⟨14, 4, 12⟩ else ⟨15, 4, 64⟩
abbrev diff (a b : Nat) : Nat := (a + 18446744073709551616 - b) % 18446744073709551616
abbrev summ (a b : Nat) : Nat := (a + b) % 18446744073709551616
def timesRest (was step : Nat) : List Int → List Bool
  | [] => []
  | t :: r => bitsOf (which (sg (diff (diff (us t) was) step))).ahead (which (sg (diff (diff (us t) was) step))).long ++ (bitsOf (diff (diff (us t) was) step) (which (sg (diff (diff (us t) was) step))).bits ++ timesRest (us t) (diff (us t) was) r)
/-- The bits of times. -/
def timesBits : List Int → List Bool
  | [] => []
  | t :: r => bitsOf (us t) 64 ++ timesRest (us t) 0 r
def aheadR : Nat → RS → Nat × RS
  | 0, s => (0, s)
  | k + 1, s => if (s.get 1).1 = 1 then ((aheadR k (s.get 1).2).1 + 1, (aheadR k (s.get 1).2).2) else (0, (s.get 1).2)
theorem aheadR_le : ∀ (k : Nat) (s : RS), (aheadR k s).1 ≤ k
  | 0, s => Nat.le_refl _
  | k + 1, s => by
    rw [aheadR]; split
    · have := aheadR_le k (s.get 1).2; dsimp only; omega
    · exact Nat.zero_le _
def longs (k : Nat) : Nat := [0, 7, 9, 12, 64].getD k 0
def sext (g long : Nat) : Int := if long = 0 then 0 else if g < 2 ^ (long - 1) then g else (g : Int) - 2 ^ long
def nextT (s : RS) : Int × RS := (sext ((aheadR 4 s).2.get (longs (aheadR 4 s).1)).1 (longs (aheadR 4 s).1), ((aheadR 4 s).2.get (longs (aheadR 4 s).1)).2)
/-- .. could it not be told shorter? -/
def nextOk (s : RS) : Bool := decide ((which (nextT s).1).bits = longs (aheadR 4 s).1)
def timesDecA : Nat → Nat → Nat → RS → Option (List Int × RS)
  | 0, _, _, s => some ([], s)
  | k + 1, was, step, s => if nextOk s = true ∧ (nextT s).2.bad = false then (timesDecA k (summ was (summ step (us (nextT s).1))) (summ step (us (nextT s).1)) (nextT s).2).map fun r => (sg (summ was (summ step (us (nextT s).1))) :: r.1, r.2) else none
/-- The times of bits. -/
def timesDec (n : Nat) (s : RS) : Option (List Int × RS) := match n with
  | 0 => if s.bad then none else some ([], s)
  | k + 1 => if (s.get 64).2.bad then none else (timesDecA k (s.get 64).1 0 (s.get 64).2).map fun r => (sg (s.get 64).1 :: r.1, r.2)
theorem get_bit (b : Bool) (r : List Bool) : RS.get ⟨b :: r, false⟩ 1 = (b.toNat, ⟨r, false⟩) := by
  cases b <;> simp [RS.get, num, numA]
theorem which_cases (d : Int) : (which d = ⟨0, 1, 0⟩ ∧ d = 0) ∨ (which d = ⟨2, 2, 7⟩ ∧ -64 ≤ d ∧ d ≤ 63 ∧ d ≠ 0) ∨ (which d = ⟨6, 3, 9⟩ ∧ -256 ≤ d ∧ d ≤ 255) ∨ (which d = ⟨14, 4, 12⟩ ∧ -2048 ≤ d ∧ d ≤ 2047) ∨ which d = ⟨15, 4, 64⟩ := by
  unfold which
  split
  · exact .inl ⟨rfl, ‹_›⟩
  · split
    · exact .inr (.inl ⟨rfl, by omega, by omega, by omega⟩)
    · split
      · exact .inr (.inr (.inl ⟨rfl, by omega, by omega⟩))
      · split
        · exact .inr (.inr (.inr (.inl ⟨rfl, by omega, by omega⟩)))
        · exact .inr (.inr (.inr (.inr rfl)))
theorem nextT_told {d : Nat} (hd : d < 18446744073709551616) (r : List Bool) : nextT ⟨bitsOf (which (sg d)).ahead (which (sg d)).long ++ (bitsOf d (which (sg d)).bits ++ r), false⟩ = (sg d, ⟨r, false⟩) ∧ nextOk ⟨bitsOf (which (sg d)).ahead (which (sg d)).long ++ (bitsOf d (which (sg d)).bits ++ r), false⟩ = true := by
  have fin : ∀ (s : RS) (k : Nat) (n : Nat), aheadR 4 s = (k, ⟨bitsOf d n ++ r, false⟩) → longs k = n → (which (sg d)).bits = n → sext (d % 2 ^ n) n = sg d → nextT s = (sg d, ⟨r, false⟩) ∧ nextOk s = true := by
    intro s k n h1 h2 h3 h4
    have hT : nextT s = (sg d, ⟨r, false⟩) := by
      unfold nextT
      rw [h1]
      dsimp only
      rw [h2, RS.get_put, h4]
    refine ⟨hT, ?_⟩
    unfold nextOk
    rw [hT, h1]
    dsimp only
    rw [h2, h3]
    simp
  rcases which_cases (sg d) with ⟨hw, h1⟩ | ⟨hw, h1, h2, h3⟩ | ⟨hw, h1, h2⟩ | ⟨hw, h1, h2⟩ | hw
  · rw [hw]
    refine fin _ 0 0 ?_ rfl (by rw [hw]) (by rw [h1]; rfl)
    show aheadR 4 ⟨false :: _, false⟩ = _
    rw [aheadR, get_bit]; rfl
  · rw [hw]
    refine fin _ 1 7 ?_ rfl (by rw [hw]) ?_
    · show aheadR 4 ⟨true :: false :: _, false⟩ = _
      rw [aheadR, get_bit, aheadR, get_bit]; rfl
    · unfold sext sg at *
      simp only [Nat.reducePow, Nat.reduceSub, Int.reducePow, Nat.reduceEqDiff, if_false, reduceIte] at *
      split at h1 <;> split <;> omega
  · rw [hw]
    refine fin _ 2 9 ?_ rfl (by rw [hw]) ?_
    · show aheadR 4 ⟨true :: true :: false :: _, false⟩ = _
      rw [aheadR, get_bit, aheadR, get_bit, aheadR, get_bit]; rfl
    · unfold sext sg at *
      simp only [Nat.reducePow, Nat.reduceSub, Int.reducePow, Nat.reduceEqDiff, if_false, reduceIte] at *
      split at h1 <;> split <;> omega
  · rw [hw]
    refine fin _ 3 12 ?_ rfl (by rw [hw]) ?_
    · show aheadR 4 ⟨true :: true :: true :: false :: _, false⟩ = _
      rw [aheadR, get_bit, aheadR, get_bit, aheadR, get_bit, aheadR, get_bit]; rfl
    · unfold sext sg at *
      simp only [Nat.reducePow, Nat.reduceSub, Int.reducePow, Nat.reduceEqDiff, if_false, reduceIte] at *
      split at h1 <;> split <;> omega
  · rw [hw]
    refine fin _ 4 64 ?_ rfl (by rw [hw]) ?_
    · show aheadR 4 ⟨true :: true :: true :: true :: _, false⟩ = _
      rw [aheadR, get_bit, aheadR, get_bit, aheadR, get_bit, aheadR, get_bit]; rfl
    · unfold sext sg at *
      simp only [Nat.reducePow, Nat.reduceSub, Int.reducePow, Nat.reduceEqDiff, if_false, reduceIte] at *
      rw [Nat.mod_eq_of_lt hd]
theorem timesDecA_told (r : List Bool) : ∀ (ts : List Int) (was step : Nat), was < 18446744073709551616 → step < 18446744073709551616 → (∀ t ∈ ts, I64 t) → timesDecA ts.length was step ⟨timesRest was step ts ++ r, false⟩ = some (ts, ⟨r, false⟩)
  | [], _, _, _, _, _ => rfl
  | t :: ts, was, step, hw, hs, hi => by
    have ht := us_lt t
    have hti := hi t (List.mem_cons_self ..)
    have hd : diff (diff (us t) was) step < 18446744073709551616 := Nat.mod_lt _ (by decide)
    obtain ⟨h1, h2⟩ := nextT_told hd (timesRest (us t) (diff (us t) was) ts ++ r)
    have ih := timesDecA_told r ts (us t) (diff (us t) was) ht (Nat.mod_lt _ (by decide)) fun x hx => hi x (List.mem_cons_of_mem _ hx)
    rw [timesRest, List.append_assoc, List.append_assoc, List.length_cons, timesDecA, h2, h1]
    have e1 : summ step (us (sg (diff (diff (us t) was) step))) = diff (us t) was := by rw [us_sg hd]; unfold summ diff; omega
    have e2 : summ was (diff (us t) was) = us t := by unfold summ diff; omega
    dsimp only
    rw [e1, e2, ih, sg_us hti]
    rfl
theorem timesDec_told (ts : List Int) (hi : ∀ t ∈ ts, I64 t) (r : List Bool) : timesDec ts.length ⟨timesBits ts ++ r, false⟩ = some (ts, ⟨r, false⟩) := by
  cases ts with
  | nil => rfl
  | cons t ts =>
    have ht := us_lt t
    show timesDec (ts.length + 1) ⟨(bitsOf (us t) 64 ++ timesRest (us t) 0 ts) ++ r, false⟩ = _
    rw [List.append_assoc, timesDec, RS.get_put, Nat.mod_eq_of_lt (show us t < 2 ^ 64 from ht)]
    dsimp only
    rw [timesDecA_told r ts (us t) 0 ht (by decide) fun x hx => hi x (List.mem_cons_of_mem _ hx), sg_us (hi t (List.mem_cons_self ..))]
    rfl
theorem timesDecA_len : ∀ (k was step : Nat) (s : RS) (x : List Int × RS), timesDecA k was step s = some x → x.1.length = k
  | 0, _, _, _, x, h => by cases h; rfl
  | k + 1, was, step, s, x, h => by
    rw [timesDecA] at h
    split at h
    · obtain ⟨y, h1, rfl⟩ := Option.map_eq_some_iff.1 h
      simp [timesDecA_len k _ _ _ y h1]
    · cases h
theorem timesDec_len {n : Nat} {s : RS} {x : List Int × RS} (h : timesDec n s = some x) : x.1.length = n := by
  cases n with
  | zero => unfold timesDec at h; dsimp only at h; split at h <;> cases h; rfl
  | succ k =>
    unfold timesDec at h; dsimp only at h; split at h
    · cases h
    · obtain ⟨y, h1, rfl⟩ := Option.map_eq_some_iff.1 h
      simp [timesDecA_len k _ _ _ y h1]
end Go.Hw
