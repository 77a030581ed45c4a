/- The codecs of values, in plain Lean: by what turns; small numbers; runs; by the least; by a list. -/
import Derived.Test.YtjjacchnalemaaaDoorPb
namespace Go.Hw

/-- How many bits a number has. -/
def len64 (x : Nat) : Nat := if x = 0 then 0 else Nat.log2 x + 1
theorem len64_le {x k : Nat} : len64 x ≤ k ↔ x < 2 ^ k := by
  unfold len64
  split
  · rename_i h; subst h; simp [Nat.two_pow_pos]
  · rename_i h
    rw [← Nat.log2_lt h]
    omega
theorem len64_lt (x : Nat) : x < 2 ^ len64 x := len64_le.1 (Nat.le_refl _)
theorem len64_64 {x : Nat} (h : x < 18446744073709551616) : len64 x ≤ 64 := len64_le.2 h
/-- How many 0s stand behind. -/
def tzA : Nat → Nat → Nat
  | 0, _ => 0
  | k + 1, x => if x % 2 = 1 then 0 else tzA k (x / 2) + 1
def tz (x : Nat) : Nat := tzA 64 x
theorem tzA_dvd : ∀ (k x : Nat), x / 2 ^ tzA k x * 2 ^ tzA k x = x
  | 0, x => by simp [tzA]
  | k + 1, x => by
    rw [tzA]
    split
    · simp
    · have ih := tzA_dvd k (x / 2)
      rw [Nat.pow_succ, Nat.mul_comm _ 2, ← Nat.div_div_eq_div_mul, Nat.mul_comm 2, ← Nat.mul_assoc, ih]
      omega
theorem tz_dvd {x t : Nat} (h : t ≤ tz x) : x / 2 ^ t * 2 ^ t = x := by
  have h1 := tzA_dvd 64 x
  have h2 : 2 ^ tz x = 2 ^ (tz x - t) * 2 ^ t := by rw [← Nat.pow_add]; congr 1; omega
  have h3 : x = (x / 2 ^ tz x * 2 ^ (tz x - t)) * 2 ^ t := by rw [Nat.mul_assoc, ← h2]; exact h1.symm
  have h4 : x / 2 ^ t = x / 2 ^ tz x * 2 ^ (tz x - t) := by
    conv => lhs; rw [h3]
    exact Nat.mul_div_cancel _ (Nat.two_pow_pos t)
  rw [h4]; exact h3.symm
theorem tz_lead {x : Nat} (h0 : x ≠ 0) : tz x + 1 ≤ len64 x := by
  have h1 := tz_dvd (Nat.le_refl (tz x))
  have h2 : 2 ^ tz x ≤ x := by
    conv => rhs; rw [← h1]
    have : x / 2 ^ tz x ≠ 0 := by
      intro h; rw [h] at h1; simp at h1; exact h0 h1.symm
    exact Nat.le_mul_of_pos_left _ (Nat.pos_of_ne_zero this)
  rcases Nat.lt_or_ge (tz x) (len64 x) with h3 | h3
  · exact h3
  · have := len64_le.1 h3; omega

/-- Which bits are told. -/
structure Win where
  is : Bool
  lead : Nat
  trail : Nat
  deriving DecidableEq
def winOf (x : Nat) : Win := ⟨true, min (64 - len64 x) 31, tz x⟩
def Win.fits (w : Win) (x : Nat) : Bool := w.is && decide (w.lead ≤ (winOf x).lead) && decide (w.trail ≤ (winOf x).trail)
def Win.long (w : Win) : Nat := 64 - w.lead - w.trail
def xorRest (win : Win) (was : Nat) : List Nat → List Bool
  | [] => []
  | now :: r => if now ^^^ was = 0 then bitsOf 0 1 ++ xorRest win now r
    else if win.fits (now ^^^ was) = true then bitsOf 2 2 ++ (bitsOf ((now ^^^ was) / 2 ^ win.trail) win.long ++ xorRest win now r)
    else bitsOf 3 2 ++ (bitsOf (winOf (now ^^^ was)).lead 5 ++ (bitsOf ((winOf (now ^^^ was)).long - 1) 6 ++ (bitsOf ((now ^^^ was) / 2 ^ (winOf (now ^^^ was)).trail) (winOf (now ^^^ was)).long ++ xorRest (winOf (now ^^^ was)) now r)))
def xorBits : List Nat → List Bool
  | [] => []
  | v :: r => bitsOf v 64 ++ xorRest ⟨false, 0, 0⟩ v r
/-- What turns; none: it would be told otherwise. -/
def turnR (s : RS) (win : Win) : Option (Nat × Win) × RS :=
  if (s.get 1).1 = 0 then (some (0, win), (s.get 1).2)
  else if ((s.get 1).2.get 1).1 = 0 then
    let g := ((s.get 1).2.get 1).2.get win.long
    let x := g.1 * 2 ^ win.trail % 18446744073709551616
    (if win.is = true ∧ x ≠ 0 then some (x, win) else none, g.2)
  else
    let a := ((s.get 1).2.get 1).2.get 5
    let b := a.2.get 6
    if 64 < a.1 + (b.1 + 1) then (none, b.2) else
    let g := b.2.get (b.1 + 1)
    let x := g.1 * 2 ^ (64 - a.1 - (b.1 + 1)) % 18446744073709551616
    (if x = 0 ∨ winOf x ≠ ⟨true, a.1, 64 - a.1 - (b.1 + 1)⟩ ∨ win.fits x = true then none else some (x, ⟨true, a.1, 64 - a.1 - (b.1 + 1)⟩), g.2)
theorem turnR_0 {s s1 : RS} {win : Win} (h : s.get 1 = (0, s1)) : turnR s win = (some (0, win), s1) := by
  unfold turnR; rw [h]; rfl
theorem turnR_2 {s s1 s2 s3 : RS} {win : Win} {a g : Nat} (h1 : s.get 1 = (a, s1)) (ha : a ≠ 0) (h2 : s1.get 1 = (0, s2)) (h3 : s2.get win.long = (g, s3)) :
    turnR s win = (if win.is = true ∧ g * 2 ^ win.trail % 18446744073709551616 ≠ 0 then some (g * 2 ^ win.trail % 18446744073709551616, win) else none, s3) := by
  unfold turnR
  simp only [h1, h2, h3]
  rw [if_neg ha, if_pos trivial]
theorem turnR_3x {s s1 s2 s3 s4 : RS} {win : Win} {a b lead long : Nat} (h1 : s.get 1 = (a, s1)) (ha : a ≠ 0) (h2 : s1.get 1 = (b, s2)) (hb : b ≠ 0) (h3 : s2.get 5 = (lead, s3)) (h4 : s3.get 6 = (long, s4)) (h5 : 64 < lead + (long + 1)) :
    turnR s win = (none, s4) := by
  unfold turnR
  simp only [h1, h2, h3, h4]
  rw [if_neg ha, if_neg hb, if_pos h5]
theorem turnR_3 {s s1 s2 s3 s4 s5 : RS} {win : Win} {a b lead long g : Nat} (h1 : s.get 1 = (a, s1)) (ha : a ≠ 0) (h2 : s1.get 1 = (b, s2)) (hb : b ≠ 0) (h3 : s2.get 5 = (lead, s3)) (h4 : s3.get 6 = (long, s4)) (h5 : ¬ 64 < lead + (long + 1)) (h6 : s4.get (long + 1) = (g, s5)) :
    turnR s win = (if g * 2 ^ (64 - lead - (long + 1)) % 18446744073709551616 = 0 ∨ winOf (g * 2 ^ (64 - lead - (long + 1)) % 18446744073709551616) ≠ ⟨true, lead, 64 - lead - (long + 1)⟩ ∨ win.fits (g * 2 ^ (64 - lead - (long + 1)) % 18446744073709551616) = true then none
      else some (g * 2 ^ (64 - lead - (long + 1)) % 18446744073709551616, ⟨true, lead, 64 - lead - (long + 1)⟩), s5) := by
  unfold turnR
  simp only [h1, h2, h3, h4, h6]
  rw [if_neg ha, if_neg hb, if_neg h5]
def xorDecA : Nat → Nat → Win → RS → Option (List Nat)
  | 0, _, _, _ => some []
  | k + 1, was, win, s => match turnR s win with
    | (none, _) => none
    | (some (x, win'), s') => if s'.bad = true then none else (xorDecA k (was ^^^ x) win' s').map fun r => (was ^^^ x) :: r
def xorDec (n : Nat) (s : RS) : Option (List Nat) := match n with
  | 0 => if s.bad = true then none else some []
  | k + 1 => if (s.get 64).2.bad = true then none else (xorDecA k (s.get 64).1 ⟨false, 0, 0⟩ (s.get 64).2).map fun r => (s.get 64).1 :: r
theorem winOf_long {x : Nat} (h0 : x ≠ 0) (h : x < 18446744073709551616) : (winOf x).lead + (winOf x).trail + (winOf x).long = 64 ∧ 1 ≤ (winOf x).long ∧ (winOf x).long ≤ 64 ∧ (winOf x).lead ≤ 31 := by
  have h1 := tz_lead h0
  have h2 := len64_64 h
  unfold Win.long winOf
  dsimp only
  omega
theorem shown {x : Nat} {w : Win} (h : x < 18446744073709551616) (h1 : w.lead ≤ (winOf x).lead) (h2 : w.trail ≤ (winOf x).trail) : x / 2 ^ w.trail % 2 ^ w.long * 2 ^ w.trail % 18446744073709551616 = x := by
  have h3 : x < 2 ^ (64 - w.lead) := by
    have := len64_lt x
    refine Nat.lt_of_lt_of_le this (Nat.pow_le_pow_right (by decide) ?_)
    have := len64_64 h
    unfold winOf at h1; dsimp only at h1
    omega
  have h5 : x / 2 ^ w.trail % 2 ^ w.long = x / 2 ^ w.trail := by
    apply Nat.mod_eq_of_lt
    rcases Nat.lt_or_ge (64 - w.lead) w.trail with h6 | h6
    · have h7 : x < 2 ^ w.trail := Nat.lt_of_lt_of_le h3 (Nat.pow_le_pow_right (by decide) (by omega))
      rw [Nat.div_eq_of_lt h7]
      exact Nat.two_pow_pos _
    · rw [Nat.div_lt_iff_lt_mul (Nat.two_pow_pos _), ← Nat.pow_add]
      unfold Win.long
      rwa [show 64 - w.lead - w.trail + w.trail = 64 - w.lead by omega]
  rw [h5, tz_dvd h2, Nat.mod_eq_of_lt h]
theorem fits_le {w : Win} {x : Nat} (h : w.fits x = true) : w.is = true ∧ w.lead ≤ (winOf x).lead ∧ w.trail ≤ (winOf x).trail := by
  unfold Win.fits at h
  simpa [Bool.and_eq_true, and_assoc] using h
theorem xor_back {a b : Nat} : b ^^^ (a ^^^ b) = a := by rw [Nat.xor_comm a b, ← Nat.xor_assoc, Nat.xor_self, Nat.zero_xor]
theorem xorDecA_told (r : List Bool) : ∀ (vs : List Nat) (was : Nat) (win : Win), was < 18446744073709551616 → (∀ v ∈ vs, v < 18446744073709551616) → xorDecA vs.length was win ⟨xorRest win was vs ++ r, false⟩ = some vs
  | [], _, _, _, _ => rfl
  | v :: vs, was, win, hw, hv => by
    have hx : v ^^^ was < 18446744073709551616 := Nat.xor_lt_two_pow (n := 64) (hv v (List.mem_cons_self ..)) hw
    have ih := fun w => xorDecA_told r vs v w (hv v (List.mem_cons_self ..)) fun x h => hv x (List.mem_cons_of_mem _ h)
    have hb : was ^^^ (v ^^^ was) = v := xor_back
    rw [xorRest, List.length_cons, xorDecA]
    generalize hxe : v ^^^ was = x at *
    by_cases h0 : x = 0
    · rw [if_pos h0, List.append_assoc]
      have ht : turnR ⟨bitsOf 0 1 ++ (xorRest win v vs ++ r), false⟩ win = (some (0, win), ⟨xorRest win v vs ++ r, false⟩) := by
        unfold turnR
        rw [RS.get_put]; rfl
      rw [ht]
      dsimp only
      rw [h0] at hb
      rw [hb, ih win]; rfl
    · rw [if_neg h0]
      by_cases hf : win.fits x = true
      · rw [if_pos hf, List.append_assoc, List.append_assoc]
        obtain ⟨f1, f2, f3⟩ := fits_le hf
        have ht : turnR ⟨bitsOf 2 2 ++ (bitsOf (x / 2 ^ win.trail) win.long ++ (xorRest win v vs ++ r)), false⟩ win = (some (x, win), ⟨xorRest win v vs ++ r, false⟩) := by
          refine (turnR_2 (get_bit true _) (by decide) (get_bit false _) (RS.get_put _ _ _)).trans ?_
          rw [shown hx f2 f3, if_pos ⟨f1, h0⟩]
        rw [ht]
        dsimp only
        rw [hb, ih win]; rfl
      · rw [if_neg hf, List.append_assoc, List.append_assoc, List.append_assoc, List.append_assoc]
        obtain ⟨l1, l2, l3, l4⟩ := winOf_long h0 hx
        have ht : turnR ⟨bitsOf 3 2 ++ (bitsOf (winOf x).lead 5 ++ (bitsOf ((winOf x).long - 1) 6 ++ (bitsOf (x / 2 ^ (winOf x).trail) (winOf x).long ++ (xorRest (winOf x) v vs ++ r)))), false⟩ win = (some (x, winOf x), ⟨xorRest (winOf x) v vs ++ r, false⟩) := by
          have e1 : (winOf x).long - 1 + 1 = (winOf x).long := by omega
          have e2 : 64 - (winOf x).lead - (winOf x).long = (winOf x).trail := by omega
          have g1 := RS.get_put (winOf x).lead 5 (bitsOf ((winOf x).long - 1) 6 ++ (bitsOf (x / 2 ^ (winOf x).trail) (winOf x).long ++ (xorRest (winOf x) v vs ++ r)))
          have g2 := RS.get_put ((winOf x).long - 1) 6 (bitsOf (x / 2 ^ (winOf x).trail) (winOf x).long ++ (xorRest (winOf x) v vs ++ r))
          rw [Nat.mod_eq_of_lt (show (winOf x).lead < 2 ^ 5 by omega)] at g1
          rw [Nat.mod_eq_of_lt (show (winOf x).long - 1 < 2 ^ 6 by omega)] at g2
          have g3 : RS.get ⟨bitsOf (x / 2 ^ (winOf x).trail) (winOf x).long ++ (xorRest (winOf x) v vs ++ r), false⟩ ((winOf x).long - 1 + 1) = (x / 2 ^ (winOf x).trail % 2 ^ (winOf x).long, ⟨xorRest (winOf x) v vs ++ r, false⟩) := by rw [e1]; exact RS.get_put _ _ _
          have := turnR_3 (win := win) (get_bit true _) (by decide) (get_bit true _) (by decide) g1 g2 (by omega) g3
          rw [e1, e2, shown hx (Nat.le_refl _) (Nat.le_refl _), if_neg] at this
          · exact this
          · rintro (h | h | h)
            · exact h0 h
            · exact h rfl
            · exact hf h
        rw [ht]
        dsimp only
        rw [hb, ih (winOf x)]; rfl
theorem xorDec_told (vs : List Nat) (hv : ∀ v ∈ vs, v < 18446744073709551616) (r : List Bool) : xorDec vs.length ⟨xorBits vs ++ r, false⟩ = some vs := by
  cases vs with
  | nil => rfl
  | cons v vs =>
    have h := hv v (List.mem_cons_self ..)
    show xorDec (vs.length + 1) ⟨(bitsOf v 64 ++ xorRest ⟨false, 0, 0⟩ v vs) ++ r, false⟩ = _
    rw [List.append_assoc, xorDec, RS.get_put, Nat.mod_eq_of_lt (show v < 2 ^ 64 from h)]
    dsimp only
    rw [xorDecA_told r vs v ⟨false, 0, 0⟩ h fun x hx => hv x (List.mem_cons_of_mem _ hx)]
    rfl

/-- Numbers in a word. -/
def packW (b : Nat) : List Nat → Nat
  | [] => 0
  | x :: r => x + 2 ^ b * packW b r
def kindsL : List (Nat × Nat) := [(240, 0), (120, 0), (60, 1), (30, 2), (20, 3), (15, 4), (12, 5), (10, 6), (8, 7), (7, 8), (6, 10), (5, 12), (4, 15), (3, 20), (2, 30), (1, 60)]
def fitsK (k : Nat × Nat) (u : List Nat) : Option Nat := if k.2 = 0 ∧ u.length < k.1 then none else if (u.take k.1).all (fun x => decide (len64 x ≤ k.2)) = true then some (min u.length k.1) else none
def wordA : Nat → List (Nat × Nat) → List Nat → Option (Nat × Nat)
  | _, [], _ => none
  | i, k :: ks, u => match fitsK k u with
    | some n => some (i * 1152921504606846976 + packW k.2 (u.take n), n)
    | none => wordA (i + 1) ks u
def simpEncF : Nat → List Nat → Option (List Nat)
  | _, [] => some []
  | 0, _ :: _ => none
  | k + 1, a :: r => match wordA 0 kindsL (a :: r) with
    | none => none
    | some (w, n) => (simpEncF k ((a :: r).drop n)).map fun y => w :: y
def simpEnc (u : List Nat) : Option (List Nat) := simpEncF u.length u
def unpackW (x b m : Nat) : List Nat := (List.range m).map fun j => x / 2 ^ (j * b) % 2 ^ b
def simpDecA : List Nat → Nat → Option (List Nat)
  | [], _ => some []
  | x :: ws, room => if room = 0 then none else
    (simpDecA ws (room - min (kindsL.getD (x / 1152921504606846976) (0, 0)).1 room)).map fun r =>
      unpackW (x % 1152921504606846976) (kindsL.getD (x / 1152921504606846976) (0, 0)).2 (min (kindsL.getD (x / 1152921504606846976) (0, 0)).1 room) ++ r
def simpDec (ws : List Nat) (n : Nat) : Option (List Nat) := match simpDecA ws n with
  | none => none
  | some out => if out.length = n ∧ simpEnc out = some ws then some out else none
theorem packW_lt {b : Nat} : ∀ {l : List Nat}, (∀ x ∈ l, x < 2 ^ b) → packW b l < 2 ^ (b * l.length)
  | [], _ => by simp [packW]
  | x :: l, h => by
    have h1 := packW_lt (l := l) fun y hy => h y (List.mem_cons_of_mem _ hy)
    have h2 := h x (List.mem_cons_self ..)
    rw [packW, List.length_cons, Nat.mul_add, Nat.mul_one, Nat.pow_add, Nat.mul_comm (2 ^ (b * l.length))]
    have h3 : 2 ^ b * (packW b l + 1) ≤ 2 ^ b * 2 ^ (b * l.length) := Nat.mul_le_mul_left _ h1
    rw [Nat.mul_add] at h3
    omega
theorem unpackW_packW {b : Nat} : ∀ {l : List Nat}, (∀ x ∈ l, x < 2 ^ b) → ∀ m, m ≤ l.length → unpackW (packW b l) b m = l.take m
  | _, _, 0, _ => by simp [unpackW]
  | [], _, m + 1, hm => by simp at hm
  | x :: l, h, m + 1, hm => by
    have h2 := h x (List.mem_cons_self ..)
    have ih := unpackW_packW (l := l) (fun y hy => h y (List.mem_cons_of_mem _ hy)) m (by simpa using hm)
    unfold unpackW at ih ⊢
    rw [List.range_succ_eq_map, List.map_cons, List.map_map, List.take_succ_cons]
    congr 1
    · rw [packW, Nat.zero_mul, Nat.pow_zero, Nat.div_one, Nat.add_mul_mod_self_left, Nat.mod_eq_of_lt h2]
    · rw [← ih]
      apply List.map_congr_left
      intro j _
      show packW b (x :: l) / 2 ^ ((j + 1) * b) % 2 ^ b = _
      congr 1
      rw [packW, Nat.add_mul, Nat.one_mul, Nat.add_comm (j * b), Nat.pow_add, ← Nat.div_div_eq_div_mul, Nat.add_mul_div_left _ _ (Nat.two_pow_pos b), Nat.div_eq_of_lt h2, Nat.zero_add]
theorem fitsK_some {k : Nat × Nat} {u : List Nat} {n : Nat} (h : fitsK k u = some n) : n = min u.length k.1 ∧ (∀ x ∈ u.take n, x < 2 ^ k.2) ∧ (k.2 = 0 → n = k.1) := by
  unfold fitsK at h
  split at h
  · cases h
  · rename_i h0
    split at h
    · rename_i h1
      cases h
      refine ⟨rfl, fun x hx => ?_, fun hk => by omega⟩
      have : x ∈ u.take k.1 := by
        rcases Nat.le_total u.length k.1 with h2 | h2
        · rw [Nat.min_eq_left h2] at hx; rw [List.take_of_length_le h2]; exact List.mem_of_mem_take hx
        · rw [Nat.min_eq_right h2] at hx; exact hx
      have := List.all_eq_true.1 h1 x this
      exact len64_le.1 (by simpa using this)
    · cases h
theorem wordA_some : ∀ {i : Nat} {ks : List (Nat × Nat)} {u : List Nat} {w n : Nat}, wordA i ks u = some (w, n) → ∃ j k, ks[j]? = some k ∧ fitsK k u = some n ∧ w = (i + j) * 1152921504606846976 + packW k.2 (u.take n)
  | _, [], _, _, _, h => by cases h
  | i, k :: ks, u, w, n, h => by
    rw [wordA] at h
    cases hf : fitsK k u with
    | some m => rw [hf] at h; cases h; exact ⟨0, k, rfl, hf, by simp⟩
    | none =>
      rw [hf] at h
      obtain ⟨j, k', h1, h2, h3⟩ := wordA_some h
      exact ⟨j + 1, k', by simpa using h1, h2, by rw [h3]; congr 2; omega⟩
theorem kindsL_ok : ∀ (j : Nat) (k : Nat × Nat), kindsL[j]? = some k → j < 16 ∧ 0 < k.1 ∧ k.1 ≤ 240 ∧ k.2 * k.1 ≤ 60 := by
  intro j k h
  have hj : j < 16 := (List.getElem?_eq_some_iff.1 h).1
  refine ⟨hj, ?_⟩
  have hall : ∀ k ∈ kindsL, 0 < k.1 ∧ k.1 ≤ 240 ∧ k.2 * k.1 ≤ 60 := by decide
  exact hall k (List.mem_of_getElem? h)
theorem wordA_pos {u : List Nat} (hu : u ≠ []) {w n : Nat} (h : wordA 0 kindsL u = some (w, n)) : 0 < n ∧ n ≤ u.length := by
  obtain ⟨j, k, g1, g2, g3⟩ := wordA_some h
  obtain ⟨f1, f2, f3⟩ := fitsK_some g2
  obtain ⟨k1, k2, k3, k4⟩ := kindsL_ok j k g1
  have : 0 < u.length := List.length_pos_iff.2 hu
  omega
theorem simpEncF_fuel : ∀ (k m : Nat) (u : List Nat), u.length ≤ k → k ≤ m → simpEncF m u = simpEncF k u
  | k, m, [], _, _ => by rw [simpEncF, simpEncF]
  | 0, _, _ :: _, h, _ => by simp at h
  | _ + 1, 0, _ :: _, _, h => by omega
  | k + 1, m + 1, a :: r, h, hm => by
    rw [simpEncF, simpEncF]
    cases hw : wordA 0 kindsL (a :: r) with
    | none => rfl
    | some wn =>
      obtain ⟨w, n⟩ := wn
      have := wordA_pos (by simp) hw
      dsimp only
      rw [simpEncF_fuel k m _ (by rw [List.length_drop]; rw [List.length_cons] at h ⊢; omega) (by omega)]
theorem simpEnc_nil : simpEnc [] = some [] := rfl
theorem simpEnc_none {u : List Nat} (hu : u ≠ []) (h : wordA 0 kindsL u = none) : simpEnc u = none := by
  cases u with
  | nil => exact absurd rfl hu
  | cons a r => unfold simpEnc; rw [List.length_cons, simpEncF, h]
theorem simpEnc_some {u : List Nat} (hu : u ≠ []) {w n : Nat} (h : wordA 0 kindsL u = some (w, n)) : simpEnc u = (simpEnc (u.drop n)).map fun y => w :: y := by
  have hp := wordA_pos hu h
  cases u with
  | nil => exact absurd rfl hu
  | cons a r =>
    unfold simpEnc
    rw [List.length_cons, simpEncF, h]
    dsimp only
    rw [simpEncF_fuel ((a :: r).drop n).length r.length _ (Nat.le_refl _) (by rw [List.length_drop, List.length_cons]; omega)]
theorem simpDecA_told : ∀ (m : Nat) (u ws : List Nat), u.length ≤ m → simpEnc u = some ws → simpDecA ws u.length = some u ∧ ∀ w ∈ ws, w < 18446744073709551616
  | m, [], ws, _, h => by
    rw [simpEnc_nil] at h
    cases h
    exact ⟨rfl, fun _ h => by cases h⟩
  | 0, _ :: _, _, hm, _ => by simp at hm
  | m + 1, a :: b, ws, hm, h => by
    have hne : a :: b ≠ [] := by simp
    generalize hu : a :: b = u at *
    have hpos : 0 < u.length := List.length_pos_iff.2 hne
    cases hw : wordA 0 kindsL u with
    | none => rw [simpEnc_none hne hw] at h; cases h
    | some wn =>
      obtain ⟨w, n⟩ := wn
      rw [simpEnc_some hne hw] at h
      obtain ⟨r, h1, rfl⟩ := Option.map_eq_some_iff.1 h
      have hn := wordA_pos hne hw
      obtain ⟨j, k, g1, g2, g3⟩ := wordA_some hw
      obtain ⟨f1, f2, f3⟩ := fitsK_some g2
      obtain ⟨k1, k2, k3, k4⟩ := kindsL_ok j k g1
      have hlt : packW k.2 (u.take n) < 1152921504606846976 := by
        refine Nat.lt_of_lt_of_le (packW_lt f2) ?_
        have : k.2 * (u.take n).length ≤ 60 := by
          rw [List.length_take]
          exact Nat.le_trans (Nat.mul_le_mul_left _ (by omega)) k4
        exact Nat.pow_le_pow_right (by decide) this
      rw [Nat.zero_add] at g3
      have hdiv : w / 1152921504606846976 = j := by omega
      have hmod : w % 1152921504606846976 = packW k.2 (u.take n) := by omega
      obtain ⟨ih, ih2⟩ := simpDecA_told m (u.drop n) r (by rw [List.length_drop]; omega) h1
      refine ⟨?_, ?_⟩
      · rw [simpDecA, if_neg (by omega), hdiv, hmod]
        have hk : kindsL.getD j (0, 0) = k := by simp [List.getD, g1]
        rw [hk]
        have hmin : min k.1 u.length = n := by omega
        rw [hmin, show u.length - n = (u.drop n).length by simp, ih, unpackW_packW f2 n (by simp; omega)]
        simp [List.take_take]
      · intro x hx
        rcases List.mem_cons.1 hx with rfl | hx
        · omega
        · exact ih2 x hx
theorem simpDec_told {u ws : List Nat} (h : simpEnc u = some ws) : simpDec ws u.length = some u := by
  unfold simpDec
  rw [(simpDecA_told _ u ws (Nat.le_refl _) h).1]
  dsimp only
  rw [if_pos ⟨rfl, h⟩]
end Go.Hw
