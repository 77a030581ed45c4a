/- The suit of all codecs, in plain Lean. -/
import Derived.Test.YtjjacchnalemaaaDoorPd
namespace Go.Hw

/-- A number that stands for one with a sign (as its bits); and back. -/
def zigU (u : Nat) : Nat := if u < 9223372036854775808 then 2 * u else 36893488147419103231 - 2 * u
def zagU (u : Nat) : Nat := if u % 2 = 0 then u / 2 else 18446744073709551615 - u / 2
theorem zigU_lt {u : Nat} (h : u < 18446744073709551616) : zigU u < 18446744073709551616 := by unfold zigU; split <;> omega
theorem zagU_lt {u : Nat} (h : u < 18446744073709551616) : zagU u < 18446744073709551616 := by unfold zagU; split <;> omega
theorem zag_zig {u : Nat} (h : u < 18446744073709551616) : zagU (zigU u) = u := by
  unfold zigU
  split
  · unfold zagU; rw [if_pos (by omega)]; omega
  · unfold zagU; rw [if_neg (by omega)]; omega
def stepsL (was : Nat) : List Nat → List Nat
  | [] => []
  | x :: r => zigU (diff x was) :: stepsL x r
def sumsL (was : Nat) : List Nat → List Nat
  | [] => []
  | x :: r => summ was (zagU x) :: sumsL (summ was (zagU x)) r
theorem sums_steps : ∀ (v : List Nat) (was : Nat), was < 18446744073709551616 → (∀ x ∈ v, x < 18446744073709551616) → sumsL was (stepsL was v) = v
  | [], _, _, _ => rfl
  | x :: r, was, hw, h => by
    have hx := h x (List.mem_cons_self ..)
    have e : summ was (zagU (zigU (diff x was))) = x := by
      rw [zag_zig (Nat.mod_lt _ (by decide))]; unfold summ; omega
    rw [stepsL, sumsL, e, sums_steps r x hx fun y hy => h y (List.mem_cons_of_mem _ hy)]
theorem stepsL_len : ∀ (v : List Nat) (was : Nat), (stepsL was v).length = v.length
  | [], _ => rfl
  | x :: r, was => by simp [stepsL, stepsL_len r x]
theorem sumsL_len : ∀ (v : List Nat) (was : Nat), (sumsL was v).length = v.length
  | [], _ => rfl
  | x :: r, was => by simp [sumsL, sumsL_len r]
theorem stepsL_lt : ∀ (v : List Nat) (was : Nat), ∀ x ∈ stepsL was v, x < 18446744073709551616
  | [], _, _, h => by cases h
  | y :: r, was, x, h => by
    rw [stepsL] at h
    rcases List.mem_cons.1 h with rfl | h
    · exact zigU_lt (Nat.mod_lt _ (by decide))
    · exact stepsL_lt r y x h
/-- Words' bytes, the highest first. -/
def be8 (x : Nat) : List UInt8 := [UInt8.ofNat (x / 2 ^ 56), UInt8.ofNat (x / 2 ^ 48), UInt8.ofNat (x / 2 ^ 40), UInt8.ofNat (x / 2 ^ 32), UInt8.ofNat (x / 2 ^ 24), UInt8.ofNat (x / 2 ^ 16), UInt8.ofNat (x / 2 ^ 8), UInt8.ofNat x]
def bigL (w : List Nat) : List UInt8 := w.flatMap be8
/-- Bytes' words: whole ones. -/
def wordsA (x k : Nat) : List UInt8 → List Nat
  | [] => if k = 0 then [] else [x]
  | c :: r => if k = 8 then x :: wordsA c.toNat 1 r else wordsA ((x * 256 + c.toNat) % 18446744073709551616) (k + 1) r
def wordsL : List UInt8 → List Nat
  | [] => []
  | c :: r => wordsA c.toNat 1 r
theorem wordsL_bigL : ∀ w : List Nat, (∀ x ∈ w, x < 18446744073709551616) → wordsL (bigL w) = w ∧ ∀ x, wordsA x 8 (bigL w) = x :: w
  | [], _ => ⟨rfl, fun _ => rfl⟩
  | x :: w, h => by
    have hx := h x (List.mem_cons_self ..)
    obtain ⟨_, ih⟩ := wordsL_bigL w fun y hy => h y (List.mem_cons_of_mem _ hy)
    have e : bigL (x :: w) = be8 x ++ bigL w := rfl
    have key : wordsA (UInt8.ofNat (x / 2 ^ 56)).toNat 1 (UInt8.ofNat (x / 2 ^ 48) :: UInt8.ofNat (x / 2 ^ 40) :: UInt8.ofNat (x / 2 ^ 32) :: UInt8.ofNat (x / 2 ^ 24) :: UInt8.ofNat (x / 2 ^ 16) :: UInt8.ofNat (x / 2 ^ 8) :: UInt8.ofNat x :: bigL w) = x :: w := by
      rw [wordsA, if_neg (by decide), wordsA, if_neg (by decide), wordsA, if_neg (by decide), wordsA, if_neg (by decide), wordsA, if_neg (by decide), wordsA, if_neg (by decide), wordsA, if_neg (by decide)]
      rw [UInt8.toNat_ofNat', UInt8.toNat_ofNat', UInt8.toNat_ofNat', UInt8.toNat_ofNat', UInt8.toNat_ofNat', UInt8.toNat_ofNat', UInt8.toNat_ofNat', UInt8.toNat_ofNat']
      have e2 : (((((((x / 2 ^ 56 % 2 ^ 8 * 256 + x / 2 ^ 48 % 2 ^ 8) % 18446744073709551616 * 256 + x / 2 ^ 40 % 2 ^ 8) % 18446744073709551616 * 256 + x / 2 ^ 32 % 2 ^ 8) % 18446744073709551616 * 256 + x / 2 ^ 24 % 2 ^ 8) % 18446744073709551616 * 256 + x / 2 ^ 16 % 2 ^ 8) % 18446744073709551616 * 256 + x / 2 ^ 8 % 2 ^ 8) % 18446744073709551616 * 256 + x % 2 ^ 8) % 18446744073709551616 = x := by
        simp only [Nat.reducePow]
        omega
      rw [e2]
      exact ih x
    refine ⟨?_, fun y => ?_⟩
    · rw [e]; exact key
    · rw [e]
      show wordsA y 8 (UInt8.ofNat (x / 2 ^ 56) :: _) = _
      rw [wordsA, if_pos rfl]
      congr 1
theorem bigL_len (w : List Nat) : (bigL w).length = 8 * w.length := by
  induction w with
  | nil => rfl
  | cons x w ih =>
    show (be8 x ++ bigL w).length = _
    rw [List.length_append, ih, List.length_cons]
    show 8 + _ = _
    omega
def sameEnc : List Nat → Option (List UInt8)
  | [] => some []
  | x :: r => if r.all (fun y => decide (y = x)) = true then some (vput x) else none
/-- The bytes of values. -/
def valuesEnc (tag : Int) (v : List Nat) : Option (List UInt8) :=
  if tag = 1 then some (pack (xorBits v)) else if tag = 2 then (simpEnc (stepsL 0 v)).map bigL else if tag = 3 then some (runsEnc v) else if tag = 4 then some (frameEnc v)
  else if tag = 5 then dictEnc v else if tag = 6 then sameEnc v else none
def valuesDec (tag : Int) (b : List UInt8) (n : Nat) : Option (List Nat) :=
  if tag = 1 then xorDec n ⟨bitsB b, false⟩ else if tag = 2 then (if b.length % 8 = 0 then (simpDec (wordsL b) n).map (sumsL 0) else none) else if tag = 3 then runsDec b n else if tag = 4 then frameDec b n
  else if tag = 5 then dictDec b n else if tag = 6 then some (List.replicate n (vget b).1) else none
def timesOf (l : List Smp) : List Int := l.map Smp.T
def valsOf (l : List Smp) : List Nat := l.map fun s => s.V.toNat
def Smp.Wf (s : Smp) : Prop := I64 s.T ∧ 0 ≤ s.V ∧ s.V < 18446744073709551616
/-- Each one stands behind the one ahead. -/
def risesA (t : Int) : List Smp → Bool
  | [] => true
  | s :: r => decide (t < s.T) && risesA s.T r
def rises : List Smp → Bool
  | [] => true
  | s :: r => risesA s.T r
def rising (l : List Smp) : Bool := rises l && decide (l.length ≤ 65535)
def suitBytes (l : List Smp) (b : List UInt8) : List UInt8 := vput (pack (timesBits (timesOf l))).length ++ (pack (timesBits (timesOf l)) ++ b)
def suitEnc (tag : Int) (l : List Smp) : Option (List UInt8) := if rising l = true then (valuesEnc tag (valsOf l)).map (suitBytes l) else none
def zipS : List Int → List Nat → List Smp
  | t :: ts, v :: vs => ⟨t, v⟩ :: zipS ts vs
  | _, _ => []
def suitDec (tag : Int) (b : List UInt8) (n : Int) : Option (List Smp) :=
  if (vget b).2 = 0 ∨ n < 0 ∨ 65535 < n ∨ b.length - (vget b).2 < (vget b).1 then none
  else match timesDec n.toNat ⟨bitsB ((b.drop (vget b).2).take (vget b).1), false⟩, valuesDec tag (b.drop ((vget b).2 + (vget b).1)) n.toNat with
    | some x, some v => if suitEnc tag (zipS x.1 v) = some b then some (zipS x.1 v) else none
    | _, _ => none
def bestA (l : List Smp) : List Int → Int → List UInt8 → Int × List UInt8
  | [], t, b => (t, b)
  | k :: ks, t, b => match suitEnc k l with
    | none => bestA l ks t b
    | some c => if t = 0 ∨ c.length < b.length then bestA l ks k c else bestA l ks t b
def suitBest (l : List Smp) : Int × List UInt8 := bestA l [1, 2, 3, 4, 5, 6] 0 []
theorem zipS_of : ∀ l : List Smp, (∀ s ∈ l, s.Wf) → zipS (timesOf l) (valsOf l) = l
  | [], _ => rfl
  | s :: l, h => by
    obtain ⟨_, h1, _⟩ := h s (List.mem_cons_self ..)
    have ih := zipS_of l fun x hx => h x (List.mem_cons_of_mem _ hx)
    show (⟨s.T, (s.V.toNat : Int)⟩ : Smp) :: zipS (timesOf l) (valsOf l) = _
    rw [ih, Int.toNat_of_nonneg h1]
theorem valuesDec_told {tag : Int} {v : List Nat} {b : List UInt8} (hl : v.length < 18446744073709551616) (hv : ∀ x ∈ v, x < 18446744073709551616) (h : valuesEnc tag v = some b) : valuesDec tag b v.length = some v := by
  unfold valuesEnc at h
  unfold valuesDec
  repeat' split at h
  · cases h; rw [if_pos ‹_›, bitsB_pack]; exact xorDec_told v hv _
  · rw [if_neg ‹_›, if_pos ‹_›]
    obtain ⟨ws, h1, rfl⟩ := Option.map_eq_some_iff.1 h
    obtain ⟨_, h3⟩ := simpDecA_told _ _ ws (Nat.le_refl _) h1
    rw [if_pos (by rw [bigL_len]; omega), (wordsL_bigL ws h3).1]
    have h4 := simpDec_told h1
    rw [stepsL_len] at h4
    rw [h4, Option.map_some, sums_steps v 0 (by decide) hv]
  · cases h; rw [if_neg ‹_›, if_neg ‹_›, if_pos ‹_›]; exact runsDec_told hl hv
  · cases h; rw [if_neg ‹_›, if_neg ‹_›, if_neg ‹_›, if_pos ‹_›]; exact frameDec_told hv
  · rw [if_neg ‹_›, if_neg ‹_›, if_neg ‹_›, if_neg ‹_›, if_pos ‹_›]; exact dictDec_told hv h
  · rw [if_neg ‹_›, if_neg ‹_›, if_neg ‹_›, if_neg ‹_›, if_neg ‹_›, if_pos ‹_›]
    cases v with
    | nil => rfl
    | cons x r =>
      rw [sameEnc] at h
      split at h
      · rename_i hall
        cases h
        have := vget_vput (hv x (List.mem_cons_self ..)) []
        rw [List.append_nil] at this
        rw [this]
        congr 1
        apply List.ext_getElem (by simp)
        intro i h1 h2
        rw [List.getElem_replicate]
        cases i with
        | zero => rfl
        | succ i =>
          rw [List.getElem_cons_succ]
          have := List.all_eq_true.1 hall (r[i]'(by simpa using h2)) (List.getElem_mem _)
          exact (by simpa using this : r[i]'(by simpa using h2) = x).symm
      · cases h
  · cases h
theorem suitDec_told {tag : Int} {l : List Smp} {b : List UInt8} (hw : ∀ s ∈ l, s.Wf) (hb : b.length < 18446744073709551616) (h : suitEnc tag l = some b) : suitDec tag b l.length = some l := by
  have h0 := h
  unfold suitEnc at h
  split at h
  · rename_i hr
    obtain ⟨x, h1, rfl⟩ := Option.map_eq_some_iff.1 h
    have hlen : l.length ≤ 65535 := by
      unfold rising at hr
      simp only [Bool.and_eq_true, decide_eq_true_eq] at hr
      exact hr.2
    have ht : ∀ t ∈ timesOf l, I64 t := by
      intro t ht
      obtain ⟨s, hs, rfl⟩ := List.mem_map.1 ht
      exact (hw s hs).1
    have hv : ∀ v ∈ valsOf l, v < 18446744073709551616 := by
      intro t ht
      obtain ⟨s, hs, rfl⟩ := List.mem_map.1 ht
      obtain ⟨_, h2, h3⟩ := hw s hs
      omega
    have hvl : (valsOf l).length = l.length := by simp [valsOf]
    have htl : (timesOf l).length = l.length := by simp [timesOf]
    have hpl : (suitBytes l x).length = (vput (pack (timesBits (timesOf l))).length).length + ((pack (timesBits (timesOf l))).length + x.length) := by simp [suitBytes]
    have hg : vget (suitBytes l x) = _ := vget_vput (show (pack (timesBits (timesOf l))).length < 18446744073709551616 by omega) (pack (timesBits (timesOf l)) ++ x)
    have hp := vput_len (pack (timesBits (timesOf l))).length
    have hdr : (suitBytes l x).drop (vput (pack (timesBits (timesOf l))).length).length = pack (timesBits (timesOf l)) ++ x := List.drop_left
    have hd2 : (suitBytes l x).drop ((vput (pack (timesBits (timesOf l))).length).length + (pack (timesBits (timesOf l))).length) = x := by rw [← List.drop_drop, hdr, List.drop_left]
    unfold suitDec
    rw [hg]
    dsimp only
    rw [if_neg (by omega), hdr, List.take_left, hd2, Int.toNat_natCast, bitsB_pack]
    have e1 := timesDec_told (timesOf l) ht (List.replicate (8 * (((timesBits (timesOf l)).length + 7) / 8) - (timesBits (timesOf l)).length) false)
    rw [htl] at e1
    have e2 := valuesDec_told (by rw [hvl]; omega) hv h1
    rw [hvl] at e2
    rw [e1, e2]
    dsimp only
    rw [zipS_of l hw, if_pos h0]
  · cases h
theorem suitDec_sound {tag : Int} {b : List UInt8} {n : Int} {l : List Smp} (h : suitDec tag b n = some l) : suitEnc tag l = some b := by
  unfold suitDec at h
  split at h
  · cases h
  · split at h
    · split at h
      · cases h; assumption
      · cases h
    · cases h
end Go.Hw
