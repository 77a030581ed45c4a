/- Chunks in plain Lean: the sum of bytes, the head, the chunk. -/
import Derived.Test.YtjjacchnalemaaaDoorPg
namespace Go.Hw
set_option maxRecDepth 100000
/-- A byte's sum, bit by bit. -/
def crcBit (c : Nat) : Nat := if c % 2 = 1 then (c / 2) ^^^ 2197175160 else c / 2
def crcN : Nat → Nat → Nat
  | 0, c => c
  | k + 1, c => crcBit (crcN k c)
def crcByte (i : Nat) : Nat := crcN 8 i
def crcStep (s x : Nat) : Nat := crcByte ((s % 256) ^^^ x) ^^^ (s / 256)
def crcA (s : Nat) : List UInt8 → Nat
  | [] => s
  | c :: r => crcA (crcStep s c.toNat) r
def crc (b : List UInt8) : Nat := crcA 4294967295 b ^^^ 4294967295
theorem xor32 {a b : Nat} (ha : a < 4294967296) (hb : b < 4294967296) : a ^^^ b < 4294967296 := Nat.xor_lt_two_pow (n := 32) ha hb
theorem crcBit_lt {c : Nat} (h : c < 4294967296) : crcBit c < 4294967296 := by
  unfold crcBit
  split
  · exact xor32 (by omega) (by decide)
  · omega
theorem crcN_lt {c : Nat} (h : c < 4294967296) : ∀ k, crcN k c < 4294967296
  | 0 => h
  | k + 1 => crcBit_lt (crcN_lt h k)
theorem crcByte_lt {i : Nat} (h : i < 256) : crcByte i < 4294967296 := crcN_lt (by omega) 8
theorem xor8 {a b : Nat} (ha : a < 256) (hb : b < 256) : a ^^^ b < 256 := Nat.xor_lt_two_pow (n := 8) ha hb
theorem crcStep_lt {s x : Nat} (hs : s < 4294967296) (hx : x < 256) : crcStep s x < 4294967296 :=
  xor32 (crcByte_lt (xor8 (Nat.mod_lt _ (by decide)) hx)) (by omega)
theorem crcA_lt : ∀ (b : List UInt8) (s : Nat), s < 4294967296 → crcA s b < 4294967296
  | [], _, h => h
  | c :: r, s, h => crcA_lt r _ (crcStep_lt h c.toNat_lt)
theorem crc_lt (b : List UInt8) : crc b < 4294967296 := xor32 (crcA_lt b _ (by decide)) (by decide)
def crcInv : List Nat := [0, 241, 226, 19, 196, 53, 38, 215, 136, 121, 106, 155, 76, 189, 174, 95, 16, 225, 242, 3, 212, 37, 54, 199, 152, 105, 122, 139, 92, 173, 190, 79, 32, 209, 194, 51, 228, 21, 6, 247, 168, 89, 74, 187, 108, 157, 142, 127, 48, 193, 210, 35, 244, 5, 22, 231, 184, 73, 90, 171, 124, 141, 158, 111, 177, 64, 83, 162, 117, 132, 151, 102, 57, 200, 219, 42, 253, 12, 31, 238, 161, 80, 67, 178, 101, 148, 135, 118, 41, 216, 203, 58, 237, 28, 15, 254, 145, 96, 115, 130, 85, 164, 183, 70, 25, 232, 251, 10, 221, 44, 63, 206, 129, 112, 99, 146, 69, 180, 167, 86, 9, 248, 235, 26, 205, 60, 47, 222, 98, 147, 128, 113, 166, 87, 68, 181, 234, 27, 8, 249, 46, 223, 204, 61, 114, 131, 144, 97, 182, 71, 84, 165, 250, 11, 24, 233, 62, 207, 220, 45, 66, 179, 160, 81, 134, 119, 100, 149, 202, 59, 40, 217, 14, 255, 236, 29, 82, 163, 176, 65, 150, 103, 116, 133, 218, 43, 56, 201, 30, 239, 252, 13, 211, 34, 49, 192, 23, 230, 245, 4, 91, 170, 185, 72, 159, 110, 125, 140, 195, 50, 33, 208, 7, 246, 229, 20, 75, 186, 169, 88, 143, 126, 109, 156, 243, 2, 17, 224, 55, 198, 213, 36, 123, 138, 153, 104, 191, 78, 93, 172, 227, 18, 1, 240, 39, 214, 197, 52, 107, 154, 137, 120, 175, 94, 77, 188]
theorem crcInv_top : ∀ i, i < 256 → crcInv[crcByte i / 16777216]? = some i := by decide +kernel
theorem top_inj {i j : Nat} (hi : i < 256) (hj : j < 256) (h : crcByte i / 16777216 = crcByte j / 16777216) : i = j := by
  have h1 := crcInv_top i hi
  rw [h, crcInv_top j hj] at h1
  exact (Option.some.inj h1).symm
theorem xor_div (a b : Nat) : (a ^^^ b) / 16777216 = (a / 16777216) ^^^ (b / 16777216) := by
  have := Nat.shiftRight_xor_distrib (a := a) (b := b) (i := 24)
  simpa [Nat.shiftRight_eq_div_pow] using this
theorem xor_cancel {a b c : Nat} (h : a ^^^ b = a ^^^ c) : b = c := by
  have := congrArg (fun z => a ^^^ z) h
  simpa [← Nat.xor_assoc] using this
theorem crcStep_inj {s s' x x' : Nat} (hs : s < 4294967296) (hs' : s' < 4294967296) (hx : x < 256) (hx' : x' < 256) (h : crcStep s x = crcStep s' x') : (s % 256) ^^^ x = (s' % 256) ^^^ x' ∧ s / 256 = s' / 256 := by
  have hi := xor8 (Nat.mod_lt s (show 256 > 0 by decide)) hx
  have hi' := xor8 (Nat.mod_lt s' (show 256 > 0 by decide)) hx'
  unfold crcStep at h
  have h1 := congrArg (fun z => z / 16777216) h
  simp only [xor_div] at h1
  rw [show s / 256 / 16777216 = 0 by omega, show s' / 256 / 16777216 = 0 by omega, Nat.xor_zero, Nat.xor_zero] at h1
  have h2 := top_inj hi hi' h1
  rw [h2] at h
  exact ⟨h2, xor_cancel h⟩
theorem crcA_inj : ∀ (b : List UInt8) (s s' : Nat), s < 4294967296 → s' < 4294967296 → crcA s b = crcA s' b → s = s'
  | [], _, _, _, _, h => h
  | c :: r, s, s', hs, hs', h => by
    have h1 := crcA_inj r _ _ (crcStep_lt hs c.toNat_lt) (crcStep_lt hs' c.toNat_lt) h
    obtain ⟨h2, h3⟩ := crcStep_inj hs hs' c.toNat_lt c.toNat_lt h1
    rw [Nat.xor_comm, Nat.xor_comm (s' % 256)] at h2
    have := xor_cancel h2
    omega
theorem crcA_append : ∀ (p r : List UInt8) (s : Nat), crcA s (p ++ r) = crcA (crcA s p) r
  | [], _, _ => rfl
  | c :: p, r, s => crcA_append p r _
/-- One byte turned: another sum. -/
theorem crc_turn (p r : List UInt8) {x y : UInt8} (h : crc (p ++ x :: r) = crc (p ++ y :: r)) : x = y := by
  unfold crc at h
  rw [Nat.xor_comm, Nat.xor_comm (crcA _ (p ++ y :: r))] at h
  have h1 := xor_cancel h
  rw [crcA_append, crcA_append] at h1
  have hp := crcA_lt p 4294967295 (by decide)
  have h2 := crcA_inj r _ _ (crcStep_lt hp x.toNat_lt) (crcStep_lt hp y.toNat_lt) h1
  obtain ⟨h3, _⟩ := crcStep_inj hp hp x.toNat_lt y.toNat_lt h2
  exact UInt8.toNat_inj.1 (xor_cancel h3)
def be4 (c : Nat) : List UInt8 := [UInt8.ofNat (c / 2 ^ 24), UInt8.ofNat (c / 2 ^ 16), UInt8.ofNat (c / 2 ^ 8), UInt8.ofNat c]
theorem be4_inj {a b : Nat} (ha : a < 4294967296) (hb : b < 4294967296) (h : be4 a = be4 b) : a = b := by
  simp only [be4, List.cons.injEq, and_true] at h
  obtain ⟨h1, h2, h3, h4⟩ := h
  have e1 := congrArg UInt8.toNat h1
  have e2 := congrArg UInt8.toNat h2
  have e3 := congrArg UInt8.toNat h3
  have e4 := congrArg UInt8.toNat h4
  simp only [UInt8.toNat_ofNat'] at e1 e2 e3 e4
  simp only [Nat.reducePow] at e1 e2 e3 e4
  omega
/-- A time as the number that stands for it. -/
def zigT (t : Int) : Nat := zigU (us t)
theorem zigT_lt (t : Int) : zigT t < 18446744073709551616 := zigU_lt (us_lt t)
theorem zag_zigT {t : Int} (h : I64 t) : sg (zagU (zigT t)) = t := by unfold zigT; rw [zag_zig (us_lt t), sg_us h]
def firstT (L : List Smp) : Int := (L.head?.map Smp.T).getD 0
def lastT (L : List Smp) : Int := (L.getLast?.map Smp.T).getD 0
def chNums (L : List Smp) : List Nat := [L.length, zigT (firstT L), zigT (lastT L)]
def chBody (tag : Int) (L : List Smp) (x : List UInt8) : List UInt8 := UInt8.ofNat tag.toNat :: ((chNums L).flatMap vput ++ x)
def chMake (tag : Int) (L : List Smp) : Option (List UInt8) := match suitEnc tag L with
  | none => none
  | some x => if L = [] then none else some (chBody tag L x ++ be4 (crc (chBody tag L x)))
structure Hd where
  tag : Nat
  count : Nat
  f : Int
  t : Int
def hdOf (c : UInt8) (l : List Nat) : Hd := ⟨c.toNat, l.getD 0 0, sg (zagU (l.getD 1 0)), sg (zagU (l.getD 2 0))⟩
def headDec : List UInt8 → Option (Hd × List UInt8)
  | [] => none
  | c :: r => if c.toNat < 1 ∨ 6 < c.toNat then none else match getVs 3 r with
    | none => none
    | some (l, rest) => if l.getD 0 0 < 1 ∨ 65535 < l.getD 0 0 ∨ sg (zagU (l.getD 2 0)) < sg (zagU (l.getD 1 0)) then none else some (hdOf c l, rest)
def chOpen (b : List UInt8) : Option (List Smp × Nat) := match headDec b with
  | none => none
  | some (h, rest) => if rest.length < 4 then none else match suitDec h.tag (rest.take (rest.length - 4)) h.count with
    | none => none
    | some L => if chMake h.tag L = some b then some (L, h.tag) else none
theorem chOpen_sound {b : List UInt8} {L : List Smp} {t : Nat} (h : chOpen b = some (L, t)) : chMake (t : Int) L = some b := by
  unfold chOpen at h
  split at h
  · cases h
  · split at h
    · cases h
    · split at h
      · cases h
      · split at h
        · cases h; assumption
        · cases h
theorem chMake_some {tag : Int} {L : List Smp} {b : List UInt8} (h : chMake tag L = some b) : ∃ x, suitEnc tag L = some x ∧ L ≠ [] ∧ b = chBody tag L x ++ be4 (crc (chBody tag L x)) := by
  unfold chMake at h
  split at h
  · cases h
  · rename_i x hx
    split at h
    · cases h
    · rename_i hL
      exact ⟨x, hx, hL, (Option.some.inj h).symm⟩
theorem suitEnc_tag {tag : Int} {L : List Smp} {x : List UInt8} (h : suitEnc tag L = some x) : 1 ≤ tag ∧ tag ≤ 6 := by
  by_cases hk : tag < 1 ∨ 6 < tag
  · rw [suitEnc_none L hk] at h; cases h
  · omega
theorem suitEnc_rises {tag : Int} {L : List Smp} {x : List UInt8} (h : suitEnc tag L = some x) : rises L = true ∧ L.length ≤ 65535 := by
  unfold suitEnc at h
  split at h
  · rename_i hr
    unfold rising at hr
    simpa only [Bool.and_eq_true, decide_eq_true_eq] using hr
  · cases h
theorem rises_ends {L : List Smp} (h : rises L = true) (hL : L ≠ []) : firstT L ≤ lastT L := by
  cases L with
  | nil => exact absurd rfl hL
  | cons s r =>
    have h0 := (rises_iff (s :: r)).1 h
    unfold firstT lastT
    rw [List.getLast?_eq_getElem?]
    have hg := List.getElem?_eq_getElem (show (s :: r).length - 1 < (s :: r).length by simp)
    generalize (s :: r)[(s :: r).length - 1]'(by simp) = z at hg
    rw [hg]
    show s.T ≤ z.T
    by_cases hr : r = []
    · subst hr; simp at hg; subst hg; exact Int.le_refl _
    · have hp : 0 < r.length := List.length_pos_iff.2 hr
      exact Int.le_of_lt (h0 0 _ s z rfl hg (by simp; omega))
theorem ends_wf {L : List Smp} (hw : ∀ s ∈ L, s.Wf) (hL : L ≠ []) : I64 (firstT L) ∧ I64 (lastT L) := by
  cases L with
  | nil => exact absurd rfl hL
  | cons s r =>
    refine ⟨(hw s (List.mem_cons_self ..)).1, ?_⟩
    unfold lastT
    rw [List.getLast?_eq_getElem?]
    have hg := List.getElem?_eq_getElem (show (s :: r).length - 1 < (s :: r).length by simp)
    have hm := List.getElem_mem (show (s :: r).length - 1 < (s :: r).length by simp)
    generalize (s :: r)[(s :: r).length - 1]'(by simp) = z at hg hm
    rw [hg]
    exact (hw z hm).1
/-- A chunk's head, whatever stands behind it. -/
theorem headDec_told {tag : Int} {L : List Smp} {x : List UInt8} (hw : ∀ s ∈ L, s.Wf) (hL : L ≠ []) (h : suitEnc tag L = some x) (r : List UInt8) : headDec (UInt8.ofNat tag.toNat :: ((chNums L).flatMap vput ++ r)) = some (⟨tag.toNat, L.length, firstT L, lastT L⟩, r) := by
  obtain ⟨h1, h6⟩ := suitEnc_tag h
  obtain ⟨hr, hlen⟩ := suitEnc_rises h
  obtain ⟨w1, w2⟩ := ends_wf hw hL
  have hpos : 0 < L.length := List.length_pos_iff.2 hL
  have htn : (UInt8.ofNat tag.toNat).toNat = tag.toNat := by rw [UInt8.toNat_ofNat']; omega
  have hg := getVs_told r (chNums L) (fun z hz => by
    simp only [chNums, List.mem_cons, List.not_mem_nil, or_false] at hz
    rcases hz with rfl | rfl | rfl
    · omega
    · exact zigT_lt _
    · exact zigT_lt _)
  unfold headDec; dsimp only
  rw [htn, if_neg (by omega), show getVs 3 _ = _ from hg]
  dsimp only
  have e0 : (chNums L).getD 0 0 = L.length := rfl
  have e1 : (chNums L).getD 1 0 = zigT (firstT L) := rfl
  have e2 : (chNums L).getD 2 0 = zigT (lastT L) := rfl
  have hle := rises_ends hr hL
  rw [if_neg (by rw [e0, e1, e2, zag_zigT w1, zag_zigT w2]; omega)]
  unfold hdOf
  rw [htn, e0, e1, e2, zag_zigT w1, zag_zigT w2]
theorem chBody_len (tag : Int) (L : List Smp) (x : List UInt8) : 4 + x.length ≤ (chBody tag L x).length ∧ (chBody tag L x).length ≤ 31 + x.length := by
  have h1 := vput_len L.length
  have h2 := vput_len (zigT (firstT L))
  have h3 := vput_len (zigT (lastT L))
  simp only [chBody, chNums, List.flatMap_cons, List.flatMap_nil, List.length_cons, List.length_append, List.length_nil]
  omega
theorem be4_len (c : Nat) : (be4 c).length = 4 := rfl
theorem chOpen_told {tag : Int} {L : List Smp} {b : List UInt8} (hw : ∀ s ∈ L, s.Wf) (hb : b.length < 18446744073709551616) (h : chMake tag L = some b) : chOpen b = some (L, tag.toNat) := by
  obtain ⟨x, hx, hL, he⟩ := chMake_some h
  obtain ⟨h1, h6⟩ := suitEnc_tag hx
  have hh := headDec_told hw hL hx (x ++ be4 (crc (chBody tag L x)))
  have hb' : b = UInt8.ofNat tag.toNat :: ((chNums L).flatMap vput ++ (x ++ be4 (crc (chBody tag L x)))) := by
    rw [he]
    unfold chBody
    simp
  rw [← hb'] at hh
  have hl := chBody_len tag L x
  have hbl : b.length = (chBody tag L x).length + 4 := by rw [he, List.length_append, be4_len]
  unfold chOpen
  rw [hh]
  dsimp only
  rw [if_neg (by rw [List.length_append, be4_len]; omega), List.length_append, be4_len, Nat.add_sub_cancel, List.take_left, show ((tag.toNat : Nat) : Int) = tag by omega, suitDec_told hw (by omega) hx]
  dsimp only
  rw [if_pos h]
/-- Bytes with their sum behind them, one of them turned: they are none. -/
theorem sealed_turn {A B : List UInt8} {i : Nat} {y z : UInt8} (hz : (A ++ be4 (crc A))[i]? = some z) (hy : y ≠ z) : (A ++ be4 (crc A)).set i y ≠ B ++ be4 (crc B) := by
  intro h
  have hl := congrArg List.length h
  rw [List.length_set, List.length_append, List.length_append, be4_len, be4_len] at hl
  have hAB : A.length = B.length := by omega
  by_cases hi : i < A.length
  · rw [List.set_append_left _ _ hi] at h
    obtain ⟨h1, h2⟩ := List.append_inj h (by rw [List.length_set]; exact hAB)
    rw [List.getElem?_append_left hi] at hz
    have hc := be4_inj (crc_lt A) (crc_lt B) h2
    have hs : A = A.take i ++ z :: A.drop (i + 1) := by
      have := List.getElem?_eq_some_iff.1 hz
      obtain ⟨h3, h4⟩ := this
      rw [← h4]
      simp
    have hs' : B = A.take i ++ y :: A.drop (i + 1) := by
      rw [← h1, List.set_eq_take_append_cons_drop, if_pos hi]
    rw [hs'] at hc
    rw [show crc A = crc (A.take i ++ z :: A.drop (i + 1)) by rw [← hs]] at hc
    exact hy (crc_turn _ _ hc).symm
  · rw [List.set_append_right _ _ (by omega)] at h
    obtain ⟨h1, h2⟩ := List.append_inj h hAB
    subst h1
    rw [List.getElem?_append_right (by omega)] at hz
    have hlt := (List.getElem?_eq_some_iff.1 hz).1
    have := congrArg (fun l => l[i - A.length]?) h2
    simp only [List.getElem?_set_self hlt, hz] at this
    exact hy (Option.some.inj this)
theorem chOpen_turned {tag : Int} {L : List Smp} {b : List UInt8} (h : chMake tag L = some b) {i : Nat} {y z : UInt8} (hz : b[i]? = some z) (hy : y ≠ z) : chOpen (b.set i y) = none := by
  cases ho : chOpen (b.set i y) with
  | none => rfl
  | some q =>
    obtain ⟨M, t⟩ := q
    have hs := chOpen_sound ho
    obtain ⟨x, _, _, hx⟩ := chMake_some h
    obtain ⟨x', _, _, hx'⟩ := chMake_some hs
    rw [hx] at hz hx'
    exact absurd hx' (sealed_turn hz hy)
/-- Heads that may not be. -/
theorem headDec_tag {c : UInt8} {r : List UInt8} (h : c.toNat < 1 ∨ 6 < c.toNat) : headDec (c :: r) = none := by
  unfold headDec; dsimp only; rw [if_pos h]
theorem headDec_zero (c : UInt8) (r : List UInt8) : headDec (c :: 0 :: r) = none := by
  unfold headDec; dsimp only
  split
  · rfl
  · have hv : vget (0 :: r) = (0, 1) := rfl
    split
    · rfl
    · rename_i l rest hg
      rw [getVs, hv] at hg
      simp only [Nat.one_ne_zero, if_false] at hg
      obtain ⟨q, _, hq⟩ := Option.map_eq_some_iff.1 hg
      rw [if_pos]
      left
      have : l = 0 :: q.1 := by
        have := congrArg Prod.fst hq
        exact this.symm
      rw [this]
      show (0 : Nat) < 1
      decide
theorem headDec_one (c : UInt8) : headDec [c] = none := by
  unfold headDec; dsimp only
  split
  · rfl
  · rfl
theorem rises_one (s : Smp) : rises [s] = true := rfl
end Go.Hw
