/- More of the suit in plain Lean: which codecs can; the best; how long. -/
import Derived.Test.YtjjacchnalemaaaDoorSuit
import Derived.Test.YtjjacchnalemaaaDoorPf
namespace Go.Hw
theorem valuesEnc_none {tag : Int} (v : List Nat) (h : tag < 1 ∨ 6 < tag) : valuesEnc tag v = none := by
  unfold valuesEnc
  rw [if_neg (by omega), if_neg (by omega), if_neg (by omega), if_neg (by omega), if_neg (by omega), if_neg (by omega)]
theorem suitEnc_none {tag : Int} (l : List Smp) (h : tag < 1 ∨ 6 < tag) : suitEnc tag l = none := by
  unfold suitEnc
  rw [valuesEnc_none _ h]
  split <;> rfl
theorem suitDec_none {tag : Int} (b : List UInt8) (n : Int) (h : tag < 1 ∨ 6 < tag) : suitDec tag b n = none := by
  have : ∀ v k, valuesDec tag v k = none := fun v k => by
    unfold valuesDec
    rw [if_neg (by omega), if_neg (by omega), if_neg (by omega), if_neg (by omega), if_neg (by omega), if_neg (by omega)]
  unfold suitDec
  rw [this]
  split
  · rfl
  · split
    · rename_i h2; cases h2
    · rfl
theorem unlikeA_can : ∀ (v l : List Nat), l.length + v.length ≤ 256 → (unlikeA l v).isSome = true
  | [], _, _ => rfl
  | x :: v, l, h => by
    rw [List.length_cons] at h
    rw [unlikeA]
    split
    · exact unlikeA_can v l (by omega)
    · rw [if_neg (by omega)]
      exact unlikeA_can v _ (by rw [List.length_append, List.length_singleton]; omega)
theorem suitEnc_can {tag : Int} {l : List Smp} (hr : rising l = true) (hl : l.length ≤ 256) (h : tag = 1 ∨ tag = 3 ∨ tag = 4 ∨ tag = 5) : ∃ b, suitEnc tag l = some b := by
  have : (suitEnc tag l).isSome = true := by
    unfold suitEnc
    rw [if_pos hr, Option.isSome_map]
    rcases h with rfl | rfl | rfl | rfl
    · rfl
    · rfl
    · rfl
    · show (dictEnc _).isSome = true
      unfold dictEnc
      have hc := unlikeA_can (valsOf l) [] (by simp [valsOf]; omega)
      cases hu : unlikeA [] (valsOf l) with
      | none => rw [hu] at hc; cases hc
      | some m => dsimp only; split <;> rfl
  cases hb : suitEnc tag l with
  | none => rw [hb] at this; cases this
  | some b => exact ⟨b, rfl⟩
theorem bestA_spec (l : List Smp) : ∀ (ks : List Int) (t : Int) (b : List UInt8), 0 ≤ t → (∀ k ∈ ks, t < k) → ks.Pairwise (· < ·) →
    t ≤ (bestA l ks t b).1 ∧ (bestA l ks t b = (t, b) ∨ ((bestA l ks t b).1 ∈ ks ∧ suitEnc (bestA l ks t b).1 l = some (bestA l ks t b).2)) ∧
    (t ≠ 0 → (bestA l ks t b).1 ≠ 0 ∧ (bestA l ks t b).2.length ≤ b.length ∧ (t < (bestA l ks t b).1 → (bestA l ks t b).2.length < b.length)) ∧
    ∀ k ∈ ks, ∀ c, suitEnc k l = some c → (bestA l ks t b).1 ≠ 0 ∧ (bestA l ks t b).2.length ≤ c.length ∧ (k < (bestA l ks t b).1 → (bestA l ks t b).2.length < c.length)
  | [], t, b, _, _, _ => ⟨Int.le_refl _, .inl rfl, fun h => ⟨h, Nat.le_refl _, fun h => absurd h (Int.lt_irrefl _)⟩, fun _ h => by cases h⟩
  | k :: ks, t, b, ht, hk, hp => by
    obtain ⟨hp1, hp2⟩ := List.pairwise_cons.1 hp
    have hkt := hk k (List.mem_cons_self ..)
    rw [bestA]
    cases hE : suitEnc k l with
    | none =>
      dsimp only
      obtain ⟨g1, g2, g3, g4⟩ := bestA_spec l ks t b ht (fun x hx => hk x (List.mem_cons_of_mem _ hx)) hp2
      refine ⟨g1, ?_, g3, fun x hx c hc => ?_⟩
      · rcases g2 with g2 | ⟨g2, g2'⟩
        · exact .inl g2
        · exact .inr ⟨List.mem_cons_of_mem _ g2, g2'⟩
      · rcases List.mem_cons.1 hx with rfl | hx
        · rw [hE] at hc; cases hc
        · exact g4 x hx c hc
    | some c =>
      dsimp only
      split
      · rename_i hcond
        obtain ⟨g1, g2, g3, g4⟩ := bestA_spec l ks k c (by omega) hp1 hp2
        obtain ⟨g3a, g3b, g3c⟩ := g3 (by omega)
        refine ⟨by omega, ?_, fun h0 => ⟨g3a, by omega, fun _ => by omega⟩, fun x hx d hd => ?_⟩
        · rcases g2 with g2 | ⟨g2, g2'⟩
          · right
            rw [g2]
            exact ⟨List.mem_cons_self .., hE⟩
          · exact .inr ⟨List.mem_cons_of_mem _ g2, g2'⟩
        · rcases List.mem_cons.1 hx with rfl | hx
          · rw [hE] at hd; cases hd; exact ⟨g3a, g3b, g3c⟩
          · exact g4 x hx d hd
      · rename_i hcond
        obtain ⟨g1, g2, g3, g4⟩ := bestA_spec l ks t b ht (fun x hx => hk x (List.mem_cons_of_mem _ hx)) hp2
        obtain ⟨g3a, g3b, g3c⟩ := g3 (by omega)
        refine ⟨g1, ?_, g3, fun x hx d hd => ?_⟩
        · rcases g2 with g2 | ⟨g2, g2'⟩
          · exact .inl g2
          · exact .inr ⟨List.mem_cons_of_mem _ g2, g2'⟩
        · rcases List.mem_cons.1 hx with rfl | hx
          · rw [hE] at hd; cases hd
            exact ⟨g3a, by omega, fun h => by have := g3c (by omega); omega⟩
          · exact g4 x hx d hd
/-- The best of a row that some codec can tell. -/
theorem suitBest_spec {l : List Smp} (hr : rising l = true) (hl : l.length ≤ 256) : 1 ≤ (suitBest l).1 ∧ (suitBest l).1 ≤ 6 ∧ suitEnc (suitBest l).1 l = some (suitBest l).2 ∧
    ∀ k c, suitEnc k l = some c → (suitBest l).2.length ≤ c.length ∧ (k < (suitBest l).1 → (suitBest l).2.length < c.length) := by
  obtain ⟨g1, g2, _, g4⟩ := bestA_spec l [1, 2, 3, 4, 5, 6] 0 [] (by decide) (by decide) (by decide)
  obtain ⟨b, hb⟩ := suitEnc_can (tag := 1) hr hl (.inl rfl)
  have h1 := (g4 1 (by decide) b hb).1
  have h2 : (suitBest l).1 ∈ ([1, 2, 3, 4, 5, 6] : List Int) ∧ suitEnc (suitBest l).1 l = some (suitBest l).2 := by
    rcases g2 with g2 | g2
    · exact absurd (congrArg Prod.fst g2) h1
    · exact g2
  obtain ⟨h2, h3⟩ := h2
  have hmem : ∀ k ∈ ([1, 2, 3, 4, 5, 6] : List Int), 1 ≤ k ∧ k ≤ 6 := by decide
  refine ⟨(hmem _ h2).1, (hmem _ h2).2, h3, fun k c hc => ?_⟩
  by_cases hk : k < 1 ∨ 6 < k
  · rw [suitEnc_none l hk] at hc; cases hc
  · have : k ∈ ([1, 2, 3, 4, 5, 6] : List Int) := by
      rcases (by omega : k = 1 ∨ k = 2 ∨ k = 3 ∨ k = 4 ∨ k = 5 ∨ k = 6) with rfl | rfl | rfl | rfl | rfl | rfl <;> decide
    exact (g4 k this c hc).2
end Go.Hw
namespace Go.Proofs.YtjjacchnalemaaaDoor
open Go.Hw
theorem suitEnc_len {tag : Int} {L : List Smp} (hw : ∀ s ∈ L, s.Wf) : ((suitEnc tag L).getD []).length ≤ 3000000 := by
  unfold suitEnc
  split
  · rename_i hrise
    have hn : L.length ≤ 65535 := by
      unfold rising at hrise
      simp only [Bool.and_eq_true, decide_eq_true_eq] at hrise
      exact hrise.2
    have h1 := valuesEnc_len (tag := tag) (u := valsOf L) (by simpa [valsOf] using hn) (valsOf_lt hw)
    cases hv : valuesEnc tag (valsOf L) with
    | none => exact Nat.zero_le _
    | some b =>
      rw [hv] at h1
      show (suitBytes L b).length ≤ _
      have h2 := timesBits_len (timesOf L)
      have h3 := pack_len (timesBits (timesOf L))
      have h4 := vput_len (pack (timesBits (timesOf L))).length
      have h5 : (timesOf L).length = L.length := by simp [timesOf]
      have h6 : b.length ≤ 2000000 := h1
      unfold suitBytes
      rw [List.length_append, List.length_append]
      omega
  · exact Nat.zero_le _
end Go.Proofs.YtjjacchnalemaaaDoor
