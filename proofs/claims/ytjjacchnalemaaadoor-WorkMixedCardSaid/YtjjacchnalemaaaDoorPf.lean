/- Rows that rise, and rows that do not, in plain Lean. -/
import Derived.Test.YtjjacchnalemaaaDoorPe
namespace Go.Hw

theorem risesA_iff : ∀ (l : List Smp) (t : Int), risesA t l = true ↔ (∀ s ∈ l, t < s.T) ∧ rises l = true
  | [], t => by simp [risesA, rises]
  | s :: r, t => by
    rw [risesA, Bool.and_eq_true, decide_eq_true_eq]
    have ih := risesA_iff r s.T
    rw [rises, ih]
    constructor
    · rintro ⟨h1, h2, h3⟩
      refine ⟨fun x hx => ?_, h2, h3⟩
      rcases List.mem_cons.1 hx with rfl | hx
      · exact h1
      · have := h2 x hx; omega
    · rintro ⟨h1, h2, h3⟩
      exact ⟨h1 s (List.mem_cons_self ..), h2, h3⟩
theorem rises_iff : ∀ l : List Smp, rises l = true ↔ ∀ (i j : Nat) (x y : Smp), l[i]? = some x → l[j]? = some y → i < j → x.T < y.T
  | [] => by simp [rises]
  | s :: r => by
    rw [rises, risesA_iff, rises_iff r]
    constructor
    · rintro ⟨h1, h2⟩ i j x y hi hj hij
      cases j with
      | zero => omega
      | succ j =>
        rw [List.getElem?_cons_succ] at hj
        cases i with
        | zero => simp at hi; subst hi; exact h1 y (List.mem_of_getElem? hj)
        | succ i => rw [List.getElem?_cons_succ] at hi; exact h2 i j x y hi hj (by omega)
    · intro h
      refine ⟨fun x hx => ?_, fun i j x y hi hj hij => h (i + 1) (j + 1) x y (by simpa using hi) (by simpa using hj) (by omega)⟩
      obtain ⟨k, hk⟩ := List.getElem?_of_mem hx
      exact h 0 (k + 1) s x rfl (by simpa using hk) (by omega)
/-- Two samples exchanged: it rises no more. -/
theorem swap_rough {l : List Smp} (h : rises l = true) {a b : Nat} {x y : Smp} (ha : l[a]? = some x) (hb : l[b]? = some y) (hab : a ≠ b) : rises ((l.set a y).set b x) = false := by
  have h0 := (rises_iff l).1 h
  cases hr : rises ((l.set a y).set b x) with
  | false => rfl
  | true =>
    exfalso
    have h1 := (rises_iff _).1 hr
    have la := (List.getElem?_eq_some_iff.1 ha).1
    have lb := (List.getElem?_eq_some_iff.1 hb).1
    have ga : ((l.set a y).set b x)[a]? = some y := by rw [List.getElem?_set, if_neg (Ne.symm hab), List.getElem?_set, if_pos rfl, if_pos la]
    have gb : ((l.set a y).set b x)[b]? = some x := by rw [List.getElem?_set, if_pos rfl, if_pos (by simpa using lb)]
    rcases Nat.lt_or_ge a b with hlt | hge
    · have c1 := h0 a b x y ha hb hlt
      have c2 := h1 a b y x ga gb hlt
      omega
    · have c1 := h0 b a y x hb ha (by omega)
      have c2 := h1 b a x y gb ga (by omega)
      omega
theorem same_rough {l : List Smp} {a : Nat} {y : Smp} (ha : a < l.length) (hl : 2 ≤ l.length) (hb : l[(a + 1) % l.length]? = some y) : rises (l.set a y) = false := by
  cases hr : rises (l.set a y) with
  | false => rfl
  | true =>
    exfalso
    have h1 := (rises_iff _).1 hr
    have ga : (l.set a y)[a]? = some y := by rw [List.getElem?_set, if_pos rfl, if_pos ha]
    have hne : a ≠ (a + 1) % l.length := by
      rcases Nat.lt_or_ge (a + 1) l.length with h | h
      · rw [Nat.mod_eq_of_lt h]; omega
      · have : a + 1 = l.length := by omega
        rw [this, Nat.mod_self]; omega
    have gb : (l.set a y)[(a + 1) % l.length]? = some y := by rw [List.getElem?_set, if_neg hne, hb]
    rcases Nat.lt_or_ge a ((a + 1) % l.length) with h | h
    · have := h1 _ _ y y ga gb h; omega
    · have := h1 _ _ y y gb ga (by omega); omega
theorem suitEnc_rough {l : List Smp} (h : rises l = false) (tag : Int) : suitEnc tag l = none := by
  unfold suitEnc rising
  rw [h]; rfl
theorem suitBest_rough {l : List Smp} (h : rises l = false) : suitBest l = (0, []) := by
  unfold suitBest
  simp only [bestA, suitEnc_rough h]
theorem rises_snoc {l : List Smp} {s : Smp} (h : rises l = true) (hs : ∀ x, l.getLast? = some x → x.T < s.T) : rises (l ++ [s]) = true := by
  rw [rises_iff] at h ⊢
  intro i j x y hi hj hij
  have hjl := (List.getElem?_eq_some_iff.1 hj).1
  rw [List.length_append, List.length_singleton] at hjl
  rw [List.getElem?_append_left (show i < l.length by omega)] at hi
  rcases Nat.lt_or_ge j l.length with h1 | h1
  · rw [List.getElem?_append_left h1] at hj
    exact h i j x y hi hj hij
  · obtain rfl : j = l.length := by omega
    rw [List.getElem?_append_right (Nat.le_refl _), Nat.sub_self] at hj
    simp at hj
    subst hj
    have hpos : 0 < l.length := by omega
    have hlast : l.getLast? = some (l[l.length - 1]'(by omega)) := by rw [List.getLast?_eq_getElem?, List.getElem?_eq_getElem]
    have h2 := hs _ hlast
    rcases Nat.lt_or_ge i (l.length - 1) with h3 | h3
    · have := h i (l.length - 1) x _ hi (List.getElem?_eq_getElem (by omega)) h3
      omega
    · obtain rfl : i = l.length - 1 := by omega
      rw [List.getElem?_eq_getElem (by omega)] at hi
      simp at hi
      rw [← hi]; exact h2
end Go.Hw
