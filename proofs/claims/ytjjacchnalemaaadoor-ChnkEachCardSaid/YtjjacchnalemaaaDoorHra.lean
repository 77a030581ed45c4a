/- Arguments that are slices of structs of numbers. -/
import Derived.Test.YtjjacchnalemaaaDoorHr
import Derived.Test.YtjjacchnalemaaaDoorHe
namespace Go.Hw
open Go.ChangeShapes Go.WideShapes Go.ChangeAt Go.RowKit

section
variable {H : Type} {enc : TypeId × Value → H} {P : Program} {W : World} {r : Reach} {b0 : Nat}
/-- One element: its cells are numbers. -/
theorem trod_ints {e : TypeId} {ks : List IntKind} [he : EqI P e ks] (hC : P.cellsOf e = ks.length) (h1 : ((P.fieldsOf e).toList.all fun f => P.cellsOf f.type == 1) = true) {base n : Nat} {spare : Nat → Bool} {held : Bool} {cs : List Value} {y : DataW H × List MemPlace}
    (h : DataW.trod enc P W base spare held n e cs = some y) : ∃ as : List Int, as.length = ks.length ∧ cs = ints ks as ∧ ∀ (j : Nat) k a, ks[j]? = some k → as[j]? = some a → (Lit.int k a).wf = true := by
  obtain ⟨fl, hu, hf⟩ := he.u
  obtain ⟨xs, m, _, _, hlen, hxl, hg⟩ := DataW.trod_struct hu h
  rw [hC] at hlen
  have hfl : fl.length = ks.length := by have := congrArg List.length hf; simpa using this
  have hfo : P.fieldsOf e = fl.toArray := by unfold Program.fieldsOf; rw [hu]
  rw [hfo] at h1
  have each : ∀ j, j < ks.length → ∃ a : Int, ∀ k, ks[j]? = some k → cs[j]? = some (.int k a) ∧ (Lit.int k a).wf = true := by
    intro j hj
    have hfj : fl[j]? = some (fl[j]'(by omega)) := List.getElem?_eq_getElem (by omega)
    have hff := congrArg (fun l => l[j]?) hf
    simp only [List.getElem?_map, hfj, Option.map_some, List.getElem?_zipIdx, List.getElem?_eq_getElem hj, Nat.zero_add, Option.some.injEq, Prod.mk.injEq] at hff
    obtain ⟨_, ho, ht⟩ := hff
    have hc1 : P.cellsOf (fl[j]'(by omega)).type = 1 := by
      have := List.all_eq_true.1 h1 _ (List.getElem_mem (show j < fl.length by omega))
      simpa using this
    have h2 := hg j (fl[j]'(by omega)) (by rw [List.getElem?_toArray]; exact hfj)
    rw [ho, hc1] at h2
    have hxj : xs[j]? = some (xs[j]'(by rw [hxl]; simpa using by omega)) := List.getElem?_eq_getElem _
    rw [hxj] at h2
    obtain ⟨a, h3, _, h4⟩ := DataW.trod_int ht h2
    refine ⟨a, fun k hk => ?_⟩
    rw [List.getElem?_eq_getElem hj] at hk
    cases hk
    refine ⟨?_, h4⟩
    have hcj : j < cs.length := by omega
    rw [List.getElem?_eq_getElem hcj]
    have h5 : List.take 1 (List.drop j cs) = [cs[j]] := by rw [List.drop_eq_getElem_cons hcj]; rfl
    rw [h5] at h3
    simpa using h3
  obtain ⟨f, hf'⟩ := Go.Deep.choose_lt each
  refine ⟨(List.range ks.length).map f, by simp, ?_, ?_⟩
  · apply List.ext_getElem?
    intro j
    rw [ints_get]
    by_cases hj : j < ks.length
    · rw [(hf' j hj _ (List.getElem?_eq_getElem hj)).1]
      simp [hj]
    · rw [List.getElem?_eq_none (by omega), List.getElem?_eq_none (show ks.length ≤ j by omega)]
      rfl
  · intro j k a hk ha
    have hj : j < ks.length := (List.getElem?_eq_some_iff.1 hk).1
    simp [hj] at ha
    subst ha
    exact (hf' j hj k hk).2
theorem arg_structs {α : Type} [Inhabited α] {t e : TypeId} {ks : List IntKind} [he : EqI P e ks] {v : Value} {d : DataW H} {p : List MemPlace} (cf : α → List Value) (good : α → Prop) (hcf : ∀ x, (cf x).length = ks.length)
    (hmk : ∀ as : List Int, as.length = ks.length → (∀ (j : Nat) k a, ks[j]? = some k → as[j]? = some a → (Lit.int k a).wf = true) → ∃ x, cf x = ints ks as ∧ good x)
    (ht : P.underlying t = some (.slice e)) (hC : P.cellsOf e = ks.length) (hks : 0 < ks.length) (h1 : ((P.fieldsOf e).toList.all fun f => P.cellsOf f.type == 1) = true)
    (hval : Value.okWide P W r b0 t v) (h : DataW.Trod enc P W 0 (fun _ => true) true t v d p) (hlt : ∀ x ∈ p, x.block < W.heap.size) :
    ∃ (a : Option Addr) (n c : Nat) (xs : List α), v = .slice a n c ∧ n ≤ maxLen ∧ (∀ x ∈ xs, good x) ∧ Rd W ks.length a n (xs.flatMap cf) ∧ ∀ b o, a = some ⟨b, o, none⟩ → 0 < n → b < W.heap.size := by
  obtain ⟨a0, len, cap, rfl⟩ := okWide_slice ht hval
  obtain ⟨fuel, hf⟩ := h
  rcases Go.Deep.open_slice ht hf with ⟨hcs, hx⟩ | ⟨a, len', cap', m, n, D, Pl, hcs, _, hl, hm, hmm, hx, hel⟩
  · simp [Value.cells] at hcs
    obtain ⟨rfl, rfl, rfl⟩ := hcs
    exact ⟨none, 0, 0, [], rfl, Nat.zero_le _, (fun _ h => by cases h), ⟨by simp, .inl rfl⟩, fun _ _ h => by cases h⟩
  · simp [Value.cells] at hcs
    obtain ⟨rfl, rfl, rfl⟩ := hcs
    simp only [Prod.mk.injEq] at hx
    obtain ⟨rfl, rfl⟩ := hx
    simp only [if_true] at hmm
    subst hmm
    have each : ∀ i, i < len → ∃ x : α, good x ∧ ∀ j v, (cf x)[j]? = some v → W.cell? ((a.add (i * ks.length)).add j) = some v := by
      intro i hi
      obtain ⟨cs', hc, htr⟩ := hel i (by omega)
      rw [hC] at hc
      obtain ⟨as, h2, h3, h4⟩ := trod_ints hC h1 htr
      obtain ⟨x, h5, h6⟩ := hmk as h2 h4
      refine ⟨x, h6, fun j v hj => ?_⟩
      obtain ⟨_, hcl, hat⟩ := World.cells?_some hc
      have hj' : j < ks.length := by have := (List.getElem?_eq_some_iff.1 hj).1; rwa [hcf] at this
      rw [hat j hj', h3, ← h5]
      exact hj
    obtain ⟨f, hf'⟩ := Go.Deep.choose_lt each
    refine ⟨some a, len, _, (List.range len).map f, rfl, Nat.le_trans hl hm, ?_, ⟨by rw [flat_len hcf]; simp, ?_⟩, ?_⟩
    · intro x hx
      simp only [List.mem_map, List.mem_range] at hx
      obtain ⟨i, hi, rfl⟩ := hx
      exact (hf' i hi).1
    · rcases Nat.eq_zero_or_pos len with h0 | h0
      · exact .inl h0
      · obtain ⟨b, off, spot⟩ := a
        have hc0 := (hf' 0 h0).2 0 _ (List.getElem?_eq_getElem (show 0 < (cf (f 0)).length by rw [hcf]; exact hks))
        have hspot : spot = none := by simpa [Addr.add] using World.cell?_spot hc0
        subst hspot
        refine .inr ⟨b, off, rfl, fun j v hj => ?_⟩
        have hjl : j < len * ks.length := by
          have := (List.getElem?_eq_some_iff.1 hj).1
          rw [flat_len hcf] at this
          simpa using this
        have hi : j / ks.length < len := (Nat.div_lt_iff_lt_mul hks).2 hjl
        have hjj : j = j / ks.length * ks.length + j % ks.length := by rw [Nat.mul_comm]; exact (Nat.div_add_mod _ _).symm
        have hmod : j % ks.length < (cf (f (j / ks.length))).length := by rw [hcf]; exact Nat.mod_lt _ hks
        have hv := flat_get hcf ((List.range len).map f) (j / ks.length) (f (j / ks.length)) (by simp [hi]) (j % ks.length) _ (List.getElem?_eq_getElem hmod)
        rw [← hjj, hj] at hv
        cases hv
        have := (hf' _ hi).2 _ _ (List.getElem?_eq_getElem hmod)
        rw [Go.Deep.add_add, ← hjj, Addr.add_mid] at this
        exact this
    · intro b o hb hn
      cases hb
      exact hlt (.cell b o) (List.mem_append_left _ (MemPlace.mem_row.2 ⟨0, by rw [hC]; exact Nat.mul_pos (by omega) hks, by simp⟩))
theorem arg_smps {t e : TypeId} [he : EqI P e [.i64, .u64]] {v : Value} {d : DataW H} {p : List MemPlace} (ht : P.underlying t = some (.slice e)) (hC : P.cellsOf e = 2) (h1 : ((P.fieldsOf e).toList.all fun f => P.cellsOf f.type == 1) = true)
    (hval : Value.okWide P W r b0 t v) (h : DataW.Trod enc P W 0 (fun _ => true) true t v d p) (hlt : ∀ x ∈ p, x.block < W.heap.size) :
    ∃ (a : Option Addr) (n c : Nat) (xs : List Smp), v = .slice a n c ∧ n ≤ maxLen ∧ (∀ x ∈ xs, (Lit.int .i64 x.T).wf = true ∧ (Lit.int .u64 x.V).wf = true) ∧ Rd W 2 a n (smpsV xs) ∧ ∀ b o, a = some ⟨b, o, none⟩ → 0 < n → b < W.heap.size := by
  haveI : Inhabited Smp := ⟨⟨0, 0⟩⟩
  exact arg_structs (ks := [.i64, .u64]) Smp.cells (fun x => (Lit.int .i64 x.T).wf = true ∧ (Lit.int .u64 x.V).wf = true) smp_len (fun as h2 h3 => by
    match as, h2 with
    | [T, V], _ => exact ⟨⟨T, V⟩, rfl, h3 0 _ _ rfl rfl, h3 1 _ _ rfl rfl⟩) ht hC (by decide) h1 hval h hlt
end
end Go.Hw
