/- Arguments that are slices of slices of structs of numbers, with what they weigh. -/
import Derived.Test.YtgahjjihfibbnaaHra
import Derived.SizedLaws
namespace Go.Hw
open Go.ChangeShapes Go.WideShapes Go.ChangeAt Go.RowKit

section
variable {H : Type} {enc : TypeId × Value → H} {P : Program} {W : World} {r : Reach} {b0 : Nat}
/-- A slice of structs, wherever its cell stands. -/
theorem trod_structs {α : Type} [Inhabited α] {t e : TypeId} {ks : List IntKind} [he : EqI P e ks] {fuel : Nat} {cs : List Value} {d : DataW H} {p : List MemPlace} (cf : α → List Value) (good : α → Prop) (hcf : ∀ x, (cf x).length = ks.length)
    (hmk : ∀ as : List Int, as.length = ks.length → (∀ (j : Nat) k a, ks[j]? = some k → as[j]? = some a → (Lit.int k a).wf = true) → ∃ x, cf x = ints ks as ∧ good x)
    (ht : P.underlying t = some (.slice e)) (hC : P.cellsOf e = ks.length) (hks : 0 < ks.length) (h1 : ((P.fieldsOf e).toList.all fun f => P.cellsOf f.type == 1) = true)
    (hf : DataW.trod enc P W 0 (fun _ => true) true fuel t cs = some (d, p)) (hlt : ∀ x ∈ p, x.block < W.heap.size) :
    ∃ (a : Option Addr) (n c : Nat) (xs : List α), cs = [.slice a n c] ∧ n ≤ c ∧ (∀ x ∈ xs, good x) ∧ Rd W ks.length a n (xs.flatMap cf) ∧ (∀ b o, a = some ⟨b, o, none⟩ → 0 < n → b < W.heap.size) ∧ (∀ B, (d.weights P t).all (· ≤ B) = true → n * P.bytesOf e ≤ B) := by
  rcases Go.Deep.open_slice ht hf with ⟨hcs, hx⟩ | ⟨a, len, cap, m, n, D, Pl, hcs, _, hl, hm, hmm, hx, hel⟩
  · exact ⟨none, 0, 0, [], hcs, Nat.le_refl _, (fun _ h => by cases h), ⟨by simp, .inl rfl⟩, (fun _ _ h => by cases h), fun _ _ => by simp⟩
  · simp only [Prod.mk.injEq] at hx
    obtain ⟨rfl, rfl⟩ := hx
    simp only [if_true] at hmm
    subst hmm
    have each : ∀ i, i < len → ∃ x : α, good x ∧ ∀ j v, (cf x)[j]? = some v → W.cell? ((a.add (i * ks.length)).add j) = some v := by
      intro i hi
      obtain ⟨cs', hc, htr⟩ := hel i (by omega)
      rw [hC] at hc
      obtain ⟨as, h2, h3, h4⟩ := trod_ints hC h1 htr
      obtain ⟨x, h5, h6⟩ := hmk as h2 h4
      refine ⟨x, h6, fun j v hj => ?_⟩
      obtain ⟨_, hcl, hat⟩ := World.cells?_some hc
      have hj' : j < ks.length := by have := (List.getElem?_eq_some_iff.1 hj).1; rwa [hcf] at this
      rw [hat j hj', h3, ← h5]
      exact hj
    obtain ⟨f, hf'⟩ := Go.Deep.choose_lt each
    refine ⟨some a, len, _, (List.range len).map f, hcs, hl, ?_, ⟨by rw [flat_len hcf]; simp, ?_⟩, ?_, ?_⟩
    · intro x hx
      simp only [List.mem_map, List.mem_range] at hx
      obtain ⟨i, hi, rfl⟩ := hx
      exact (hf' i hi).1
    · rcases Nat.eq_zero_or_pos len with h0 | h0
      · exact .inl h0
      · obtain ⟨b, off, spot⟩ := a
        have hc0 := (hf' 0 h0).2 0 _ (List.getElem?_eq_getElem (show 0 < (cf (f 0)).length by rw [hcf]; exact hks))
        have hspot : spot = none := by simpa [Addr.add] using World.cell?_spot hc0
        subst hspot
        refine .inr ⟨b, off, rfl, fun j v hj => ?_⟩
        have hjl : j < len * ks.length := by
          have := (List.getElem?_eq_some_iff.1 hj).1
          rw [flat_len hcf] at this
          simpa using this
        have hi : j / ks.length < len := (Nat.div_lt_iff_lt_mul hks).2 hjl
        have hjj : j = j / ks.length * ks.length + j % ks.length := by rw [Nat.mul_comm]; exact (Nat.div_add_mod _ _).symm
        have hmod : j % ks.length < (cf (f (j / ks.length))).length := by rw [hcf]; exact Nat.mod_lt _ hks
        have hv := flat_get hcf ((List.range len).map f) (j / ks.length) (f (j / ks.length)) (by simp [hi]) (j % ks.length) _ (List.getElem?_eq_getElem hmod)
        rw [← hjj, hj] at hv
        cases hv
        have := (hf' _ hi).2 _ _ (List.getElem?_eq_getElem hmod)
        rw [Go.Deep.add_add, ← hjj, Addr.add_mid] at this
        exact this
    · intro b o hb hn
      cases hb
      exact hlt (.cell b o) (List.mem_append_left _ (MemPlace.mem_row.2 ⟨0, by rw [hC]; exact Nat.mul_pos (by omega) hks, by simp⟩))
    · intro B hB
      have := List.all_eq_true.1 hB ((((List.range len).map D).length + ((List.range (_ - len)).map fun j => D (len + j)).length) * P.bytesOf e) (by rw [DataW.weights]; simp only [ht]; exact List.mem_cons_self ..)
      simp only [List.length_map, List.length_range, decide_eq_true_eq] at this
      exact Nat.le_trans (Nat.mul_le_mul_right _ (by omega)) this

/-- A row of samples, as a slice of slices has it. -/
structure RowS where
  a : Option Addr
  n : Nat
  c : Nat
  xs : List Smp
instance : Inhabited RowS := ⟨⟨none, 0, 0, []⟩⟩
structure RowS.Ok (P : Program) (W : World) (e : TypeId) (B : Nat) (r : RowS) : Prop where
  le : r.n ≤ r.c
  rd : Rd W 2 r.a r.n (smpsV r.xs)
  old : ∀ b o, r.a = some ⟨b, o, none⟩ → 0 < r.n → b < W.heap.size
  size : r.n * P.bytesOf e ≤ B
theorem weightsAll_mem {P : Program} {e : TypeId} {B : Nat} : ∀ {l : List (DataW H)} {d : DataW H}, (DataW.weightsAll P e l).all (· ≤ B) = true → d ∈ l → (d.weights P e).all (· ≤ B) = true
  | x :: l, d, h, hd => by
    rw [DataW.weightsAll, List.all_append, Bool.and_eq_true] at h
    rcases List.mem_cons.1 hd with rfl | hd
    · exact h.1
    · exact weightsAll_mem h.2 hd
theorem arg_rows {t u e : TypeId} [he : EqI P e [.i64, .u64]] {v : Value} {d : DataW H} {p : List MemPlace} {B : Nat} (ht : P.underlying t = some (.slice u)) (hu : P.underlying u = some (.slice e)) (hcu : P.cellsOf u = 1) (hC : P.cellsOf e = 2) (h1 : ((P.fieldsOf e).toList.all fun f => P.cellsOf f.type == 1) = true)
    (hval : Value.okWide P W r b0 t v) (h : DataW.Trod enc P W 0 (fun _ => true) true t v d p) (hlt : ∀ x ∈ p, x.block < W.heap.size) (hB : (d.weights P t).all (· ≤ B) = true) :
    ∃ (a : Option Addr) (n c : Nat) (rows : List RowS), v = .slice a n c ∧ n ≤ maxLen ∧ (∀ x ∈ rows, x.Ok P W e B) ∧ Rd W 1 a n (rows.map fun x => .slice x.a x.n x.c) ∧ ∀ b o, a = some ⟨b, o, none⟩ → 0 < n → b < W.heap.size := by
  haveI : Inhabited Smp := ⟨⟨0, 0⟩⟩
  obtain ⟨a0, len, cap, rfl⟩ := okWide_slice ht hval
  obtain ⟨fuel, hf⟩ := h
  rcases Go.Deep.open_slice ht hf with ⟨hcs, hx⟩ | ⟨a, len', cap', m, n, D, Pl, hcs, _, hl, hm, hmm, hx, hel⟩
  · simp [Value.cells] at hcs
    obtain ⟨rfl, rfl, rfl⟩ := hcs
    exact ⟨none, 0, 0, [], rfl, Nat.zero_le _, (fun _ h => by cases h), ⟨by simp, .inl rfl⟩, fun _ _ h => by cases h⟩
  · simp [Value.cells] at hcs
    obtain ⟨rfl, rfl, rfl⟩ := hcs
    simp only [Prod.mk.injEq] at hx
    obtain ⟨rfl, rfl⟩ := hx
    simp only [if_true] at hmm
    subst hmm
    rw [DataW.weights] at hB
    simp only [ht, List.all_cons, List.all_append, Bool.and_eq_true] at hB
    have each : ∀ i, i < len → ∃ x : RowS, x.Ok P W e B ∧ W.cell? (a.add i) = some (.slice x.a x.n x.c) := by
      intro i hi
      obtain ⟨cs', hc, htr⟩ := hel i (by omega)
      rw [hcu, Nat.mul_one] at hc
      obtain ⟨_, hcl, hat⟩ := World.cells?_some hc
      have hw := weightsAll_mem hB.2.1 (d := D i) (List.mem_map.2 ⟨i, by simpa using hi, rfl⟩)
      obtain ⟨a', n', c', xs, h2, h3, _, h4, h5, h6⟩ := trod_structs (ks := [.i64, .u64]) Smp.cells (fun _ => True) smp_len (fun as h2 h3 => by
        match as, h2 with
        | [T, V], _ => exact ⟨⟨T, V⟩, rfl, trivial⟩) hu hC (by decide) h1 htr (fun x hx => hlt x (List.mem_append_right _ (List.mem_flatMap.2 ⟨i, by simp; omega, hx⟩)))
      refine ⟨⟨a', n', c', xs⟩, ⟨h3, h4, h5, h6 B hw⟩, ?_⟩
      have := hat 0 (by decide)
      rw [h2] at this
      simpa [Addr.add] using this
    obtain ⟨f, hf'⟩ := Go.Deep.choose_lt each
    refine ⟨some a, len, _, (List.range len).map f, rfl, Nat.le_trans hl hm, ?_, ⟨by simp, ?_⟩, ?_⟩
    · intro x hx
      simp only [List.mem_map, List.mem_range] at hx
      obtain ⟨i, hi, rfl⟩ := hx
      exact (hf' i hi).1
    · rcases Nat.eq_zero_or_pos len with h0 | h0
      · exact .inl h0
      · obtain ⟨b, off, spot⟩ := a
        have hspot : spot = none := by simpa [Addr.add] using World.cell?_spot (hf' 0 h0).2
        subst hspot
        refine .inr ⟨b, off, rfl, fun j v hj => ?_⟩
        have hjl : j < len := by have := (List.getElem?_eq_some_iff.1 hj).1; simpa using this
        have := (hf' j hjl).2
        rw [Addr.add_mid] at this
        rw [this, ← hj]
        simp [hjl]
    · intro b o hb hn
      cases hb
      exact hlt (.cell b o) (List.mem_append_left _ (MemPlace.mem_row.2 ⟨0, by rw [hcu]; omega, by simp⟩))
theorem weights_arg {ts : List TypeId} {ds : List (DataW H)} (h : (DataW.weightsEach P ts ds).all (· ≤ reachBytes) = true) {j : Nat} {t : TypeId} {d : DataW H} (ht : ts[j]? = some t) (hd : ds[j]? = some d) : (d.weights P t).all (· ≤ reachBytes) = true :=
  List.all_eq_true.2 fun n hn => List.all_eq_true.1 h n (DataW.weights_mem_each ht hd n hn)
end
end Go.Hw
