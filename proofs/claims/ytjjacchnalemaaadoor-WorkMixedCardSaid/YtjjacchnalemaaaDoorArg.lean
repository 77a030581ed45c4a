/- Arguments that are rows of numbers, as the walks want them. -/
import Derived.Test.YtjjacchnalemaaaDoorHr
import Derived.Test.YtjjacchnalemaaaDoorSl
import Derived.Test.YtjjacchnalemaaaDoorHu
import Derived.Test.YtjjacchnalemaaaDoorRow
namespace Go.Hw
open Go.ChangeShapes Go.WideShapes Go.ChangeAt Go.RowKit
section
variable {P : Program} {W : World} {H : Type} {enc : TypeId × Value → H} {r : Reach} {b0 : Nat}
theorem maxLen_le {n : Nat} (h : n ≤ maxLen) : n ≤ 9223372036854775807 := Nat.le_trans h (by decide)
theorem nums_u64 : ∀ {zs : List Int}, (∀ z ∈ zs, (Lit.int .u64 z).wf = true) → ∃ us : List Nat, (∀ x ∈ us, x < 18446744073709551616) ∧ zs.map (Value.int .u64) = u64V us
  | [], _ => ⟨[], (fun _ h => by cases h), rfl⟩
  | z :: zs, h => by
    obtain ⟨us, hu, hb⟩ := nums_u64 (zs := zs) fun y hy => h y (List.mem_cons_of_mem _ hy)
    have hz : 0 ≤ z ∧ z ≤ 18446744073709551615 := by simpa [Lit.wf, IntKind.min, IntKind.max, IntKind.signed, IntKind.bits] using h z (List.mem_cons_self ..)
    refine ⟨z.toNat :: us, fun x hx => ?_, ?_⟩
    · rcases List.mem_cons.1 hx with rfl | hx
      · omega
      · exact hu x hx
    · simp only [List.map_cons, hb, u64V]
      congr 2
      omega
theorem arg_u64s {t e : TypeId} {v : Value} {d : DataW H} {p : List MemPlace} (ht : P.underlying t = some (.slice e)) (he : P.underlying e = some (.int .u64)) (hc : P.cellsOf e = 1)
    (hval : Value.okWide P W r b0 t v) (h : DataW.Trod enc P W 0 (fun _ => true) true t v d p) (hlt : ∀ x ∈ p, x.block < W.heap.size) :
    ∃ (a : Option Addr) (c : Nat) (us : List Nat), v = .slice a us.length c ∧ us.length ≤ 9223372036854775807 ∧ (∀ x ∈ us, x < 18446744073709551616) ∧ Reads W [] 1 a us.length (u64V us) := by
  obtain ⟨a, n, c, zs, h1, h2, h3, h4, h5⟩ := arg_nums ht he hc hval h hlt
  obtain ⟨us, hu, hb⟩ := nums_u64 h3
  rw [hb] at h4
  have hl : us.length = n := by have := h4.1; simpa [u64V] using this
  subst hl
  exact ⟨a, c, us, h1, maxLen_le h2, hu, Reads.old h4 h5⟩
theorem arg_i64s {t e : TypeId} {v : Value} {d : DataW H} {p : List MemPlace} (ht : P.underlying t = some (.slice e)) (he : P.underlying e = some (.int .i64)) (hc : P.cellsOf e = 1)
    (hval : Value.okWide P W r b0 t v) (h : DataW.Trod enc P W 0 (fun _ => true) true t v d p) (hlt : ∀ x ∈ p, x.block < W.heap.size) :
    ∃ (a : Option Addr) (c : Nat) (xs : List Int), v = .slice a xs.length c ∧ xs.length ≤ 9223372036854775807 ∧ (∀ x ∈ xs, I64 x) ∧ Reads W [] 1 a xs.length (i64V xs) := by
  obtain ⟨a, n, c, zs, h1, h2, h3, h4, h5⟩ := arg_nums ht he hc hval h hlt
  have hl : zs.length = n := by have := h4.1; simpa using this
  subst hl
  refine ⟨a, c, zs, h1, maxLen_le h2, fun x hx => ?_, Reads.old h4 h5⟩
  have := h3 x hx
  simp [Lit.wf, IntKind.min, IntKind.max, IntKind.signed, IntKind.bits] at this
  unfold I64
  omega
end
end Go.Hw
