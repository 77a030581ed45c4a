/- A store of a whole element into a row of its own. -/
import Derived.Test.YtjjacchnalemaaaDoorHe
import Derived.Test.YtjjacchnalemaaaDoorHs
namespace Go.Hw
theorem splice_take {α : Type} {cur vs : List α} {o N : Nat} (h : o + vs.length ≤ N) (hc : N ≤ cur.length) :
    (cur.take o ++ vs ++ cur.drop (o + vs.length)).take N = (cur.take N).take o ++ vs ++ (cur.take N).drop (o + vs.length) := by
  have h1 : (cur.take o).length = o := by rw [List.length_take]; omega
  rw [List.take_append, List.length_append, h1, List.take_of_length_le (by rw [List.length_append, h1]; omega), List.take_take, Nat.min_eq_left (by omega), List.drop_take]
theorem flat_splice {α : Type} {f : α → List Value} {sz : Nat} (hf : ∀ x, (f x).length = sz) (y : α) : ∀ (L : List α) (k : Nat), k < L.length → (L.flatMap f).take (k * sz) ++ f y ++ (L.flatMap f).drop (k * sz + (f y).length) = (L.set k y).flatMap f
  | [], k, h => by simp at h
  | a :: L, 0, h => by
    rw [Nat.zero_mul, List.take_zero, List.nil_append, Nat.zero_add, List.set_cons_zero, List.flatMap_cons, List.flatMap_cons, hf y, ← hf a, List.drop_left]
  | a :: L, k + 1, h => by
    rw [List.set_cons_succ, List.flatMap_cons, List.flatMap_cons, ← flat_splice hf y L k (by simpa using h)]
    have e1 : (k + 1) * sz = (f a).length + k * sz := by rw [hf, Nat.add_mul]; omega
    rw [e1, List.take_length_add_append, Nat.add_assoc, List.drop_length_add_append]
    simp only [List.append_assoc]
section
variable {P : Program} {e : Env} {w w0 : World} {K : Env → World → Prop} {l : List HProp}
variable {ty : TypeId} {pos : String} {af : Array Edge} {g : Option (Nat × Bool)}
theorem x_ownsetA {t T : TypeId} {z : List Value} {bytes : Nat} [hi : Inf P t z true bytes] {x y : Operand} {sz m c b o : Nat} {xs vs : List Value}
    (h : St w0 (Own T sz (some ⟨b, 0, none⟩) m c xs :: l) w) (hx : ev e x = .pointer (some ⟨b, o, none⟩)) (hy : ev e y = .agg vs.toArray) (hs : Nat.beq vs.length z.length = true) (ho : o + vs.length ≤ m * sz) (h1 : vs.all (·.oneCell') = true)
    (k : ∀ w', St w0 (Own T sz (some ⟨b, 0, none⟩) m c (xs.take o ++ vs ++ xs.drop (o + vs.length)) :: l) w' → K e w') : Ex P ⟨none, .store t x y, ty, pos, af, g⟩ e w K := by
  obtain ⟨h2, h3, ⟨h4, _⟩ | ⟨g, cur, h4, h5, h6, h7⟩⟩ := h.own_cases
  · cases h4
  · cases h4
    have hle : m * sz ≤ c * sz := Nat.mul_le_mul_right _ h3
    refine x_storeA 0 h7 hx hy rfl hs (by rw [Nat.ble_eq]; omega) rfl h1 fun w' h => k w' ?_
    simp only [List.set_cons_zero] at h
    refine St.own_mk' h ?_ (by rw [splice_take ho (by omega), h6]) h3
    rw [List.length_append, List.length_append, List.length_take, List.length_drop]
    omega
end
end Go.Hw
