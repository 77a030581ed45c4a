/- Slices that are read: pieces of slices; what stays readable while memory grows. -/
import Derived.Test.YtjjacchnalemaaaDoorHv
namespace Go.Hw
/-- The address of a piece of a slice. -/
def adv (a : Option Addr) (off : Nat) (same : Bool) : Option Addr := bif same then a else a.map fun x => x.add off
section
variable {P : Program} {e : Env} {w : World} {d : Option Nat} {ty : TypeId} {pos : String} {af : Array Edge} {g : Option (Nat × Bool)}
theorem q_tail {t T : TypeId} [ht : Und P t (.slice T)] {z : List Value} {agg : Bool} {bytes : Nat} [hi : Inf P T z agg bytes] {x y : Operand} {a : Option Addr} {m c i : Nat} {k : IntKind}
    (hx : ev e x = .slice a m c) (hy : ev e y = .int k (i : Int)) (h : i ≤ m) : Qv P e ⟨d, .slice t x (some y) none none, ty, pos, af, g⟩ w (.slice (adv a (i * z.length) (Nat.beq c i)) (m - i) (c - i)) := by
  unfold Qv
  have hz := hi.sizeOf w
  have e2 : (Instr.sliceBound (.int k (i : Int)) m .sliceB).run P w = .ok i w := by
    simp [Instr.sliceBound, asIntOf, h]
  have e3 : (Instr.sliceBounds true m c (some (.int k (i : Int))) none none).run P w = .ok (i, m, c) w := by
    simp [Instr.sliceBounds, e2]
  have key : (Instr.sliceAt t (.slice a m c) (some (.int k (i : Int))) none none).run P w = .ok (.slice (adv a (i * z.length) (Nat.beq c i)) (m - i) (c - i)) w := by
    simp [Instr.sliceAt, Instr.slice, run_underlying ht.h, e3, hz, adv]
  simp only [execOp, hx, hy, Option.map_none, Option.map_some, Sem.run_bind, key, Result.andThen_ok]; rfl
theorem q_cut {t T : TypeId} [ht : Und P t (.slice T)] {z : List Value} {agg : Bool} {bytes : Nat} [hi : Inf P T z agg bytes] {x y y' : Operand} {a : Option Addr} {m c i j : Nat} {k k' : IntKind}
    (hx : ev e x = .slice a m c) (hy : ev e y = .int k (i : Int)) (hy' : ev e y' = .int k' (j : Int)) (h : i ≤ j) (hj : j ≤ c) : Qv P e ⟨d, .slice t x (some y) (some y') none, ty, pos, af, g⟩ w (.slice (adv a (i * z.length) (Nat.beq c i)) (j - i) (c - i)) := by
  unfold Qv
  have hz := hi.sizeOf w
  have e1 : (Instr.sliceBound (.int k' (j : Int)) c .sliceAcap).run P w = .ok j w := by
    simp [Instr.sliceBound, asIntOf, hj]
  have e2 : (Instr.sliceBound (.int k (i : Int)) j .sliceB).run P w = .ok i w := by
    simp [Instr.sliceBound, asIntOf, h]
  have e3 : (Instr.sliceBounds true m c (some (.int k (i : Int))) (some (.int k' (j : Int))) none).run P w = .ok (i, j, c) w := by
    simp [Instr.sliceBounds, e1, e2]
  have key : (Instr.sliceAt t (.slice a m c) (some (.int k (i : Int))) (some (.int k' (j : Int))) none).run P w = .ok (.slice (adv a (i * z.length) (Nat.beq c i)) (j - i) (c - i)) w := by
    simp [Instr.sliceAt, Instr.slice, run_underlying ht.h, e3, hz, adv]
  simp only [execOp, hx, hy, hy', Option.map_none, Option.map_some, Sem.run_bind, key, Result.andThen_ok]; rfl
end
section
variable {w0 w : World} {l : List HProp} {sz n c : Nat} {a : Option Addr} {xs : List Value}
theorem Rd.cut (h : Rd w sz a n xs) {i j : Nat} (hij : i ≤ j) (hj : j ≤ n) (hc : n ≤ c) : Rd w sz (adv a (i * sz) (Nat.beq c i)) (j - i) ((xs.drop (i * sz)).take ((j - i) * sz)) := by
  have hl := h.1
  refine ⟨?_, ?_⟩
  · rw [List.length_take, List.length_drop, hl, ← Nat.sub_mul]
    exact Nat.min_eq_left (Nat.mul_le_mul_right _ (by omega))
  · rcases Nat.eq_zero_or_pos (j - i) with h0 | h0
    · exact .inl h0
    · rcases h.2 with h1 | ⟨b, o, rfl, hat⟩
      · omega
      · have hb : Nat.beq c i = false := by
          cases hb : Nat.beq c i with
          | false => rfl
          | true => have := Nat.eq_of_beq_eq_true hb; omega
        refine .inr ⟨b, o + i * sz, by rw [hb]; simp [adv, Addr.add], fun k v hk => ?_⟩
        rw [List.getElem?_take] at hk
        split at hk
        · rw [List.getElem?_drop] at hk
          have := hat _ v hk
          rwa [← Nat.add_assoc] at this
        · cases hk
theorem Rd.tail (h : Rd w sz a n xs) {i : Nat} (hi : i ≤ n) (hc : n ≤ c) : Rd w sz (adv a (i * sz) (Nat.beq c i)) (n - i) (xs.drop (i * sz)) := by
  have := h.cut hi (Nat.le_refl _) hc
  rwa [List.take_of_length_le (by rw [List.length_drop, h.1, ← Nat.sub_mul]; exact Nat.le_refl _)] at this
theorem St.drops : ∀ {L : List HProp} {l : List HProp}, St w0 (L ++ l) w → St w0 l w
  | [], _, h => h
  | _ :: L, _, h => St.drops (L := L) h.drop
/-- It reads so, whatever else is added. -/
def Reads (w0 : World) (l : List HProp) (sz : Nat) (a : Option Addr) (n : Nat) (xs : List Value) : Prop := ∀ L w', St w0 (L ++ l) w' → Rd w' sz a n xs
theorem Reads.rd (h : Reads w0 l sz a n xs) : ∀ w', St w0 l w' → Rd w' sz a n xs := fun w' h' => h [] w' h'
theorem Reads.at_ (h : Reads w0 l sz a n xs) (h' : St w0 l w) : Rd w sz a n xs := h [] w h'
theorem Reads.more (h : Reads w0 l sz a n xs) (M : List HProp) : Reads w0 (M ++ l) sz a n xs := fun L w' h' => h (L ++ M) w' (by rw [List.append_assoc]; exact h')
theorem Reads.cons (h : Reads w0 l sz a n xs) {Q : HProp} : Reads w0 (Q :: l) sz a n xs := h.more [Q]
theorem Reads.own {T : Nat} : Reads w0 (Own T sz a n c xs :: l) sz a n xs := fun _ _ h' => h'.drops.own_rd
theorem Reads.pt {b m : Nat} {cur : List Value} {T : TypeId} (hl : xs.length = n * sz) (hc : cur.take xs.length = xs) : Reads w0 (pt b (.cells cur.toArray T (0, 0)) :: l) sz (some ⟨b, 0, none⟩) n xs := fun _ _ h' =>
  ⟨hl, .inr ⟨b, 0, rfl, at_of (h'.drops.b 0 rfl) (by rw [List.drop_zero, hc])⟩⟩
theorem Reads.nil : Reads w0 l sz none 0 [] := fun _ _ _ => ⟨by simp, .inl rfl⟩
theorem Reads.old (hr : Rd w0 sz a n xs) (hb : ∀ b o, a = some ⟨b, o, none⟩ → 0 < n → b < w0.heap.size) : Reads w0 l sz a n xs := fun _ _ h' => Rd.old h' hr hb
theorem Reads.cut (h : Reads w0 l sz a n xs) {i j : Nat} (hij : i ≤ j) (hj : j ≤ n) (hc : n ≤ c) : Reads w0 l sz (adv a (i * sz) (Nat.beq c i)) (j - i) ((xs.drop (i * sz)).take ((j - i) * sz)) := fun L w' h' => (h L w' h').cut hij hj hc
theorem Reads.tail (h : Reads w0 l sz a n xs) {i : Nat} (hi : i ≤ n) (hc : n ≤ c) : Reads w0 l sz (adv a (i * sz) (Nat.beq c i)) (n - i) (xs.drop (i * sz)) := fun L w' h' => (h L w' h').tail hi hc
theorem Reads.head (h : Reads w0 l sz a n xs) {i : Nat} (hi : i ≤ n) : Reads w0 l sz a i (xs.take (i * sz)) := fun L w' h' => by
  obtain ⟨h1, h2⟩ := h L w' h'
  refine ⟨by rw [List.length_take, h1]; exact Nat.min_eq_left (Nat.mul_le_mul_right _ hi), ?_⟩
  rcases h2 with h2 | ⟨b, o, rfl, hat⟩
  · exact .inl (by omega)
  · refine .inr ⟨b, o, rfl, fun k v hk => ?_⟩
    rw [List.getElem?_take] at hk
    split at hk
    · exact hat _ v hk
    · cases hk
/-- A permutation of what is there. -/
theorem Reads.swap (h : Reads w0 l sz a n xs) {m : List HProp} (e : all m = all l) : Reads w0 m sz a n xs := fun L w' h' => h L w' (h'.of_all (by rw [all_append, all_append, e]))
end
end Go.Hw
