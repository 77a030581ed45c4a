/- 'append' after which the row that was appended to is still read. -/
import Derived.Test.YtjjacchnalemaaaDoorSl
namespace Go.Hw
theorem St.appendK {P : Program} {w0 w : World} {l : List HProp} {t ty T : TypeId} {z : List Value} {agg : Bool} {bytes : Nat} {n c m c2 : Nat} {a a2 : Option Addr} {xs ys : List Value} (h : St w0 (Own T z.length a n c xs :: l) w)
    (ht : P.underlying t = some (.slice T)) (hi : Inf P T z agg bytes) (hy : Rd w z.length a2 m ys) (h1 : ∀ u ∈ ys, u.oneCell' = true) (hb : (n + m) * bytes ≤ 140737488355328) (h63 : n + m ≤ 9223372036854775807) :
    ∃ a' c' w' Q, (Builtin.append_ #[t, t] ty #[.slice a n c, .slice a2 m c2]).run P w = .ok (.slice a' (n + m) c') w' ∧ Reads w0 (Own T z.length a' (n + m) c' (xs ++ ys) :: Q :: l) z.length a n xs ∧ St w0 (Own T z.length a' (n + m) c' (xs ++ ys) :: Q :: l) w' := by
  obtain ⟨h2, h3, h4⟩ := h.own_cases
  have hx := h.own_rd
  by_cases hg : c < n + m
  · obtain ⟨k, hr⟩ := run_append_grows (P := P) (ty := ty) (c := c) (c2 := c2) ht hi hx hy hg hb h63
    refine ⟨_, _, _, Own T z.length a n c xs, hr, Reads.cons Reads.own, ?_⟩
    have h5 := (h.drew).alloc (.cells (xs ++ ys ++ (Builtin.zeroCells z.toArray k).toList).toArray T)
    refine St.own_mk h5 (c := n + m + k) ?_ ?_ (Nat.le_add_right _ _)
    · rw [List.length_append, List.length_append, zeroCells_len, h2, hy.1, Nat.add_mul, Nat.add_mul]; simp
    · rw [List.append_assoc, ← List.append_assoc]
      exact List.take_left' (by rw [List.length_append, h2, hy.1, Nat.add_mul])
  · rcases h4 with ⟨rfl, rfl, rfl, h5⟩ | ⟨g, cur, rfl, h5, h6, h7⟩
    · obtain rfl : m = 0 := by omega
      have hxs : xs = [] := List.eq_nil_of_length_eq_zero (by simpa using h2)
      have hys : ys = [] := List.eq_nil_of_length_eq_zero (by simpa using hy.1)
      subst hxs hys
      exact ⟨none, 0, w, all [], run_append_none ht hi hy, Reads.nil, (St.fold [] h5).ownNil T z.length⟩
    · have hr := run_append_fit (P := P) (ty := ty) (n := n) (m := m) (c2 := c2) ht hi h7.hd.1 h5 hy (by omega) h1
      have hle : (n + m) * z.length ≤ c * z.length := Nat.mul_le_mul_right _ (by omega)
      rw [Nat.add_mul] at hle
      have h8 : St w0 (pt g (.cells (cur.take (n * z.length) ++ ys ++ cur.drop (n * z.length + ys.length)).toArray T (0, 0)) :: l) (w.setRow g (cur.take (n * z.length) ++ ys ++ cur.drop (n * z.length + ys.length)).toArray) :=
        h7.put rfl rfl rfl (by simp) (fun k hk => setRow_other w g k _ hk) (setRow_heap w g _ _ T (0, 0) h7.hd.1)
      have h9 : St w0 (Own T z.length (some ⟨g, 0, none⟩) (n + m) c (xs ++ ys) :: l) (w.setRow g (cur.take (n * z.length) ++ ys ++ cur.drop (n * z.length + ys.length)).toArray) := by
        refine St.own_mk' h8 (c := c) ?_ ?_ (by omega)
        · simp only [List.length_append, List.length_take, List.length_drop, hy.1]; omega
        · rw [h6]
          exact List.take_left' (by rw [List.length_append, h2, hy.1, Nat.add_mul])
      refine ⟨_, _, _, all [], hr, ?_, ?_⟩
      · have := (Reads.own (w0 := w0) (l := all [] :: l) (T := T) (sz := z.length) (a := some ⟨g, 0, none⟩) (n := n + m) (c := c) (xs := xs ++ ys)).head (i := n) (by omega)
        rwa [← h2, List.take_left] at this
      · exact (St.fold [] h9).f 1
section
variable {P : Program} {e : Env} {w w0 : World} {K : Env → World → Prop} {l : List HProp}
variable {ty : TypeId} {pos : String} {af : Array Edge} {g : Option (Nat × Bool)}
theorem x_appendK {c : Nat} {t T : TypeId} [ht : Und P t (.slice T)] {z : List Value} {agg : Bool} {bytes : Nat} [hi : Inf P T z agg bytes] {x y : Operand} {a a2 : Option Addr} {m m2 m3 c1 c2 sz : Nat} {xs ys zs : List Value}
    (h : St w0 (Own T sz a m c1 xs :: l) w) (hx : ev e x = .slice a m c1) (hy : ev e y = .slice a2 m2 c2) (hr : Rd w sz a2 m2 ys) (h1 : ∀ u ∈ ys, u.oneCell' = true) (hm : m + m2 = m3) (hzs : xs ++ ys = zs) (hb : m3 * bytes ≤ 140737488355328) (h63 : m3 ≤ 9223372036854775807) (hz : z.length = sz)
    (k : ∀ a' c' Q w', Reads w0 (Own T sz a' m3 c' zs :: Q :: l) sz a m xs → St w0 (Own T sz a' m3 c' zs :: Q :: l) w' → K (upd e c (.slice a' m3 c')) w') :
    Ex P ⟨some c, .call ⟨.builtin .append, [x, y].toArray, [t, t].toArray⟩, ty, pos, af, g⟩ e w K := by
  subst hm hzs hz
  obtain ⟨a', c', w', Q, hrun, hrd, hst⟩ := h.appendK (ty := ty) (c2 := c2) ht.h hi hr h1 hb h63
  refine x_w (v := .slice a' (m + m2) c') (w' := w') ?_ (k _ _ _ _ hrd hst)
  simp [execOp, resolve, hx, hy, invoke, builtin, hrun]
end
end Go.Hw
