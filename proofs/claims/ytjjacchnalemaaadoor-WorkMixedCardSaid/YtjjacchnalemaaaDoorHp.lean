/- The operations on memory: variables, rows, maps; calls. -/
import Derived.Test.YtjjacchnalemaaaDoorHo
namespace Go.Hw

/-- A slice that reads as these cells. -/
def Rd (w : World) (sz : Nat) (a : Option Addr) (n : Nat) (xs : List Value) : Prop :=
  xs.length = n * sz ∧ (n = 0 ∨ ∃ b o, a = some ⟨b, o, none⟩ ∧ At w b o xs)
/-- A slice that stands at the head of a row of its own. -/
def Own (T sz : Nat) (a : Option Addr) (n c : Nat) (xs : List Value) : HProp := fun h =>
  xs.length = n * sz ∧ n ≤ c ∧ ((a = none ∧ c = 0 ∧ h = Hp.nil) ∨
    ∃ (g : Nat) (cur : List Value), a = some ⟨g, 0, none⟩ ∧ c * sz ≤ cur.length ∧ cur.take (n * sz) = xs ∧ pt g (.cells cur.toArray T (0, 0)) h)

section
variable {w0 w w' : World} {l : List HProp} {T sz n c : Nat} {a : Option Addr} {xs : List Value}
theorem Own.nil (T sz : Nat) : Own T sz none 0 0 [] Hp.nil := ⟨by simp, Nat.le_refl _, .inl ⟨rfl, rfl, rfl⟩⟩
theorem St.ownNil (T sz : Nat) (h : St w0 l w) : St w0 (Own T sz none 0 0 [] :: l) w :=
  h.imp fun p hp => ⟨Hp.nil, p, fun _ => .inl rfl, (Hp.nil_join p).symm, Own.nil T sz, hp⟩
theorem St.own_cases (h : St w0 (Own T sz a n c xs :: l) w) : xs.length = n * sz ∧ n ≤ c ∧ ((a = none ∧ c = 0 ∧ n = 0 ∧ St w0 l w) ∨
    ∃ (g : Nat) (cur : List Value), a = some ⟨g, 0, none⟩ ∧ c * sz ≤ cur.length ∧ cur.take (n * sz) = xs ∧ St w0 (pt g (.cells cur.toArray T (0, 0)) :: l) w) := by
  obtain ⟨p, hq, x, y, hd, he, ⟨h1, h2, h3⟩, hl⟩ := h.own
  refine ⟨h1, h2, ?_⟩
  rcases h3 with ⟨r1, r2, r3⟩ | ⟨g, cur, r1, r2, r3, r4⟩
  · exact .inl ⟨r1, r2, by omega, h.drop⟩
  · exact .inr ⟨g, cur, r1, r2, r3, h.os, h.tape, h.output, h.size, h.old, p, hq, x, y, hd, he, r4, hl⟩
theorem St.own_mk' {g : Nat} {cur : List Value} (h : St w0 (pt g (.cells cur.toArray T (0, 0)) :: l) w) (h2 : c * sz ≤ cur.length) (h3 : cur.take (n * sz) = xs) (h4 : n ≤ c) : St w0 (Own T sz (some ⟨g, 0, none⟩) n c xs :: l) w :=
  h.mono fun p hp => ⟨by rw [← h3, List.length_take]; exact Nat.min_eq_left (Nat.le_trans (Nat.mul_le_mul_right _ h4) h2), h4, .inr ⟨g, cur, rfl, h2, h3, hp⟩⟩
theorem St.own_mk {g : Nat} {cur : List Value} (h : St w0 (pt g (.cells cur.toArray T (0, 0)) :: l) w) (h2 : cur.length = c * sz) (h3 : cur.take (n * sz) = xs) (h4 : n ≤ c) : St w0 (Own T sz (some ⟨g, 0, none⟩) n c xs :: l) w :=
  h.own_mk' (Nat.le_of_eq h2.symm) h3 h4
/-- A slice whose capacity is cut down to its length. -/
theorem St.own_clip (h : St w0 (Own T sz a n c xs :: l) w) : St w0 (Own T sz a n n xs :: l) w := by
  obtain ⟨h1, h2, ⟨rfl, rfl, rfl, h5⟩ | ⟨g, cur, rfl, h5, h6, h7⟩⟩ := h.own_cases
  · have : xs = [] := List.eq_nil_of_length_eq_zero (by simpa using h1)
    subst this
    exact h5.ownNil T sz
  · exact h7.own_mk' (Nat.le_trans (Nat.mul_le_mul_right _ h2) h5) h6 (Nat.le_refl _)
theorem St.own_len (h : St w0 (Own T sz a n c xs :: l) w) : xs.length = n * sz := h.own_cases.1
theorem St.own_rd (h : St w0 (Own T sz a n c xs :: l) w) : Rd w sz a n xs := by
  obtain ⟨h1, h2, h3⟩ := h.own_cases
  refine ⟨h1, ?_⟩
  rcases h3 with ⟨r1, r2, r3, r4⟩ | ⟨g, cur, r1, r2, r3, r4⟩
  · exact .inl r3
  · exact .inr ⟨g, 0, r1, at_of r4.hd.1 (by rw [List.drop_zero, h1, r3])⟩
theorem Rd.old (h : St w0 l w) (hr : Rd w0 sz a n xs) (hb : ∀ b o, a = some ⟨b, o, none⟩ → 0 < n → b < w0.heap.size) : Rd w sz a n xs := by
  refine ⟨hr.1, ?_⟩
  rcases Nat.eq_zero_or_pos n with h0 | h0
  · exact .inl h0
  refine .inr ?_
  rcases hr.2 with h1 | ⟨b, o, r1, r2⟩
  · omega
  exact ⟨b, o, r1, fun j v hj => by rw [h.cell_old (hb b o r1 h0)]; exact r2 j v hj⟩
theorem Rd.len (h : Rd w sz a n xs) : xs.length = n * sz := h.1
theorem Rd.first {P : Program} (h : Rd w sz a n xs) (c : Nat) : (Builtin.firstCells sz n (.slice a n c)).run P w = .ok xs.toArray w := by
  rcases h.2 with rfl | ⟨b, o, rfl, hat⟩
  · have : xs = [] := List.eq_nil_of_length_eq_zero (by rw [h.1]; simp)
    subst this
    cases a with
    | none => simp [Builtin.firstCells]
    | some ad => exact run_firstCells_some w sz 0 ad 0 c [] (by simp) (fun j v hj => by cases hj)
  · exact run_firstCells_some w sz n _ n c xs h.1 (fun j v hj => by rw [Addr.add_mid]; exact hat j v hj)
end

section
variable {P : Program} {w : World}
/-- 'append' that grows. -/
theorem run_append_grows {t ty T : TypeId} {z : List Value} {agg : Bool} {bytes : Nat} (ht : P.underlying t = some (.slice T)) (hi : Inf P T z agg bytes) {a a2 : Option Addr} {n c m c2 : Nat} {xs ys : List Value}
    (hx : Rd w z.length a n xs) (hy : Rd w z.length a2 m ys) (hg : c < n + m) (hb : (n + m) * bytes ≤ 140737488355328) (h63 : n + m ≤ 9223372036854775807) :
    ∃ k, (Builtin.append_ #[t, t] ty #[.slice a n c, .slice a2 m c2]).run P w = .ok (.slice (some ⟨w.heap.size, 0, none⟩) (n + m) (n + m + k)) (w.drew.alloc (.cells (xs ++ ys ++ (Builtin.zeroCells z.toArray k).toList).toArray T)) := by
  obtain ⟨i, h1, h2, h3, h4⟩ := hi.get
  subst h4
  have hfx := (show Rd w.drew z.length a n xs from hx).first (P := P) c
  have hfy := (show Rd w.drew z.length a2 m ys from hy).first (P := P) c2
  have hge : n + m ≤ grownCap w (n + m) c T := by simp [grownCap, Question.cut]
  have hfit := growslice_fits hg hb
  have hzc := hi.cells
  refine ⟨grownCap w (n + m) c T - (n + m), ?_⟩
  have e1 : n + m + (grownCap w (n + m) c T - (n + m)) = grownCap w (n + m) c T := by omega
  rw [e1]
  have hn1 : ¬ (n + m ≤ c) := by omega
  have hn2 : ¬ ((9223372036854775807 : Int) < (n : Int) + (m : Int)) := by omega
  have hn3 : ¬ (281474976710656 < Builtin.nextslicecap (n + m) c * i.bytes) := by omega
  rw [← h3] at hfx hfy
  generalize (if agg then Value.agg z.toArray else z.getD 0 undef) = zz at h2 hzc
  simp [Builtin.append_, run_underlying ht, sizeOf, typeInfo, zeroValue, h1, h2, Builtin.lenOf, hn1, hn2, hn3, Question.forced, newRow, hfx, hfy, grownCap, hzc]
  congr 2
  apply Array.ext'
  simp [List.append_assoc]
/-- 'append' within the capacity. -/
theorem run_append_fit {t ty T : TypeId} {z : List Value} {agg : Bool} {bytes : Nat} (ht : P.underlying t = some (.slice T)) (hi : Inf P T z agg bytes) {a2 : Option Addr} {g n c m c2 : Nat} {cur ys : List Value}
    (hg : w.heap[g]? = some (.cells cur.toArray T (0, 0))) (hc : c * z.length ≤ cur.length) (hy : Rd w z.length a2 m ys) (hfit : n + m ≤ c) (h1 : ∀ u ∈ ys, u.oneCell' = true) :
    (Builtin.append_ #[t, t] ty #[.slice (some ⟨g, 0, none⟩) n c, .slice a2 m c2]).run P w = .ok (.slice (some ⟨g, 0, none⟩) (n + m) c)
      (w.setRow g (cur.take (n * z.length) ++ ys ++ cur.drop (n * z.length + ys.length)).toArray) := by
  obtain ⟨i, hi1, hi2, hi3, hi4⟩ := hi.get
  have hfy := hy.first (P := P) c2
  have hle : (n + m) * z.length ≤ c * z.length := Nat.mul_le_mul_right _ hfit
  rw [Nat.add_mul] at hle
  have hst := run_storeCells_at P g (n * z.length) T ys 0 cur.toArray w hg (by simp only [List.size_toArray, hy.1]; omega) h1
  simp only [Nat.add_zero] at hst
  rw [Nat.add_comm (n * z.length)] at hst ⊢
  simp [Builtin.append_, run_underlying ht, sizeOf, typeInfo, hi1, Builtin.lenOf, hfit, hfy, Addr.add_mid, hi3, hst]
theorem run_append_none {t ty T : TypeId} {z : List Value} {agg : Bool} {bytes : Nat} (ht : P.underlying t = some (.slice T)) (hi : Inf P T z agg bytes) {c2 : Nat} {a2 : Option Addr} {ys : List Value} (hy : Rd w z.length a2 0 ys) :
    (Builtin.append_ #[t, t] ty #[.slice none 0 0, .slice a2 0 c2]).run P w = .ok (.slice none 0 0) w := by
  obtain ⟨i, hi1, hi2, hi3, hi4⟩ := hi.get
  have hfy := hy.first (P := P) c2
  rw [← hi3] at hfy
  simp [Builtin.append_, run_underlying ht, sizeOf, typeInfo, hi1, Builtin.lenOf, hfy]
end

theorem zeroCells_len (z : Array Value) (k : Nat) : (Builtin.zeroCells z k).toList.length = k * z.size := by simp [Builtin.zeroCells]

/-- 'append' onto a row of its own. -/
theorem St.append {P : Program} {w0 w : World} {l : List HProp} {t ty T : TypeId} {z : List Value} {agg : Bool} {bytes : Nat} {n c m c2 : Nat} {a a2 : Option Addr} {xs ys : List Value} (h : St w0 (Own T z.length a n c xs :: l) w)
    (ht : P.underlying t = some (.slice T)) (hi : Inf P T z agg bytes) (hy : Rd w z.length a2 m ys) (h1 : ∀ u ∈ ys, u.oneCell' = true) (hb : (n + m) * bytes ≤ 140737488355328) (h63 : n + m ≤ 9223372036854775807) :
    ∃ a' c' w', (Builtin.append_ #[t, t] ty #[.slice a n c, .slice a2 m c2]).run P w = .ok (.slice a' (n + m) c') w' ∧ (a' = none → a = none) ∧ St w0 (Own T z.length a' (n + m) c' (xs ++ ys) :: l) w' := by
  obtain ⟨h2, h3, h4⟩ := h.own_cases
  have hx := h.own_rd
  by_cases hg : c < n + m
  · obtain ⟨k, hr⟩ := run_append_grows (P := P) (ty := ty) (c := c) (c2 := c2) ht hi hx hy hg hb h63
    refine ⟨_, _, _, hr, (fun h => by cases h), ?_⟩
    have h5 := (h.drop.drew).alloc (.cells (xs ++ ys ++ (Builtin.zeroCells z.toArray k).toList).toArray T)
    refine St.own_mk h5 (c := n + m + k) ?_ ?_ (Nat.le_add_right _ _)
    · rw [List.length_append, List.length_append, zeroCells_len, h2, hy.1, Nat.add_mul, Nat.add_mul]; simp
    · rw [List.append_assoc, ← List.append_assoc]
      exact List.take_left' (by rw [List.length_append, h2, hy.1, Nat.add_mul])
  · rcases h4 with ⟨rfl, rfl, rfl, h5⟩ | ⟨g, cur, rfl, h5, h6, h7⟩
    · obtain rfl : m = 0 := by omega
      have hxs : xs = [] := List.eq_nil_of_length_eq_zero (by simpa using h2)
      have hys : ys = [] := List.eq_nil_of_length_eq_zero (by simpa using hy.1)
      subst hxs hys
      exact ⟨none, 0, w, run_append_none ht hi hy, (fun _ => rfl), h5.ownNil T z.length⟩
    · have hr := run_append_fit (P := P) (ty := ty) (n := n) (m := m) (c2 := c2) ht hi h7.hd.1 h5 hy (by omega) h1
      refine ⟨_, _, _, hr, (fun h => by cases h), ?_⟩
      have hle : (n + m) * z.length ≤ c * z.length := Nat.mul_le_mul_right _ (by omega)
      rw [Nat.add_mul] at hle
      have h8 : St w0 (pt g (.cells (cur.take (n * z.length) ++ ys ++ cur.drop (n * z.length + ys.length)).toArray T (0, 0)) :: l) (w.setRow g (cur.take (n * z.length) ++ ys ++ cur.drop (n * z.length + ys.length)).toArray) :=
        h7.put rfl rfl rfl (by simp) (fun k hk => setRow_other w g k _ hk) (setRow_heap w g _ _ T (0, 0) h7.hd.1)
      refine St.own_mk' h8 (c := c) ?_ ?_ (by omega)
      · simp only [List.length_append, List.length_take, List.length_drop, hy.1]; omega
      · rw [h6]
        exact List.take_left' (by rw [List.length_append, h2, hy.1, Nat.add_mul])
end Go.Hw
