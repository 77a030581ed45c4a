/- A small separation logic over the model's heap: assertions are lists of heap predicates, the memory that was there at first is left alone. -/
import Derived.WalkKit
import Derived.Deep.Draws
namespace Go.Hw

abbrev Hp := Nat → Option Obj
abbrev HProp := Hp → Prop
def Hp.disj (a b : Hp) : Prop := ∀ k, a k = none ∨ b k = none
def Hp.join (a b : Hp) : Hp := fun k => (a k).or (b k)
def Hp.nil : Hp := fun _ => none

theorem Hp.disj_comm {a b : Hp} (h : Hp.disj a b) : Hp.disj b a := fun k => (h k).symm
theorem Hp.join_comm {a b : Hp} (h : Hp.disj a b) : Hp.join a b = Hp.join b a := by
  funext k
  unfold Hp.join
  rcases h k with h | h
  · rw [h]; cases b k <;> rfl
  · rw [h]; cases a k <;> rfl
theorem Hp.join_assoc (a b c : Hp) : Hp.join (Hp.join a b) c = Hp.join a (Hp.join b c) := by
  funext k; unfold Hp.join; cases a k <;> rfl
theorem Hp.join_nil (a : Hp) : Hp.join a Hp.nil = a := by funext k; unfold Hp.join Hp.nil; cases a k <;> rfl
theorem Hp.nil_join (a : Hp) : Hp.join Hp.nil a = a := by funext k; rfl
theorem Hp.join_none {a b : Hp} {k : Nat} : Hp.join a b k = none ↔ a k = none ∧ b k = none := by
  unfold Hp.join; cases a k <;> simp
theorem Hp.disj_join {a b c : Hp} : Hp.disj a (Hp.join b c) ↔ Hp.disj a b ∧ Hp.disj a c := by
  constructor
  · intro h
    exact ⟨fun k => (h k).imp id (fun h => (Hp.join_none.1 h).1), fun k => (h k).imp id (fun h => (Hp.join_none.1 h).2)⟩
  · rintro ⟨h, g⟩ k
    rcases h k with h | h
    · exact .inl h
    · exact (g k).imp id (fun g => Hp.join_none.2 ⟨h, g⟩)

def emp : HProp := fun h => h = Hp.nil
def star (P Q : HProp) : HProp := fun h => ∃ a b, Hp.disj a b ∧ h = Hp.join a b ∧ P a ∧ Q b
def all : List HProp → HProp
  | [] => emp
  | P :: l => star P (all l)
/-- Block b is the object o. -/
def pt (b : Nat) (o : Obj) : HProp := fun h => h = fun k => if k = b then some o else none
def ex {α : Type} (P : α → HProp) : HProp := fun h => ∃ x, P x h
def lift (φ : Prop) : HProp := fun h => φ ∧ h = Hp.nil

theorem star_comm (P Q : HProp) : star P Q = star Q P := by
  have aux : ∀ (P Q : HProp) h, star P Q h → star Q P h := by
    rintro P Q h ⟨a, b, hd, rfl, hp, hq⟩
    exact ⟨b, a, Hp.disj_comm hd, Hp.join_comm hd, hq, hp⟩
  funext h
  exact propext ⟨aux _ _ _, aux _ _ _⟩
theorem star_assoc (P Q R : HProp) : star (star P Q) R = star P (star Q R) := by
  funext h
  apply propext
  constructor
  · rintro ⟨ab, c, hd, rfl, ⟨a, b, hd', rfl, hp, hq⟩, hr⟩
    have hd2 := Hp.disj_join.1 (Hp.disj_comm hd)
    exact ⟨a, Hp.join b c, Hp.disj_join.2 ⟨hd', Hp.disj_comm hd2.1⟩, Hp.join_assoc a b c, hp, b, c, Hp.disj_comm hd2.2, rfl, hq, hr⟩
  · rintro ⟨a, bc, hd, rfl, hp, b, c, hd', rfl, hq, hr⟩
    have hd2 := Hp.disj_join.1 hd
    exact ⟨Hp.join a b, c, Hp.disj_comm (Hp.disj_join.2 ⟨Hp.disj_comm hd2.2, Hp.disj_comm hd'⟩), (Hp.join_assoc a b c).symm, ⟨a, b, hd2.1, rfl, hp, hq⟩, hr⟩
theorem star_left (P Q R : HProp) : star P (star Q R) = star Q (star P R) := by
  rw [← star_assoc, star_comm P Q, star_assoc]
theorem emp_star (P : HProp) : star emp P = P := by
  funext h
  apply propext
  constructor
  · rintro ⟨a, b, _, rfl, ha, hp⟩
    unfold emp at ha
    subst ha
    rw [Hp.nil_join]
    exact hp
  · intro hp
    exact ⟨Hp.nil, h, fun _ => .inl rfl, (Hp.nil_join h).symm, rfl, hp⟩
instance : Std.Associative star := ⟨star_assoc⟩
instance : Std.Commutative star := ⟨star_comm⟩
theorem all_append (l m : List HProp) : all (l ++ m) = star (all l) (all m) := by
  induction l with
  | nil => exact (emp_star _).symm
  | cons P l ih => show star P (all (l ++ m)) = _; rw [ih]; exact (star_assoc _ _ _).symm

/-- The k-th comes to the front. -/
def bring : Nat → List HProp → List HProp
  | 0, l => l
  | _ + 1, [] => []
  | k + 1, P :: l => match bring k l with
    | [] => [P]
    | Q :: m => Q :: P :: m
theorem all_bring (k : Nat) : ∀ l, all (bring k l) = all l := by
  induction k with
  | zero => intro l; rfl
  | succ k ih =>
    intro l
    cases l with
    | nil => rfl
    | cons P l =>
      have := ih l
      simp only [bring]
      cases hb : bring k l with
      | nil => rw [hb] at this; simp only [all] at this ⊢; rw [← this]
      | cons Q m => rw [hb] at this; simp only [all] at this ⊢; rw [← this, star_left]

/-- The world w: what there was in w0 is as it was; of what is new the assertions l own their parts. -/
structure St (w0 : World) (l : List HProp) (w : World) : Prop where
  os : w.os = w0.os
  tape : w.tape = w0.tape
  output : w.output = w0.output
  size : w0.heap.size ≤ w.heap.size
  old : ∀ k, k < w0.heap.size → w.heap[k]? = w0.heap[k]?
  own : ∃ h : Hp, (∀ k o, h k = some o → w.heap[k]? = some o ∧ w0.heap.size ≤ k) ∧ all l h

section
variable {w0 w w' : World} {l m : List HProp} {P Q : HProp}

theorem St.init (w : World) : St w [] w := ⟨rfl, rfl, rfl, Nat.le_refl _, fun _ _ => rfl, Hp.nil, (fun _ _ h => nomatch h), rfl⟩
theorem St.below (h : St w0 l w) : RowKit.Below w0.heap.size w0 w := ⟨h.os, h.tape, h.output, h.size, h.old⟩
theorem St.of_all (h : St w0 l w) (e : all l = all m) : St w0 m w := ⟨h.os, h.tape, h.output, h.size, h.old, by rw [← e]; exact h.own⟩
theorem St.imp (h : St w0 l w) (e : ∀ p, all l p → all m p) : St w0 m w :=
  ⟨h.os, h.tape, h.output, h.size, h.old, let ⟨p, a, b⟩ := h.own; ⟨p, a, e p b⟩⟩
theorem St.f (k : Nat) (h : St w0 l w) : St w0 (bring k l) w := h.of_all (all_bring k l).symm
theorem St.join (h : St w0 (all m :: l) w) : St w0 (m ++ l) w := h.of_all (all_append m l).symm
theorem St.fold (m : List HProp) (h : St w0 (m ++ l) w) : St w0 (all m :: l) w := h.of_all (all_append m l)
theorem St.drop (h : St w0 (P :: l) w) : St w0 l w := by
  obtain ⟨p, hp, a, b, hd, rfl, _, hb⟩ := h.own
  refine ⟨h.os, h.tape, h.output, h.size, h.old, b, fun k o hk => hp k o ?_, hb⟩
  unfold Hp.join
  rcases hd k with h | h
  · rw [h]; exact hk
  · rw [hk] at h; cases h
theorem St.ex {α : Type} {P : α → HProp} : St w0 (ex P :: l) w ↔ ∃ x, St w0 (P x :: l) w := by
  constructor
  · intro h
    obtain ⟨p, hp, a, b, hd, he, ⟨x, hx⟩, hb⟩ := h.own
    exact ⟨x, h.os, h.tape, h.output, h.size, h.old, p, hp, a, b, hd, he, hx, hb⟩
  · rintro ⟨x, h⟩
    obtain ⟨p, hp, a, b, hd, he, hx, hb⟩ := h.own
    exact ⟨h.os, h.tape, h.output, h.size, h.old, p, hp, a, b, hd, he, ⟨x, hx⟩, hb⟩
theorem St.lift {φ : Prop} : St w0 (lift φ :: l) w ↔ φ ∧ St w0 l w := by
  constructor
  · intro h
    obtain ⟨p, hp, a, b, hd, he, ⟨hφ, ha⟩, hb⟩ := h.own
    exact ⟨hφ, h.drop⟩
  · rintro ⟨hφ, h⟩
    obtain ⟨p, hp, hb⟩ := h.own
    exact ⟨h.os, h.tape, h.output, h.size, h.old, p, hp, Hp.nil, p, fun _ => .inl rfl, (Hp.nil_join p).symm, ⟨hφ, rfl⟩, hb⟩
theorem St.mono (h : St w0 (P :: l) w) (e : ∀ p, P p → Q p) : St w0 (Q :: l) w :=
  h.imp fun _ ⟨a, b, hd, he, hp, hb⟩ => ⟨a, b, hd, he, e _ hp, hb⟩

/-- What stands at the head is there. -/
theorem St.hd {b : Nat} {o : Obj} (h : St w0 (pt b o :: l) w) : w.heap[b]? = some o ∧ w0.heap.size ≤ b := by
  obtain ⟨p, hp, a, c, hd, he, ha, hb⟩ := h.own
  refine hp b o ?_
  rw [he]
  unfold Hp.join
  unfold pt at ha
  rw [ha]
  simp
theorem bring_of (k : Nat) : ∀ (l : List HProp) {P : HProp}, l[k]? = some P → bring k l = P :: l.eraseIdx k := by
  induction k with
  | zero => intro l P h; cases l with | nil => cases h | cons a l => simp at h; subst h; rfl
  | succ k ih =>
    intro l P h
    cases l with
    | nil => cases h
    | cons a l => simp only [bring]; rw [ih l (by simpa using h)]; rfl
/-- The k-th is there. -/
theorem St.b (k : Nat) {b : Nat} {o : Obj} (h : St w0 l w) (hk : l[k]? = some (pt b o) := by rfl) : w.heap[b]? = some o :=
  (show St w0 (pt b o :: l.eraseIdx k) w from (bring_of k l hk) ▸ h.f k).hd.1
theorem St.new (k : Nat) {b : Nat} {o : Obj} (h : St w0 l w) (hk : l[k]? = some (pt b o) := by rfl) : w0.heap.size ≤ b :=
  (show St w0 (pt b o :: l.eraseIdx k) w from (bring_of k l hk) ▸ h.f k).hd.2
theorem St.ne2 {b c : Nat} {o q : Obj} (h : St w0 (pt b o :: pt c q :: l) w) : b ≠ c := by
  rintro rfl
  obtain ⟨p, hp, a, r, hd, he, ha, s, t, hd', he', hs, ht⟩ := h.own
  unfold pt at ha hs
  subst he' ha hs
  rcases hd b with h | h
  · simp at h
  · have := (Hp.join_none.1 h).1; simp at this

/-- What is there in w0 is there. -/
theorem St.cell_old (h : St w0 l w) {a : Addr} (ha : a.block < w0.heap.size) : w.cell? a = w0.cell? a := World.cell?_of_block (h.old _ ha)
theorem St.heap_old (h : St w0 l w) {b : Nat} {o : Obj} (hb : w0.heap[b]? = some o) : w.heap[b]? = some o := by
  rw [h.old b (Array.getElem?_eq_some_iff.1 hb).1]; exact hb

/-- A world with the same blocks, and more. -/
theorem St.grow (h : St w0 l w) (ho : w'.os = w.os) (ht : w'.tape = w.tape) (hp : w'.output = w.output) (hs : w.heap.size ≤ w'.heap.size)
    (hb : ∀ k, k < w.heap.size → w'.heap[k]? = w.heap[k]?) : St w0 l w' := by
  obtain ⟨p, hq, hl⟩ := h.own
  refine ⟨ho.trans h.os, ht.trans h.tape, hp.trans h.output, Nat.le_trans h.size hs, fun k hk => (hb k (Nat.lt_of_lt_of_le hk h.size)).trans (h.old k hk), p, fun k o hk => ?_, hl⟩
  have := hq k o hk
  exact ⟨by rw [hb k (Array.getElem?_eq_some_iff.1 this.1).1]; exact this.1, this.2⟩
theorem St.drew (h : St w0 l w) : St w0 l w.drew := h.grow rfl rfl rfl (Nat.le_refl _) (fun _ _ => rfl)
theorem St.drewN (h : St w0 l w) (n : Nat) : St w0 l (w.drewN n) := h.grow rfl rfl rfl (Nat.le_refl _) (fun _ _ => rfl)
/-- .. and a block of its own. -/
theorem St.grow1 (h : St w0 l w) (ho : w'.os = w.os) (ht : w'.tape = w.tape) (hp : w'.output = w.output) (hs : w.heap.size ≤ w'.heap.size)
    (hb : ∀ k, k < w.heap.size → w'.heap[k]? = w.heap[k]?) {g : Nat} {o : Obj} (hg : w.heap.size ≤ g) (hn : w'.heap[g]? = some o) : St w0 (pt g o :: l) w' := by
  have h' := h.grow ho ht hp hs hb
  obtain ⟨p, hq, hl⟩ := h.own
  have hpg : p g = none := by
    cases hc : p g with
    | none => rfl
    | some o' => exact absurd (Array.getElem?_eq_some_iff.1 (hq g o' hc).1).1 (by omega)
  refine ⟨h'.os, h'.tape, h'.output, h'.size, h'.old, Hp.join (fun k => if k = g then some o else none) p, ?_, (fun k => if k = g then some o else none), p, ?_, rfl, rfl, hl⟩
  · intro k o' hk
    unfold Hp.join at hk
    by_cases e : k = g
    · subst e; simp at hk; subst hk; exact ⟨hn, Nat.le_trans h.size hg⟩
    · simp [e] at hk
      have := hq k o' hk
      exact ⟨by rw [hb k (Array.getElem?_eq_some_iff.1 this.1).1]; exact this.1, this.2⟩
  · intro k
    by_cases e : k = g
    · subst e; exact .inr hpg
    · exact .inl (by simp [e])
theorem St.alloc (h : St w0 l w) (o : Obj) : St w0 (pt w.heap.size o :: l) (w.alloc o) :=
  h.grow1 (w' := w.alloc o) rfl rfl rfl (by simp) (fun k hk => RowKit.Below.heap_alloc w o k hk) (Nat.le_refl _) (heap_alloc_new w o)

/-- One block's object is another one. -/
theorem St.put {b : Nat} {o o' : Obj} (h : St w0 (pt b o :: l) w) (ho : w'.os = w.os) (ht : w'.tape = w.tape) (hp : w'.output = w.output) (hs : w.heap.size = w'.heap.size)
    (hb : ∀ k, k ≠ b → w'.heap[k]? = w.heap[k]?) (hn : w'.heap[b]? = some o') : St w0 (pt b o' :: l) w' := by
  have hnew := h.hd.2
  obtain ⟨p, hq, a, c, hd, he, ha, hl⟩ := h.own
  unfold pt at ha
  subst ha
  have hcb : c b = none := by
    rcases hd b with h | h
    · simp at h
    · exact h
  refine ⟨ho.trans h.os, ht.trans h.tape, hp.trans h.output, hs ▸ h.size, fun k hk => (hb k (by omega)).trans (h.old k hk), Hp.join (fun k => if k = b then some o' else none) c, ?_, (fun k => if k = b then some o' else none), c, ?_, rfl, rfl, hl⟩
  · intro k q hk
    unfold Hp.join at hk
    by_cases e : k = b
    · subst e; simp at hk; subst hk; exact ⟨hn, hnew⟩
    · simp [e] at hk
      have := hq k q (by rw [he]; unfold Hp.join; simp [e, hk])
      exact ⟨by rw [hb k e]; exact this.1, this.2⟩
  · intro k
    by_cases e : k = b
    · subst e; exact .inr hcb
    · exact .inl (by simp [e])
/-- .. at the k-th place. -/
theorem St.putk (k : Nat) {b : Nat} {o o' : Obj} (h : St w0 l w) (hk : l[k]? = some (pt b o)) (ho : w'.os = w.os) (ht : w'.tape = w.tape) (hp : w'.output = w.output) (hs : w.heap.size = w'.heap.size)
    (hb : ∀ k, k ≠ b → w'.heap[k]? = w.heap[k]?) (hn : w'.heap[b]? = some o') : St w0 (l.set k (pt b o')) w' := by
  have h1 : St w0 (pt b o :: l.eraseIdx k) w := (bring_of k l hk) ▸ h.f k
  have h2 := h1.put ho ht hp hs hb hn
  have hlt : k < l.length := by
    rcases Nat.lt_or_ge k l.length with h | h
    · exact h
    · rw [List.getElem?_eq_none h] at hk; cases hk
  have e : bring k (l.set k (pt b o')) = pt b o' :: l.eraseIdx k := by
    rw [bring_of k (l.set k (pt b o')) (P := pt b o') (by simp [hlt]), List.eraseIdx_set_eq]
  refine h2.of_all ?_
  rw [← e, all_bring]
end
end Go.Hw
