/- What the proof of ReptTells needs, part 1: plain lemmas, and what each function does. -/
import Derived.WalkKit
import Derived.Deep.Draws
import Derived.Deep.LoopGhost
import Derived.Deep.MidRow
import Derived.Lib.FrozenHead
import Derived.Laws.IdiomStrings
import Derived.Laws.MakeOwn
import Derived.ProofKit
import Derived.OpenShut
import Derived.JoinedCond
import Derived.Carry
import Derived.KernelRfl
import Derived.Laws.Strings2
import Derived.Test.YtdeaeboijmeefaaGreatDoorProg
import Derived.Laws.StructEq
import Derived.Deep.Slices
import Derived.Laws.Strings
import Derived.Lib.ItoaLen
import Derived.Lib.ParseIntB
import Derived.Lib.SplitLaws
import Derived.Shelf.Strings.Builder1
import Derived.Shelf.LaysM
import Derived.Shelf.Strconv.Itoa4
import Derived.Shelf.Strconv.ParseIntEmpty
import Derived.Shelf.LaysC
import Derived.Shelf.Strconv.ToError
import Derived.Shelf.Strconv.Lower
import Derived.Shelf.Strconv.ToErrorRange
import Derived.Shelf.Strconv.ParseUintEmpty
import Derived.Shelf.Strconv.ParseInt10At64
import Derived.Shelf.Strings.Split
import Derived.Sort.Grow
import Derived.Lib.AppendStr
set_option linter.unusedVariables false
set_option linter.unusedSimpArgs false
set_option linter.unnecessarySimpa false
set_option maxRecDepth 100000
set_option maxHeartbeats 4000000
namespace Go
abbrev Value.iz (n : Int) : Value := .int .i64 n
abbrev Value.pz (b : Nat) : Value := .pointer (some ⟨b, 0, none⟩)
abbrev sQ (b : Nat) : Option Addr := some ⟨b, 0, none⟩
abbrev V0 : Value := Value.int .i64 0
abbrev V1 : Value := Value.slice none 0 0
abbrev V2 : Value := Value.bool false
abbrev V3 : Value := Value.pointer none
abbrev V4 : Value := Value.int .u64 0
abbrev V5 : Value := Value.int .u8 0
abbrev V6 : Value := Value.string ByteArray.empty
abbrev Ua := @List.length_append
abbrev Ub := @List.getElem?_eq_getElem
abbrev Uc := @Bool.and_eq_true
abbrev Ud := @Nat.mod_eq_of_lt
abbrev Ue := @List.getElem?_eq_some_iff
abbrev Uf := @List.eq_nil_of_length_eq_zero
abbrev Ug := @List.append_assoc
abbrev Uh := @Nat.eq_of_beq_eq_true
abbrev Ui := @Nat.le_refl
abbrev Uj := @Nat.le_of_ble_eq_true
abbrev Uk := @List.mem_cons_self
abbrev Ul := @List.length_singleton
abbrev Um := @List.append_nil
abbrev Un := @List.all_eq_true
abbrev Uo := @Nat.mul_le_mul_right
abbrev Up := @Option.some.injEq
abbrev Uq := @List.getElem?_eq_none
abbrev Ur := @List.length_cons
abbrev Us := @List.mem_singleton
abbrev Ut := @List.length_erase_of_mem
abbrev Uu := @List.getElem?_cons_zero
abbrev Uv := @Option.map_some
abbrev Uw := @List.nil_append
abbrev Ux := @Nat.add_mul
abbrev Uy := @Nat.blt_eq
abbrev Uz := @Nat.eq_zero_or_pos
abbrev Va := @List.mem_of_mem_erase
abbrev Vb := @Bool.not_eq_true'
abbrev Vc := @List.mem_of_getElem?
abbrev Vd := @List.length_pos_iff
abbrev Ve := @List.length_take
abbrev Vf := @Nat.le_trans
abbrev Vg := @List.getElem?_take
abbrev Vh := @List.mem_cons
abbrev Vi := @Nat.blt
abbrev Vj := @List.size_toArray
abbrev Vk := @Nat.mod_lt
abbrev Vl := @Nat.zero_le
abbrev Vm := @List.mem_cons_of_mem
abbrev Vn := @Nat.add_zero
abbrev Vo := @Nat.zero_add
abbrev Vp := @List.map_toArray
theorem O_o {p : Prop} (h : p := by omega) : p := h
theorem O_d {p : Prop} (h : p := by dsimp only; omega) : p := h
theorem O_t {p : Prop} (h : p := by (try dsimp only); omega) : p := h
theorem O_c {p : Prop} (h : p := by decide) : p := h
end Go
namespace Go
theorem zz2 {α0 : Type} {a0 : α0} {α1 : Type} {a1 : α1} : a0 = a0 ∧ a1 = a1 ∧ True := ⟨rfl, rfl, trivial⟩
theorem zz3 {α0 : Type} {a0 : α0} {α1 : Type} {a1 : α1} {α2 : Type} {a2 : α2} : a0 = a0 ∧ a1 = a1 ∧ a2 = a2 ∧ True := ⟨rfl, rfl, rfl, trivial⟩
theorem zz4 {α0 : Type} {a0 : α0} {α1 : Type} {a1 : α1} {α2 : Type} {a2 : α2} {α3 : Type} {a3 : α3} : a0 = a0 ∧ a1 = a1 ∧ a2 = a2 ∧ a3 = a3 ∧ True := ⟨rfl, rfl, rfl, rfl, trivial⟩
theorem zz5 {α0 : Type} {a0 : α0} {α1 : Type} {a1 : α1} {α2 : Type} {a2 : α2} {α3 : Type} {a3 : α3} {α4 : Type} {a4 : α4} : a0 = a0 ∧ a1 = a1 ∧ a2 = a2 ∧ a3 = a3 ∧ a4 = a4 ∧ True := ⟨rfl, rfl, rfl, rfl, rfl, trivial⟩
theorem zz7 {α0 : Type} {a0 : α0} {α1 : Type} {a1 : α1} {α2 : Type} {a2 : α2} {α3 : Type} {a3 : α3} {α4 : Type} {a4 : α4} {α5 : Type} {a5 : α5} {α6 : Type} {a6 : α6} : a0 = a0 ∧ a1 = a1 ∧ a2 = a2 ∧ a3 = a3 ∧ a4 = a4 ∧ a5 = a5 ∧ a6 = a6 ∧ True := ⟨rfl, rfl, rfl, rfl, rfl, rfl, rfl, trivial⟩
theorem zz10 {α0 : Type} {a0 : α0} {α1 : Type} {a1 : α1} {α2 : Type} {a2 : α2} {α3 : Type} {a3 : α3} {α4 : Type} {a4 : α4} {α5 : Type} {a5 : α5} {α6 : Type} {a6 : α6} {α7 : Type} {a7 : α7} {α8 : Type} {a8 : α8} {α9 : Type} {a9 : α9} : a0 = a0 ∧ a1 = a1 ∧ a2 = a2 ∧ a3 = a3 ∧ a4 = a4 ∧ a5 = a5 ∧ a6 = a6 ∧ a7 = a7 ∧ a8 = a8 ∧ a9 = a9 ∧ True := ⟨rfl, rfl, rfl, rfl, rfl, rfl, rfl, rfl, rfl, rfl, trivial⟩
theorem zz11 {α0 : Type} {a0 : α0} {α1 : Type} {a1 : α1} {α2 : Type} {a2 : α2} {α3 : Type} {a3 : α3} {α4 : Type} {a4 : α4} {α5 : Type} {a5 : α5} {α6 : Type} {a6 : α6} {α7 : Type} {a7 : α7} {α8 : Type} {a8 : α8} {α9 : Type} {a9 : α9} {α10 : Type} {a10 : α10} : a0 = a0 ∧ a1 = a1 ∧ a2 = a2 ∧ a3 = a3 ∧ a4 = a4 ∧ a5 = a5 ∧ a6 = a6 ∧ a7 = a7 ∧ a8 = a8 ∧ a9 = a9 ∧ a10 = a10 ∧ True := ⟨rfl, rfl, rfl, rfl, rfl, rfl, rfl, rfl, rfl, rfl, rfl, trivial⟩
theorem zz12 {α0 : Type} {a0 : α0} {α1 : Type} {a1 : α1} {α2 : Type} {a2 : α2} {α3 : Type} {a3 : α3} {α4 : Type} {a4 : α4} {α5 : Type} {a5 : α5} {α6 : Type} {a6 : α6} {α7 : Type} {a7 : α7} {α8 : Type} {a8 : α8} {α9 : Type} {a9 : α9} {α10 : Type} {a10 : α10} {α11 : Type} {a11 : α11} : a0 = a0 ∧ a1 = a1 ∧ a2 = a2 ∧ a3 = a3 ∧ a4 = a4 ∧ a5 = a5 ∧ a6 = a6 ∧ a7 = a7 ∧ a8 = a8 ∧ a9 = a9 ∧ a10 = a10 ∧ a11 = a11 ∧ True := ⟨rfl, rfl, rfl, rfl, rfl, rfl, rfl, rfl, rfl, rfl, rfl, rfl, trivial⟩
end Go
namespace Go
theorem O0 {p : Prop} (h : p := by simp only [Ua, Ur, List.length_nil]; omega) : p := h
theorem O1 {p : Prop} (h : p := by kernel_rfl) : p := h
theorem O2 {p : Prop} (h : p := by simp [opS, opW, hk, joinW, wAppend, wRead, wSeal, wDelete, wOpen, wNext, wClose]) : p := h
theorem O3 {p : Prop} (h : p := by omega) : p := h
theorem O4 {p : Prop} (h : p := by decide) : p := h
theorem O5 {p : Prop} (h : p := by congr 1; rw [decide_eq_false_iff_not]; omega) : p := h
theorem O6 {p : Prop} (h : p := by congr 1; rw [decide_eq_true_eq]; omega) : p := h
theorem O7 {p : Prop} (h : p := by rw [ha]; simp [opW, hk]) : p := h
theorem O8 {p : Prop} (h : p := by simp) : p := h
theorem O9 {p : Prop} (h : p := by congr 1; rw [beq_iff_eq]; exact hk) : p := h
theorem O10 {p : Prop} (h : p := by rw [wrap64 O3 O3]; congr 1) : p := h
theorem O11 {p : Prop} (h : p := by simp only [Ul]; omega) : p := h
theorem O12 {p : Prop} (h : p := by simp [hx]) : p := h
end Go
namespace Go.Hw
section
abbrev Hp := Nat -> Option Obj
abbrev HProp := Hp -> Prop
def Hp.disj (a b : Hp) : Prop := ∀ k, a k = none ∨ b k = none
def Hp.join (a b : Hp) : Hp := fun k => (a k).or (b k)
def Hp.nil : Hp := fun _ => none
theorem Hp.disj_comm {a b : Hp} (h : Hp.disj a b) : Hp.disj b a := fun k => (h k).symm
theorem Hp.join_comm {a b : Hp} (h : Hp.disj a b) : Hp.join a b = Hp.join b a := by
 funext k
 unfold Hp.join
 rcases h k with h | h
 ·rw [h]; cases b k <;> rfl
 ·rw [h]; cases a k <;> rfl
theorem Hp.join_assoc (a b c : Hp) : Hp.join (Hp.join a b) c = Hp.join a (Hp.join b c) := by
 funext k; unfold Hp.join; cases a k <;> rfl
theorem Hp.nil_join (a : Hp) : Hp.join Hp.nil a = a := by funext k; rfl
theorem Hp.join_none {a b : Hp} {k : Nat} : Hp.join a b k = none ↔ a k = none ∧ b k = none := by
 unfold Hp.join; cases a k <;> simp
theorem Hp.disj_join {a b c : Hp} : Hp.disj a (Hp.join b c) ↔ Hp.disj a b ∧ Hp.disj a c := by
 constructor
 ·intro h
  exact ⟨fun k => (h k).imp id (fun h => (Hp.join_none.1 h).1), fun k => (h k).imp id (fun h => (Hp.join_none.1 h).2)⟩
 ·rintro ⟨h, g⟩ k
  rcases h k with h | h
  ·exact .inl h
  ·exact (g k).imp id (fun g => Hp.join_none.2 ⟨h, g⟩)
def emp : HProp := fun h => h = Hp.nil
def star (P Q : HProp) : HProp := fun h => ∃ a b, Hp.disj a b ∧ h = Hp.join a b ∧ P a ∧ Q b
def all : List HProp -> HProp
 | [] => emp
 | P :: l => star P (all l)
def pt (b : Nat) (o : Obj) : HProp := fun h => h = fun k => if k = b then some o else none
def ex {α : Type} (P : α -> HProp) : HProp := fun h => ∃ x, P x h
def lift (φ : Prop) : HProp := fun h => φ ∧ h = Hp.nil
theorem uy (P Q : HProp) : star P Q = star Q P := by
 have aux : ∀ (P Q : HProp) h, star P Q h -> star Q P h := by
  rintro P Q h ⟨a, b, hd, rfl, hp, hq⟩
  exact ⟨b, a, Hp.disj_comm hd, Hp.join_comm hd, hq, hp⟩
 funext h
 exact propext ⟨aux _ _ _, aux _ _ _⟩
theorem jr (P Q R : HProp) : star (star P Q) R = star P (star Q R) := by
 funext h
 apply propext
 constructor
 ·rintro ⟨ab, c, hd, rfl, ⟨a, b, hd', rfl, hp, hq⟩, hr⟩
  have hd2 := Hp.disj_join.1 (Hp.disj_comm hd)
  exact ⟨a, Hp.join b c, Hp.disj_join.2 ⟨hd', Hp.disj_comm hd2.1⟩, Hp.join_assoc a b c, hp, b, c, Hp.disj_comm hd2.2, rfl, hq, hr⟩
 ·rintro ⟨a, bc, hd, rfl, hp, b, c, hd', rfl, hq, hr⟩
  have hd2 := Hp.disj_join.1 hd
  exact ⟨Hp.join a b, c, Hp.disj_comm (Hp.disj_join.2 ⟨Hp.disj_comm hd2.2, Hp.disj_comm hd'⟩), (Hp.join_assoc a b c).symm, ⟨a, b, hd2.1, rfl, hp, hq⟩, hr⟩
theorem yw (P Q R : HProp) : star P (star Q R) = star Q (star P R) := by
 rw [<- jr, uy P Q, jr]
theorem u9 (P : HProp) : star emp P = P := by
 funext h
 apply propext
 constructor
 ·rintro ⟨a, b, _, rfl, ha, hp⟩
  unfold emp at ha
  subst ha
  rw [Hp.nil_join]
  exact hp
 ·intro hp
  exact ⟨Hp.nil, h, fun _ => .inl rfl, (Hp.nil_join h).symm, rfl, hp⟩
instance : Std.Associative star := ⟨jr⟩
instance : Std.Commutative star := ⟨uy⟩
theorem jo (l m : List HProp) : all (l ++ m) = star (all l) (all m) := by
 induction l with
 | nil => exact (u9 _).symm
 | cons P l ih => show star P (all (l ++ m)) = _; rw [ih]; exact (jr _ _ _).symm
def bring : Nat -> List HProp -> List HProp
 | 0, l => l
 | _ + 1, [] => []
 | k + 1, P :: l => match bring k l with
  | [] => [P]
  | Q :: m => Q :: P :: m
theorem vj (k : Nat) : ∀ l, all (bring k l) = all l := by
 induction k with
 | zero => intro l; rfl
 | succ k ih =>
  intro l
  cases l with
  | nil => rfl
  | cons P l =>
   have := ih l
   simp only [bring]
   cases hb : bring k l with
   | nil => rw [hb] at this; simp only [all] at this ⊢; rw [<- this]
   | cons Q m => rw [hb] at this; simp only [all] at this ⊢; rw [<- this, yw]
structure St (w0 : World) (l : List HProp) (w : World) : Prop where
 os : w.os = w0.os
 tape : w.tape = w0.tape
 output : w.output = w0.output
 size : w0.heap.size <= w.heap.size
 old : ∀ k, k < w0.heap.size -> w.heap[k]? = w0.heap[k]?
 own : ∃ h : Hp, (∀ k o, h k = some o -> w.heap[k]? = some o ∧ w0.heap.size <= k) ∧ all l h
section
variable {w0 w w' : World} {l m : List HProp} {P Q : HProp}
theorem St.init (w : World) : St w [] w := ⟨rfl, rfl, rfl, Ui _, fun _ _ => rfl, Hp.nil, (fun _ _ h => nomatch h), rfl⟩
theorem St.below (h : St w0 l w) : RowKit.Below w0.heap.size w0 w := ⟨h.os, h.tape, h.output, h.size, h.old⟩
theorem St.of_all (h : St w0 l w) (e : all l = all m) : St w0 m w := ⟨h.os, h.tape, h.output, h.size, h.old, by rw [<- e]; exact h.own⟩
theorem St.imp (h : St w0 l w) (e : ∀ p, all l p -> all m p) : St w0 m w :=
 ⟨h.os, h.tape, h.output, h.size, h.old, let ⟨p, a, b⟩ := h.own; ⟨p, a, e p b⟩⟩
theorem St.f (k : Nat) (h : St w0 l w) : St w0 (bring k l) w := h.of_all (vj k l).symm
theorem St.join (h : St w0 (all m :: l) w) : St w0 (m ++ l) w := h.of_all (jo m l).symm
theorem St.fold (m : List HProp) (h : St w0 (m ++ l) w) : St w0 (all m :: l) w := h.of_all (jo m l)
theorem St.drop (h : St w0 (P :: l) w) : St w0 l w := by
 obtain ⟨p, hp, a, b, hd, rfl, _, hb⟩ := h.own
 refine ⟨h.os, h.tape, h.output, h.size, h.old, b, fun k o hk => hp k o ?_, hb⟩
 unfold Hp.join
 rcases hd k with h | h
 ·rw [h]; exact hk
 ·rw [hk] at h; cases h
theorem St.ex {α : Type} {P : α -> HProp} : St w0 (ex P :: l) w ↔ ∃ x, St w0 (P x :: l) w := by
 constructor
 ·intro h
  obtain ⟨p, hp, a, b, hd, he, ⟨x, hx⟩, hb⟩ := h.own
  exact ⟨x, h.os, h.tape, h.output, h.size, h.old, p, hp, a, b, hd, he, hx, hb⟩
 ·rintro ⟨x, h⟩
  obtain ⟨p, hp, a, b, hd, he, hx, hb⟩ := h.own
  exact ⟨h.os, h.tape, h.output, h.size, h.old, p, hp, a, b, hd, he, ⟨x, hx⟩, hb⟩
theorem St.lift {φ : Prop} : St w0 (lift φ :: l) w ↔ φ ∧ St w0 l w := by
 constructor
 ·intro h
  obtain ⟨p, hp, a, b, hd, he, ⟨hφ, ha⟩, hb⟩ := h.own
  exact ⟨hφ, h.drop⟩
 ·rintro ⟨hφ, h⟩
  obtain ⟨p, hp, hb⟩ := h.own
  exact ⟨h.os, h.tape, h.output, h.size, h.old, p, hp, Hp.nil, p, fun _ => .inl rfl, (Hp.nil_join p).symm, ⟨hφ, rfl⟩, hb⟩
theorem St.mono (h : St w0 (P :: l) w) (e : ∀ p, P p -> Q p) : St w0 (Q :: l) w :=
 h.imp fun _ ⟨a, b, hd, he, hp, hb⟩ => ⟨a, b, hd, he, e _ hp, hb⟩
theorem St.hd {b : Nat} {o : Obj} (h : St w0 (pt b o :: l) w) : w.heap[b]? = some o ∧ w0.heap.size <= b := by
 obtain ⟨p, hp, a, c, hd, he, ha, hb⟩ := h.own
 refine hp b o ?_
 rw [he]
 unfold Hp.join
 unfold pt at ha
 rw [ha]
 simp
theorem ge (k : Nat) : ∀ (l : List HProp) {P : HProp}, l[k]? = some P -> bring k l = P :: l.eraseIdx k := by
 induction k with
 | zero => intro l P h; cases l with | nil => cases h | cons a l => simp at h; subst h; rfl
 | succ k ih =>
  intro l P h
  cases l with
  | nil => cases h
  | cons a l => simp only [bring]; rw [ih l (by simpa using h)]; rfl
theorem St.b (k : Nat) {b : Nat} {o : Obj} (h : St w0 l w) (hk : l[k]? = some (pt b o) := by rfl) : w.heap[b]? = some o :=
 (show St w0 (pt b o :: l.eraseIdx k) w from (ge k l hk) ▸ h.f k).hd.1
theorem St.cell_old (h : St w0 l w) {a : Addr} (ha : a.block < w0.heap.size) : w.cell? a = w0.cell? a := World.cell?_of_block (h.old _ ha)
theorem St.grow (h : St w0 l w) (ho : w'.os = w.os) (ht : w'.tape = w.tape) (hp : w'.output = w.output) (hs : w.heap.size <= w'.heap.size)
  (hb : ∀ k, k < w.heap.size -> w'.heap[k]? = w.heap[k]?) : St w0 l w' := by
 obtain ⟨p, hq, hl⟩ := h.own
 refine ⟨ho.trans h.os, ht.trans h.tape, hp.trans h.output, Vf h.size hs, fun k hk => (hb k (Nat.lt_of_lt_of_le hk h.size)).trans (h.old k hk), p, fun k o hk => ?_, hl⟩
 have := hq k o hk
 exact ⟨by rw [hb k (Array.getElem?_eq_some_iff.1 this.1).1]; exact this.1, this.2⟩
theorem St.drew (h : St w0 l w) : St w0 l w.drew := h.grow rfl rfl rfl (Ui _) (fun _ _ => rfl)
theorem St.drewN (h : St w0 l w) (n : Nat) : St w0 l (w.drewN n) := h.grow rfl rfl rfl (Ui _) (fun _ _ => rfl)
theorem St.grow1 (h : St w0 l w) (ho : w'.os = w.os) (ht : w'.tape = w.tape) (hp : w'.output = w.output) (hs : w.heap.size <= w'.heap.size)
  (hb : ∀ k, k < w.heap.size -> w'.heap[k]? = w.heap[k]?) {g : Nat} {o : Obj} (hg : w.heap.size <= g) (hn : w'.heap[g]? = some o) : St w0 (pt g o :: l) w' := by
 have h' := h.grow ho ht hp hs hb
 obtain ⟨p, hq, hl⟩ := h.own
 have hpg : p g = none := by
  cases hc : p g with
  | none => rfl
  | some o' => exact absurd (Array.getElem?_eq_some_iff.1 (hq g o' hc).1).1 O3
 refine ⟨h'.os, h'.tape, h'.output, h'.size, h'.old, Hp.join (fun k => if k = g then some o else none) p, ?_, (fun k => if k = g then some o else none), p, ?_, rfl, rfl, hl⟩
 ·intro k o' hk
  unfold Hp.join at hk
  by_cases e : k = g
  ·subst e; simp at hk; subst hk; exact ⟨hn, Vf h.size hg⟩
  ·simp [e] at hk
   have := hq k o' hk
   exact ⟨by rw [hb k (Array.getElem?_eq_some_iff.1 this.1).1]; exact this.1, this.2⟩
 ·intro k
  by_cases e : k = g
  ·subst e; exact .inr hpg
  ·exact .inl (by simp [e])
theorem St.alloc (h : St w0 l w) (o : Obj) : St w0 (pt w.heap.size o :: l) (w.alloc o) :=
 h.grow1 (w' := w.alloc o) rfl rfl rfl O8 (fun k hk => RowKit.Below.heap_alloc w o k hk) (Ui _) (heap_alloc_new w o)
theorem St.put {b : Nat} {o o' : Obj} (h : St w0 (pt b o :: l) w) (ho : w'.os = w.os) (ht : w'.tape = w.tape) (hp : w'.output = w.output) (hs : w.heap.size = w'.heap.size)
  (hb : ∀ k, k ≠ b -> w'.heap[k]? = w.heap[k]?) (hn : w'.heap[b]? = some o') : St w0 (pt b o' :: l) w' := by
 have hnew := h.hd.2
 obtain ⟨p, hq, a, c, hd, he, ha, hl⟩ := h.own
 unfold pt at ha
 subst ha
 have hcb : c b = none := by
  rcases hd b with h | h
  ·simp at h
  ·exact h
 refine ⟨ho.trans h.os, ht.trans h.tape, hp.trans h.output, hs ▸ h.size, fun k hk => (hb k O3).trans (h.old k hk), Hp.join (fun k => if k = b then some o' else none) c, ?_, (fun k => if k = b then some o' else none), c, ?_, rfl, rfl, hl⟩
 ·intro k q hk
  unfold Hp.join at hk
  by_cases e : k = b
  ·subst e; simp at hk; subst hk; exact ⟨hn, hnew⟩
  ·simp [e] at hk
   have := hq k q (by rw [he]; unfold Hp.join; simp [e, hk])
   exact ⟨by rw [hb k e]; exact this.1, this.2⟩
 ·intro k
  by_cases e : k = b
  ·subst e; exact .inr hcb
  ·exact .inl (by simp [e])
theorem St.putk (k : Nat) {b : Nat} {o o' : Obj} (h : St w0 l w) (hk : l[k]? = some (pt b o)) (ho : w'.os = w.os) (ht : w'.tape = w.tape) (hp : w'.output = w.output) (hs : w.heap.size = w'.heap.size)
  (hb : ∀ k, k ≠ b -> w'.heap[k]? = w.heap[k]?) (hn : w'.heap[b]? = some o') : St w0 (l.set k (pt b o')) w' := by
 have h1 : St w0 (pt b o :: l.eraseIdx k) w := (ge k l hk) ▸ h.f k
 have h2 := h1.put ho ht hp hs hb hn
 have hlt : k < l.length := by
  rcases Nat.lt_or_ge k l.length with h | h
  ·exact h
  ·rw [Uq h] at hk; cases hk
 have e : bring k (l.set k (pt b o')) = pt b o' :: l.eraseIdx k := by
  rw [ge k (l.set k (pt b o')) (P := pt b o') (by simp [hlt]), List.eraseIdx_set_eq]
 refine h2.of_all ?_
 rw [<- e, vj]
end
end
section
abbrev Env := Nat -> Value
def upd (e : Env) (d : Nat) (v : Value) : Env := fun i => bif Nat.beq i d then v else e i
def updO (e : Env) : Option Nat -> Value -> Env
 | some d, v => upd e d v
 | none, _ => e
def ev (e : Env) : Operand -> Value
 | .tmp t => e t
 | .const v => v
 | .global g => .pz g
 | .func f => .func (.func f) #[] #[]
theorem jl (e : Env) (d : Nat) (v : Value) : upd e d v d = v := by simp [upd]
theorem q8 {e : Env} {d i : Nat} {v : Value} (h : i ≠ d) : upd e d v i = e i := by
 have : Nat.beq i d = false := by
  cases hb : Nat.beq i d with
  | false => rfl
  | true => exact absurd (Uh hb) h
 unfold upd; rw [this]; rfl
theorem y7 {e : Env} {c d : Nat} {u v : Value} (h : c ≠ d) : upd (upd e c u) d v = upd (upd e d v) c u := by
 funext i
 by_cases h1 : i = c
 ·subst h1; rw [q8 h, jl, jl]
 ·by_cases h2 : i = d
  ·subst h2; rw [jl, q8 h1, jl]
  ·rw [q8 h2, q8 h1, q8 h1, q8 h2]
theorem y8 {e : Env} {d : Nat} {v : Value} (h : e d = v) : upd e d v = e := by
 funext i
 by_cases h1 : i = d
 ·subst h1; rw [jl, h]
 ·rw [q8 h1]
structure Fits (n : Nat) (e : Env) (a : Act) : Prop where
 defers : a.defers = []
 size : a.tmps.size = n
 get : ∀ i, a.tmps.getD i undef = e i
theorem Fits.eval {n : Nat} {e : Env} {a : Act} (h : Fits n e a) : a.eval = ev e := by
 funext x
 cases x with
 | tmp t => exact h.get t
 | _ => rfl
def okd (n : Nat) : Option Nat -> Bool
 | some d => Vi d n
 | none => true
theorem Fits.put {n : Nat} {e : Env} {a : Act} (h : Fits n e a) {d : Option Nat} (hd : okd n d = true) (v : Value) : Fits n (updO e d v) (a.put d v) := by
 cases d with
 | none => exact h
 | some d =>
  have hlt : d < n := by simpa [okd, Uy] using hd
  refine ⟨h.defers, by simp [Act.put, h.size], fun i => ?_⟩
  simp only [Act.put, updO]
  by_cases hi : i = d
  ·subst hi
   rw [jl]
   simp [h.size, hlt]
  ·rw [q8 hi, <- h.get i]
   simp [Array.getD_eq_getD_getElem?, Array.getElem?_setIfInBounds, Ne.symm hi]
abbrev Post := Exit -> Env -> World -> Prop
def lft (n : Nat) (Q : Post) : Exit -> Act -> World -> Prop := fun x a w => ∃ e, Fits n e a ∧ Q x e w
theorem y9 {n : Nat} {Q Q' : Post} (h : ∀ x e w, Q x e w -> Q' x e w) : ∀ x a w, lft n Q x a w -> lft n Q' x a w :=
 fun x _ w ⟨e, f, q⟩ => ⟨e, f, h x e w q⟩
def Cd (P : Program) (n : Nat) (c : Code) (Q : Post) (e : Env) (w : World) : Prop := ∀ a, Fits n e a -> c.wp P (lft n Q) a w
def Rn (P : Program) (n : Nat) (ops : Array Oper) (Q : Post) (l : List Oper) (e : Env) (w : World) : Prop := ∀ a, Fits n e a -> wpList P ops (lft n Q) l a w
def Ex (P : Program) (o : Oper) (e : Env) (w : World) (K : Env -> World -> Prop) : Prop :=
 match (execOp (ev e) o).run P w with
 | .ok (.value v) w' => K (updO e o.dst v) w'
 | .ok .skip w' => K (updO e o.dst undef) w'
 | .ok (.enter f args) w' => Calls P f args w' fun en w'' => ∃ v, en = .returned v ∧ K (updO e o.dst v) w''
 | _ => False
theorem Ex.mono {P : Program} {o : Oper} {e : Env} {w : World} {K K' : Env -> World -> Prop} (h : Ex P o e w K) (hk : ∀ e w, K e w -> K' e w) : Ex P o e w K' := by
 unfold Ex at h ⊢
 split at h
 ·exact hk _ _ h
 ·exact hk _ _ h
 ·exact h.mono fun _ _ ⟨v, a, b⟩ => ⟨v, a, hk _ _ b⟩
 ·exact h.elim
theorem Ex.wp {P : Program} {n : Nat} {o : Oper} {e : Env} {w : World} {K : Env -> World -> Prop} {K' : Act -> World -> Prop} {Q : Post} {a : Act}
  (h : Ex P o e w K) (hf : Fits n e a) (hd : okd n o.dst = true) (hk : ∀ e a w, Fits n e a -> K e w -> K' a w) : o.wp P a w K' (lft n Q) := by
 unfold Oper.wp
 rw [hf.eval]
 unfold Ex at h
 split at h
 ·rename_i v w' hr; rw [hr]; exact hk _ _ _ (hf.put hd _) h
 ·rename_i w' hr; rw [hr]; exact hk _ _ _ (hf.put hd _) h
 ·rename_i f args w' hr
  rw [hr]
  refine h.mono ?_
  rintro en w'' ⟨v, rfl, hv⟩
  exact hk _ _ _ (hf.put hd _) hv
 ·exact h.elim
def gv (ops : Array Oper) (e : Env) (j : Nat) : Option Bool :=
 match ((ops[j]?).bind (·.dst)) with
 | some d => match e d with
  | .bool b => some b
  | _ => none
 | none => none
theorem gp {n : Nat} {ops : Array Oper} {e : Env} {a : Act} (hf : Fits n e a) (j : Nat) : yielded ops a.tmps j = gv ops e j := by
 unfold yielded gv
 cases h : (ops[j]?).bind (·.dst) with
 | none => simp
 | some d =>
  simp only [Option.bind_some]
  have := hf.get d
  rw [Array.getD_eq_getD_getElem?] at this
  rw [<- this]
  cases a.tmps[d]? with
  | none => simp [undef]
  | some v => cases v <;> simp
section
variable {P : Program} {n : Nat} {ops : Array Oper} {Q : Post} {o : Oper} {rest : List Oper} {e : Env} {w : World}
theorem qj (h : Q .normal e w) : Rn P n ops Q [] e w := fun _ hf => ⟨e, hf, h⟩
theorem r_c {d : Option Nat} {op : Op} {ty : TypeId} {pos : String} {af : Array Edge} (hd : okd n d = true) (h : Ex P ⟨d, op, ty, pos, af, none⟩ e w (fun e' w' => Rn P n ops Q rest e' w')) :
  Rn P n ops Q (⟨d, op, ty, pos, af, none⟩ :: rest) e w := by
 intro a hf
 unfold wpList
 rw [if_pos (by simp [Region.wanted])]
 exact .inl (Ex.wp h hf hd (fun e a w hf hr => hr a hf))
theorem r_g {d : Option Nat} {op : Op} {ty : TypeId} {pos : String} {af : Array Edge} {j : Nat} {want : Bool} (hd : okd n d = true) (b : Bool) (hg : gv ops e j = some b)
  (h1 : b = want -> Ex P ⟨d, op, ty, pos, af, some (j, want)⟩ e w (fun e' w' => Rn P n ops Q rest e' w')) (h2 : b = !want -> Rn P n ops Q rest (updO e d undef) w) :
  Rn P n ops Q (⟨d, op, ty, pos, af, some (j, want)⟩ :: rest) e w := by
 intro a hf
 unfold wpList
 have hy := gp (ops := ops) hf j
 by_cases hb : b = want
 ·subst hb
  rw [if_pos (by simp [Region.wanted, hy, hg])]
  exact .inl (Ex.wp (h1 rfl) hf hd (fun e a w hf hr => hr a hf))
 ·rw [if_neg (by simp [Region.wanted, hy, hg, hb])]
  exact h2 (by cases b <;> cases want <;> simp_all) _ (hf.put hd _)
theorem r_gd {d : Option Nat} {op : Op} {ty : TypeId} {pos : String} {af : Array Edge} {j : Nat} {want b : Bool} (hg : gv ops e j = some b) (hb : b = want) (h : Rn P n ops Q (⟨d, op, ty, pos, af, none⟩ :: rest) e w) :
  Rn P n ops Q (⟨d, op, ty, pos, af, some (j, want)⟩ :: rest) e w := by
 subst hb
 intro a hf
 have := h a hf
 unfold wpList at this ⊢
 rw [if_pos (by simp [Region.wanted])] at this
 rw [if_pos (by simp [Region.wanted, gp (ops := ops) hf j, hg])]
 exact this
theorem r_gn {d : Option Nat} {op : Op} {ty : TypeId} {pos : String} {af : Array Edge} {j : Nat} {want b : Bool} (hg : gv ops e j = some b) (hb : b = !want) (hd : okd n d = true) (h2 : Rn P n ops Q rest (updO e d undef) w) :
  Rn P n ops Q (⟨d, op, ty, pos, af, some (j, want)⟩ :: rest) e w := r_g hd b hg (fun h => by subst hb; cases want <;> cases h) (fun _ => h2)
end
section
variable {P : Program} {n : Nat} {Q : Post} {e : Env} {w : World}
theorem jj {id : Nat} {l : List Oper} (h : Rn P n l.toArray Q l e w) : Cd P n (.region id l.toArray false) Q e w :=
 fun a hf => wp_region_lit (h a hf)
abbrev thn (next : Env -> World -> Prop) (Q : Post) : Post
 | .normal, e, w => next e w
 | x, e, w => Q x e w
theorem ql {x y : Code} (h : Cd P n x (thn (fun e w => Cd P n y Q e w) Q) e w) : Cd P n (.seq x y) Q e w := by
 intro a hf
 refine wp_seq (wp_mono (h a hf) ?_)
 rintro ex a' w' ⟨e', hf', hq⟩
 cases ex with
 | normal => exact hq a' hf'
 | _ => exact ⟨e', hf', hq⟩
abbrev inB (id : Nat) (Q : Post) : Post
 | .exit id', e, w => if id' = id then Q .normal e w else Q (.exit id') e w
 | x, e, w => Q x e w
theorem ut {id : Nat} {c : Code} (h : Cd P n c (inB id Q) e w) : Cd P n (.block id c) Q e w := by
 intro a hf
 refine wp_block (wp_mono (h a hf) ?_)
 rintro ex a' w' ⟨e', hf', hq⟩
 cases ex with
 | exit id' =>
  simp only [inB, Exit.inBlock] at hq ⊢
  split
  ·rename_i h; rw [if_pos h] at hq; exact ⟨e', hf', hq⟩
  ·rename_i h; rw [if_neg h] at hq; exact ⟨e', hf', hq⟩
 | _ => exact ⟨e', hf', hq⟩
theorem qo {c : Operand} {x y : Code} (b : Bool) (hb : ev e c = .bool b) (h1 : b = true -> Cd P n x Q e w) (h2 : b = false -> Cd P n y Q e w) : Cd P n (.cond c x y) Q e w := by
 intro a hf
 refine wp_cond_split (t := b) (by rw [hf.eval]; exact hb) (fun h => h1 h a hf) (fun h => h2 h a hf)
theorem qr {c : Operand} {x y : Code} (hb : ev e c = .bool true) (h : Cd P n x Q e w) : Cd P n (.cond c x y) Q e w := qo true hb (fun _ => h) (fun h => by cases h)
theorem qn {c : Operand} {x y : Code} (hb : ev e c = .bool false) (h : Cd P n y Q e w) : Cd P n (.cond c x y) Q e w := qo false hb (fun h => by cases h) (fun _ => h)
theorem qy (h : Q .ret e w) : Cd P n .ret Q e w := fun _ hf => wp_ret ⟨e, hf, h⟩
theorem q6 (h : Q .normal e w) : Cd P n .skip Q e w := fun _ hf => wp_skip ⟨e, hf, h⟩
theorem gg {id : Nat} (h : Q (.exit id) e w) : Cd P n (.exit id) Q e w := fun _ hf => wp_exit ⟨e, hf, h⟩
theorem Cd.mono {c : Code} {Q' : Post} (h : Cd P n c Q e w) (hq : ∀ x e w, Q x e w -> Q' x e w) : Cd P n c Q' e w :=
 fun a hf => wp_mono (h a hf) (y9 hq)
def sets (e : Env) : List (Nat × Value) -> Env
 | [] => e
 | (i, v) :: l => upd (sets e l) i v
def holds (e : Env) : List (Nat × Value) -> Prop
 | [] => True
 | (i, v) :: l => e i = v ∧ holds e l
theorem sets_of_holds {e : Env} : ∀ {l : List (Nat × Value)}, holds e l -> sets e l = e
 | [], _ => rfl
 | (i, v) :: l, h => by unfold sets; rw [sets_of_holds h.2]; exact y8 h.1
theorem gu {Γ : Type} {c : Code} (s : Γ -> List (Nat × Value)) (φ : Γ -> World -> Prop) (μ : Γ -> Nat) (γ : Γ) (hs : holds e (s γ)) (hφ : φ γ w)
  (round : ∀ γ w e, φ γ w -> Cd P n c (thn (fun e' w' => ∃ γ', holds e' (s γ') ∧ φ γ' w' ∧ μ γ' < μ γ) Q) (sets e (s γ)) w) : Cd P n (.loop c) Q e w := by
 intro a hf
 refine wp_loop_ghost (fun m a w => ∃ γ e, μ γ = m ∧ Fits n e a ∧ holds e (s γ) ∧ φ γ w) (μ γ) ⟨γ, e, rfl, hf, hs, hφ⟩ ?_
 rintro m a w ⟨γ, e, rfl, hf, hs, hφ⟩
 have := round γ w e hφ a (by rw [sets_of_holds hs]; exact hf)
 refine wp_mono this ?_
 rintro ex a' w' ⟨e', hf', hq⟩
 cases ex with
 | normal =>
  obtain ⟨γ', h1, h2, h3⟩ := hq
  exact ⟨μ γ', h3, γ', e', rfl, hf', h1, h2⟩
 | _ => exact ⟨e', hf', hq⟩
theorem jp {Γ : Type} {x y : Code} (s : Γ -> List (Nat × Value)) (φ : Γ -> World -> Prop) (h : Cd P n x (thn (fun e' w' => ∃ γ, holds e' (s γ) ∧ φ γ w') Q) e w)
  (k : ∀ γ w e, φ γ w -> Cd P n y Q (sets e (s γ)) w) : Cd P n (.seq x y) Q e w := by
 refine ql (h.mono ?_)
 intro ex e' w' hq
 cases ex with
 | normal =>
  obtain ⟨γ, h1, h2⟩ := hq
  have := k γ w' e' h2
  rw [sets_of_holds h1] at this
  exact this
 | _ => exact hq
end
def Ret (P : Program) (f : FuncId) (args : List Value) (w : World) (φ : Value -> World -> Prop) : Prop :=
 Calls P f args.toArray w fun en w' => ∃ v, en = .returned v ∧ φ v w'
theorem Ret.mono {P : Program} {f : FuncId} {args : List Value} {w : World} {φ ψ : Value -> World -> Prop} (h : Ret P f args w φ) (hk : ∀ v w, φ v w -> ψ v w) : Ret P f args w ψ :=
 Calls.mono h fun _ _ ⟨v, a, b⟩ => ⟨v, a, hk _ _ b⟩
def packv : List Value -> Value
 | [v] => v
 | vs => .tuple vs.toArray
def rsk (P : Program) (e : Env) (w : World) : List ResultVar -> (List Value -> Prop) -> Prop
 | [], k => k []
 | .tmp t :: rs, k => rsk P e w rs fun vs => k (e t :: vs)
 | .cell a t :: rs, k => ∃ v, (do loadVar t (<- asAddr (e a)) : Sem Value).run P w = .ok v w ∧ rsk P e w rs fun vs => k (v :: vs)
def bq (P : Program) (rs : List ResultVar) (φ : Value -> World -> Prop) : Post
 | .normal, e, w => rsk P e w rs fun vs => φ (packv vs) w
 | .ret, e, w => rsk P e w rs fun vs => φ (packv vs) w
 | _, _, _ => False
def envOf (l : List Value) : Env := fun i => l.getD i undef
def rone (e : Env) : ResultVar -> Sem Value
 | .tmp t => pure (e t)
 | .cell x t => do loadVar t (<- asAddr (e x))
theorem bq0n {P : Program} {φ : Value -> World -> Prop} {e : Env} {w : World} (h : φ (.tuple #[]) w) : bq P [] φ .normal e w := h
theorem bq1 {P : Program} {φ : Value -> World -> Prop} {e : Env} {w : World} {a : Tmp} (h : φ (e a) w) : bq P [.tmp a] φ .ret e w := h
theorem bq2 {P : Program} {φ : Value -> World -> Prop} {e : Env} {w : World} {a b : Tmp} (h : φ (.tuple [e a, e b].toArray) w) : bq P [.tmp a, .tmp b] φ .ret e w := h
theorem bqc {P : Program} {φ : Value -> World -> Prop} {e : Env} {w : World} {a : Tmp} {t : TypeId} {v : Value} (hv : (do loadVar t (<- asAddr (e a)) : Sem Value).run P w = .ok v w) (h : φ v w) : bq P [.cell a t] φ .ret e w := ⟨v, hv, h⟩
theorem ui {P : Program} {e : Env} {w : World} : ∀ {rs : List ResultVar} {k : List Value -> Prop}, rsk P e w rs k ->
  ∃ vs : List Value, (rs.mapM (rone e) : Sem (List Value)).run P w = .ok vs w ∧ k vs
 | [], k, h => ⟨[], by simp [List.mapM_nil], h⟩
 | .tmp t :: rs, k, h => by
  obtain ⟨vs, h1, h2⟩ := ui (rs := rs) h
  exact ⟨e t :: vs, by simp [List.mapM_cons, rone, h1], h2⟩
 | .cell x t :: rs, k, h => by
  obtain ⟨v, h0, h⟩ := h
  obtain ⟨vs, h1, h2⟩ := ui (rs := rs) h
  refine ⟨v :: vs, ?_, h2⟩
  rw [List.mapM_cons, Sem.run_bind, show (rone e (.cell x t)).run P w = .ok v w from h0]
  simp [h1]
theorem enter {P : Program} {f : FuncId} {fn : Func} {c : Code} {n : Nat} {rs : List ResultVar} {args : List Value} {w : World} {φ : Value -> World -> Prop}
  (hf : P.funcs[f]? = some fn) (hb : fn.body = some c) (hr : fn.results = rs.toArray) (hn : fn.ntmps = n) (hl : Nat.ble args.length n = true)
  (h : Cd P n c (bq P rs φ) (envOf args) w) : Ret P f args w φ := by
 subst hn
 refine calls_of_wp hf hb ?_
 have hl' : args.length <= fn.ntmps := Uj hl
 refine wp_mono (h _ ⟨rfl, by simp; omega, fun i => ?_⟩) ?_
 ·unfold envOf
  simp only [Array.getD_eq_getD_getElem?, List.getD_eq_getElem?_getD]
  by_cases hi : i < args.length
  ·simp [Array.getElem?_append, hi]
  ·simp only [Array.getElem?_append, Vj, hi, if_false]
   by_cases hi2 : i - args.length < fn.ntmps - args.length
   ·simp [hi2, Uq (Nat.le_of_not_lt hi)]
   ·simp [hi2, Uq (Nat.le_of_not_lt hi)]
 ·rintro ex a w' ⟨e, hfit, hq⟩
  have key : rsk P e w' rs (fun vs => φ (packv vs) w') -> a.defers = [] ∧ ∃ v, (results fn a.tmps).run P w' = .ok v w' ∧ ∃ u, Ending.returned v = .returned u ∧ φ u w' := by
   intro hq
   obtain ⟨vs, h1, h2⟩ := ui hq
   refine ⟨hfit.defers, packv vs, ?_, _, rfl, h2⟩
   have hx : ∀ (g : ResultVar -> Sem Value), (∀ x, g x = rone e x) -> List.mapM g rs = List.mapM (rone e) rs := fun g hg => by rw [funext hg]
   unfold results
   rw [hr, List.mapM_toArray, hx _ (fun x => by cases x <;> simp only [rone, hfit.get])]
   simp [h1]
   cases vs with
   | nil => rfl
   | cons v vs =>
    cases vs with
    | nil => rfl
    | cons u vs => simp [packv]
  cases ex with
  | normal => exact key hq
  | ret => exact key hq
  | _ => exact hq.elim
attribute [irreducible] Rn Cd Ex Ret
theorem en {P : Program} {f : FuncId} {fn : Func} {c : Code} {n : Nat} {rs : List ResultVar} {args : List Value} {w : World} {φ : Value -> World -> Prop} (hf : P.funcs[f]? = some fn) (hr : fn.results = rs.toArray) (hn : fn.ntmps = n) (h : Cd P n c (bq P rs φ) (envOf args) w) (hb : fn.body = some c := by rfl) (hl : Nat.ble args.length n = true := by rfl) : Ret P f args w φ := enter hf hb hr hn hl h
end
section
theorem execOp_congr {ρ ρ' : Operand -> Value} {o : Oper} (h : ∀ x ∈ o.op.operands, ρ x = ρ' x) : execOp ρ o = execOp ρ' o := by
 obtain ⟨d, op, ty, pos, af, g⟩ := o
 have hmap : ∀ l : Array Operand, (∀ x ∈ l, ρ x = ρ' x) -> l.map ρ = l.map ρ' := fun l hl => Array.map_congr_left hl
 have hpar : ∀ l : Array (Nat × Operand), (∀ x ∈ (l.toList.map (·.2)).toArray, ρ x = ρ' x) -> l.map (fun (i, x) => (i, ρ x)) = l.map (fun (i, x) => (i, ρ' x)) := by
  intro l hl
  refine Array.map_congr_left ?_
  rintro ⟨i, x⟩ hx
  simp only [Prod.mk.injEq, true_and]
  exact hl x (by simp; exact ⟨i, hx⟩)
 have hopt : ∀ l : Option Operand, (∀ x ∈ l.toArray, ρ x = ρ' x) -> l.map ρ = l.map ρ' := by
  intro l hl
  cases l with
  | none => rfl
  | some x => simp [hl x O8]
 cases op <;> simp only [Op.operands] at h
 case alloc => rfl
 case ready => rfl
 case waits => rfl
 case build t ps => simp only [execOp]; rw [hpar ps h]
 case buildSlice t n ps => simp only [execOp]; rw [hpar ps h]
 case makeFunc fn a b => simp only [execOp]; rw [hmap a (fun x hx => h x O12), hmap b (fun x hx => h x O12)]
 case makeMap t r => simp only [execOp]; rw [hopt r h]
 case slice t x l hi m =>
  simp only [execOp]
  rw [h x O8, hopt l (fun y hy => h y (by simp at hy ⊢; simp [hy])), hopt hi (fun y hy => h y (by simp at hy ⊢; simp [hy])), hopt m (fun y hy => h y (by simp at hy ⊢; simp [hy]))]
 case call c =>
  obtain ⟨cl, args, tys⟩ := c
  cases cl <;> simp only [execOp, resolve, Call.operands] at h ⊢
  ·rw [hmap args (fun x hx => h x O12), h _ O8]
  ·rw [hmap args (fun x hx => h x O12), h _ O8]
  ·rw [hmap args (fun x hx => h x O12)]
 case go c =>
  obtain ⟨cl, args, tys⟩ := c
  cases cl <;> simp only [execOp, resolve, Call.operands] at h ⊢
  ·rw [hmap args (fun x hx => h x O12), h _ O8]
  ·rw [hmap args (fun x hx => h x O12), h _ O8]
  ·rw [hmap args (fun x hx => h x O12)]
 case defer c =>
  obtain ⟨cl, args, tys⟩ := c
  cases cl <;> simp only [execOp, resolve, Call.operands] at h ⊢
  ·rw [hmap args (fun x hx => h x O12), h _ O8]
  ·rw [hmap args (fun x hx => h x O12), h _ O8]
  ·rw [hmap args (fun x hx => h x O12)]
 case select cs b =>
  simp only [execOp]
  have : cs.mapM (fun s => do pure ({ chan := ρ s.chan, send := s.send.map ρ, zero := <- zeroValue s.elem } : CommCase) : SelectCase -> Sem CommCase)
    = cs.mapM (fun s => do pure ({ chan := ρ' s.chan, send := s.send.map ρ', zero := <- zeroValue s.elem } : CommCase) : SelectCase -> Sem CommCase) := by
   have key : ∀ l : List SelectCase, (∀ s ∈ l, s ∈ cs) -> l.mapM (fun s => do pure ({ chan := ρ s.chan, send := s.send.map ρ, zero := <- zeroValue s.elem } : CommCase) : SelectCase -> Sem CommCase)
     = l.mapM (fun s => do pure ({ chan := ρ' s.chan, send := s.send.map ρ', zero := <- zeroValue s.elem } : CommCase) : SelectCase -> Sem CommCase) := by
    intro l
    induction l with
    | nil => intro _; simp only [List.mapM_nil]
    | cons s l ih =>
     intro hl
     have h1 : ρ s.chan = ρ' s.chan := h _ (by simp only [Array.mem_flatMap]; exact ⟨s, hl s O8, by simp⟩)
     have h2 : s.send.map ρ = s.send.map ρ' := hopt _ (fun x hx => h _ (by simp only [Array.mem_flatMap]; exact ⟨s, hl s O8, by simp [Array.mem_append, hx]⟩))
     simp only [List.mapM_cons, h1, h2, ih (fun t ht => hl t (by simp [ht]))]
   rw [<- Array.toArray_toList (xs := cs), List.mapM_toArray, List.mapM_toArray, key cs.toList (fun s hs => by simpa using hs)]
  rw [this]
 all_goals (simp at h; simp [execOp, h])
def rdy (ops : Array Oper) (todo : List Nat) (i : Nat) : Bool :=
 match ops.toList[i]? with
 | some o => o.after.toList.all fun e => !Region.binds .any e || !todo.contains e.on
 | none => false
theorem toList_get (ops : Array Oper) (i : Nat) : ops.toList[i]? = ops[i]? := by simp
def Wn (P : Program) (ops : Array Oper) (i : Nat) (e : Env) (w : World) (K : Env -> World -> Prop) : Prop :=
 match ops[i]? with
 | some o => (Region.wanted o (gv ops e) = true -> Ex P o e w K) ∧ (Region.wanted o (gv ops e) = false -> K (updO e o.dst undef) w)
 | none => False
def Any (P : Program) (ops : Array Oper) (J : List Nat -> World -> Prop) (Q : Env -> World -> Prop) : Nat -> List Nat -> Env -> World -> Prop
 | 0, _, e, w => Q e w
 | k + 1, todo, e, w => ∀ i, i ∈ todo -> rdy ops todo i = true -> Wn P ops i e w fun e' w' => J (todo.erase i) w' ∧ Any P ops J Q k (todo.erase i) e' w'
def fwdL (n : Nat) : List Oper -> Nat -> Bool
 | [], _ => true
 | o :: l, i => o.after.toList.all (fun e => Vi e.on i) && okd n o.dst && fwdL n l (i + 1)
def fwd (n : Nat) (ops : Array Oper) : Bool := fwdL n ops.toList 0
theorem fwdL_get {n : Nat} : ∀ {l : List Oper} {k i : Nat} {o : Oper}, fwdL n l k = true -> l[i]? = some o -> (o.after.toList.all (fun e => Vi e.on (k + i)) && okd n o.dst) = true
 | [], _, _, _, _, h => by simp at h
 | a :: l, k, 0, o, hf, h => by
  simp only [Uu, Up] at h
  subst h
  simp only [fwdL, Uc] at hf
  simp only [Vn, Uc]
  exact hf.1
 | a :: l, k, i + 1, o, hf, h => by
  simp only [fwdL, Uc] at hf
  have := fwdL_get (i := i) hf.2 (by simpa using h)
  rw [show k + (i + 1) = k + 1 + i by omega]
  exact this
theorem kq {n : Nat} {ops : Array Oper} (h : fwd n ops = true) {i : Nat} {o : Oper} (ho : ops[i]? = some o) : (∀ e ∈ o.after, e.on < i) ∧ okd n o.dst = true := by
 have := fwdL_get (i := i) h (by rw [toList_get]; exact ho)
 simp only [Vo, Uc, Un] at this
 exact ⟨fun e he => by simpa [Uy] using this.1 e (by simpa using he), this.2⟩
def edgeOkR (rk : List Nat) (m i : Nat) (e : Edge) : Bool := Vi e.on m && (match e.ground with
 | .gcOnly _ => Vi (rk.getD e.on 0) (rk.getD i 0)
 | .textOnly _ => Vi e.on i
 | _ => Vi e.on i && Vi (rk.getD e.on 0) (rk.getD i 0))
def fwdRL (n m : Nat) (rk : List Nat) : List Oper -> Nat -> Bool
 | [], _ => true
 | o :: l, i => o.after.toList.all (edgeOkR rk m i) && okd n o.dst && fwdRL n m rk l (i + 1)
def fwdR (rk : List Nat) (n : Nat) (ops : Array Oper) : Bool := fwdRL n ops.toList.length rk ops.toList 0
theorem fwdRL_get {n m : Nat} {rk : List Nat} : ∀ {l : List Oper} {k i : Nat} {o : Oper}, fwdRL n m rk l k = true -> l[i]? = some o -> (o.after.toList.all (edgeOkR rk m (k + i)) && okd n o.dst) = true
 | [], _, _, _, _, h => by simp at h
 | a :: l, k, 0, o, hf, h => by
  simp only [Uu, Up] at h
  subst h
  simp only [fwdRL, Uc] at hf
  simp only [Vn, Uc]
  exact hf.1
 | a :: l, k, i + 1, o, hf, h => by
  simp only [fwdRL, Uc] at hf
  have := fwdRL_get (i := i) hf.2 (by simpa using h)
  rw [show k + (i + 1) = k + 1 + i by omega]
  exact this
def EdgesOk (n : Nat) (ops : Array Oper) : Prop := ∀ md : Region.Mode, ∃ rank : Nat -> Nat, ∀ i o, ops[i]? = some o -> (∀ e ∈ o.after, e.on < ops.size ∧ (Region.binds md e = true -> rank e.on < rank i)) ∧ okd n o.dst = true
theorem yh {n : Nat} {ops : Array Oper} (h : fwd n ops = true) : EdgesOk n ops := fun md => by
 refine ⟨id, fun i o ho => ⟨fun e he => ?_, (kq h ho).2⟩⟩
 have := (kq h ho).1 e he
 have hi : i < ops.size := (Array.getElem?_eq_some_iff.1 ho).1
 exact ⟨O_o, fun _ => this⟩
theorem vp {n : Nat} {ops : Array Oper} {rk : List Nat} (h : fwdR rk n ops = true) : EdgesOk n ops := fun md => by
 have key : ∀ i o, ops[i]? = some o -> (∀ e ∈ o.after, edgeOkR rk ops.size i e = true) ∧ okd n o.dst = true := by
  intro i o ho
  have := fwdRL_get (i := i) h (by rw [toList_get]; exact ho)
  simp only [Vo, Uc, Un, Array.length_toList] at this
  exact ⟨fun e he => this.1 e (by simpa using he), this.2⟩
 cases md with
 | gc =>
  refine ⟨fun i => rk.getD i 0, fun i o ho => ⟨fun e he => ?_, (key i o ho).2⟩⟩
  have := (key i o ho).1 e he
  unfold edgeOkR at this
  simp only [Uc, Uy] at this
  refine ⟨this.1, fun hb => ?_⟩
  have h2 := this.2
  unfold Region.binds at hb
  cases hg : e.ground <;> rw [hg] at h2 hb <;> simp_all
 | text =>
  refine ⟨id, fun i o ho => ⟨fun e he => ?_, (key i o ho).2⟩⟩
  have := (key i o ho).1 e he
  unfold edgeOkR at this
  simp only [Uc, Uy] at this
  refine ⟨this.1, fun hb => ?_⟩
  have h2 := this.2
  unfold Region.binds at hb
  cases hg : e.ground <;> rw [hg] at h2 hb <;> simp_all
 | any =>
  refine ⟨id, fun i o ho => ⟨fun e he => ?_, (key i o ho).2⟩⟩
  have := (key i o ho).1 e he
  unfold edgeOkR at this
  simp only [Uc, Uy] at this
  refine ⟨this.1, fun hb => ?_⟩
  have h2 := this.2
  unfold Region.binds at hb
  cases hg : e.ground <;> rw [hg] at h2 hb <;> simp_all
theorem zq (rank : Nat -> Nat) {l : List Nat} (h : l ≠ []) : ∃ i, i ∈ l ∧ ∀ j ∈ l, rank i <= rank j := by
 induction l with
 | nil => exact absurd rfl h
 | cons a l ih =>
  by_cases hl : l = []
  ·subst hl; exact ⟨a, by simp, fun j hj => by simp at hj; subst hj; exact Ui _⟩
  ·obtain ⟨i, hi, hle⟩ := ih hl
   by_cases ha : rank a <= rank i
   ·exact ⟨a, by simp, fun j hj => by rcases Vh.1 hj with rfl | hj; exact Ui _; exact Vf ha (hle j hj)⟩
   ·exact ⟨i, by simp [hi], fun j hj => by rcases Vh.1 hj with rfl | hj; omega; exact hle j hj⟩
theorem kc {P : Program} {n : Nat} {ops : Array Oper} {J : List Nat -> World -> Prop} {Q : Post} (hfw : EdgesOk n ops) (md : Region.Mode) :
  ∀ (fuel t : Nat) (listed : Array Bool) (acc todo : List Nat), todo.length = fuel -> todo.Nodup -> (∀ i ∈ todo, i < ops.size) -> listed.size = ops.size -> (∀ i, i < ops.size -> listed.getD i true = !todo.contains i) ->
   ∃ suf, Region.linearise.go md ops fuel t listed acc = acc.reverse ++ suf ∧
    ∀ e w a, Fits n e a -> Any P ops J (Q .normal) fuel todo e w -> wpOps P ops (lft n Q) suf a w := by
 obtain ⟨rank, hE⟩ := hfw md
 intro fuel
 induction fuel with
 | zero =>
  intro t listed acc todo hl hnd hb hs hlist
  exact ⟨[], by simp [Region.linearise.go], fun e w a hf h => ⟨e, hf, h⟩⟩
 | succ fuel ih =>
  intro t listed acc todo hl hnd hb hs hlist
  simp only [Region.linearise.go]
  generalize hrs : ((List.range ops.size).filter fun i => !listed.getD i true && ((ops[i]?).map (fun o => o.after.all fun e => !Region.binds md e || listed.getD e.on false)).getD false) = rs
  have hgetF : ∀ j, j < ops.size -> listed.getD j false = listed.getD j true := by
   intro j hj
   simp [Array.getD, hs, hj]
  have hmem : ∀ i, i ∈ rs -> i ∈ todo ∧ rdy ops todo i = true := by
   intro i hi
   rw [<- hrs] at hi
   simp only [List.mem_filter, List.mem_range, Uc, Vb] at hi
   obtain ⟨hi1, hi2, hi3⟩ := hi
   rw [hlist i hi1] at hi2
   refine ⟨by simpa using hi2, ?_⟩
   unfold rdy
   rw [toList_get]
   cases ho : ops[i]? with
   | none => rw [ho] at hi3; simp at hi3
   | some o =>
    rw [ho] at hi3
    simp only [Uv, Option.getD_some, Array.all_eq_true_iff_forall_mem, Un] at hi3 ⊢
    intro e he
    have he := (Array.mem_toList_iff).1 he
    have he' := hi3 e he
    have hlt := ((hE _ _ ho).1 e he).1
    rw [hgetF e.on hlt, hlist e.on hlt] at he'
    simp only [Bool.or_eq_true, Vb] at he' ⊢
    rcases he' with h | h
    ·left
     unfold Region.binds at h ⊢
     cases hg : e.ground <;> rw [hg] at h <;> simp_all
    ·exact .inr h
  have hne : rs ≠ [] := by
   obtain ⟨i, hi, hle⟩ := zq rank (l := todo) (by intro h; rw [h] at hl; simp at hl)
   intro h
   have : i ∈ rs := by
    rw [<- hrs]
    have hib := hb i hi
    simp only [List.mem_filter, List.mem_range, Uc, Vb]
    refine ⟨hib, by rw [hlist i hib]; simpa using hi, ?_⟩
    have ho : ops[i]? = some ops[i] := by simp [hib]
    rw [ho]
    simp only [Uv, Option.getD_some, Array.all_eq_true_iff_forall_mem]
    intro e he
    obtain ⟨hlt, hrk⟩ := (hE _ _ ho).1 e he
    rw [hgetF e.on hlt, hlist e.on hlt]
    cases hbm : Region.binds md e with
    | false => simp
    | true =>
     have hrk := hrk hbm
     have : e.on ∉ todo := fun hm => by have := hle _ hm; omega
     simp [this]
   rw [h] at this; simp at this
  have hlen : 0 < rs.length := Vd.2 hne
  have hget : rs[t % rs.length]? = some (rs[t % rs.length]'(Vk _ hlen)) := by simp [Vk _ hlen]
  rw [hget]
  generalize hi : rs[t % rs.length]'(Vk _ hlen) = i
  have hir : i ∈ rs := by rw [<- hi]; exact List.getElem_mem _
  obtain ⟨him, hird⟩ := hmem i hir
  have hib := hb i him
  obtain ⟨suf, hsuf, hwp⟩ := ih (t / rs.length) (listed.setIfInBounds i true) (i :: acc) (todo.erase i) (by rw [Ut him, hl]; rfl) (hnd.erase i) (fun j hj => hb j (Va hj)) (by simp [hs]) (by
   intro j hj
   by_cases hji : j = i
   ·subst hji
    simp [Array.getD, hs, hj, hnd.not_mem_erase]
   ·have : (todo.erase i).contains j = todo.contains j := by
     simp only [List.contains_eq_mem, decide_eq_decide]
     exact hnd.mem_erase_iff.trans (by simp [hji])
    rw [this, <- hlist j hj]
    simp [Array.getD, hs, hj, Array.getElem_setIfInBounds, Ne.symm hji])
  refine ⟨i :: suf, by dsimp only; rw [hsuf]; simp, fun e w a hf h => ?_⟩
  have hW := h i him hird
  unfold Wn at hW
  cases ho : ops[i]? with
  | none => rw [ho] at hW; exact hW.elim
  | some o =>
   rw [ho] at hW
   unfold wpOps
   rw [ho]
   dsimp only
   have hy : yielded ops a.tmps = gv ops e := funext fun j => gp hf j
   rw [hy]
   have hod := (hE _ _ ho).2
   split
   ·rename_i hw
    exact .inl (Ex.wp (hW.1 hw) hf hod (fun e a w hf hk => hwp e w a hf hk.2))
   ·rename_i hw
    exact hwp _ _ _ (hf.put hod _) (hW.2 (by simpa using hw)).2
theorem zj {P : Program} {n : Nat} {id : Nat} {l : List Oper} {J : List Nat -> World -> Prop} {Q : Post} {e : Env} {w : World} (hfw : EdgesOk n l.toArray)
  (h : Any P l.toArray J (Q .normal) l.length (List.range l.length) e w.drew) : Cd P n (.region id l.toArray true) Q e w := by
 unfold Cd
 intro a hf
 refine wp_region_draw (fun t => ?_)
 have key : ∀ md t, wpOps P l.toArray (lft n Q) (Region.linearise md l.toArray t) a w.drew := by
  intro md t
  obtain ⟨suf, h1, h2⟩ := kc (P := P) (J := J) (Q := Q) hfw md l.toArray.size t (Array.replicate l.toArray.size false) [] (List.range l.toArray.size) O8 List.nodup_range O8 O8 (by
   intro i hi
   simp at hi
   simp [Array.getD, hi])
  unfold Region.linearise
  rw [h1]
  exact h2 _ _ _ hf (by simpa using h)
 unfold Region.schedule
 split
 ·exact key _ _
 ·exact key _ _
def lops : Op -> List Operand
 | .alloc _ | .ready _ | .waits _ => []
 | .move x | .assign x | .box _ x | .load _ x | .nilCheck x | .unOp _ _ x | .convert _ _ x | .sliceToArrayPointer _ x | .makeInterface _ x
 | .makeChan _ x | .fieldAddr _ x _ | .field _ x _ | .range _ x | .next x _ | .entry x | .typeAssert x _ _ _ | .extract x _ | .panic x | .recv _ x _ => [x]
 | .pick c a b => [c, a, b]
 | .build _ ps | .buildSlice _ _ ps => ps.toList.map (·.2)
 | .store _ a v | .binOp _ _ a v _ | .makeSlice _ a v | .indexAddr _ a v | .index _ a v | .lookup _ a v _ | .mapEntry _ a v | .send a v => [a, v]
 | .makeFunc _ first captured => first.toList ++ captured.toList
 | .makeMap _ r => r.toList
 | .slice _ x l h m => x :: (l.toList ++ h.toList ++ m.toList)
 | .mapUpdate _ m k v | .entryStore _ m k v | .insert _ m k v => [m, k, v]
 | .call c | .go c | .defer c => (match c.callee with | .value f => [f] | .invoke r _ => [r] | .builtin _ => []) ++ c.args.toList
 | .select cs _ => cs.toList.flatMap fun c => c.chan :: c.send.toList
theorem zg {op : Op} {x : Operand} (h : x ∈ op.operands) : x ∈ lops op := by
 cases op with
 | call c => obtain ⟨cl, a, t⟩ := c; cases cl <;> simpa [Op.operands, lops, Call.operands] using h
 | go c => obtain ⟨cl, a, t⟩ := c; cases cl <;> simpa [Op.operands, lops, Call.operands] using h
 | defer c => obtain ⟨cl, a, t⟩ := c; cases cl <;> simpa [Op.operands, lops, Call.operands] using h
 | select cs b =>
  simp only [Op.operands, Array.mem_flatMap] at h
  obtain ⟨s, hs, hx⟩ := h
  simp only [lops, List.mem_flatMap]
  exact ⟨s, by simpa using hs, by simpa using hx⟩
 | slice t y l hi m => simp [Op.operands, lops] at h ⊢; rcases h with h | h | h | h <;> simp [h]
 | _ => first | (simp [Op.operands] at h; done) | simpa [Op.operands, lops] using h
def isT (t : Nat) : Operand -> Bool
 | .tmp u => Nat.beq u t
 | _ => false
def opReads (o : Op) (t : Nat) : Bool := (lops o).any (isT t)
def gslot (ops : Array Oper) (o : Oper) : Option Nat :=
 match o.guard with
 | some (j, _) => match ops.toList[j]? with
  | some o => o.dst
  | none => none
 | none => none
def isS (d : Nat) : Option Nat -> Bool
 | some c => Nat.beq c d
 | none => false
theorem isS_false {d : Nat} {c : Option Nat} (h : isS d c = false) : c ≠ some d := by
 rintro rfl; simp [isS] at h
def confO (ops : Array Oper) (a b : Oper) : Bool := match a.dst with
  | some d => isS d b.dst || opReads b.op d || isS d (gslot ops b) || (match b.dst with
   | some c => opReads a.op c || isS c (gslot ops a)
   | none => false)
  | none => false
def edgeO (i : Nat) (o : Oper) : Bool := o.after.toList.any fun e => Region.binds .any e && Nat.beq e.on i
def edge (ops : Array Oper) (i j : Nat) : Bool :=
 match ops.toList[j]? with
 | some o => edgeO i o
 | none => false
def gokL (ops : Array Oper) : List Oper -> Nat -> Bool
 | [], _ => true
 | a :: l, i => gokA l (i + 1) i a && gokL ops l (i + 1)
where
 gokA : List Oper -> Nat -> Nat -> Oper -> Bool
  | [], _, _, _ => true
  | b :: l, j, i, a => (edgeO i b || !(confO ops a b || confO ops b a)) && gokA l (j + 1) i a
def gok (ops : Array Oper) : Bool := gokL ops ops.toList 0
theorem gokA_get {ops : Array Oper} {i : Nat} {a : Oper} : ∀ {l : List Oper} {j k : Nat} {b : Oper}, gokL.gokA ops l j i a = true -> l[k]? = some b -> edgeO i b = true ∨ (confO ops a b = false ∧ confO ops b a = false)
 | [], _, _, _, _, h => by simp at h
 | c :: l, j, 0, b, hg, h => by
  simp only [Uu, Up] at h
  subst h
  simp only [gokL.gokA, Uc, Bool.or_eq_true, Vb, Bool.or_eq_false_iff] at hg
  exact hg.1
 | c :: l, j, k + 1, b, hg, h => by
  simp only [gokL.gokA, Uc] at hg
  exact gokA_get hg.2 (k := k) (by simpa using h)
theorem gokL_get {ops : Array Oper} : ∀ {l : List Oper} {n i j : Nat} {a b : Oper}, gokL ops l n = true -> l[i]? = some a -> l[j]? = some b -> i < j -> edgeO (n + i) b = true ∨ (confO ops a b = false ∧ confO ops b a = false)
 | [], _, _, _, _, _, _, h, _, _ => by simp at h
 | c :: l, n, 0, j + 1, a, b, hg, ha, hb, _ => by
  simp only [Uu, Up] at ha
  subst ha
  simp only [gokL, Uc] at hg
  rw [Vn]
  exact gokA_get hg.1 (k := j) (by simpa using hb)
 | c :: l, n, i + 1, j + 1, a, b, hg, ha, hb, hij => by
  simp only [gokL, Uc] at hg
  have := gokL_get (i := i) (j := j) hg.2 (by simpa using ha) (by simpa using hb) O3
  rwa [show n + (i + 1) = n + 1 + i by omega]
 | c :: l, n, i, 0, a, b, _, _, _, h => by omega
theorem xm {ops : Array Oper} (hg : gok ops = true) {i j : Nat} {a b : Oper} (ha : ops[i]? = some a) (hb : ops[j]? = some b) (hij : i ≠ j) : edge ops i j = true ∨ edge ops j i = true ∨ confO ops a b = false := by
 rcases Nat.lt_or_gt_of_ne hij with h | h
 ·rcases gokL_get (n := 0) hg (by rw [toList_get]; exact ha) (by rw [toList_get]; exact hb) h with h1 | h1
  ·left; unfold edge; rw [toList_get, hb]; simpa using h1
  ·exact .inr (.inr h1.1)
 ·rcases gokL_get (n := 0) hg (by rw [toList_get]; exact hb) (by rw [toList_get]; exact ha) h with h1 | h1
  ·right; left; unfold edge; rw [toList_get, ha]; simpa using h1
  ·exact .inr (.inr h1.2)
theorem kj {ops : Array Oper} {todo : List Nat} {i j : Nat} (hi : i ∈ todo) (hr : rdy ops todo j = true) : edge ops i j = false := by
 cases hedge : edge ops i j with
 | false => rfl
 | true =>
  exfalso
  unfold edge at hedge
  unfold rdy at hr
  cases hoj : ops.toList[j]? with
  | none => rw [hoj] at hedge; cases hedge
  | some oj =>
   rw [hoj] at hedge hr
   simp only [edgeO, List.any_eq_true, Uc] at hedge
   obtain ⟨m, hm, hb1, hb2⟩ := hedge
   simp only [Un] at hr
   have := hr m hm
   rw [hb1, Uh hb2] at this
   simp [hi] at this
theorem uz {ops : Array Oper} {todo : List Nat} {i j : Nat} (hr : rdy ops todo j = true) : rdy ops (todo.erase i) j = true := by
 unfold rdy at hr ⊢
 cases hoj : ops.toList[j]? with
 | none => rw [hoj] at hr; cases hr
 | some oj =>
  rw [hoj] at hr
  simp only [Un] at hr ⊢
  intro m hm
  have := hr m hm
  simp only [Bool.or_eq_true, Vb] at this ⊢
  rcases this with h | h
  ·exact .inl h
  ·right
   simp only [List.contains_eq_mem, decide_eq_false_iff_not] at h ⊢
   exact fun hm => h (Va hm)
theorem execOp_upd {e : Env} {d : Nat} {v : Value} {o : Oper} (h : opReads o.op d = false) : execOp (ev (upd e d v)) o = execOp (ev e) o := by
 refine execOp_congr fun x hx => ?_
 cases x with
 | tmp t =>
  refine q8 ?_
  rintro rfl
  unfold opReads at h
  rw [List.any_eq_false] at h
  exact absurd (show isT t (.tmp t) = true by simp [isT]) (h _ (zg hx))
 | _ => rfl
theorem vc {ops : Array Oper} {e : Env} {d : Nat} {v : Value} {o : Oper} (h : gslot ops o ≠ some d) : Region.wanted o (gv ops (upd e d v)) = Region.wanted o (gv ops e) := by
 unfold Region.wanted
 cases hg : o.guard with
 | none => rfl
 | some jw =>
  obtain ⟨j, want⟩ := jw
  unfold gslot at h
  rw [hg] at h
  dsimp only at h ⊢
  rw [toList_get] at h
  congr 1
  unfold gv
  cases ho : ops[j]? with
  | none => rfl
  | some oj =>
   rw [ho] at h
   simp only [Option.bind_some] at h ⊢
   cases hd : oj.dst with
   | none => rfl
   | some c =>
    rw [hd] at h
    dsimp only
    rw [q8 (by intro e; exact h (by rw [e]))]
def Flt (P : Program) (ops : Array Oper) (o : Oper) (e : Env) (w : World) (v : Value) : Prop :=
 (Region.wanted o (gv ops e) = true -> (execOp (ev e) o).run P w = .ok (.value v) w) ∧ (Region.wanted o (gv ops e) = false -> v = undef)
def Jk (kx : Option Nat) (φ : World -> Prop) : List Nat -> World -> Prop := fun todo w => (∀ x, kx = some x -> x ∈ todo) -> φ w
theorem k4 {P : Program} {ops : Array Oper} {J : List Nat -> World -> Prop} {inv : List Nat -> Prop} {Q : Env -> World -> Prop} {i : Nat} {o : Oper} {d : Nat} {v : Value} (ho : ops[i]? = some o) (hd : o.dst = some d) (hgok : gok ops = true)
  (hJ1 : ∀ t w, t.Nodup -> J (t.erase i) w -> J t w) (hJ2 : ∀ t w, J t w -> J (t.erase i) w) (hinv2 : ∀ t j, t.Nodup -> inv t -> edge ops i j = false -> inv (t.erase j)) :
  ∀ (k : Nat) (todo : List Nat) (e : Env) (w : World), todo.length = k + 1 -> todo.Nodup -> i ∈ todo -> rdy ops todo i = true ->
   inv todo -> J todo w -> (∀ t w', inv t -> J t w' -> Flt P ops o e w' v) ->
   Any P ops J Q k (todo.erase i) (upd e d v) w -> Any P ops J Q (k + 1) todo e w := by
 intro k
 induction k with
 | zero =>
  intro todo e w hlen hnd hi hr hk hφ hfl h j hj hjr
  obtain rfl : j = i := by
   match todo, hlen with
   | [a], _ => simp at hi hj; rw [hi, hj]
  unfold Wn
  rw [ho]
  dsimp only
  refine ⟨fun hw => ?_, fun hw => ?_⟩
  ·unfold Ex
   rw [(hfl _ w hk hφ).1 hw, hd]
   exact ⟨hJ2 _ _ hφ, h⟩
  ·rw [hd]
   have := (hfl _ w hk hφ).2 hw
   subst this
   exact ⟨hJ2 _ _ hφ, h⟩
 | succ k ih =>
  intro todo e w hlen hnd hi hr hk hφ hfl h j hj hjr
  by_cases hji : j = i
  ·subst hji
   unfold Wn
   rw [ho]
   dsimp only
   refine ⟨fun hw => ?_, fun hw => ?_⟩
   ·unfold Ex
    rw [(hfl _ w hk hφ).1 hw, hd]
    exact ⟨hJ2 _ _ hφ, h⟩
   ·rw [hd]
    have := (hfl _ w hk hφ).2 hw
    subst this
    exact ⟨hJ2 _ _ hφ, h⟩
  ·have hje : j ∈ todo.erase i := (hnd.mem_erase_iff).2 ⟨hji, hj⟩
   have hnotedge : edge ops i j = false := kj hi hjr
   have hrj : rdy ops (todo.erase i) j = true := uz hjr
   have hW := h j hje hrj
   unfold Wn at hW ⊢
   cases hoj : ops[j]? with
   | none => rw [hoj] at hW; exact hW.elim
   | some oj =>
    rw [hoj] at hW
    dsimp only at hW ⊢
    have hconf : confO ops o oj = false := by
     rcases xm hgok ho hoj (Ne.symm hji) with h1 | h1 | h1
     ·rw [hnotedge] at h1; cases h1
     ·rw [kj hj hr] at h1; cases h1
     ·exact h1
    unfold confO at hconf
    rw [hd] at hconf
    simp only [Bool.or_eq_false_iff] at hconf
    obtain ⟨⟨⟨hc1, hc2⟩, hc3⟩, hc4⟩ := hconf
    rw [vc (isS_false hc3)] at hW
    have key : ∀ u w', (J ((todo.erase i).erase j) w' ∧ Any P ops J Q k ((todo.erase i).erase j) (updO (upd e d v) oj.dst u) w') ->
      J (todo.erase j) w' ∧ Any P ops J Q (k + 1) (todo.erase j) (updO e oj.dst u) w' := by
     rintro u w' ⟨hJ, hA⟩
     have hφ' : J (todo.erase j) w' := hJ1 _ _ (hnd.erase j) (by rw [List.erase_comm]; exact hJ)
     refine ⟨hφ', ih (todo.erase j) _ w' (by rw [Ut hj, hlen]; rfl) (hnd.erase j) ((hnd.mem_erase_iff).2 ⟨Ne.symm hji, hi⟩) ?_ (hinv2 _ _ hnd hk hnotedge) hφ' ?_ ?_⟩
     ·exact uz hr
     ·intro t w'' ht hw''
      have hf := hfl t w'' ht hw''
      cases hdj : oj.dst with
      | none => exact hf
      | some c =>
       rw [hdj] at hc4
       simp only [Bool.or_eq_false_iff] at hc4
       unfold Flt at hf ⊢
       simp only [updO]
       rw [vc (isS_false hc4.2), execOp_upd hc4.1]
       exact hf
     ·rw [List.erase_comm]
      cases hdj : oj.dst with
      | none => rw [hdj] at hA; exact hA
      | some c =>
       rw [hdj] at hA hc1
       simp only [updO] at hA ⊢
       rw [y7 (by rintro rfl; simp [isS] at hc1)]
       exact hA
    refine ⟨fun hw => ?_, fun hw => key _ _ (hW.2 hw)⟩
    have hE := hW.1 hw
    unfold Ex at hE ⊢
    rw [execOp_upd hc2] at hE
    split at hE
    ·rename_i hr; exact key _ _ hE
    ·rename_i hr; exact key _ _ hE
    ·rename_i hr; exact hE.mono fun _ _ ⟨v, a, b⟩ => ⟨v, a, key _ _ b⟩
    ·exact hE.elim
theorem yd {P : Program} {ops : Array Oper} {kx : Option Nat} {φ : World -> Prop} {Q : Env -> World -> Prop} {i : Nat} {o : Oper} {d : Nat} {v : Value} (ho : ops[i]? = some o) (hd : o.dst = some d) (hgok : gok ops = true)
  (k : Nat) (todo : List Nat) (e : Env) (w : World) (h1 : todo.length = k + 1) (h2 : todo.Nodup) (h3 : i ∈ todo) (h4 : rdy ops todo i = true)
  (hk : ∀ x, kx = some x -> x ∈ todo ∧ edge ops i x = true ∧ x ≠ i) (hφ : φ w) (hfl : ∀ w', φ w' -> Flt P ops o e w' v)
  (h : Any P ops (Jk kx φ) Q k (todo.erase i) (upd e d v) w) : Any P ops (Jk kx φ) Q (k + 1) todo e w :=
 k4 (inv := fun t => ∀ x, kx = some x -> x ∈ t) ho hd hgok
  (fun t w ht hJ hx => hJ fun x hx' => (ht.mem_erase_iff).2 ⟨(hk x hx').2.2, hx x hx'⟩)
  (fun t w hJ hx => hJ fun x hx' => Va (hx x hx'))
  (fun t j ht hi hj x hx => (ht.mem_erase_iff).2 ⟨(by rintro rfl; rw [(hk x hx).2.1] at hj; cases hj), hi x hx⟩)
  k todo e w h1 h2 h3 h4 (fun x hx => (hk x hx).1) (fun _ => hφ) (fun t w' ht hJ => hfl w' (hJ ht)) h
theorem zv {P : Program} {ops : Array Oper} {kx : Option Nat} {φ : World -> Prop} {Q : Env -> World -> Prop} {i : Nat} {o : Oper} {d : Nat} {v : Value} (ho : ops[i]? = some o) (hd : o.dst = some d) (hgok : gok ops = true)
  (k : Nat) (todo : List Nat) (e : Env) (w : World) (h1 : todo.length = k + 1) (h2 : todo.Nodup) (h3 : i ∈ todo) (h4 : rdy ops todo i = true)
  (hk : kx ≠ some i) (hφ : Jk kx φ todo w) (hfl : ∀ w', Flt P ops o e w' v)
  (h : Any P ops (Jk kx φ) Q k (todo.erase i) (upd e d v) w) : Any P ops (Jk kx φ) Q (k + 1) todo e w :=
 k4 (inv := fun _ => True) ho hd hgok
  (fun t w ht hJ hx => hJ fun x hx' => (ht.mem_erase_iff).2 ⟨(by rintro rfl; exact hk hx'), hx x hx'⟩)
  (fun t w hJ hx => hJ fun x hx' => Va (hx x hx'))
  (fun _ _ _ _ _ => trivial)
  k todo e w h1 h2 h3 h4 trivial hφ (fun _ w' _ _ => hfl w') h
def Cur (P : Program) (ops : Array Oper) (J : List Nat -> World -> Prop) (Q : Env -> World -> Prop) (post rest : List Nat) (e : Env) (w : World) : Prop :=
 gok ops = true -> (post ++ rest).Nodup -> Any P ops J Q (post ++ rest).length (post ++ rest) e w
section
variable {P : Program} {n : Nat} {ops : Array Oper} {kx : Option Nat} {φ : World -> Prop} {Q : Env -> World -> Prop} {e : Env} {w : World} {post rest : List Nat} {i : Nat}
theorem vg {post rest : List Nat} {i : Nat} (hnd : (post ++ i :: rest).Nodup) : (post ++ i :: rest).erase i = post ++ rest := by
 have hpost : i ∉ post := by
  intro hi
  rw [List.nodup_append] at hnd
  exact hnd.2.2 i hi i O8 rfl
 rw [List.erase_append_right _ hpost]; simp
theorem ux {post rest : List Nat} {i : Nat} (hnd : (post ++ i :: rest).Nodup) : (post ++ rest).Nodup := by
 have := hnd.erase i
 rwa [vg hnd] at this
def keyOk (ops : Array Oper) (kx : Option Nat) (post rest : List Nat) (i : Nat) : Bool := match kx with
  | some x => (post ++ i :: rest).contains x && edge ops i x && !(Nat.beq x i)
  | none => true
theorem qu {o : Oper} {d : Nat} {v : Value} (ho : ops.toList[i]? = some o) (hd : o.dst = some d) (hr : rdy ops (post ++ i :: rest) i = true) (hc : keyOk ops kx post rest i = true) (hφ : φ w)
  (hfl : ∀ w', φ w' -> Flt P ops o e w' v) (h : Cur P ops (Jk kx φ) Q post rest (upd e d v) w) : Cur P ops (Jk kx φ) Q post (i :: rest) e w := by
 intro hg hnd
 have hlen : (post ++ i :: rest).length = (post ++ rest).length + 1 := by simp; omega
 rw [hlen]
 refine yd (by rw [<- toList_get]; exact ho) hd hg _ _ e w hlen hnd O8 hr ?_ hφ hfl (by rw [vg hnd]; exact h hg (ux hnd))
 intro x hx
 subst hx
 simp only [keyOk, Uc, Vb, List.contains_eq_mem, decide_eq_true_eq] at hc
 exact ⟨hc.1.1, hc.1.2, by rintro rfl; simp at hc⟩
theorem qv {o : Oper} {d : Nat} {v : Value} (ho : ops.toList[i]? = some o) (hd : o.dst = some d) (hr : rdy ops (post ++ i :: rest) i = true) (hc : (match kx with | some x => Nat.beq x i | none => false) = false) (hφ : Jk kx φ (post ++ i :: rest) w)
  (hfl : ∀ w', Flt P ops o e w' v) (h : Cur P ops (Jk kx φ) Q post rest (upd e d v) w) : Cur P ops (Jk kx φ) Q post (i :: rest) e w := by
 intro hg hnd
 have hlen : (post ++ i :: rest).length = (post ++ rest).length + 1 := by simp; omega
 rw [hlen]
 refine zv (by rw [<- toList_get]; exact ho) hd hg _ _ e w hlen hnd O8 hr ?_ hφ hfl (by rw [vg hnd]; exact h hg (ux hnd))
 rintro rfl
 simp at hc
theorem zu {J : List Nat -> World -> Prop} (h : Cur P ops J Q (post ++ [i]) rest e w) : Cur P ops J Q post (i :: rest) e w := by
 unfold Cur at h ⊢
 rw [Ug] at h
 exact h
theorem qi {J : List Nat -> World -> Prop} (h : Q e w) : Cur P ops J Q [] [] e w := fun _ _ => h
theorem qh {J : List Nat -> World -> Prop} {k : Nat} (i : Nat) {o : Oper} (hl : post.length = k + 1) (hr : post.filter (rdy ops post) = [i]) (ho : ops.toList[i]? = some o) (hw : Region.wanted o (gv ops e) = true)
  (h : Ex P o e w fun e' w' => J (post.erase i) w' ∧ Cur P ops J Q [] (post.erase i) e' w') : Cur P ops J Q post [] e w := by
 intro hg hnd
 rw [Um] at hnd
 rw [Um, hl]
 intro j hj hjr
 have : j ∈ post.filter (rdy ops post) := List.mem_filter.2 ⟨hj, hjr⟩
 rw [hr] at this
 obtain rfl : j = i := by simpa using this
 unfold Wn
 rw [<- toList_get, ho]
 refine ⟨fun _ => h.mono fun e' w' ⟨a, b⟩ => ⟨a, ?_⟩, fun hn => by rw [hw] at hn; cases hn⟩
 have b := b hg (by rw [Uw]; exact hnd.erase _)
 rw [Uw, Ut hj, hl] at b
 exact b
theorem je {o : Oper} {j : Nat} {want b : Bool} (hgd : o.guard = some (j, want)) (hg : gv ops e j = some b) (hb : b = want) : Region.wanted o (gv ops e) = true := by
 subst hb; simp [Region.wanted, hgd, hg]
theorem Any.swap {J J' : List Nat -> World -> Prop} (x : Nat) (hJ : ∀ t w, x ∉ t -> J t w) : ∀ {k : Nat} {todo : List Nat} {e : Env} {w : World}, x ∉ todo -> Any P ops J' Q k todo e w -> Any P ops J Q k todo e w
 | 0, _, _, _, _, h => h
 | k + 1, todo, e, w, hx, h => fun i hi hr => by
  have := h i hi hr
  have hx' : x ∉ todo.erase i := fun hm => hx (Va hm)
  unfold Wn at this ⊢
  cases ho : ops[i]? with
  | none => rw [ho] at this; exact this
  | some o =>
   rw [ho] at this
   exact ⟨fun hw => (this.1 hw).mono fun e w ⟨a, b⟩ => ⟨hJ _ _ hx', Any.swap x hJ hx' b⟩, fun hw => ⟨hJ _ _ hx', Any.swap x hJ hx' (this.2 hw).2⟩⟩
end
theorem zk {P : Program} {n : Nat} {id : Nat} {l : List Oper} {Q : Post} {e : Env} {w : World} (kx : Option Nat) (φ : World -> Prop) (hfw : EdgesOk n l.toArray) (hg : gok l.toArray = true) (hφ : φ w.drew)
  (h : ∀ w', φ w' -> Cur P l.toArray (Jk kx φ) (Q .normal) [] (List.range l.length) e w') : Cd P n (.region id l.toArray true) Q e w := by
 refine zj (J := Jk kx φ) hfw ?_
 have := h _ hφ hg (by simpa using List.nodup_range)
 simpa using this
theorem gk {P : Program} {n : Nat} {id : Nat} {l : List Oper} {Q : Post} {e : Env} {w : World} (kx : Option Nat) (φ : World -> Prop) (hfw : fwd n l.toArray = true) (hg : gok l.toArray = true) (hφ : φ w.drew)
  (h : ∀ w', φ w' -> Cur P l.toArray (Jk kx φ) (Q .normal) [] (List.range l.length) e w') : Cd P n (.region id l.toArray true) Q e w :=
 zk kx φ (yh hfw) hg hφ h
theorem c_anyR {P : Program} {n : Nat} {id : Nat} {l : List Oper} {Q : Post} {e : Env} {w : World} (rk : List Nat) (kx : Option Nat) (φ : World -> Prop) (hfw : fwdR rk n l.toArray = true) (hg : gok l.toArray = true) (hφ : φ w.drew)
  (h : ∀ w', φ w' -> Cur P l.toArray (Jk kx φ) (Q .normal) [] (List.range l.length) e w') : Cd P n (.region id l.toArray true) Q e w :=
 zk kx φ (vp hfw) hg hφ h
theorem gf {P : Program} {n : Nat} {id : Nat} {l : List Oper} {Q : Post} {e : Env} {w : World} (rk : List Nat) (kx : Option Nat) (φ : World -> Prop) (hfw : fwdR rk n l.toArray = true) (hg : gok l.toArray = true)
  (h : Cur P l.toArray (Jk kx φ) (Q .normal) [] (List.range l.length) e w.drew) : Cd P n (.region id l.toArray true) Q e w := by
 refine zj (J := Jk kx φ) (vp hfw) ?_
 have := h hg (by simpa using List.nodup_range)
 simpa using this
attribute [irreducible] Any Cur Wn Flt
end
section
class Und (P : Program) (t : TypeId) (d : outParam TypeDesc) : Prop where
 h : P.underlying t = some d
class Inf (P : Program) (t : TypeId) (z : outParam (List Value)) (agg : outParam Bool) (bytes : outParam Nat) : Prop where
 h : (P.info? t).map (fun i => (i.zero, i.size, i.bytes)) = some (some (if agg then .agg z.toArray else z.getD 0 undef), z.length, bytes)
 one : agg = false -> z.length = 1
 u : ∃ d, P.underlying t = some d ∧ (match d with | .struct _ | .array _ _ => true | _ => false) = agg
 ones : ∀ v ∈ z, v.oneCell' = true
def agS : TypeDesc -> Bool
 | .struct _ | .array _ _ => true
 | _ => false
theorem mF {P : Program} {t n : Nat} {z : List Value} {U : TypeDesc} (u : P.underlying t = some U) (h : (P.info? t).map (fun i => (i.zero, i.size, i.bytes)) = some (some (z.getD 0 undef), z.length, n) := by kernel_rfl) (l : z.length = 1 := by rfl) (d : agS U = false := by rfl) (o : ∀ v ∈ z, v.oneCell' = true := by simp [Value.oneCell']) : Inf P t z false n := ⟨h, fun _ => l, ⟨_, u, d⟩, o⟩
theorem mT {P : Program} {t n : Nat} {z : List Value} {U : TypeDesc} (u : P.underlying t = some U) (h : (P.info? t).map (fun i => (i.zero, i.size, i.bytes)) = some (some (.agg z.toArray), z.length, n) := by kernel_rfl) (d : agS U = true := by rfl) (o : ∀ v ∈ z, v.oneCell' = true := by simp [Value.oneCell']) : Inf P t z true n := ⟨h, fun h => (by cases h), ⟨_, u, d⟩, o⟩
class FnB (P : Program) (f : FuncId) : Prop where
 h : ∃ fn, P.funcs[f]? = some fn ∧ (fn.name == "runtime.NumGoroutine") = false ∧ fn.body.isNone = false
theorem fB {P : Program} {f : FuncId} {fn : Func} (h : P.funcs[f]? = some fn) (a : (fn.name == "runtime.NumGoroutine") = false := by kernel_rfl) (b : fn.body.isNone = false := by kernel_rfl) : FnB P f := ⟨_, h, a, b⟩
class FA (P : Program) (s f : Nat) (k : outParam Nat) : Prop where
 h : ∀ b o w, (Instr.fieldAt s (.pointer (some ⟨b, o, none⟩)) f).run P w = .ok (.pointer (some ⟨b, o + k, none⟩)) w
theorem Inf.get {P : Program} {t : TypeId} {z : List Value} {agg : Bool} {bytes : Nat} (h : Inf P t z agg bytes) : ∃ i, P.info? t = some i ∧ i.zero = some (if agg then .agg z.toArray else z.getD 0 undef) ∧ i.size = z.length ∧ i.bytes = bytes := by
 obtain ⟨i, hi, he⟩ := Option.map_eq_some_iff.1 h.h
 simp only [Prod.mk.injEq] at he
 exact ⟨i, hi, he.1, he.2.1, he.2.2⟩
theorem Inf.sizeOf {P : Program} {t : TypeId} {z : List Value} {agg : Bool} {bytes : Nat} (h : Inf P t z agg bytes) (w : World) : (sizeOf t).run P w = .ok z.length w := by
 obtain ⟨i, hi, _, hs, _⟩ := h.get
 simp [Go.sizeOf, typeInfo, hi, hs]
theorem Inf.isAgg {P : Program} {t : TypeId} {z : List Value} {agg : Bool} {bytes : Nat} (h : Inf P t z agg bytes) (w : World) : (isAgg t).run P w = .ok agg w := by
 obtain ⟨d, hu, hd⟩ := h.u
 unfold Go.isAgg
 rw [Sem.run_bind, run_underlying hu w]
 cases d <;> simp_all
theorem Inf.zeroValue {P : Program} {t : TypeId} {z : List Value} {agg : Bool} {bytes : Nat} (h : Inf P t z agg bytes) (w : World) : (zeroValue t).run P w = .ok (if agg then .agg z.toArray else z.getD 0 undef) w := by
 obtain ⟨i, hi, hz, _, _⟩ := h.get
 simp [Go.zeroValue, typeInfo, hi, hz]
theorem Inf.cells {P : Program} {t : TypeId} {z : List Value} {agg : Bool} {bytes : Nat} (h : Inf P t z agg bytes) : (if agg then Value.agg z.toArray else z.getD 0 undef).cells = z.toArray := by
 cases agg with
 | true => rfl
 | false =>
  have h1 := h.one rfl
  match z, h1 with
  | [v], _ =>
   have := h.ones v O8
   cases v <;> first | rfl | (simp [Value.oneCell'] at this)
theorem FA.mk' {P : Program} {s f ft k : Nat} {fields : Array Field} {z : List Value} {agg : Bool} {bytes : Nat} (hu : P.underlying s = some (.struct fields)) (hf : (fields[f]?).map (fun fl => (fl.type, fl.offset)) = some (ft, k)) (hi : Inf P ft z agg bytes) (hz : z ≠ []) : FA P s f k := by
 refine ⟨fun b o w => ?_⟩
 obtain ⟨fl, h1, h2⟩ := Option.map_eq_some_iff.1 hf
 simp only [Prod.mk.injEq] at h2
 obtain ⟨rfl, rfl⟩ := h2
 have hs := hi.sizeOf w
 have : z.length ≠ 0 := by simpa using hz
 simp [Instr.fieldAt, run_underlying hu, h1, Instr.sureAddr, fieldPlace, hs, this, Addr.add_mid]
theorem fA {P : Program} {s f ft k : Nat} {fields : Array Field} {z : List Value} {agg : Bool} {bytes : Nat} (hu : P.underlying s = some (.struct fields)) (hi : Inf P ft z agg bytes) (hf : (fields[f]?).map (fun fl => (fl.type, fl.offset)) = some (ft, k) := by rfl) (h : z ≠ [] := by exact List.cons_ne_nil _ _) : FA P s f k := FA.mk' hu hf hi h
def Qv (P : Program) (e : Env) (o : Oper) (w : World) (v : Value) : Prop := (execOp (ev e) o).run P w = .ok (.value v) w
section
variable {P : Program} {n : Nat} {ops : Array Oper} {Q : Post} {rest : List Oper} {e : Env} {w : World} {K : Env -> World -> Prop}
variable {d : Option Nat} {ty : TypeId} {pos : String} {af : Array Edge} {g : Option (Nat × Bool)}
theorem x_v {op : Op} {v : Value} (hq : Qv P e ⟨d, op, ty, pos, af, g⟩ w v) (h : K (updO e d v) w) : Ex P ⟨d, op, ty, pos, af, g⟩ e w K := by
 unfold Qv at hq; unfold Ex; rw [hq]; exact h
theorem x_w {op : Op} {v : Value} {w' : World} (hq : (execOp (ev e) ⟨d, op, ty, pos, af, g⟩).run P w = .ok (.value v) w') (h : K (updO e d v) w') : Ex P ⟨d, op, ty, pos, af, g⟩ e w K := by
 unfold Ex; rw [hq]; exact h
theorem zy {op : Op} {w' : World} (hq : (execOp (ev e) ⟨d, op, ty, pos, af, g⟩).run P w = .ok .skip w') (h : K (updO e d undef) w') : Ex P ⟨d, op, ty, pos, af, g⟩ e w K := by
 unfold Ex; rw [hq]; exact h
theorem r_v {op : Op} {c : Nat} {v : Value} (hq : Qv P e ⟨some c, op, ty, pos, af, none⟩ w v) (hd : Vi c n = true) (h : Rn P n ops Q rest (upd e c v) w) :
  Rn P n ops Q (⟨some c, op, ty, pos, af, none⟩ :: rest) e w := r_c hd (x_v hq h)
theorem qx {op : Op} {v : Value} (hg : g = none) (hq : Qv P e ⟨d, op, ty, pos, af, g⟩ w v) : Flt P ops ⟨d, op, ty, pos, af, g⟩ e w v := by
 subst hg
 unfold Qv at hq
 unfold Flt
 exact ⟨fun _ => hq, fun h => by simp [Region.wanted] at h⟩
theorem cpv {ops : Array Oper} {kx : Option Nat} {φ : World -> Prop} {Q : Env -> World -> Prop} {post rest : List Nat} {i : Nat} {op : Op} {dd : Nat} {v : Value} (ho : ops.toList[i]? = some ⟨d, op, ty, pos, af, g⟩) (hd : d = some dd) (hr : rdy ops (post ++ i :: rest) i = true) (hc : (match kx with | some x => Nat.beq x i | none => false) = false) (hφ : φ w)
 (hg : g = none) (hq : ∀ {w'}, Qv P e ⟨d, op, ty, pos, af, g⟩ w' v) (h : Cur P ops (Jk kx φ) Q post rest (upd e dd v) w) : Cur P ops (Jk kx φ) Q post (i :: rest) e w := qv ho hd hr hc (fun _ => hφ) (fun _ => qx hg hq) h
theorem jq {op : Op} {v : Value} {j : Nat} {want b : Bool} (hg : gv ops e j = some b) (hb : b = want) (hq : Qv P e ⟨d, op, ty, pos, af, some (j, want)⟩ w v) : Flt P ops ⟨d, op, ty, pos, af, some (j, want)⟩ e w v := by
 unfold Qv at hq
 unfold Flt
 subst hb
 exact ⟨fun _ => hq, fun h => by simp [Region.wanted, hg] at h⟩
theorem gn {op : Op} {j : Nat} {want b : Bool} (hg : gv ops e j = some b) (hb : b = !want) : Flt P ops ⟨d, op, ty, pos, af, some (j, want)⟩ e w undef := by
 unfold Flt
 subst hb
 exact ⟨fun h => by cases want <;> simp [Region.wanted, hg] at h, fun _ => rfl⟩
theorem k5 {x : Operand} {k : IntKind} {a : Int} (hx : ev e x = .int k a) : Qv P e ⟨d, .move x, ty, pos, af, g⟩ w (.int k a) := by
 unfold Qv
 simp [execOp, hx]
theorem uw {x : Operand} {k : IntKind} {a : Int} (hx : ev e x = .int k a) : Qv P e ⟨d, .assign x, ty, pos, af, g⟩ w (.int k a) := by
 unfold Qv
 simp [execOp, hx]
theorem j8 {x : Operand} {b : Bool} (hx : ev e x = .bool b) : Qv P e ⟨d, .move x, ty, pos, af, g⟩ w (.bool b) := by
 unfold Qv
 simp [execOp, hx]
theorem yb {x : Operand} {b : Bool} (hx : ev e x = .bool b) : Qv P e ⟨d, .assign x, ty, pos, af, g⟩ w (.bool b) := by
 unfold Qv
 simp [execOp, hx]
theorem vh {x : Operand} {a : Option Addr} (hx : ev e x = .pointer a) : Qv P e ⟨d, .move x, ty, pos, af, g⟩ w (.pointer a) := by
 unfold Qv
 simp [execOp, hx]
theorem ym {x : Operand} {a : Option Addr} (hx : ev e x = .pointer a) : Qv P e ⟨d, .assign x, ty, pos, af, g⟩ w (.pointer a) := by
 unfold Qv
 simp [execOp, hx]
theorem ul {x : Operand} {a : Option Addr} {m c : Nat} (hx : ev e x = .slice a m c) : Qv P e ⟨d, .move x, ty, pos, af, g⟩ w (.slice a m c) := by
 unfold Qv
 simp [execOp, hx]
theorem yn {x : Operand} {a : Option Addr} {m c : Nat} (hx : ev e x = .slice a m c) : Qv P e ⟨d, .assign x, ty, pos, af, g⟩ w (.slice a m c) := by
 unfold Qv
 simp [execOp, hx]
theorem xn {x : Operand} {vs : List Value} (hx : ev e x = .tuple vs.toArray) : Qv P e ⟨d, .move x, ty, pos, af, g⟩ w (.tuple vs.toArray) := by
 unfold Qv
 simp [execOp, hx]
theorem qf {x : Operand} {t : ByteArray} (hx : ev e x = .string t) : Qv P e ⟨d, .move x, ty, pos, af, g⟩ w (.string t) := by
 unfold Qv
 simp [execOp, hx]
theorem qg {x : Operand} {t : ByteArray} (hx : ev e x = .string t) : Qv P e ⟨d, .assign x, ty, pos, af, g⟩ w (.string t) := by
 unfold Qv
 simp [execOp, hx]
theorem ue {c x y : Operand} {b k : Bool} (hc : ev e c = .bool k) (hk : k = true) (hx : ev e x = .bool b) : Qv P e ⟨d, .pick c x y, ty, pos, af, g⟩ w (.bool b) := by
 unfold Qv
 subst hk
 simp [execOp, hc, hx, asBool]
theorem jt {c x y : Operand} {b k : Bool} (hc : ev e c = .bool k) (hk : k = false) (hy : ev e y = .bool b) : Qv P e ⟨d, .pick c x y, ty, pos, af, g⟩ w (.bool b) := by
 unfold Qv
 subst hk
 simp [execOp, hc, hy, asBool]
theorem k6 {x : Operand} {a : Addr} (hx : ev e x = .pointer (some a)) : Qv P e ⟨d, .nilCheck x, ty, pos, af, g⟩ w (.pointer (some a)) := by
 unfold Qv
 simp [execOp, hx]
theorem jx {s f k : Nat} [FA P s f k] {x : Operand} {b o : Nat} (hx : ev e x = .pointer (some ⟨b, o, none⟩)) : Qv P e ⟨d, .fieldAddr s x f, ty, pos, af, g⟩ w (.pointer (some ⟨b, o + k, none⟩)) := by
 unfold Qv
 simp [execOp, hx, FA.h (P := P) (s := s) (f := f)]
theorem yp {t : TypeId} {z : List Value} {bytes : Nat} [hi : Inf P t z false bytes] {b o : Nat} {v : Value} (hv : w.cell? ⟨b, o, none⟩ = some v) : (Instr.loadAt t (.pointer (some ⟨b, o, none⟩))).run P w = .ok v w := by
 simp [Instr.loadAt, Instr.sureAddr, loadVar, hi.isAgg, load, Sem.run, hv]
theorem k7 {b o : Nat} {l : List Value} {T : TypeId} {fr : Nat × Nat} {v : Value} (hb : w.heap[b]? = some (.cells l.toArray T fr)) (hv : l[o]? = some v) : w.cell? ⟨b, o, none⟩ = some v := by
 simp [World.cell?, hb, hv]
theorem vd {t : TypeId} {z : List Value} {bytes : Nat} [Inf P t z false bytes] {x : Operand} {b o : Nat} {v : Value} (hx : ev e x = .pointer (some ⟨b, o, none⟩)) (hv : w.cell? ⟨b, o, none⟩ = some v) :
  Qv P e ⟨d, .load t x, ty, pos, af, g⟩ w v := by
 unfold Qv
 simp [execOp, hx, yp (t := t) hv]
theorem qk {t : TypeId} {z : List Value} {bytes : Nat} [Inf P t z false bytes] {x : Operand} {b o : Nat} {l : List Value} {T : TypeId} {fr : Nat × Nat} {v : Value} (hx : ev e x = .pointer (some ⟨b, o, none⟩)) (hb : w.heap[b]? = some (.cells l.toArray T fr)) (hv : l[o]? = some v) :
  Qv P e ⟨d, .load t x, ty, pos, af, g⟩ w v := vd hx (k7 hb hv)
def At (w : World) (b o : Nat) (l : List Value) : Prop := ∀ j v, l[j]? = some v -> w.cell? ⟨b, o + j, none⟩ = some v
theorem qp {b o : Nat} {l m : List Value} {T : TypeId} {fr : Nat × Nat} (hb : w.heap[b]? = some (.cells l.toArray T fr)) (hm : (l.drop o).take m.length = m) : At w b o m := by
 intro j v hj
 refine k7 hb ?_
 rw [<- hm, Vg] at hj
 split at hj
 ·simpa using hj
 ·cases hj
theorem vv {t : TypeId} {z : List Value} {bytes : Nat} [hi : Inf P t z true bytes] {b o : Nat} {l : List Value} (hz : z.length = l.length) (hl : At w b o l) : (Instr.loadAt t (.pointer (some ⟨b, o, none⟩))).run P w = .ok (.agg l.toArray) w := by
 obtain ⟨i, h1, _, h3, _⟩ := hi.get
 obtain ⟨dd, hu, hd⟩ := hi.u
 refine run_loadAt_mid w b o t l dd (fun j v hv => hl j v hv) hu ?_ (by simp [h1, h3, hz])
 cases dd <;> simp_all
theorem qm {t : TypeId} {z : List Value} {bytes : Nat} [Inf P t z true bytes] {x : Operand} {b o : Nat} {l : List Value} (hx : ev e x = .pointer (some ⟨b, o, none⟩)) (hz : Nat.beq z.length l.length = true) (hl : At w b o l) :
  Qv P e ⟨d, .load t x, ty, pos, af, g⟩ w (.agg l.toArray) := by
 unfold Qv
 simp [execOp, hx, vv (t := t) (Uh hz) hl]
section
variable {k : IntKind} {a b : Int} {t t2 : TypeId} {x y : Operand}
theorem k8 (hx : ev e x = .int k a) (hy : ev e y = .int k b) : Qv P e ⟨d, .binOp .add t x y t2, ty, pos, af, g⟩ w (.int k (k.wrap (a + b))) := by
 unfold Qv
 simp [execOp, hx, hy, eqGuard, binOp, Op.intArith]
theorem k9 (hx : ev e x = .int k a) (hy : ev e y = .int k b) : Qv P e ⟨d, .binOp .sub t x y t2, ty, pos, af, g⟩ w (.int k (k.wrap (a - b))) := by
 unfold Qv
 simp [execOp, hx, hy, eqGuard, binOp, Op.intArith]
theorem q_mul (hx : ev e x = .int k a) (hy : ev e y = .int k b) : Qv P e ⟨d, .binOp .mul t x y t2, ty, pos, af, g⟩ w (.int k (k.wrap (a * b))) := by
 unfold Qv
 simp [execOp, hx, hy, eqGuard, binOp, Op.intArith]
theorem q_lss (hx : ev e x = .int k a) (hy : ev e y = .int k b) : Qv P e ⟨d, .binOp .lss t x y t2, ty, pos, af, g⟩ w (.bool (decide (a < b))) := by
 unfold Qv
 simp [execOp, hx, hy, eqGuard, binOp, Op.intCmp]
theorem q_leq (hx : ev e x = .int k a) (hy : ev e y = .int k b) : Qv P e ⟨d, .binOp .leq t x y t2, ty, pos, af, g⟩ w (.bool (decide (a <= b))) := by
 unfold Qv
 simp [execOp, hx, hy, eqGuard, binOp, Op.intCmp]
theorem zx (hx : ev e x = .int k a) (hy : ev e y = .int k b) : Qv P e ⟨d, .binOp .gtr t x y t2, ty, pos, af, g⟩ w (.bool (decide (a > b))) := by
 unfold Qv
 simp [execOp, hx, hy, eqGuard, binOp, Op.intCmp]
theorem q_geq (hx : ev e x = .int k a) (hy : ev e y = .int k b) : Qv P e ⟨d, .binOp .geq t x y t2, ty, pos, af, g⟩ w (.bool (decide (a ≥ b))) := by
 unfold Qv
 simp [execOp, hx, hy, eqGuard, binOp, Op.intCmp]
theorem q_eql (hx : ev e x = .int k a) (hy : ev e y = .int k b) : Qv P e ⟨d, .binOp .eql t x y t2, ty, pos, af, g⟩ w (.bool (a == b)) := by
 unfold Qv
 simp [execOp, hx, hy, eqGuard, binOp, Op.intCmp]
theorem q_neq (hx : ev e x = .int k a) (hy : ev e y = .int k b) : Qv P e ⟨d, .binOp .neq t x y t2, ty, pos, af, g⟩ w (.bool (a != b)) := by
 unfold Qv
 simp [execOp, hx, hy, eqGuard, binOp, Op.intCmp]
def bitOp (op : BinOp) (k : IntKind) (a b : Int) : Int :=
 let x := BitVec.ofInt k.bits a
 let y := BitVec.ofInt k.bits b
 k.wrap (match op with
  | .and => x &&& y
  | .or => x ||| y
  | .xor => x ^^^ y
  | _ => x &&& ~~~y).toNat
theorem jh (hx : ev e x = .int k a) (hy : ev e y = .int k b) : Qv P e ⟨d, .binOp .and t x y t2, ty, pos, af, g⟩ w (.int k (bitOp .and k a b)) := by
 unfold Qv
 simp [execOp, hx, hy, eqGuard, binOp, Op.intBits, bitOp]
theorem q_or (hx : ev e x = .int k a) (hy : ev e y = .int k b) : Qv P e ⟨d, .binOp .or t x y t2, ty, pos, af, g⟩ w (.int k (bitOp .or k a b)) := by
 unfold Qv
 simp [execOp, hx, hy, eqGuard, binOp, Op.intBits, bitOp]
theorem q_quo (hx : ev e x = .int k a) (hy : ev e y = .int k b) (hb : b ≠ 0) : Qv P e ⟨d, .binOp .quo t x y t2, ty, pos, af, g⟩ w (.int k (k.wrap (a.tdiv b))) := by
 unfold Qv
 simp [execOp, hx, hy, eqGuard, binOp, Op.intDiv, hb]
theorem zw (hx : ev e x = .int k a) (hy : ev e y = .int k b) (hb : b ≠ 0) : Qv P e ⟨d, .binOp .rem t x y t2, ty, pos, af, g⟩ w (.int k (a.tmod b)) := by
 unfold Qv
 simp [execOp, hx, hy, eqGuard, binOp, Op.intDiv, hb]
theorem q_shl {k2 : IntKind} (hx : ev e x = .int k a) (hy : ev e y = .int k2 b) (hb : 0 <= b) : Qv P e ⟨d, .binOp .shl t x y t2, ty, pos, af, g⟩ w (.int k (k.wrap (a * 2 ^ (min b.toNat k.bits)))) := by
 unfold Qv
 simp [execOp, hx, hy, eqGuard, binOp, Op.shift, show ¬ b < 0 by omega]
theorem ji {k2 : IntKind} (hx : ev e x = .int k a) (hy : ev e y = .int k2 b) (hb : 0 <= b) : Qv P e ⟨d, .binOp .shr t x y t2, ty, pos, af, g⟩ w (.int k (a.fdiv (2 ^ (min b.toNat k.bits)))) := by
 unfold Qv
 simp [execOp, hx, hy, eqGuard, binOp, Op.shift, show ¬ b < 0 by omega]
end
end
attribute [irreducible] Qv
end
section
def Rd (w : World) (sz : Nat) (a : Option Addr) (n : Nat) (xs : List Value) : Prop :=
 xs.length = n * sz ∧ (n = 0 ∨ ∃ b o, a = some ⟨b, o, none⟩ ∧ At w b o xs)
def Own (T sz : Nat) (a : Option Addr) (n c : Nat) (xs : List Value) : HProp := fun h =>
 xs.length = n * sz ∧ n <= c ∧ ((a = none ∧ c = 0 ∧ h = Hp.nil) ∨
  ∃ (g : Nat) (cur : List Value), a = some ⟨g, 0, none⟩ ∧ c * sz <= cur.length ∧ cur.take (n * sz) = xs ∧ pt g (.cells cur.toArray T (0, 0)) h)
section
variable {w0 w w' : World} {l : List HProp} {T sz n c : Nat} {a : Option Addr} {xs : List Value}
theorem Own.nil (T sz : Nat) : Own T sz none 0 0 [] Hp.nil := ⟨by simp, Ui _, .inl ⟨rfl, rfl, rfl⟩⟩
theorem St.ownNil (T sz : Nat) (h : St w0 l w) : St w0 (Own T sz none 0 0 [] :: l) w :=
 h.imp fun p hp => ⟨Hp.nil, p, fun _ => .inl rfl, (Hp.nil_join p).symm, Own.nil T sz, hp⟩
theorem St.own_cases (h : St w0 (Own T sz a n c xs :: l) w) : xs.length = n * sz ∧ n <= c ∧ ((a = none ∧ c = 0 ∧ n = 0 ∧ St w0 l w) ∨
  ∃ (g : Nat) (cur : List Value), a = some ⟨g, 0, none⟩ ∧ c * sz <= cur.length ∧ cur.take (n * sz) = xs ∧ St w0 (pt g (.cells cur.toArray T (0, 0)) :: l) w) := by
 obtain ⟨p, hq, x, y, hd, he, ⟨h1, h2, h3⟩, hl⟩ := h.own
 refine ⟨h1, h2, ?_⟩
 rcases h3 with ⟨r1, r2, r3⟩ | ⟨g, cur, r1, r2, r3, r4⟩
 ·exact .inl ⟨r1, r2, O_o, h.drop⟩
 ·exact .inr ⟨g, cur, r1, r2, r3, h.os, h.tape, h.output, h.size, h.old, p, hq, x, y, hd, he, r4, hl⟩
theorem St.own_mk' {g : Nat} {cur : List Value} (h : St w0 (pt g (.cells cur.toArray T (0, 0)) :: l) w) (h2 : c * sz <= cur.length) (h3 : cur.take (n * sz) = xs) (h4 : n <= c) : St w0 (Own T sz (sQ g) n c xs :: l) w :=
 h.mono fun p hp => ⟨by rw [<- h3, Ve]; exact Nat.min_eq_left (Vf (Uo _ h4) h2), h4, .inr ⟨g, cur, rfl, h2, h3, hp⟩⟩
theorem St.own_mk {g : Nat} {cur : List Value} (h : St w0 (pt g (.cells cur.toArray T (0, 0)) :: l) w) (h2 : cur.length = c * sz) (h3 : cur.take (n * sz) = xs) (h4 : n <= c) : St w0 (Own T sz (sQ g) n c xs :: l) w :=
 h.own_mk' (Nat.le_of_eq h2.symm) h3 h4
theorem St.own_rd (h : St w0 (Own T sz a n c xs :: l) w) : Rd w sz a n xs := by
 obtain ⟨h1, h2, h3⟩ := h.own_cases
 refine ⟨h1, ?_⟩
 rcases h3 with ⟨r1, r2, r3, r4⟩ | ⟨g, cur, r1, r2, r3, r4⟩
 ·exact .inl r3
 ·exact .inr ⟨g, 0, r1, qp r4.hd.1 (by rw [List.drop_zero, h1, r3])⟩
theorem Rd.old (h : St w0 l w) (hr : Rd w0 sz a n xs) (hb : ∀ b o, a = some ⟨b, o, none⟩ -> 0 < n -> b < w0.heap.size) : Rd w sz a n xs := by
 refine ⟨hr.1, ?_⟩
 rcases Uz n with h0 | h0
 ·exact .inl h0
 refine .inr ?_
 rcases hr.2 with h1 | ⟨b, o, r1, r2⟩
 ·omega
 exact ⟨b, o, r1, fun j v hj => by rw [h.cell_old (hb b o r1 h0)]; exact r2 j v hj⟩
theorem Rd.len (h : Rd w sz a n xs) : xs.length = n * sz := h.1
theorem Rd.first {P : Program} (h : Rd w sz a n xs) (c : Nat) : (Builtin.firstCells sz n (.slice a n c)).run P w = .ok xs.toArray w := by
 rcases h.2 with rfl | ⟨b, o, rfl, hat⟩
 ·have : xs = [] := Uf (by rw [h.1]; simp)
  subst this
  cases a with
  | none => simp [Builtin.firstCells]
  | some ad => exact run_firstCells_some w sz 0 ad 0 c [] O8 (fun j v hj => by cases hj)
 ·exact run_firstCells_some w sz n _ n c xs h.1 (fun j v hj => by rw [Addr.add_mid]; exact hat j v hj)
end
section
variable {P : Program} {w : World}
theorem run_append_grows {t ty T : TypeId} {z : List Value} {agg : Bool} {bytes : Nat} (ht : P.underlying t = some (.slice T)) (hi : Inf P T z agg bytes) {a a2 : Option Addr} {n c m c2 : Nat} {xs ys : List Value}
  (hx : Rd w z.length a n xs) (hy : Rd w z.length a2 m ys) (hg : c < n + m) (hb : (n + m) * bytes <= 140737488355328) (h63 : n + m <= 9223372036854775807) :
  ∃ k, (Builtin.append_ #[t, t] ty #[.slice a n c, .slice a2 m c2]).run P w = .ok (.slice (some ⟨w.heap.size, 0, none⟩) (n + m) (n + m + k)) (w.drew.alloc (.cells (xs ++ ys ++ (Builtin.zeroCells z.toArray k).toList).toArray T)) := by
 obtain ⟨i, h1, h2, h3, h4⟩ := hi.get
 subst h4
 have hfx := (show Rd w.drew z.length a n xs from hx).first (P := P) c
 have hfy := (show Rd w.drew z.length a2 m ys from hy).first (P := P) c2
 have hge : n + m <= grownCap w (n + m) c T := by simp [grownCap, Question.cut]
 have hfit := growslice_fits hg hb
 have hzc := hi.cells
 refine ⟨grownCap w (n + m) c T - (n + m), ?_⟩
 have e1 : n + m + (grownCap w (n + m) c T - (n + m)) = grownCap w (n + m) c T := by omega
 rw [e1]
 have hn1 : ¬ (n + m <= c) := by omega
 have hn2 : ¬ ((9223372036854775807 : Int) < (n : Int) + (m : Int)) := by omega
 have hn3 : ¬ (281474976710656 < Builtin.nextslicecap (n + m) c * i.bytes) := by omega
 rw [<- h3] at hfx hfy
 generalize (if agg then Value.agg z.toArray else z.getD 0 undef) = zz at h2 hzc
 simp [Builtin.append_, run_underlying ht, sizeOf, typeInfo, zeroValue, h1, h2, Builtin.lenOf, hn1, hn2, hn3, Question.forced, newRow, hfx, hfy, grownCap, hzc]
 congr 2
 apply Array.ext'
 simp [Ug]
theorem run_append_fit {t ty T : TypeId} {z : List Value} {agg : Bool} {bytes : Nat} (ht : P.underlying t = some (.slice T)) (hi : Inf P T z agg bytes) {a2 : Option Addr} {g n c m c2 : Nat} {cur ys : List Value}
  (hg : w.heap[g]? = some (.cells cur.toArray T (0, 0))) (hc : c * z.length <= cur.length) (hy : Rd w z.length a2 m ys) (hfit : n + m <= c) (h1 : ∀ u ∈ ys, u.oneCell' = true) :
  (Builtin.append_ #[t, t] ty #[.slice (sQ g) n c, .slice a2 m c2]).run P w = .ok (.slice (sQ g) (n + m) c)
   (w.setRow g (cur.take (n * z.length) ++ ys ++ cur.drop (n * z.length + ys.length)).toArray) := by
 obtain ⟨i, hi1, hi2, hi3, hi4⟩ := hi.get
 have hfy := hy.first (P := P) c2
 have hle : (n + m) * z.length <= c * z.length := Uo _ hfit
 rw [Ux] at hle
 have hst := run_storeCells_at P g (n * z.length) T ys 0 cur.toArray w hg (by simp only [Vj, hy.1]; omega) h1
 simp only [Vn] at hst
 rw [Nat.add_comm (n * z.length)] at hst ⊢
 simp [Builtin.append_, run_underlying ht, sizeOf, typeInfo, hi1, Builtin.lenOf, hfit, hfy, Addr.add_mid, hi3, hst]
theorem run_append_none {t ty T : TypeId} {z : List Value} {agg : Bool} {bytes : Nat} (ht : P.underlying t = some (.slice T)) (hi : Inf P T z agg bytes) {c2 : Nat} {a2 : Option Addr} {ys : List Value} (hy : Rd w z.length a2 0 ys) :
  (Builtin.append_ #[t, t] ty #[.slice none 0 0, .slice a2 0 c2]).run P w = .ok (.slice none 0 0) w := by
 obtain ⟨i, hi1, hi2, hi3, hi4⟩ := hi.get
 have hfy := hy.first (P := P) c2
 rw [<- hi3] at hfy
 simp [Builtin.append_, run_underlying ht, sizeOf, typeInfo, hi1, Builtin.lenOf, hfy]
end
theorem zeroCells_len (z : Array Value) (k : Nat) : (Builtin.zeroCells z k).toList.length = k * z.size := by simp [Builtin.zeroCells]
theorem St.append {P : Program} {w0 w : World} {l : List HProp} {t ty T : TypeId} {z : List Value} {agg : Bool} {bytes : Nat} {n c m c2 : Nat} {a a2 : Option Addr} {xs ys : List Value} (h : St w0 (Own T z.length a n c xs :: l) w)
  (ht : P.underlying t = some (.slice T)) (hi : Inf P T z agg bytes) (hy : Rd w z.length a2 m ys) (h1 : ∀ u ∈ ys, u.oneCell' = true) (hb : (n + m) * bytes <= 140737488355328) (h63 : n + m <= 9223372036854775807) :
  ∃ a' c' w', (Builtin.append_ #[t, t] ty #[.slice a n c, .slice a2 m c2]).run P w = .ok (.slice a' (n + m) c') w' ∧ (a' = none -> a = none) ∧ St w0 (Own T z.length a' (n + m) c' (xs ++ ys) :: l) w' := by
 obtain ⟨h2, h3, h4⟩ := h.own_cases
 have hx := h.own_rd
 by_cases hg : c < n + m
 ·obtain ⟨k, hr⟩ := run_append_grows (P := P) (ty := ty) (c := c) (c2 := c2) ht hi hx hy hg hb h63
  refine ⟨_, _, _, hr, (fun h => by cases h), ?_⟩
  have h5 := (h.drop.drew).alloc (.cells (xs ++ ys ++ (Builtin.zeroCells z.toArray k).toList).toArray T)
  refine St.own_mk h5 (c := n + m + k) ?_ ?_ (Nat.le_add_right _ _)
  ·rw [Ua, Ua, zeroCells_len, h2, hy.1, Ux, Ux]; simp
  ·rw [Ug, <- Ug]
   exact List.take_left' (by rw [Ua, h2, hy.1, Ux])
 ·rcases h4 with ⟨rfl, rfl, rfl, h5⟩ | ⟨g, cur, rfl, h5, h6, h7⟩
  ·obtain rfl : m = 0 := by omega
   have hxs : xs = [] := Uf (by simpa using h2)
   have hys : ys = [] := Uf (by simpa using hy.1)
   subst hxs hys
   exact ⟨none, 0, w, run_append_none ht hi hy, (fun _ => rfl), h5.ownNil T z.length⟩
  ·have hr := run_append_fit (P := P) (ty := ty) (n := n) (m := m) (c2 := c2) ht hi h7.hd.1 h5 hy O3 h1
   refine ⟨_, _, _, hr, (fun h => by cases h), ?_⟩
   have hle : (n + m) * z.length <= c * z.length := Uo _ O3
   rw [Ux] at hle
   have h8 : St w0 (pt g (.cells (cur.take (n * z.length) ++ ys ++ cur.drop (n * z.length + ys.length)).toArray T (0, 0)) :: l) (w.setRow g (cur.take (n * z.length) ++ ys ++ cur.drop (n * z.length + ys.length)).toArray) :=
    h7.put rfl rfl rfl O8 (fun k hk => setRow_other w g k _ hk) (setRow_heap w g _ _ T (0, 0) h7.hd.1)
   refine St.own_mk' h8 (c := c) ?_ ?_ O3
   ·simp only [Ua, Ve, List.length_drop, hy.1]; omega
   ·rw [h6]
    exact List.take_left' (by rw [Ua, h2, hy.1, Ux])
end
section
section
variable {P : Program} {n : Nat} {ops : Array Oper} {Q : Post} {rest : List Oper} {e : Env} {w w0 : World} {K : Env -> World -> Prop} {l : List HProp}
variable {d : Option Nat} {ty : TypeId} {pos : String} {af : Array Edge} {g : Option (Nat × Bool)}
theorem vu {t : TypeId} {x y : Value} {b : Bool} (h : ∀ k, (Op.equalIn (k + 1) t x y).run P w = .ok b w) : (Op.equal t x y).run P w = .ok b w := h 9999
theorem q_eq_of {t t2 : TypeId} {x y : Operand} {a c : Value} {b : Bool} (hx : ev e x = a) (hy : ev e y = c) (h : ∀ k, (Op.equalIn (k + 1) t a c).run P w = .ok b w) (hb : binOp .eql t a c = (do pure (.bool (<- Op.equal t a c)))) (hg : ∀ p q, eqGuard .eql t p q a c = pure ()) :
  Qv P e ⟨d, .binOp .eql t x y t2, ty, pos, af, g⟩ w (.bool b) := by
 unfold Qv
 have := vu h
 simp only [execOp, hx, hy, hb, hg, Sem.run_bind, Sem.run_pure, Result.andThen_ok, this]
theorem q_ne_of {t t2 : TypeId} {x y : Operand} {a c : Value} {b : Bool} (hx : ev e x = a) (hy : ev e y = c) (h : ∀ k, (Op.equalIn (k + 1) t a c).run P w = .ok b w) (hb : binOp .neq t a c = (do pure (.bool (!(<- Op.equal t a c))))) (hg : ∀ p q, eqGuard .neq t p q a c = pure ()) :
  Qv P e ⟨d, .binOp .neq t x y t2, ty, pos, af, g⟩ w (.bool (!b)) := by
 unfold Qv
 have := vu h
 simp only [execOp, hx, hy, hb, hg, Sem.run_bind, Sem.run_pure, Result.andThen_ok, this]
theorem eqIn_ptr {t el : TypeId} (hu : P.underlying t = some (.pointer el)) (a : Option Addr) (k : Nat) : (Op.equalIn (k + 1) t (.pointer a) (.pointer none)).run P w = .ok a.isNone w := by
 cases a <;> (unfold Op.equalIn; rw [Sem.run_bind, run_underlying hu]; rfl)
theorem eqIn_slice {t el : TypeId} (hu : P.underlying t = some (.slice el)) (a : Option Addr) (m c k : Nat) : (Op.equalIn (k + 1) t (.slice a m c) (.slice none 0 0)).run P w = .ok a.isNone w := by
 cases a <;> (unfold Op.equalIn; rw [Sem.run_bind, run_underlying hu]; rfl)
theorem eqIn_bool {t : TypeId} (hu : P.underlying t = some .bool) (a b : Bool) (k : Nat) : (Op.equalIn (k + 1) t (.bool a) (.bool b)).run P w = .ok (a == b) w := by
 unfold Op.equalIn; rw [Sem.run_bind, run_underlying hu]; rfl
theorem xp {t t2 el : TypeId} [hu : Und P t (.pointer el)] {x y : Operand} {a : Option Addr} (hx : ev e x = .pointer a) (hy : ev e y = .pointer none) :
  Qv P e ⟨d, .binOp .eql t x y t2, ty, pos, af, g⟩ w (.bool a.isNone) :=
 q_eq_of hx hy (eqIn_ptr hu.h a) (by cases a <;> rfl) (fun _ _ => rfl)
theorem j9 {t t2 el : TypeId} [hu : Und P t (.pointer el)] {x y : Operand} {a : Option Addr} (hx : ev e x = .pointer a) (hy : ev e y = .pointer none) :
  Qv P e ⟨d, .binOp .neq t x y t2, ty, pos, af, g⟩ w (.bool (!a.isNone)) :=
 q_ne_of hx hy (eqIn_ptr hu.h a) (by cases a <;> rfl) (fun _ _ => rfl)
theorem kg {t t2 el : TypeId} [hu : Und P t (.slice el)] {x y : Operand} {a : Option Addr} {m c : Nat} (hx : ev e x = .slice a m c) (hy : ev e y = .slice none 0 0) :
  Qv P e ⟨d, .binOp .eql t x y t2, ty, pos, af, g⟩ w (.bool a.isNone) :=
 q_eq_of hx hy (eqIn_slice hu.h a m c) rfl (fun _ _ => rfl)
theorem q_neb {t t2 : TypeId} [hu : Und P t .bool] {x y : Operand} {a b : Bool} (hx : ev e x = .bool a) (hy : ev e y = .bool b) :
  Qv P e ⟨d, .binOp .neq t x y t2, ty, pos, af, g⟩ w (.bool (!(a == b))) :=
 q_ne_of hx hy (eqIn_bool hu.h a b) rfl (fun _ _ => rfl)
theorem toList_loop (a : ByteArray) : ∀ (k i : Nat) (r : List UInt8), a.size - i = k -> ByteArray.toList.loop a i r = r.reverse ++ a.data.toList.drop i := by
 intro k
 induction k with
 | zero =>
  intro i r h
  unfold ByteArray.toList.loop
  have hs : a.size = a.data.size := rfl
  rw [if_neg O3, List.drop_eq_nil_of_le (by simp; omega)]
  simp
 | succ k ih =>
  intro i r h
  unfold ByteArray.toList.loop
  have hs : a.size = a.data.size := rfl
  rw [if_pos O3, ih (i + 1) _ O3]
  have hi : i < a.data.toList.length := by simp; omega
  rw [List.drop_eq_getElem_cons hi]
  have : a.get! i = a.data.toList[i] := by
   show a.data[i]! = _
   rw [getElem!_pos a.data i O3]
   simp
  rw [this]
  simp
theorem toList_data (a : ByteArray) : a.toList = a.data.toList := by
 unfold ByteArray.toList
 rw [toList_loop _ _ _ _ rfl]
 simp
theorem q7 {t t2 : TypeId} {x y : Operand} {a b : ByteArray} (hx : ev e x = .string a) (hy : ev e y = .string b) :
  Qv P e ⟨d, .binOp .eql t x y t2, ty, pos, af, g⟩ w (.bool (a.data.toList == b.data.toList)) := by
 unfold Qv
 simp [execOp, hx, hy, eqGuard, binOp, Op.stringOp, toList_data]
theorem gd {t t2 : TypeId} {x y : Operand} {a b : ByteArray} (hx : ev e x = .string a) (hy : ev e y = .string b) :
  Qv P e ⟨d, .binOp .neq t x y t2, ty, pos, af, g⟩ w (.bool (!(a.data.toList == b.data.toList))) := by
 unfold Qv
 simp [execOp, hx, hy, eqGuard, binOp, Op.stringOp, toList_data]
theorem zh {t : TypeId} {x : Operand} {a : Bool} (hx : ev e x = .bool a) : Qv P e ⟨d, .unOp .not t x, ty, pos, af, g⟩ w (.bool (!a)) := by
 unfold Qv
 simp [execOp, hx, Op.unary]
theorem q_neg {t : TypeId} {x : Operand} {k : IntKind} {a : Int} (hx : ev e x = .int k a) : Qv P e ⟨d, .unOp .neg t x, ty, pos, af, g⟩ w (.int k (k.wrap (0 - a))) := by
 unfold Qv
 simp [execOp, hx, Op.unary, Op.intArith]
theorem kf {s t : TypeId} {k j : IntKind} {dd : TypeDesc} [hs : Und P s dd] [ht : Und P t (.int k)] {x : Operand} {a : Int} (hx : ev e x = .int j a) : Qv P e ⟨d, .convert s t x, ty, pos, af, g⟩ w (.int k (k.wrap a)) := by
 unfold Qv
 simp [execOp, hx, convert, run_underlying hs.h, run_underlying ht.h, Conv.intToInt]
theorem q_ext {x : Operand} {i : Nat} {vs : List Value} {v : Value} (hx : ev e x = .tuple vs.toArray) (hv : vs[i]? = some v) : Qv P e ⟨d, .extract x i, ty, pos, af, g⟩ w v := by
 unfold Qv
 simp [execOp, hx, Instr.extract, hv]
theorem zd {t el : TypeId} {tys : List TypeId} [hu : Und P t (.slice el)] {x : Operand} {a : Option Addr} {m c : Nat} (hx : ev e x = .slice a m c) :
  Qv P e ⟨d, .call ⟨.builtin .len, [x].toArray, (t :: tys).toArray⟩, ty, pos, af, g⟩ w (.iz m) := by
 unfold Qv
 simp [execOp, resolve, hx, invoke, builtin, Builtin.len_, run_underlying hu.h, goInt]
theorem zb {t : TypeId} {tys : List TypeId} [hu : Und P t .string] {x : Operand} {s : ByteArray} (hx : ev e x = .string s) :
  Qv P e ⟨d, .call ⟨.builtin .len, [x].toArray, (t :: tys).toArray⟩, ty, pos, af, g⟩ w (.iz s.size) := by
 unfold Qv
 simp [execOp, resolve, hx, invoke, builtin, Builtin.len_, run_underlying hu.h, goInt]
theorem zm {t kt et : TypeId} {tys : List TypeId} [hu : Und P t (.map kt et)] {x : Operand} {r clock : Nat} {es : Array MapEntry} (hx : ev e x = .map (some r)) (hb : w.heap[r]? = some (.map es clock)) :
  Qv P e ⟨d, .call ⟨.builtin .len, [x].toArray, (t :: tys).toArray⟩, ty, pos, af, g⟩ w (.iz es.size) := by
 unfold Qv
 simp [execOp, resolve, hx, invoke, builtin, Builtin.len_, run_underlying hu.h, goInt, getObj, Sem.run, hb]
theorem q_max {tys : Array TypeId} {x y : Operand} {k j : IntKind} {a b : Int} (hx : ev e x = .int k a) (hy : ev e y = .int j b) :
  Qv P e ⟨d, .call ⟨.builtin .max, [x, y].toArray, tys⟩, ty, pos, af, g⟩ w (.int k (max a b)) := by
 unfold Qv
 have : max a b = if b > a then b else a := by rw [Int.max_def]; split <;> split <;> omega
 simp [execOp, resolve, hx, hy, invoke, builtin, Builtin.max_, Builtin.max2, this]
theorem q_min {tys : Array TypeId} {x y : Operand} {k j : IntKind} {a b : Int} (hx : ev e x = .int k a) (hy : ev e y = .int j b) :
  Qv P e ⟨d, .call ⟨.builtin .min, [x, y].toArray, tys⟩, ty, pos, af, g⟩ w (.int k (min a b)) := by
 unfold Qv
 have : min a b = if b < a then b else a := by rw [Int.min_def]; split <;> split <;> omega
 simp [execOp, resolve, hx, hy, invoke, builtin, Builtin.min_, Builtin.min2, this]
def vcells : Value -> List Value
 | .agg cs => cs.toList
 | v => [v]
theorem gb (v : Value) : v.cells = (vcells v).toArray := by cases v <;> simp [vcells, Value.cells]
def laid (zero : List Value) (places : List (Nat × Nat)) : List (Nat × Value) -> Option (List Value)
 | [] => some zero
 | (i, v) :: r => match places[i]? with
  | none => none
  | some (off, size) =>
   bif Nat.beq (vcells v).length size && Nat.ble (off + size) zero.length then laid (zero.take off ++ vcells v ++ zero.drop (off + size)) places r else none
theorem uh (c : List Value) : ∀ (off k : Nat) (cells : List Value), off + k + c.length <= cells.length ->
  (c.zipIdx k).foldl (fun cs (x, j) => cs.setIfInBounds (off + j) x) cells.toArray = (cells.take (off + k) ++ c ++ cells.drop (off + k + c.length)).toArray := by
 induction c with
 | nil => intro off k cells h; simp
 | cons v c ih =>
  intro off k cells h
  simp only [Ur] at h
  simp only [List.zipIdx_cons, List.foldl_cons, List.setIfInBounds_toArray]
  rw [ih off (k + 1) (cells.set (off + k) v) (by simp; omega)]
  congr 1
  have e1 : off + (k + 1) = off + k + 1 := by omega
  have e2 : (cells.set (off + k) v).take (off + k + 1) = cells.take (off + k) ++ [v] := by
   rw [List.take_succ_eq_append_getElem (by simp; omega)]
   simp [List.take_set_of_le]
  rw [e1, e2, List.drop_set_of_lt O3]
  simp [Nat.add_assoc, Nat.add_comm, Nat.add_left_comm]
theorem ud (places : List (Nat × Nat)) : ∀ (ps : List (Nat × Value)) (zero : List Value), (∀ r, laid zero places ps = some r -> Instr.fill (places.toArray[·]?) zero.toArray ps = some r.toArray)
 | [], zero, r, h => by simp only [laid, Up] at h; subst h; rfl
 | (i, v) :: ps, zero, r, h => by
  simp only [laid] at h
  cases hp : places[i]? with
  | none => rw [hp] at h; cases h
  | some os =>
   obtain ⟨off, size⟩ := os
   rw [hp] at h
   simp only at h
   cases hc : (Nat.beq (vcells v).length size && Nat.ble (off + size) zero.length) with
   | false => rw [hc] at h; cases h
   | true =>
    rw [hc] at h
    simp only [Uc] at hc
    have h1 : (vcells v).length = size := Uh hc.1
    have h2 : off + size <= zero.length := Uj hc.2
    have hr := ud places ps _ r h
    unfold Instr.fill
    simp only [List.getElem?_toArray, hp, gb, Vj]
    rw [if_neg (by simp [h1]; omega)]
    have := uh (vcells v) off 0 zero O3
    simp only [Vn] at this
    have hz : (vcells v).toArray.zipIdx = ((vcells v).zipIdx).toArray := by simp
    rw [hz, List.foldl_toArray, this, h1]
    simpa using hr
class Pl (P : Program) (t : TypeId) (z : outParam (List Value)) (places : outParam (List (Nat × Nat))) : Prop where
 u : ∃ fs, P.underlying t = some (.struct fs) ∧ ∀ w, (fs.mapM fun f => do pure (f.offset, <- sizeOf f.type) : Sem (Array (Nat × Nat))).run P w = .ok places.toArray w
 z : ∀ w, (zeroValue t).run P w = .ok (.agg z.toArray) w
theorem Pl.mk' {P : Program} {t : TypeId} {fl : List Field} {z : List Value} {places : List (Nat × Nat)} {bytes : Nat} (hu : P.underlying t = some (.struct fl.toArray)) (hi : Inf P t z true bytes)
  (hs : fl.map (fun f => (f.offset, (P.info? f.type).map (·.size))) = places.map (fun p => (p.1, some p.2))) : Pl P t z places where
 u := by
  refine ⟨_, hu, fun w => ?_⟩
  rw [List.mapM_toArray]
  have key : ∀ (fl : List Field) (places : List (Nat × Nat)), fl.map (fun f => (f.offset, (P.info? f.type).map (·.size))) = places.map (fun p => (p.1, some p.2)) ->
    (fl.mapM fun f => do pure (f.offset, <- sizeOf f.type) : Sem (List (Nat × Nat))).run P w = .ok places w := by
   intro fl
   induction fl with
   | nil => intro places h; cases places with | nil => simp | cons a b => simp at h
   | cons f fl ih =>
    intro places h
    cases places with
    | nil => simp at h
    | cons a b =>
     simp only [List.map_cons, List.cons.injEq, Prod.mk.injEq] at h
     obtain ⟨i, hi, hsz⟩ := Option.map_eq_some_iff.1 h.1.2
     have hsz' : (sizeOf f.type).run P w = .ok a.2 w := by simp [sizeOf, typeInfo, hi, hsz]
     rw [List.mapM_cons, Sem.run_bind, Sem.run_bind, hsz']
     simp only [Result.andThen_ok, Sem.run_pure, Sem.run_bind, ih b h.2]
     rw [h.1.1]
  have hk := key fl places hs
  simp at hk
  simp [hk]
 z := fun w => hi.zeroValue w
theorem qc {t : TypeId} {z : List Value} {places : List (Nat × Nat)} [hp : Pl P t z places] {parts : List (Nat × Operand)} {r : List Value} (hl : laid z places (parts.map fun (i, x) => (i, ev e x)) = some r) :
  Qv P e ⟨d, .build t parts.toArray, ty, pos, af, g⟩ w (.agg r.toArray) := by
 unfold Qv
 obtain ⟨fs, hu, h1⟩ := hp.u
 have h2 := hp.z w
 have hf := ud places _ _ _ hl
 simp only [execOp, Instr.build, Sem.run_bind, h2, run_underlying hu, Result.andThen_ok, h1, Value.cells, Vp]
 simp only at hf
 rw [hf]
 rfl
theorem js {c : Nat} {t : TypeId} {x : Operand} {v : Value} (h : St w0 l w) (hx : ev e x = v) (k : ∀ b w', St w0 (pt b (.cells (vcells v).toArray t (0, 0)) :: l) w' -> K (upd e c (.pz b)) w') :
  Ex P ⟨some c, .box t x, ty, pos, af, g⟩ e w K := by
 refine x_w (v := .pointer (some ⟨w.heap.size, 0, none⟩)) (w' := w.alloc (.cells (vcells v).toArray t (0, 0))) ?_ (k _ _ (h.alloc _))
 simp [execOp, hx, Instr.box, newVar, newRow, gb]
theorem qt {c : Nat} {t : TypeId} {z : List Value} {agg : Bool} {bytes : Nat} [hi : Inf P t z agg bytes] (h : St w0 l w) (k : ∀ b w', St w0 (pt b (.cells z.toArray t (0, 0)) :: l) w' -> K (upd e c (.pz b)) w') :
  Ex P ⟨some c, .alloc t, ty, pos, af, g⟩ e w K := by
 refine x_w (v := .pointer (some ⟨w.heap.size, 0, none⟩)) (w' := w.alloc (.cells z.toArray t (0, 0))) ?_ (k _ _ (h.alloc _))
 have hz := hi.zeroValue w
 have hc := hi.cells
 generalize (if agg then Value.agg z.toArray else z.getD 0 undef) = zz at hz hc
 simp [execOp, Instr.alloc, hz, newVar, newRow, hc]
theorem um {t : TypeId} {z : List Value} {agg : Bool} {bytes : Nat} [hi : Inf P t z agg bytes] {b o : Nat} {cs : List Value} {T : TypeId} {fr : Nat × Nat} {v : Value} (k : Nat) (h : St w0 l w)
  (hk : l[k]? = some (pt b (.cells cs.toArray T fr))) (hs : (vcells v).length = z.length) (ho : o + (vcells v).length <= cs.length) (hfr : fr.2 <= o) (h1 : (vcells v).all (·.oneCell') = true) :
  ∃ w', (Instr.storeAt t (.pointer (some ⟨b, o, none⟩)) v).run P w = .ok () w' ∧ St w0 (l.set k (pt b (.cells (cs.take o ++ vcells v ++ cs.drop (o + (vcells v).length)).toArray T fr))) w' := by
 have hb := h.b k hk
 have hst := run_storeCells_atF P b o T fr (vcells v) 0 cs.toArray w hb O3 (by simpa using ho) (by simpa using h1)
 simp only [Vn] at hst
 refine ⟨w.setRow b (cs.take o ++ vcells v ++ cs.drop (o + (vcells v).length)).toArray, ?_, ?_⟩
 ·have hz := hi.sizeOf w
  simp only [Instr.storeAt, Instr.sureAddr, storeVar, Sem.run_bind, Sem.run_pure, Result.andThen_ok, hz, gb]
  rw [if_neg (by simp [hs])]
  simp only [hst]
 ·exact h.putk k hk rfl rfl rfl O8 (fun j hj => setRow_other w b j _ hj) (setRow_heap w b _ _ T fr hb)
theorem qd {t : TypeId} {z : List Value} {bytes : Nat} [hi : Inf P t z false bytes] {x y : Operand} {b o : Nat} {cs : List Value} {T : TypeId} {fr : Nat × Nat} {v : Value} (k : Nat) (h : St w0 l w)
  (hx : ev e x = .pointer (some ⟨b, o, none⟩)) (hy : ev e y = v) (hk : l[k]? = some (pt b (.cells cs.toArray T fr))) (ho : Vi o cs.length = true) (hfr : Nat.ble fr.2 o = true) (h1 : v.oneCell' = true)
  (kk : ∀ w', St w0 (l.set k (pt b (.cells (cs.set o v).toArray T fr))) w' -> K e w') : Ex P ⟨none, .store t x y, ty, pos, af, g⟩ e w K := by
 have hz := hi.one rfl
 have hv : vcells v = [v] := by cases v <;> first | rfl | (simp [Value.oneCell'] at h1)
 have ho' : o < cs.length := by simpa [Uy] using ho
 obtain ⟨w', h2, h3⟩ := um (P := P) (t := t) (o := o) (v := v) k h hk (by rw [hv, hz]; rfl) (by rw [hv]; simp; omega) (Uj hfr) (by rw [hv]; simp [h1])
 refine zy (w' := w') (by simp only [execOp, hx, hy, Sem.run_bind, h2, Result.andThen_ok]; rfl) (kk _ ?_)
 rw [hv] at h3
 have hset : cs.set o v = cs.take o ++ [v] ++ cs.drop (o + 1) := by rw [List.set_eq_take_append_cons_drop, if_pos ho']; simp
 rw [hset]
 exact h3
theorem qb {t : TypeId} {z : List Value} {bytes : Nat} [hi : Inf P t z true bytes] {x y : Operand} {b o : Nat} {cs vs : List Value} {T : TypeId} {fr : Nat × Nat} (k : Nat) (h : St w0 l w)
  (hx : ev e x = .pointer (some ⟨b, o, none⟩)) (hy : ev e y = .agg vs.toArray) (hk : l[k]? = some (pt b (.cells cs.toArray T fr))) (hs : Nat.beq vs.length z.length = true) (ho : Nat.ble (o + vs.length) cs.length = true) (hfr : Nat.ble fr.2 o = true) (h1 : vs.all (·.oneCell') = true)
  (kk : ∀ w', St w0 (l.set k (pt b (.cells (cs.take o ++ vs ++ cs.drop (o + vs.length)).toArray T fr))) w' -> K e w') : Ex P ⟨none, .store t x y, ty, pos, af, g⟩ e w K := by
 obtain ⟨w', h2, h3⟩ := um (P := P) (t := t) (o := o) (v := .agg vs.toArray) k h hk (Uh hs) (Uj ho) (Uj hfr) h1
 exact zy (w' := w') (by simp only [execOp, hx, hy, Sem.run_bind, h2, Result.andThen_ok]; rfl) (kk _ h3)
theorem qq {c : Option Nat} {f : FuncId} {xs : List Operand} {tys : Array TypeId} {vs : List Value} {φ : Value -> World -> Prop} [hf : FnB P f] (hv : xs.map (ev e) = vs) (h : Ret P f vs w φ) (k : ∀ v w', φ v w' -> K (updO e c v) w') :
  Ex P ⟨c, .call ⟨.value (.func f), xs.toArray, tys⟩, ty, pos, af, g⟩ e w K := by
 obtain ⟨fn, h1, h2, h3⟩ := hf.h
 have hb : fn.body.isNone = false := h3
 have hrun : (execOp (ev e) ⟨c, .call ⟨.value (.func f), xs.toArray, tys⟩, ty, pos, af, g⟩).run P w = .ok (.enter f vs.toArray) w := by
  have hp : ∀ w, (program).run P w = .ok P w := fun _ => rfl
  simp only [execOp, resolve, ev, Deferred.ofValue, invoke, callFunc, Sem.run_bind, Sem.run_pure, Result.andThen_ok, hp, h1, h2, hb, Vp, hv]
  simp
 unfold Ret at h
 unfold Ex
 rw [hrun]
 exact Calls.mono h fun _ _ ⟨v, a, b⟩ => ⟨v, a, k _ _ b⟩
theorem zn {c : Nat} {t T : TypeId} [ht : Und P t (.slice T)] {z : List Value} {agg : Bool} {bytes : Nat} [hi : Inf P T z agg bytes] {x y : Operand} {a a2 : Option Addr} {m m2 c1 c2 sz : Nat} {xs ys : List Value}
  (h : St w0 (Own T sz a m c1 xs :: l) w) (hx : ev e x = .slice a m c1) (hy : ev e y = .slice a2 m2 c2) (hr : Rd w sz a2 m2 ys) (h1 : ∀ u ∈ ys, u.oneCell' = true) (hb : (m + m2) * bytes <= 140737488355328) (h63 : m + m2 <= 9223372036854775807) (hz : z.length = sz)
  (k : ∀ a' c' w', (a' = none -> a = none) -> St w0 (Own T sz a' (m + m2) c' (xs ++ ys) :: l) w' -> K (upd e c (.slice a' (m + m2) c')) w') :
  Ex P ⟨some c, .call ⟨.builtin .append, [x, y].toArray, [t, t].toArray⟩, ty, pos, af, g⟩ e w K := by
 subst hz
 obtain ⟨a', c', w', hrun, hnn, hst⟩ := h.append (ty := ty) (c2 := c2) ht.h hi hr h1 hb h63
 refine x_w (v := .slice a' (m + m2) c') (w' := w') ?_ (k _ _ _ hnn hst)
 simp [execOp, resolve, hx, hy, invoke, builtin, hrun]
def laidS (sz : Nat) (zero : List Value) : List (Nat × Value) -> Option (List Value)
 | [] => some zero
 | (i, v) :: r =>
   bif Nat.beq (vcells v).length sz && Nat.ble (i * sz + sz) zero.length then laidS sz (zero.take (i * sz) ++ vcells v ++ zero.drop (i * sz + sz)) r else none
theorem vf (sz : Nat) : ∀ (ps : List (Nat × Value)) (zero r : List Value), laidS sz zero ps = some r -> Instr.fill (fun i => some (i * sz, sz)) zero.toArray ps = some r.toArray
 | [], zero, r, h => by simp only [laidS, Up] at h; subst h; rfl
 | (i, v) :: ps, zero, r, h => by
  simp only [laidS] at h
  cases hc : (Nat.beq (vcells v).length sz && Nat.ble (i * sz + sz) zero.length) with
  | false => rw [hc] at h; cases h
  | true =>
   rw [hc] at h
   simp only [Uc] at hc
   have h1 : (vcells v).length = sz := Uh hc.1
   have h2 : i * sz + sz <= zero.length := Uj hc.2
   have hr := vf sz ps _ r h
   unfold Instr.fill
   simp only [gb, Vj]
   rw [if_neg (by simp [h1]; omega)]
   have := uh (vcells v) (i * sz) 0 zero O3
   simp only [Vn] at this
   have hz : (vcells v).toArray.zipIdx = ((vcells v).zipIdx).toArray := by simp
   rw [hz, List.foldl_toArray, this, h1]
   exact hr
def zrow (z : List Value) : Nat -> List Value
 | 0 => []
 | k + 1 => z ++ zrow z k
theorem ku (z : List Value) (hz : z ≠ []) : ∀ (k j : Nat), j < k * z.length -> (zrow z k)[j]? = some (z.toArray[j % z.length]!)
 | 0, j, h => by omega
 | k + 1, j, h => by
  have hpos : 0 < z.length := Vd.2 hz
  unfold zrow
  by_cases hj : j < z.length
  ·rw [List.getElem?_append_left hj, Ud hj]; simp [hj]
  ·rw [List.getElem?_append_right O3, ku z hz k (j - z.length) (by rw [Ux] at h; omega)]
   congr 2
   rw [<- Nat.mod_eq_sub_mod O3]
theorem vo (z : List Value) : ∀ k, (zrow z k).length = k * z.length
 | 0 => by simp [zrow]
 | k + 1 => by simp [zrow, vo z k, Ux, Nat.add_comm]
theorem xf (z : List Value) (hz : z ≠ []) (k : Nat) : (Array.range (k * z.length)).map (fun i => z.toArray[i % z.toArray.size]!) = (zrow z k).toArray := by
 apply Array.ext_getElem?
 intro j
 by_cases hj : j < k * z.length
 ·simp [hj, ku z hz k j hj]
 ·simp [hj, Uq, vo, Nat.le_of_not_lt hj]
theorem jy {c : Nat} {t T : TypeId} [ht : Und P t (.slice T)] {z : List Value} {agg : Bool} {bytes : Nat} [hi : Inf P T z agg bytes] {len : Nat} {parts : List (Nat × Operand)} {r : List Value} (h : St w0 l w)
  (hl : laidS z.length (zrow z len) (parts.map fun (i, x) => (i, ev e x)) = some r) (hs : Nat.ble (len * z.length) 16777216 = true) (hz : Nat.ble 1 z.length = true)
  (k : ∀ b w', St w0 (pt b (.cells r.toArray T (0, 0)) :: l) w' -> K (upd e c (.slice (sQ b) len len)) w') :
  Ex P ⟨some c, .buildSlice t len parts.toArray, ty, pos, af, g⟩ e w K := by
 refine x_w (v := .slice (some ⟨w.heap.size, 0, none⟩) len len) (w' := w.alloc (.cells r.toArray T (0, 0))) ?_ (k _ _ (h.alloc _))
 have hf := vf _ _ _ _ hl
 have h1 := hi.sizeOf w
 have h2 := hi.zeroValue w
 have h3 := hi.cells
 have hpos : 1 <= z.length := Uj hz
 have hne : z ≠ [] := by rintro rfl; simp at hpos
 have hsm : ¬ (2 ^ 24 < len * z.length) := by have := Uj hs; omega
 generalize (if agg then Value.agg z.toArray else z.getD 0 undef) = zz at h2 h3
 simp only at hf
 by_cases h0 : len * z.length = 0
 ·have hcells : (Array.range (len * z.length)).map (fun i => (#[] : Array Value)[i % (#[] : Array Value).size]!) = (zrow z len).toArray := by
   have : (zrow z len) = [] := Uf (by rw [vo]; exact h0)
   rw [this, h0]; simp
  simp only [execOp, Instr.buildSlice, Sem.run_bind, run_underlying ht.h, Result.andThen_ok, h1]
  rw [if_neg hsm, if_pos h0]
  simp only [Sem.run_bind, Sem.run_pure, Result.andThen_ok, hcells, Vp]
  rw [hf]
  simp [newRow]
 ·have hcells := xf z hne len
  simp only [execOp, Instr.buildSlice, Sem.run_bind, run_underlying ht.h, Result.andThen_ok, h1]
  rw [if_neg hsm, if_neg h0]
  simp only [Sem.run_bind, Sem.run_pure, Result.andThen_ok, h2, h3, hcells, Vp]
  rw [hf]
  simp [newRow]
end
end
section
section
variable {G H : Prop}
theorem Y1 (g : H) (f : H -> G := by intro g; refine r_v (k5 rfl) rfl ?_; exact g) : G := f g
theorem Y7 (g : H) (f : H -> G := by intro g; refine r_v (uw rfl) rfl ?_; exact g) : G := f g
theorem Yt (g : H) (f : H -> G := by intro g; refine r_v (yb rfl) rfl ?_; exact g) : G := f g
theorem Yf (g : H) (f : H -> G := by intro g; refine r_v (ul rfl) rfl ?_; exact g) : G := f g
theorem Y17 (g : H) (f : H -> G := by intro g; refine r_v (yn rfl) rfl ?_; exact g) : G := f g
theorem Y1e (g : H) (f : H -> G := by intro g; refine r_v (vh rfl) rfl ?_; exact g) : G := f g
theorem Y13 (g : H) (f : H -> G := by intro g; refine r_v (j8 rfl) rfl ?_; exact g) : G := f g
theorem Ya (g : H) (f : H -> G := by intro g; refine r_v (jx rfl) rfl ?_; exact g) : G := f g
theorem Y2k (g : H) (f : H -> G := by intro g; refine r_v (k6 rfl) rfl ?_; exact g) : G := f g
theorem Y25 (g : H) (f : H -> G := by intro g; refine r_v (zd rfl) rfl ?_; exact g) : G := f g
theorem Yv (g : H) (f : H -> G := by intro g; refine r_v (k8 rfl rfl) rfl ?_; exact g) : G := f g
theorem Y2 (g : H) (f : H -> G := by intro g; refine qj ?_; exact g) : G := f g
theorem Y4 (g : H) (f : H -> G := by intro g; refine r_gd rfl rfl ?_; exact g) : G := f g
theorem Y1b (g : H) (f : H -> G := by intro g; refine r_gn rfl rfl rfl ?_; exact g) : G := f g
theorem Yg (g : H) (f : H -> G := by intro g; refine q6 ?_; exact g) : G := f g
theorem Yl (g : H) (f : H -> G := by intro g; refine ut ?_; exact g) : G := f g
theorem Yb (g : H) (f : H -> G := by intro g; refine r_v (ue rfl rfl rfl) rfl ?_; exact g) : G := f g
theorem Yn (g : H) (f : H -> G := by intro g; refine r_v (jt rfl rfl rfl) rfl ?_; exact g) : G := f g
theorem Yc (g : H) (f : H -> G := by intro g; refine r_v (q_eql rfl rfl) rfl ?_; exact g) : G := f g
theorem Y1o (g : H) (f : H -> G := by intro g; refine r_v (q_lss rfl rfl) rfl ?_; exact g) : G := f g
theorem Y1p (g : H) (f : H -> G := by intro g; refine r_v (zh rfl) rfl ?_; exact g) : G := f g
theorem Yw (g : H) (f : H -> G := by intro g; refine r_v (kf rfl) rfl ?_; exact g) : G := f g
theorem Y10 (g : H) (f : H -> G := by intro g; refine r_v (k9 rfl rfl) rfl ?_; exact g) : G := f g
theorem Yx (g : H) (f : H -> G := by intro g; refine r_v (ym rfl) rfl ?_; exact g) : G := f g
theorem Y1i (g : H) (f : H -> G := by intro g; refine r_v (q_geq rfl rfl) rfl ?_; exact g) : G := f g
theorem Y1q (g : H) (f : H -> G := by intro g; refine r_v (zx rfl rfl) rfl ?_; exact g) : G := f g
theorem Y1w (g : H) (f : H -> G := by intro g; refine r_v (q_leq rfl rfl) rfl ?_; exact g) : G := f g
theorem Y2s (g : H) (f : H -> G := by intro g; refine r_v (q_neq rfl rfl) rfl ?_; exact g) : G := f g
theorem Y30 (g : H) (f : H -> G := by intro g; refine r_v (q_min rfl rfl) rfl ?_; exact g) : G := f g
theorem Y2u (g : H) (f : H -> G := by intro g; refine r_v (q_mul rfl rfl) rfl ?_; exact g) : G := f g
theorem Y2t (g : H) (f : H -> G := by intro g; refine r_v (xp rfl rfl) rfl ?_; exact g) : G := f g
theorem Y11 (g : H) (f : H -> G := by intro g; refine cpv rfl rfl rfl rfl h rfl (jx rfl) ?_; exact g) : G := f g
theorem Y14 (g : H) (f : H -> G := by intro g; refine cpv rfl rfl rfl rfl h rfl (k5 rfl) ?_; exact g) : G := f g
theorem Y1f (g : H) (f : H -> G := by intro g; refine cpv rfl rfl rfl rfl h rfl (ul rfl) ?_; exact g) : G := f g
theorem Y35 (g : H) (f : H -> G := by intro g; refine cpv rfl rfl rfl rfl h rfl (vh rfl) ?_; exact g) : G := f g
theorem Y2w (g : H) (f : H -> G := by intro g; refine cpv rfl rfl rfl rfl h rfl (zd rfl) ?_; exact g) : G := f g
theorem Y2x (g : H) (f : H -> G := by intro g; refine cpv rfl rfl rfl rfl h rfl (uw rfl) ?_; exact g) : G := f g
theorem Y26 (g : H) (f : H -> G := by intro g; refine cpv rfl rfl rfl rfl h rfl (j8 rfl) ?_; exact g) : G := f g
theorem Yo (g : H) (f : H -> G := by intro g; refine zu ?_; exact g) : G := f g
theorem Y0 (g : H) (f : H -> G := by intro g; refine ql ?_; refine jj ?_; exact g) : G := f g
theorem Y6 (g : H) (f : H -> G := by intro g; refine Yt ?_; refine Y2 ?_; exact g) : G := f g
theorem Y1g (g : H) (f : H -> G := by intro g; refine Yo ?_; refine Yo ?_; exact g) : G := f g
theorem Y3 (g : H) (f : H -> G := by intro g; refine Y7 ?_; refine Y2 ?_; exact g) : G := f g
theorem Yp (g : H) (f : H -> G := by intro g; refine Y2k ?_; refine Ya ?_; exact g) : G := f g
theorem Ym (g : H) (f : H -> G := by intro g; refine Y13 ?_; refine Y4 ?_; exact g) : G := f g
theorem Y2y (g : H) (f : H -> G := by intro g; refine Y2 ?_; refine qn rfl ?_; exact g) : G := f g
theorem Yk (g : H) (f : H -> G := by intro g; refine Y2 ?_; refine qr rfl ?_; exact g) : G := f g
theorem Yr (g : H) (f : H -> G := by intro g; refine Yf ?_; refine Y25 ?_; exact g) : G := f g
theorem Y34 (g : H) (f : H -> G := by intro g; refine Y1b ?_; refine Y1b ?_; exact g) : G := f g
theorem Y36 (g : H) (f : H -> G := by intro g; refine r_v (q_ext rfl rfl) rfl ?_; refine r_v (q_ext rfl rfl) rfl ?_; exact g) : G := f g
theorem Yj (g : H) (f : H -> G := by intro g; refine jj ?_; refine Y1 ?_; exact g) : G := f g
theorem Y16 (g : H) (f : H -> G := by intro g; refine Yx ?_; refine Y2 ?_; exact g) : G := f g
theorem Y1x (g : H) (f : H -> G := by intro g; refine ql ?_; refine Yl ?_; exact g) : G := f g
theorem Y31 (g : H) (f : H -> G := by intro g; refine Y1 ?_; refine Y4 ?_; exact g) : G := f g
theorem Y37 (g : H) (f : H -> G := by intro g; refine cpv rfl rfl rfl rfl h rfl (k6 rfl) ?_; refine Y11 ?_; exact g) : G := f g
theorem Y2l (g : H) (f : H -> G := by intro g; refine Y2 ?_; refine Yl ?_; exact g) : G := f g
theorem Y19 (g : H) (f : H -> G := by intro g; refine jj ?_; refine Yv ?_; exact g) : G := f g
theorem Y1a (g : H) (f : H -> G := by intro g; refine Y1 ?_; refine Y1 ?_; exact g) : G := f g
theorem Y1h (g : H) (f : H -> G := by intro g; refine jj ?_; refine Y1e ?_; exact g) : G := f g
theorem Y1j (g : H) (f : H -> G := by intro g; refine Y17 ?_; refine Y2 ?_; exact g) : G := f g
theorem Y2z (g : H) (f : H -> G := by intro g; refine Ya ?_; refine Y4 ?_; exact g) : G := f g
theorem Y2d (g : H) (f : H -> G := by intro g; refine Yn ?_; refine Yt ?_; exact g) : G := f g
theorem Y2h (g : H) (f : H -> G := by intro g; refine Yb ?_; refine Yt ?_; exact g) : G := f g
theorem Y2r (g : H) (f : H -> G := by intro g; refine jj ?_; refine Ya ?_; exact g) : G := f g
theorem Y5 (g : H) (f : H -> G := by intro g; refine Y0 ?_; refine Y1 ?_; exact g) : G := f g
theorem Yd (g : H) (f : H -> G := by intro g; refine Y0 ?_; refine Y1e ?_; exact g) : G := f g
theorem Y15 (g : H) (f : H -> G := by intro g; refine ql ?_; refine Y0 ?_; exact g) : G := f g
theorem Ye (g : H) (f : H -> G := by intro g; refine Y1g ?_; refine Yo ?_; exact g) : G := f g
theorem Yq (g : H) (f : H -> G := by intro g; refine Y0 ?_; refine Y17 ?_; exact g) : G := f g
theorem Yh (g : H) (f : H -> G := by intro g; refine Y2y ?_; refine Yg ?_; exact g) : G := f g
theorem Y9 (g : H) (f : H -> G := by intro g; refine Y2 ?_; refine Y0 ?_; exact g) : G := f g
theorem Yi (g : H) (f : H -> G := by intro g; refine Y0 ?_; refine Y3 ?_; exact g) : G := f g
theorem Y18 (g : H) (f : H -> G := by intro g; refine r_v (xn rfl) rfl ?_; refine Y36 ?_; exact g) : G := f g
theorem Y1k (g : H) (f : H -> G := by intro g; refine Y0 ?_; refine Yc ?_; exact g) : G := f g
theorem Y1l (g : H) (f : H -> G := by intro g; refine Y13 ?_; refine Y34 ?_; exact g) : G := f g
theorem Yu (g : H) (f : H -> G := by intro g; refine Y1g ?_; refine Y1g ?_; exact g) : G := f g
theorem Yz (g : H) (f : H -> G := by intro g; refine Y0 ?_; refine Y6 ?_; exact g) : G := f g
theorem Y12 (g : H) (f : H -> G := by intro g; refine Y35 ?_; refine Y37 ?_; exact g) : G := f g
theorem Y32 (g : H) (f : H -> G := by intro g; refine Y0 ?_; refine Y1o ?_; exact g) : G := f g
theorem Y1c (g : H) (f : H -> G := by intro g; refine Y0 ?_; refine Y7 ?_; exact g) : G := f g
theorem Y1d (g : H) (f : H -> G := by intro g; refine Ym ?_; refine Y31 ?_; exact g) : G := f g
theorem Y1m (g : H) (f : H -> G := by intro g; refine Yg ?_; refine Y1x ?_; exact g) : G := f g
theorem Y1n (g : H) (f : H -> G := by intro g; refine Yk ?_; refine Y0 ?_; exact g) : G := f g
theorem Y1s (g : H) (f : H -> G := by intro g; refine Y1 ?_; refine Y2l ?_; exact g) : G := f g
theorem Y38 (g : H) (f : H -> G := by intro g; refine Ym ?_; refine Y1e ?_; exact g) : G := f g
theorem Y1y (g : H) (f : H -> G := by intro g; refine Y0 ?_; refine Ya ?_; exact g) : G := f g
theorem Y20 (g : H) (f : H -> G := by intro g; refine Y6 ?_; refine qr rfl ?_; exact g) : G := f g
theorem Y22 (g : H) (f : H -> G := by intro g; refine Y6 ?_; refine qn rfl ?_; exact g) : G := f g
theorem Y2c (g : H) (f : H -> G := by intro g; refine Y0 ?_; refine Y16 ?_; exact g) : G := f g
theorem Y2e (g : H) (f : H -> G := by intro g; refine Y4 ?_; refine Y2z ?_; exact g) : G := f g
theorem Y2n (g : H) (f : H -> G := by intro g; refine Yg ?_; refine Y0 ?_; exact g) : G := f g
theorem Y8 (g : H) (f : H -> G := by intro g; refine Yd ?_; refine Yp ?_; exact g) : G := f g
theorem Ys (g : H) (f : H -> G := by intro g; refine ql ?_; refine Y5 ?_; exact g) : G := f g
theorem Y27 (g : H) (f : H -> G := by intro g; refine Y2 ?_; refine Y15 ?_; exact g) : G := f g
theorem Y33 (g : H) (f : H -> G := by intro g; refine Y15 ?_; refine Y13 ?_; exact g) : G := f g
theorem Y1r (g : H) (f : H -> G := by intro g; refine Y15 ?_; refine Yr ?_; exact g) : G := f g
theorem Y1v (g : H) (f : H -> G := by intro g; refine Y38 ?_; refine Y4 ?_; exact g) : G := f g
theorem Y21 (g : H) (f : H -> G := by intro g; refine Y1k ?_; refine Yt ?_; exact g) : G := f g
theorem Y24 (g : H) (f : H -> G := by intro g; refine Y5 ?_; refine Y1 ?_; exact g) : G := f g
theorem Y2a (g : H) (f : H -> G := by intro g; refine Y2 ?_; refine Y5 ?_; exact g) : G := f g
theorem Y2b (g : H) (f : H -> G := by intro g; refine Y2 ?_; refine Yd ?_; exact g) : G := f g
theorem Y2f (g : H) (f : H -> G := by intro g; refine Ye ?_; refine Y11 ?_; exact g) : G := f g
theorem Y2i (g : H) (f : H -> G := by intro g; refine Y1l ?_; refine Y34 ?_; exact g) : G := f g
theorem Y2j (g : H) (f : H -> G := by intro g; refine Yn ?_; refine Yh ?_; exact g) : G := f g
theorem Y2o (g : H) (f : H -> G := by intro g; refine Y5 ?_; refine Y1o ?_; exact g) : G := f g
theorem Y2p (g : H) (f : H -> G := by intro g; refine Y5 ?_; refine Yw ?_; exact g) : G := f g
theorem Y2q (g : H) (f : H -> G := by intro g; refine Y1g ?_; refine Ye ?_; exact g) : G := f g
theorem Y2m (g : H) (f : H -> G := by intro g; refine Yq ?_; refine Y27 ?_; exact g) : G := f g
end
end
section
set_option linter.unusedSectionVars false
section
variable {κ β : Type} [DecidableEq κ]
def mfind (k : κ) : List (κ × β) -> Nat -> Option (Nat × β)
 | [], _ => none
 | (j, v) :: r, i => if j = k then some (i, v) else mfind k r (i + 1)
def mset (k : κ) (v : β) : List (κ × β) -> List (κ × β)
 | [] => [(k, v)]
 | (j, u) :: r => if j = k then (k, v) :: r else (j, u) :: mset k v r
def mdel (k : κ) : List (κ × β) -> List (κ × β)
 | [] => []
 | (j, u) :: r => if j = k then r else (j, u) :: mdel k r
def keys (m : List (κ × β)) : List κ := m.map (·.1)
theorem ky {γ : Type} (f : β -> γ) (m : List (κ × β)) : keys (m.map fun p => (p.1, f p.2)) = keys m := by simp [keys, Function.comp_def]
def big (f : κ × β -> HProp) : List (κ × β) -> HProp
 | [] => emp
 | p :: r => star (f p) (big f r)
def Ents (kv : κ -> Value) (es : List MapEntry) (m : List (κ × Value)) : Prop := es.map (fun e => (e.key, e.val)) = m.map (fun p => (kv p.1, p.2))
class MK (P : Program) (kt : TypeId) (κ : Type) [DecidableEq κ] (kv : outParam (κ -> Value)) : Prop where
 check : ∀ e w k, (Instr.checkKey e 10000 kt (kv k)).run P w = .ok () w
 find : ∀ w k es m, Ents kv es m -> (Instr.findKey kt (kv k) es).run P w = .ok (mfind k m 0) w
 same : ∀ k, Instr.sameBits 10000 (kv k) (kv k) = true
 inj : ∀ a b, kv a = kv b -> a = b
def MapOf (kv : κ -> Value) (b : Nat) (m : List (κ × Value)) : HProp := fun h => ∃ es clock, Ents kv es m ∧ pt b (.map es.toArray clock) h
theorem zp {kv : κ -> Value} {es : List MapEntry} {m : List (κ × Value)} (h : Ents kv es m) : es.length = m.length := by
 have := congrArg List.length h; simpa using this
end
section
variable {P : Program} {κ : Type} [DecidableEq κ] {kv : κ -> Value} {e : Env} {w w0 : World} {K : Env -> World -> Prop} {l : List HProp}
variable {d : Option Nat} {ty : TypeId} {pos : String} {af : Array Edge} {g : Option (Nat × Bool)}
theorem St.map_pt {b : Nat} {m : List (κ × Value)} (h : St w0 (MapOf kv b m :: l) w) : ∃ es clock, Ents kv es m ∧ St w0 (pt b (.map es.toArray clock) :: l) w := by
 obtain ⟨p, hp, x, y, hd, he, ⟨es, clock, h1, h2⟩, hl⟩ := h.own
 exact ⟨es, clock, h1, h.os, h.tape, h.output, h.size, h.old, p, hp, x, y, hd, he, h2, hl⟩
theorem St.pt_map {b : Nat} {m : List (κ × Value)} {es : List MapEntry} {clock : Nat} (he : Ents kv es m) (h : St w0 (pt b (.map es.toArray clock) :: l) w) : St w0 (MapOf kv b m :: l) w :=
 h.mono fun _ hp => ⟨es, clock, he, hp⟩
def IsMap (kv : κ -> Value) (w : World) (b : Nat) (m : List (κ × Value)) : Prop := ∃ es clock, Ents kv es m ∧ w.heap[b]? = some (.map es.toArray clock)
theorem St.isMap {b : Nat} {m : List (κ × Value)} (h : St w0 (MapOf kv b m :: l) w) : IsMap kv w b m := by
 obtain ⟨es, clock, h1, h2⟩ := h.map_pt
 exact ⟨es, clock, h1, h2.hd.1⟩
theorem IsMap.size {b : Nat} {m : List (κ × Value)} (h : IsMap kv w b m) : ∃ es clock, w.heap[b]? = some (.map es clock) ∧ es.size = m.length := by
 obtain ⟨es, clock, h1, h2⟩ := h
 exact ⟨_, clock, h2, by simpa using zp h1⟩
theorem zc {t kt et : TypeId} {tys : List TypeId} [hu : Und P t (.map kt et)] {x : Operand} {b : Nat} {m : List (κ × Value)} (hx : ev e x = .map (some b)) (h : IsMap kv w b m) :
  Qv P e ⟨d, .call ⟨.builtin .len, [x].toArray, (t :: tys).toArray⟩, ty, pos, af, g⟩ w (.iz m.length) := by
 obtain ⟨es, clock, h1, h2⟩ := h.size
 rw [<- h2]
 exact zm hx h1
theorem ur {c : Nat} {t : TypeId} (kv : κ -> Value) (h : St w0 l w) (k : ∀ b w', St w0 (MapOf kv b [] :: l) w' -> K (upd e c (.map (some b))) w') : Ex P ⟨some c, .makeMap t none, ty, pos, af, g⟩ e w K := by
 refine x_w (v := .map (some w.heap.size)) (w' := w.alloc (.map #[] 0)) ?_ (k _ _ ?_)
 ·simp [execOp, Instr.makeMap]
 ·exact St.pt_map (es := []) (clock := 0) rfl (h.alloc _)
/-! Maps whose elements are pointers to things of their own. -/
section
variable {α : Type} {R : Nat -> α -> HProp}
abbrev ptrOf (p : Nat × α) : Value := .pointer (some ⟨p.1, 0, none⟩)
def PMap (kv : κ -> Value) (b : Nat) (R : Nat -> α -> HProp) (m : List (κ × α)) : HProp := ex fun mm : List (κ × (Nat × α)) =>
 all [lift (mm.map (fun p => (p.1, p.2.2)) = m), MapOf kv b (mm.map fun p => (p.1, ptrOf p.2)), big (fun p => R p.2.1 p.2.2) mm]
theorem gy (P : HProp) (l : List HProp) : all (P :: l) = star P (all l) := rfl
theorem St.pmap {b : Nat} {m : List (κ × α)} : St w0 (PMap kv b R m :: l) w ↔ ∃ mm : List (κ × (Nat × α)), mm.map (fun p => (p.1, p.2.2)) = m ∧ St w0 (MapOf kv b (mm.map fun p => (p.1, ptrOf p.2)) :: big (fun p => R p.2.1 p.2.2) mm :: l) w := by
 unfold PMap
 rw [St.ex]
 constructor
 ·rintro ⟨mm, h⟩
  have := h.join
  exact ⟨mm, St.lift.1 this⟩
 ·rintro ⟨mm, h1, h2⟩
  exact ⟨mm, St.fold _ (St.lift.2 ⟨h1, h2⟩)⟩
theorem St.pnone {b : Nat} {m : List (κ × α)} (h : St w0 (PMap kv b R m :: l) w) : ∃ ps, IsMap kv w b ps ∧ keys ps = keys m ∧ ps.length = m.length := by
 obtain ⟨mm, hmm, h0⟩ := St.pmap.1 h
 subst hmm
 exact ⟨_, h0.isMap, by rw [ky (fun p : Nat × α => ptrOf p), ky (fun p : Nat × α => p.2)], by simp⟩
theorem q_plen {t kt et : TypeId} {tys : List TypeId} [hu : Und P t (.map kt et)] {x : Operand} {b : Nat} {m : List (κ × α)} (h : St w0 (PMap kv b R m :: l) w) (hx : ev e x = .map (some b)) :
  Qv P e ⟨d, .call ⟨.builtin .len, [x].toArray, (t :: tys).toArray⟩, ty, pos, af, g⟩ w (.iz m.length) := by
 obtain ⟨ps, h1, _, h2⟩ := h.pnone
 rw [<- h2]
 exact zc hx h1
theorem yq {c : Nat} {t : TypeId} (kv : κ -> Value) (R : Nat -> α -> HProp) (h : St w0 l w) (k : ∀ b w', St w0 (PMap kv b R [] :: l) w' -> K (upd e c (.map (some b))) w') : Ex P ⟨some c, .makeMap t none, ty, pos, af, g⟩ e w K := by
 refine ur kv h fun b w' h' => k b w' (St.pmap.2 ⟨[], rfl, h'.of_all ?_⟩)
 simp only [gy, List.map_nil]
 show _ = star _ (star emp _)
 rw [u9]
end
theorem zf {P : Program} {w : World} {kt : TypeId} {ik : IntKind} (hu : P.underlying kt = some (.int ik)) (k : Int) : ∀ (es : List MapEntry) (m : List (Int × Value)), Ents (Value.int ik) es m -> (Instr.findKey kt (.int ik k) es).run P w = .ok (mfind k m 0) w := by
 have key : ∀ (es : List MapEntry) (m : List (Int × Value)) (i : Nat), Ents (Value.int ik) es m -> Instr.findNow (.int ik) (.int ik k) es i = some (mfind k m i) := by
  intro es
  induction es with
  | nil => intro m i h; cases m with | nil => rfl | cons a m => simp [Ents] at h
  | cons e es ih =>
   intro m i h
   cases m with
   | nil => simp [Ents] at h
   | cons a m =>
    obtain ⟨j, u⟩ := a
    have h' : (e.key, e.val) = (Value.int ik j, u) ∧ Ents (Value.int ik) es m := by simpa [Ents] using h
    have hk : e.key = .int ik j := congrArg Prod.fst h'.1
    have hv : e.val = u := congrArg Prod.snd h'.1
    by_cases hj : j = k
    ·subst hj
     simp [Instr.findNow, hk, hv, Instr.sameNow, mfind]
    ·have : (k == j) = false := by simpa using Ne.symm hj
     simp [Instr.findNow, hk, Instr.sameNow, mfind, this, hj, ih m (i + 1) h'.2]
 intro es m h
 have := key es m 0 h
 simp [Instr.findKey, run_underlying hu, this]
theorem MK.int {P : Program} {kt : TypeId} {ik : IntKind} (hu : P.underlying kt = some (.int ik)) : MK P kt Int (Value.int ik) where
 check := fun e w k => by
  show (Instr.checkKey e (9999 + 1) kt (.int ik k)).run P w = _
  unfold Instr.checkKey
  rw [Sem.run_bind, run_underlying hu]
  rfl
 find := fun w k es m h => zf hu k es m h
 same := fun k => by unfold Instr.sameBits; simp
 inj := fun a b h => by injection h
end
end
section
def bytesV (bs : List UInt8) : List Value := bs.map fun b => .int .u8 b.toNat
theorem bytesV_len (bs : List UInt8) : (bytesV bs).length = bs.length := by simp [bytesV]
theorem bytesV_one (bs : List UInt8) : ∀ u ∈ bytesV bs, u.oneCell' = true := by
 intro u hu
 simp only [bytesV, List.mem_map] at hu
 obtain ⟨b, _, rfl⟩ := hu
 rfl
theorem bytesV_get {bs : List UInt8} {j : Nat} {b : UInt8} (h : bs[j]? = some b) : (bytesV bs)[j]? = some (.int .u8 b.toNat) := by simp [bytesV, h]
def strB (bs : List UInt8) : ByteArray := ⟨bs.toArray⟩
section
variable {P : Program} {n : Nat} {ops : Array Oper} {Q : Post} {rest : List Oper} {e : Env} {w w0 : World} {K : Env -> World -> Prop} {l : List HProp}
variable {d : Option Nat} {ty : TypeId} {pos : String} {af : Array Edge} {g : Option (Nat × Bool)}
theorem qw {c : Nat} {v : Value} (v' : Value) (hv : v = v') (h : Rn P n ops Q rest (upd e c v') w) : Rn P n ops Q rest (upd e c v) w := hv ▸ h
theorem vy {t T : TypeId} [ht : Und P t (.slice T)] {z : List Value} {agg : Bool} {bytes : Nat} [hi : Inf P T z agg bytes] {x y : Operand} {b o o' m c j : Nat} {k : IntKind} {i : Int}
  (hx : ev e x = .slice (some ⟨b, o, none⟩) m c) (hy : ev e y = .int k i) (hij : i = (j : Int)) (hj : j < m) (ho : o + j * z.length = o') : Qv P e ⟨d, .indexAddr t x y, ty, pos, af, g⟩ w (.pointer (some ⟨b, o', none⟩)) := by
 unfold Qv
 subst hij ho
 have h1 := hi.sizeOf w
 have h2 : (0 : Int) <= (j : Int) ∧ (j : Int) < (m : Int) := by omega
 have h3 : ((j : Int) < (m : Int)) := h2.2
 simp [execOp, hx, hy, Instr.indexAt, asIntOf, run_underlying ht.h, h1, Addr.add_mid, hj]
theorem Rd.cell {sz m b o : Nat} {xs : List Value} {j : Nat} {v : Value} (h : Rd w sz (some ⟨b, o, none⟩) m xs) (hv : xs[j]? = some v) : w.cell? ⟨b, o + j, none⟩ = some v := by
 rcases h.2 with h0 | ⟨b', o', h1, h2⟩
 ·have := h.1
  have h3 := (Ue.1 hv).1
  rw [this, h0, Nat.zero_mul] at h3
  omega
 ·cases h1; exact h2 j v hv
theorem Rd.some {sz m : Nat} {a : Option Addr} {xs : List Value} (h : Rd w sz a m xs) (hm : 0 < m) : ∃ b o, a = some ⟨b, o, none⟩ := by
 rcases h.2 with h | ⟨b, o, h, _⟩
 ·omega
 ·exact ⟨b, o, h⟩
theorem St.own_some {T sz m c : Nat} {a : Option Addr} {xs : List Value} (h : St w0 (Own T sz a m c xs :: l) w) (hm : 0 < m) : ∃ g, a = some ⟨g, 0, none⟩ := by
 obtain ⟨_, _, ⟨_, _, h, _⟩ | ⟨g, _, h, _⟩⟩ := h.own_cases
 ·omega
 ·exact ⟨g, h⟩
theorem zo {t T : TypeId} {z : List Value} {bytes : Nat} [hi : Inf P t z false bytes] {x y : Operand} {sz m c b o : Nat} {xs : List Value} {v : Value}
  (h : St w0 (Own T sz (sQ b) m c xs :: l) w) (hx : ev e x = .pointer (some ⟨b, o, none⟩)) (hy : ev e y = v) (ho : o < m * sz) (h1 : v.oneCell' = true)
  (k : ∀ w', St w0 (Own T sz (sQ b) m c (xs.set o v) :: l) w' -> K e w') : Ex P ⟨none, .store t x y, ty, pos, af, g⟩ e w K := by
 obtain ⟨h2, h3, ⟨h4, _⟩ | ⟨g, cur, h4, h5, h6, h7⟩⟩ := h.own_cases
 ·cases h4
 ·cases h4
  have hle : m * sz <= c * sz := Uo _ h3
  refine qd 0 h7 hx hy rfl (by rw [Uy]; omega) rfl h1 fun w' h => k w' ?_
  simp only [List.set_cons_zero] at h
  exact St.own_mk' h (by simpa using h5) (by rw [List.take_set, h6]) h3
theorem ja {c : Nat} {t T : TypeId} [ht : Und P t (.slice T)] {z : List Value} {agg : Bool} {bytes : Nat} [hi : Inf P T z agg bytes] {x y : Operand} {a a2 : Option Addr} {m m2 m3 c1 c2 sz : Nat} {xs ys zs : List Value}
  (h : St w0 (Own T sz a m c1 xs :: l) w) (hx : ev e x = .slice a m c1) (hy : ev e y = .slice a2 m2 c2) (hr : Rd w sz a2 m2 ys) (h1 : ∀ u ∈ ys, u.oneCell' = true) (hm : m + m2 = m3) (hzs : xs ++ ys = zs) (hb : m3 * bytes <= 140737488355328) (h63 : m3 <= 9223372036854775807) (hz : z.length = sz)
  (k : ∀ a' c' w', (a' = none -> a = none) -> St w0 (Own T sz a' m3 c' zs :: l) w' -> K (upd e c (.slice a' m3 c')) w') :
  Ex P ⟨some c, .call ⟨.builtin .append, [x, y].toArray, [t, t].toArray⟩, ty, pos, af, g⟩ e w K := by
 subst hm hzs
 exact zn h hx hy hr h1 hb h63 hz k
theorem zt {t T : TypeId} [ht : Und P t (.slice T)] {z : List Value} {agg : Bool} {bytes : Nat} [hi : Inf P T z agg bytes] {x y y' : Operand} {a : Option Addr} {m c h h' : Nat} {k k' : IntKind}
  (hx : ev e x = .slice a m c) (hy : ev e y = .int k (h : Int)) (hy' : ev e y' = .int k' (h' : Int)) (h1 : h <= h') (h2 : h' <= c) : Qv P e ⟨d, .slice t x none (some y) (some y'), ty, pos, af, g⟩ w (.slice a h h') := by
 unfold Qv
 have hz := hi.sizeOf w
 have e1 : (Instr.sliceBound (.int k' (h' : Int)) c .slice3Acap).run P w = .ok h' w := by
  simp [Instr.sliceBound, asIntOf, h2]
 have e2 : (Instr.sliceBound (.int k (h : Int)) h' .slice3B).run P w = .ok h w := by
  simp [Instr.sliceBound, asIntOf, h1]
 have e3 : (Instr.sliceBounds true m c none (some (.int k (h : Int))) (some (.int k' (h' : Int)))).run P w = .ok (0, h, h') w := by
  simp [Instr.sliceBounds, e1, e2]
 have key : (Instr.sliceAt t (.slice a m c) none (some (.int k (h : Int))) (some (.int k' (h' : Int)))).run P w = .ok (.slice a h h') w := by
  simp [Instr.sliceAt, Instr.slice, run_underlying ht.h, e3, hz]
  rintro -
  cases a with
  | none => rfl
  | some ad => simp [Addr.add]
 simp only [execOp, hx, hy, hy', Option.map_none, Uv, Sem.run_bind, key, Result.andThen_ok]; rfl
theorem q_head {t T : TypeId} [ht : Und P t (.slice T)] {z : List Value} {agg : Bool} {bytes : Nat} [hi : Inf P T z agg bytes] {x y : Operand} {a : Option Addr} {m c h : Nat} {k : IntKind}
  (hx : ev e x = .slice a m c) (hy : ev e y = .int k (h : Int)) (h2 : h <= c) : Qv P e ⟨d, .slice t x none (some y) none, ty, pos, af, g⟩ w (.slice a h c) := by
 unfold Qv
 have hz := hi.sizeOf w
 have e2 : (Instr.sliceBound (.int k (h : Int)) c .sliceAcap).run P w = .ok h w := by
  simp [Instr.sliceBound, asIntOf, h2]
 have e3 : (Instr.sliceBounds true m c none (some (.int k (h : Int))) none).run P w = .ok (0, h, c) w := by
  simp [Instr.sliceBounds, e2]
 have key : (Instr.sliceAt t (.slice a m c) none (some (.int k (h : Int))) none).run P w = .ok (.slice a h c) w := by
  simp [Instr.sliceAt, Instr.slice, run_underlying ht.h, e3, hz]
  rintro -
  cases a with
  | none => rfl
  | some ad => simp [Addr.add]
 simp only [execOp, hx, hy, Option.map_none, Uv, Sem.run_bind, key, Result.andThen_ok]; rfl
theorem u3 {s t T : TypeId} [hs : Und P s (.slice T)] [hT : Und P T (.int .u8)] [ht : Und P t .string] {x : Operand} {a : Option Addr} {m c : Nat} {bs : List UInt8} (hx : ev e x = .slice a m c) (hr : Rd w 1 a m (bytesV bs)) :
  Qv P e ⟨d, .convert s t x, ty, pos, af, g⟩ w (.string (strB bs)) := by
 unfold Qv
 have hlen : bs.length = m := by have := hr.1; rw [bytesV_len] at this; omega
 subst hlen
 have key : (convert s t (.slice a bs.length c)).run P w = .ok (.string (strB bs)) w := by
  rcases hr.2 with h0 | ⟨b, o, rfl, hat⟩
  ·obtain rfl := Uf h0
   cases a with
   | none =>
    rw [run_convert_bytes_string w s t T none _ c hs.h hT.h ht.h]
    simp [Conv.bytesToString, strB, ByteArray.empty, ByteArray.emptyWithCapacity]; rfl
   | some ad => exact run_convert_bytes_back w s t T ad c [] hs.h hT.h ht.h fun j hj => by cases hj
  ·refine run_convert_bytes_back w s t T _ c bs hs.h hT.h ht.h fun j hj => ?_
   rw [Addr.add_mid]
   exact hat j _ (bytesV_get (Ub hj))
 simp only [execOp, hx, Sem.run_bind, key, Result.andThen_ok]; rfl
end
section
variable {P : Program} {e : Env} {w : World} {φ : Value -> World -> Prop}
theorem ga {t : TypeId} {z : List Value} {bytes : Nat} [hi : Inf P t z true bytes] {a : Tmp} {b o : Nat} {l : List Value} (hx : e a = .pointer (some ⟨b, o, none⟩)) (hz : z.length = l.length) (hl : At w b o l) :
  (do loadVar t (<- asAddr (e a)) : Sem Value).run P w = .ok (.agg l.toArray) w := by
 have := vv (P := P) (t := t) hz hl
 rw [hx]
 simpa [Instr.loadAt, Instr.sureAddr, asAddr] using this
theorem bqS1 {a : Tmp} {t : TypeId} {z : List Value} {bytes : Nat} [hi : Inf P t z true bytes] {b o : Nat} {l : List Value} (hx : e a = .pointer (some ⟨b, o, none⟩)) (hz : Nat.beq z.length l.length = true) (hl : At w b o l) (h : φ (.agg l.toArray) w) :
  bq P [.cell a t] φ .ret e w := ⟨_, ga hx (Uh hz) hl, h⟩
theorem bqS2 {a c : Tmp} {t : TypeId} {z : List Value} {bytes : Nat} [hi : Inf P t z true bytes] {b o : Nat} {l : List Value} (hx : e a = .pointer (some ⟨b, o, none⟩)) (hz : Nat.beq z.length l.length = true) (hl : At w b o l) (h : φ (.tuple [.agg l.toArray, e c].toArray) w) :
  bq P [.cell a t, .tmp c] φ .ret e w := ⟨_, ga hx (Uh hz) hl, h⟩
end
end
section
open Go.ChangeShapes Go.WideShapes Go.ChangeAt Go.RowKit
theorem trodAll_stays {H : Type} {enc : TypeId × Value -> H} {P : Program} (hl : laidOutB P = true) {W W' : World} (hb : Below W.heap.size W W') :
  ∀ {ts : List TypeId} {vs : List Value} {ds : List (DataW H)} {ps : List MemPlace}, (ts.all fun t => P.readableRec t && Vi t P.types.size) = true ->
   DataW.TrodAll enc P W 0 (fun _ => true) true ts vs ds ps -> (∀ x ∈ ps, x.block < W.heap.size) -> DataW.TrodAll enc P W' 0 (fun b => decide (b < W.heap.size)) true ts vs ds ps
 | [], vs, ds, ps, _, h, _ => by
  obtain ⟨rfl, rfl, rfl⟩ := trodAll_nil h
  exact trodAll_mk0
 | t :: ts, vs, ds, ps, hr, h, hlt => by
  obtain ⟨v, vs', d, ds', p, q, rfl, rfl, rfl, h1, h2⟩ := trodAll_cons h
  simp only [List.all_cons, Uc] at hr
  exact trodAll_cons_mk (Below.trod hl hr.1.1 (by simpa [Uy] using hr.1.2) h1 hb (fun x hx => hlt x (List.mem_append_left _ hx)))
   (trodAll_stays hl hb hr.2 h2 (fun x hx => hlt x (List.mem_append_right _ hx)))
theorem trodAll_len {H : Type} {enc : TypeId × Value -> H} {P : Program} {w : World} {base : Nat} {spare : Nat -> Bool} {held : Bool} :
  ∀ {ts : List TypeId} {vs : List Value} {ds : List (DataW H)} {ps : List MemPlace}, DataW.TrodAll enc P w base spare held ts vs ds ps -> ds.length = ts.length
 | [], vs, ds, ps, h => by obtain ⟨_, rfl, _⟩ := trodAll_nil h; rfl
 | t :: ts, vs, ds, ps, h => by
  obtain ⟨v, vs', d, ds', p, q, rfl, rfl, rfl, h1, h2⟩ := trodAll_cons h
  simp [trodAll_len h2]
theorem law_contract {H : Type} {enc : TypeId × Value -> H} {C : Checked} {f : FuncId} {fn : Func} {s : ChangeSpec} {ts : List TypeId} {tb : TypeId} (hl : laidOutB C.prog = true) (hp : fn.params.toList = ts) (hrt : fn.resultTypes = #[tb]) (hbool : C.prog.underlying tb = some .bool)
  (hread : (ts.all fun t => C.prog.readableRec t && Vi t C.prog.types.size) = true) (hvars : s.vars = []) (hs : ∀ ds : List (DataW H), ds.length = ts.length -> s.fn H ds = { results := [.lit (.bool true)], args := ds })
  {W : World} {args : Array Value} {ds gs : List (DataW H)} {before : List MemPlace}
  (hW : DataW.Whole enc C.prog fn.params.toList s.vars false W args.toList ds gs before)
  (main : (∃ ps, DataW.TrodAll enc C.prog W 0 (fun _ => true) true ts args.toList ds ps ∧ ∀ x ∈ ps, x.block < W.heap.size) -> Ret C.prog f args.toList W fun v w' => v = .bool true ∧ St W [] w') :
  Calls C.prog f args W fun e W' => ∃ v, e = .returned v ∧ s.post enc C.prog fn false true false false W args v W' := by
 have hW' := hW
 obtain ⟨p, q, hA, hV, rfl, hfz, hnd⟩ := hW
 rw [hp] at hA
 rw [hvars] at hV
 obtain ⟨rfl, rfl⟩ := trodVars_none hV
 simp only [Um] at hW'
 have hlt : ∀ x ∈ p, x.block < W.heap.size := fun x hx => by simpa using hW'.lt x hx
 have hlen := trodAll_len hA
 have hm := main ⟨p, hA, hlt⟩
 unfold Ret at hm
 simp only [Array.toArray_toList] at hm
 refine hm.mono fun e W' ⟨v, he, hv, hst⟩ => ?_
 subst he hv
 have hb := hst.below
 refine ⟨_, rfl, ds, [], _, [], p, [], hW', ?_, ?_, ?_, hb.frame _, fun h => by cases h⟩
 ·rw [hrt, Um, hs ds hlen]
  exact trodAll_cons_mk (shut_bool hbool true) trodAll_mk0
 ·rw [hp, Um, hs ds hlen]
  exact trodAll_stays hl hb hread hA hlt
 ·rw [hvars, Um, hs ds hlen]; rfl
section
variable {H : Type} {enc : TypeId × Value -> H} {P : Program} {W : World} {r : Reach} {b0 : Nat}
theorem zi {t e : TypeId} {k : IntKind} {v : Value} {d : DataW H} {p : List MemPlace} (ht : P.underlying t = some (.slice e)) (he : P.underlying e = some (.int k)) (hc : P.cellsOf e = 1)
  (hval : Value.okWide P W r b0 t v) (h : DataW.Trod enc P W 0 (fun _ => true) true t v d p) (hlt : ∀ x ∈ p, x.block < W.heap.size) :
  ∃ (a : Option Addr) (n c : Nat) (zs : List Int), v = .slice a n c ∧ n <= maxLen ∧ (∀ z ∈ zs, (Lit.int k z).wf = true) ∧ Rd W 1 a n (zs.map (Value.int k)) ∧ ∀ b o, a = some ⟨b, o, none⟩ -> 0 < n -> b < W.heap.size := by
 obtain ⟨a0, len, cap, rfl⟩ := okWide_slice ht hval
 obtain ⟨fuel, hf⟩ := h
 rcases open_ints ht he hc hf with ⟨hcs, hx⟩ | ⟨a, len', cap', zs, hcs, _, hl, hm, hz, hx, hcell, hwz⟩
 ·simp [Value.cells] at hcs
  obtain ⟨rfl, rfl, rfl⟩ := hcs
  exact ⟨none, 0, 0, [], rfl, Vl _, (fun _ h => by cases h), ⟨rfl, .inl rfl⟩, fun _ _ h => by cases h⟩
 ·simp [Value.cells] at hcs
  obtain ⟨rfl, rfl, rfl⟩ := hcs
  simp only [Prod.mk.injEq] at hx
  obtain ⟨rfl, rfl⟩ := hx
  simp only [if_true] at hz
  refine ⟨some a, len, cap, zs.take len, rfl, Vf hl hm, (fun z hz => hwz z (List.mem_of_mem_take hz)), ⟨by simp; omega, ?_⟩, ?_⟩
  ·rcases Uz len with h0 | h0
   ·exact .inl h0
   ·obtain ⟨b, off, spot⟩ := a
    have hspot : spot = none := by simpa [Addr.add] using World.cell?_spot (hcell 0 O3)
    subst hspot
    refine .inr ⟨b, off, rfl, fun j v hj => ?_⟩
    have hjl : j < len ∧ j < zs.length := by
     have := (Ue.1 hj).1
     simp at this
     omega
    have hc := hcell j hjl.2
    rw [Addr.add_mid] at hc
    rw [hc, <- hj]
    simp [Vg, hjl.1, Ub hjl.2, List.getD]
  ·intro b o hb hn
   cases hb
   exact hlt (.cell b o) (MemPlace.mem_row.2 ⟨0, O_o, by simp⟩)
theorem vt : ∀ {zs : List Int}, (∀ z ∈ zs, (Lit.int .u8 z).wf = true) -> ∃ bs, zs.map (Value.int .u8) = bytesV bs
 | [], _ => ⟨[], rfl⟩
 | z :: zs, h => by
  obtain ⟨bs, hb⟩ := vt (zs := zs) fun y hy => h y (Vm _ hy)
  have hz : 0 <= z ∧ z <= 255 := by simpa [Lit.wf, IntKind.min, IntKind.max, IntKind.signed, IntKind.bits] using h z (Uk ..)
  refine ⟨UInt8.ofNat z.toNat :: bs, ?_⟩
  simp only [List.map_cons, hb, bytesV]
  congr 2
  simp
  omega
theorem yf {t e : TypeId} {v : Value} {d : DataW H} {p : List MemPlace} (ht : P.underlying t = some (.slice e)) (he : P.underlying e = some (.int .u8)) (hc : P.cellsOf e = 1)
  (hval : Value.okWide P W r b0 t v) (h : DataW.Trod enc P W 0 (fun _ => true) true t v d p) (hlt : ∀ x ∈ p, x.block < W.heap.size) :
  ∃ a n c bs, v = .slice a n c ∧ n <= maxLen ∧ Rd W 1 a n (bytesV bs) ∧ ∀ b o, a = some ⟨b, o, none⟩ -> 0 < n -> b < W.heap.size := by
 obtain ⟨a, n, c, zs, h1, h2, h3, h4, h5⟩ := zi ht he hc hval h hlt
 obtain ⟨bs, hb⟩ := vt h3
 exact ⟨a, n, c, bs, h1, h2, hb ▸ h4, h5⟩
end
end
section
theorem wrap64 {x : Int} (h1 : -9223372036854775808 <= x) (h2 : x < 9223372036854775808) : IntKind.i64.wrap x = x := by
 unfold IntKind.wrap
 simp [IntKind.signed, IntKind.bits]
 omega
theorem gr {a m : Int} (k : Nat) (hk : k < 63) (hm : m = 2 ^ k - 1) : bitOp .and .i64 a m = a % 2 ^ k := by
 subst hm
 have hp : (2 : Nat) ^ k < 2 ^ 63 := Nat.pow_lt_pow_right O3 hk
 have hp0 : 0 < (2 : Nat) ^ k := Nat.two_pow_pos k
 have e1 : ((2 : Int) ^ k - 1) = ((2 ^ k - 1 : Nat) : Int) := by
  rw [Int.natCast_sub O3]; simp
 have e2 : (BitVec.ofInt 64 ((2 : Int) ^ k - 1)).toNat = 2 ^ k - 1 := by
  rw [e1]
  simp only [BitVec.ofInt_natCast, BitVec.toNat_ofNat]
  exact Ud O3
 have e3 : ((BitVec.ofInt 64 a &&& BitVec.ofInt 64 ((2 : Int) ^ k - 1)).toNat : Int) = a % 2 ^ k := by
  rw [BitVec.toNat_and, e2, Nat.and_two_pow_sub_one_eq_mod, BitVec.toNat_ofInt]
  rw [Int.natCast_emod]
  have h0 : 0 <= a % ((2 ^ 64 : Nat) : Int) := Int.emod_nonneg _ O4
  rw [Int.toNat_of_nonneg h0]
  have hd : (((2 ^ k : Nat)) : Int) ∣ ((2 ^ 64 : Nat) : Int) := by
   exact Int.natCast_dvd_natCast.2 (Nat.pow_dvd_pow 2 O3)
  rw [Int.emod_emod_of_dvd _ hd]
  simp
 unfold bitOp
 simp only
 have e4 : IntKind.i64.bits = 64 := rfl
 rw [e4, e3]
 have h1 : 0 <= a % 2 ^ k := Int.emod_nonneg _ (by rw [show ((2 : Int) ^ k) = ((2 ^ k : Nat) : Int) by simp]; omega)
 have h2 : a % 2 ^ k < 2 ^ k := Int.emod_lt_of_pos _ (by rw [show ((2 : Int) ^ k) = ((2 ^ k : Nat) : Int) by simp]; omega)
 have h3 : ((2 : Int) ^ k) < 9223372036854775808 := by rw [show ((2 : Int) ^ k) = ((2 ^ k : Nat) : Int) by simp]; omega
 exact wrap64 O3 O3
end
section
section
variable {P : Program} {ops : Array Oper} {e : Env} {w : World} {d : Option Nat} {ty : TypeId} {pos : String} {af : Array Edge} {g : Option (Nat × Bool)}
theorem qa {o : Oper} {v v' : Value} (h : Qv P e o w v) (hv : v = v') : Qv P e o w v' := hv ▸ h
theorem yj {op : Op} {j : Nat} {want : Bool} (hg : gv ops e j = none) : Flt P ops ⟨d, op, ty, pos, af, some (j, want)⟩ e w undef := by
 unfold Flt
 exact ⟨fun h => by simp [Region.wanted, hg] at h, fun _ => rfl⟩
theorem zl {t t2 : TypeId} {x y : Operand} {a b : ByteArray} (hx : ev e x = .string a) (hy : ev e y = .string b) (hn : a.size + b.size <= 9223372036854775807) : Qv P e ⟨d, .binOp .add t x y t2, ty, pos, af, g⟩ w (.string (a ++ b)) := by
 unfold Qv
 simp [execOp, hx, hy, eqGuard, binOp, Op.stringOp]
 omega
end
end
section
theorem jz (x : Nat) : IntKind.u64.wrap (x : Int) = ((x % 18446744073709551616 : Nat) : Int) := by
 unfold IntKind.wrap
 simp [IntKind.signed, IntKind.bits]
theorem vb (x : Nat) : IntKind.u8.wrap (x : Int) = ((x % 256 : Nat) : Int) := by
 unfold IntKind.wrap
 simp [IntKind.signed, IntKind.bits]
theorem yg {a b : Nat} (ha : a < 18446744073709551616) (hb : b < 18446744073709551616) :
  bitOp .and .u64 (a : Int) (b : Int) = ((a &&& b : Nat) : Int) ∧ bitOp .or .u64 (a : Int) (b : Int) = ((a ||| b : Nat) : Int) ∧ bitOp .xor .u64 (a : Int) (b : Int) = ((a ^^^ b : Nat) : Int) := by
 have ha' : a % 2 ^ 64 = a := Ud ha
 have hb' : b % 2 ^ 64 = b := Ud hb
 have e : IntKind.u64.bits = 64 := rfl
 refine ⟨?_, ?_, ?_⟩ <;> unfold bitOp <;> simp only [e, BitVec.ofInt_natCast, BitVec.toNat_and, BitVec.toNat_or, BitVec.toNat_xor, BitVec.toNat_ofNat, ha', hb', jz]
 ·rw [Ud (Nat.and_lt_two_pow (n := 64) _ hb)]
 ·rw [Ud (Nat.or_lt_two_pow (n := 64) ha hb)]
 ·rw [Ud (Nat.xor_lt_two_pow (n := 64) ha hb)]
theorem bit_u8 {a b : Nat} (ha : a < 256) (hb : b < 256) :
  bitOp .and .u8 (a : Int) (b : Int) = ((a &&& b : Nat) : Int) ∧ bitOp .or .u8 (a : Int) (b : Int) = ((a ||| b : Nat) : Int) ∧ bitOp .xor .u8 (a : Int) (b : Int) = ((a ^^^ b : Nat) : Int) := by
 have ha' : a % 2 ^ 8 = a := Ud ha
 have hb' : b % 2 ^ 8 = b := Ud hb
 have e : IntKind.u8.bits = 8 := rfl
 refine ⟨?_, ?_, ?_⟩ <;> unfold bitOp <;> simp only [e, BitVec.ofInt_natCast, BitVec.toNat_and, BitVec.toNat_or, BitVec.toNat_xor, BitVec.toNat_ofNat, ha', hb', vb]
 ·rw [Ud (Nat.and_lt_two_pow (n := 8) _ hb)]
 ·rw [Ud (Nat.or_lt_two_pow (n := 8) ha hb)]
 ·rw [Ud (Nat.xor_lt_two_pow (n := 8) ha hb)]
theorem kz (a i n : Nat) (h : i <= n) : (a : Int).fdiv (2 ^ (min ((i : Int)).toNat n)) = ((a / 2 ^ i : Nat) : Int) := by
 rw [Int.toNat_natCast, Nat.min_eq_left h, Int.fdiv_eq_ediv_of_nonneg _ (by exact Int.le_of_lt (Int.pow_pos O4))]
 rw [Int.natCast_ediv]
 simp
theorem ze (a b : Nat) : (a : Int).tmod (b : Int) = ((a % b : Nat) : Int) := by
 rw [Int.tmod_eq_emod_of_nonneg (Int.natCast_nonneg _), Int.natCast_emod]
theorem za (a b : Nat) : (a : Int).tdiv (b : Int) = ((a / b : Nat) : Int) := by
 rw [Int.tdiv_eq_ediv_of_nonneg (Int.natCast_nonneg _), Int.natCast_ediv]
def mk8 (b0 b1 b2 b3 b4 b5 b6 b7 : Bool) : UInt8 := (b0.toUInt8 <<< 7) ||| (b1.toUInt8 <<< 6) ||| (b2.toUInt8 <<< 5) ||| (b3.toUInt8 <<< 4) ||| (b4.toUInt8 <<< 3) ||| (b5.toUInt8 <<< 2) ||| (b6.toUInt8 <<< 1) ||| b7.toUInt8
def byteAt (l : List Bool) (k : Nat) : UInt8 := mk8 (l.getD (8 * k) false) (l.getD (8 * k + 1) false) (l.getD (8 * k + 2) false) (l.getD (8 * k + 3) false) (l.getD (8 * k + 4) false) (l.getD (8 * k + 5) false) (l.getD (8 * k + 6) false) (l.getD (8 * k + 7) false)
def pack (l : List Bool) : List UInt8 := (List.range ((l.length + 7) / 8)).map (byteAt l)
def bitsOf (v : Nat) : Nat -> List Bool
 | 0 => []
 | n + 1 => v.testBit n :: bitsOf v n
end
section
def numA (a : Nat) : List Bool -> Nat
 | [] => a
 | b :: l => numA (2 * a + b.toNat) l
def num (l : List Bool) : Nat := numA 0 l
def bitsB (bs : List UInt8) : List Bool := bs.flatMap fun b => bitsOf b.toNat 8
structure RS where
 rest : List Bool
 bad : Bool
def RS.get (s : RS) (n : Nat) : Nat × RS := if s.bad = true ∨ s.rest.length < n then (0, ⟨s.rest, true⟩) else (num (s.rest.take n), ⟨s.rest.drop n, false⟩)
def us (t : Int) : Nat := (t % 18446744073709551616).toNat
def I64 (t : Int) : Prop := -9223372036854775808 <= t ∧ t < 9223372036854775808
theorem xo (t : Int) : IntKind.u64.wrap t = (us t : Int) := by
 unfold IntKind.wrap us
 simp [IntKind.signed, IntKind.bits]
 omega
end
section
end
end Go.Hw
namespace Go.Hw
section
section
variable {P : Program} {e : Env} {w : World} {d : Option Nat} {ty : TypeId} {pos : String} {af : Array Edge} {g : Option (Nat × Bool)}
end
end
section
def adv (a : Option Addr) (off : Nat) (same : Bool) : Option Addr := bif same then a else a.map fun x => x.add off
section
variable {P : Program} {e : Env} {w : World} {d : Option Nat} {ty : TypeId} {pos : String} {af : Array Edge} {g : Option (Nat × Bool)}
end
section
variable {w0 w : World} {l : List HProp} {sz n c : Nat} {a : Option Addr} {xs : List Value}
theorem Rd.cut (h : Rd w sz a n xs) {i j : Nat} (hij : i <= j) (hj : j <= n) (hc : n <= c) : Rd w sz (adv a (i * sz) (Nat.beq c i)) (j - i) ((xs.drop (i * sz)).take ((j - i) * sz)) := by
 have hl := h.1
 refine ⟨?_, ?_⟩
 ·rw [Ve, List.length_drop, hl, <- Nat.sub_mul]
  exact Nat.min_eq_left (Uo _ O3)
 ·rcases Uz (j - i) with h0 | h0
  ·exact .inl h0
  ·rcases h.2 with h1 | ⟨b, o, rfl, hat⟩
   ·omega
   ·have hb : Nat.beq c i = false := by
     cases hb : Nat.beq c i with
     | false => rfl
     | true => have := Uh hb; omega
    refine .inr ⟨b, o + i * sz, by rw [hb]; simp [adv, Addr.add], fun k v hk => ?_⟩
    rw [Vg] at hk
    split at hk
    ·rw [List.getElem?_drop] at hk
     have := hat _ v hk
     rwa [<- Nat.add_assoc] at this
    ·cases hk
theorem Rd.tail (h : Rd w sz a n xs) {i : Nat} (hi : i <= n) (hc : n <= c) : Rd w sz (adv a (i * sz) (Nat.beq c i)) (n - i) (xs.drop (i * sz)) := by
 have := h.cut hi (Ui _) hc
 rwa [List.take_of_length_le (by rw [List.length_drop, h.1, <- Nat.sub_mul]; exact Ui _)] at this
theorem St.drops : ∀ {L : List HProp} {l : List HProp}, St w0 (L ++ l) w -> St w0 l w
 | [], _, h => h
 | _ :: L, _, h => St.drops (L := L) h.drop
def Reads (w0 : World) (l : List HProp) (sz : Nat) (a : Option Addr) (n : Nat) (xs : List Value) : Prop := ∀ L w', St w0 (L ++ l) w' -> Rd w' sz a n xs
theorem Reads.at_ (h : Reads w0 l sz a n xs) (h' : St w0 l w) : Rd w sz a n xs := h [] w h'
theorem Reads.more (h : Reads w0 l sz a n xs) (M : List HProp) : Reads w0 (M ++ l) sz a n xs := fun L w' h' => h (L ++ M) w' (by rw [Ug]; exact h')
theorem Reads.cons (h : Reads w0 l sz a n xs) {Q : HProp} : Reads w0 (Q :: l) sz a n xs := h.more [Q]
theorem Reads.own {T : Nat} : Reads w0 (Own T sz a n c xs :: l) sz a n xs := fun _ _ h' => h'.drops.own_rd
theorem Reads.pt {b m : Nat} {cur : List Value} {T : TypeId} (hl : xs.length = n * sz) (hc : cur.take xs.length = xs) : Reads w0 (pt b (.cells cur.toArray T (0, 0)) :: l) sz (sQ b) n xs := fun _ _ h' =>
 ⟨hl, .inr ⟨b, 0, rfl, qp (h'.drops.b 0 rfl) (by rw [List.drop_zero, hc])⟩⟩
theorem Reads.nil : Reads w0 l sz none 0 [] := fun _ _ _ => ⟨by simp, .inl rfl⟩
theorem Reads.old (hr : Rd w0 sz a n xs) (hb : ∀ b o, a = some ⟨b, o, none⟩ -> 0 < n -> b < w0.heap.size) : Reads w0 l sz a n xs := fun _ _ h' => Rd.old h' hr hb
theorem Reads.cut (h : Reads w0 l sz a n xs) {i j : Nat} (hij : i <= j) (hj : j <= n) (hc : n <= c) : Reads w0 l sz (adv a (i * sz) (Nat.beq c i)) (j - i) ((xs.drop (i * sz)).take ((j - i) * sz)) := fun L w' h' => (h L w' h').cut hij hj hc
theorem Reads.tail (h : Reads w0 l sz a n xs) {i : Nat} (hi : i <= n) (hc : n <= c) : Reads w0 l sz (adv a (i * sz) (Nat.beq c i)) (n - i) (xs.drop (i * sz)) := fun L w' h' => (h L w' h').tail hi hc
theorem Reads.head (h : Reads w0 l sz a n xs) {i : Nat} (hi : i <= n) : Reads w0 l sz a i (xs.take (i * sz)) := fun L w' h' => by
 obtain ⟨h1, h2⟩ := h L w' h'
 refine ⟨by rw [Ve, h1]; exact Nat.min_eq_left (Uo _ hi), ?_⟩
 rcases h2 with h2 | ⟨b, o, rfl, hat⟩
 ·exact .inl O3
 ·refine .inr ⟨b, o, rfl, fun k v hk => ?_⟩
  rw [Vg] at hk
  split at hk
  ·exact hat _ v hk
  ·cases hk
theorem Reads.swap (h : Reads w0 l sz a n xs) {m : List HProp} (e : all m = all l) : Reads w0 m sz a n xs := fun L w' h' => h L w' (h'.of_all (by rw [jo, jo, e]))
end
end
end Go.Hw
namespace Go.Proofs.YtdeaeboijmeefaaGreatDoor
open Go.Hw _root_.Go.Proofs.Tryz
section
instance {P : Program} {kt : TypeId} {ik : IntKind} [h : Und P kt (.int ik)] : MK P kt Int (Value.int ik) := MK.int h.h
instance : Und prog 2 (.int .i64) := ⟨underlying2⟩
instance inf2 : Inf prog 2 [V0] false 8 := mF underlying2
instance : Und prog 3 (.int .i64) := ⟨underlying3⟩
instance inf3 : Inf prog 3 [V0] false 8 := mF underlying3
instance : Und prog 4 (.bool) := ⟨underlying4⟩
instance inf4 : Inf prog 4 [V2] false 1 := mF underlying4
instance : Und prog 5 (.int .u8) := ⟨underlying5⟩
instance inf5 : Inf prog 5 [V5] false 1 := mF underlying5
instance : Und prog 9 (.string) := ⟨underlying9⟩
instance inf9 : Inf prog 9 [V6] false 16 := mF underlying9
instance : Und prog 12 (.int .u64) := ⟨underlying12⟩
instance inf12 : Inf prog 12 [V4] false 8 := mF underlying12
instance inf13 : Inf prog 13 [V6, V4] true 24 := mT underlying13
instance : Und prog 21 (.int .i32) := ⟨underlying21⟩
instance inf21 : Inf prog 21 [Value.int .i32 0] false 4 := mF underlying21
instance : Und prog 22 (.int .u64) := ⟨underlying22⟩
instance inf22 : Inf prog 22 [V4] false 8 := mF underlying22
instance inf24 : Inf prog 24 [V0, V0, V0, V0, V4, V0, V0, V0] true 64 := mT underlying24
instance : Und prog 25 (.int .i64) := ⟨underlying25⟩
instance inf25 : Inf prog 25 [V0] false 8 := mF underlying25
instance : Und prog 26 (.slice 91) := ⟨underlying26⟩
instance inf26 : Inf prog 26 [V1] false 24 := mF underlying26
instance inf27 : Inf prog 27 [V0, V0, V1] true 40 := mT underlying27
instance inf28 : Inf prog 28 [V0, V0, V1] true 40 := mT underlying28
instance : Und prog 29 (.slice 5) := ⟨underlying29⟩
instance inf29 : Inf prog 29 [V1] false 24 := mF underlying29
instance : Und prog 34 (.slice 24) := ⟨underlying34⟩
instance inf34 : Inf prog 34 [V1] false 24 := mF underlying34
instance : Und prog 38 (.slice 29) := ⟨underlying38⟩
instance inf38 : Inf prog 38 [V1] false 24 := mF underlying38
instance : Und prog 40 (.pointer 116) := ⟨underlying40⟩
instance inf40 : Inf prog 40 [V3] false 8 := mF underlying40
instance : Und prog 42 (.pointer 122) := ⟨underlying42⟩
instance inf42 : Inf prog 42 [V3] false 8 := mF underlying42
instance : Und prog 44 (.pointer 125) := ⟨underlying44⟩
instance inf44 : Inf prog 44 [V3] false 8 := mF underlying44
instance : Und prog 46 (.pointer 176) := ⟨underlying46⟩
instance inf46 : Inf prog 46 [V3] false 8 := mF underlying46
instance : Und prog 57 (.slice 3) := ⟨underlying57⟩
instance inf57 : Inf prog 57 [V1] false 24 := mF underlying57
instance : Und prog 59 (.pointer 183) := ⟨underlying59⟩
instance inf59 : Inf prog 59 [V3] false 8 := mF underlying59
instance : Und prog 61 (.slice 72) := ⟨underlying61⟩
instance inf61 : Inf prog 61 [V1] false 24 := mF underlying61
instance : Und prog 63 (.slice 9) := ⟨underlying63⟩
instance inf63 : Inf prog 63 [V1] false 24 := mF underlying63
instance inf64 : Inf prog 64 (List.replicate 16 (V1)) true 384 := ⟨by kernel_rfl, (fun h => by cases h), ⟨_, underlying64, rfl⟩, by simp [Value.oneCell']⟩
instance inf65 : Inf prog 65 [V2, V0, V1] true 40 := mT underlying65
instance inf66 : Inf prog 66 [V2, V0, V1] true 40 := mT underlying66
instance inf67 : Inf prog 67 [V2, V2, V0, V0, V2, V0, V1, V1] true 88 := mT underlying67
instance inf68 : Inf prog 68 [V2, V2, V0, V0, V2, V0, V1, V1] true 88 := mT underlying68
instance inf72 : Inf prog 72 [V0, V0, V0, V0, V0] true 40 := mT underlying72
instance : Und prog 87 (.pointer 162) := ⟨underlying87⟩
instance inf87 : Inf prog 87 [V3] false 8 := mF underlying87
instance inf90 : Inf prog 90 [V0, V4] true 16 := mT underlying90
instance inf91 : Inf prog 91 [V0, V4] true 16 := mT underlying91
instance : Und prog 93 (.int .u64) := ⟨underlying93⟩
instance inf93 : Inf prog 93 [V4] false 8 := mF underlying93
instance : Und prog 95 (.pointer 97) := ⟨underlying95⟩
instance inf95 : Inf prog 95 [V3] false 8 := mF underlying95
instance inf97 : Inf prog 97 [V3, V1] true 32 := mT underlying97
instance inf99 : Inf prog 99 [Value.nilIface] false 16 := mF underlying99
instance : Und prog 105 (.pointer 108) := ⟨underlying105⟩
instance inf105 : Inf prog 105 [V3] false 8 := mF underlying105
instance inf107 : Inf prog 107 [V1] true 24 := mT underlying107
instance inf108 : Inf prog 108 [V1] true 24 := mT underlying108
instance : Und prog 113 (.pointer 186) := ⟨underlying113⟩
instance inf113 : Inf prog 113 [V3] false 8 := mF underlying113
instance inf115 : Inf prog 115 [V3, V3, V3, V3] true 32 := mT underlying115
instance inf116 : Inf prog 116 [V3, V3, V3, V3] true 32 := mT underlying116
instance : Und prog 117 (.map 3 3) := ⟨underlying117⟩
instance inf117 : Inf prog 117 [Value.map none] false 8 := mF underlying117
instance : Und prog 118 (.int .i64) := ⟨underlying118⟩
instance inf118 : Inf prog 118 [V0] false 8 := mF underlying118
instance : Und prog 119 (.pointer 263) := ⟨underlying119⟩
instance inf119 : Inf prog 119 [V3] false 8 := mF underlying119
instance : Und prog 120 (.pointer 203) := ⟨underlying120⟩
instance inf120 : Inf prog 120 [V3] false 8 := mF underlying120
instance inf121 : Inf prog 121 [V0, Value.map none, V0, V0, V0, V0, V0, V0, V0, V0, V3, V3, V1, V1, V2, V2, V0, V0, V2, V0, V1, V1, V0, V0, V2] true 256 := mT underlying121
instance inf122 : Inf prog 122 [V0, Value.map none, V0, V0, V0, V0, V0, V0, V0, V0, V3, V3, V1, V1, V2, V2, V0, V0, V2, V0, V1, V1, V0, V0, V2] true 256 := mT underlying122
instance : Und prog 123 (.map 3 136) := ⟨underlying123⟩
instance inf123 : Inf prog 123 [Value.map none] false 8 := mF underlying123
instance inf125 : Inf prog 125 [V0, V0, V0, V0, Value.map none] true 40 := mT underlying125
instance : Und prog 128 (.int .u32) := ⟨underlying128⟩
instance inf128 : Inf prog 128 [Value.int .u32 0] false 4 := mF underlying128
instance : Und prog 131 (.pointer 134) := ⟨underlying131⟩
instance inf131 : Inf prog 131 [V3] false 8 := mF underlying131
instance inf133 : Inf prog 133 [V2, V2, V0, V0, V2, V0, V1, V1, V2, V0] true 104 := mT underlying133
instance inf134 : Inf prog 134 [V2, V2, V0, V0, V2, V0, V1, V1, V2, V0] true 104 := mT underlying134
instance inf140 : Inf prog 140 [V1, V0] true 32 := mT underlying140
instance inf148 : Inf prog 148 [V0, V0, V0, V0, V1, V1] true 80 := mT underlying148
instance inf158 : Inf prog 158 [V3, V0, V3, V0, V3, V0, V3, V0, V3, V0, V3, V0, V3, V0, V3, V0] true 128 := mT underlying158
instance inf159 : Inf prog 159 [V1] false 24 := mF underlying159
instance inf160 : Inf prog 160 [V1] false 24 := mF underlying160
instance inf162 : Inf prog 162 [V3, V3, V3, V0, V3, V0, V3, V0, V3, V0, V3, V0, V3, V0, V3, V0, V3, V0, V1, V1] true 192 := mT underlying162
instance : Und prog 167 (.pointer 5) := ⟨underlying167⟩
instance inf167 : Inf prog 167 [V3] false 8 := mF underlying167
instance inf174 : Inf prog 174 [V2, V2, V0, V0, V2, V0, V1, V1, V2, V0, V2, V2, V0, V0, V2, V0, V1, V1, V2, V0, V2, V2, V0, V0, V2, V0, V1, V1, V2, V0, V2, V2, V0, V0, V2, V0, V1, V1, V2, V0, V2, V2, V0, V0, V2, V0, V1, V1, V2, V0, V2, V2, V0, V0, V2, V0, V1, V1, V2, V0, V2, V2, V0, V0, V2, V0, V1, V1, V2, V0, V2, V2, V0, V0, V2, V0, V1, V1, V2, V0, V2, V2, V0, V0, V2, V0, V1, V1, V2, V0, V2, V2, V0, V0, V2, V0, V1, V1, V2, V0, V2, V2, V0, V0, V2, V0, V1, V1, V2, V0, V2, V2, V0, V0, V2, V0, V1, V1, V2, V0, V2, V2, V0, V0, V2, V0, V1, V1, V2, V0, V2, V2, V0, V0, V2, V0, V1, V1, V2, V0, V2, V2, V0, V0, V2, V0, V1, V1, V2, V0, V2, V2, V0, V0, V2, V0, V1, V1, V2, V0] true 1664 := mT underlying174
instance inf176 : Inf prog 176 [V2, V2, V0, V0, V2, V0, V1, V1, V2, V0, V2, V2, V0, V0, V2, V0, V1, V1, V2, V0, V2, V2, V0, V0, V2, V0, V1, V1, V2, V0, V2, V2, V0, V0, V2, V0, V1, V1, V2, V0, V2, V2, V0, V0, V2, V0, V1, V1, V2, V0, V2, V2, V0, V0, V2, V0, V1, V1, V2, V0, V2, V2, V0, V0, V2, V0, V1, V1, V2, V0, V2, V2, V0, V0, V2, V0, V1, V1, V2, V0, V2, V2, V0, V0, V2, V0, V1, V1, V2, V0, V2, V2, V0, V0, V2, V0, V1, V1, V2, V0, V2, V2, V0, V0, V2, V0, V1, V1, V2, V0, V2, V2, V0, V0, V2, V0, V1, V1, V2, V0, V2, V2, V0, V0, V2, V0, V1, V1, V2, V0, V2, V2, V0, V0, V2, V0, V1, V1, V2, V0, V2, V2, V0, V0, V2, V0, V1, V1, V2, V0, V2, V2, V0, V0, V2, V0, V1, V1, V2, V0] true 1664 := mT underlying176
instance inf177 : Inf prog 177 [V1] false 24 := mF underlying177
instance inf179 : Inf prog 179 [V0, V0, V1, V0, V0, V0] true 64 := mT underlying179
instance : Und prog 181 (.map 213 26) := ⟨underlying181⟩
instance inf181 : Inf prog 181 [Value.map none] false 8 := mF underlying181
instance inf183 : Inf prog 183 [V0, V0, V1, V0, V0, V0, Value.map none] true 72 := mT underlying183
instance : Und prog 184 (.map 3 285) := ⟨underlying184⟩
instance inf184 : Inf prog 184 [Value.map none] false 8 := mF underlying184
instance inf186 : Inf prog 186 [V0, Value.map none] true 16 := mT underlying186
instance inf212 : Inf prog 212 [V0, V0, V0] true 24 := mT underlying212
instance inf213 : Inf prog 213 [V0, V0, V0] true 24 := mT underlying213
instance inf269 : Inf prog 269 [V0, V0, V0, V0, V2, V2, V0] true 48 := mT underlying269
instance inf288 : Inf prog 288 [V0, V0, V0, V0, V0, V0, V1, V1, V2, V0] true 112 := mT underlying288
instance inf296 : Inf prog 296 (List.replicate 24 (V5)) true 24 := ⟨by kernel_rfl, (fun h => by cases h), ⟨_, underlying296, rfl⟩, by simp [Value.oneCell']⟩
instance : Und prog 305 (.int .i64) := ⟨underlying305⟩
instance inf305 : Inf prog 305 [V0] false 8 := mF underlying305
instance : Und prog 306 (.pointer 346) := ⟨underlying306⟩
instance inf306 : Inf prog 306 [V3] false 8 := mF underlying306
instance inf319 : Inf prog 319 [V1, V0] true 32 := mT underlying319
instance inf341 : Inf prog 341 (List.replicate 20 (V4)) true 160 := ⟨by kernel_rfl, (fun h => by cases h), ⟨_, underlying341, rfl⟩, by simp [Value.oneCell']⟩
instance inf342 : Inf prog 342 (List.replicate 65 (V5)) true 65 := ⟨by kernel_rfl, (fun h => by cases h), ⟨_, underlying342, rfl⟩, by simp [Value.oneCell']⟩
instance inf346 : Inf prog 346 [V6, V6, Value.nilIface] true 48 := mT underlying346
instance inf378 : Inf prog 378 (List.replicate 256 (V5)) true 256 := ⟨by kernel_rfl, (fun h => by cases h), ⟨_, underlying378, rfl⟩, by simp [Value.oneCell']⟩
instance inf380 : Inf prog 380 [V5, V5] true 2 := mT underlying380
instance inf381 : Inf prog 381 (List.replicate 32 (V5)) true 32 := ⟨by kernel_rfl, (fun h => by cases h), ⟨_, underlying381, rfl⟩, by simp [Value.oneCell']⟩
instance : Und prog 384 (.pointer 386) := ⟨underlying384⟩
instance inf384 : Inf prog 384 [V3] false 8 := mF underlying384
instance inf386 : Inf prog 386 [V6] true 16 := mT underlying386
instance inf389 : Inf prog 389 [V1, V0, V2] true 40 := mT underlying389
instance inf399 : Inf prog 399 (List.replicate 32 (V5)) true 32 := ⟨by kernel_rfl, (fun h => by cases h), ⟨_, underlying399, rfl⟩, by simp [Value.oneCell']⟩
instance inf400 : Inf prog 400 (List.replicate 64 (V5)) true 64 := ⟨by kernel_rfl, (fun h => by cases h), ⟨_, underlying400, rfl⟩, by simp [Value.oneCell']⟩
instance : FA prog 13 0 0 := fA underlying13 inf9
instance : FA prog 13 1 1 := fA underlying13 inf12
instance : Pl prog 13 [V6, V4] [(0, 1), (1, 1)] := Pl.mk' underlying13 inf13 O1
instance : FA prog 24 0 0 := fA underlying24 inf3
instance : FA prog 24 1 1 := fA underlying24 inf3
instance : FA prog 24 2 2 := fA underlying24 inf3
instance : FA prog 24 3 3 := fA underlying24 inf2
instance : FA prog 24 4 4 := fA underlying24 inf22
instance : FA prog 24 5 5 := fA underlying24 inf2
instance : FA prog 24 6 6 := fA underlying24 inf2
instance : FA prog 24 7 7 := fA underlying24 inf3
instance : Pl prog 24 [V0, V0, V0, V0, V4, V0, V0, V0] [(0, 1), (1, 1), (2, 1), (3, 1), (4, 1), (5, 1), (6, 1), (7, 1)] := Pl.mk' underlying24 inf24 O1
instance : FA prog 27 0 0 := fA underlying27 inf25
instance : FA prog 27 1 1 := fA underlying27 inf3
instance : FA prog 27 2 2 := fA underlying27 inf26
instance : Pl prog 27 [V0, V0, V1] [(0, 1), (1, 1), (2, 1)] := Pl.mk' underlying27 inf27 O1
instance : FA prog 28 0 0 := fA underlying28 inf25
instance : FA prog 28 1 1 := fA underlying28 inf3
instance : FA prog 28 2 2 := fA underlying28 inf26
instance : Pl prog 28 [V0, V0, V1] [(0, 1), (1, 1), (2, 1)] := Pl.mk' underlying28 inf28 O1
instance : FA prog 65 0 0 := fA underlying65 inf4
instance : FA prog 65 1 1 := fA underlying65 inf2
instance : FA prog 65 2 2 := fA underlying65 inf26
instance : Pl prog 65 [V2, V0, V1] [(0, 1), (1, 1), (2, 1)] := Pl.mk' underlying65 inf65 O1
instance : FA prog 66 0 0 := fA underlying66 inf4
instance : FA prog 66 1 1 := fA underlying66 inf2
instance : FA prog 66 2 2 := fA underlying66 inf26
instance : Pl prog 66 [V2, V0, V1] [(0, 1), (1, 1), (2, 1)] := Pl.mk' underlying66 inf66 O1
instance : FA prog 67 0 0 := fA underlying67 inf4
instance : FA prog 67 1 1 := fA underlying67 inf4
instance : FA prog 67 2 2 := fA underlying67 inf3
instance : FA prog 67 3 3 := fA underlying67 inf3
instance : FA prog 67 4 4 := fA underlying67 inf66
instance : FA prog 67 5 7 := fA underlying67 inf61
instance : Pl prog 67 [V2, V2, V0, V0, V2, V0, V1, V1] [(0, 1), (1, 1), (2, 1), (3, 1), (4, 3), (7, 1)] := Pl.mk' underlying67 inf67 O1
instance : FA prog 68 0 0 := fA underlying68 inf4
instance : FA prog 68 1 1 := fA underlying68 inf4
instance : FA prog 68 2 2 := fA underlying68 inf3
instance : FA prog 68 3 3 := fA underlying68 inf3
instance : FA prog 68 4 4 := fA underlying68 inf66
instance : FA prog 68 5 7 := fA underlying68 inf61
instance : Pl prog 68 [V2, V2, V0, V0, V2, V0, V1, V1] [(0, 1), (1, 1), (2, 1), (3, 1), (4, 3), (7, 1)] := Pl.mk' underlying68 inf68 O1
instance : FA prog 72 0 0 := fA underlying72 inf3
instance : FA prog 72 1 1 := fA underlying72 inf3
instance : FA prog 72 2 2 := fA underlying72 inf3
instance : FA prog 72 3 3 := fA underlying72 inf2
instance : FA prog 72 4 4 := fA underlying72 inf2
instance : Pl prog 72 [V0, V0, V0, V0, V0] [(0, 1), (1, 1), (2, 1), (3, 1), (4, 1)] := Pl.mk' underlying72 inf72 O1
instance : FA prog 90 0 0 := fA underlying90 inf2
instance : FA prog 90 1 1 := fA underlying90 inf22
instance : Pl prog 90 [V0, V4] [(0, 1), (1, 1)] := Pl.mk' underlying90 inf90 O1
instance : FA prog 91 0 0 := fA underlying91 inf2
instance : FA prog 91 1 1 := fA underlying91 inf22
instance : Pl prog 91 [V0, V4] [(0, 1), (1, 1)] := Pl.mk' underlying91 inf91 O1
instance : FA prog 97 0 0 := fA underlying97 inf95
instance : FA prog 97 1 1 := fA underlying97 inf29
instance : Pl prog 97 [V3, V1] [(0, 1), (1, 1)] := Pl.mk' underlying97 inf97 O1
instance : FA prog 107 0 0 := fA underlying107 inf63
instance : Pl prog 107 [V1] [(0, 1)] := Pl.mk' underlying107 inf107 O1
instance : FA prog 108 0 0 := fA underlying108 inf63
instance : Pl prog 108 [V1] [(0, 1)] := Pl.mk' underlying108 inf108 O1
instance : FA prog 115 0 0 := fA underlying115 inf46
instance : FA prog 115 1 1 := fA underlying115 inf59
instance : FA prog 115 2 2 := fA underlying115 inf44
instance : FA prog 115 3 3 := fA underlying115 inf113
instance : Pl prog 115 [V3, V3, V3, V3] [(0, 1), (1, 1), (2, 1), (3, 1)] := Pl.mk' underlying115 inf115 O1
instance : FA prog 116 0 0 := fA underlying116 inf46
instance : FA prog 116 1 1 := fA underlying116 inf59
instance : FA prog 116 2 2 := fA underlying116 inf44
instance : FA prog 116 3 3 := fA underlying116 inf113
instance : Pl prog 116 [V3, V3, V3, V3] [(0, 1), (1, 1), (2, 1), (3, 1)] := Pl.mk' underlying116 inf116 O1
instance : FA prog 121 0 0 := fA underlying121 inf118
instance : FA prog 121 1 1 := fA underlying121 inf117
instance : FA prog 121 2 2 := fA underlying121 inf3
instance : FA prog 121 3 3 := fA underlying121 inf3
instance : FA prog 121 4 4 := fA underlying121 inf72
instance : FA prog 121 5 9 := fA underlying121 inf3
instance : FA prog 121 6 10 := fA underlying121 inf119
instance : FA prog 121 7 11 := fA underlying121 inf120
instance : FA prog 121 8 12 := fA underlying121 inf26
instance : FA prog 121 9 13 := fA underlying121 inf29
instance : FA prog 121 10 14 := fA underlying121 inf68
instance : FA prog 121 11 22 := fA underlying121 inf3
instance : FA prog 121 12 23 := fA underlying121 inf3
instance : FA prog 121 13 24 := fA underlying121 inf4
instance : Pl prog 121 [V0, Value.map none, V0, V0, V0, V0, V0, V0, V0, V0, V3, V3, V1, V1, V2, V2, V0, V0, V2, V0, V1, V1, V0, V0, V2] [(0, 1), (1, 1), (2, 1), (3, 1), (4, 5), (9, 1), (10, 1), (11, 1), (12, 1), (13, 1), (14, 8), (22, 1), (23, 1), (24, 1)] := Pl.mk' underlying121 inf121 O1
instance : FA prog 122 0 0 := fA underlying122 inf118
instance : FA prog 122 1 1 := fA underlying122 inf117
instance : FA prog 122 2 2 := fA underlying122 inf3
instance : FA prog 122 3 3 := fA underlying122 inf3
instance : FA prog 122 4 4 := fA underlying122 inf72
instance : FA prog 122 5 9 := fA underlying122 inf3
instance : FA prog 122 6 10 := fA underlying122 inf119
instance : FA prog 122 7 11 := fA underlying122 inf120
instance : FA prog 122 8 12 := fA underlying122 inf26
instance : FA prog 122 9 13 := fA underlying122 inf29
instance : FA prog 122 10 14 := fA underlying122 inf68
instance : FA prog 122 11 22 := fA underlying122 inf3
instance : FA prog 122 12 23 := fA underlying122 inf3
instance : FA prog 122 13 24 := fA underlying122 inf4
instance : Pl prog 122 [V0, Value.map none, V0, V0, V0, V0, V0, V0, V0, V0, V3, V3, V1, V1, V2, V2, V0, V0, V2, V0, V1, V1, V0, V0, V2] [(0, 1), (1, 1), (2, 1), (3, 1), (4, 5), (9, 1), (10, 1), (11, 1), (12, 1), (13, 1), (14, 8), (22, 1), (23, 1), (24, 1)] := Pl.mk' underlying122 inf122 O1
instance : FA prog 125 0 0 := fA underlying125 inf3
instance : FA prog 125 1 1 := fA underlying125 inf3
instance : FA prog 125 2 2 := fA underlying125 inf3
instance : FA prog 125 3 3 := fA underlying125 inf3
instance : FA prog 125 4 4 := fA underlying125 inf123
instance : Pl prog 125 [V0, V0, V0, V0, Value.map none] [(0, 1), (1, 1), (2, 1), (3, 1), (4, 1)] := Pl.mk' underlying125 inf125 O1
instance : FA prog 133 0 0 := fA underlying133 inf68
instance : FA prog 133 1 8 := fA underlying133 inf4
instance : FA prog 133 2 9 := fA underlying133 inf3
instance : Pl prog 133 [V2, V2, V0, V0, V2, V0, V1, V1, V2, V0] [(0, 8), (8, 1), (9, 1)] := Pl.mk' underlying133 inf133 O1
instance : FA prog 134 0 0 := fA underlying134 inf68
instance : FA prog 134 1 8 := fA underlying134 inf4
instance : FA prog 134 2 9 := fA underlying134 inf3
instance : Pl prog 134 [V2, V2, V0, V0, V2, V0, V1, V1, V2, V0] [(0, 8), (8, 1), (9, 1)] := Pl.mk' underlying134 inf134 O1
instance : FA prog 140 0 0 := fA underlying140 inf29
instance : FA prog 140 1 1 := fA underlying140 inf3
instance : Pl prog 140 [V1, V0] [(0, 1), (1, 1)] := Pl.mk' underlying140 inf140 O1
instance : FA prog 148 0 0 := fA underlying148 inf3
instance : FA prog 148 1 1 := fA underlying148 inf3
instance : FA prog 148 2 2 := fA underlying148 inf2
instance : FA prog 148 3 3 := fA underlying148 inf2
instance : FA prog 148 4 4 := fA underlying148 inf61
instance : FA prog 148 5 5 := fA underlying148 inf26
instance : Pl prog 148 [V0, V0, V0, V0, V1, V1] [(0, 1), (1, 1), (2, 1), (3, 1), (4, 1), (5, 1)] := Pl.mk' underlying148 inf148 O1
instance : FA prog 162 0 0 := fA underlying162 inf40
instance : FA prog 162 1 1 := fA underlying162 inf42
instance : FA prog 162 2 2 := fA underlying162 inf158
instance : FA prog 162 3 18 := fA underlying162 inf159
instance : FA prog 162 4 19 := fA underlying162 inf160
instance : Pl prog 162 [V3, V3, V3, V0, V3, V0, V3, V0, V3, V0, V3, V0, V3, V0, V3, V0, V3, V0, V1, V1] [(0, 1), (1, 1), (2, 16), (18, 1), (19, 1)] := Pl.mk' underlying162 inf162 O1
instance : FA prog 176 0 0 := fA underlying176 inf174
instance : Pl prog 176 [V2, V2, V0, V0, V2, V0, V1, V1, V2, V0, V2, V2, V0, V0, V2, V0, V1, V1, V2, V0, V2, V2, V0, V0, V2, V0, V1, V1, V2, V0, V2, V2, V0, V0, V2, V0, V1, V1, V2, V0, V2, V2, V0, V0, V2, V0, V1, V1, V2, V0, V2, V2, V0, V0, V2, V0, V1, V1, V2, V0, V2, V2, V0, V0, V2, V0, V1, V1, V2, V0, V2, V2, V0, V0, V2, V0, V1, V1, V2, V0, V2, V2, V0, V0, V2, V0, V1, V1, V2, V0, V2, V2, V0, V0, V2, V0, V1, V1, V2, V0, V2, V2, V0, V0, V2, V0, V1, V1, V2, V0, V2, V2, V0, V0, V2, V0, V1, V1, V2, V0, V2, V2, V0, V0, V2, V0, V1, V1, V2, V0, V2, V2, V0, V0, V2, V0, V1, V1, V2, V0, V2, V2, V0, V0, V2, V0, V1, V1, V2, V0, V2, V2, V0, V0, V2, V0, V1, V1, V2, V0] [(0, 160)] := Pl.mk' underlying176 inf176 O1
instance : FA prog 179 0 0 := fA underlying179 inf3
instance : FA prog 179 1 1 := fA underlying179 inf3
instance : FA prog 179 2 2 := fA underlying179 inf177
instance : FA prog 179 3 3 := fA underlying179 inf3
instance : FA prog 179 4 4 := fA underlying179 inf3
instance : FA prog 179 5 5 := fA underlying179 inf3
instance : Pl prog 179 [V0, V0, V1, V0, V0, V0] [(0, 1), (1, 1), (2, 1), (3, 1), (4, 1), (5, 1)] := Pl.mk' underlying179 inf179 O1
instance : FA prog 183 0 0 := fA underlying183 inf179
instance : FA prog 183 1 6 := fA underlying183 inf181
instance : Pl prog 183 [V0, V0, V1, V0, V0, V0, Value.map none] [(0, 6), (6, 1)] := Pl.mk' underlying183 inf183 O1
instance : FA prog 186 0 0 := fA underlying186 inf3
instance : FA prog 186 1 1 := fA underlying186 inf184
instance : Pl prog 186 [V0, Value.map none] [(0, 1), (1, 1)] := Pl.mk' underlying186 inf186 O1
instance : FA prog 212 0 0 := fA underlying212 inf3
instance : FA prog 212 1 1 := fA underlying212 inf3
instance : FA prog 212 2 2 := fA underlying212 inf3
instance : Pl prog 212 [V0, V0, V0] [(0, 1), (1, 1), (2, 1)] := Pl.mk' underlying212 inf212 O1
instance : FA prog 269 0 0 := fA underlying269 inf213
instance : FA prog 269 1 3 := fA underlying269 inf3
instance : FA prog 269 2 4 := fA underlying269 inf4
instance : FA prog 269 3 5 := fA underlying269 inf4
instance : FA prog 269 4 6 := fA underlying269 inf3
instance : Pl prog 269 [V0, V0, V0, V0, V2, V2, V0] [(0, 3), (3, 1), (4, 1), (5, 1), (6, 1)] := Pl.mk' underlying269 inf269 O1
instance : FA prog 288 0 0 := fA underlying288 inf3
instance : FA prog 288 1 1 := fA underlying288 inf3
instance : FA prog 288 2 2 := fA underlying288 inf148
instance : FA prog 288 3 8 := fA underlying288 inf4
instance : FA prog 288 4 9 := fA underlying288 inf3
instance : Pl prog 288 [V0, V0, V0, V0, V0, V0, V1, V1, V2, V0] [(0, 1), (1, 1), (2, 6), (8, 1), (9, 1)] := Pl.mk' underlying288 inf288 O1
instance : FA prog 319 0 0 := fA underlying319 inf29
instance : FA prog 319 1 1 := fA underlying319 inf3
instance : Pl prog 319 [V1, V0] [(0, 1), (1, 1)] := Pl.mk' underlying319 inf319 O1
instance : FA prog 346 0 0 := fA underlying346 inf9
instance : FA prog 346 1 1 := fA underlying346 inf9
instance : FA prog 346 2 2 := fA underlying346 inf99
instance : Pl prog 346 [V6, V6, Value.nilIface] [(0, 1), (1, 1), (2, 1)] := Pl.mk' underlying346 inf346 O1
instance : FA prog 380 0 0 := fA underlying380 inf5
instance : FA prog 380 1 1 := fA underlying380 inf5
instance : Pl prog 380 [V5, V5] [(0, 1), (1, 1)] := Pl.mk' underlying380 inf380 O1
instance : FA prog 386 0 0 := fA underlying386 inf9
instance : Pl prog 386 [V6] [(0, 1)] := Pl.mk' underlying386 inf386 O1
instance : FA prog 389 0 0 := fA underlying389 inf29
instance : FA prog 389 1 1 := fA underlying389 inf3
instance : FA prog 389 2 2 := fA underlying389 inf4
instance : Pl prog 389 [V1, V0, V2] [(0, 1), (1, 1), (2, 1)] := Pl.mk' underlying389 inf389 O1
instance : FnB prog 3 := fB func3
instance : FnB prog 9 := fB func9
instance : FnB prog 10 := fB func10
instance : FnB prog 11 := fB func11
instance : FnB prog 12 := fB func12
instance : FnB prog 13 := fB func13
instance : FnB prog 14 := fB func14
instance : FnB prog 15 := fB func15
instance : FnB prog 16 := fB func16
instance : FnB prog 17 := fB func17
instance : FnB prog 18 := fB func18
instance : FnB prog 19 := fB func19
instance : FnB prog 20 := fB func20
instance : FnB prog 22 := fB func22
instance : FnB prog 27 := fB func27
instance : FnB prog 30 := fB func30
instance : FnB prog 31 := fB func31
instance : FnB prog 39 := fB func39
instance : FnB prog 40 := fB func40
instance : FnB prog 41 := fB func41
instance : FnB prog 42 := fB func42
instance : FnB prog 43 := fB func43
instance : FnB prog 44 := fB func44
instance : FnB prog 45 := fB func45
instance : FnB prog 46 := fB func46
instance : FnB prog 47 := fB func47
instance : FnB prog 48 := fB func48
instance : FnB prog 49 := fB func49
instance : FnB prog 50 := fB func50
instance : FnB prog 51 := fB func51
instance : FnB prog 52 := fB func52
instance : FnB prog 53 := fB func53
instance : FnB prog 54 := fB func54
instance : FnB prog 55 := fB func55
instance : FnB prog 56 := fB func56
instance : FnB prog 68 := fB func68
instance : FnB prog 69 := fB func69
instance : FnB prog 81 := fB func81
instance : FnB prog 82 := fB func82
instance : FnB prog 83 := fB func83
instance : FnB prog 84 := fB func84
instance : FnB prog 85 := fB func85
instance : FnB prog 86 := fB func86
instance : FnB prog 87 := fB func87
instance : FnB prog 88 := fB func88
instance : FnB prog 89 := fB func89
instance : FnB prog 90 := fB func90
instance : FnB prog 91 := fB func91
instance : FnB prog 92 := fB func92
instance : FnB prog 93 := fB func93
instance : FnB prog 94 := fB func94
instance : FnB prog 95 := fB func95
instance : FnB prog 106 := fB func106
instance : FnB prog 119 := fB func119
instance : FnB prog 120 := fB func120
instance : FnB prog 121 := fB func121
instance : FnB prog 148 := fB func148
instance : FnB prog 150 := fB func150
instance : FnB prog 151 := fB func151
instance : FnB prog 152 := fB func152
instance : FnB prog 153 := fB func153
instance : FnB prog 154 := fB func154
instance : FnB prog 155 := fB func155
instance : FnB prog 156 := fB func156
instance : FnB prog 157 := fB func157
instance : FnB prog 178 := fB func178
instance : FnB prog 201 := fB func201
instance : FnB prog 202 := fB func202
instance : FnB prog 203 := fB func203
instance : FnB prog 204 := fB func204
instance : FnB prog 205 := fB func205
instance : FnB prog 206 := fB func206
instance : FnB prog 209 := fB func209
instance : FnB prog 210 := fB func210
instance : FnB prog 211 := fB func211
instance : FnB prog 212 := fB func212
instance : FnB prog 213 := fB func213
instance : FnB prog 214 := fB func214
instance : FnB prog 255 := fB func255
instance : FnB prog 256 := fB func256
instance : FnB prog 257 := fB func257
instance : FnB prog 258 := fB func258
instance : FnB prog 259 := fB func259
instance : FnB prog 260 := fB func260
instance : FnB prog 263 := fB func263
instance : FnB prog 264 := fB func264
instance : FnB prog 266 := fB func266
instance : FnB prog 292 := fB func292
instance : FnB prog 293 := fB func293
instance : FnB prog 295 := fB func295
end
section
abbrev BwPt (p : Nat) (a : Option Addr) (m c n : Nat) : HProp := pt p (.cells [.slice a m c, .iz n].toArray 319 (0, 0))
def IsBW (p : Nat) (bs : List Bool) : HProp := ex fun q : Option Addr × Nat => all [BwPt p q.1 ((bs.length + 7) / 8) q.2 bs.length, Own 5 1 q.1 ((bs.length + 7) / 8) q.2 (bytesV (pack bs))]
section
variable {w0 w : World} {l : List HProp} {p : Nat} {bs : List Bool}
theorem St.bw : St w0 (IsBW p bs :: l) w ↔ ∃ a c, St w0 (BwPt p a ((bs.length + 7) / 8) c bs.length :: Own 5 1 a ((bs.length + 7) / 8) c (bytesV (pack bs)) :: l) w := by
 unfold IsBW
 rw [St.ex]
 exact ⟨fun ⟨q, h⟩ => ⟨q.1, q.2, h.join⟩, fun ⟨a, c, h⟩ => ⟨(a, c), St.fold [_, _] h⟩⟩
end
end
end Go.Proofs.YtdeaeboijmeefaaGreatDoor
namespace Go.Hw
section
def tzA : Nat -> Nat -> Nat
 | 0, _ => 0
 | k + 1, x => if x % 2 = 1 then 0 else tzA k (x / 2) + 1
def tz (x : Nat) : Nat := tzA 64 x
theorem tzA_dvd : ∀ (k x : Nat), x / 2 ^ tzA k x * 2 ^ tzA k x = x
 | 0, x => by simp [tzA]
 | k + 1, x => by
  rw [tzA]
  split
  ·simp
  ·have ih := tzA_dvd k (x / 2)
   rw [Nat.pow_succ, Nat.mul_comm _ 2, <- Nat.div_div_eq_div_mul, Nat.mul_comm 2, <- Nat.mul_assoc, ih]
   omega
end
section
class EqI (P : Program) (t : TypeId) (ks : outParam (List IntKind)) : Prop where
 u : ∃ fl : List Field, P.underlying t = some (.struct fl.toArray) ∧ fl.map (fun f => (f.name == "_", f.offset, P.underlying f.type)) = ks.zipIdx.map (fun p => (false, p.2, some (.int p.1)))
 s : P.stoodInHeld t = false
 g : P.eqGuardType P.depth t = false
def ints (ks : List IntKind) (aL : List Int) : List Value := List.zipWith Value.int ks aL
theorem zr : ∀ (ks : List IntKind) (aL : List Int) (j : Nat), (ints ks aL)[j]? = (ks[j]?).bind fun k => (aL[j]?).map (Value.int k) := by
 intro ks aL j
 simp only [ints, List.getElem?_zipWith]
 cases ks[j]? <;> cases aL[j]? <;> rfl
theorem run_part_int {P : Program} {w : World} {t : TypeId} {k : IntKind} (ht : P.underlying t = some (.int k)) {cs : List Value} {off : Nat} {v : Value} (hv : cs[off]? = some v) : (part t cs.toArray off).run P w = .ok v w := by
 have : (isAgg t).run P w = .ok false w := by
  unfold Go.isAgg
  rw [Sem.run_bind, run_underlying ht w]
  rfl
 simp [part, this, hv]
theorem g5 {P : Program} {w : World} (d : Nat) : ∀ (fl : List Field) (ks : List IntKind) (aL bs : List Int) (p q : List Value), p.length = q.length -> aL.length = ks.length -> bs.length = ks.length ->
  fl.map (fun f => (f.name == "_", f.offset, P.underlying f.type)) = (ks.zipIdx p.length).map (fun p => (false, p.2, some (.int p.1))) ->
  (Op.eqFields (d + 1) (p ++ ints ks aL).toArray (q ++ ints ks bs).toArray fl).run P w = .ok (aL == bs) w
 | [], [], [], [], _, _, _, _, _, _ => by simp [Op.eqFields]
 | [], k :: ks, _, _, _, _, _, _, _, h => by simp at h
 | f :: fl, [], _, _, _, _, _, _, _, h => by simp at h
 | f :: fl, k :: ks, [], _, _, _, _, h, _, _ => by simp at h
 | f :: fl, k :: ks, a :: aL, [], _, _, _, _, h, _ => by simp at h
 | f :: fl, k :: ks, a :: aL, b :: bs, p, q, hpq, ha, hb, h => by
  simp only [List.map_cons, List.zipIdx_cons, List.cons.injEq, Prod.mk.injEq] at h
  obtain ⟨⟨h1, h2, h3⟩, h4⟩ := h
  have hn : f.name ≠ "_" := by simpa using h1
  have e1 : (p ++ ints (k :: ks) (a :: aL))[f.offset]? = some (.int k a) := by rw [h2]; simp [ints]
  have e2 : (q ++ ints (k :: ks) (b :: bs))[f.offset]? = some (.int k b) := by rw [h2, hpq]; simp [ints]
  unfold Op.eqFields
  rw [if_pos hn]
  simp only [Sem.run_bind, run_part_int h3 e1, run_part_int h3 e2, Result.andThen_ok, run_equalIn_int w d f.type k k a b h3]
  by_cases hab : a = b
  ·subst hab
   have ih := g5 (P := P) (w := w) d fl ks aL bs (p ++ [.int k a]) (q ++ [.int k a]) (by simp [hpq]) (by simpa using ha) (by simpa using hb) (by simpa using h4)
   simp only [Ug, List.singleton_append] at ih
   have hi : ints (k :: ks) (a :: aL) = .int k a :: ints ks aL := rfl
   have hi2 : ints (k :: ks) (a :: bs) = .int k a :: ints ks bs := rfl
   rw [hi, hi2]
   simp [ih]
  ·have : (a == b) = false := by simp [hab]
   simp [this]
theorem yv {P : Program} {w : World} {t : TypeId} {ks : List IntKind} (h : EqI P t ks) {aL bs : List Int} (ha : aL.length = ks.length) (hb : bs.length = ks.length) (d : Nat) :
  (Op.equalIn (d + 2) t (.agg (ints ks aL).toArray) (.agg (ints ks bs).toArray)).run P w = .ok (aL == bs) w := by
 obtain ⟨fl, hu, hf⟩ := h.u
 have hfo : P.fieldsOf t = fl.toArray := by unfold Program.fieldsOf; rw [hu]
 rw [run_equalIn_struct w (d + 1) t _ _ (by rw [hfo]; exact hu) h.s, hfo]
 have := g5 (P := P) (w := w) d fl ks aL bs [] [] rfl ha hb (by simpa using hf)
 simpa using this
section
variable {P : Program} {e : Env} {w : World} {d : Option Nat} {ty : TypeId} {pos : String} {af : Array Edge} {g : Option (Nat × Bool)}
theorem q_eqI {t t2 : TypeId} {ks : List IntKind} [h : EqI P t ks] {x y : Operand} (aL bs : List Int) (hx : ev e x = .agg (ints ks aL).toArray) (hy : ev e y = .agg (ints ks bs).toArray) (ha : aL.length = ks.length) (hb : bs.length = ks.length) :
  Qv P e ⟨d, .binOp .eql t x y t2, ty, pos, af, g⟩ w (.bool (aL == bs)) := by
 unfold Qv
 have h1 := run_eqGuard_agg (P := P) w .eql t x y (ints ks aL).toArray (ints ks bs).toArray h.g
 have h2 := run_eql_struct (P := P) w t (ints ks aL).toArray (ints ks bs).toArray
 rw [yv h ha hb 9998] at h2
 simp only [execOp, hx, hy, Sem.run_bind, h1, Result.andThen_ok, h2, Result.andThen]
 rfl
theorem yu {t t2 : TypeId} {ks : List IntKind} [h : EqI P t ks] {x y : Operand} (aL bs : List Int) (hx : ev e x = .agg (ints ks aL).toArray) (hy : ev e y = .agg (ints ks bs).toArray) (ha : aL.length = ks.length) (hb : bs.length = ks.length) :
  Qv P e ⟨d, .binOp .neq t x y t2, ty, pos, af, g⟩ w (.bool (!(aL == bs))) := by
 unfold Qv
 have h1 := run_eqGuard_agg (P := P) w .neq t x y (ints ks aL).toArray (ints ks bs).toArray h.g
 have h2 := run_neq_struct (P := P) w t (ints ks aL).toArray (ints ks bs).toArray
 rw [yv h ha hb 9998] at h2
 simp only [execOp, hx, hy, Sem.run_bind, h1, Result.andThen_ok, h2, Result.andThen]
 rfl
end
theorem vi {α : Type} {f : α -> List Value} {sz : Nat} (hf : ∀ x, (f x).length = sz) : ∀ (L : List α) (k : Nat) (x : α), L[k]? = some x -> ∀ j v, (f x)[j]? = some v -> (L.flatMap f)[k * sz + j]? = some v
 | [], k, x, h, _, _, _ => by simp at h
 | a :: L, 0, x, h, j, v, hj => by
  simp only [Uu, Up] at h
  subst h
  rw [List.flatMap_cons, Nat.zero_mul, Vo, List.getElem?_append_left (Ue.1 hj).1]
  exact hj
 | a :: L, k + 1, x, h, j, v, hj => by
  have ih := vi hf L k x (by simpa using h) j v hj
  rw [List.flatMap_cons, List.getElem?_append_right (by rw [hf, Ux]; omega), hf]
  rw [show (k + 1) * sz + j - sz = k * sz + j by rw [Ux]; omega]
  exact ih
theorem g6 {α : Type} {f : α -> List Value} {sz : Nat} (hf : ∀ x, (f x).length = sz) : ∀ (L : List α), (L.flatMap f).length = L.length * sz
 | [] => by simp
 | a :: L => by rw [List.flatMap_cons, Ua, hf, g6 hf L, Ur, Ux]; omega
theorem Rd.elem {w : World} {sz n b o : Nat} {α : Type} {f : α -> List Value} {L : List α} (h : Rd w sz (Option.some ⟨b, o, none⟩) n (L.flatMap f)) (hf : ∀ x, (f x).length = sz) {k : Nat} {x : α} (hk : L[k]? = Option.some x) : At w b (o + k * sz) (f x) := by
 intro j v hj
 have := h.cell (vi hf L k x hk j v hj)
 rwa [<- Nat.add_assoc] at this
theorem Rd.count {w : World} {sz n : Nat} {a : Option Addr} {α : Type} {f : α -> List Value} {L : List α} (h : Rd w sz a n (L.flatMap f)) (hf : ∀ x, (f x).length = sz) (hs : 0 < sz) : L.length = n := by
 have := h.1
 rw [g6 hf] at this
 exact Nat.eq_of_mul_eq_mul_right hs this
structure Smp where
 T : Int
 V : Int
 deriving DecidableEq
def Smp.cells (s : Smp) : List Value := [.iz s.T, .int .u64 s.V]
abbrev smpsV (L : List Smp) : List Value := L.flatMap Smp.cells
theorem g7 (s : Smp) : s.cells.length = 2 := rfl
structure Prt where
 blob : Int
 tag : Int
 count : Int
 frm : Int
 upto : Int
 deriving DecidableEq
def Prt.cells (p : Prt) : List Value := [.iz p.blob, .iz p.tag, .iz p.count, .iz p.frm, .iz p.upto]
end
section
end
end Go.Hw
namespace Go.Hw
section
def Smp.Wf (s : Smp) : Prop := I64 s.T ∧ 0 <= s.V ∧ s.V < 18446744073709551616
end
end Go.Hw
namespace Go.Proofs.YtdeaeboijmeefaaGreatDoor
open Go.Hw _root_.Go.Proofs.Tryz
section
abbrev OwnB (a : Option Addr) (c : Nat) (bs : List UInt8) : HProp := Own 5 1 a bs.length c (bytesV bs)
section
variable {w0 w : World} {l : List HProp}
end
end
section
section
variable {w0 w : World} {l : List HProp}
abbrev BrPt (p : Nat) (a : Option Addr) (m c at_ : Nat) (bad : Bool) : HProp := pt p (.cells [.slice a m c, .iz at_, .bool bad].toArray 389 (0, 0))
def IsBR (p : Nat) (s : RS) : HProp := ex fun q : Option Addr × Nat × List UInt8 × Nat => all [BrPt p q.1 q.2.2.1.length q.2.1 q.2.2.2 s.bad, OwnB q.1 q.2.1 q.2.2.1, lift (s.rest = (bitsB q.2.2.1).drop q.2.2.2 ∧ q.2.2.2 <= 8 * q.2.2.1.length ∧ q.2.2.1.length <= 140737488355328)]
theorem St.br {p : Nat} {s : RS} : St w0 (IsBR p s :: l) w ↔ ∃ a c B at_, (s.rest = (bitsB B).drop at_ ∧ at_ <= 8 * B.length ∧ B.length <= 140737488355328) ∧ St w0 (BrPt p a B.length c at_ s.bad :: OwnB a c B :: l) w := by
 unfold IsBR
 rw [St.ex]
 constructor
 ·rintro ⟨⟨a, c, B, at_⟩, h⟩
  obtain ⟨h1, h2⟩ := St.lift.1 (h.join.f 2)
  exact ⟨a, c, B, at_, h1, h2⟩
 ·rintro ⟨a, c, B, at_, h1, h⟩
  refine ⟨(a, c, B, at_), St.fold [_, _, _] ?_⟩
  have h2 := St.lift.2 ⟨h1, h⟩
  exact h2.of_all (by simp only [List.cons_append, Uw, gy]; ac_rfl)
end
end
end Go.Proofs.YtdeaeboijmeefaaGreatDoor
namespace Go.Hw
section
section
variable {P : Program} {e : Env} {w : World} {d : Option Nat} {ty : TypeId} {pos : String} {af : Array Edge} {g : Option (Nat × Bool)}
theorem u4 {t T m : Nat} [ht : Und P t (.array m T)] {z : List Value} {agg : Bool} {bytes : Nat} [hi : Inf P T z agg bytes] {x y : Operand} {b o o' j : Nat} {k : IntKind} {i : Int}
  (hx : ev e x = .pointer (some ⟨b, o, none⟩)) (hy : ev e y = .int k i) (hij : i = (j : Int)) (hj : j < m) (ho : o + j * z.length = o') : Qv P e ⟨d, .indexAddr t x y, ty, pos, af, g⟩ w (.pointer (some ⟨b, o', none⟩)) := by
 unfold Qv
 subst hij ho
 have h1 := hi.sizeOf w
 simp [execOp, hx, hy, Instr.indexAt, asIntOf, Instr.sureAddr, run_underlying ht.h, h1, Addr.add_mid, hj]
end
theorem tzA_odd : ∀ (k x : Nat), x ≠ 0 -> x < 2 ^ k -> x / 2 ^ tzA k x % 2 = 1 ∧ tzA k x < k
 | 0, x, h0, h => by simp at h; omega
 | k + 1, x, h0, h => by
  rw [tzA]
  split
  ·rename_i h1; simpa using h1
  ·rename_i h1
   obtain ⟨h2, h3⟩ := tzA_odd k (x / 2) O3 (by rw [Nat.pow_succ] at h; omega)
   rw [Nat.pow_succ, Nat.mul_comm, <- Nat.div_div_eq_div_mul]
   exact ⟨h2, O_o⟩
theorem xt {x : Nat} (h0 : x ≠ 0) (h : x < 18446744073709551616) : x &&& (18446744073709551616 - x) = 2 ^ tz x := by
 obtain ⟨h1, h2⟩ := tzA_odd 64 x h0 h
 have h3 := tzA_dvd 64 x
 have ht : tzA 64 x = tz x := rfl
 rw [ht] at h1 h2 h3
 generalize tz x = t at *
 generalize hm : x / 2 ^ t = m at *
 have hp := Nat.two_pow_pos t
 have hx1 : (x - 1) / 2 ^ t = m - 1 := by
  have e : x - 1 = (m - 1) * 2 ^ t + (2 ^ t - 1) := by
   rw [Nat.sub_mul, Nat.one_mul, h3]
   have : 2 ^ t <= x := by rw [<- h3]; exact Nat.le_mul_of_pos_left _ O3
   omega
  rw [e, Nat.add_comm, Nat.add_mul_div_right _ _ hp, Nat.div_eq_of_lt O3, Vo]
 apply Nat.eq_of_testBit_eq
 intro i
 rw [Nat.testBit_and, Nat.testBit_two_pow]
 have hs : (18446744073709551616 - x).testBit i = (decide (i < 64) && !(x - 1).testBit i) := by
  have := Nat.testBit_two_pow_sub_succ (n := 64) (x := x - 1) O3 i
  rw [show x - 1 + 1 = x by omega] at this
  exact this
 rw [hs]
 have hx : x.testBit i = (decide (i ≥ t) && m.testBit (i - t)) := by rw [<- Nat.testBit_two_pow_mul, Nat.mul_comm, h3]
 by_cases hit : i < t
 ·rw [hx]; simp [show ¬ t <= i by omega, show ¬ t = i by omega]
 ·have hj : (x - 1).testBit i = (m - 1).testBit (i - t) := by rw [<- hx1, Nat.testBit_div_two_pow]; congr 1; omega
  rw [hx, hj]
  cases hd : i - t with
  | zero =>
   have : i = t := by omega
   subst this
   simp [Nat.testBit_zero, h1, h2, show ¬ (m - 1) % 2 = 1 by omega]
  | succ j =>
   rw [Nat.testBit_succ, Nat.testBit_succ, show (m - 1) / 2 = m / 2 by omega]
   simp [show ¬ t = i by omega]
   intro _ h5 _
   exact h5
def deB : List Nat := [0, 1, 56, 2, 57, 49, 28, 3, 61, 58, 42, 50, 38, 29, 17, 4, 62, 47, 59, 36, 45, 43, 51, 22, 53, 39, 33, 30, 24, 18, 12, 5, 63, 55, 48, 27, 60, 41, 37, 16, 46, 35, 44, 21, 52, 32, 23, 11, 54, 26, 40, 15, 34, 20, 31, 10, 25, 14, 19, 9, 13, 8, 7, 6]
theorem deB_get : ∀ t, t < 64 -> 2 ^ t * 285870213051353865 % 18446744073709551616 / 2 ^ 58 < 64 ∧ deB[2 ^ t * 285870213051353865 % 18446744073709551616 / 2 ^ 58]? = some t := by decide
end
end Go.Hw
namespace Go.Proofs.YtdeaeboijmeefaaGreatDoor
open Go.Hw _root_.Go.Proofs.Tryz
section
structure Tz (W : World) : Prop where
 size : 7 < W.heap.size
 cell : ∀ (i v : Nat), deB[i]? = some v -> W.cell? ⟨7, i, none⟩ = some (.int .u8 v)
section
variable {w0 w : World} {l : List HProp}
instance undDeB : Und prog 400 (.array 64 5) := ⟨underlying400⟩
theorem gt (hT : Tz w0) {x : Nat} (hx : x < 18446744073709551616) (h : St w0 l w) : Ret prog 293 [.int .u64 x] w fun v w' => v = .iz (tz x) ∧ St w0 l w' := by
 refine en func293 results293 ntmps293 ?_
 refine Yi ?_; refine Ys ?_; refine Yc ?_
 by_cases h0 : x = 0
 ·refine qw (.bool true) (by subst h0; rfl) ?_
  refine Yk ?_; refine Yi ?_
  exact qy (bq1 ⟨by subst h0; rfl, h⟩)
 refine qw (.bool false) (by congr 1; rw [beq_eq_false_iff_ne]; omega) ?_
 refine Yh ?_
 have ht : tz x < 64 := (tzA_odd 64 x h0 hx).2
 obtain ⟨hd1, hd2⟩ := deB_get (tz x) ht
 have hc := hT.cell _ _ hd2
 refine Y24 ?_; refine r_v (q_neg rfl) rfl ?_
 refine qw (.int .u64 ((18446744073709551616 - x : Nat) : Int)) (by rw [xo]; unfold us; congr 1; omega) ?_
 refine r_v (jh rfl rfl) rfl ?_
 refine qw (.int .u64 ((2 ^ tz x : Nat) : Int)) (by rw [(yg hx O3).1, xt h0 hx]) ?_
 refine Y2u ?_
 refine qw (.int .u64 ((2 ^ tz x * 285870213051353865 % 18446744073709551616 : Nat) : Int)) (by rw [<- jz]; rfl) ?_
 refine r_v (qa (v' := .int .u64 ((2 ^ tz x * 285870213051353865 % 18446744073709551616 / 2 ^ 58 : Nat) : Int)) (ji rfl rfl O3) (congrArg (Value.int .u64) (kz _ 58 64 O4))) rfl ?_
 generalize 2 ^ tz x * 285870213051353865 % 18446744073709551616 / 2 ^ 58 = j at hd1 hd2 hc ⊢
 refine r_v (u4 (j := j) (o' := j) rfl rfl rfl hd1 O8) rfl ?_
 refine r_v (vd (v := .int .u8 (tz x)) rfl ((h.cell_old hT.size).trans hc)) rfl ?_
 refine Yw ?_
 refine qw (.iz (tz x)) (by rw [wrap64 O3 O3]) ?_
 refine Y3 ?_
 exact qy (bq1 ⟨rfl, h⟩)
end
end
end Go.Proofs.YtdeaeboijmeefaaGreatDoor
namespace Go.Hw
section
end
end Go.Hw
namespace Go.Proofs.YtdeaeboijmeefaaGreatDoor
open Go.Hw _root_.Go.Proofs.Tryz
section
section
variable {w0 w : World} {l : List HProp}
end
end
section
section
variable {w0 w : World} {l : List HProp}
end
end
section
section
variable {w0 w : World} {l : List HProp}
end
end
end Go.Proofs.YtdeaeboijmeefaaGreatDoor
namespace Go.Hw
section
end
end Go.Hw
namespace Go.Proofs.YtdeaeboijmeefaaGreatDoor
open Go.Hw _root_.Go.Proofs.Tryz
section
section
variable {w0 w : World} {l : List HProp}
end
end
end Go.Proofs.YtdeaeboijmeefaaGreatDoor
namespace Go.Hw
section
end
end Go.Hw
namespace Go.Proofs.YtdeaeboijmeefaaGreatDoor
open Go.Hw _root_.Go.Proofs.Tryz
section
section
variable {w0 w : World} {l : List HProp}
end
end
end Go.Proofs.YtdeaeboijmeefaaGreatDoor
namespace Go.Hw
section
end
end Go.Hw
namespace Go.Proofs.YtdeaeboijmeefaaGreatDoor
open Go.Hw _root_.Go.Proofs.Tryz
section
section
variable {w0 w : World} {l : List HProp}
end
end
end Go.Proofs.YtdeaeboijmeefaaGreatDoor
namespace Go.Hw
section
end
section
end
end Go.Hw
namespace Go.Proofs.YtdeaeboijmeefaaGreatDoor
open Go.Hw _root_.Go.Proofs.Tryz
section
section
variable {w0 w : World} {l : List HProp}
end
end
end Go.Proofs.YtdeaeboijmeefaaGreatDoor
namespace Go.Hw
section
open Go.ChangeShapes Go.WideShapes Go.ChangeAt Go.RowKit
section
variable {P : Program} {W : World} {H : Type} {enc : TypeId × Value -> H} {r : Reach} {b0 : Nat}
theorem maxLen_le {n : Nat} (h : n <= maxLen) : n <= 9223372036854775807 := Vf h O4
end
end
section
section
variable {P : Program} {n : Nat} {ops : Array Oper} {Q : Post} {rest : List Oper} {e : Env} {w w0 : World} {l : List HProp}
end
end
section
section
variable {P : Program} {ops : Array Oper} {e : Env} {w : World} {d : Option Nat} {ty : TypeId} {pos : String} {af : Array Edge} {g : Option (Nat × Bool)}
end
end
section
def ordF : Nat -> List Nat -> List HProp -> List HProp
 | 0, _, l => l
 | _ + 1, [], l => l
 | n + 1, k :: ks, l => match l[k]? with
  | none => l
  | some P => P :: ordF n (ks.map fun j => bif Vi k j then j - 1 else j) (l.eraseIdx k)
theorem kw : ∀ (n : Nat) (ks : List Nat) (l : List HProp), all (ordF n ks l) = all l
 | 0, _, _ => rfl
 | _ + 1, [], _ => rfl
 | n + 1, k :: ks, l => by
  rw [ordF]
  split
  ·rfl
  ·rename_i P hP
   rw [gy, kw n, <- gy, <- ge k l hP, vj]
def dropN : Nat -> List HProp -> List HProp
 | 0, l => l
 | n + 1, _ :: l => dropN n l
 | _ + 1, [] => []
section
variable {w w0 : World} {l : List HProp}
theorem St.o (ks : List Nat) (h : St w0 l w) : St w0 (ordF ks.length ks l) w := h.of_all (kw _ _ _).symm
theorem St.dropN : ∀ {n : Nat} {l : List HProp}, St w0 l w -> St w0 (dropN n l) w
 | 0, _, h => h
 | _ + 1, [], h => h
 | n + 1, _ :: l, h => St.dropN (n := n) (l := l) h.drop
theorem St.x (ks : List Nat) (h : St w0 l w) : St w0 (Hw.dropN ks.length (ordF ks.length ks l)) w := (h.o ks).dropN
end
end
section
section
variable {P : Program} {e : Env} {w : World} {K : Env -> World -> Prop} {d : Option Nat} {ty : TypeId} {pos : String} {af : Array Edge} {g : Option (Nat × Bool)}
end
end
section
theorem strB_cat (a b : List UInt8) : strB a ++ strB b = strB (a ++ b) := by
 apply ByteArray.ext
 rw [ByteArray.data_append]
 simp [strB]
theorem strB_same (a b : List UInt8) : ((strB a).data.toList == (strB b).data.toList) = decide (a = b) := by
 show (a.toArray.toList == b.toArray.toList) = _
 by_cases h : a = b
 ·subst h; simp
 ·simp [h]
theorem strB_size (a : List UInt8) : (strB a).size = a.length := by
 show a.toArray.size = _
 simp
section
variable {P : Program} {e : Env} {w : World} {d : Option Nat} {ty : TypeId} {pos : String} {af : Array Edge} {g : Option (Nat × Bool)}
theorem ko {t : TypeId} [ht : Und P t .string] {x y : Operand} {l : List UInt8} {k : IntKind} {i : Nat} {c : UInt8} (hx : ev e x = .string (strB l)) (hy : ev e y = .int k (i : Int)) (hc : l[i]? = some c) :
  Qv P e ⟨d, .index t x y, ty, pos, af, g⟩ w (.int .u8 (c.toNat : Int)) := by
 unfold Qv
 have hlt := (Ue.1 hc).1
 have h2 := (Ue.1 hc).2
 have hs : i < (strB l).size := by rw [strB_size]; exact hlt
 have h3 : (strB l)[i]'hs = c := by
  show l.toArray[i]'_ = c
  exact h2
 have key : (Instr.index t (.string (strB l)) (.int k (i : Int))).run P w = .ok (.int .u8 (c.toNat : Int)) w := by
  rw [run_index_string w t (strB l) k i ht.h, dif_pos ⟨O_o, O_o⟩]
  simp only [Int.toNat_natCast, h3]
 simp only [execOp, hx, hy, Sem.run_bind, key, Result.andThen_ok]; rfl
theorem xi {t T m : Nat} [ht : Und P t (.array m T)] {z : List Value} {agg : Bool} {bytes : Nat} [hi : Inf P T z agg bytes] {x y : Operand} {b i : Nat} {k : IntKind}
  (hx : ev e x = .pz b) (hy : ev e y = .int k (i : Int)) (h : i < m) : Qv P e ⟨d, .slice t x (some y) none none, ty, pos, af, g⟩ w (.slice (some ⟨b, i * z.length, none⟩) (m - i) (m - i)) := by
 unfold Qv
 have hz := hi.sizeOf w
 have e2 : (Instr.sliceBound (.int k (i : Int)) m .sliceB).run P w = .ok i w := by
  simp [Instr.sliceBound, asIntOf, Nat.le_of_lt h]
 have e3 : (Instr.sliceBounds false m m (some (.int k (i : Int))) none none).run P w = .ok (i, m, m) w := by
  simp [Instr.sliceBounds, e2]
 have key : (Instr.sliceAt t (.pz b) (some (.int k (i : Int))) none none).run P w = .ok (.slice (some ⟨b, i * z.length, none⟩) (m - i) (m - i)) w := by
  simp [Instr.sliceAt, Instr.sureAddr, run_underlying ht.h, e3, hz, Addr.add, Nat.ne_of_gt h]
  omega
 simp only [execOp, hx, hy, Option.map_none, Uv, Sem.run_bind, key, Result.andThen_ok]; rfl
theorem jv {x : Operand} (hx : ev e x = .nilIface) : Qv P e ⟨d, .assign x, ty, pos, af, g⟩ w .nilIface := by
 unfold Qv; simp [execOp, hx]
theorem z6 {f : FuncId} {fn : Func} {E : Array Value -> Sem Value} {xs : List Operand} {tys : Array TypeId} {vs : List Value} {v : Value} (hf : P.funcs[f]? = some fn) (hname : (fn.name == "runtime.NumGoroutine") = false)
  (hb : fn.body.isNone = true) (hn : Extern.findNext fn = none) (he : Extern.find fn = some E) (hv : xs.map (ev e) = vs) (hr : (E vs.toArray).run P w = .ok v w) : Qv P e ⟨d, .call ⟨.value (.func f), xs.toArray, tys⟩, ty, pos, af, g⟩ w v := by
 unfold Qv
 have h1 := run_callFunc_extern hf hname hb hn he vs.toArray w
 rw [hr] at h1
 simp only [execOp, resolve, ev, Deferred.ofValue, invoke, Sem.run_bind, Sem.run_pure, Result.andThen_ok, Vp, hv]
 simpa using h1
end
end
section
open Go.Lib
theorem decDigits_rec (u : Nat) : decDigits u = if u < 10 then [UInt8.ofNat (48 + u)] else decDigits (u / 10) ++ [UInt8.ofNat (48 + u % 10)] := by
 rw [decDigits]; split <;> rfl
theorem decDigits_mem (u : Nat) : ∀ c ∈ decDigits u, 48 <= c.toNat ∧ c.toNat <= 57 := by
 induction u using Nat.strongRecOn with
 | _ u ih =>
  intro c hc
  rw [decDigits_rec] at hc
  split at hc
  ·rw [Us.1 hc, UInt8.toNat_ofNat']; omega
  ·rcases List.mem_append.1 hc with hc | hc
   ·exact ih (u / 10) O3 c hc
   ·rw [Us.1 hc, UInt8.toNat_ofNat']; omega
theorem decDigits_ne (u : Nat) : decDigits u ≠ [] := by
 rw [decDigits_rec]; split <;> simp
theorem parseUintM_append (M : Nat) : ∀ (a b : List UInt8) (acc x : Nat), parseUintM M acc a = .ok x -> parseUintM M acc (a ++ b) = parseUintM M x b
 | [], b, acc, x, h => by cases h; rfl
 | c :: a, b, acc, x, h => by
  rw [parseUintM] at h
  rw [List.cons_append, parseUintM]
  split at h
  ·rename_i hc
   rw [if_pos hc]
   split at h
   ·cases h
   ·rename_i h1
    rw [if_neg h1]
    split at h
    ·cases h
    ·rename_i h2
     rw [if_neg h2]
     exact parseUintM_append M a b _ x h
  ·cases h
theorem g8 {M : Nat} (hM : M < 18446744073709551616) (u : Nat) : u <= M -> parseUintM M 0 (decDigits u) = .ok u := by
 induction u using Nat.strongRecOn with
 | _ u ih =>
  intro hu
  rw [decDigits_rec]
  split
  ·rename_i h
   have e : (UInt8.ofNat (48 + u)).toNat = 48 + u := by rw [UInt8.toNat_ofNat']; omega
   rw [parseUintM, e, if_pos O3, if_neg O3, if_neg O3, parseUintM]
   congr 1; omega
  ·rename_i h
   rw [parseUintM_append M _ _ 0 (u / 10) (ih (u / 10) O3 O3)]
   have e : (UInt8.ofNat (48 + u % 10)).toNat = 48 + u % 10 := by rw [UInt8.toNat_ofNat']; omega
   rw [parseUintM, e, if_pos O3, if_neg O3, if_neg O3, parseUintM]
   congr 1; omega
theorem gi {n : Int} (h : I64 n) : parseIntB 64 (itoa n) = .ok n := by
 obtain ⟨h1, h2⟩ := h
 unfold itoa
 split
 ·rename_i hn
  have hp := g8 (M := 2 ^ 64 - 1) O4 n.natAbs O3
  have e : parseUintB 64 (if (45 : UInt8).toNat = 43 ∨ (45 : UInt8).toNat = 45 then decDigits n.natAbs else 45 :: decDigits n.natAbs) = .ok n.natAbs := by
   rw [if_pos (.inr O4), parseUintB, if_neg (decDigits_ne _), hp]
  unfold parseIntB
  dsimp only
  rw [e]
  dsimp only
  rw [if_neg (by rintro ⟨h, _⟩; exact h O4), if_neg (by rintro ⟨_, h⟩; omega), if_pos O4]
  congr 1; omega
 ·rename_i hn
  have hp := g8 (M := 2 ^ 64 - 1) O4 n.toNat O3
  have hm := decDigits_mem n.toNat
  cases hd : decDigits n.toNat with
  | nil => exact absurd hd (decDigits_ne _)
  | cons c r =>
   rw [hd] at hp hm
   have hc := hm c (Uk ..)
   have e : parseUintB 64 (if c.toNat = 43 ∨ c.toNat = 45 then r else c :: r) = .ok n.toNat := by
    rw [if_neg O3, parseUintB, if_neg O8, hp]
   unfold parseIntB
   dsimp only
   rw [e]
   dsimp only
   rw [if_neg O3, if_neg O3, if_neg O3]
   congr 1; omega
def hexDig (d : Nat) : UInt8 := if d < 10 then UInt8.ofNat (48 + d) else UInt8.ofNat (87 + d)
def hexS (u : Nat) : List UInt8 := if _h : u < 16 then [hexDig u] else hexS (u / 16) ++ [hexDig (u % 16)]
termination_by u
theorem hexS_rec (u : Nat) : hexS u = if u < 16 then [hexDig u] else hexS (u / 16) ++ [hexDig (u % 16)] := by
 rw [hexS]; split <;> rfl
theorem hexS_ne (u : Nat) : hexS u ≠ [] := by
 rw [hexS_rec]; split <;> simp
theorem hexDig_nat {d : Nat} (h : d < 16) : (hexDig d).toNat = if d < 10 then 48 + d else 87 + d := by
 unfold hexDig; split <;> (rw [UInt8.toNat_ofNat']; omega)
theorem hexS_mem (u : Nat) : ∀ c ∈ hexS u, ∃ d, d < 16 ∧ c = hexDig d := by
 induction u using Nat.strongRecOn with
 | _ u ih =>
  intro c hc
  rw [hexS_rec] at hc
  split at hc
  ·rename_i h; exact ⟨u, h, Us.1 hc⟩
  ·rcases List.mem_append.1 hc with hc | hc
   ·exact ih (u / 16) O3 c hc
   ·exact ⟨u % 16, Vk _ O4, Us.1 hc⟩
def hexV (c : UInt8) : Nat := if c.toNat < 58 then c.toNat - 48 else c.toNat - 87
theorem hexV_dig {d : Nat} (h : d < 16) : hexV (hexDig d) = d := by
 unfold hexV; rw [hexDig_nat h]; split <;> split <;> omega
def hexN (n : Nat) (l : List UInt8) : Nat := l.foldl (fun n c => n * 16 + hexV c) n
theorem hexN_append (n : Nat) (a b : List UInt8) : hexN n (a ++ b) = hexN (hexN n a) b := List.foldl_append
theorem hexN_S (u : Nat) : hexN 0 (hexS u) = u := by
 induction u using Nat.strongRecOn with
 | _ u ih =>
  rw [hexS_rec]
  split
  ·rename_i h
   show 0 * 16 + hexV (hexDig u) = u
   rw [hexV_dig h]; omega
  ·rw [hexN_append, ih (u / 16) O3]
   show u / 16 * 16 + hexV (hexDig (u % 16)) = u
   rw [hexV_dig (Vk _ O4)]; omega
theorem hexN_le : ∀ (l : List UInt8) (n : Nat), n <= hexN n l
 | [], n => Ui _
 | c :: l, n => by
  show n <= hexN (n * 16 + hexV c) l
  have := hexN_le l (n * 16 + hexV c)
  omega
theorem hexS_len (u k : Nat) (hk : 1 <= k) (h : u < 16 ^ k) : (hexS u).length <= k := by
 induction k generalizing u with
 | zero => omega
 | succ k ih =>
  rw [hexS_rec]
  split
  ·simp
  ·rename_i h16
   rw [Ua]
   have hk1 : 1 <= k := by
    rcases Uz k with rfl | h0
    ·rw [Vo, Nat.pow_one] at h; omega
    ·exact h0
   have := ih (u / 16) hk1 (by rw [Nat.pow_succ] at h; omega)
   simp only [Ul]; omega
def joinW : List (List UInt8) -> List UInt8
 | [] => []
 | [w] => w
 | w :: r => w ++ 32 :: joinW r
theorem joinW_cons (w : List UInt8) {r : List (List UInt8)} (h : r ≠ []) : joinW (w :: r) = w ++ 32 :: joinW r := by
 cases r with
 | nil => exact absurd rfl h
 | cons a b => rfl
theorem vl : ∀ (w t : List UInt8), 32 ∉ w -> index (w ++ 32 :: t) [32] = (w.length : Int)
 | [], t, _ => rfl
 | c :: w, t, h => by
  have hc : c ≠ 32 := fun e => h (by rw [e]; exact Uk ..)
  have ih := vl w t fun hm => h (Vm _ hm)
  rw [List.cons_append, index, ih, if_neg (by simp [hc.symm]), if_neg (by first | (simp; done) | (simp; omega))]
  simp
theorem splitK_words : ∀ (ws : List (List UInt8)) (w : List UInt8), (∀ x ∈ w :: ws, 32 ∉ x) -> splitK [32] 0 ws.length (joinW (w :: ws)) = w :: ws
 | [], w, _ => rfl
 | x :: ws, w, h => by
  have hw := h w (Uk ..)
  have hi := vl w (joinW (x :: ws)) hw
  rw [joinW_cons w O8, Ur, splitK, hi, if_neg (by first | (simp; done) | (simp; omega))]
  have e1 : ((w.length : Int)).toNat + 0 = w.length := by omega
  have e2 : ((w.length : Int)).toNat + ([32] : List UInt8).length = w.length + 1 := by simp
  rw [e1, e2, List.take_left, <- List.drop_drop, List.drop_left]
  show w :: splitK [32] 0 ws.length (joinW (x :: ws)) = _
  rw [splitK_words ws x fun y hy => h y (Vm _ hy)]
theorem vz : ∀ (ws : List (List UInt8)) (w : List UInt8), (∀ x ∈ w :: ws, 32 ∉ x) -> (joinW (w :: ws)).count 32 = ws.length
 | [], w, h => List.count_eq_zero.2 (h w (Uk ..))
 | x :: ws, w, h => by
  have hw := List.count_eq_zero.2 (h w (Uk ..))
  rw [joinW_cons w O8, List.count_append, hw, List.count_cons_self, vz ws x fun y hy => h y (Vm _ hy)]
  simp
theorem gz {ws : List (List UInt8)} (hne : ws ≠ []) (h : ∀ x ∈ ws, 32 ∉ x) : split (joinW ws) [32] = ws := by
 cases ws with
 | nil => exact absurd rfl hne
 | cons w ws =>
  unfold split
  rw [count_one, vz ws w h, splitK_words ws w h]
theorem yo (n : Int) : 32 ∉ itoa n := by
 unfold itoa
 split
 ·intro h
  rcases Vh.1 h with h | h
  ·cases h
  ·have := decDigits_mem _ _ h; revert this; decide
 ·intro h
  have := decDigits_mem _ _ h; revert this; decide
theorem hexS_word (u : Nat) : 32 ∉ hexS u := by
 intro h
 obtain ⟨d, hd, he⟩ := hexS_mem u _ h
 have := hexDig_nat hd
 rw [<- he] at this
 revert this
 show (32 = _) -> False
 split <;> omega
end
section
structure Opr where
 kind : Int
 series : Int
 iter : Int
 T : Int
 V : Nat
 F : Int
 To : Int
 N : Int
def Opr.Wf (o : Opr) : Prop := I64 o.kind ∧ I64 o.series ∧ I64 o.iter ∧ I64 o.T ∧ o.V < 18446744073709551616 ∧ I64 o.F ∧ I64 o.To ∧ I64 o.N
def Opr.zero : Opr := ⟨0, 0, 0, 0, 0, 0, 0, 0⟩
def Opr.C (o : Opr) : List Value := [.iz o.kind, .iz o.series, .iz o.iter, .iz o.T, .int .u64 o.V, .iz o.F, .iz o.To, .iz o.N]
structure Res where
 err : Int
 iter : Int
 list : List Smp
def Res.C (a : Option Addr) (c : Nat) (r : Res) : List Value := [.iz r.err, .iz r.iter, .slice a r.list.length c]
end
section
open Go.Lib
def wAppend : List UInt8 := [97, 112, 112, 101, 110, 100]
def wRead : List UInt8 := [114, 101, 97, 100]
def wSeal : List UInt8 := [115, 101, 97, 108]
def wDelete : List UInt8 := [100, 101, 108, 101, 116, 101]
def wOpen : List UInt8 := [111, 112, 101, 110]
def wNext : List UInt8 := [110, 101, 120, 116]
def wClose : List UInt8 := [99, 108, 111, 115, 101]
def opW (o : Opr) : List (List UInt8) :=
 if o.kind = 1 then [wAppend, itoa o.series, itoa o.T, hexS o.V] else if o.kind = 2 then [wRead, itoa o.series, itoa o.F, itoa o.To] else if o.kind = 3 then [wSeal, itoa o.series]
 else if o.kind = 4 then [wDelete, itoa o.series] else if o.kind = 5 then [wOpen, itoa o.series, itoa o.F, itoa o.To] else if o.kind = 6 then [wNext, itoa o.iter, itoa o.N] else if o.kind = 7 then [wClose, itoa o.iter] else []
def opS (o : Opr) : List UInt8 := joinW (opW o)
def Opr.only (o : Opr) : Opr :=
 if o.kind = 1 then ⟨1, o.series, 0, o.T, o.V, 0, 0, 0⟩ else if o.kind = 2 then ⟨2, o.series, 0, 0, 0, o.F, o.To, 0⟩ else if o.kind = 3 then ⟨3, o.series, 0, 0, 0, 0, 0, 0⟩
 else if o.kind = 4 then ⟨4, o.series, 0, 0, 0, 0, 0, 0⟩ else if o.kind = 5 then ⟨5, o.series, 0, 0, 0, o.F, o.To, 0⟩ else if o.kind = 6 then ⟨6, 0, o.iter, 0, 0, 0, 0, o.N⟩ else if o.kind = 7 then ⟨7, 0, o.iter, 0, 0, 0, 0, 0⟩ else ⟨o.kind, 0, 0, 0, 0, 0, 0, 0⟩
theorem opW_words (o : Opr) : ∀ x ∈ opW o, 32 ∉ x := by
 unfold opW
 repeat' split
 all_goals
  intro x hx
  repeat
   rcases Vh.1 hx with rfl | hx
   ·first | exact yo _ | exact hexS_word _ | decide
  cases hx
theorem opW_kind {o : Opr} : opW o ≠ [] ↔ 1 <= o.kind ∧ o.kind <= 7 := by
 unfold opW
 repeat' split
 all_goals simp
 all_goals omega
theorem joinW_ne {w : List UInt8} {r : List (List UInt8)} (h : w ≠ []) : joinW (w :: r) ≠ [] := by
 cases r with
 | nil => exact h
 | cons a b => rw [joinW_cons _ O8]; intro hh; exact h (List.append_eq_nil_iff.1 hh).1
theorem opS_ne {o : Opr} : opS o ≠ [] ↔ 1 <= o.kind ∧ o.kind <= 7 := by
 rw [<- opW_kind]
 unfold opS
 constructor
 ·intro h hh; rw [hh] at h; exact h rfl
 ·intro h
  have : ∃ w r, opW o = w :: r ∧ w ≠ [] := by
   unfold opW at h ⊢
   repeat' split at h
   all_goals first | exact absurd rfl h | skip
   all_goals
    simp only [*]
    refine ⟨_, _, rfl, O_c⟩
  obtain ⟨w, r, e, hw⟩ := this
  rw [e]; exact joinW_ne hw
def wErr : List UInt8 := [101, 114, 114, 111, 114]
def wOk : List UInt8 := [111, 107]
def smpW (s : Smp) : List UInt8 := itoa s.T ++ 58 :: hexS s.V.toNat
def resW (r : Res) : List (List UInt8) := if r.err ≠ 0 then [wErr, itoa r.err] else wOk :: itoa r.iter :: r.list.map smpW
def resS (r : Res) : List UInt8 := joinW (resW r)
end
section
open Go.Lib
def digS (b u : Nat) : List UInt8 := if b = 10 then decDigits u else hexS u
theorem digS_rec {b : Nat} (hb : b = 10 ∨ b = 16) (u : Nat) : digS b u = if u < b then [hexDig u] else digS b (u / b) ++ [hexDig (u % b)] := by
 have hd : ∀ d, d < 10 -> UInt8.ofNat (48 + d) = hexDig d := fun d h => by unfold hexDig; rw [if_pos h]
 rcases hb with rfl | rfl
 ·show decDigits u = if u < 10 then _ else decDigits (u / 10) ++ _
  rw [decDigits_rec]
  split
  ·rename_i h; rw [hd u h]
  ·rw [hd _ (Vk _ O4)]
 ·show hexS u = if u < 16 then _ else hexS (u / 16) ++ _
  exact hexS_rec u
theorem digS_len {b : Nat} (hb : b = 10 ∨ b = 16) {u : Nat} (hu : u < 18446744073709551616) : (digS b u).length <= 20 := by
 rcases hb with rfl | rfl
 ·show (decDigits u).length <= 20
  rw [decDigits_length]; exact nDigits_le20 u hu
 ·show (hexS u).length <= 20
  have := hexS_len u 16 O4 (by exact hu)
  omega
def digC : List UInt8 := [48, 49, 50, 51, 52, 53, 54, 55, 56, 57, 97, 98, 99, 100, 101, 102]
theorem digC_get : ∀ d, d < 16 -> digC[d]? = some (hexDig d) := by decide
end
end Go.Hw
namespace Go.Proofs.YtdeaeboijmeefaaGreatDoor
open Go.Hw _root_.Go.Proofs.Tryz
section
open Go.Hw Go.Lib
section
variable {w0 w : World} {l : List HProp}
theorem ref27_digits {b u : Nat} (hb : b = 10 ∨ b = 16) (hu : u < 18446744073709551616) (h : St w0 l w) : Ret prog 91 [.int .u64 u, .int .u64 b] w fun v w' => v = .string (strB (digS b u)) ∧ St w0 l w' := by
 have hb16 : b <= 16 := by rcases hb with rfl | rfl <;> decide
 have hb10 : 10 <= b := by rcases hb with rfl | rfl <;> decide
 have hlen := digS_len hb hu
 refine en func91 results91 ntmps91 ?_
 refine Y0 ?_
 refine r_v (qg rfl) rfl ?_
 refine Y9 ?_
 refine r_v (qg rfl) rfl ?_
 refine Y2 ?_; refine Y1x ?_
 refine gu (Γ := Nat × List UInt8) (fun k => [(0, .int .u64 k.1), (1, .int .u64 b), (5, .string (strB k.2))])
  (fun k w => k.1 < 18446744073709551616 ∧ ((k.1 = 0 ∧ k.2 ≠ [] ∧ k.2 = digS b u) ∨ ((0 < k.1 ∨ k.2 = []) ∧ digS b u = digS b k.1 ++ k.2)) ∧ St w0 l w) (fun k => 2 * k.1 + if k.2 = [] then 1 else 0) (u, []) zz3 ⟨hu, .inr ⟨.inr rfl, by simp⟩, h⟩ ?_
 clear h
 rintro ⟨n, s⟩ w e ⟨hn, inv, h⟩
 dsimp only at hn inv h ⊢
 have hsl : s.length <= 20 := by
  rcases inv with ⟨_, _, h3⟩ | ⟨_, h3⟩
  ·rw [h3]; exact hlen
  ·rw [h3, Ua] at hlen; omega
 refine jp (Γ := Unit) (fun _ => [(0, .int .u64 n), (1, .int .u64 b), (5, .string (strB s))]) (fun _ w => (0 < n ∨ s = []) ∧ digS b u = digS b n ++ s ∧ St w0 l w) ?_ ?_
 ·refine Y5 ?_; refine Y1q ?_
  by_cases h0 : 0 < n
  ·refine qw (.bool true) O6 ?_
   refine Y1l ?_; refine Yb ?_
   refine qj (qr rfl (q6 ⟨(), zz3, .inl h0, ?_, h⟩))
   rcases inv with ⟨h1, _⟩ | ⟨_, h3⟩
   ·omega
   ·exact h3
  ·refine qw (.bool false) O5 ?_
   refine Ym ?_; refine r_v (qf rfl) rfl ?_; refine Y4 ?_; refine r_v (q7 rfl rfl) rfl ?_
   refine qw (.bool (decide (s = []))) (by congr 1; exact strB_same s []) ?_
   refine Yn ?_
   rcases inv with ⟨_, h2, h3⟩ | ⟨h2, h3⟩
   ·refine qw (.bool false) (by congr 1; rw [decide_eq_false_iff_not]; exact h2) ?_
    refine qj (qn rfl (gg ?_))
    refine Y0 ?_
    refine r_v (qf rfl) rfl (r_v (qg rfl) rfl ?_)
    exact qj (qy (bq1 ⟨congrArg (fun x => Value.string (strB x)) h3, h⟩))
   ·have hs : s = [] := by rcases h2 with h2 | h2; exact absurd h2 h0; exact h2
    refine qw (.bool true) (by congr 1; rw [decide_eq_true_eq]; exact hs) ?_
    exact qj (qr rfl (q6 ⟨(), zz3, .inr hs, h3, h⟩))
 clear h inv
 rintro ⟨⟩ w e ⟨h1, h2, h⟩
 have hg := digC_get (n % b) (Nat.lt_of_lt_of_le (Vk _ O3) hb16)
 refine Yl ?_; refine Y24 ?_
 refine r_v (qa (v' := .int .u64 ((n % b : Nat) : Int)) (zw rfl rfl O3) (congrArg (Value.int .u64) (ze n b))) rfl ?_
 refine r_v (ko (l := digC) (i := n % b) rfl rfl hg) rfl ?_
 refine r_c rfl (jy (r := bytesV [hexDig (n % b)]) h rfl rfl rfl fun b2 w h => ?_)
 refine r_v (u3 (bs := [hexDig (n % b)]) rfl ⟨rfl, .inr ⟨b2, 0, rfl, qp (h.b 0 rfl) rfl⟩⟩) rfl ?_
 replace h := h.drop
 refine r_v (qf rfl) rfl ?_
 refine r_v (qa (v' := .string (strB (hexDig (n % b) :: s))) (zl rfl rfl (by rw [strB_size, strB_size]; simp; omega)) (by rw [strB_cat]; rfl)) rfl ?_
 refine r_v (qg rfl) rfl ?_
 refine Y2 ?_; refine Yj ?_; refine Y1 ?_
 refine r_v (qa (v' := .int .u64 ((n / b : Nat) : Int)) (q_quo rfl rfl O3) (by rw [za, jz, Ud (Nat.lt_of_le_of_lt (Nat.div_le_self n b) hn)])) rfl ?_
 refine Y7 ?_
 have hle : n / b <= n := Nat.div_le_self _ _
 refine qj ⟨(n / b, hexDig (n % b) :: s), zz3, ⟨O_d, ?_, h⟩, ?_⟩
 ·dsimp only
  rw [digS_rec hb n] at h2
  by_cases hlt : n < b
  ·rw [if_pos hlt] at h2
   rw [Nat.div_eq_of_lt hlt, Ud hlt]
   exact .inl ⟨rfl, by simp, h2.symm⟩
  ·rw [if_neg hlt] at h2
   refine .inr ⟨.inl (Nat.div_pos O3 O3), ?_⟩
   rw [h2, Ug]; rfl
 ·dsimp only
  rw [if_neg O8]
  rcases Uz n with h0 | h0
  ·subst h0
   rw [Nat.zero_div]
   rcases h1 with h1 | h1
   ·omega
   ·rw [if_pos h1]; omega
  ·have : n / b < n := Nat.div_lt_self h0 O3
   split <;> omega
theorem ref27_Hex {u : Nat} (hu : u < 18446744073709551616) (h : St w0 l w) : Ret prog 48 [.int .u64 u] w fun v w' => v = .string (strB (hexS u)) ∧ St w0 l w' := by
 refine en func48 results48 ntmps48 ?_
 refine Y0 ?_
 refine r_v (qg rfl) rfl ?_
 refine Y2a ?_
 refine r_c rfl (qq rfl (ref27_digits (b := 16) (.inr rfl) hu h) ?_)
 rintro _ w ⟨rfl, h⟩
 refine r_v (qg rfl) rfl ?_
 exact qj (qy (bq1 ⟨rfl, h⟩))
theorem ref27_Num {n : Int} (hn : I64 n) (h : St w0 l w) : Ret prog 47 [.iz n] w fun v w' => v = .string (strB (itoa n)) ∧ St w0 l w' := by
 obtain ⟨h1, h2⟩ := hn
 refine en func47 results47 ntmps47 ?_
 refine Y0 ?_
 refine r_v (qg rfl) rfl ?_
 refine Y2 ?_; refine Ys ?_; refine Y1o ?_
 by_cases h0 : n < 0
 ·have e : itoa n = 45 :: decDigits n.natAbs := by unfold itoa; rw [if_pos h0]
  have hlen := digS_len (b := 10) (.inl rfl) (u := n.natAbs) O3
  refine qw (.bool true) (by congr 1; rw [decide_eq_true_eq]; exact h0) ?_
  refine Yk ?_; refine Y5 ?_; refine Yv ?_
  refine qw (.iz (n + 1)) (by rw [wrap64 O3 O3]) ?_
  refine r_v (q_neg rfl) rfl ?_
  refine qw (.iz (-(n + 1))) (by rw [wrap64 O3 O3]; congr 1; omega) ?_
  refine Yw ?_
  refine qw (.int .u64 ((n.natAbs - 1 : Nat) : Int)) (by rw [show -(n + 1) = ((n.natAbs - 1 : Nat) : Int) by omega, jz, Ud O3]) ?_
  refine Yv ?_
  refine qw (.int .u64 ((n.natAbs : Nat) : Int)) (by rw [show ((n.natAbs - 1 : Nat) : Int) + 1 = ((n.natAbs : Nat) : Int) by omega, jz, Ud O3]) ?_
  refine r_c rfl (qq rfl (ref27_digits (b := 10) (u := n.natAbs) (.inl rfl) O3 h) ?_)
  rintro _ w ⟨rfl, h⟩
  refine r_v (qa (v' := .string (strB (itoa n))) (zl (a := strB [45]) (b := strB (digS 10 n.natAbs)) rfl rfl (by rw [strB_size, strB_size]; simp; omega)) (by rw [strB_cat, e]; rfl)) rfl ?_
  refine r_v (qg rfl) rfl ?_
  exact qj (qy (bq1 ⟨rfl, h⟩))
 ·have e : itoa n = decDigits n.toNat := by unfold itoa; rw [if_neg h0]
  refine qw (.bool false) (by congr 1; rw [decide_eq_false_iff_not]; exact h0) ?_
  refine Yh ?_; refine Y2p ?_
  refine qw (.int .u64 ((n.toNat : Nat) : Int)) (by rw [show n = ((n.toNat : Nat) : Int) by omega, jz, Ud O3]; simp) ?_
  refine r_c rfl (qq rfl (ref27_digits (b := 10) (u := n.toNat) (.inl rfl) O3 h) ?_)
  rintro _ w ⟨rfl, h⟩
  refine r_v (qg rfl) rfl ?_
  exact qj (qy (bq1 ⟨by rw [e]; rfl, h⟩))
end
end
end Go.Proofs.YtdeaeboijmeefaaGreatDoor
namespace Go.Hw
section
theorem land15 (n : Nat) : (n &&& 15) = n % 16 := Nat.and_two_pow_sub_one_eq_mod n 4
def digC36 : List UInt8 := [48, 49, 50, 51, 52, 53, 54, 55, 56, 57, 97, 98, 99, 100, 101, 102, 103, 104, 105, 106, 107, 108, 109, 110, 111, 112, 113, 114, 115, 116, 117, 118, 119, 120, 121, 122]
theorem digC36_get : ∀ d, d < 16 -> digC36[d]? = some (hexDig d) := by decide
theorem yk {α : Type} (xs ys : List α) (a b : α) : (xs ++ a :: ys).set xs.length b = xs ++ b :: ys := by
 simp [List.set_append]
theorem ki {α : Type} (xs : List α) (h : 0 < xs.length) : ∃ ys y, xs = ys ++ [y] := by
 exact ⟨xs.dropLast, xs.getLast (Vd.1 h), (List.dropLast_concat_getLast _).symm⟩
end
end Go.Hw
namespace Go.Proofs.YtdeaeboijmeefaaGreatDoor
open Go.Hw _root_.Go.Proofs.Tryz
section
open Go.Hw Go.Lib
section
variable {w0 w : World} {l : List HProp}
instance undA65 : Und prog 342 (.array 65 5) := ⟨underlying342⟩
theorem vk (hT : Tz w0) {x : Nat} (hx : x < 18446744073709551616) (h : St w0 l w) : Ret prog 259 [.int .u64 x] w fun v w' => v = .iz (tz x) ∧ St w0 l w' := by
 refine en func259 results259 ntmps259 ?_
 refine Yi ?_; refine ql ?_; refine qn rfl ?_; refine Yg ?_; refine Y5 ?_
 refine r_c rfl (qq rfl (gt hT hx h) ?_)
 rintro _ w ⟨rfl, h⟩
 refine Y7 ?_
 exact qj (qy (bq1 ⟨rfl, h⟩))
theorem g9 (h : St w0 l w) : Ret prog 258 [.iz 16] w fun v w' => v = .bool true ∧ St w0 l w' := by
 refine en func258 results258 ntmps258 ?_
 refine Yz ?_; refine Y24 ?_; refine Y10 ?_; refine r_v (jh rfl rfl) rfl ?_; refine Yc ?_; refine Yt ?_
 exact qj (qy (bq1 ⟨rfl, h⟩))
theorem vx (hT : Tz w0) {u : Nat} (hu : u < 18446744073709551616) (h : St w0 l w) : Ret prog 204 [.slice none 0 0, .int .u64 u, .iz 16, .bool false, .bool false] w
  fun v w' => v = .tuple [.slice none 0 0, .string (strB (hexS u))].toArray ∧ St w0 l w' := by
 have hlen := hexS_len u 16 O4 (by exact hu)
 refine en func204 results204 ntmps204 ?_
 refine Yq ?_; refine r_v (qg rfl) rfl ?_
 refine Y2 ?_; refine Ys ?_; refine Y1o ?_; refine Y1d ?_; refine Yc ?_; refine Yn ?_; refine Y1d ?_; refine Y1q ?_; refine Y2j ?_; refine Y0 ?_
 refine r_c rfl (qt h fun b w h => ?_)
 refine Y9 ?_; refine Y3 ?_; refine Y33 ?_; refine Yh ?_; refine Ys ?_
 refine r_c rfl (qq rfl (g9 h) ?_)
 clear h
 rintro _ w ⟨rfl, h⟩
 refine Yk ?_; refine Y2p ?_
 refine qw (.int .u64 ((16 : Nat) : Int)) rfl ?_
 refine r_c rfl (qq rfl (vk hT (x := 16) O4 h) ?_)
 clear h
 rintro _ w ⟨rfl, h⟩
 refine r_v (qa (v' := .int .u64 4) (kf rfl) rfl) rfl ?_
 refine Y3 ?_; refine Y2p ?_; refine Y3 ?_; refine Y2p ?_; refine Y10 ?_; refine Y3 ?_; refine Y1x ?_
 refine gu (Γ := (Nat × List Value) × List UInt8) (fun k => [(0, .slice none 0 0), (1, .int .u64 k.1.1), (3, .bool false), (4, .bool false), (10, .slice none 0 0), (11, .string (strB [])), (12, .pz b), (13, .iz k.1.2.length), (14, .int .u64 4), (15, .int .u64 16), (16, .int .u64 15)])
  (fun k w => k.1.1 < 18446744073709551616 ∧ k.1.2.length + k.2.length = 65 ∧ hexS u = hexS k.1.1 ++ k.2 ∧ St w0 (pt b (.cells (k.1.2 ++ bytesV k.2).toArray 342 (0, 0)) :: l) w) (fun k => k.1.1) ((u, List.replicate 65 (.int .u8 0)), []) zz11 ⟨hu, rfl, by simp, h⟩ ?_
 clear h
 rintro ⟨⟨n, xs⟩, s⟩ w e ⟨hn, hl, hh, h⟩
 dsimp only at hn hl hh h ⊢
 have hs1 : 1 <= (hexS n).length := Vd.2 (hexS_ne n)
 have hs2 : s.length <= 15 := by rw [hh, Ua] at hlen; omega
 obtain ⟨ys, y, rfl⟩ := ki xs O3
 rw [Ua, Ul] at hl
 refine Ys ?_; refine Y1 ?_; refine Y1i ?_
 by_cases h0 : 16 <= n
 ·refine qw (.bool true) O6 ?_
  refine Yk ?_; refine Yg ?_; refine Yl ?_; refine Y5 ?_; refine Y10 ?_
  refine qw (.iz ys.length) (by rw [Ua, wrap64 O11 O11]; congr 1; simp only [Ul]; omega) ?_
  refine Y3 ?_; refine Y5 ?_; refine Y1a ?_
  refine r_v (qa (v' := .int .u64 ((n % 16 : Nat) : Int)) (jh rfl rfl) (by rw [show bitOp .and .u64 (n : Int) 15 = ((n &&& 15 : Nat) : Int) from (yg hn O4).1, land15])) rfl ?_
  refine r_v (ko (l := digC36) (i := n % 16) rfl rfl (digC36_get _ (Vk _ O4))) rfl ?_
  refine r_v (u4 (j := ys.length) (o' := ys.length) rfl rfl rfl O3 O8) rfl ?_
  refine r_c rfl (qd (v := .int .u8 ((hexDig (n % 16)).toNat : Int)) 0 h rfl rfl rfl (by simp [Uy]) rfl rfl fun w h => ?_)
  refine Y2 ?_; refine Yj ?_; refine Y1 ?_
  refine r_v (qa (v' := .int .u64 ((n / 16 : Nat) : Int)) (ji rfl rfl O3) (congrArg (Value.int .u64) (kz n 4 64 O4))) rfl ?_
  refine Y7 ?_
  refine qj ⟨((n / 16, ys), hexDig (n % 16) :: s), zz11, ⟨O_d, by simp; omega, ?_, ?_⟩, O_d⟩
  ·dsimp only
   rw [hh, hexS_rec n, if_neg O3, Ug]; rfl
  ·dsimp only
   rw [Ug, List.singleton_append, yk] at h
   exact h
 ·refine qw (.bool false) O5 ?_
  refine qj (qn rfl (gg ?_))
  refine Y5 ?_; refine Y10 ?_
  refine qw (.iz ys.length) (by rw [Ua, wrap64 O11 O11]; congr 1; simp only [Ul]; omega) ?_
  refine Y3 ?_; refine Yj ?_; refine Y1 ?_
  refine r_v (ko (l := digC36) (i := n) rfl rfl (digC36_get _ O3)) rfl ?_
  refine r_v (u4 (j := ys.length) (o' := ys.length) rfl rfl rfl O3 O8) rfl ?_
  refine r_c rfl (qd (v := .int .u8 ((hexDig n).toNat : Int)) 0 h rfl rfl rfl (by simp [Uy]) rfl rfl fun w h => ?_)
  rw [Ug, List.singleton_append, yk] at h
  have e1 : hexS u = hexDig n :: s := by rw [hh, hexS_rec n, if_pos O3]; rfl
  refine Y27 ?_; refine Y13 ?_; refine Yh ?_; refine Y33 ?_; refine Yh ?_; refine Y5 ?_
  refine r_v (xi (i := ys.length) rfl rfl O3) rfl ?_
  refine r_v (u3 (bs := hexDig n :: s) rfl ?_) rfl ?_
  ·refine ⟨by rw [bytesV_len, Ur]; omega, .inr ⟨b, ys.length * 1, rfl, qp (h.b 0 rfl) ?_⟩⟩
   have e2 : Value.int .u8 ((hexDig n).toNat : Int) :: bytesV s = bytesV (hexDig n :: s) := rfl
   rw [e2, Nat.mul_one, List.drop_left, List.take_length]
  refine r_v (qg rfl) rfl ?_
  refine qj (qy (bq2 ⟨?_, h.drop⟩))
  rw [e1]; rfl
theorem vw (hT : Tz w0) {u : Nat} (hu : u < 18446744073709551616) (h : St w0 l w) : Ret prog 151 [.int .u64 u, .iz 16] w fun v w' => v = .string (strB (hexS u)) ∧ St w0 l w' := by
 refine en func151 results151 ntmps151 ?_
 refine Y0 ?_
 refine r_v (qg rfl) rfl ?_
 refine Y2 ?_; refine Ys ?_; refine Yc ?_; refine Yh ?_; refine Y24 ?_
 refine r_c rfl (qq rfl (vx hT hu h) ?_)
 rintro _ w ⟨rfl, h⟩
 refine Y18 ?_; refine Y17 ?_; refine r_v (qg rfl) rfl ?_
 refine Y9 ?_
 refine r_v (qf rfl) rfl (r_v (qg rfl) rfl ?_)
 exact qj (qy (bq1 ⟨rfl, h⟩))
theorem gx (hT : Tz w0) {u : Nat} (hu : u < 18446744073709551616) (h : St w0 l w) : Ret prog 90 [.int .u64 u, .iz 16] w fun v w' => v = .string (strB (hexS u)) ∧ St w0 l w' := by
 refine en func90 results90 ntmps90 ?_
 refine Y0 ?_
 refine r_v (qg rfl) rfl ?_
 refine Y2 ?_; refine Y24 ?_
 refine r_c rfl (qq rfl (vw hT hu h) ?_)
 rintro _ w ⟨rfl, h⟩
 refine r_v (qg rfl) rfl ?_
 exact qj (qy (bq1 ⟨rfl, h⟩))
end
end
end Go.Proofs.YtdeaeboijmeefaaGreatDoor
namespace Go.Proofs
open Go.Shelf
def Tryz.laysM171_ren : Go.Shelf.Ren := ⟨fun | 171 => 87 | 243 => 148 | 246 => 150 | 283 => 201 | 284 => 202 | 285 => 203 | 286 => 204 | 129 => 256 | 317 => 255 | 318 => 257 | 319 => 258 | 320 => 259 | 337 => 292 | 338 => 293 | n => n, fun | 3 => 3 | 9 => 9 | 2 => 2 | 4 => 4 | 171 => 296 | 0 => 0 | 53 => 22 | 37 => 29 | 5 => 5 | 173 => 299 | 212 => 341 | 51 => 128 | 20 => 20 | 213 => 342 | 46 => 93 | 232 => 399 | 233 => 400 | n => n, fun | 17 => 0 | 18 => 6 | 19 => 7 | n => n⟩
theorem Tryz.laysM171 : Go.Proofs.LaysM.n171 prog Tryz.laysM171_ren := {
 mixed := by kernel_rfl
 f129 := func256.trans (congrArg some O1)
 f171 := func87.trans (congrArg some O1)
 f243 := func148.trans (congrArg some O1)
 f246 := func150.trans (congrArg some O1)
 f283 := func201.trans (congrArg some O1)
 f284 := func202.trans (congrArg some O1)
 f285 := func203.trans (congrArg some O1)
 f286 := func204.trans (congrArg some O1)
 f317 := func255.trans (congrArg some O1)
 f318 := func257.trans (congrArg some O1)
 f319 := func258.trans (congrArg some O1)
 f320 := func259.trans (congrArg some O1)
 f337 := func292.trans (congrArg some O1)
 f338 := func293.trans (congrArg some O1)
 t0 := underlying0
 a0 := Tryz.isAgg0
 z0 := Tryz.sizeOf0
 v0 := Tryz.zeroValue0
 t2 := underlying2
 a2 := Tryz.isAgg2
 z2 := Tryz.sizeOf2
 v2 := Tryz.zeroValue2
 t3 := underlying3
 a3 := Tryz.isAgg3
 z3 := Tryz.sizeOf3
 v3 := Tryz.zeroValue3
 t4 := underlying4
 a4 := Tryz.isAgg4
 z4 := Tryz.sizeOf4
 v4 := Tryz.zeroValue4
 t5 := underlying5
 a5 := Tryz.isAgg5
 z5 := Tryz.sizeOf5
 v5 := Tryz.zeroValue5
 t9 := underlying9
 a9 := Tryz.isAgg9
 z9 := Tryz.sizeOf9
 v9 := Tryz.zeroValue9
 t20 := underlying20
 a20 := Tryz.isAgg20
 z20 := Tryz.sizeOf20
 v20 := Tryz.zeroValue20
 t37 := underlying29
 a37 := Tryz.isAgg29
 z37 := Tryz.sizeOf29
 v37 := Tryz.zeroValue29
 t46 := underlying93
 a46 := Tryz.isAgg93
 z46 := Tryz.sizeOf93
 v46 := Tryz.zeroValue93
 t51 := underlying128
 a51 := Tryz.isAgg128
 z51 := Tryz.sizeOf128
 v51 := Tryz.zeroValue128
 t53 := underlying22
 a53 := Tryz.isAgg22
 z53 := Tryz.sizeOf22
 v53 := Tryz.zeroValue22
 t171 := underlying296
 a171 := Tryz.isAgg296
 z171 := Tryz.sizeOf296
 v171 := Tryz.zeroValue296
 t173 := underlying299
 a173 := Tryz.isAgg299
 z173 := Tryz.sizeOf299
 v173 := Tryz.zeroValue299
 t212 := underlying341
 a212 := Tryz.isAgg341
 z212 := Tryz.sizeOf341
 v212 := Tryz.zeroValue341
 t213 := underlying342
 a213 := Tryz.isAgg342
 z213 := Tryz.sizeOf342
 t232 := underlying399
 a232 := Tryz.isAgg399
 z232 := Tryz.sizeOf399
 v232 := Tryz.zeroValue399
 t233 := underlying400
 a233 := Tryz.isAgg400
 z233 := Tryz.sizeOf400
 v233 := Tryz.zeroValue400
 g17 := by kernel_rfl
 g18 := by kernel_rfl
 g19 := by kernel_rfl
 i0 := by kernel_rfl
 i2 := by kernel_rfl
 i3 := by kernel_rfl
 i4 := by kernel_rfl
 i5 := by kernel_rfl
 i9 := by kernel_rfl
 i20 := by kernel_rfl
 i37 := by kernel_rfl
 i46 := by kernel_rfl
 i51 := by kernel_rfl
 i53 := by kernel_rfl
 i171 := by kernel_rfl
 i173 := by kernel_rfl
 i212 := by kernel_rfl
 i232 := by kernel_rfl
 i233 := by kernel_rfl
 m17 := by kernel_rfl
 m18 := by kernel_rfl
 m19 := by kernel_rfl }
open Go.RowKit Go.Sort Go.Lib in
theorem Tryz.strconv_Itoa (n : Int) (h0 : -9223372036854775808 <= n) (h1 : n <= 9223372036854775807) (w : World) (htab : Lib.TabIs prog w "internal/strconv.uint64pow10" .u64 Lib.pow10Tab) :
  Calls prog 87 #[.iz n] w fun e w' => e = .returned (.string ⟨(Lib.itoa n).toArray⟩) ∧ ∃ k os, w' = grow (w.drewN k) os := Any.strconv_Itoa Tryz.laysM171 n h0 h1 w htab
def Tryz.laysM173_ren : Go.Shelf.Ren := ⟨fun | 173 => 89 | 246 => 150 | 283 => 201 | 284 => 202 | 285 => 203 | 286 => 204 | 129 => 256 | 317 => 255 | 318 => 257 | 319 => 258 | 320 => 259 | 337 => 292 | 338 => 293 | n => n, fun | 2 => 2 | 3 => 3 | 9 => 9 | 4 => 4 | 171 => 296 | 0 => 0 | 53 => 22 | 37 => 29 | 5 => 5 | 173 => 299 | 212 => 341 | 51 => 128 | 20 => 20 | 213 => 342 | 46 => 93 | 232 => 399 | 233 => 400 | n => n, fun | 17 => 0 | 18 => 6 | 19 => 7 | n => n⟩
theorem Tryz.laysM173 : Go.Proofs.LaysM.n173 prog Tryz.laysM173_ren := {
 mixed := by kernel_rfl
 f129 := func256.trans (congrArg some O1)
 f173 := func89.trans (congrArg some O1)
 f246 := func150.trans (congrArg some O1)
 f283 := func201.trans (congrArg some O1)
 f284 := func202.trans (congrArg some O1)
 f285 := func203.trans (congrArg some O1)
 f286 := func204.trans (congrArg some O1)
 f317 := func255.trans (congrArg some O1)
 f318 := func257.trans (congrArg some O1)
 f319 := func258.trans (congrArg some O1)
 f320 := func259.trans (congrArg some O1)
 f337 := func292.trans (congrArg some O1)
 f338 := func293.trans (congrArg some O1)
 t0 := underlying0
 a0 := Tryz.isAgg0
 z0 := Tryz.sizeOf0
 v0 := Tryz.zeroValue0
 t2 := underlying2
 a2 := Tryz.isAgg2
 z2 := Tryz.sizeOf2
 v2 := Tryz.zeroValue2
 t3 := underlying3
 a3 := Tryz.isAgg3
 z3 := Tryz.sizeOf3
 v3 := Tryz.zeroValue3
 t4 := underlying4
 a4 := Tryz.isAgg4
 z4 := Tryz.sizeOf4
 v4 := Tryz.zeroValue4
 t5 := underlying5
 a5 := Tryz.isAgg5
 z5 := Tryz.sizeOf5
 v5 := Tryz.zeroValue5
 t9 := underlying9
 a9 := Tryz.isAgg9
 z9 := Tryz.sizeOf9
 v9 := Tryz.zeroValue9
 t20 := underlying20
 a20 := Tryz.isAgg20
 z20 := Tryz.sizeOf20
 v20 := Tryz.zeroValue20
 t37 := underlying29
 a37 := Tryz.isAgg29
 z37 := Tryz.sizeOf29
 v37 := Tryz.zeroValue29
 t46 := underlying93
 a46 := Tryz.isAgg93
 z46 := Tryz.sizeOf93
 v46 := Tryz.zeroValue93
 t51 := underlying128
 a51 := Tryz.isAgg128
 z51 := Tryz.sizeOf128
 v51 := Tryz.zeroValue128
 t53 := underlying22
 a53 := Tryz.isAgg22
 z53 := Tryz.sizeOf22
 v53 := Tryz.zeroValue22
 t171 := underlying296
 a171 := Tryz.isAgg296
 z171 := Tryz.sizeOf296
 v171 := Tryz.zeroValue296
 t173 := underlying299
 a173 := Tryz.isAgg299
 z173 := Tryz.sizeOf299
 v173 := Tryz.zeroValue299
 t212 := underlying341
 a212 := Tryz.isAgg341
 z212 := Tryz.sizeOf341
 v212 := Tryz.zeroValue341
 t213 := underlying342
 a213 := Tryz.isAgg342
 z213 := Tryz.sizeOf342
 t232 := underlying399
 a232 := Tryz.isAgg399
 z232 := Tryz.sizeOf399
 v232 := Tryz.zeroValue399
 t233 := underlying400
 a233 := Tryz.isAgg400
 z233 := Tryz.sizeOf400
 v233 := Tryz.zeroValue400
 g17 := by kernel_rfl
 g18 := by kernel_rfl
 g19 := by kernel_rfl
 i0 := by kernel_rfl
 i2 := by kernel_rfl
 i3 := by kernel_rfl
 i4 := by kernel_rfl
 i5 := by kernel_rfl
 i9 := by kernel_rfl
 i20 := by kernel_rfl
 i37 := by kernel_rfl
 i46 := by kernel_rfl
 i51 := by kernel_rfl
 i53 := by kernel_rfl
 i171 := by kernel_rfl
 i173 := by kernel_rfl
 i212 := by kernel_rfl
 i232 := by kernel_rfl
 i233 := by kernel_rfl
 m17 := by kernel_rfl
 m18 := by kernel_rfl
 m19 := by kernel_rfl }
open Go.RowKit Go.Sort Go.Lib in
theorem Tryz.strconv_FormatInt_10 (n : Int) (h0 : -9223372036854775808 <= n) (h1 : n <= 9223372036854775807) (w : World) (htab : Lib.TabIs prog w "internal/strconv.uint64pow10" .u64 Lib.pow10Tab) :
  Calls prog 89 #[.iz n, .iz 10] w fun e w' => e = .returned (.string ⟨(Lib.itoa n).toArray⟩) ∧ ∃ k os, w' = grow (w.drewN k) os := Any.strconv_FormatInt_10 Tryz.laysM173 n h0 h1 w htab
def Tryz.lays247_ren : Go.Shelf.Ren := ⟨fun | 247 => 155 | 287 => 157 | 321 => 213 | 322 => 214 | n => n, fun | 9 => 9 | 3 => 3 | 2 => 2 | 75 => 99 | 4 => 4 | 167 => 305 | 5 => 5 | 53 => 22 | 175 => 172 | 46 => 93 | 37 => 29 | 0 => 0 | 21 => 21 | 80 => 104 | n => n, fun | n => n⟩
theorem Tryz.lays247 : Go.Proofs.Lays.n247 prog Tryz.lays247_ren := {
 mixed := by kernel_rfl
 f247 := func155.trans (congrArg some O1)
 f287 := func157.trans (congrArg some O1)
 f321 := func213.trans (congrArg some O1)
 f322 := func214.trans (congrArg some O1)
 t0 := underlying0
 a0 := Tryz.isAgg0
 z0 := Tryz.sizeOf0
 v0 := Tryz.zeroValue0
 t2 := underlying2
 a2 := Tryz.isAgg2
 z2 := Tryz.sizeOf2
 v2 := Tryz.zeroValue2
 t3 := underlying3
 a3 := Tryz.isAgg3
 z3 := Tryz.sizeOf3
 v3 := Tryz.zeroValue3
 t4 := underlying4
 a4 := Tryz.isAgg4
 z4 := Tryz.sizeOf4
 v4 := Tryz.zeroValue4
 t5 := underlying5
 a5 := Tryz.isAgg5
 z5 := Tryz.sizeOf5
 v5 := Tryz.zeroValue5
 t9 := underlying9
 a9 := Tryz.isAgg9
 z9 := Tryz.sizeOf9
 v9 := Tryz.zeroValue9
 t21 := underlying21
 a21 := Tryz.isAgg21
 z21 := Tryz.sizeOf21
 v21 := Tryz.zeroValue21
 t37 := underlying29
 a37 := Tryz.isAgg29
 z37 := Tryz.sizeOf29
 v37 := Tryz.zeroValue29
 t46 := underlying93
 a46 := Tryz.isAgg93
 z46 := Tryz.sizeOf93
 v46 := Tryz.zeroValue93
 t53 := underlying22
 a53 := Tryz.isAgg22
 z53 := Tryz.sizeOf22
 v53 := Tryz.zeroValue22
 t75 := underlying99
 a75 := Tryz.isAgg99
 z75 := Tryz.sizeOf99
 v75 := Tryz.zeroValue99
 t167 := underlying305
 a167 := Tryz.isAgg305
 z167 := Tryz.sizeOf305
 v167 := Tryz.zeroValue305
 t175 := underlying172
 a175 := Tryz.isAgg172
 z175 := Tryz.sizeOf172
 v175 := Tryz.zeroValue172 }
open Go.RowKit in
theorem Tryz.internal_strconv_ParseInt_empty (base bits : Int) (w : World) :
  Calls prog 155 #[.string ⟨#[]⟩, .iz base, .iz bits] w fun e w' => e = .returned (.tuple #[.iz 0, (.iface 305 (.iz 2))]) ∧ w' = w := Any.internal_strconv_ParseInt_empty Tryz.lays247 base bits w
def Tryz.laysC245_ren : Go.Shelf.Ren := ⟨fun | 245 => 156 | 279 => 209 | 280 => 210 | 281 => 211 | 282 => 212 | 316 => 265 | 171 => 87 | 205 => 266 | 243 => 148 | 246 => 150 | 283 => 201 | 284 => 202 | 285 => 203 | 286 => 204 | 129 => 256 | 317 => 255 | 318 => 257 | 319 => 258 | 320 => 259 | 337 => 292 | 338 => 293 | n => n, fun | 9 => 9 | 3 => 3 | 75 => 99 | 167 => 305 | 4 => 4 | 168 => 306 | 210 => 346 | 37 => 29 | 0 => 0 | 127 => 167 | 145 => 386 | 143 => 384 | 2 => 2 | 171 => 296 | 53 => 22 | 5 => 5 | 173 => 299 | 212 => 341 | 51 => 128 | 20 => 20 | 213 => 342 | 46 => 93 | 232 => 399 | 233 => 400 | 80 => 104 | n => n, fun | 15 => 2 | 16 => 3 | 17 => 0 | 18 => 6 | 19 => 7 | n => n⟩
theorem Tryz.laysC245 : Go.Proofs.LaysC.n245 prog Tryz.laysC245_ren := {
 mixed := by kernel_rfl
 f129 := func256.trans (congrArg some O1)
 f171 := func87.trans (congrArg some O1)
 f205 := func266.trans (congrArg some O1)
 f243 := func148.trans (congrArg some O1)
 f245 := func156.trans (congrArg some O1)
 f246 := func150.trans (congrArg some O1)
 f279 := func209.trans (congrArg some O1)
 f280 := func210.trans (congrArg some O1)
 f281 := func211.trans (congrArg some O1)
 f282 := func212.trans (congrArg some O1)
 f283 := func201.trans (congrArg some O1)
 f284 := func202.trans (congrArg some O1)
 f285 := func203.trans (congrArg some O1)
 f286 := func204.trans (congrArg some O1)
 f316 := func265.trans (congrArg some O1)
 f317 := func255.trans (congrArg some O1)
 f318 := func257.trans (congrArg some O1)
 f319 := func258.trans (congrArg some O1)
 f320 := func259.trans (congrArg some O1)
 f337 := func292.trans (congrArg some O1)
 f338 := func293.trans (congrArg some O1)
 t0 := underlying0
 a0 := Tryz.isAgg0
 z0 := Tryz.sizeOf0
 v0 := Tryz.zeroValue0
 t2 := underlying2
 a2 := Tryz.isAgg2
 z2 := Tryz.sizeOf2
 v2 := Tryz.zeroValue2
 t3 := underlying3
 a3 := Tryz.isAgg3
 z3 := Tryz.sizeOf3
 v3 := Tryz.zeroValue3
 t4 := underlying4
 a4 := Tryz.isAgg4
 z4 := Tryz.sizeOf4
 v4 := Tryz.zeroValue4
 t5 := underlying5
 a5 := Tryz.isAgg5
 z5 := Tryz.sizeOf5
 v5 := Tryz.zeroValue5
 t9 := underlying9
 a9 := Tryz.isAgg9
 z9 := Tryz.sizeOf9
 v9 := Tryz.zeroValue9
 t20 := underlying20
 a20 := Tryz.isAgg20
 z20 := Tryz.sizeOf20
 v20 := Tryz.zeroValue20
 t37 := underlying29
 a37 := Tryz.isAgg29
 z37 := Tryz.sizeOf29
 v37 := Tryz.zeroValue29
 t46 := underlying93
 a46 := Tryz.isAgg93
 z46 := Tryz.sizeOf93
 v46 := Tryz.zeroValue93
 t51 := underlying128
 a51 := Tryz.isAgg128
 z51 := Tryz.sizeOf128
 v51 := Tryz.zeroValue128
 t53 := underlying22
 a53 := Tryz.isAgg22
 z53 := Tryz.sizeOf22
 v53 := Tryz.zeroValue22
 t75 := underlying99
 a75 := Tryz.isAgg99
 z75 := Tryz.sizeOf99
 v75 := Tryz.zeroValue99
 t127 := underlying167
 a127 := Tryz.isAgg167
 z127 := Tryz.sizeOf167
 v127 := Tryz.zeroValue167
 t143 := underlying384
 a143 := Tryz.isAgg384
 z143 := Tryz.sizeOf384
 v143 := Tryz.zeroValue384
 t145 := underlying386
 a145 := Tryz.isAgg386
 z145 := Tryz.sizeOf386
 v145 := Tryz.zeroValue386
 t167 := underlying305
 a167 := Tryz.isAgg305
 z167 := Tryz.sizeOf305
 v167 := Tryz.zeroValue305
 t168 := underlying306
 a168 := Tryz.isAgg306
 z168 := Tryz.sizeOf306
 v168 := Tryz.zeroValue306
 t171 := underlying296
 a171 := Tryz.isAgg296
 z171 := Tryz.sizeOf296
 v171 := Tryz.zeroValue296
 t173 := underlying299
 a173 := Tryz.isAgg299
 z173 := Tryz.sizeOf299
 v173 := Tryz.zeroValue299
 t210 := underlying346
 a210 := Tryz.isAgg346
 z210 := Tryz.sizeOf346
 v210 := Tryz.zeroValue346
 t212 := underlying341
 a212 := Tryz.isAgg341
 z212 := Tryz.sizeOf341
 v212 := Tryz.zeroValue341
 t213 := underlying342
 a213 := Tryz.isAgg342
 z213 := Tryz.sizeOf342
 t232 := underlying399
 a232 := Tryz.isAgg399
 z232 := Tryz.sizeOf399
 v232 := Tryz.zeroValue399
 t233 := underlying400
 a233 := Tryz.isAgg400
 z233 := Tryz.sizeOf400
 v233 := Tryz.zeroValue400
 g15 := by kernel_rfl
 g16 := by kernel_rfl
 g17 := by kernel_rfl
 g18 := by kernel_rfl
 g19 := by kernel_rfl
 t80 := underlying104
 a80 := Tryz.isAgg104
 z80 := Tryz.sizeOf104
 v80 := Tryz.zeroValue104
 i0 := by kernel_rfl
 i2 := by kernel_rfl
 i3 := by kernel_rfl
 i4 := by kernel_rfl
 i5 := by kernel_rfl
 i9 := by kernel_rfl
 i20 := by kernel_rfl
 i37 := by kernel_rfl
 i46 := by kernel_rfl
 i51 := by kernel_rfl
 i53 := by kernel_rfl
 i75 := by kernel_rfl
 i80 := by kernel_rfl
 i127 := by kernel_rfl
 i143 := by kernel_rfl
 i145 := by kernel_rfl
 i167 := by kernel_rfl
 i168 := by kernel_rfl
 i171 := by kernel_rfl
 i173 := by kernel_rfl
 i210 := by kernel_rfl
 i212 := by kernel_rfl
 i232 := by kernel_rfl
 i233 := by kernel_rfl
 m15 := by kernel_rfl
 m16 := by kernel_rfl
 m17 := by kernel_rfl
 m18 := by kernel_rfl
 m19 := by kernel_rfl
 c0 := by kernel_rfl
 c2 := by kernel_rfl
 c3 := by kernel_rfl
 c4 := by kernel_rfl
 c5 := by kernel_rfl
 c9 := by kernel_rfl
 c20 := by kernel_rfl
 c37 := by kernel_rfl
 c46 := by kernel_rfl
 c51 := by kernel_rfl
 c53 := by kernel_rfl
 c75 := by kernel_rfl
 c80 := by kernel_rfl
 c127 := by kernel_rfl
 c143 := by kernel_rfl
 c145 := by kernel_rfl
 c167 := by kernel_rfl
 c168 := by kernel_rfl
 c171 := by kernel_rfl
 c173 := by kernel_rfl
 c210 := by kernel_rfl
 c212 := by kernel_rfl
 c213 := by kernel_rfl
 c232 := by kernel_rfl
 c233 := by kernel_rfl }
open Go.RowKit in
theorem Tryz.strconv_toError_syntax (fn s : ByteArray) (base bits : Int) (ev : Value) (w : World) (hlim : s.size <= 281474976710656) (hv : w.cell? ⟨2, 0, none⟩ = some ev) (hev : ev = .nilIface ∨ ∃ te pe, ev = .iface te pe) :
  Calls prog 156 #[.string fn, .string s, .iz base, .iz bits, .iface 305 (.iz 2)] w fun e w' => ∃ N, e = .returned (.iface 306 (.pz N)) ∧ w.heap.size <= N ∧ w'.heap[N]? = some (.cells #[.string fn, .string s, ev] 346 (0, 0)) ∧ Below w.heap.size w w' := Any.strconv_toError_syntax Tryz.laysC245 fn s base bits ev w hlim hv hev
open Go.RowKit in
theorem Tryz.strconv_toError_range (fn s : ByteArray) (base bits : Int) (ev : Value) (w : World) (hlim : s.size <= 281474976710656) (hv : w.cell? ⟨3, 0, none⟩ = some ev) (hev : ev = .nilIface ∨ ∃ te pe, ev = .iface te pe) :
  Calls prog 156 #[.string fn, .string s, .iz base, .iz bits, .iface 305 (.iz 1)] w fun e w' => ∃ N, e = .returned (.iface 306 (.pz N)) ∧ w.heap.size <= N ∧ w'.heap[N]? = some (.cells #[.string fn, .string s, ev] 346 (0, 0)) ∧ Below w.heap.size w w' := Any.strconv_toError_range Tryz.laysC245 fn s base bits ev w hlim hv hev
def Tryz.laysC247_ren : Go.Shelf.Ren := ⟨fun | 247 => 155 | 287 => 157 | 321 => 213 | 322 => 214 | n => n, fun | 9 => 9 | 3 => 3 | 2 => 2 | 75 => 99 | 4 => 4 | 167 => 305 | 5 => 5 | 53 => 22 | 175 => 172 | 46 => 93 | 37 => 29 | 0 => 0 | 21 => 21 | 80 => 104 | n => n, fun | n => n⟩
theorem Tryz.laysC247 : Go.Proofs.LaysC.n247 prog Tryz.laysC247_ren := {
 mixed := by kernel_rfl
 f247 := func155.trans (congrArg some O1)
 f287 := func157.trans (congrArg some O1)
 f321 := func213.trans (congrArg some O1)
 f322 := func214.trans (congrArg some O1)
 t0 := underlying0
 a0 := Tryz.isAgg0
 z0 := Tryz.sizeOf0
 v0 := Tryz.zeroValue0
 t2 := underlying2
 a2 := Tryz.isAgg2
 z2 := Tryz.sizeOf2
 v2 := Tryz.zeroValue2
 t3 := underlying3
 a3 := Tryz.isAgg3
 z3 := Tryz.sizeOf3
 v3 := Tryz.zeroValue3
 t4 := underlying4
 a4 := Tryz.isAgg4
 z4 := Tryz.sizeOf4
 v4 := Tryz.zeroValue4
 t5 := underlying5
 a5 := Tryz.isAgg5
 z5 := Tryz.sizeOf5
 v5 := Tryz.zeroValue5
 t9 := underlying9
 a9 := Tryz.isAgg9
 z9 := Tryz.sizeOf9
 v9 := Tryz.zeroValue9
 t21 := underlying21
 a21 := Tryz.isAgg21
 z21 := Tryz.sizeOf21
 v21 := Tryz.zeroValue21
 t37 := underlying29
 a37 := Tryz.isAgg29
 z37 := Tryz.sizeOf29
 v37 := Tryz.zeroValue29
 t46 := underlying93
 a46 := Tryz.isAgg93
 z46 := Tryz.sizeOf93
 v46 := Tryz.zeroValue93
 t53 := underlying22
 a53 := Tryz.isAgg22
 z53 := Tryz.sizeOf22
 v53 := Tryz.zeroValue22
 t75 := underlying99
 a75 := Tryz.isAgg99
 z75 := Tryz.sizeOf99
 v75 := Tryz.zeroValue99
 t167 := underlying305
 a167 := Tryz.isAgg305
 z167 := Tryz.sizeOf305
 v167 := Tryz.zeroValue305
 t175 := underlying172
 a175 := Tryz.isAgg172
 z175 := Tryz.sizeOf172
 v175 := Tryz.zeroValue172
 t80 := underlying104
 a80 := Tryz.isAgg104
 z80 := Tryz.sizeOf104
 v80 := Tryz.zeroValue104
 i0 := by kernel_rfl
 i2 := by kernel_rfl
 i3 := by kernel_rfl
 i4 := by kernel_rfl
 i5 := by kernel_rfl
 i9 := by kernel_rfl
 i21 := by kernel_rfl
 i37 := by kernel_rfl
 i46 := by kernel_rfl
 i53 := by kernel_rfl
 i75 := by kernel_rfl
 i80 := by kernel_rfl
 i167 := by kernel_rfl
 i175 := by kernel_rfl
 c0 := by kernel_rfl
 c2 := by kernel_rfl
 c3 := by kernel_rfl
 c4 := by kernel_rfl
 c5 := by kernel_rfl
 c9 := by kernel_rfl
 c21 := by kernel_rfl
 c37 := by kernel_rfl
 c46 := by kernel_rfl
 c53 := by kernel_rfl
 c75 := by kernel_rfl
 c80 := by kernel_rfl
 c167 := by kernel_rfl
 c175 := by kernel_rfl }
open Go.RowKit in
theorem Tryz.internal_strconv_ParseInt_10_at64 (s : ByteArray) (hne : s.size ≠ 0) (hmax : s.size <= 9223372036854775806) (w : World) :
  Calls prog 155 #[.string s, .iz 10, .iz 64] w fun e w' => e = .returned (Lib.intTuple 305 (Lib.intSat 64 s.data.toList) (Lib.parseIntB 64 s.data.toList)) ∧ (w' = w ∨ ∃ t, w' = Lib.bytesWorld w 5 t) := Any.internal_strconv_ParseInt_10_at64 Tryz.laysC247 s hne hmax w
def Tryz.lays146_ren : Go.Shelf.Ren := ⟨fun | 146 => 49 | 221 => 92 | 268 => 152 | 138 => 153 | 143 => 154 | 195 => 205 | 197 => 206 | 218 => 207 | 219 => 208 | 260 => 260 | 217 => 261 | 225 => 262 | 224 => 263 | 267 => 264 | 266 => 294 | 314 => 295 | n => n, fun | 9 => 9 | 31 => 63 | 3 => 3 | 4 => 4 | 0 => 0 | 105 => 302 | 21 => 21 | 5 => 5 | 46 => 93 | 119 => 378 | 139 => 381 | 138 => 380 | 146 => 382 | 51 => 128 | n => n, fun | 1 => 1 | 3 => 4 | 4 => 5 | n => n⟩
theorem Tryz.lays146 : Go.Proofs.Lays.n146 prog Tryz.lays146_ren := {
 mixed := by kernel_rfl
 f138 := func153.trans (congrArg some O1)
 f143 := func154.trans (congrArg some O1)
 f146 := func49.trans (congrArg some O1)
 f195 := func205.trans (congrArg some O1)
 f197 := func206.trans (congrArg some O1)
 f217 := func261.trans (congrArg some O1)
 f218 := func207.trans (congrArg some O1)
 f219 := func208.trans (congrArg some O1)
 f221 := func92.trans (congrArg some O1)
 f224 := func263.trans (congrArg some O1)
 f225 := func262.trans (congrArg some O1)
 f260 := func260.trans (congrArg some O1)
 f266 := func294.trans (congrArg some O1)
 f267 := func264.trans (congrArg some O1)
 f268 := func152.trans (congrArg some O1)
 f314 := func295.trans (congrArg some O1)
 t0 := underlying0
 a0 := Tryz.isAgg0
 z0 := Tryz.sizeOf0
 v0 := Tryz.zeroValue0
 t3 := underlying3
 a3 := Tryz.isAgg3
 z3 := Tryz.sizeOf3
 v3 := Tryz.zeroValue3
 t4 := underlying4
 a4 := Tryz.isAgg4
 z4 := Tryz.sizeOf4
 v4 := Tryz.zeroValue4
 t5 := underlying5
 a5 := Tryz.isAgg5
 z5 := Tryz.sizeOf5
 v5 := Tryz.zeroValue5
 t9 := underlying9
 a9 := Tryz.isAgg9
 z9 := Tryz.sizeOf9
 v9 := Tryz.zeroValue9
 t21 := underlying21
 a21 := Tryz.isAgg21
 z21 := Tryz.sizeOf21
 v21 := Tryz.zeroValue21
 t31 := underlying63
 a31 := Tryz.isAgg63
 z31 := Tryz.sizeOf63
 v31 := Tryz.zeroValue63
 t46 := underlying93
 a46 := Tryz.isAgg93
 z46 := Tryz.sizeOf93
 v46 := Tryz.zeroValue93
 t51 := underlying128
 a51 := Tryz.isAgg128
 z51 := Tryz.sizeOf128
 v51 := Tryz.zeroValue128
 t105 := underlying302
 a105 := Tryz.isAgg302
 z105 := Tryz.sizeOf302
 v105 := Tryz.zeroValue302
 t119 := underlying378
 a119 := Tryz.isAgg378
 z119 := Tryz.sizeOf378
 t138 := underlying380
 a138 := Tryz.isAgg380
 z138 := Tryz.sizeOf380
 v138 := Tryz.zeroValue380
 t139 := underlying381
 a139 := Tryz.isAgg381
 z139 := Tryz.sizeOf381
 v139 := Tryz.zeroValue381
 t146 := underlying382
 a146 := Tryz.isAgg382
 z146 := Tryz.sizeOf382
 v146 := Tryz.zeroValue382
 g1 := by kernel_rfl
 g3 := by kernel_rfl
 g4 := by kernel_rfl }
open Go.RowKit Go.Lib in
theorem Tryz.strings_Split (s sep : ByteArray) (m : Int) (w : World) (hs : s.size < 4294967281) (hm : w.cell? ⟨1, 0, none⟩ = some (.iz m)) (h1 : 1 <= sep.size) :
  Calls prog 49 #[.string s, .string sep] w fun e w' =>
   e = .returned (.slice (some ⟨w.heap.size, 0, none⟩) (Lib.countB s sep + 1) (Lib.countB s sep + 1)) ∧ w' = w.alloc (.cells ((Lib.splitB sep 0 (Lib.countB s sep) s).map Value.string).toArray 9) := Any.strings_Split Tryz.lays146 O1 s sep m w hs hm h1
end Go.Proofs
namespace Go.Hw
section
section
variable {w0 w : World} {l : List HProp}
theorem St.gro (h : St w0 l w) (k : Nat) (os : Array Obj) : St w0 l (Go.Sort.grow (w.drewN k) os) := by
 refine h.grow rfl rfl rfl ?_ fun j hj => ?_
 ·show w.heap.size <= (w.heap ++ os).size
  rw [Array.size_append]; omega
 ·show (w.heap ++ os)[j]? = _
  rw [Array.getElem?_append_left hj]
theorem Ret.of {P : Program} {f : FuncId} {vs : List Value} {Q : Ending -> World -> Prop} {φ : Value -> World -> Prop} (h : Calls P f vs.toArray w Q) (k : ∀ e w', Q e w' -> ∃ v, e = .returned v ∧ φ v w') : Ret P f vs w φ := by
 unfold Ret
 exact Calls.mono h fun e w' hq => k e w' hq
end
end
section
open Go.Lib
section
variable {P : Program} {e : Env} {w : World} {d : Option Nat} {ty : TypeId} {pos : String} {af : Array Edge} {g : Option (Nat × Bool)}
theorem qz {t t2 : TypeId} {x y : Operand} {a b : List UInt8} (hx : ev e x = .string (strB a)) (hy : ev e y = .string (strB b)) (hn : a.length + b.length <= 9223372036854775807) : Qv P e ⟨d, .binOp .add t x y t2, ty, pos, af, g⟩ w (.string (strB (a ++ b))) := by
 rw [<- strB_cat]
 exact zl hx hy (by rw [strB_size, strB_size]; exact hn)
end
theorem TabIs.keep {P : Program} {w0 w : World} {l : List HProp} {name : String} {k : IntKind} {zs : List Int} (h : St w0 l w) (ht : TabIs P w0 name k zs) : TabIs P w name k zs := by
 unfold TabIs World.var? at ht ⊢
 cases hg : P.globalNamed name with
 | none => rw [hg] at ht; cases ht
 | some g =>
  rw [hg] at ht
  simp only [Option.bind_some] at ht ⊢
  have hlt : g < w0.heap.size := by
   rcases Nat.lt_or_ge g w0.heap.size with h1 | h1
   ·exact h1
   ·rw [Array.getElem?_eq_none h1] at ht; cases ht
  rw [h.old g hlt]
  exact ht
theorem qs {n : Int} (h : I64 n) : (itoa n).length <= 21 := itoa_length_le n h.1 (by have := h.2; omega)
end
end Go.Hw
namespace Go.Proofs.YtdeaeboijmeefaaGreatDoor
open Go.Hw _root_.Go.Proofs.Tryz
section
open Go.Hw Go.Lib
structure Nm (W : World) : Prop where
 tz : Tz W
 tab : TabIs prog W "internal/strconv.uint64pow10" .u64 pow10Tab
section
variable {w0 w : World} {l : List HProp}
theorem qe (hN : Nm w0) {n : Int} (hn : I64 n) (h : St w0 l w) : Ret prog 42 [.iz n] w fun v w' => v = .string (strB (itoa n)) ∧ St w0 l w' := by
 refine en func42 results42 ntmps42 ?_
 refine Y0 ?_
 refine r_v (qg rfl) rfl ?_
 refine Y2a ?_
 refine r_c rfl (qq rfl (Ret.of (φ := fun v w' => v = .string (strB (itoa n)) ∧ St w0 l w') (Tryz.strconv_Itoa n hn.1 (by have := hn.2; omega) w (TabIs.keep h hN.tab)) fun e w' ⟨h1, k, os, h2⟩ => ⟨_, h1, rfl, h2 ▸ h.gro k os⟩) ?_)
 clear h
 rintro _ w ⟨rfl, h⟩
 refine r_v (qg rfl) rfl ?_
 exact qj (qy (bq1 ⟨rfl, h⟩))
theorem jf (hN : Nm w0) {n : Int} (hn : I64 n) (h : St w0 l w) : Ret prog 44 [.iz n] w fun v w' => v = .string (strB (itoa n)) ∧ St w0 l w' := by
 refine en func44 results44 ntmps44 ?_
 refine Y0 ?_
 refine r_v (qg rfl) rfl ?_
 refine Y2a ?_
 refine r_c rfl (qq rfl (Ret.of (φ := fun v w' => v = .string (strB (itoa n)) ∧ St w0 l w') (Tryz.strconv_FormatInt_10 n hn.1 (by have := hn.2; omega) w (TabIs.keep h hN.tab)) fun e w' ⟨h1, k, os, h2⟩ => ⟨_, h1, rfl, h2 ▸ h.gro k os⟩) ?_)
 clear h
 rintro _ w ⟨rfl, h⟩
 refine r_v (qg rfl) rfl ?_
 exact qj (qy (bq1 ⟨rfl, h⟩))
theorem ve (hN : Nm w0) {u : Nat} (hu : u < 18446744073709551616) (h : St w0 l w) : Ret prog 45 [.int .u64 u] w fun v w' => v = .string (strB (hexS u)) ∧ St w0 l w' := by
 refine en func45 results45 ntmps45 ?_
 refine Y0 ?_
 refine r_v (qg rfl) rfl ?_
 refine Y2a ?_
 refine r_c rfl (qq rfl (gx hN.tz hu h) ?_)
 clear h
 rintro _ w ⟨rfl, h⟩
 refine r_v (qg rfl) rfl ?_
 exact qj (qy (bq1 ⟨rfl, h⟩))
theorem vq (hN : Nm w0) {o : Opr} (ho : o.Wf) (h : St w0 l w) : Ret prog 13 [.agg o.C.toArray] w fun v w' => v = .string (strB (opS o)) ∧ St w0 l w' := by
 obtain ⟨i0, i1, i2, i3, i4, i5, i6, i7⟩ := ho
 have m1 := qs i1
 have m2 := qs i2
 have m3 := qs i3
 have m4 := hexS_len o.V 16 O4 (by exact i4)
 have m5 := qs i5
 have m6 := qs i6
 have m7 := qs i7
 refine en func13 results13 ntmps13 ?_
 refine Y0 ?_
 refine r_c rfl (js h (show _ = Value.agg o.C.toArray from rfl) fun b w h => ?_)
 refine r_v (qg rfl) rfl ?_
 refine Y27 ?_; refine Ya ?_; refine r_v (qk rfl (h.b 0) rfl) rfl ?_
 refine Y2l ?_; refine Y21 ?_
 refine qj (qo (o.kind == 1) rfl (fun hk => ?_) (fun hk1 => ?_))
 ·have hk : o.kind = 1 := by simpa using hk
  refine ql (gk none (fun w => St w0 _ w) O1 O1 h.drew fun w h => ?_)
  refine Y11 ?_; refine qu rfl rfl rfl rfl h (fun _ h => qx rfl (qk rfl (h.b 0) rfl)) ?_; refine Y2f ?_; refine qu rfl rfl rfl rfl h (fun _ h => qx rfl (qk rfl (h.b 0) rfl)) ?_; refine Y2f ?_; refine qu rfl rfl rfl rfl h (fun _ h => qx rfl (qk rfl (h.b 0) rfl)) ?_; refine Ye ?_
  refine qh 2 rfl rfl rfl rfl (qq rfl (qe hN i1 h) ?_)
  clear h
  rintro _ w ⟨rfl, h⟩
  refine ⟨fun _ => h, ?_⟩
  refine cpv rfl rfl rfl rfl h rfl (qz rfl rfl O0) ?_
  refine cpv rfl rfl rfl rfl h rfl (qz rfl rfl O0) ?_
  refine Yu ?_; refine Y1g ?_
  refine qh 7 rfl rfl rfl rfl (qq rfl (jf hN i3 h) ?_)
  clear h
  rintro _ w ⟨rfl, h⟩
  refine ⟨fun _ => h, ?_⟩
  refine cpv rfl rfl rfl rfl h rfl (qz rfl rfl O0) ?_
  refine cpv rfl rfl rfl rfl h rfl (qz rfl rfl O0) ?_
  refine Ye ?_
  refine qh 12 rfl rfl rfl rfl (qq rfl (ve hN i4 h) ?_)
  clear h
  rintro _ w ⟨rfl, h⟩
  refine ⟨fun _ => h, ?_⟩
  refine cpv rfl rfl rfl rfl h rfl (qz rfl rfl O0) ?_
  refine cpv rfl rfl rfl rfl h rfl (qg rfl) ?_
  refine qi (qy (bq1 ⟨congrArg (fun x => Value.string (strB x)) O2, h.drop⟩))
 have hk1 : ¬ o.kind = 1 := by simpa using hk1
 refine Y21 ?_
 refine qj (qo (o.kind == 2) rfl (fun hk => ?_) (fun hk2 => ?_))
 ·have hk : o.kind = 2 := by simpa using hk
  refine ql (gk none (fun w => St w0 _ w) O1 O1 h.drew fun w h => ?_)
  refine Y11 ?_; refine qu rfl rfl rfl rfl h (fun _ h => qx rfl (qk rfl (h.b 0) rfl)) ?_; refine Y2f ?_; refine qu rfl rfl rfl rfl h (fun _ h => qx rfl (qk rfl (h.b 0) rfl)) ?_; refine Y2f ?_; refine qu rfl rfl rfl rfl h (fun _ h => qx rfl (qk rfl (h.b 0) rfl)) ?_; refine Ye ?_
  refine qh 2 rfl rfl rfl rfl (qq rfl (qe hN i1 h) ?_)
  clear h
  rintro _ w ⟨rfl, h⟩
  refine ⟨fun _ => h, ?_⟩
  refine cpv rfl rfl rfl rfl h rfl (qz rfl rfl O0) ?_
  refine cpv rfl rfl rfl rfl h rfl (qz rfl rfl O0) ?_
  refine Yu ?_; refine Y1g ?_
  refine qh 7 rfl rfl rfl rfl (qq rfl (jf hN i5 h) ?_)
  clear h
  rintro _ w ⟨rfl, h⟩
  refine ⟨fun _ => h, ?_⟩
  refine cpv rfl rfl rfl rfl h rfl (qz rfl rfl O0) ?_
  refine cpv rfl rfl rfl rfl h rfl (qz rfl rfl O0) ?_
  refine Ye ?_
  refine qh 12 rfl rfl rfl rfl (qq rfl (jf hN i6 h) ?_)
  clear h
  rintro _ w ⟨rfl, h⟩
  refine ⟨fun _ => h, ?_⟩
  refine cpv rfl rfl rfl rfl h rfl (qz rfl rfl O0) ?_
  refine cpv rfl rfl rfl rfl h rfl (qg rfl) ?_
  refine qi (qy (bq1 ⟨congrArg (fun x => Value.string (strB x)) O2, h.drop⟩))
 have hk2 : ¬ o.kind = 2 := by simpa using hk2
 refine Y21 ?_
 refine qj (qo (o.kind == 3) rfl (fun hk => ?_) (fun hk3 => ?_))
 ·have hk : o.kind = 3 := by simpa using hk
  refine Y1y ?_; refine r_v (qk rfl (h.b 0) rfl) rfl ?_
  refine r_c rfl (qq rfl (qe hN i1 h) ?_)
  clear h
  rintro _ w ⟨rfl, h⟩
  refine r_v (qz rfl rfl O0) rfl ?_
  refine r_v (qg rfl) rfl ?_
  refine qj (qy (bq1 ⟨congrArg (fun x => Value.string (strB x)) O2, h.drop⟩))
 have hk3 : ¬ o.kind = 3 := by simpa using hk3
 refine Y21 ?_
 refine qj (qo (o.kind == 4) rfl (fun hk => ?_) (fun hk4 => ?_))
 ·have hk : o.kind = 4 := by simpa using hk
  refine Y1y ?_; refine r_v (qk rfl (h.b 0) rfl) rfl ?_
  refine r_c rfl (qq rfl (qe hN i1 h) ?_)
  clear h
  rintro _ w ⟨rfl, h⟩
  refine r_v (qz rfl rfl O0) rfl ?_
  refine r_v (qg rfl) rfl ?_
  refine qj (qy (bq1 ⟨congrArg (fun x => Value.string (strB x)) O2, h.drop⟩))
 have hk4 : ¬ o.kind = 4 := by simpa using hk4
 refine Y21 ?_
 refine qj (qo (o.kind == 5) rfl (fun hk => ?_) (fun hk5 => ?_))
 ·have hk : o.kind = 5 := by simpa using hk
  refine ql (gk none (fun w => St w0 _ w) O1 O1 h.drew fun w h => ?_)
  refine Y11 ?_; refine qu rfl rfl rfl rfl h (fun _ h => qx rfl (qk rfl (h.b 0) rfl)) ?_; refine Y2f ?_; refine qu rfl rfl rfl rfl h (fun _ h => qx rfl (qk rfl (h.b 0) rfl)) ?_; refine Y2f ?_; refine qu rfl rfl rfl rfl h (fun _ h => qx rfl (qk rfl (h.b 0) rfl)) ?_; refine Ye ?_
  refine qh 2 rfl rfl rfl rfl (qq rfl (qe hN i1 h) ?_)
  clear h
  rintro _ w ⟨rfl, h⟩
  refine ⟨fun _ => h, ?_⟩
  refine cpv rfl rfl rfl rfl h rfl (qz rfl rfl O0) ?_
  refine cpv rfl rfl rfl rfl h rfl (qz rfl rfl O0) ?_
  refine Yu ?_; refine Y1g ?_
  refine qh 7 rfl rfl rfl rfl (qq rfl (jf hN i5 h) ?_)
  clear h
  rintro _ w ⟨rfl, h⟩
  refine ⟨fun _ => h, ?_⟩
  refine cpv rfl rfl rfl rfl h rfl (qz rfl rfl O0) ?_
  refine cpv rfl rfl rfl rfl h rfl (qz rfl rfl O0) ?_
  refine Ye ?_
  refine qh 12 rfl rfl rfl rfl (qq rfl (jf hN i6 h) ?_)
  clear h
  rintro _ w ⟨rfl, h⟩
  refine ⟨fun _ => h, ?_⟩
  refine cpv rfl rfl rfl rfl h rfl (qz rfl rfl O0) ?_
  refine cpv rfl rfl rfl rfl h rfl (qg rfl) ?_
  refine qi (qy (bq1 ⟨congrArg (fun x => Value.string (strB x)) O2, h.drop⟩))
 have hk5 : ¬ o.kind = 5 := by simpa using hk5
 refine Y21 ?_
 refine qj (qo (o.kind == 6) rfl (fun hk => ?_) (fun hk6 => ?_))
 ·have hk : o.kind = 6 := by simpa using hk
  refine ql (gk none (fun w => St w0 _ w) O1 O1 h.drew fun w h => ?_)
  refine Y11 ?_; refine qu rfl rfl rfl rfl h (fun _ h => qx rfl (qk rfl (h.b 0) rfl)) ?_; refine Y2f ?_; refine qu rfl rfl rfl rfl h (fun _ h => qx rfl (qk rfl (h.b 0) rfl)) ?_; refine Ye ?_
  refine qh 2 rfl rfl rfl rfl (qq rfl (qe hN i2 h) ?_)
  clear h
  rintro _ w ⟨rfl, h⟩
  refine ⟨fun _ => h, ?_⟩
  refine cpv rfl rfl rfl rfl h rfl (qz rfl rfl O0) ?_
  refine cpv rfl rfl rfl rfl h rfl (qz rfl rfl O0) ?_
  refine Ye ?_
  refine qh 7 rfl rfl rfl rfl (qq rfl (qe hN i7 h) ?_)
  clear h
  rintro _ w ⟨rfl, h⟩
  refine ⟨fun _ => h, ?_⟩
  refine cpv rfl rfl rfl rfl h rfl (qz rfl rfl O0) ?_
  refine cpv rfl rfl rfl rfl h rfl (qg rfl) ?_
  refine qi (qy (bq1 ⟨congrArg (fun x => Value.string (strB x)) O2, h.drop⟩))
 have hk6 : ¬ o.kind = 6 := by simpa using hk6
 refine Y21 ?_
 refine qj (qo (o.kind == 7) rfl (fun hk => ?_) (fun hk7 => ?_))
 ·have hk : o.kind = 7 := by simpa using hk
  refine Y1y ?_; refine r_v (qk rfl (h.b 0) rfl) rfl ?_
  refine r_c rfl (qq rfl (qe hN i2 h) ?_)
  clear h
  rintro _ w ⟨rfl, h⟩
  refine r_v (qz rfl rfl O0) rfl ?_
  refine r_v (qg rfl) rfl ?_
  refine qj (qy (bq1 ⟨congrArg (fun x => Value.string (strB x)) O2, h.drop⟩))
 have hk7 : ¬ o.kind = 7 := by simpa using hk7
 refine Y2n ?_
 refine r_v (qg rfl) rfl ?_
 refine qj (qy (bq1 ⟨congrArg (fun x => Value.string (strB x)) (by simp [opS, opW, joinW, *]), h.drop⟩))
theorem ref27_Op {o : Opr} (ho : o.Wf) (h : St w0 l w) : Ret prog 14 [.agg o.C.toArray] w fun v w' => v = .string (strB (opS o)) ∧ St w0 l w' := by
 obtain ⟨i0, i1, i2, i3, i4, i5, i6, i7⟩ := ho
 have m1 := qs i1
 have m2 := qs i2
 have m3 := qs i3
 have m4 := hexS_len o.V 16 O4 (by exact i4)
 have m5 := qs i5
 have m6 := qs i6
 have m7 := qs i7
 refine en func14 results14 ntmps14 ?_
 refine Y0 ?_
 refine r_c rfl (js h (show _ = Value.agg o.C.toArray from rfl) fun b w h => ?_)
 refine r_v (qg rfl) rfl ?_
 refine Y9 ?_; refine Ya ?_; refine r_v (qk rfl (h.b 0) rfl) rfl ?_
 refine r_c rfl (qq rfl (ref27_Num i1 h) ?_)
 clear h
 rintro _ w ⟨rfl, h⟩
 refine r_v (qg rfl) rfl ?_
 refine Y2 ?_
 refine ql (gk none (fun w => St w0 _ w) O1 O1 h.drew fun w h => ?_)
 refine Y11 ?_; refine qu rfl rfl rfl rfl h (fun _ h => qx rfl (qk rfl (h.b 0) rfl)) ?_; refine Y2f ?_; refine qu rfl rfl rfl rfl h (fun _ h => qx rfl (qk rfl (h.b 0) rfl)) ?_; refine Ye ?_
 refine qh 2 rfl rfl rfl rfl (qq rfl (ref27_Num i5 h) ?_)
 clear h
 rintro _ w ⟨rfl, h⟩
 refine ⟨fun _ => h, ?_⟩
 refine cpv rfl rfl rfl rfl h rfl (qz rfl rfl O0) ?_
 refine cpv rfl rfl rfl rfl h rfl (qz rfl rfl O0) ?_
 refine Ye ?_
 refine qh 7 rfl rfl rfl rfl (qq rfl (ref27_Num i6 h) ?_)
 clear h
 rintro _ w ⟨rfl, h⟩
 refine ⟨fun _ => h, ?_⟩
 refine cpv rfl rfl rfl rfl h rfl (qz rfl rfl O0) ?_
 refine cpv rfl rfl rfl rfl h rfl (qg rfl) ?_
 refine qi ?_
 refine Y15 ?_; refine Ya ?_; refine r_v (qk rfl (h.b 0) rfl) rfl ?_
 refine Y2l ?_; refine Y21 ?_
 refine qj (qo (o.kind == 1) rfl (fun hk => ?_) (fun hk1 => ?_))
 ·have hk : o.kind = 1 := by simpa using hk
  refine ql (gk none (fun w => St w0 _ w) O1 O1 h.drew fun w h => ?_)
  refine cpv rfl rfl rfl rfl h rfl (qf rfl) ?_
  refine cpv rfl rfl rfl rfl h rfl (qz rfl rfl O0) ?_
  refine cpv rfl rfl rfl rfl h rfl (qz rfl rfl O0) ?_
  refine Y11 ?_; refine qu rfl rfl rfl rfl h (fun _ h => qx rfl (qk rfl (h.b 0) rfl)) ?_; refine Y2f ?_; refine qu rfl rfl rfl rfl h (fun _ h => qx rfl (qk rfl (h.b 0) rfl)) ?_; refine Ye ?_
  refine qh 5 rfl rfl rfl rfl (qq rfl (ref27_Num i3 h) ?_)
  clear h
  rintro _ w ⟨rfl, h⟩
  refine ⟨fun _ => h, ?_⟩
  refine cpv rfl rfl rfl rfl h rfl (qz rfl rfl O0) ?_
  refine cpv rfl rfl rfl rfl h rfl (qz rfl rfl O0) ?_
  refine Ye ?_
  refine qh 10 rfl rfl rfl rfl (qq rfl (ref27_Hex i4 h) ?_)
  clear h
  rintro _ w ⟨rfl, h⟩
  refine ⟨fun _ => h, ?_⟩
  refine cpv rfl rfl rfl rfl h rfl (qz rfl rfl O0) ?_
  refine cpv rfl rfl rfl rfl h rfl (qg rfl) ?_
  refine qi (qy (bq1 ⟨congrArg (fun x => Value.string (strB x)) O2, h.drop⟩))
 have hk1 : ¬ o.kind = 1 := by simpa using hk1
 refine Y21 ?_
 refine qj (qo (o.kind == 2) rfl (fun hk => ?_) (fun hk2 => ?_))
 ·have hk : o.kind = 2 := by simpa using hk
  refine Y0 ?_
  refine r_v (qf rfl) rfl ?_
  refine r_v (qz rfl rfl O0) rfl ?_
  refine r_v (qf rfl) rfl ?_
  refine r_v (qz rfl rfl O0) rfl ?_
  refine r_v (qg rfl) rfl ?_
  refine qj (qy (bq1 ⟨congrArg (fun x => Value.string (strB x)) O2, h.drop⟩))
 have hk2 : ¬ o.kind = 2 := by simpa using hk2
 refine Y21 ?_
 refine qj (qo (o.kind == 3) rfl (fun hk => ?_) (fun hk3 => ?_))
 ·have hk : o.kind = 3 := by simpa using hk
  refine Y0 ?_
  refine r_v (qf rfl) rfl ?_
  refine r_v (qz rfl rfl O0) rfl ?_
  refine r_v (qg rfl) rfl ?_
  refine qj (qy (bq1 ⟨congrArg (fun x => Value.string (strB x)) O2, h.drop⟩))
 have hk3 : ¬ o.kind = 3 := by simpa using hk3
 refine Y21 ?_
 refine qj (qo (o.kind == 4) rfl (fun hk => ?_) (fun hk4 => ?_))
 ·have hk : o.kind = 4 := by simpa using hk
  refine Y0 ?_
  refine r_v (qf rfl) rfl ?_
  refine r_v (qz rfl rfl O0) rfl ?_
  refine r_v (qg rfl) rfl ?_
  refine qj (qy (bq1 ⟨congrArg (fun x => Value.string (strB x)) O2, h.drop⟩))
 have hk4 : ¬ o.kind = 4 := by simpa using hk4
 refine Y21 ?_
 refine qj (qo (o.kind == 5) rfl (fun hk => ?_) (fun hk5 => ?_))
 ·have hk : o.kind = 5 := by simpa using hk
  refine Y0 ?_
  refine r_v (qf rfl) rfl ?_
  refine r_v (qz rfl rfl O0) rfl ?_
  refine r_v (qf rfl) rfl ?_
  refine r_v (qz rfl rfl O0) rfl ?_
  refine r_v (qg rfl) rfl ?_
  refine qj (qy (bq1 ⟨congrArg (fun x => Value.string (strB x)) O2, h.drop⟩))
 have hk5 : ¬ o.kind = 5 := by simpa using hk5
 refine Y21 ?_
 refine qj (qo (o.kind == 6) rfl (fun hk => ?_) (fun hk6 => ?_))
 ·have hk : o.kind = 6 := by simpa using hk
  refine ql (gk none (fun w => St w0 _ w) O1 O1 h.drew fun w h => ?_)
  refine Y11 ?_; refine qu rfl rfl rfl rfl h (fun _ h => qx rfl (qk rfl (h.b 0) rfl)) ?_; refine Y2f ?_; refine qu rfl rfl rfl rfl h (fun _ h => qx rfl (qk rfl (h.b 0) rfl)) ?_; refine Ye ?_
  refine qh 2 rfl rfl rfl rfl (qq rfl (ref27_Num i2 h) ?_)
  clear h
  rintro _ w ⟨rfl, h⟩
  refine ⟨fun _ => h, ?_⟩
  refine cpv rfl rfl rfl rfl h rfl (qz rfl rfl O0) ?_
  refine cpv rfl rfl rfl rfl h rfl (qz rfl rfl O0) ?_
  refine Ye ?_
  refine qh 7 rfl rfl rfl rfl (qq rfl (ref27_Num i7 h) ?_)
  clear h
  rintro _ w ⟨rfl, h⟩
  refine ⟨fun _ => h, ?_⟩
  refine cpv rfl rfl rfl rfl h rfl (qz rfl rfl O0) ?_
  refine cpv rfl rfl rfl rfl h rfl (qg rfl) ?_
  refine qi (qy (bq1 ⟨congrArg (fun x => Value.string (strB x)) O2, h.drop⟩))
 have hk6 : ¬ o.kind = 6 := by simpa using hk6
 refine Y21 ?_
 refine qj (qo (o.kind == 7) rfl (fun hk => ?_) (fun hk7 => ?_))
 ·have hk : o.kind = 7 := by simpa using hk
  refine Y1y ?_; refine r_v (qk rfl (h.b 0) rfl) rfl ?_
  refine r_c rfl (qq rfl (ref27_Num i2 h) ?_)
  clear h
  rintro _ w ⟨rfl, h⟩
  refine r_v (qz rfl rfl O0) rfl ?_
  refine r_v (qg rfl) rfl ?_
  refine qj (qy (bq1 ⟨congrArg (fun x => Value.string (strB x)) O2, h.drop⟩))
 have hk7 : ¬ o.kind = 7 := by simpa using hk7
 refine Y2n ?_
 refine r_v (qg rfl) rfl ?_
 refine qj (qy (bq1 ⟨congrArg (fun x => Value.string (strB x)) (by simp [opS, opW, joinW, *]), h.drop⟩))
end
end
end Go.Proofs.YtdeaeboijmeefaaGreatDoor
namespace Go.Hw
section
open Go.Lib
theorem strCells_B (s : List UInt8) : strCells (strB s) = bytesV s := by
 show (s.toArray.toList.map fun b => Value.int .u8 b.toNat) = _
 simp [bytesV]
section
variable {P : Program} {w : World}
theorem run_append_growsZ {t u ty T : TypeId} {z : List Value} {agg : Bool} {bytes : Nat} (ht : P.underlying t = some (.slice T)) (hu : P.underlying u = some .string) (hi : Inf P T z agg bytes) (hz1 : z.length = 1) {a : Option Addr} {n c : Nat} {xs : List Value} {s : ByteArray}
  (hx : Rd w z.length a n xs) (hg : c < n + s.size) (hb : (n + s.size) * bytes <= 140737488355328) (h63 : n + s.size <= 9223372036854775807) :
  ∃ k, (Builtin.append_ #[t, u] ty #[.slice a n c, .string s]).run P w = .ok (.slice (some ⟨w.heap.size, 0, none⟩) (n + s.size) (n + s.size + k)) (w.drew.alloc (.cells (xs ++ strCells s ++ (Builtin.zeroCells z.toArray k).toList).toArray T)) := by
 obtain ⟨i, h1, h2, h3, h4⟩ := hi.get
 subst h4
 have hfx := (show Rd w.drew z.length a n xs from hx).first (P := P) c
 have hfy := run_firstCells_string (P := P) w.drew 1 s
 have hge : n + s.size <= grownCap w (n + s.size) c T := by simp [grownCap, Question.cut]
 have hfit := growslice_fits hg hb
 have hzc := hi.cells
 refine ⟨grownCap w (n + s.size) c T - (n + s.size), ?_⟩
 have e1 : n + s.size + (grownCap w (n + s.size) c T - (n + s.size)) = grownCap w (n + s.size) c T := by omega
 rw [e1]
 have hn1 : ¬ (n + s.size <= c) := by omega
 have hn2 : ¬ ((9223372036854775807 : Int) < (n : Int) + (s.size : Int)) := by omega
 have hn3 : ¬ (281474976710656 < Builtin.nextslicecap (n + s.size) c * i.bytes) := by omega
 rw [<- h3] at hfx
 have h31 : i.size = 1 := by rw [h3]; exact hz1
 rw [<- h31] at hfy
 generalize (if agg then Value.agg z.toArray else z.getD 0 undef) = zz at h2 hzc
 simp [Builtin.append_, run_underlying ht, run_underlying hu, sizeOf, typeInfo, zeroValue, h1, h2, Builtin.lenOf, hn1, hn2, hn3, Question.forced, newRow, hfx, hfy, grownCap, hzc]
 congr 2
 apply Array.ext'
 simp [Ug, strCells]
end
theorem St.appendZ {P : Program} {w0 w : World} {l : List HProp} {t u ty T : TypeId} {z : List Value} {agg : Bool} {bytes : Nat} {n c : Nat} {a : Option Addr} {xs : List Value} {s : ByteArray} (h : St w0 (Own T 1 a n c xs :: l) w)
  (ht : P.underlying t = some (.slice T)) (hu : P.underlying u = some .string) (hi : Inf P T z agg bytes) (hz1 : z.length = 1) (hb : (n + s.size) * bytes <= 140737488355328) (h63 : n + s.size <= 9223372036854775807) :
  ∃ a' c' w', (Builtin.append_ #[t, u] ty #[.slice a n c, .string s]).run P w = .ok (.slice a' (n + s.size) c') w' ∧ St w0 (Own T 1 a' (n + s.size) c' (xs ++ strCells s) :: l) w' := by
 obtain ⟨h2, h3, h4⟩ := h.own_cases
 have hx := h.own_rd
 have hsl := strCells_length s
 rw [Nat.mul_one] at h2
 by_cases hg : c < n + s.size
 ·obtain ⟨k, hr⟩ := run_append_growsZ (P := P) (ty := ty) (c := c) (s := s) ht hu hi hz1 (hz1 ▸ hx) hg hb h63
  refine ⟨_, _, _, hr, ?_⟩
  have h5 := (h.drop.drew).alloc (.cells (xs ++ strCells s ++ (Builtin.zeroCells z.toArray k).toList).toArray T)
  refine St.own_mk h5 (c := n + s.size + k) ?_ ?_ (Nat.le_add_right _ _)
  ·rw [Ua, Ua, zeroCells_len, h2, hsl]; simp [hz1]
  ·rw [Ug, <- Ug]
   exact List.take_left' (by rw [Ua, h2, hsl, Nat.mul_one])
 ·obtain ⟨i, hi1, hi2, hi3, hi4⟩ := hi.get
  have h31 : i.size = 1 := by rw [hi3]; exact hz1
  rcases h4 with ⟨rfl, rfl, rfl, h5⟩ | ⟨g, cur, rfl, h5, h6, h7⟩
  ·have hs0 : s.size = 0 := by omega
   have hxs : xs = [] := Uf h2
   have hys : strCells s = [] := Uf (by rw [hsl]; exact hs0)
   subst hxs
   have hfy := run_firstCells_string (P := P) w 1 s
   rw [hs0] at hfy ⊢
   rw [hys]
   refine ⟨none, 0, w, ?_, h5.ownNil T 1⟩
   simp [Builtin.append_, run_underlying ht, run_underlying hu, sizeOf, typeInfo, hi1, Builtin.lenOf, hs0, h31, hfy]
  ·rw [Nat.mul_one] at h5 h6
   have hr := run_append_room_string (P := P) w t u ty T i ht hu hi1 h31 g n c cur.toArray h7.hd.1 s O3 (by simp only [Vj]; omega)
   refine ⟨_, _, _, hr, ?_⟩
   simp only [List.toList_toArray] at hr ⊢
   have h8 : St w0 (pt g (.cells (cur.take n ++ strCells s ++ cur.drop (n + s.size)).toArray T (0, 0)) :: l) (w.setRow g (cur.take n ++ strCells s ++ cur.drop (n + s.size)).toArray) :=
    h7.put rfl rfl rfl O8 (fun k hk => setRow_other w g k _ hk) (setRow_heap w g _ _ T (0, 0) h7.hd.1)
   refine St.own_mk' h8 (c := c) ?_ ?_ O3
   ·simp only [Ua, Ve, List.length_drop, hsl]; omega
   ·rw [h6]
    exact List.take_left' (by rw [Ua, h2, hsl, Nat.mul_one])
section
variable {P : Program} {e : Env} {w w0 : World} {l : List HProp} {K : Env -> World -> Prop} {ty : TypeId} {pos : String} {af : Array Edge} {g : Option (Nat × Bool)}
theorem yt {c : Nat} {t u T : TypeId} [ht : Und P t (.slice T)] [hu : Und P u .string] {z : List Value} {agg : Bool} {bytes : Nat} [hi : Inf P T z agg bytes] {x y : Operand} {a : Option Addr} {m c1 : Nat} {bs s : List UInt8}
  (h : St w0 (Own T 1 a m c1 (bytesV bs) :: l) w) (hm : m = bs.length) (hx : ev e x = .slice a m c1) (hy : ev e y = .string (strB s)) (hz1 : Nat.beq z.length 1 = true) (hb : (bs.length + s.length) * bytes <= 140737488355328) (h63 : bs.length + s.length <= 9223372036854775807)
  (k : ∀ a' c' w', St w0 (Own T 1 a' (bs ++ s).length c' (bytesV (bs ++ s)) :: l) w' -> K (upd e c (.slice a' (bs ++ s).length c')) w') :
  Ex P ⟨some c, .call ⟨.builtin .append, [x, y].toArray, [t, u].toArray⟩, ty, pos, af, g⟩ e w K := by
 subst hm
 obtain ⟨a', c', w', hrun, hst⟩ := h.appendZ (s := strB s) (ty := ty) ht.h hu.h hi (Uh hz1) (by rw [strB_size]; exact hb) (by rw [strB_size]; exact h63)
 rw [strB_size, strCells_B] at hst
 rw [strB_size] at hrun
 have e1 : (bs ++ s).length = bs.length + s.length := Ua
 have e2 : bytesV (bs ++ s) = bytesV bs ++ bytesV s := by simp [bytesV]
 refine x_w (v := .slice a' (bs ++ s).length c') (w' := w') ?_ (k _ _ _ (by rw [e1, e2]; exact hst))
 rw [e1]
 simp [execOp, resolve, hx, hy, invoke, builtin, hrun]
end
end
end Go.Hw
