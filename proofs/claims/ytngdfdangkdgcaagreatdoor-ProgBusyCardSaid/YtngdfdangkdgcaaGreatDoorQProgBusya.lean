/- What the proof of ProgBusy needs, part 1: plain lemmas, and what each function does. -/
import Derived.WalkKit
import Derived.Deep.Draws
import Derived.Deep.LoopGhost
import Derived.Deep.MidRow
import Derived.Lib.FrozenHead
import Derived.Laws.IdiomStrings
import Derived.Laws.MakeOwn
import Derived.ProofKit
import Derived.OpenShut
import Derived.JoinedCond
import Derived.Carry
import Derived.KernelRfl
import Derived.Laws.Strings2
import Derived.Test.YtngdfdangkdgcaaGreatDoorProg
set_option linter.unusedVariables false
set_option linter.unusedSimpArgs false
set_option linter.unnecessarySimpa false
set_option maxRecDepth 100000
set_option maxHeartbeats 4000000
namespace Go
abbrev Value.iz (n : Int) : Value := .int .i64 n
abbrev Value.pz (b : Nat) : Value := .pointer (some ⟨b, 0, none⟩)
abbrev sQ (b : Nat) : Option Addr := some ⟨b, 0, none⟩
abbrev V0 : Value := Value.int .i64 0
abbrev V1 : Value := Value.slice none 0 0
abbrev V2 : Value := Value.bool false
abbrev V3 : Value := Value.pointer none
abbrev V4 : Value := Value.int .u64 0
abbrev V5 : Value := Value.int .u8 0
abbrev V6 : Value := Value.string ByteArray.empty
abbrev Ua := @List.length_append
abbrev Ub := @List.mem_cons_self
abbrev Uc := @List.getElem?_eq_getElem
abbrev Ud := @Nat.zero_le
abbrev Ue := @List.mem_cons_of_mem
abbrev Uf := @List.getElem?_eq_some_iff
abbrev Ug := @Nat.le_refl
abbrev Uh := @List.flatMap_cons
abbrev Ui := @List.length_cons
abbrev Uj := @List.mem_of_getElem?
abbrev Uk := @Option.some.inj
abbrev Ul := @Nat.mod_eq_of_lt
abbrev Um := @List.append_assoc
abbrev Un := @List.eq_nil_of_length_eq_zero
abbrev Uo := @List.mem_cons
abbrev Up := @List.nil_append
abbrev Uq := @List.length_drop
abbrev Ur := @Bool.and_eq_true
abbrev Us := @List.length_take
abbrev Ut := @Nat.mul_le_mul_right
abbrev Uu := @Int.le_refl
abbrev Uv := @List.take_of_length_le
abbrev Uw := @List.append_nil
abbrev Ux := @List.map_cons
abbrev Uy := @Nat.le_trans
abbrev Uz := @Nat.zero_add
abbrev Va := @Option.map_eq_some_iff
abbrev Vb := @List.mem_map
abbrev Vc := @List.mem_singleton
abbrev Vd := @List.length_set
abbrev Ve := @List.length_map
abbrev Vf := @List.set_cons_zero
abbrev Vg := @Nat.pow_le_pow_right
abbrev Vh := @Nat.eq_of_beq_eq_true
abbrev Vi := @Nat.add_mul
abbrev Vj := @Int.not_lt
abbrev Vk := @List.getElem?_eq_none
abbrev Vl := @List.take_add_one
abbrev Vm := @List.set_cons_succ
abbrev Vn := @Bool.false_ne_true
abbrev Vo := @List.drop_eq_nil_of_le
abbrev Vp := @Option.isSome_iff_exists
abbrev Vq := @Option.some.injEq
abbrev Vr := @Nat.mod_lt
abbrev Vs := @Nat.min_eq_left
abbrev Vt := @List.length_pos_iff
abbrev Vu := @List.take_succ_cons
abbrev Vv := @List.filter_cons
abbrev Vw := @List.nodup_cons
abbrev Vx := @List.countP_le_length
abbrev Vy := @Int.le_trans
abbrev Vz := @List.drop_eq_getElem_cons
abbrev Wa := @List.getElem?_append_left
abbrev Wb := @Nat.le_of_ble_eq_true
abbrev Wc := @List.drop_succ_cons
abbrev Wd := @List.map_append
abbrev We := @List.cons_append
abbrev Wg := @Classical.byContradiction
abbrev Wh := @Nat.mul_comm
abbrev Wi := @List.getElem?_set_self
abbrev Wj := @Nat.two_pow_pos
abbrev Wk := @Nat.lt_succ_self
abbrev Wl := @List.countP_cons
abbrev Wm := @Nat.add_zero
abbrev Wo := @Bool.not_eq_true'
abbrev Wp := @List.getElem?_map
abbrev Wq := @Nat.eq_zero_or_pos
abbrev Wr := @Nat.xor_lt_two_pow
abbrev Ws := @List.mem_append
abbrev Wt := @Nat.add_comm
abbrev Wu := @List.size_toArray
abbrev Wv := @List.take_append_of_le_length
abbrev Ww := @List.mem_of_mem_erase
abbrev Wx := @List.length_filter_le
abbrev Wy := @List.length_erase_of_mem
abbrev Wz := @List.drop_zero
abbrev Xa := @Option.map_some
abbrev Xb := @Nat.lt_of_le_of_lt
abbrev Xc := @Bool.false_eq_true
abbrev Xd := @List.getElem?_cons_zero
abbrev Xe := @List.all_eq_true
abbrev Xf := @List.mem_flatMap
abbrev Xg := @List.map_toArray
abbrev Xh := @List.eraseIdx_cons_succ
abbrev Xi := @List.mem_of_mem_take
abbrev Xj := @List.getElem?_append_right
abbrev Xk := @List.take_zero
abbrev Xl := @List.findIdx_le_length
abbrev Xm := @List.flatMap_append
abbrev Xn := @List.countP_pos_iff
abbrev Xo := @List.mem_filter
abbrev Xp := @Nat.lt_of_lt_of_le
abbrev Xq := @Nat.blt_eq
abbrev Xr := @Nat.add_sub_cancel_left
abbrev Xs := @List.length_nil
abbrev Xt := @Nat.lt_or_ge
abbrev Xu := @Nat.pow_add
abbrev Xv := @List.length_eraseIdx_of_lt
abbrev Xw := @List.append_ne_nil_of_right_ne_nil
abbrev Xx := @List.length_replicate
abbrev Xy := @List.set_eq_take_append_cons_drop
abbrev Xz := @List.findIdx?_eq_some_iff_getElem
abbrev Za := @Bool.or_eq_false_iff
abbrev Zb := @Nat.sub_self
abbrev Zc := @List.length_range
abbrev Zd := @List.findIdx_cons
abbrev Ze := @List.getElem?_range
abbrev Zf := @List.replicate_succ
abbrev Zg := @List.mem_range
abbrev Zh := @List.getElem?_cons_succ
abbrev Zi := @List.drop_append
abbrev Zj := @List.take_length
abbrev Zk := @Nat.succ_mul
abbrev Zl := @List.take_append_drop
abbrev Zm := @List.eraseIdx_sublist
abbrev Zn := @List.mem_iff_getElem?
abbrev Zo := @Int.toNat_natCast
abbrev Zp := @List.getElem?_set
abbrev Zq := @List.getD_eq_getElem?_getD
abbrev Zr := @Int.fdiv_eq_ediv_of_nonneg
abbrev Zs := @Int.tmod_eq_emod_of_nonneg
abbrev Zt := @Nat.mul_le_mul
abbrev Zu := @List.drop_left
abbrev Zv := @List.take_left
abbrev Zw := @List.nodup_nil
abbrev Zx := @Nat.add_right_cancel
abbrev Zy := @Nat.blt
abbrev Zz := @List.getElem_mem
abbrev Ka := @List.not_mem_nil
abbrev Kb := @List.drop_length
abbrev Kc := @List.take_append
abbrev Kd := @List.set_set
abbrev Ke := @Bool.not_eq_true
abbrev Kf := @Nat.add_assoc
abbrev Kg := @Option.map_none
abbrev Kh := @List.getElem?_take
abbrev Ki := @Nat.and_lt_two_pow
abbrev Kj := @Int.natCast_nonneg
abbrev Kk := @Nat.and_one_is_mod
abbrev Kl := @List.filter_append
abbrev Km := @List.mem_replicate
theorem O_o {p : Prop} (h : p := by omega) : p := h
theorem O_d {p : Prop} (h : p := by dsimp only; omega) : p := h
theorem O_t {p : Prop} (h : p := by (try dsimp only); omega) : p := h
theorem O_c {p : Prop} (h : p := by decide) : p := h
end Go
namespace Go
theorem zz2 {α0 : Type} {a0 : α0} {α1 : Type} {a1 : α1} : a0 = a0 ∧ a1 = a1 ∧ True := ⟨rfl, rfl, trivial⟩
theorem zz3 {α0 : Type} {a0 : α0} {α1 : Type} {a1 : α1} {α2 : Type} {a2 : α2} : a0 = a0 ∧ a1 = a1 ∧ a2 = a2 ∧ True := ⟨rfl, rfl, rfl, trivial⟩
theorem zz4 {α0 : Type} {a0 : α0} {α1 : Type} {a1 : α1} {α2 : Type} {a2 : α2} {α3 : Type} {a3 : α3} : a0 = a0 ∧ a1 = a1 ∧ a2 = a2 ∧ a3 = a3 ∧ True := ⟨rfl, rfl, rfl, rfl, trivial⟩
theorem zz5 {α0 : Type} {a0 : α0} {α1 : Type} {a1 : α1} {α2 : Type} {a2 : α2} {α3 : Type} {a3 : α3} {α4 : Type} {a4 : α4} : a0 = a0 ∧ a1 = a1 ∧ a2 = a2 ∧ a3 = a3 ∧ a4 = a4 ∧ True := ⟨rfl, rfl, rfl, rfl, rfl, trivial⟩
theorem zz6 {α0 : Type} {a0 : α0} {α1 : Type} {a1 : α1} {α2 : Type} {a2 : α2} {α3 : Type} {a3 : α3} {α4 : Type} {a4 : α4} {α5 : Type} {a5 : α5} : a0 = a0 ∧ a1 = a1 ∧ a2 = a2 ∧ a3 = a3 ∧ a4 = a4 ∧ a5 = a5 ∧ True := ⟨rfl, rfl, rfl, rfl, rfl, rfl, trivial⟩
theorem zz7 {α0 : Type} {a0 : α0} {α1 : Type} {a1 : α1} {α2 : Type} {a2 : α2} {α3 : Type} {a3 : α3} {α4 : Type} {a4 : α4} {α5 : Type} {a5 : α5} {α6 : Type} {a6 : α6} : a0 = a0 ∧ a1 = a1 ∧ a2 = a2 ∧ a3 = a3 ∧ a4 = a4 ∧ a5 = a5 ∧ a6 = a6 ∧ True := ⟨rfl, rfl, rfl, rfl, rfl, rfl, rfl, trivial⟩
theorem zz8 {α0 : Type} {a0 : α0} {α1 : Type} {a1 : α1} {α2 : Type} {a2 : α2} {α3 : Type} {a3 : α3} {α4 : Type} {a4 : α4} {α5 : Type} {a5 : α5} {α6 : Type} {a6 : α6} {α7 : Type} {a7 : α7} : a0 = a0 ∧ a1 = a1 ∧ a2 = a2 ∧ a3 = a3 ∧ a4 = a4 ∧ a5 = a5 ∧ a6 = a6 ∧ a7 = a7 ∧ True := ⟨rfl, rfl, rfl, rfl, rfl, rfl, rfl, rfl, trivial⟩
end Go
namespace Go
theorem O0 {p : Prop} (h : p := by omega) : p := h
theorem O1 {p : Prop} (h : p := by kernel_rfl) : p := h
theorem O2 {p : Prop} (h : p := by decide) : p := h
theorem O3 {p : Prop} (h : p := by congr 1; rw [decide_eq_true_eq]; omega) : p := h
theorem O4 {p : Prop} (h : p := by congr 1; rw [decide_eq_false_iff_not]; omega) : p := h
theorem O5 {p : Prop} (h : p := by congr 1; rw [beq_eq_false_iff_ne]; omega) : p := h
theorem O6 {p : Prop} (h : p := by simp; omega) : p := h
theorem O7 {p : Prop} (h : p := by rw [wrap64 O0 O0]; rfl) : p := h
theorem O8 {p : Prop} (h : p := by simp) : p := h
theorem O9 {p : Prop} (h : p := by rw [wrap64 O0 O0]; congr 1; omega) : p := h
theorem O10 {p : Prop} (h : p := by unfold Run.wrt; omega) : p := h
theorem O11 {p : Prop} (h : p := by rw [wrap64 O0 O0]) : p := h
theorem O12 {p : Prop} (h : p := by congr 1 <;> (rw [decide_eq_false_iff_not]; omega)) : p := h
theorem O13 {p : Prop} (h : p := by congr 1; rw [beq_iff_eq]; omega) : p := h
theorem O14 {p : Prop} (h : p := by assumption) : p := h
theorem O15 {p : Prop} (h : p := by simpa using h) : p := h
theorem O16 {p : Prop} (h : p := by rw [<- hsl]; rfl) : p := h
theorem O17 {p : Prop} (h : p := by rw [wrap64 O0 O0]; congr 1) : p := h
theorem O18 {p : Prop} (h : p := by rw [zd, Ul O0]) : p := h
theorem O19 {p : Prop} (h : p := by congr 1; rw [wrap64 O0 O0]; omega) : p := h
theorem O20 {p : Prop} (h : p := by rw [decide_eq_true_eq]; exact hc) : p := h
theorem O21 {p : Prop} (h : p := by dsimp only; omega) : p := h
theorem O22 {p : Prop} (h : p := by rw [Uq]; omega) : p := h
theorem O23 {p : Prop} (h : p := by rw [uw, UInt8.toNat_ofNat']) : p := h
theorem O24 {p : Prop} (h : p := by show s'.b.last <= _; omega) : p := h
theorem O25 {p : Prop} (h : p := by rw [Ua]; omega) : p := h
theorem O26 {p : Prop} (h : p := by simp [hx]) : p := h
theorem O27 {p : Prop} (h : p := by congr 1; simp; omega) : p := h
end Go
namespace Go.Hw
section
abbrev Hp := Nat -> Option Obj
abbrev HProp := Hp -> Prop
def Hp.disj (a b : Hp) : Prop := ∀ k, a k = none ∨ b k = none
def Hp.join (a b : Hp) : Hp := fun k => (a k).or (b k)
def Hp.nil : Hp := fun _ => none
theorem Hp.disj_comm {a b : Hp} (h : Hp.disj a b) : Hp.disj b a := fun k => (h k).symm
theorem Hp.join_comm {a b : Hp} (h : Hp.disj a b) : Hp.join a b = Hp.join b a := by
 funext k
 unfold Hp.join
 rcases h k with h | h
 ·rw [h]; cases b k <;> rfl
 ·rw [h]; cases a k <;> rfl
theorem Hp.join_assoc (a b c : Hp) : Hp.join (Hp.join a b) c = Hp.join a (Hp.join b c) := by
 funext k; unfold Hp.join; cases a k <;> rfl
theorem Hp.nil_join (a : Hp) : Hp.join Hp.nil a = a := by funext k; rfl
theorem Hp.join_none {a b : Hp} {k : Nat} : Hp.join a b k = none ↔ a k = none ∧ b k = none := by
 unfold Hp.join; cases a k <;> simp
theorem Hp.disj_join {a b c : Hp} : Hp.disj a (Hp.join b c) ↔ Hp.disj a b ∧ Hp.disj a c := by
 constructor
 ·intro h
  exact ⟨fun k => (h k).imp id (fun h => (Hp.join_none.1 h).1), fun k => (h k).imp id (fun h => (Hp.join_none.1 h).2)⟩
 ·rintro ⟨h, g⟩ k
  rcases h k with h | h
  ·exact .inl h
  ·exact (g k).imp id (fun g => Hp.join_none.2 ⟨h, g⟩)
def emp : HProp := fun h => h = Hp.nil
def star (P Q : HProp) : HProp := fun h => ∃ a b, Hp.disj a b ∧ h = Hp.join a b ∧ P a ∧ Q b
def all : List HProp -> HProp
 | [] => emp
 | P :: l => star P (all l)
def pt (b : Nat) (o : Obj) : HProp := fun h => h = fun k => if k = b then some o else none
def ex {α : Type} (P : α -> HProp) : HProp := fun h => ∃ x, P x h
def lift (φ : Prop) : HProp := fun h => φ ∧ h = Hp.nil
theorem sq (P Q : HProp) : star P Q = star Q P := by
 have aux : ∀ (P Q : HProp) h, star P Q h -> star Q P h := by
  rintro P Q h ⟨a, b, hd, rfl, hp, hq⟩
  exact ⟨b, a, Hp.disj_comm hd, Hp.join_comm hd, hq, hp⟩
 funext h
 exact propext ⟨aux _ _ _, aux _ _ _⟩
theorem jf (P Q R : HProp) : star (star P Q) R = star P (star Q R) := by
 funext h
 apply propext
 constructor
 ·rintro ⟨ab, c, hd, rfl, ⟨a, b, hd', rfl, hp, hq⟩, hr⟩
  have hd2 := Hp.disj_join.1 (Hp.disj_comm hd)
  exact ⟨a, Hp.join b c, Hp.disj_join.2 ⟨hd', Hp.disj_comm hd2.1⟩, Hp.join_assoc a b c, hp, b, c, Hp.disj_comm hd2.2, rfl, hq, hr⟩
 ·rintro ⟨a, bc, hd, rfl, hp, b, c, hd', rfl, hq, hr⟩
  have hd2 := Hp.disj_join.1 hd
  exact ⟨Hp.join a b, c, Hp.disj_comm (Hp.disj_join.2 ⟨Hp.disj_comm hd2.2, Hp.disj_comm hd'⟩), (Hp.join_assoc a b c).symm, ⟨a, b, hd2.1, rfl, hp, hq⟩, hr⟩
theorem v5 (P Q R : HProp) : star P (star Q R) = star Q (star P R) := by
 rw [<- jf, sq P Q, jf]
theorem ko (P : HProp) : star emp P = P := by
 funext h
 apply propext
 constructor
 ·rintro ⟨a, b, _, rfl, ha, hp⟩
  unfold emp at ha
  subst ha
  rw [Hp.nil_join]
  exact hp
 ·intro hp
  exact ⟨Hp.nil, h, fun _ => .inl rfl, (Hp.nil_join h).symm, rfl, hp⟩
instance : Std.Associative star := ⟨jf⟩
instance : Std.Commutative star := ⟨sq⟩
theorem kj (l m : List HProp) : all (l ++ m) = star (all l) (all m) := by
 induction l with
 | nil => exact (ko _).symm
 | cons P l ih => show star P (all (l ++ m)) = _; rw [ih]; exact (jf _ _ _).symm
def bring : Nat -> List HProp -> List HProp
 | 0, l => l
 | _ + 1, [] => []
 | k + 1, P :: l => match bring k l with
  | [] => [P]
  | Q :: m => Q :: P :: m
theorem yy (k : Nat) : ∀ l, all (bring k l) = all l := by
 induction k with
 | zero => intro l; rfl
 | succ k ih =>
  intro l
  cases l with
  | nil => rfl
  | cons P l =>
   have := ih l
   simp only [bring]
   cases hb : bring k l with
   | nil => rw [hb] at this; simp only [all] at this ⊢; rw [<- this]
   | cons Q m => rw [hb] at this; simp only [all] at this ⊢; rw [<- this, v5]
structure St (w0 : World) (l : List HProp) (w : World) : Prop where
 os : w.os = w0.os
 tape : w.tape = w0.tape
 output : w.output = w0.output
 size : w0.heap.size <= w.heap.size
 old : ∀ k, k < w0.heap.size -> w.heap[k]? = w0.heap[k]?
 own : ∃ h : Hp, (∀ k o, h k = some o -> w.heap[k]? = some o ∧ w0.heap.size <= k) ∧ all l h
section
variable {w0 w w' : World} {l m : List HProp} {P Q : HProp}
theorem St.init (w : World) : St w [] w := ⟨rfl, rfl, rfl, Ug _, fun _ _ => rfl, Hp.nil, (fun _ _ h => nomatch h), rfl⟩
theorem St.below (h : St w0 l w) : RowKit.Below w0.heap.size w0 w := ⟨h.os, h.tape, h.output, h.size, h.old⟩
theorem St.of_all (h : St w0 l w) (e : all l = all m) : St w0 m w := ⟨h.os, h.tape, h.output, h.size, h.old, by rw [<- e]; exact h.own⟩
theorem St.imp (h : St w0 l w) (e : ∀ p, all l p -> all m p) : St w0 m w :=
 ⟨h.os, h.tape, h.output, h.size, h.old, let ⟨p, a, b⟩ := h.own; ⟨p, a, e p b⟩⟩
theorem St.f (k : Nat) (h : St w0 l w) : St w0 (bring k l) w := h.of_all (yy k l).symm
theorem St.join (h : St w0 (all m :: l) w) : St w0 (m ++ l) w := h.of_all (kj m l).symm
theorem St.fold (m : List HProp) (h : St w0 (m ++ l) w) : St w0 (all m :: l) w := h.of_all (kj m l)
theorem St.drop (h : St w0 (P :: l) w) : St w0 l w := by
 obtain ⟨p, hp, a, b, hd, rfl, _, hb⟩ := h.own
 refine ⟨h.os, h.tape, h.output, h.size, h.old, b, fun k o hk => hp k o ?_, hb⟩
 unfold Hp.join
 rcases hd k with h | h
 ·rw [h]; exact hk
 ·rw [hk] at h; cases h
theorem St.ex {α : Type} {P : α -> HProp} : St w0 (ex P :: l) w ↔ ∃ x, St w0 (P x :: l) w := by
 constructor
 ·intro h
  obtain ⟨p, hp, a, b, hd, he, ⟨x, hx⟩, hb⟩ := h.own
  exact ⟨x, h.os, h.tape, h.output, h.size, h.old, p, hp, a, b, hd, he, hx, hb⟩
 ·rintro ⟨x, h⟩
  obtain ⟨p, hp, a, b, hd, he, hx, hb⟩ := h.own
  exact ⟨h.os, h.tape, h.output, h.size, h.old, p, hp, a, b, hd, he, ⟨x, hx⟩, hb⟩
theorem St.lift {φ : Prop} : St w0 (lift φ :: l) w ↔ φ ∧ St w0 l w := by
 constructor
 ·intro h
  obtain ⟨p, hp, a, b, hd, he, ⟨hφ, ha⟩, hb⟩ := h.own
  exact ⟨hφ, h.drop⟩
 ·rintro ⟨hφ, h⟩
  obtain ⟨p, hp, hb⟩ := h.own
  exact ⟨h.os, h.tape, h.output, h.size, h.old, p, hp, Hp.nil, p, fun _ => .inl rfl, (Hp.nil_join p).symm, ⟨hφ, rfl⟩, hb⟩
theorem St.mono (h : St w0 (P :: l) w) (e : ∀ p, P p -> Q p) : St w0 (Q :: l) w :=
 h.imp fun _ ⟨a, b, hd, he, hp, hb⟩ => ⟨a, b, hd, he, e _ hp, hb⟩
theorem St.hd {b : Nat} {o : Obj} (h : St w0 (pt b o :: l) w) : w.heap[b]? = some o ∧ w0.heap.size <= b := by
 obtain ⟨p, hp, a, c, hd, he, ha, hb⟩ := h.own
 refine hp b o ?_
 rw [he]
 unfold Hp.join
 unfold pt at ha
 rw [ha]
 simp
theorem uf (k : Nat) : ∀ (l : List HProp) {P : HProp}, l[k]? = some P -> bring k l = P :: l.eraseIdx k := by
 induction k with
 | zero => intro l P h; cases l with | nil => cases h | cons a l => simp at h; subst h; rfl
 | succ k ih =>
  intro l P h
  cases l with
  | nil => cases h
  | cons a l => simp only [bring]; rw [ih l O15]; rfl
theorem St.b (k : Nat) {b : Nat} {o : Obj} (h : St w0 l w) (hk : l[k]? = some (pt b o) := by rfl) : w.heap[b]? = some o :=
 (show St w0 (pt b o :: l.eraseIdx k) w from (uf k l hk) ▸ h.f k).hd.1
theorem St.new (k : Nat) {b : Nat} {o : Obj} (h : St w0 l w) (hk : l[k]? = some (pt b o) := by rfl) : w0.heap.size <= b :=
 (show St w0 (pt b o :: l.eraseIdx k) w from (uf k l hk) ▸ h.f k).hd.2
theorem St.ne2 {b c : Nat} {o q : Obj} (h : St w0 (pt b o :: pt c q :: l) w) : b ≠ c := by
 rintro rfl
 obtain ⟨p, hp, a, r, hd, he, ha, s, t, hd', he', hs, ht⟩ := h.own
 unfold pt at ha hs
 subst he' ha hs
 rcases hd b with h | h
 ·simp at h
 ·have := (Hp.join_none.1 h).1; simp at this
theorem St.cell_old (h : St w0 l w) {a : Addr} (ha : a.block < w0.heap.size) : w.cell? a = w0.cell? a := World.cell?_of_block (h.old _ ha)
theorem St.grow (h : St w0 l w) (ho : w'.os = w.os) (ht : w'.tape = w.tape) (hp : w'.output = w.output) (hs : w.heap.size <= w'.heap.size)
  (hb : ∀ k, k < w.heap.size -> w'.heap[k]? = w.heap[k]?) : St w0 l w' := by
 obtain ⟨p, hq, hl⟩ := h.own
 refine ⟨ho.trans h.os, ht.trans h.tape, hp.trans h.output, Uy h.size hs, fun k hk => (hb k (Xp hk h.size)).trans (h.old k hk), p, fun k o hk => ?_, hl⟩
 have := hq k o hk
 exact ⟨by rw [hb k (Array.getElem?_eq_some_iff.1 this.1).1]; exact this.1, this.2⟩
theorem St.drew (h : St w0 l w) : St w0 l w.drew := h.grow rfl rfl rfl (Ug _) (fun _ _ => rfl)
theorem St.grow1 (h : St w0 l w) (ho : w'.os = w.os) (ht : w'.tape = w.tape) (hp : w'.output = w.output) (hs : w.heap.size <= w'.heap.size)
  (hb : ∀ k, k < w.heap.size -> w'.heap[k]? = w.heap[k]?) {g : Nat} {o : Obj} (hg : w.heap.size <= g) (hn : w'.heap[g]? = some o) : St w0 (pt g o :: l) w' := by
 have h' := h.grow ho ht hp hs hb
 obtain ⟨p, hq, hl⟩ := h.own
 have hpg : p g = none := by
  cases hc : p g with
  | none => rfl
  | some o' => exact absurd (Array.getElem?_eq_some_iff.1 (hq g o' hc).1).1 O0
 refine ⟨h'.os, h'.tape, h'.output, h'.size, h'.old, Hp.join (fun k => if k = g then some o else none) p, ?_, (fun k => if k = g then some o else none), p, ?_, rfl, rfl, hl⟩
 ·intro k o' hk
  unfold Hp.join at hk
  by_cases e : k = g
  ·subst e; simp at hk; subst hk; exact ⟨hn, Uy h.size hg⟩
  ·simp [e] at hk
   have := hq k o' hk
   exact ⟨by rw [hb k (Array.getElem?_eq_some_iff.1 this.1).1]; exact this.1, this.2⟩
 ·intro k
  by_cases e : k = g
  ·subst e; exact .inr hpg
  ·exact .inl (by simp [e])
theorem St.alloc (h : St w0 l w) (o : Obj) : St w0 (pt w.heap.size o :: l) (w.alloc o) :=
 h.grow1 (w' := w.alloc o) rfl rfl rfl O8 (fun k hk => RowKit.Below.heap_alloc w o k hk) (Ug _) (heap_alloc_new w o)
theorem St.put {b : Nat} {o o' : Obj} (h : St w0 (pt b o :: l) w) (ho : w'.os = w.os) (ht : w'.tape = w.tape) (hp : w'.output = w.output) (hs : w.heap.size = w'.heap.size)
  (hb : ∀ k, k ≠ b -> w'.heap[k]? = w.heap[k]?) (hn : w'.heap[b]? = some o') : St w0 (pt b o' :: l) w' := by
 have hnew := h.hd.2
 obtain ⟨p, hq, a, c, hd, he, ha, hl⟩ := h.own
 unfold pt at ha
 subst ha
 have hcb : c b = none := by
  rcases hd b with h | h
  ·simp at h
  ·exact h
 refine ⟨ho.trans h.os, ht.trans h.tape, hp.trans h.output, hs ▸ h.size, fun k hk => (hb k O0).trans (h.old k hk), Hp.join (fun k => if k = b then some o' else none) c, ?_, (fun k => if k = b then some o' else none), c, ?_, rfl, rfl, hl⟩
 ·intro k q hk
  unfold Hp.join at hk
  by_cases e : k = b
  ·subst e; simp at hk; subst hk; exact ⟨hn, hnew⟩
  ·simp [e] at hk
   have := hq k q (by rw [he]; unfold Hp.join; simp [e, hk])
   exact ⟨by rw [hb k e]; exact this.1, this.2⟩
 ·intro k
  by_cases e : k = b
  ·subst e; exact .inr hcb
  ·exact .inl (by simp [e])
theorem St.putk (k : Nat) {b : Nat} {o o' : Obj} (h : St w0 l w) (hk : l[k]? = some (pt b o)) (ho : w'.os = w.os) (ht : w'.tape = w.tape) (hp : w'.output = w.output) (hs : w.heap.size = w'.heap.size)
  (hb : ∀ k, k ≠ b -> w'.heap[k]? = w.heap[k]?) (hn : w'.heap[b]? = some o') : St w0 (l.set k (pt b o')) w' := by
 have h1 : St w0 (pt b o :: l.eraseIdx k) w := (uf k l hk) ▸ h.f k
 have h2 := h1.put ho ht hp hs hb hn
 have hlt : k < l.length := by
  rcases Xt k l.length with h | h
  ·exact h
  ·rw [Vk h] at hk; cases hk
 have e : bring k (l.set k (pt b o')) = pt b o' :: l.eraseIdx k := by
  rw [uf k (l.set k (pt b o')) (P := pt b o') (by simp [hlt]), List.eraseIdx_set_eq]
 refine h2.of_all ?_
 rw [<- e, yy]
end
end
section
abbrev Env := Nat -> Value
def upd (e : Env) (d : Nat) (v : Value) : Env := fun i => bif Nat.beq i d then v else e i
def updO (e : Env) : Option Nat -> Value -> Env
 | some d, v => upd e d v
 | none, _ => e
def ev (e : Env) : Operand -> Value
 | .tmp t => e t
 | .const v => v
 | .global g => .pz g
 | .func f => .func (.func f) #[] #[]
theorem uo (e : Env) (d : Nat) (v : Value) : upd e d v d = v := by simp [upd]
theorem j8 {e : Env} {d i : Nat} {v : Value} (h : i ≠ d) : upd e d v i = e i := by
 have : Nat.beq i d = false := by
  cases hb : Nat.beq i d with
  | false => rfl
  | true => exact absurd (Vh hb) h
 unfold upd; rw [this]; rfl
theorem ru {e : Env} {c d : Nat} {u v : Value} (h : c ≠ d) : upd (upd e c u) d v = upd (upd e d v) c u := by
 funext i
 by_cases h1 : i = c
 ·subst h1; rw [j8 h, uo, uo]
 ·by_cases h2 : i = d
  ·subst h2; rw [uo, j8 h1, uo]
  ·rw [j8 h2, j8 h1, j8 h1, j8 h2]
theorem ry {e : Env} {d : Nat} {v : Value} (h : e d = v) : upd e d v = e := by
 funext i
 by_cases h1 : i = d
 ·subst h1; rw [uo, h]
 ·rw [j8 h1]
structure Fits (n : Nat) (e : Env) (a : Act) : Prop where
 defers : a.defers = []
 size : a.tmps.size = n
 get : ∀ i, a.tmps.getD i undef = e i
theorem Fits.eval {n : Nat} {e : Env} {a : Act} (h : Fits n e a) : a.eval = ev e := by
 funext x
 cases x with
 | tmp t => exact h.get t
 | _ => rfl
def okd (n : Nat) : Option Nat -> Bool
 | some d => Zy d n
 | none => true
theorem Fits.put {n : Nat} {e : Env} {a : Act} (h : Fits n e a) {d : Option Nat} (hd : okd n d = true) (v : Value) : Fits n (updO e d v) (a.put d v) := by
 cases d with
 | none => exact h
 | some d =>
  have hlt : d < n := by simpa [okd, Xq] using hd
  refine ⟨h.defers, by simp [Act.put, h.size], fun i => ?_⟩
  simp only [Act.put, updO]
  by_cases hi : i = d
  ·subst hi
   rw [uo]
   simp [h.size, hlt]
  ·rw [j8 hi, <- h.get i]
   simp [Array.getD_eq_getD_getElem?, Array.getElem?_setIfInBounds, Ne.symm hi]
abbrev Post := Exit -> Env -> World -> Prop
def lft (n : Nat) (Q : Post) : Exit -> Act -> World -> Prop := fun x a w => ∃ e, Fits n e a ∧ Q x e w
theorem rz {n : Nat} {Q Q' : Post} (h : ∀ x e w, Q x e w -> Q' x e w) : ∀ x a w, lft n Q x a w -> lft n Q' x a w :=
 fun x _ w ⟨e, f, q⟩ => ⟨e, f, h x e w q⟩
def Cd (P : Program) (n : Nat) (c : Code) (Q : Post) (e : Env) (w : World) : Prop := ∀ a, Fits n e a -> c.wp P (lft n Q) a w
def Rn (P : Program) (n : Nat) (ops : Array Oper) (Q : Post) (l : List Oper) (e : Env) (w : World) : Prop := ∀ a, Fits n e a -> wpList P ops (lft n Q) l a w
def Ex (P : Program) (o : Oper) (e : Env) (w : World) (K : Env -> World -> Prop) : Prop :=
 match (execOp (ev e) o).run P w with
 | .ok (.value v) w' => K (updO e o.dst v) w'
 | .ok .skip w' => K (updO e o.dst undef) w'
 | .ok (.enter f args) w' => Calls P f args w' fun en w'' => ∃ v, en = .returned v ∧ K (updO e o.dst v) w''
 | _ => False
theorem Ex.mono {P : Program} {o : Oper} {e : Env} {w : World} {K K' : Env -> World -> Prop} (h : Ex P o e w K) (hk : ∀ e w, K e w -> K' e w) : Ex P o e w K' := by
 unfold Ex at h ⊢
 split at h
 ·exact hk _ _ h
 ·exact hk _ _ h
 ·exact h.mono fun _ _ ⟨v, a, b⟩ => ⟨v, a, hk _ _ b⟩
 ·exact h.elim
theorem Ex.wp {P : Program} {n : Nat} {o : Oper} {e : Env} {w : World} {K : Env -> World -> Prop} {K' : Act -> World -> Prop} {Q : Post} {a : Act}
  (h : Ex P o e w K) (hf : Fits n e a) (hd : okd n o.dst = true) (hk : ∀ e a w, Fits n e a -> K e w -> K' a w) : o.wp P a w K' (lft n Q) := by
 unfold Oper.wp
 rw [hf.eval]
 unfold Ex at h
 split at h
 ·rename_i v w' hr; rw [hr]; exact hk _ _ _ (hf.put hd _) h
 ·rename_i w' hr; rw [hr]; exact hk _ _ _ (hf.put hd _) h
 ·rename_i f args w' hr
  rw [hr]
  refine h.mono ?_
  rintro en w'' ⟨v, rfl, hv⟩
  exact hk _ _ _ (hf.put hd _) hv
 ·exact h.elim
def gv (ops : Array Oper) (e : Env) (j : Nat) : Option Bool :=
 match ((ops[j]?).bind (·.dst)) with
 | some d => match e d with
  | .bool b => some b
  | _ => none
 | none => none
theorem kg {n : Nat} {ops : Array Oper} {e : Env} {a : Act} (hf : Fits n e a) (j : Nat) : yielded ops a.tmps j = gv ops e j := by
 unfold yielded gv
 cases h : (ops[j]?).bind (·.dst) with
 | none => simp
 | some d =>
  simp only [Option.bind_some]
  have := hf.get d
  rw [Array.getD_eq_getD_getElem?] at this
  rw [<- this]
  cases a.tmps[d]? with
  | none => simp [undef]
  | some v => cases v <;> simp
section
variable {P : Program} {n : Nat} {ops : Array Oper} {Q : Post} {o : Oper} {rest : List Oper} {e : Env} {w : World}
theorem qv (h : Q .normal e w) : Rn P n ops Q [] e w := fun _ hf => ⟨e, hf, h⟩
theorem r_c {d : Option Nat} {op : Op} {ty : TypeId} {pos : String} {af : Array Edge} (hd : okd n d = true) (h : Ex P ⟨d, op, ty, pos, af, none⟩ e w (fun e' w' => Rn P n ops Q rest e' w')) :
  Rn P n ops Q (⟨d, op, ty, pos, af, none⟩ :: rest) e w := by
 intro a hf
 unfold wpList
 rw [if_pos (by simp [Region.wanted])]
 exact .inl (Ex.wp h hf hd (fun e a w hf hr => hr a hf))
theorem r_g {d : Option Nat} {op : Op} {ty : TypeId} {pos : String} {af : Array Edge} {j : Nat} {want : Bool} (hd : okd n d = true) (b : Bool) (hg : gv ops e j = some b)
  (h1 : b = want -> Ex P ⟨d, op, ty, pos, af, some (j, want)⟩ e w (fun e' w' => Rn P n ops Q rest e' w')) (h2 : b = !want -> Rn P n ops Q rest (updO e d undef) w) :
  Rn P n ops Q (⟨d, op, ty, pos, af, some (j, want)⟩ :: rest) e w := by
 intro a hf
 unfold wpList
 have hy := kg (ops := ops) hf j
 by_cases hb : b = want
 ·subst hb
  rw [if_pos (by simp [Region.wanted, hy, hg])]
  exact .inl (Ex.wp (h1 rfl) hf hd (fun e a w hf hr => hr a hf))
 ·rw [if_neg (by simp [Region.wanted, hy, hg, hb])]
  exact h2 (by cases b <;> cases want <;> simp_all) _ (hf.put hd _)
theorem r_gd {d : Option Nat} {op : Op} {ty : TypeId} {pos : String} {af : Array Edge} {j : Nat} {want b : Bool} (hg : gv ops e j = some b) (hb : b = want) (h : Rn P n ops Q (⟨d, op, ty, pos, af, none⟩ :: rest) e w) :
  Rn P n ops Q (⟨d, op, ty, pos, af, some (j, want)⟩ :: rest) e w := by
 subst hb
 intro a hf
 have := h a hf
 unfold wpList at this ⊢
 rw [if_pos (by simp [Region.wanted])] at this
 rw [if_pos (by simp [Region.wanted, kg (ops := ops) hf j, hg])]
 exact this
theorem r_gn {d : Option Nat} {op : Op} {ty : TypeId} {pos : String} {af : Array Edge} {j : Nat} {want b : Bool} (hg : gv ops e j = some b) (hb : b = !want) (hd : okd n d = true) (h2 : Rn P n ops Q rest (updO e d undef) w) :
  Rn P n ops Q (⟨d, op, ty, pos, af, some (j, want)⟩ :: rest) e w := r_g hd b hg (fun h => by subst hb; cases want <;> cases h) (fun _ => h2)
theorem r_gu {d : Option Nat} {op : Op} {ty : TypeId} {pos : String} {af : Array Edge} {j : Nat} {want : Bool} (hd : okd n d = true) (hg : gv ops e j = none)
  (h2 : Rn P n ops Q rest (updO e d undef) w) :
  Rn P n ops Q (⟨d, op, ty, pos, af, some (j, want)⟩ :: rest) e w := by
 intro a hf
 unfold wpList
 rw [if_neg (by simp [Region.wanted, kg (ops := ops) hf j, hg])]
 exact h2 _ (hf.put hd _)
end
section
variable {P : Program} {n : Nat} {Q : Post} {e : Env} {w : World}
theorem j2 {id : Nat} {l : List Oper} (h : Rn P n l.toArray Q l e w) : Cd P n (.region id l.toArray false) Q e w :=
 fun a hf => wp_region_lit (h a hf)
abbrev thn (next : Env -> World -> Prop) (Q : Post) : Post
 | .normal, e, w => next e w
 | x, e, w => Q x e w
theorem qf {x y : Code} (h : Cd P n x (thn (fun e w => Cd P n y Q e w) Q) e w) : Cd P n (.seq x y) Q e w := by
 intro a hf
 refine wp_seq (wp_mono (h a hf) ?_)
 rintro ex a' w' ⟨e', hf', hq⟩
 cases ex with
 | normal => exact hq a' hf'
 | _ => exact ⟨e', hf', hq⟩
abbrev inB (id : Nat) (Q : Post) : Post
 | .exit id', e, w => if id' = id then Q .normal e w else Q (.exit id') e w
 | x, e, w => Q x e w
theorem wy {id : Nat} {c : Code} (h : Cd P n c (inB id Q) e w) : Cd P n (.block id c) Q e w := by
 intro a hf
 refine wp_block (wp_mono (h a hf) ?_)
 rintro ex a' w' ⟨e', hf', hq⟩
 cases ex with
 | exit id' =>
  simp only [inB, Exit.inBlock] at hq ⊢
  split
  ·rename_i h; rw [if_pos h] at hq; exact ⟨e', hf', hq⟩
  ·rename_i h; rw [if_neg h] at hq; exact ⟨e', hf', hq⟩
 | _ => exact ⟨e', hf', hq⟩
theorem qi {c : Operand} {x y : Code} (b : Bool) (hb : ev e c = .bool b) (h1 : b = true -> Cd P n x Q e w) (h2 : b = false -> Cd P n y Q e w) : Cd P n (.cond c x y) Q e w := by
 intro a hf
 refine wp_cond_split (t := b) (by rw [hf.eval]; exact hb) (fun h => h1 h a hf) (fun h => h2 h a hf)
theorem vq {c : Operand} {x y : Code} (hb : ev e c = .bool true) (h : Cd P n x Q e w) : Cd P n (.cond c x y) Q e w := qi true hb (fun _ => h) (fun h => by cases h)
theorem qe {c : Operand} {x y : Code} (hb : ev e c = .bool false) (h : Cd P n y Q e w) : Cd P n (.cond c x y) Q e w := qi false hb (fun h => by cases h) (fun _ => h)
theorem qk (h : Q .ret e w) : Cd P n .ret Q e w := fun _ hf => wp_ret ⟨e, hf, h⟩
theorem qa (h : Q .normal e w) : Cd P n .skip Q e w := fun _ hf => wp_skip ⟨e, hf, h⟩
theorem ju {id : Nat} (h : Q (.exit id) e w) : Cd P n (.exit id) Q e w := fun _ hf => wp_exit ⟨e, hf, h⟩
theorem Cd.mono {c : Code} {Q' : Post} (h : Cd P n c Q e w) (hq : ∀ x e w, Q x e w -> Q' x e w) : Cd P n c Q' e w :=
 fun a hf => wp_mono (h a hf) (rz hq)
def sets (e : Env) : List (Nat × Value) -> Env
 | [] => e
 | (i, v) :: l => upd (sets e l) i v
def holds (e : Env) : List (Nat × Value) -> Prop
 | [] => True
 | (i, v) :: l => e i = v ∧ holds e l
theorem sets_of_holds {e : Env} : ∀ {l : List (Nat × Value)}, holds e l -> sets e l = e
 | [], _ => rfl
 | (i, v) :: l, h => by unfold sets; rw [sets_of_holds h.2]; exact ry h.1
theorem jx {Γ : Type} {c : Code} (s : Γ -> List (Nat × Value)) (φ : Γ -> World -> Prop) (μ : Γ -> Nat) (γ : Γ) (hs : holds e (s γ)) (hφ : φ γ w)
  (round : ∀ γ w e, φ γ w -> Cd P n c (thn (fun e' w' => ∃ γ', holds e' (s γ') ∧ φ γ' w' ∧ μ γ' < μ γ) Q) (sets e (s γ)) w) : Cd P n (.loop c) Q e w := by
 intro a hf
 refine wp_loop_ghost (fun m a w => ∃ γ e, μ γ = m ∧ Fits n e a ∧ holds e (s γ) ∧ φ γ w) (μ γ) ⟨γ, e, rfl, hf, hs, hφ⟩ ?_
 rintro m a w ⟨γ, e, rfl, hf, hs, hφ⟩
 have := round γ w e hφ a (by rw [sets_of_holds hs]; exact hf)
 refine wp_mono this ?_
 rintro ex a' w' ⟨e', hf', hq⟩
 cases ex with
 | normal =>
  obtain ⟨γ', h1, h2, h3⟩ := hq
  exact ⟨μ γ', h3, γ', e', rfl, hf', h1, h2⟩
 | _ => exact ⟨e', hf', hq⟩
theorem qt {Γ : Type} {x y : Code} (s : Γ -> List (Nat × Value)) (φ : Γ -> World -> Prop) (h : Cd P n x (thn (fun e' w' => ∃ γ, holds e' (s γ) ∧ φ γ w') Q) e w)
  (k : ∀ γ w e, φ γ w -> Cd P n y Q (sets e (s γ)) w) : Cd P n (.seq x y) Q e w := by
 refine qf (h.mono ?_)
 intro ex e' w' hq
 cases ex with
 | normal =>
  obtain ⟨γ, h1, h2⟩ := hq
  have := k γ w' e' h2
  rw [sets_of_holds h1] at this
  exact this
 | _ => exact hq
end
def Ret (P : Program) (f : FuncId) (args : List Value) (w : World) (φ : Value -> World -> Prop) : Prop :=
 Calls P f args.toArray w fun en w' => ∃ v, en = .returned v ∧ φ v w'
theorem Ret.mono {P : Program} {f : FuncId} {args : List Value} {w : World} {φ ψ : Value -> World -> Prop} (h : Ret P f args w φ) (hk : ∀ v w, φ v w -> ψ v w) : Ret P f args w ψ :=
 Calls.mono h fun _ _ ⟨v, a, b⟩ => ⟨v, a, hk _ _ b⟩
def packv : List Value -> Value
 | [v] => v
 | vs => .tuple vs.toArray
def rsk (P : Program) (e : Env) (w : World) : List ResultVar -> (List Value -> Prop) -> Prop
 | [], k => k []
 | .tmp t :: rs, k => rsk P e w rs fun vs => k (e t :: vs)
 | .cell a t :: rs, k => ∃ v, (do loadVar t (<- asAddr (e a)) : Sem Value).run P w = .ok v w ∧ rsk P e w rs fun vs => k (v :: vs)
def bq (P : Program) (rs : List ResultVar) (φ : Value -> World -> Prop) : Post
 | .normal, e, w => rsk P e w rs fun vs => φ (packv vs) w
 | .ret, e, w => rsk P e w rs fun vs => φ (packv vs) w
 | _, _, _ => False
def envOf (l : List Value) : Env := fun i => l.getD i undef
def rone (e : Env) : ResultVar -> Sem Value
 | .tmp t => pure (e t)
 | .cell x t => do loadVar t (<- asAddr (e x))
theorem bq0 {P : Program} {φ : Value -> World -> Prop} {e : Env} {w : World} (h : φ (.tuple #[]) w) : bq P [] φ .ret e w := h
theorem bq0n {P : Program} {φ : Value -> World -> Prop} {e : Env} {w : World} (h : φ (.tuple #[]) w) : bq P [] φ .normal e w := h
theorem bq1 {P : Program} {φ : Value -> World -> Prop} {e : Env} {w : World} {a : Tmp} (h : φ (e a) w) : bq P [.tmp a] φ .ret e w := h
theorem bq2 {P : Program} {φ : Value -> World -> Prop} {e : Env} {w : World} {a b : Tmp} (h : φ (.tuple [e a, e b].toArray) w) : bq P [.tmp a, .tmp b] φ .ret e w := h
theorem bq3 {P : Program} {φ : Value -> World -> Prop} {e : Env} {w : World} {a b c : Tmp} (h : φ (.tuple [e a, e b, e c].toArray) w) : bq P [.tmp a, .tmp b, .tmp c] φ .ret e w := h
theorem bqc {P : Program} {φ : Value -> World -> Prop} {e : Env} {w : World} {a : Tmp} {t : TypeId} {v : Value} (hv : (do loadVar t (<- asAddr (e a)) : Sem Value).run P w = .ok v w) (h : φ v w) : bq P [.cell a t] φ .ret e w := ⟨v, hv, h⟩
theorem mr {P : Program} {e : Env} {w : World} : ∀ {rs : List ResultVar} {k : List Value -> Prop}, rsk P e w rs k ->
  ∃ vs : List Value, (rs.mapM (rone e) : Sem (List Value)).run P w = .ok vs w ∧ k vs
 | [], k, h => ⟨[], by simp [List.mapM_nil], h⟩
 | .tmp t :: rs, k, h => by
  obtain ⟨vs, h1, h2⟩ := mr (rs := rs) h
  exact ⟨e t :: vs, by simp [List.mapM_cons, rone, h1], h2⟩
 | .cell x t :: rs, k, h => by
  obtain ⟨v, h0, h⟩ := h
  obtain ⟨vs, h1, h2⟩ := mr (rs := rs) h
  refine ⟨v :: vs, ?_, h2⟩
  rw [List.mapM_cons, Sem.run_bind, show (rone e (.cell x t)).run P w = .ok v w from h0]
  simp [h1]
theorem enter {P : Program} {f : FuncId} {fn : Func} {c : Code} {n : Nat} {rs : List ResultVar} {args : List Value} {w : World} {φ : Value -> World -> Prop}
  (hf : P.funcs[f]? = some fn) (hb : fn.body = some c) (hr : fn.results = rs.toArray) (hn : fn.ntmps = n) (hl : Nat.ble args.length n = true)
  (h : Cd P n c (bq P rs φ) (envOf args) w) : Ret P f args w φ := by
 subst hn
 refine calls_of_wp hf hb ?_
 have hl' : args.length <= fn.ntmps := Wb hl
 refine wp_mono (h _ ⟨rfl, by simp; omega, fun i => ?_⟩) ?_
 ·unfold envOf
  simp only [Array.getD_eq_getD_getElem?, Zq]
  by_cases hi : i < args.length
  ·simp [Array.getElem?_append, hi]
  ·simp only [Array.getElem?_append, Wu, hi, if_false]
   by_cases hi2 : i - args.length < fn.ntmps - args.length
   ·simp [hi2, Vk (Nat.le_of_not_lt hi)]
   ·simp [hi2, Vk (Nat.le_of_not_lt hi)]
 ·rintro ex a w' ⟨e, hfit, hq⟩
  have key : rsk P e w' rs (fun vs => φ (packv vs) w') -> a.defers = [] ∧ ∃ v, (results fn a.tmps).run P w' = .ok v w' ∧ ∃ u, Ending.returned v = .returned u ∧ φ u w' := by
   intro hq
   obtain ⟨vs, h1, h2⟩ := mr hq
   refine ⟨hfit.defers, packv vs, ?_, _, rfl, h2⟩
   have hx : ∀ (g : ResultVar -> Sem Value), (∀ x, g x = rone e x) -> List.mapM g rs = List.mapM (rone e) rs := fun g hg => by rw [funext hg]
   unfold results
   rw [hr, List.mapM_toArray, hx _ (fun x => by cases x <;> simp only [rone, hfit.get])]
   simp [h1]
   cases vs with
   | nil => rfl
   | cons v vs =>
    cases vs with
    | nil => rfl
    | cons u vs => simp [packv]
  cases ex with
  | normal => exact key hq
  | ret => exact key hq
  | _ => exact hq.elim
attribute [irreducible] Rn Cd Ex Ret
theorem en {P : Program} {f : FuncId} {fn : Func} {c : Code} {n : Nat} {rs : List ResultVar} {args : List Value} {w : World} {φ : Value -> World -> Prop} (hf : P.funcs[f]? = some fn) (hr : fn.results = rs.toArray) (hn : fn.ntmps = n) (h : Cd P n c (bq P rs φ) (envOf args) w) (hb : fn.body = some c := by rfl) (hl : Nat.ble args.length n = true := by rfl) : Ret P f args w φ := enter hf hb hr hn hl h
end
section
theorem execOp_congr {ρ ρ' : Operand -> Value} {o : Oper} (h : ∀ x ∈ o.op.operands, ρ x = ρ' x) : execOp ρ o = execOp ρ' o := by
 obtain ⟨d, op, ty, pos, af, g⟩ := o
 have hmap : ∀ l : Array Operand, (∀ x ∈ l, ρ x = ρ' x) -> l.map ρ = l.map ρ' := fun l hl => Array.map_congr_left hl
 have hpar : ∀ l : Array (Nat × Operand), (∀ x ∈ (l.toList.map (·.2)).toArray, ρ x = ρ' x) -> l.map (fun (i, x) => (i, ρ x)) = l.map (fun (i, x) => (i, ρ' x)) := by
  intro l hl
  refine Array.map_congr_left ?_
  rintro ⟨i, x⟩ hx
  simp only [Prod.mk.injEq, true_and]
  exact hl x (by simp; exact ⟨i, hx⟩)
 have hopt : ∀ l : Option Operand, (∀ x ∈ l.toArray, ρ x = ρ' x) -> l.map ρ = l.map ρ' := by
  intro l hl
  cases l with
  | none => rfl
  | some x => simp [hl x O8]
 cases op <;> simp only [Op.operands] at h
 case alloc => rfl
 case ready => rfl
 case waits => rfl
 case build t ps => simp only [execOp]; rw [hpar ps h]
 case buildSlice t n ps => simp only [execOp]; rw [hpar ps h]
 case makeFunc fn a b => simp only [execOp]; rw [hmap a (fun x hx => h x O26), hmap b (fun x hx => h x O26)]
 case makeMap t r => simp only [execOp]; rw [hopt r h]
 case slice t x l hi m =>
  simp only [execOp]
  rw [h x O8, hopt l (fun y hy => h y (by simp at hy ⊢; simp [hy])), hopt hi (fun y hy => h y (by simp at hy ⊢; simp [hy])), hopt m (fun y hy => h y (by simp at hy ⊢; simp [hy]))]
 case call c =>
  obtain ⟨cl, args, tys⟩ := c
  cases cl <;> simp only [execOp, resolve, Call.operands] at h ⊢
  ·rw [hmap args (fun x hx => h x O26), h _ O8]
  ·rw [hmap args (fun x hx => h x O26), h _ O8]
  ·rw [hmap args (fun x hx => h x O26)]
 case go c =>
  obtain ⟨cl, args, tys⟩ := c
  cases cl <;> simp only [execOp, resolve, Call.operands] at h ⊢
  ·rw [hmap args (fun x hx => h x O26), h _ O8]
  ·rw [hmap args (fun x hx => h x O26), h _ O8]
  ·rw [hmap args (fun x hx => h x O26)]
 case defer c =>
  obtain ⟨cl, args, tys⟩ := c
  cases cl <;> simp only [execOp, resolve, Call.operands] at h ⊢
  ·rw [hmap args (fun x hx => h x O26), h _ O8]
  ·rw [hmap args (fun x hx => h x O26), h _ O8]
  ·rw [hmap args (fun x hx => h x O26)]
 case select cs b =>
  simp only [execOp]
  have : cs.mapM (fun s => do pure ({ chan := ρ s.chan, send := s.send.map ρ, zero := <- zeroValue s.elem } : CommCase) : SelectCase -> Sem CommCase)
    = cs.mapM (fun s => do pure ({ chan := ρ' s.chan, send := s.send.map ρ', zero := <- zeroValue s.elem } : CommCase) : SelectCase -> Sem CommCase) := by
   have key : ∀ l : List SelectCase, (∀ s ∈ l, s ∈ cs) -> l.mapM (fun s => do pure ({ chan := ρ s.chan, send := s.send.map ρ, zero := <- zeroValue s.elem } : CommCase) : SelectCase -> Sem CommCase)
     = l.mapM (fun s => do pure ({ chan := ρ' s.chan, send := s.send.map ρ', zero := <- zeroValue s.elem } : CommCase) : SelectCase -> Sem CommCase) := by
    intro l
    induction l with
    | nil => intro _; simp only [List.mapM_nil]
    | cons s l ih =>
     intro hl
     have h1 : ρ s.chan = ρ' s.chan := h _ (by simp only [Array.mem_flatMap]; exact ⟨s, hl s O8, by simp⟩)
     have h2 : s.send.map ρ = s.send.map ρ' := hopt _ (fun x hx => h _ (by simp only [Array.mem_flatMap]; exact ⟨s, hl s O8, by simp [Array.mem_append, hx]⟩))
     simp only [List.mapM_cons, h1, h2, ih (fun t ht => hl t (by simp [ht]))]
   rw [<- Array.toArray_toList (xs := cs), List.mapM_toArray, List.mapM_toArray, key cs.toList (fun s hs => by simpa using hs)]
  rw [this]
 all_goals (simp at h; simp [execOp, h])
def rdy (ops : Array Oper) (todo : List Nat) (i : Nat) : Bool :=
 match ops.toList[i]? with
 | some o => o.after.toList.all fun e => !Region.binds .any e || !todo.contains e.on
 | none => false
theorem toList_get (ops : Array Oper) (i : Nat) : ops.toList[i]? = ops[i]? := by simp
def Wn (P : Program) (ops : Array Oper) (i : Nat) (e : Env) (w : World) (K : Env -> World -> Prop) : Prop :=
 match ops[i]? with
 | some o => (Region.wanted o (gv ops e) = true -> Ex P o e w K) ∧ (Region.wanted o (gv ops e) = false -> K (updO e o.dst undef) w)
 | none => False
def Any (P : Program) (ops : Array Oper) (J : List Nat -> World -> Prop) (Q : Env -> World -> Prop) : Nat -> List Nat -> Env -> World -> Prop
 | 0, _, e, w => Q e w
 | k + 1, todo, e, w => ∀ i, i ∈ todo -> rdy ops todo i = true -> Wn P ops i e w fun e' w' => J (todo.erase i) w' ∧ Any P ops J Q k (todo.erase i) e' w'
def fwdL (n : Nat) : List Oper -> Nat -> Bool
 | [], _ => true
 | o :: l, i => o.after.toList.all (fun e => Zy e.on i) && okd n o.dst && fwdL n l (i + 1)
def fwd (n : Nat) (ops : Array Oper) : Bool := fwdL n ops.toList 0
theorem fwdL_get {n : Nat} : ∀ {l : List Oper} {k i : Nat} {o : Oper}, fwdL n l k = true -> l[i]? = some o -> (o.after.toList.all (fun e => Zy e.on (k + i)) && okd n o.dst) = true
 | [], _, _, _, _, h => by simp at h
 | a :: l, k, 0, o, hf, h => by
  simp only [Xd, Vq] at h
  subst h
  simp only [fwdL, Ur] at hf
  simp only [Wm, Ur]
  exact hf.1
 | a :: l, k, i + 1, o, hf, h => by
  simp only [fwdL, Ur] at hf
  have := fwdL_get (i := i) hf.2 O15
  rw [show k + (i + 1) = k + 1 + i by omega]
  exact this
theorem nf {n : Nat} {ops : Array Oper} (h : fwd n ops = true) {i : Nat} {o : Oper} (ho : ops[i]? = some o) : (∀ e ∈ o.after, e.on < i) ∧ okd n o.dst = true := by
 have := fwdL_get (i := i) h (by rw [toList_get]; exact ho)
 simp only [Uz, Ur, Xe] at this
 exact ⟨fun e he => by simpa [Xq] using this.1 e (by simpa using he), this.2⟩
def edgeOkR (rk : List Nat) (m i : Nat) (e : Edge) : Bool := Zy e.on m && (match e.ground with
 | .gcOnly _ => Zy (rk.getD e.on 0) (rk.getD i 0)
 | .textOnly _ => Zy e.on i
 | _ => Zy e.on i && Zy (rk.getD e.on 0) (rk.getD i 0))
def fwdRL (n m : Nat) (rk : List Nat) : List Oper -> Nat -> Bool
 | [], _ => true
 | o :: l, i => o.after.toList.all (edgeOkR rk m i) && okd n o.dst && fwdRL n m rk l (i + 1)
def fwdR (rk : List Nat) (n : Nat) (ops : Array Oper) : Bool := fwdRL n ops.toList.length rk ops.toList 0
theorem fwdRL_get {n m : Nat} {rk : List Nat} : ∀ {l : List Oper} {k i : Nat} {o : Oper}, fwdRL n m rk l k = true -> l[i]? = some o -> (o.after.toList.all (edgeOkR rk m (k + i)) && okd n o.dst) = true
 | [], _, _, _, _, h => by simp at h
 | a :: l, k, 0, o, hf, h => by
  simp only [Xd, Vq] at h
  subst h
  simp only [fwdRL, Ur] at hf
  simp only [Wm, Ur]
  exact hf.1
 | a :: l, k, i + 1, o, hf, h => by
  simp only [fwdRL, Ur] at hf
  have := fwdRL_get (i := i) hf.2 O15
  rw [show k + (i + 1) = k + 1 + i by omega]
  exact this
def EdgesOk (n : Nat) (ops : Array Oper) : Prop := ∀ md : Region.Mode, ∃ rank : Nat -> Nat, ∀ i o, ops[i]? = some o -> (∀ e ∈ o.after, e.on < ops.size ∧ (Region.binds md e = true -> rank e.on < rank i)) ∧ okd n o.dst = true
theorem i8 {n : Nat} {ops : Array Oper} (h : fwd n ops = true) : EdgesOk n ops := fun md => by
 refine ⟨id, fun i o ho => ⟨fun e he => ?_, (nf h ho).2⟩⟩
 have := (nf h ho).1 e he
 have hi : i < ops.size := (Array.getElem?_eq_some_iff.1 ho).1
 exact ⟨O_o, fun _ => this⟩
theorem wb {n : Nat} {ops : Array Oper} {rk : List Nat} (h : fwdR rk n ops = true) : EdgesOk n ops := fun md => by
 have key : ∀ i o, ops[i]? = some o -> (∀ e ∈ o.after, edgeOkR rk ops.size i e = true) ∧ okd n o.dst = true := by
  intro i o ho
  have := fwdRL_get (i := i) h (by rw [toList_get]; exact ho)
  simp only [Uz, Ur, Xe, Array.length_toList] at this
  exact ⟨fun e he => this.1 e (by simpa using he), this.2⟩
 cases md with
 | gc =>
  refine ⟨fun i => rk.getD i 0, fun i o ho => ⟨fun e he => ?_, (key i o ho).2⟩⟩
  have := (key i o ho).1 e he
  unfold edgeOkR at this
  simp only [Ur, Xq] at this
  refine ⟨this.1, fun hb => ?_⟩
  have h2 := this.2
  unfold Region.binds at hb
  cases hg : e.ground <;> rw [hg] at h2 hb <;> simp_all
 | text =>
  refine ⟨id, fun i o ho => ⟨fun e he => ?_, (key i o ho).2⟩⟩
  have := (key i o ho).1 e he
  unfold edgeOkR at this
  simp only [Ur, Xq] at this
  refine ⟨this.1, fun hb => ?_⟩
  have h2 := this.2
  unfold Region.binds at hb
  cases hg : e.ground <;> rw [hg] at h2 hb <;> simp_all
 | any =>
  refine ⟨id, fun i o ho => ⟨fun e he => ?_, (key i o ho).2⟩⟩
  have := (key i o ho).1 e he
  unfold edgeOkR at this
  simp only [Ur, Xq] at this
  refine ⟨this.1, fun hb => ?_⟩
  have h2 := this.2
  unfold Region.binds at hb
  cases hg : e.ground <;> rw [hg] at h2 hb <;> simp_all
theorem rx (rank : Nat -> Nat) {l : List Nat} (h : l ≠ []) : ∃ i, i ∈ l ∧ ∀ j ∈ l, rank i <= rank j := by
 induction l with
 | nil => exact absurd rfl h
 | cons a l ih =>
  by_cases hl : l = []
  ·subst hl; exact ⟨a, by simp, fun j hj => by simp at hj; subst hj; exact Ug _⟩
  ·obtain ⟨i, hi, hle⟩ := ih hl
   by_cases ha : rank a <= rank i
   ·exact ⟨a, by simp, fun j hj => by rcases Uo.1 hj with rfl | hj; exact Ug _; exact Uy ha (hle j hj)⟩
   ·exact ⟨i, by simp [hi], fun j hj => by rcases Uo.1 hj with rfl | hj; omega; exact hle j hj⟩
theorem fh {P : Program} {n : Nat} {ops : Array Oper} {J : List Nat -> World -> Prop} {Q : Post} (hfw : EdgesOk n ops) (md : Region.Mode) :
  ∀ (fuel t : Nat) (listed : Array Bool) (acc todo : List Nat), todo.length = fuel -> todo.Nodup -> (∀ i ∈ todo, i < ops.size) -> listed.size = ops.size -> (∀ i, i < ops.size -> listed.getD i true = !todo.contains i) ->
   ∃ suf, Region.linearise.go md ops fuel t listed acc = acc.reverse ++ suf ∧
    ∀ e w a, Fits n e a -> Any P ops J (Q .normal) fuel todo e w -> wpOps P ops (lft n Q) suf a w := by
 obtain ⟨rank, hE⟩ := hfw md
 intro fuel
 induction fuel with
 | zero =>
  intro t listed acc todo hl hnd hb hs hlist
  exact ⟨[], by simp [Region.linearise.go], fun e w a hf h => ⟨e, hf, h⟩⟩
 | succ fuel ih =>
  intro t listed acc todo hl hnd hb hs hlist
  simp only [Region.linearise.go]
  generalize hrs : ((List.range ops.size).filter fun i => !listed.getD i true && ((ops[i]?).map (fun o => o.after.all fun e => !Region.binds md e || listed.getD e.on false)).getD false) = rs
  have hgetF : ∀ j, j < ops.size -> listed.getD j false = listed.getD j true := by
   intro j hj
   simp [Array.getD, hs, hj]
  have hmem : ∀ i, i ∈ rs -> i ∈ todo ∧ rdy ops todo i = true := by
   intro i hi
   rw [<- hrs] at hi
   simp only [Xo, Zg, Ur, Wo] at hi
   obtain ⟨hi1, hi2, hi3⟩ := hi
   rw [hlist i hi1] at hi2
   refine ⟨by simpa using hi2, ?_⟩
   unfold rdy
   rw [toList_get]
   cases ho : ops[i]? with
   | none => rw [ho] at hi3; simp at hi3
   | some o =>
    rw [ho] at hi3
    simp only [Xa, Option.getD_some, Array.all_eq_true_iff_forall_mem, Xe] at hi3 ⊢
    intro e he
    have he := (Array.mem_toList_iff).1 he
    have he' := hi3 e he
    have hlt := ((hE _ _ ho).1 e he).1
    rw [hgetF e.on hlt, hlist e.on hlt] at he'
    simp only [Bool.or_eq_true, Wo] at he' ⊢
    rcases he' with h | h
    ·left
     unfold Region.binds at h ⊢
     cases hg : e.ground <;> rw [hg] at h <;> simp_all
    ·exact .inr h
  have hne : rs ≠ [] := by
   obtain ⟨i, hi, hle⟩ := rx rank (l := todo) (by intro h; rw [h] at hl; simp at hl)
   intro h
   have : i ∈ rs := by
    rw [<- hrs]
    have hib := hb i hi
    simp only [Xo, Zg, Ur, Wo]
    refine ⟨hib, by rw [hlist i hib]; simpa using hi, ?_⟩
    have ho : ops[i]? = some ops[i] := by simp [hib]
    rw [ho]
    simp only [Xa, Option.getD_some, Array.all_eq_true_iff_forall_mem]
    intro e he
    obtain ⟨hlt, hrk⟩ := (hE _ _ ho).1 e he
    rw [hgetF e.on hlt, hlist e.on hlt]
    cases hbm : Region.binds md e with
    | false => simp
    | true =>
     have hrk := hrk hbm
     have : e.on ∉ todo := fun hm => by have := hle _ hm; omega
     simp [this]
   rw [h] at this; simp at this
  have hlen : 0 < rs.length := Vt.2 hne
  have hget : rs[t % rs.length]? = some (rs[t % rs.length]'(Vr _ hlen)) := by simp [Vr _ hlen]
  rw [hget]
  generalize hi : rs[t % rs.length]'(Vr _ hlen) = i
  have hir : i ∈ rs := by rw [<- hi]; exact Zz _
  obtain ⟨him, hird⟩ := hmem i hir
  have hib := hb i him
  obtain ⟨suf, hsuf, hwp⟩ := ih (t / rs.length) (listed.setIfInBounds i true) (i :: acc) (todo.erase i) (by rw [Wy him, hl]; rfl) (hnd.erase i) (fun j hj => hb j (Ww hj)) (by simp [hs]) (by
   intro j hj
   by_cases hji : j = i
   ·subst hji
    simp [Array.getD, hs, hj, hnd.not_mem_erase]
   ·have : (todo.erase i).contains j = todo.contains j := by
     simp only [List.contains_eq_mem, decide_eq_decide]
     exact hnd.mem_erase_iff.trans (by simp [hji])
    rw [this, <- hlist j hj]
    simp [Array.getD, hs, hj, Array.getElem_setIfInBounds, Ne.symm hji])
  refine ⟨i :: suf, by dsimp only; rw [hsuf]; simp, fun e w a hf h => ?_⟩
  have hW := h i him hird
  unfold Wn at hW
  cases ho : ops[i]? with
  | none => rw [ho] at hW; exact hW.elim
  | some o =>
   rw [ho] at hW
   unfold wpOps
   rw [ho]
   dsimp only
   have hy : yielded ops a.tmps = gv ops e := funext fun j => kg hf j
   rw [hy]
   have hod := (hE _ _ ho).2
   split
   ·rename_i hw
    exact .inl (Ex.wp (hW.1 hw) hf hod (fun e a w hf hk => hwp e w a hf hk.2))
   ·rename_i hw
    exact hwp _ _ _ (hf.put hod _) (hW.2 (by simpa using hw)).2
theorem rh {P : Program} {n : Nat} {id : Nat} {l : List Oper} {J : List Nat -> World -> Prop} {Q : Post} {e : Env} {w : World} (hfw : EdgesOk n l.toArray)
  (h : Any P l.toArray J (Q .normal) l.length (List.range l.length) e w.drew) : Cd P n (.region id l.toArray true) Q e w := by
 unfold Cd
 intro a hf
 refine wp_region_draw (fun t => ?_)
 have key : ∀ md t, wpOps P l.toArray (lft n Q) (Region.linearise md l.toArray t) a w.drew := by
  intro md t
  obtain ⟨suf, h1, h2⟩ := fh (P := P) (J := J) (Q := Q) hfw md l.toArray.size t (Array.replicate l.toArray.size false) [] (List.range l.toArray.size) O8 List.nodup_range O8 O8 (by
   intro i hi
   simp at hi
   simp [Array.getD, hi])
  unfold Region.linearise
  rw [h1]
  exact h2 _ _ _ hf O15
 unfold Region.schedule
 split
 ·exact key _ _
 ·exact key _ _
def lops : Op -> List Operand
 | .alloc _ | .ready _ | .waits _ => []
 | .move x | .assign x | .box _ x | .load _ x | .nilCheck x | .unOp _ _ x | .convert _ _ x | .sliceToArrayPointer _ x | .makeInterface _ x
 | .makeChan _ x | .fieldAddr _ x _ | .field _ x _ | .range _ x | .next x _ | .entry x | .typeAssert x _ _ _ | .extract x _ | .panic x | .recv _ x _ => [x]
 | .pick c a b => [c, a, b]
 | .build _ ps | .buildSlice _ _ ps => ps.toList.map (·.2)
 | .store _ a v | .binOp _ _ a v _ | .makeSlice _ a v | .indexAddr _ a v | .index _ a v | .lookup _ a v _ | .mapEntry _ a v | .send a v => [a, v]
 | .makeFunc _ first captured => first.toList ++ captured.toList
 | .makeMap _ r => r.toList
 | .slice _ x l h m => x :: (l.toList ++ h.toList ++ m.toList)
 | .mapUpdate _ m k v | .entryStore _ m k v | .insert _ m k v => [m, k, v]
 | .call c | .go c | .defer c => (match c.callee with | .value f => [f] | .invoke r _ => [r] | .builtin _ => []) ++ c.args.toList
 | .select cs _ => cs.toList.flatMap fun c => c.chan :: c.send.toList
theorem rb {op : Op} {x : Operand} (h : x ∈ op.operands) : x ∈ lops op := by
 cases op with
 | call c => obtain ⟨cl, a, t⟩ := c; cases cl <;> simpa [Op.operands, lops, Call.operands] using h
 | go c => obtain ⟨cl, a, t⟩ := c; cases cl <;> simpa [Op.operands, lops, Call.operands] using h
 | defer c => obtain ⟨cl, a, t⟩ := c; cases cl <;> simpa [Op.operands, lops, Call.operands] using h
 | select cs b =>
  simp only [Op.operands, Array.mem_flatMap] at h
  obtain ⟨s, hs, hx⟩ := h
  simp only [lops, Xf]
  exact ⟨s, by simpa using hs, by simpa using hx⟩
 | slice t y l hi m => simp [Op.operands, lops] at h ⊢; rcases h with h | h | h | h <;> simp [h]
 | _ => first | (simp [Op.operands] at h; done) | simpa [Op.operands, lops] using h
def isT (t : Nat) : Operand -> Bool
 | .tmp u => Nat.beq u t
 | _ => false
def opReads (o : Op) (t : Nat) : Bool := (lops o).any (isT t)
def gslot (ops : Array Oper) (o : Oper) : Option Nat :=
 match o.guard with
 | some (j, _) => match ops.toList[j]? with
  | some o => o.dst
  | none => none
 | none => none
def isS (d : Nat) : Option Nat -> Bool
 | some c => Nat.beq c d
 | none => false
theorem isS_false {d : Nat} {c : Option Nat} (h : isS d c = false) : c ≠ some d := by
 rintro rfl; simp [isS] at h
def confO (ops : Array Oper) (a b : Oper) : Bool := match a.dst with
  | some d => isS d b.dst || opReads b.op d || isS d (gslot ops b) || (match b.dst with
   | some c => opReads a.op c || isS c (gslot ops a)
   | none => false)
  | none => false
def edgeO (i : Nat) (o : Oper) : Bool := o.after.toList.any fun e => Region.binds .any e && Nat.beq e.on i
def edge (ops : Array Oper) (i j : Nat) : Bool :=
 match ops.toList[j]? with
 | some o => edgeO i o
 | none => false
def gokL (ops : Array Oper) : List Oper -> Nat -> Bool
 | [], _ => true
 | a :: l, i => gokA l (i + 1) i a && gokL ops l (i + 1)
where
 gokA : List Oper -> Nat -> Nat -> Oper -> Bool
  | [], _, _, _ => true
  | b :: l, j, i, a => (edgeO i b || !(confO ops a b || confO ops b a)) && gokA l (j + 1) i a
def gok (ops : Array Oper) : Bool := gokL ops ops.toList 0
theorem gokA_get {ops : Array Oper} {i : Nat} {a : Oper} : ∀ {l : List Oper} {j k : Nat} {b : Oper}, gokL.gokA ops l j i a = true -> l[k]? = some b -> edgeO i b = true ∨ (confO ops a b = false ∧ confO ops b a = false)
 | [], _, _, _, _, h => by simp at h
 | c :: l, j, 0, b, hg, h => by
  simp only [Xd, Vq] at h
  subst h
  simp only [gokL.gokA, Ur, Bool.or_eq_true, Wo, Za] at hg
  exact hg.1
 | c :: l, j, k + 1, b, hg, h => by
  simp only [gokL.gokA, Ur] at hg
  exact gokA_get hg.2 (k := k) O15
theorem gokL_get {ops : Array Oper} : ∀ {l : List Oper} {n i j : Nat} {a b : Oper}, gokL ops l n = true -> l[i]? = some a -> l[j]? = some b -> i < j -> edgeO (n + i) b = true ∨ (confO ops a b = false ∧ confO ops b a = false)
 | [], _, _, _, _, _, _, h, _, _ => by simp at h
 | c :: l, n, 0, j + 1, a, b, hg, ha, hb, _ => by
  simp only [Xd, Vq] at ha
  subst ha
  simp only [gokL, Ur] at hg
  rw [Wm]
  exact gokA_get hg.1 (k := j) (by simpa using hb)
 | c :: l, n, i + 1, j + 1, a, b, hg, ha, hb, hij => by
  simp only [gokL, Ur] at hg
  have := gokL_get (i := i) (j := j) hg.2 (by simpa using ha) (by simpa using hb) O0
  rwa [show n + (i + 1) = n + 1 + i by omega]
 | c :: l, n, i, 0, a, b, _, _, _, h => by omega
theorem qjf {ops : Array Oper} (hg : gok ops = true) {i j : Nat} {a b : Oper} (ha : ops[i]? = some a) (hb : ops[j]? = some b) (hij : i ≠ j) : edge ops i j = true ∨ edge ops j i = true ∨ confO ops a b = false := by
 rcases Nat.lt_or_gt_of_ne hij with h | h
 ·rcases gokL_get (n := 0) hg (by rw [toList_get]; exact ha) (by rw [toList_get]; exact hb) h with h1 | h1
  ·left; unfold edge; rw [toList_get, hb]; simpa using h1
  ·exact .inr (.inr h1.1)
 ·rcases gokL_get (n := 0) hg (by rw [toList_get]; exact hb) (by rw [toList_get]; exact ha) h with h1 | h1
  ·right; left; unfold edge; rw [toList_get, ha]; simpa using h1
  ·exact .inr (.inr h1.2)
theorem nt {ops : Array Oper} {todo : List Nat} {i j : Nat} (hi : i ∈ todo) (hr : rdy ops todo j = true) : edge ops i j = false := by
 cases hedge : edge ops i j with
 | false => rfl
 | true =>
  exfalso
  unfold edge at hedge
  unfold rdy at hr
  cases hoj : ops.toList[j]? with
  | none => rw [hoj] at hedge; cases hedge
  | some oj =>
   rw [hoj] at hedge hr
   simp only [edgeO, List.any_eq_true, Ur] at hedge
   obtain ⟨m, hm, hb1, hb2⟩ := hedge
   simp only [Xe] at hr
   have := hr m hm
   rw [hb1, Vh hb2] at this
   simp [hi] at this
theorem sj {ops : Array Oper} {todo : List Nat} {i j : Nat} (hr : rdy ops todo j = true) : rdy ops (todo.erase i) j = true := by
 unfold rdy at hr ⊢
 cases hoj : ops.toList[j]? with
 | none => rw [hoj] at hr; cases hr
 | some oj =>
  rw [hoj] at hr
  simp only [Xe] at hr ⊢
  intro m hm
  have := hr m hm
  simp only [Bool.or_eq_true, Wo] at this ⊢
  rcases this with h | h
  ·exact .inl h
  ·right
   simp only [List.contains_eq_mem, decide_eq_false_iff_not] at h ⊢
   exact fun hm => h (Ww hm)
theorem execOp_upd {e : Env} {d : Nat} {v : Value} {o : Oper} (h : opReads o.op d = false) : execOp (ev (upd e d v)) o = execOp (ev e) o := by
 refine execOp_congr fun x hx => ?_
 cases x with
 | tmp t =>
  refine j8 ?_
  rintro rfl
  unfold opReads at h
  rw [List.any_eq_false] at h
  exact absurd (show isT t (.tmp t) = true by simp [isT]) (h _ (rb hx))
 | _ => rfl
theorem wm {ops : Array Oper} {e : Env} {d : Nat} {v : Value} {o : Oper} (h : gslot ops o ≠ some d) : Region.wanted o (gv ops (upd e d v)) = Region.wanted o (gv ops e) := by
 unfold Region.wanted
 cases hg : o.guard with
 | none => rfl
 | some jw =>
  obtain ⟨j, want⟩ := jw
  unfold gslot at h
  rw [hg] at h
  dsimp only at h ⊢
  rw [toList_get] at h
  congr 1
  unfold gv
  cases ho : ops[j]? with
  | none => rfl
  | some oj =>
   rw [ho] at h
   simp only [Option.bind_some] at h ⊢
   cases hd : oj.dst with
   | none => rfl
   | some c =>
    rw [hd] at h
    dsimp only
    rw [j8 (by intro e; exact h (by rw [e]))]
def Flt (P : Program) (ops : Array Oper) (o : Oper) (e : Env) (w : World) (v : Value) : Prop :=
 (Region.wanted o (gv ops e) = true -> (execOp (ev e) o).run P w = .ok (.value v) w) ∧ (Region.wanted o (gv ops e) = false -> v = undef)
def Jk (kx : Option Nat) (φ : World -> Prop) : List Nat -> World -> Prop := fun todo w => (∀ x, kx = some x -> x ∈ todo) -> φ w
theorem tt {P : Program} {ops : Array Oper} {J : List Nat -> World -> Prop} {inv : List Nat -> Prop} {Q : Env -> World -> Prop} {i : Nat} {o : Oper} {d : Nat} {v : Value} (ho : ops[i]? = some o) (hd : o.dst = some d) (hgok : gok ops = true)
  (hJ1 : ∀ t w, t.Nodup -> J (t.erase i) w -> J t w) (hJ2 : ∀ t w, J t w -> J (t.erase i) w) (hinv2 : ∀ t j, t.Nodup -> inv t -> edge ops i j = false -> inv (t.erase j)) :
  ∀ (k : Nat) (todo : List Nat) (e : Env) (w : World), todo.length = k + 1 -> todo.Nodup -> i ∈ todo -> rdy ops todo i = true ->
   inv todo -> J todo w -> (∀ t w', inv t -> J t w' -> Flt P ops o e w' v) ->
   Any P ops J Q k (todo.erase i) (upd e d v) w -> Any P ops J Q (k + 1) todo e w := by
 intro k
 induction k with
 | zero =>
  intro todo e w hlen hnd hi hr hk hφ hfl h j hj hjr
  obtain rfl : j = i := by
   match todo, hlen with
   | [a], _ => simp at hi hj; rw [hi, hj]
  unfold Wn
  rw [ho]
  dsimp only
  refine ⟨fun hw => ?_, fun hw => ?_⟩
  ·unfold Ex
   rw [(hfl _ w hk hφ).1 hw, hd]
   exact ⟨hJ2 _ _ hφ, h⟩
  ·rw [hd]
   have := (hfl _ w hk hφ).2 hw
   subst this
   exact ⟨hJ2 _ _ hφ, h⟩
 | succ k ih =>
  intro todo e w hlen hnd hi hr hk hφ hfl h j hj hjr
  by_cases hji : j = i
  ·subst hji
   unfold Wn
   rw [ho]
   dsimp only
   refine ⟨fun hw => ?_, fun hw => ?_⟩
   ·unfold Ex
    rw [(hfl _ w hk hφ).1 hw, hd]
    exact ⟨hJ2 _ _ hφ, h⟩
   ·rw [hd]
    have := (hfl _ w hk hφ).2 hw
    subst this
    exact ⟨hJ2 _ _ hφ, h⟩
  ·have hje : j ∈ todo.erase i := (hnd.mem_erase_iff).2 ⟨hji, hj⟩
   have hnotedge : edge ops i j = false := nt hi hjr
   have hrj : rdy ops (todo.erase i) j = true := sj hjr
   have hW := h j hje hrj
   unfold Wn at hW ⊢
   cases hoj : ops[j]? with
   | none => rw [hoj] at hW; exact hW.elim
   | some oj =>
    rw [hoj] at hW
    dsimp only at hW ⊢
    have hconf : confO ops o oj = false := by
     rcases qjf hgok ho hoj (Ne.symm hji) with h1 | h1 | h1
     ·rw [hnotedge] at h1; cases h1
     ·rw [nt hj hr] at h1; cases h1
     ·exact h1
    unfold confO at hconf
    rw [hd] at hconf
    simp only [Za] at hconf
    obtain ⟨⟨⟨hc1, hc2⟩, hc3⟩, hc4⟩ := hconf
    rw [wm (isS_false hc3)] at hW
    have key : ∀ u w', (J ((todo.erase i).erase j) w' ∧ Any P ops J Q k ((todo.erase i).erase j) (updO (upd e d v) oj.dst u) w') ->
      J (todo.erase j) w' ∧ Any P ops J Q (k + 1) (todo.erase j) (updO e oj.dst u) w' := by
     rintro u w' ⟨hJ, hA⟩
     have hφ' : J (todo.erase j) w' := hJ1 _ _ (hnd.erase j) (by rw [List.erase_comm]; exact hJ)
     refine ⟨hφ', ih (todo.erase j) _ w' (by rw [Wy hj, hlen]; rfl) (hnd.erase j) ((hnd.mem_erase_iff).2 ⟨Ne.symm hji, hi⟩) ?_ (hinv2 _ _ hnd hk hnotedge) hφ' ?_ ?_⟩
     ·exact sj hr
     ·intro t w'' ht hw''
      have hf := hfl t w'' ht hw''
      cases hdj : oj.dst with
      | none => exact hf
      | some c =>
       rw [hdj] at hc4
       simp only [Za] at hc4
       unfold Flt at hf ⊢
       simp only [updO]
       rw [wm (isS_false hc4.2), execOp_upd hc4.1]
       exact hf
     ·rw [List.erase_comm]
      cases hdj : oj.dst with
      | none => rw [hdj] at hA; exact hA
      | some c =>
       rw [hdj] at hA hc1
       simp only [updO] at hA ⊢
       rw [ru (by rintro rfl; simp [isS] at hc1)]
       exact hA
    refine ⟨fun hw => ?_, fun hw => key _ _ (hW.2 hw)⟩
    have hE := hW.1 hw
    unfold Ex at hE ⊢
    rw [execOp_upd hc2] at hE
    split at hE
    ·rename_i hr; exact key _ _ hE
    ·rename_i hr; exact key _ _ hE
    ·rename_i hr; exact hE.mono fun _ _ ⟨v, a, b⟩ => ⟨v, a, key _ _ b⟩
    ·exact hE.elim
theorem i9 {P : Program} {ops : Array Oper} {kx : Option Nat} {φ : World -> Prop} {Q : Env -> World -> Prop} {i : Nat} {o : Oper} {d : Nat} {v : Value} (ho : ops[i]? = some o) (hd : o.dst = some d) (hgok : gok ops = true)
  (k : Nat) (todo : List Nat) (e : Env) (w : World) (h1 : todo.length = k + 1) (h2 : todo.Nodup) (h3 : i ∈ todo) (h4 : rdy ops todo i = true)
  (hk : ∀ x, kx = some x -> x ∈ todo ∧ edge ops i x = true ∧ x ≠ i) (hφ : φ w) (hfl : ∀ w', φ w' -> Flt P ops o e w' v)
  (h : Any P ops (Jk kx φ) Q k (todo.erase i) (upd e d v) w) : Any P ops (Jk kx φ) Q (k + 1) todo e w :=
 tt (inv := fun t => ∀ x, kx = some x -> x ∈ t) ho hd hgok
  (fun t w ht hJ hx => hJ fun x hx' => (ht.mem_erase_iff).2 ⟨(hk x hx').2.2, hx x hx'⟩)
  (fun t w hJ hx => hJ fun x hx' => Ww (hx x hx'))
  (fun t j ht hi hj x hx => (ht.mem_erase_iff).2 ⟨(by rintro rfl; rw [(hk x hx).2.1] at hj; cases hj), hi x hx⟩)
  k todo e w h1 h2 h3 h4 (fun x hx => (hk x hx).1) (fun _ => hφ) (fun t w' ht hJ => hfl w' (hJ ht)) h
theorem rm {P : Program} {ops : Array Oper} {kx : Option Nat} {φ : World -> Prop} {Q : Env -> World -> Prop} {i : Nat} {o : Oper} {d : Nat} {v : Value} (ho : ops[i]? = some o) (hd : o.dst = some d) (hgok : gok ops = true)
  (k : Nat) (todo : List Nat) (e : Env) (w : World) (h1 : todo.length = k + 1) (h2 : todo.Nodup) (h3 : i ∈ todo) (h4 : rdy ops todo i = true)
  (hk : kx ≠ some i) (hφ : Jk kx φ todo w) (hfl : ∀ w', Flt P ops o e w' v)
  (h : Any P ops (Jk kx φ) Q k (todo.erase i) (upd e d v) w) : Any P ops (Jk kx φ) Q (k + 1) todo e w :=
 tt (inv := fun _ => True) ho hd hgok
  (fun t w ht hJ hx => hJ fun x hx' => (ht.mem_erase_iff).2 ⟨(by rintro rfl; exact hk hx'), hx x hx'⟩)
  (fun t w hJ hx => hJ fun x hx' => Ww (hx x hx'))
  (fun _ _ _ _ _ => trivial)
  k todo e w h1 h2 h3 h4 trivial hφ (fun _ w' _ _ => hfl w') h
def Cur (P : Program) (ops : Array Oper) (J : List Nat -> World -> Prop) (Q : Env -> World -> Prop) (post rest : List Nat) (e : Env) (w : World) : Prop :=
 gok ops = true -> (post ++ rest).Nodup -> Any P ops J Q (post ++ rest).length (post ++ rest) e w
section
variable {P : Program} {n : Nat} {ops : Array Oper} {kx : Option Nat} {φ : World -> Prop} {Q : Env -> World -> Prop} {e : Env} {w : World} {post rest : List Nat} {i : Nat}
theorem z9 {post rest : List Nat} {i : Nat} (hnd : (post ++ i :: rest).Nodup) : (post ++ i :: rest).erase i = post ++ rest := by
 have hpost : i ∉ post := by
  intro hi
  rw [List.nodup_append] at hnd
  exact hnd.2.2 i hi i O8 rfl
 rw [List.erase_append_right _ hpost]; simp
theorem sv {post rest : List Nat} {i : Nat} (hnd : (post ++ i :: rest).Nodup) : (post ++ rest).Nodup := by
 have := hnd.erase i
 rwa [z9 hnd] at this
def keyOk (ops : Array Oper) (kx : Option Nat) (post rest : List Nat) (i : Nat) : Bool := match kx with
  | some x => (post ++ i :: rest).contains x && edge ops i x && !(Nat.beq x i)
  | none => true
theorem qj {o : Oper} {d : Nat} {v : Value} (ho : ops.toList[i]? = some o) (hd : o.dst = some d) (hr : rdy ops (post ++ i :: rest) i = true) (hc : keyOk ops kx post rest i = true) (hφ : φ w)
  (hfl : ∀ w', φ w' -> Flt P ops o e w' v) (h : Cur P ops (Jk kx φ) Q post rest (upd e d v) w) : Cur P ops (Jk kx φ) Q post (i :: rest) e w := by
 intro hg hnd
 have hlen : (post ++ i :: rest).length = (post ++ rest).length + 1 := by simp; omega
 rw [hlen]
 refine i9 (by rw [<- toList_get]; exact ho) hd hg _ _ e w hlen hnd O8 hr ?_ hφ hfl (by rw [z9 hnd]; exact h hg (sv hnd))
 intro x hx
 subst hx
 simp only [keyOk, Ur, Wo, List.contains_eq_mem, decide_eq_true_eq] at hc
 exact ⟨hc.1.1, hc.1.2, by rintro rfl; simp at hc⟩
theorem qu {o : Oper} {d : Nat} {v : Value} (ho : ops.toList[i]? = some o) (hd : o.dst = some d) (hr : rdy ops (post ++ i :: rest) i = true) (hc : (match kx with | some x => Nat.beq x i | none => false) = false) (hφ : Jk kx φ (post ++ i :: rest) w)
  (hfl : ∀ w', Flt P ops o e w' v) (h : Cur P ops (Jk kx φ) Q post rest (upd e d v) w) : Cur P ops (Jk kx φ) Q post (i :: rest) e w := by
 intro hg hnd
 have hlen : (post ++ i :: rest).length = (post ++ rest).length + 1 := by simp; omega
 rw [hlen]
 refine rm (by rw [<- toList_get]; exact ho) hd hg _ _ e w hlen hnd O8 hr ?_ hφ hfl (by rw [z9 hnd]; exact h hg (sv hnd))
 rintro rfl
 simp at hc
theorem rn {J : List Nat -> World -> Prop} (h : Cur P ops J Q (post ++ [i]) rest e w) : Cur P ops J Q post (i :: rest) e w := by
 unfold Cur at h ⊢
 rw [Um] at h
 exact h
theorem qn {J : List Nat -> World -> Prop} (h : Q e w) : Cur P ops J Q [] [] e w := fun _ _ => h
theorem qd {J : List Nat -> World -> Prop} {k : Nat} (i : Nat) {o : Oper} (hl : post.length = k + 1) (hr : post.filter (rdy ops post) = [i]) (ho : ops.toList[i]? = some o) (hw : Region.wanted o (gv ops e) = true)
  (h : Ex P o e w fun e' w' => J (post.erase i) w' ∧ Cur P ops J Q [] (post.erase i) e' w') : Cur P ops J Q post [] e w := by
 intro hg hnd
 rw [Uw] at hnd
 rw [Uw, hl]
 intro j hj hjr
 have : j ∈ post.filter (rdy ops post) := Xo.2 ⟨hj, hjr⟩
 rw [hr] at this
 obtain rfl : j = i := by simpa using this
 unfold Wn
 rw [<- toList_get, ho]
 refine ⟨fun _ => h.mono fun e' w' ⟨a, b⟩ => ⟨a, ?_⟩, fun hn => by rw [hw] at hn; cases hn⟩
 have b := b hg (by rw [Up]; exact hnd.erase _)
 rw [Up, Wy hj, hl] at b
 exact b
theorem vd {o : Oper} {j : Nat} {want b : Bool} (hgd : o.guard = some (j, want)) (hg : gv ops e j = some b) (hb : b = want) : Region.wanted o (gv ops e) = true := by
 subst hb; simp [Region.wanted, hgd, hg]
theorem jk (i : Nat) {o : Oper} (hr : rdy ops [i] i = true) (ho : ops.toList[i]? = some o) (hw : Region.wanted o (gv ops e) = true) (h : Ex P o e w Q) : Cur P ops (Jk (some i) φ) Q [i] [] e w := by
 refine qd i (k := 0) rfl (by simp [hr]) ho hw (h.mono fun e' w' hq => ⟨fun hx => ?_, ?_⟩)
 ·have := hx i rfl; simp at this
 ·simp only [List.erase_cons_head]; exact qn hq
theorem j4 {J : List Nat -> World -> Prop} {k : Nat} (i j : Nat) {o o' : Oper} (hl : post.length = k + 1) (hr : post.filter (rdy ops post) = [i, j]) (ho : ops.toList[i]? = some o) (ho' : ops.toList[j]? = some o') (hw : Region.wanted o (gv ops e) = true)
  (hw' : Region.wanted o' (gv ops e) = true) (h : Ex P o e w fun e' w' => J (post.erase i) w' ∧ Cur P ops J Q [] (post.erase i) e' w') (h' : Ex P o' e w fun e' w' => J (post.erase j) w' ∧ Cur P ops J Q [] (post.erase j) e' w') : Cur P ops J Q post [] e w := by
 intro hg hnd
 rw [Uw] at hnd
 rw [Uw, hl]
 intro m hj hjr
 have : m ∈ post.filter (rdy ops post) := Xo.2 ⟨hj, hjr⟩
 rw [hr] at this
 rcases (by simpa using this : m = i ∨ m = j) with rfl | rfl
 ·unfold Wn
  rw [<- toList_get, ho]
  refine ⟨fun _ => h.mono fun e' w' ⟨a, b⟩ => ⟨a, ?_⟩, fun hn => by rw [hw] at hn; cases hn⟩
  have b := b hg (by rw [Up]; exact hnd.erase _)
  rw [Up, Wy hj, hl] at b
  exact b
 ·unfold Wn
  rw [<- toList_get, ho']
  refine ⟨fun _ => h'.mono fun e' w' ⟨a, b⟩ => ⟨a, ?_⟩, fun hn => by rw [hw'] at hn; cases hn⟩
  have b := b hg (by rw [Up]; exact hnd.erase _)
  rw [Up, Wy hj, hl] at b
  exact b
theorem Any.swap {J J' : List Nat -> World -> Prop} (x : Nat) (hJ : ∀ t w, x ∉ t -> J t w) : ∀ {k : Nat} {todo : List Nat} {e : Env} {w : World}, x ∉ todo -> Any P ops J' Q k todo e w -> Any P ops J Q k todo e w
 | 0, _, _, _, _, h => h
 | k + 1, todo, e, w, hx, h => fun i hi hr => by
  have := h i hi hr
  have hx' : x ∉ todo.erase i := fun hm => hx (Ww hm)
  unfold Wn at this ⊢
  cases ho : ops[i]? with
  | none => rw [ho] at this; exact this
  | some o =>
   rw [ho] at this
   exact ⟨fun hw => (this.1 hw).mono fun e w ⟨a, b⟩ => ⟨hJ _ _ hx', Any.swap x hJ hx' b⟩, fun hw => ⟨hJ _ _ hx', Any.swap x hJ hx' (this.2 hw).2⟩⟩
theorem jy {k : Nat} (i : Nat) (kx' : Option Nat) {o : Oper} (hl : post.length = k + 1) (hr : post.filter (rdy ops post) = [i]) (ho : ops.toList[i]? = some o) (hw : Region.wanted o (gv ops e) = true)
  (h : Ex P o e w fun e' w' => ∃ φ', Cur P ops (Jk kx' φ') Q [] (post.erase i) e' w') : Cur P ops (Jk (some i) φ) Q post [] e w := by
 intro hg hnd
 have hnd' : post.Nodup := by simpa using hnd
 have hni : i ∉ post.erase i := hnd'.not_mem_erase
 have hvac : ∀ t w, i ∉ t -> Jk (some i) φ t w := fun t w ht hx => absurd (hx i rfl) ht
 refine qd i hl hr ho hw (h.mono fun e' w' ⟨φ', hc⟩ => ⟨hvac _ _ hni, fun hg hnd => ?_⟩) hg hnd
 exact Any.swap i hvac hni (hc hg hnd)
theorem jz {kx' : Option Nat} {w0 : World} {l : List HProp} {todo : List Nat} (_ : St w0 l w) (hc : Cur P ops (Jk kx' (fun w => St w0 l w)) Q [] todo e w) : ∃ φ', Cur P ops (Jk kx' φ') Q [] todo e w := ⟨_, hc⟩
end
theorem rp {P : Program} {n : Nat} {id : Nat} {l : List Oper} {Q : Post} {e : Env} {w : World} (kx : Option Nat) (φ : World -> Prop) (hfw : EdgesOk n l.toArray) (hg : gok l.toArray = true) (hφ : φ w.drew)
  (h : ∀ w', φ w' -> Cur P l.toArray (Jk kx φ) (Q .normal) [] (List.range l.length) e w') : Cd P n (.region id l.toArray true) Q e w := by
 refine rh (J := Jk kx φ) hfw ?_
 have := h _ hφ hg (by simpa using List.nodup_range)
 simpa using this
theorem jh {P : Program} {n : Nat} {id : Nat} {l : List Oper} {Q : Post} {e : Env} {w : World} (kx : Option Nat) (φ : World -> Prop) (hfw : fwd n l.toArray = true) (hg : gok l.toArray = true) (hφ : φ w.drew)
  (h : ∀ w', φ w' -> Cur P l.toArray (Jk kx φ) (Q .normal) [] (List.range l.length) e w') : Cd P n (.region id l.toArray true) Q e w :=
 rp kx φ (i8 hfw) hg hφ h
theorem vo {P : Program} {n : Nat} {id : Nat} {l : List Oper} {Q : Post} {e : Env} {w : World} (rk : List Nat) (kx : Option Nat) (φ : World -> Prop) (hfw : fwdR rk n l.toArray = true) (hg : gok l.toArray = true) (hφ : φ w.drew)
  (h : ∀ w', φ w' -> Cur P l.toArray (Jk kx φ) (Q .normal) [] (List.range l.length) e w') : Cd P n (.region id l.toArray true) Q e w :=
 rp kx φ (wb hfw) hg hφ h
theorem jm {P : Program} {n : Nat} {id : Nat} {l : List Oper} {Q : Post} {e : Env} {w : World} (rk : List Nat) (kx : Option Nat) (φ : World -> Prop) (hfw : fwdR rk n l.toArray = true) (hg : gok l.toArray = true)
  (h : Cur P l.toArray (Jk kx φ) (Q .normal) [] (List.range l.length) e w.drew) : Cd P n (.region id l.toArray true) Q e w := by
 refine rh (J := Jk kx φ) (wb hfw) ?_
 have := h hg (by simpa using List.nodup_range)
 simpa using this
attribute [irreducible] Any Cur Wn Flt
end
section
class Und (P : Program) (t : TypeId) (d : outParam TypeDesc) : Prop where
 h : P.underlying t = some d
class Inf (P : Program) (t : TypeId) (z : outParam (List Value)) (agg : outParam Bool) (bytes : outParam Nat) : Prop where
 h : (P.info? t).map (fun i => (i.zero, i.size, i.bytes)) = some (some (if agg then .agg z.toArray else z.getD 0 undef), z.length, bytes)
 one : agg = false -> z.length = 1
 u : ∃ d, P.underlying t = some d ∧ (match d with | .struct _ | .array _ _ => true | _ => false) = agg
 ones : ∀ v ∈ z, v.oneCell' = true
def agS : TypeDesc -> Bool
 | .struct _ | .array _ _ => true
 | _ => false
theorem mF {P : Program} {t n : Nat} {z : List Value} {U : TypeDesc} (u : P.underlying t = some U) (h : (P.info? t).map (fun i => (i.zero, i.size, i.bytes)) = some (some (z.getD 0 undef), z.length, n) := by kernel_rfl) (l : z.length = 1 := by rfl) (d : agS U = false := by rfl) (o : ∀ v ∈ z, v.oneCell' = true := by simp [Value.oneCell']) : Inf P t z false n := ⟨h, fun _ => l, ⟨_, u, d⟩, o⟩
theorem mT {P : Program} {t n : Nat} {z : List Value} {U : TypeDesc} (u : P.underlying t = some U) (h : (P.info? t).map (fun i => (i.zero, i.size, i.bytes)) = some (some (.agg z.toArray), z.length, n) := by kernel_rfl) (d : agS U = true := by rfl) (o : ∀ v ∈ z, v.oneCell' = true := by simp [Value.oneCell']) : Inf P t z true n := ⟨h, fun h => (by cases h), ⟨_, u, d⟩, o⟩
class FnB (P : Program) (f : FuncId) : Prop where
 h : ∃ fn, P.funcs[f]? = some fn ∧ (fn.name == "runtime.NumGoroutine") = false ∧ fn.body.isNone = false
theorem fB {P : Program} {f : FuncId} {fn : Func} (h : P.funcs[f]? = some fn) (a : (fn.name == "runtime.NumGoroutine") = false := by kernel_rfl) (b : fn.body.isNone = false := by kernel_rfl) : FnB P f := ⟨_, h, a, b⟩
class FA (P : Program) (s f : Nat) (k : outParam Nat) : Prop where
 h : ∀ b o w, (Instr.fieldAt s (.pointer (some ⟨b, o, none⟩)) f).run P w = .ok (.pointer (some ⟨b, o + k, none⟩)) w
theorem Inf.get {P : Program} {t : TypeId} {z : List Value} {agg : Bool} {bytes : Nat} (h : Inf P t z agg bytes) : ∃ i, P.info? t = some i ∧ i.zero = some (if agg then .agg z.toArray else z.getD 0 undef) ∧ i.size = z.length ∧ i.bytes = bytes := by
 obtain ⟨i, hi, he⟩ := Va.1 h.h
 simp only [Prod.mk.injEq] at he
 exact ⟨i, hi, he.1, he.2.1, he.2.2⟩
theorem Inf.sizeOf {P : Program} {t : TypeId} {z : List Value} {agg : Bool} {bytes : Nat} (h : Inf P t z agg bytes) (w : World) : (sizeOf t).run P w = .ok z.length w := by
 obtain ⟨i, hi, _, hs, _⟩ := h.get
 simp [Go.sizeOf, typeInfo, hi, hs]
theorem Inf.isAgg {P : Program} {t : TypeId} {z : List Value} {agg : Bool} {bytes : Nat} (h : Inf P t z agg bytes) (w : World) : (isAgg t).run P w = .ok agg w := by
 obtain ⟨d, hu, hd⟩ := h.u
 unfold Go.isAgg
 rw [Sem.run_bind, run_underlying hu w]
 cases d <;> simp_all
theorem Inf.zeroValue {P : Program} {t : TypeId} {z : List Value} {agg : Bool} {bytes : Nat} (h : Inf P t z agg bytes) (w : World) : (zeroValue t).run P w = .ok (if agg then .agg z.toArray else z.getD 0 undef) w := by
 obtain ⟨i, hi, hz, _, _⟩ := h.get
 simp [Go.zeroValue, typeInfo, hi, hz]
theorem Inf.cells {P : Program} {t : TypeId} {z : List Value} {agg : Bool} {bytes : Nat} (h : Inf P t z agg bytes) : (if agg then Value.agg z.toArray else z.getD 0 undef).cells = z.toArray := by
 cases agg with
 | true => rfl
 | false =>
  have h1 := h.one rfl
  match z, h1 with
  | [v], _ =>
   have := h.ones v O8
   cases v <;> first | rfl | (simp [Value.oneCell'] at this)
theorem FA.mk' {P : Program} {s f ft k : Nat} {fields : Array Field} {z : List Value} {agg : Bool} {bytes : Nat} (hu : P.underlying s = some (.struct fields)) (hf : (fields[f]?).map (fun fl => (fl.type, fl.offset)) = some (ft, k)) (hi : Inf P ft z agg bytes) (hz : z ≠ []) : FA P s f k := by
 refine ⟨fun b o w => ?_⟩
 obtain ⟨fl, h1, h2⟩ := Va.1 hf
 simp only [Prod.mk.injEq] at h2
 obtain ⟨rfl, rfl⟩ := h2
 have hs := hi.sizeOf w
 have : z.length ≠ 0 := by simpa using hz
 simp [Instr.fieldAt, run_underlying hu, h1, Instr.sureAddr, fieldPlace, hs, this, Addr.add_mid]
theorem fA {P : Program} {s f ft k : Nat} {fields : Array Field} {z : List Value} {agg : Bool} {bytes : Nat} (hu : P.underlying s = some (.struct fields)) (hi : Inf P ft z agg bytes) (hf : (fields[f]?).map (fun fl => (fl.type, fl.offset)) = some (ft, k) := by rfl) (h : z ≠ [] := by exact List.cons_ne_nil _ _) : FA P s f k := FA.mk' hu hf hi h
def Qv (P : Program) (e : Env) (o : Oper) (w : World) (v : Value) : Prop := (execOp (ev e) o).run P w = .ok (.value v) w
section
variable {P : Program} {n : Nat} {ops : Array Oper} {Q : Post} {rest : List Oper} {e : Env} {w : World} {K : Env -> World -> Prop}
variable {d : Option Nat} {ty : TypeId} {pos : String} {af : Array Edge} {g : Option (Nat × Bool)}
theorem x_v {op : Op} {v : Value} (hq : Qv P e ⟨d, op, ty, pos, af, g⟩ w v) (h : K (updO e d v) w) : Ex P ⟨d, op, ty, pos, af, g⟩ e w K := by
 unfold Qv at hq; unfold Ex; rw [hq]; exact h
theorem x_w {op : Op} {v : Value} {w' : World} (hq : (execOp (ev e) ⟨d, op, ty, pos, af, g⟩).run P w = .ok (.value v) w') (h : K (updO e d v) w') : Ex P ⟨d, op, ty, pos, af, g⟩ e w K := by
 unfold Ex; rw [hq]; exact h
theorem fd {op : Op} {w' : World} (hq : (execOp (ev e) ⟨d, op, ty, pos, af, g⟩).run P w = .ok .skip w') (h : K (updO e d undef) w') : Ex P ⟨d, op, ty, pos, af, g⟩ e w K := by
 unfold Ex; rw [hq]; exact h
theorem r_v {op : Op} {c : Nat} {v : Value} (hq : Qv P e ⟨some c, op, ty, pos, af, none⟩ w v) (hd : Zy c n = true) (h : Rn P n ops Q rest (upd e c v) w) :
  Rn P n ops Q (⟨some c, op, ty, pos, af, none⟩ :: rest) e w := r_c hd (x_v hq h)
theorem qh {op : Op} {v : Value} (hg : g = none) (hq : Qv P e ⟨d, op, ty, pos, af, g⟩ w v) : Flt P ops ⟨d, op, ty, pos, af, g⟩ e w v := by
 subst hg
 unfold Qv at hq
 unfold Flt
 exact ⟨fun _ => hq, fun h => by simp [Region.wanted] at h⟩
theorem cpv {ops : Array Oper} {kx : Option Nat} {φ : World -> Prop} {Q : Env -> World -> Prop} {post rest : List Nat} {i : Nat} {op : Op} {dd : Nat} {v : Value} (ho : ops.toList[i]? = some ⟨d, op, ty, pos, af, g⟩) (hd : d = some dd) (hr : rdy ops (post ++ i :: rest) i = true) (hc : (match kx with | some x => Nat.beq x i | none => false) = false) (hφ : φ w)
 (hg : g = none) (hq : ∀ {w'}, Qv P e ⟨d, op, ty, pos, af, g⟩ w' v) (h : Cur P ops (Jk kx φ) Q post rest (upd e dd v) w) : Cur P ops (Jk kx φ) Q post (i :: rest) e w := qu ho hd hr hc (fun _ => hφ) (fun _ => qh hg hq) h
theorem ql {op : Op} {v : Value} {j : Nat} {want b : Bool} (hg : gv ops e j = some b) (hb : b = want) (hq : Qv P e ⟨d, op, ty, pos, af, some (j, want)⟩ w v) : Flt P ops ⟨d, op, ty, pos, af, some (j, want)⟩ e w v := by
 unfold Qv at hq
 unfold Flt
 subst hb
 exact ⟨fun _ => hq, fun h => by simp [Region.wanted, hg] at h⟩
theorem qo {op : Op} {j : Nat} {want b : Bool} (hg : gv ops e j = some b) (hb : b = !want) : Flt P ops ⟨d, op, ty, pos, af, some (j, want)⟩ e w undef := by
 unfold Flt
 subst hb
 exact ⟨fun h => by cases want <;> simp [Region.wanted, hg] at h, fun _ => rfl⟩
theorem ku {x : Operand} {k : IntKind} {a : Int} (hx : ev e x = .int k a) : Qv P e ⟨d, .move x, ty, pos, af, g⟩ w (.int k a) := by
 unfold Qv
 simp [execOp, hx]
theorem su {x : Operand} {k : IntKind} {a : Int} (hx : ev e x = .int k a) : Qv P e ⟨d, .assign x, ty, pos, af, g⟩ w (.int k a) := by
 unfold Qv
 simp [execOp, hx]
theorem ti {x : Operand} {b : Bool} (hx : ev e x = .bool b) : Qv P e ⟨d, .move x, ty, pos, af, g⟩ w (.bool b) := by
 unfold Qv
 simp [execOp, hx]
theorem sk {x : Operand} {b : Bool} (hx : ev e x = .bool b) : Qv P e ⟨d, .assign x, ty, pos, af, g⟩ w (.bool b) := by
 unfold Qv
 simp [execOp, hx]
theorem jr {x : Operand} {a : Option Addr} (hx : ev e x = .pointer a) : Qv P e ⟨d, .move x, ty, pos, af, g⟩ w (.pointer a) := by
 unfold Qv
 simp [execOp, hx]
theorem ut {x : Operand} {a : Option Addr} (hx : ev e x = .pointer a) : Qv P e ⟨d, .assign x, ty, pos, af, g⟩ w (.pointer a) := by
 unfold Qv
 simp [execOp, hx]
theorem m0 {x : Operand} {a : Option Addr} {m c : Nat} (hx : ev e x = .slice a m c) : Qv P e ⟨d, .move x, ty, pos, af, g⟩ w (.slice a m c) := by
 unfold Qv
 simp [execOp, hx]
theorem xq {x : Operand} {a : Option Addr} {m c : Nat} (hx : ev e x = .slice a m c) : Qv P e ⟨d, .assign x, ty, pos, af, g⟩ w (.slice a m c) := by
 unfold Qv
 simp [execOp, hx]
theorem tl {x : Operand} {vs : List Value} (hx : ev e x = .tuple vs.toArray) : Qv P e ⟨d, .move x, ty, pos, af, g⟩ w (.tuple vs.toArray) := by
 unfold Qv
 simp [execOp, hx]
theorem ji {c x y : Operand} {b k : Bool} (hc : ev e c = .bool k) (hk : k = true) (hx : ev e x = .bool b) : Qv P e ⟨d, .pick c x y, ty, pos, af, g⟩ w (.bool b) := by
 unfold Qv
 subst hk
 simp [execOp, hc, hx, asBool]
theorem jl {c x y : Operand} {b k : Bool} (hc : ev e c = .bool k) (hk : k = false) (hy : ev e y = .bool b) : Qv P e ⟨d, .pick c x y, ty, pos, af, g⟩ w (.bool b) := by
 unfold Qv
 subst hk
 simp [execOp, hc, hy, asBool]
theorem v7 {x : Operand} {a : Addr} (hx : ev e x = .pointer (some a)) : Qv P e ⟨d, .nilCheck x, ty, pos, af, g⟩ w (.pointer (some a)) := by
 unfold Qv
 simp [execOp, hx]
theorem vm {s f k : Nat} [FA P s f k] {x : Operand} {b o : Nat} (hx : ev e x = .pointer (some ⟨b, o, none⟩)) : Qv P e ⟨d, .fieldAddr s x f, ty, pos, af, g⟩ w (.pointer (some ⟨b, o + k, none⟩)) := by
 unfold Qv
 simp [execOp, hx, FA.h (P := P) (s := s) (f := f)]
theorem lq {t : TypeId} {z : List Value} {bytes : Nat} [hi : Inf P t z false bytes] {b o : Nat} {v : Value} (hv : w.cell? ⟨b, o, none⟩ = some v) : (Instr.loadAt t (.pointer (some ⟨b, o, none⟩))).run P w = .ok v w := by
 simp [Instr.loadAt, Instr.sureAddr, loadVar, hi.isAgg, load, Sem.run, hv]
theorem yz {b o : Nat} {l : List Value} {T : TypeId} {fr : Nat × Nat} {v : Value} (hb : w.heap[b]? = some (.cells l.toArray T fr)) (hv : l[o]? = some v) : w.cell? ⟨b, o, none⟩ = some v := by
 simp [World.cell?, hb, hv]
theorem jj {t : TypeId} {z : List Value} {bytes : Nat} [Inf P t z false bytes] {x : Operand} {b o : Nat} {v : Value} (hx : ev e x = .pointer (some ⟨b, o, none⟩)) (hv : w.cell? ⟨b, o, none⟩ = some v) :
  Qv P e ⟨d, .load t x, ty, pos, af, g⟩ w v := by
 unfold Qv
 simp [execOp, hx, lq (t := t) hv]
theorem qq {t : TypeId} {z : List Value} {bytes : Nat} [Inf P t z false bytes] {x : Operand} {b o : Nat} {l : List Value} {T : TypeId} {fr : Nat × Nat} {v : Value} (hx : ev e x = .pointer (some ⟨b, o, none⟩)) (hb : w.heap[b]? = some (.cells l.toArray T fr)) (hv : l[o]? = some v) :
  Qv P e ⟨d, .load t x, ty, pos, af, g⟩ w v := jj hx (yz hb hv)
def At (w : World) (b o : Nat) (l : List Value) : Prop := ∀ j v, l[j]? = some v -> w.cell? ⟨b, o + j, none⟩ = some v
theorem qw {b o : Nat} {l m : List Value} {T : TypeId} {fr : Nat × Nat} (hb : w.heap[b]? = some (.cells l.toArray T fr)) (hm : (l.drop o).take m.length = m) : At w b o m := by
 intro j v hj
 refine yz hb ?_
 rw [<- hm, Kh] at hj
 split at hj
 ·simpa using hj
 ·cases hj
theorem js {t : TypeId} {z : List Value} {bytes : Nat} [hi : Inf P t z true bytes] {b o : Nat} {l : List Value} (hz : z.length = l.length) (hl : At w b o l) : (Instr.loadAt t (.pointer (some ⟨b, o, none⟩))).run P w = .ok (.agg l.toArray) w := by
 obtain ⟨i, h1, _, h3, _⟩ := hi.get
 obtain ⟨dd, hu, hd⟩ := hi.u
 refine run_loadAt_mid w b o t l dd (fun j v hv => hl j v hv) hu ?_ (by simp [h1, h3, hz])
 cases dd <;> simp_all
theorem qx {t : TypeId} {z : List Value} {bytes : Nat} [Inf P t z true bytes] {x : Operand} {b o : Nat} {l : List Value} (hx : ev e x = .pointer (some ⟨b, o, none⟩)) (hz : Nat.beq z.length l.length = true) (hl : At w b o l) :
  Qv P e ⟨d, .load t x, ty, pos, af, g⟩ w (.agg l.toArray) := by
 unfold Qv
 simp [execOp, hx, js (t := t) (Vh hz) hl]
section
variable {k : IntKind} {a b : Int} {t t2 : TypeId} {x y : Operand}
theorem vt (hx : ev e x = .int k a) (hy : ev e y = .int k b) : Qv P e ⟨d, .binOp .add t x y t2, ty, pos, af, g⟩ w (.int k (k.wrap (a + b))) := by
 unfold Qv
 simp [execOp, hx, hy, eqGuard, binOp, Op.intArith]
theorem vi (hx : ev e x = .int k a) (hy : ev e y = .int k b) : Qv P e ⟨d, .binOp .sub t x y t2, ty, pos, af, g⟩ w (.int k (k.wrap (a - b))) := by
 unfold Qv
 simp [execOp, hx, hy, eqGuard, binOp, Op.intArith]
theorem q_mul (hx : ev e x = .int k a) (hy : ev e y = .int k b) : Qv P e ⟨d, .binOp .mul t x y t2, ty, pos, af, g⟩ w (.int k (k.wrap (a * b))) := by
 unfold Qv
 simp [execOp, hx, hy, eqGuard, binOp, Op.intArith]
theorem wo (hx : ev e x = .int k a) (hy : ev e y = .int k b) : Qv P e ⟨d, .binOp .lss t x y t2, ty, pos, af, g⟩ w (.bool (decide (a < b))) := by
 unfold Qv
 simp [execOp, hx, hy, eqGuard, binOp, Op.intCmp]
theorem ni (hx : ev e x = .int k a) (hy : ev e y = .int k b) : Qv P e ⟨d, .binOp .leq t x y t2, ty, pos, af, g⟩ w (.bool (decide (a <= b))) := by
 unfold Qv
 simp [execOp, hx, hy, eqGuard, binOp, Op.intCmp]
theorem ki (hx : ev e x = .int k a) (hy : ev e y = .int k b) : Qv P e ⟨d, .binOp .gtr t x y t2, ty, pos, af, g⟩ w (.bool (decide (a > b))) := by
 unfold Qv
 simp [execOp, hx, hy, eqGuard, binOp, Op.intCmp]
theorem yr (hx : ev e x = .int k a) (hy : ev e y = .int k b) : Qv P e ⟨d, .binOp .geq t x y t2, ty, pos, af, g⟩ w (.bool (decide (a ≥ b))) := by
 unfold Qv
 simp [execOp, hx, hy, eqGuard, binOp, Op.intCmp]
theorem j9 (hx : ev e x = .int k a) (hy : ev e y = .int k b) : Qv P e ⟨d, .binOp .eql t x y t2, ty, pos, af, g⟩ w (.bool (a == b)) := by
 unfold Qv
 simp [execOp, hx, hy, eqGuard, binOp, Op.intCmp]
theorem q_neq (hx : ev e x = .int k a) (hy : ev e y = .int k b) : Qv P e ⟨d, .binOp .neq t x y t2, ty, pos, af, g⟩ w (.bool (a != b)) := by
 unfold Qv
 simp [execOp, hx, hy, eqGuard, binOp, Op.intCmp]
def bitOp (op : BinOp) (k : IntKind) (a b : Int) : Int :=
 let x := BitVec.ofInt k.bits a
 let y := BitVec.ofInt k.bits b
 k.wrap (match op with
  | .and => x &&& y
  | .or => x ||| y
  | .xor => x ^^^ y
  | _ => x &&& ~~~y).toNat
theorem zb (hx : ev e x = .int k a) (hy : ev e y = .int k b) : Qv P e ⟨d, .binOp .and t x y t2, ty, pos, af, g⟩ w (.int k (bitOp .and k a b)) := by
 unfold Qv
 simp [execOp, hx, hy, eqGuard, binOp, Op.intBits, bitOp]
theorem q_or (hx : ev e x = .int k a) (hy : ev e y = .int k b) : Qv P e ⟨d, .binOp .or t x y t2, ty, pos, af, g⟩ w (.int k (bitOp .or k a b)) := by
 unfold Qv
 simp [execOp, hx, hy, eqGuard, binOp, Op.intBits, bitOp]
theorem q_xor (hx : ev e x = .int k a) (hy : ev e y = .int k b) : Qv P e ⟨d, .binOp .xor t x y t2, ty, pos, af, g⟩ w (.int k (bitOp .xor k a b)) := by
 unfold Qv
 simp [execOp, hx, hy, eqGuard, binOp, Op.intBits, bitOp]
theorem q_quo (hx : ev e x = .int k a) (hy : ev e y = .int k b) (hb : b ≠ 0) : Qv P e ⟨d, .binOp .quo t x y t2, ty, pos, af, g⟩ w (.int k (k.wrap (a.tdiv b))) := by
 unfold Qv
 simp [execOp, hx, hy, eqGuard, binOp, Op.intDiv, hb]
theorem nl (hx : ev e x = .int k a) (hy : ev e y = .int k b) (hb : b ≠ 0) : Qv P e ⟨d, .binOp .rem t x y t2, ty, pos, af, g⟩ w (.int k (a.tmod b)) := by
 unfold Qv
 simp [execOp, hx, hy, eqGuard, binOp, Op.intDiv, hb]
theorem xl {k2 : IntKind} (hx : ev e x = .int k a) (hy : ev e y = .int k2 b) (hb : 0 <= b) : Qv P e ⟨d, .binOp .shl t x y t2, ty, pos, af, g⟩ w (.int k (k.wrap (a * 2 ^ (min b.toNat k.bits)))) := by
 unfold Qv
 simp [execOp, hx, hy, eqGuard, binOp, Op.shift, show ¬ b < 0 by omega]
theorem vl {k2 : IntKind} (hx : ev e x = .int k a) (hy : ev e y = .int k2 b) (hb : 0 <= b) : Qv P e ⟨d, .binOp .shr t x y t2, ty, pos, af, g⟩ w (.int k (a.fdiv (2 ^ (min b.toNat k.bits)))) := by
 unfold Qv
 simp [execOp, hx, hy, eqGuard, binOp, Op.shift, show ¬ b < 0 by omega]
end
end
attribute [irreducible] Qv
end
section
def Rd (w : World) (sz : Nat) (a : Option Addr) (n : Nat) (xs : List Value) : Prop :=
 xs.length = n * sz ∧ (n = 0 ∨ ∃ b o, a = some ⟨b, o, none⟩ ∧ At w b o xs)
def Own (T sz : Nat) (a : Option Addr) (n c : Nat) (xs : List Value) : HProp := fun h =>
 xs.length = n * sz ∧ n <= c ∧ ((a = none ∧ c = 0 ∧ h = Hp.nil) ∨
  ∃ (g : Nat) (cur : List Value), a = some ⟨g, 0, none⟩ ∧ c * sz <= cur.length ∧ cur.take (n * sz) = xs ∧ pt g (.cells cur.toArray T (0, 0)) h)
section
variable {w0 w w' : World} {l : List HProp} {T sz n c : Nat} {a : Option Addr} {xs : List Value}
theorem Own.nil (T sz : Nat) : Own T sz none 0 0 [] Hp.nil := ⟨by simp, Ug _, .inl ⟨rfl, rfl, rfl⟩⟩
theorem St.ownNil (T sz : Nat) (h : St w0 l w) : St w0 (Own T sz none 0 0 [] :: l) w :=
 h.imp fun p hp => ⟨Hp.nil, p, fun _ => .inl rfl, (Hp.nil_join p).symm, Own.nil T sz, hp⟩
theorem St.own_cases (h : St w0 (Own T sz a n c xs :: l) w) : xs.length = n * sz ∧ n <= c ∧ ((a = none ∧ c = 0 ∧ n = 0 ∧ St w0 l w) ∨
  ∃ (g : Nat) (cur : List Value), a = some ⟨g, 0, none⟩ ∧ c * sz <= cur.length ∧ cur.take (n * sz) = xs ∧ St w0 (pt g (.cells cur.toArray T (0, 0)) :: l) w) := by
 obtain ⟨p, hq, x, y, hd, he, ⟨h1, h2, h3⟩, hl⟩ := h.own
 refine ⟨h1, h2, ?_⟩
 rcases h3 with ⟨r1, r2, r3⟩ | ⟨g, cur, r1, r2, r3, r4⟩
 ·exact .inl ⟨r1, r2, O_o, h.drop⟩
 ·exact .inr ⟨g, cur, r1, r2, r3, h.os, h.tape, h.output, h.size, h.old, p, hq, x, y, hd, he, r4, hl⟩
theorem St.own_mk' {g : Nat} {cur : List Value} (h : St w0 (pt g (.cells cur.toArray T (0, 0)) :: l) w) (h2 : c * sz <= cur.length) (h3 : cur.take (n * sz) = xs) (h4 : n <= c) : St w0 (Own T sz (sQ g) n c xs :: l) w :=
 h.mono fun p hp => ⟨by rw [<- h3, Us]; exact Vs (Uy (Ut _ h4) h2), h4, .inr ⟨g, cur, rfl, h2, h3, hp⟩⟩
theorem St.own_mk {g : Nat} {cur : List Value} (h : St w0 (pt g (.cells cur.toArray T (0, 0)) :: l) w) (h2 : cur.length = c * sz) (h3 : cur.take (n * sz) = xs) (h4 : n <= c) : St w0 (Own T sz (sQ g) n c xs :: l) w :=
 h.own_mk' (Nat.le_of_eq h2.symm) h3 h4
theorem St.own_clip (h : St w0 (Own T sz a n c xs :: l) w) : St w0 (Own T sz a n n xs :: l) w := by
 obtain ⟨h1, h2, ⟨rfl, rfl, rfl, h5⟩ | ⟨g, cur, rfl, h5, h6, h7⟩⟩ := h.own_cases
 ·have : xs = [] := Un (by simpa using h1)
  subst this
  exact h5.ownNil T sz
 ·exact h7.own_mk' (Uy (Ut _ h2) h5) h6 (Ug _)
theorem St.own_rd (h : St w0 (Own T sz a n c xs :: l) w) : Rd w sz a n xs := by
 obtain ⟨h1, h2, h3⟩ := h.own_cases
 refine ⟨h1, ?_⟩
 rcases h3 with ⟨r1, r2, r3, r4⟩ | ⟨g, cur, r1, r2, r3, r4⟩
 ·exact .inl r3
 ·exact .inr ⟨g, 0, r1, qw r4.hd.1 (by rw [Wz, h1, r3])⟩
theorem Rd.old (h : St w0 l w) (hr : Rd w0 sz a n xs) (hb : ∀ b o, a = some ⟨b, o, none⟩ -> 0 < n -> b < w0.heap.size) : Rd w sz a n xs := by
 refine ⟨hr.1, ?_⟩
 rcases Wq n with h0 | h0
 ·exact .inl h0
 refine .inr ?_
 rcases hr.2 with h1 | ⟨b, o, r1, r2⟩
 ·omega
 exact ⟨b, o, r1, fun j v hj => by rw [h.cell_old (hb b o r1 h0)]; exact r2 j v hj⟩
theorem Rd.len (h : Rd w sz a n xs) : xs.length = n * sz := h.1
theorem Rd.first {P : Program} (h : Rd w sz a n xs) (c : Nat) : (Builtin.firstCells sz n (.slice a n c)).run P w = .ok xs.toArray w := by
 rcases h.2 with rfl | ⟨b, o, rfl, hat⟩
 ·have : xs = [] := Un (by rw [h.1]; simp)
  subst this
  cases a with
  | none => simp [Builtin.firstCells]
  | some ad => exact run_firstCells_some w sz 0 ad 0 c [] O8 (fun j v hj => by cases hj)
 ·exact run_firstCells_some w sz n _ n c xs h.1 (fun j v hj => by rw [Addr.add_mid]; exact hat j v hj)
end
section
variable {P : Program} {w : World}
theorem run_append_grows {t ty T : TypeId} {z : List Value} {agg : Bool} {bytes : Nat} (ht : P.underlying t = some (.slice T)) (hi : Inf P T z agg bytes) {a a2 : Option Addr} {n c m c2 : Nat} {xs ys : List Value}
  (hx : Rd w z.length a n xs) (hy : Rd w z.length a2 m ys) (hg : c < n + m) (hb : (n + m) * bytes <= 140737488355328) (h63 : n + m <= 9223372036854775807) :
  ∃ k, (Builtin.append_ #[t, t] ty #[.slice a n c, .slice a2 m c2]).run P w = .ok (.slice (some ⟨w.heap.size, 0, none⟩) (n + m) (n + m + k)) (w.drew.alloc (.cells (xs ++ ys ++ (Builtin.zeroCells z.toArray k).toList).toArray T)) := by
 obtain ⟨i, h1, h2, h3, h4⟩ := hi.get
 subst h4
 have hfx := (show Rd w.drew z.length a n xs from hx).first (P := P) c
 have hfy := (show Rd w.drew z.length a2 m ys from hy).first (P := P) c2
 have hge : n + m <= grownCap w (n + m) c T := by simp [grownCap, Question.cut]
 have hfit := growslice_fits hg hb
 have hzc := hi.cells
 refine ⟨grownCap w (n + m) c T - (n + m), ?_⟩
 have e1 : n + m + (grownCap w (n + m) c T - (n + m)) = grownCap w (n + m) c T := by omega
 rw [e1]
 have hn1 : ¬ (n + m <= c) := by omega
 have hn2 : ¬ ((9223372036854775807 : Int) < (n : Int) + (m : Int)) := by omega
 have hn3 : ¬ (281474976710656 < Builtin.nextslicecap (n + m) c * i.bytes) := by omega
 rw [<- h3] at hfx hfy
 generalize (if agg then Value.agg z.toArray else z.getD 0 undef) = zz at h2 hzc
 simp [Builtin.append_, run_underlying ht, sizeOf, typeInfo, zeroValue, h1, h2, Builtin.lenOf, hn1, hn2, hn3, Question.forced, newRow, hfx, hfy, grownCap, hzc]
 congr 2
 apply Array.ext'
 simp [Um]
theorem run_append_fit {t ty T : TypeId} {z : List Value} {agg : Bool} {bytes : Nat} (ht : P.underlying t = some (.slice T)) (hi : Inf P T z agg bytes) {a2 : Option Addr} {g n c m c2 : Nat} {cur ys : List Value}
  (hg : w.heap[g]? = some (.cells cur.toArray T (0, 0))) (hc : c * z.length <= cur.length) (hy : Rd w z.length a2 m ys) (hfit : n + m <= c) (h1 : ∀ u ∈ ys, u.oneCell' = true) :
  (Builtin.append_ #[t, t] ty #[.slice (sQ g) n c, .slice a2 m c2]).run P w = .ok (.slice (sQ g) (n + m) c)
   (w.setRow g (cur.take (n * z.length) ++ ys ++ cur.drop (n * z.length + ys.length)).toArray) := by
 obtain ⟨i, hi1, hi2, hi3, hi4⟩ := hi.get
 have hfy := hy.first (P := P) c2
 have hle : (n + m) * z.length <= c * z.length := Ut _ hfit
 rw [Vi] at hle
 have hst := run_storeCells_at P g (n * z.length) T ys 0 cur.toArray w hg (by simp only [Wu, hy.1]; omega) h1
 simp only [Wm] at hst
 rw [Wt (n * z.length)] at hst ⊢
 simp [Builtin.append_, run_underlying ht, sizeOf, typeInfo, hi1, Builtin.lenOf, hfit, hfy, Addr.add_mid, hi3, hst]
theorem run_append_none {t ty T : TypeId} {z : List Value} {agg : Bool} {bytes : Nat} (ht : P.underlying t = some (.slice T)) (hi : Inf P T z agg bytes) {c2 : Nat} {a2 : Option Addr} {ys : List Value} (hy : Rd w z.length a2 0 ys) :
  (Builtin.append_ #[t, t] ty #[.slice none 0 0, .slice a2 0 c2]).run P w = .ok (.slice none 0 0) w := by
 obtain ⟨i, hi1, hi2, hi3, hi4⟩ := hi.get
 have hfy := hy.first (P := P) c2
 rw [<- hi3] at hfy
 simp [Builtin.append_, run_underlying ht, sizeOf, typeInfo, hi1, Builtin.lenOf, hfy]
end
theorem zeroCells_len (z : Array Value) (k : Nat) : (Builtin.zeroCells z k).toList.length = k * z.size := by simp [Builtin.zeroCells]
theorem St.append {P : Program} {w0 w : World} {l : List HProp} {t ty T : TypeId} {z : List Value} {agg : Bool} {bytes : Nat} {n c m c2 : Nat} {a a2 : Option Addr} {xs ys : List Value} (h : St w0 (Own T z.length a n c xs :: l) w)
  (ht : P.underlying t = some (.slice T)) (hi : Inf P T z agg bytes) (hy : Rd w z.length a2 m ys) (h1 : ∀ u ∈ ys, u.oneCell' = true) (hb : (n + m) * bytes <= 140737488355328) (h63 : n + m <= 9223372036854775807) :
  ∃ a' c' w', (Builtin.append_ #[t, t] ty #[.slice a n c, .slice a2 m c2]).run P w = .ok (.slice a' (n + m) c') w' ∧ (a' = none -> a = none) ∧ St w0 (Own T z.length a' (n + m) c' (xs ++ ys) :: l) w' := by
 obtain ⟨h2, h3, h4⟩ := h.own_cases
 have hx := h.own_rd
 by_cases hg : c < n + m
 ·obtain ⟨k, hr⟩ := run_append_grows (P := P) (ty := ty) (c := c) (c2 := c2) ht hi hx hy hg hb h63
  refine ⟨_, _, _, hr, (fun h => by cases h), ?_⟩
  have h5 := (h.drop.drew).alloc (.cells (xs ++ ys ++ (Builtin.zeroCells z.toArray k).toList).toArray T)
  refine St.own_mk h5 (c := n + m + k) ?_ ?_ (Nat.le_add_right _ _)
  ·rw [Ua, Ua, zeroCells_len, h2, hy.1, Vi, Vi]; simp
  ·rw [Um, <- Um]
   exact List.take_left' (by rw [Ua, h2, hy.1, Vi])
 ·rcases h4 with ⟨rfl, rfl, rfl, h5⟩ | ⟨g, cur, rfl, h5, h6, h7⟩
  ·obtain rfl : m = 0 := by omega
   have hxs : xs = [] := Un (by simpa using h2)
   have hys : ys = [] := Un (by simpa using hy.1)
   subst hxs hys
   exact ⟨none, 0, w, run_append_none ht hi hy, (fun _ => rfl), h5.ownNil T z.length⟩
  ·have hr := run_append_fit (P := P) (ty := ty) (n := n) (m := m) (c2 := c2) ht hi h7.hd.1 h5 hy O0 h1
   refine ⟨_, _, _, hr, (fun h => by cases h), ?_⟩
   have hle : (n + m) * z.length <= c * z.length := Ut _ O0
   rw [Vi] at hle
   have h8 : St w0 (pt g (.cells (cur.take (n * z.length) ++ ys ++ cur.drop (n * z.length + ys.length)).toArray T (0, 0)) :: l) (w.setRow g (cur.take (n * z.length) ++ ys ++ cur.drop (n * z.length + ys.length)).toArray) :=
    h7.put rfl rfl rfl O8 (fun k hk => setRow_other w g k _ hk) (setRow_heap w g _ _ T (0, 0) h7.hd.1)
   refine St.own_mk' h8 (c := c) ?_ ?_ O0
   ·simp only [Ua, Us, Uq, hy.1]; omega
   ·rw [h6]
    exact List.take_left' (by rw [Ua, h2, hy.1, Vi])
end
section
section
variable {P : Program} {n : Nat} {ops : Array Oper} {Q : Post} {rest : List Oper} {e : Env} {w w0 : World} {K : Env -> World -> Prop} {l : List HProp}
variable {d : Option Nat} {ty : TypeId} {pos : String} {af : Array Edge} {g : Option (Nat × Bool)}
theorem sy {t : TypeId} {x y : Value} {b : Bool} (h : ∀ k, (Op.equalIn (k + 1) t x y).run P w = .ok b w) : (Op.equal t x y).run P w = .ok b w := h 9999
theorem q_eq_of {t t2 : TypeId} {x y : Operand} {a c : Value} {b : Bool} (hx : ev e x = a) (hy : ev e y = c) (h : ∀ k, (Op.equalIn (k + 1) t a c).run P w = .ok b w) (hb : binOp .eql t a c = (do pure (.bool (<- Op.equal t a c)))) (hg : ∀ p q, eqGuard .eql t p q a c = pure ()) :
  Qv P e ⟨d, .binOp .eql t x y t2, ty, pos, af, g⟩ w (.bool b) := by
 unfold Qv
 have := sy h
 simp only [execOp, hx, hy, hb, hg, Sem.run_bind, Sem.run_pure, Result.andThen_ok, this]
theorem q_ne_of {t t2 : TypeId} {x y : Operand} {a c : Value} {b : Bool} (hx : ev e x = a) (hy : ev e y = c) (h : ∀ k, (Op.equalIn (k + 1) t a c).run P w = .ok b w) (hb : binOp .neq t a c = (do pure (.bool (!(<- Op.equal t a c))))) (hg : ∀ p q, eqGuard .neq t p q a c = pure ()) :
  Qv P e ⟨d, .binOp .neq t x y t2, ty, pos, af, g⟩ w (.bool (!b)) := by
 unfold Qv
 have := sy h
 simp only [execOp, hx, hy, hb, hg, Sem.run_bind, Sem.run_pure, Result.andThen_ok, this]
theorem eqIn_ptr {t el : TypeId} (hu : P.underlying t = some (.pointer el)) (a : Option Addr) (k : Nat) : (Op.equalIn (k + 1) t (.pointer a) (.pointer none)).run P w = .ok a.isNone w := by
 cases a <;> (unfold Op.equalIn; rw [Sem.run_bind, run_underlying hu]; rfl)
theorem eqIn_slice {t el : TypeId} (hu : P.underlying t = some (.slice el)) (a : Option Addr) (m c k : Nat) : (Op.equalIn (k + 1) t (.slice a m c) (.slice none 0 0)).run P w = .ok a.isNone w := by
 cases a <;> (unfold Op.equalIn; rw [Sem.run_bind, run_underlying hu]; rfl)
theorem zm {t t2 el : TypeId} [hu : Und P t (.pointer el)] {x y : Operand} {a : Option Addr} (hx : ev e x = .pointer a) (hy : ev e y = .pointer none) :
  Qv P e ⟨d, .binOp .eql t x y t2, ty, pos, af, g⟩ w (.bool a.isNone) :=
 q_eq_of hx hy (eqIn_ptr hu.h a) (by cases a <;> rfl) (fun _ _ => rfl)
theorem ve {t t2 el : TypeId} [hu : Und P t (.pointer el)] {x y : Operand} {a : Option Addr} (hx : ev e x = .pointer a) (hy : ev e y = .pointer none) :
  Qv P e ⟨d, .binOp .neq t x y t2, ty, pos, af, g⟩ w (.bool (!a.isNone)) :=
 q_ne_of hx hy (eqIn_ptr hu.h a) (by cases a <;> rfl) (fun _ _ => rfl)
theorem ui {t t2 el : TypeId} [hu : Und P t (.slice el)] {x y : Operand} {a : Option Addr} {m c : Nat} (hx : ev e x = .slice a m c) (hy : ev e y = .slice none 0 0) :
  Qv P e ⟨d, .binOp .eql t x y t2, ty, pos, af, g⟩ w (.bool a.isNone) :=
 q_eq_of hx hy (eqIn_slice hu.h a m c) rfl (fun _ _ => rfl)
theorem toList_loop (a : ByteArray) : ∀ (k i : Nat) (r : List UInt8), a.size - i = k -> ByteArray.toList.loop a i r = r.reverse ++ a.data.toList.drop i := by
 intro k
 induction k with
 | zero =>
  intro i r h
  unfold ByteArray.toList.loop
  have hs : a.size = a.data.size := rfl
  rw [if_neg O0, Vo O6]
  simp
 | succ k ih =>
  intro i r h
  unfold ByteArray.toList.loop
  have hs : a.size = a.data.size := rfl
  rw [if_pos O0, ih (i + 1) _ O0]
  have hi : i < a.data.toList.length := by simp; omega
  rw [Vz hi]
  have : a.get! i = a.data.toList[i] := by
   show a.data[i]! = _
   rw [getElem!_pos a.data i O0]
   simp
  rw [this]
  simp
theorem toList_data (a : ByteArray) : a.toList = a.data.toList := by
 unfold ByteArray.toList
 rw [toList_loop _ _ _ _ rfl]
 simp
theorem qjo {t t2 : TypeId} {x y : Operand} {a b : ByteArray} (hx : ev e x = .string a) (hy : ev e y = .string b) :
  Qv P e ⟨d, .binOp .eql t x y t2, ty, pos, af, g⟩ w (.bool (a.data.toList == b.data.toList)) := by
 unfold Qv
 simp [execOp, hx, hy, eqGuard, binOp, Op.stringOp, toList_data]
theorem y8 {t : TypeId} {x : Operand} {a : Bool} (hx : ev e x = .bool a) : Qv P e ⟨d, .unOp .not t x, ty, pos, af, g⟩ w (.bool (!a)) := by
 unfold Qv
 simp [execOp, hx, Op.unary]
theorem sx {t : TypeId} {x : Operand} {k : IntKind} {a : Int} (hx : ev e x = .int k a) : Qv P e ⟨d, .unOp .neg t x, ty, pos, af, g⟩ w (.int k (k.wrap (0 - a))) := by
 unfold Qv
 simp [execOp, hx, Op.unary, Op.intArith]
theorem xj {s t : TypeId} {k j : IntKind} {dd : TypeDesc} [hs : Und P s dd] [ht : Und P t (.int k)] {x : Operand} {a : Int} (hx : ev e x = .int j a) : Qv P e ⟨d, .convert s t x, ty, pos, af, g⟩ w (.int k (k.wrap a)) := by
 unfold Qv
 simp [execOp, hx, convert, run_underlying hs.h, run_underlying ht.h, Conv.intToInt]
theorem te {x : Operand} {i : Nat} {vs : List Value} {v : Value} (hx : ev e x = .tuple vs.toArray) (hv : vs[i]? = some v) : Qv P e ⟨d, .extract x i, ty, pos, af, g⟩ w v := by
 unfold Qv
 simp [execOp, hx, Instr.extract, hv]
theorem t9 {t el : TypeId} {tys : List TypeId} [hu : Und P t (.slice el)] {x : Operand} {a : Option Addr} {m c : Nat} (hx : ev e x = .slice a m c) :
  Qv P e ⟨d, .call ⟨.builtin .len, [x].toArray, (t :: tys).toArray⟩, ty, pos, af, g⟩ w (.iz m) := by
 unfold Qv
 simp [execOp, resolve, hx, invoke, builtin, Builtin.len_, run_underlying hu.h, goInt]
theorem rf {t kt et : TypeId} {tys : List TypeId} [hu : Und P t (.map kt et)] {x : Operand} {r clock : Nat} {es : Array MapEntry} (hx : ev e x = .map (some r)) (hb : w.heap[r]? = some (.map es clock)) :
  Qv P e ⟨d, .call ⟨.builtin .len, [x].toArray, (t :: tys).toArray⟩, ty, pos, af, g⟩ w (.iz es.size) := by
 unfold Qv
 simp [execOp, resolve, hx, invoke, builtin, Builtin.len_, run_underlying hu.h, goInt, getObj, Sem.run, hb]
theorem sw {tys : Array TypeId} {x y : Operand} {k j : IntKind} {a b : Int} (hx : ev e x = .int k a) (hy : ev e y = .int j b) :
  Qv P e ⟨d, .call ⟨.builtin .max, [x, y].toArray, tys⟩, ty, pos, af, g⟩ w (.int k (max a b)) := by
 unfold Qv
 have : max a b = if b > a then b else a := by rw [Int.max_def]; split <;> split <;> omega
 simp [execOp, resolve, hx, hy, invoke, builtin, Builtin.max_, Builtin.max2, this]
theorem ro {tys : Array TypeId} {x y : Operand} {k j : IntKind} {a b : Int} (hx : ev e x = .int k a) (hy : ev e y = .int j b) :
  Qv P e ⟨d, .call ⟨.builtin .min, [x, y].toArray, tys⟩, ty, pos, af, g⟩ w (.int k (min a b)) := by
 unfold Qv
 have : min a b = if b < a then b else a := by rw [Int.min_def]; split <;> split <;> omega
 simp [execOp, resolve, hx, hy, invoke, builtin, Builtin.min_, Builtin.min2, this]
def vcells : Value -> List Value
 | .agg cs => cs.toList
 | v => [v]
theorem yx (v : Value) : v.cells = (vcells v).toArray := by cases v <;> simp [vcells, Value.cells]
def laid (zero : List Value) (places : List (Nat × Nat)) : List (Nat × Value) -> Option (List Value)
 | [] => some zero
 | (i, v) :: r => match places[i]? with
  | none => none
  | some (off, size) =>
   bif Nat.beq (vcells v).length size && Nat.ble (off + size) zero.length then laid (zero.take off ++ vcells v ++ zero.drop (off + size)) places r else none
theorem sd (c : List Value) : ∀ (off k : Nat) (cells : List Value), off + k + c.length <= cells.length ->
  (c.zipIdx k).foldl (fun cs (x, j) => cs.setIfInBounds (off + j) x) cells.toArray = (cells.take (off + k) ++ c ++ cells.drop (off + k + c.length)).toArray := by
 induction c with
 | nil => intro off k cells h; simp
 | cons v c ih =>
  intro off k cells h
  simp only [Ui] at h
  simp only [List.zipIdx_cons, List.foldl_cons, List.setIfInBounds_toArray]
  rw [ih off (k + 1) (cells.set (off + k) v) O6]
  congr 1
  have e1 : off + (k + 1) = off + k + 1 := by omega
  have e2 : (cells.set (off + k) v).take (off + k + 1) = cells.take (off + k) ++ [v] := by
   rw [List.take_succ_eq_append_getElem O6]
   simp [List.take_set_of_le]
  rw [e1, e2, List.drop_set_of_lt O0]
  simp [Kf, Wt, Nat.add_left_comm]
theorem sb (places : List (Nat × Nat)) : ∀ (ps : List (Nat × Value)) (zero : List Value), (∀ r, laid zero places ps = some r -> Instr.fill (places.toArray[·]?) zero.toArray ps = some r.toArray)
 | [], zero, r, h => by simp only [laid, Vq] at h; subst h; rfl
 | (i, v) :: ps, zero, r, h => by
  simp only [laid] at h
  cases hp : places[i]? with
  | none => rw [hp] at h; cases h
  | some os =>
   obtain ⟨off, size⟩ := os
   rw [hp] at h
   simp only at h
   cases hc : (Nat.beq (vcells v).length size && Nat.ble (off + size) zero.length) with
   | false => rw [hc] at h; cases h
   | true =>
    rw [hc] at h
    simp only [Ur] at hc
    have h1 : (vcells v).length = size := Vh hc.1
    have h2 : off + size <= zero.length := Wb hc.2
    have hr := sb places ps _ r h
    unfold Instr.fill
    simp only [List.getElem?_toArray, hp, yx, Wu]
    rw [if_neg (by simp [h1]; omega)]
    have := sd (vcells v) off 0 zero O0
    simp only [Wm] at this
    have hz : (vcells v).toArray.zipIdx = ((vcells v).zipIdx).toArray := by simp
    rw [hz, List.foldl_toArray, this, h1]
    simpa using hr
class Pl (P : Program) (t : TypeId) (z : outParam (List Value)) (places : outParam (List (Nat × Nat))) : Prop where
 u : ∃ fs, P.underlying t = some (.struct fs) ∧ ∀ w, (fs.mapM fun f => do pure (f.offset, <- sizeOf f.type) : Sem (Array (Nat × Nat))).run P w = .ok places.toArray w
 z : ∀ w, (zeroValue t).run P w = .ok (.agg z.toArray) w
theorem Pl.mk' {P : Program} {t : TypeId} {fl : List Field} {z : List Value} {places : List (Nat × Nat)} {bytes : Nat} (hu : P.underlying t = some (.struct fl.toArray)) (hi : Inf P t z true bytes)
  (hs : fl.map (fun f => (f.offset, (P.info? f.type).map (·.size))) = places.map (fun p => (p.1, some p.2))) : Pl P t z places where
 u := by
  refine ⟨_, hu, fun w => ?_⟩
  rw [List.mapM_toArray]
  have key : ∀ (fl : List Field) (places : List (Nat × Nat)), fl.map (fun f => (f.offset, (P.info? f.type).map (·.size))) = places.map (fun p => (p.1, some p.2)) ->
    (fl.mapM fun f => do pure (f.offset, <- sizeOf f.type) : Sem (List (Nat × Nat))).run P w = .ok places w := by
   intro fl
   induction fl with
   | nil => intro places h; cases places with | nil => simp | cons a b => simp at h
   | cons f fl ih =>
    intro places h
    cases places with
    | nil => simp at h
    | cons a b =>
     simp only [Ux, List.cons.injEq, Prod.mk.injEq] at h
     obtain ⟨i, hi, hsz⟩ := Va.1 h.1.2
     have hsz' : (sizeOf f.type).run P w = .ok a.2 w := by simp [sizeOf, typeInfo, hi, hsz]
     rw [List.mapM_cons, Sem.run_bind, Sem.run_bind, hsz']
     simp only [Result.andThen_ok, Sem.run_pure, Sem.run_bind, ih b h.2]
     rw [h.1.1]
  have hk := key fl places hs
  simp at hk
  simp [hk]
 z := fun w => hi.zeroValue w
theorem qc {t : TypeId} {z : List Value} {places : List (Nat × Nat)} [hp : Pl P t z places] {parts : List (Nat × Operand)} {r : List Value} (hl : laid z places (parts.map fun (i, x) => (i, ev e x)) = some r) :
  Qv P e ⟨d, .build t parts.toArray, ty, pos, af, g⟩ w (.agg r.toArray) := by
 unfold Qv
 obtain ⟨fs, hu, h1⟩ := hp.u
 have h2 := hp.z w
 have hf := sb places _ _ _ hl
 simp only [execOp, Instr.build, Sem.run_bind, h2, run_underlying hu, Result.andThen_ok, h1, Value.cells, Xg]
 simp only at hf
 rw [hf]
 rfl
theorem jv {c : Nat} {t : TypeId} {x : Operand} {v : Value} (h : St w0 l w) (hx : ev e x = v) (k : ∀ b w', St w0 (pt b (.cells (vcells v).toArray t (0, 0)) :: l) w' -> K (upd e c (.pz b)) w') :
  Ex P ⟨some c, .box t x, ty, pos, af, g⟩ e w K := by
 refine x_w (v := .pointer (some ⟨w.heap.size, 0, none⟩)) (w' := w.alloc (.cells (vcells v).toArray t (0, 0))) ?_ (k _ _ (h.alloc _))
 simp [execOp, hx, Instr.box, newVar, newRow, yx]
theorem qp {c : Nat} {t : TypeId} {z : List Value} {agg : Bool} {bytes : Nat} [hi : Inf P t z agg bytes] (h : St w0 l w) (k : ∀ b w', St w0 (pt b (.cells z.toArray t (0, 0)) :: l) w' -> K (upd e c (.pz b)) w') :
  Ex P ⟨some c, .alloc t, ty, pos, af, g⟩ e w K := by
 refine x_w (v := .pointer (some ⟨w.heap.size, 0, none⟩)) (w' := w.alloc (.cells z.toArray t (0, 0))) ?_ (k _ _ (h.alloc _))
 have hz := hi.zeroValue w
 have hc := hi.cells
 generalize (if agg then Value.agg z.toArray else z.getD 0 undef) = zz at hz hc
 simp [execOp, Instr.alloc, hz, newVar, newRow, hc]
theorem ss {t : TypeId} {z : List Value} {agg : Bool} {bytes : Nat} [hi : Inf P t z agg bytes] {b o : Nat} {cs : List Value} {T : TypeId} {fr : Nat × Nat} {v : Value} (k : Nat) (h : St w0 l w)
  (hk : l[k]? = some (pt b (.cells cs.toArray T fr))) (hs : (vcells v).length = z.length) (ho : o + (vcells v).length <= cs.length) (hfr : fr.2 <= o) (h1 : (vcells v).all (·.oneCell') = true) :
  ∃ w', (Instr.storeAt t (.pointer (some ⟨b, o, none⟩)) v).run P w = .ok () w' ∧ St w0 (l.set k (pt b (.cells (cs.take o ++ vcells v ++ cs.drop (o + (vcells v).length)).toArray T fr))) w' := by
 have hb := h.b k hk
 have hst := run_storeCells_atF P b o T fr (vcells v) 0 cs.toArray w hb O0 (by simpa using ho) (by simpa using h1)
 simp only [Wm] at hst
 refine ⟨w.setRow b (cs.take o ++ vcells v ++ cs.drop (o + (vcells v).length)).toArray, ?_, ?_⟩
 ·have hz := hi.sizeOf w
  simp only [Instr.storeAt, Instr.sureAddr, storeVar, Sem.run_bind, Sem.run_pure, Result.andThen_ok, hz, yx]
  rw [if_neg (by simp [hs])]
  simp only [hst]
 ·exact h.putk k hk rfl rfl rfl O8 (fun j hj => setRow_other w b j _ hj) (setRow_heap w b _ _ T fr hb)
theorem qb {t : TypeId} {z : List Value} {bytes : Nat} [hi : Inf P t z false bytes] {x y : Operand} {b o : Nat} {cs : List Value} {T : TypeId} {fr : Nat × Nat} {v : Value} (k : Nat) (h : St w0 l w)
  (hx : ev e x = .pointer (some ⟨b, o, none⟩)) (hy : ev e y = v) (hk : l[k]? = some (pt b (.cells cs.toArray T fr))) (ho : Zy o cs.length = true) (hfr : Nat.ble fr.2 o = true) (h1 : v.oneCell' = true)
  (kk : ∀ w', St w0 (l.set k (pt b (.cells (cs.set o v).toArray T fr))) w' -> K e w') : Ex P ⟨none, .store t x y, ty, pos, af, g⟩ e w K := by
 have hz := hi.one rfl
 have hv : vcells v = [v] := by cases v <;> first | rfl | (simp [Value.oneCell'] at h1)
 have ho' : o < cs.length := by simpa [Xq] using ho
 obtain ⟨w', h2, h3⟩ := ss (P := P) (t := t) (o := o) (v := v) k h hk (by rw [hv, hz]; rfl) (by rw [hv]; simp; omega) (Wb hfr) (by rw [hv]; simp [h1])
 refine fd (w' := w') (by simp only [execOp, hx, hy, Sem.run_bind, h2, Result.andThen_ok]; rfl) (kk _ ?_)
 rw [hv] at h3
 have hset : cs.set o v = cs.take o ++ [v] ++ cs.drop (o + 1) := by rw [Xy, if_pos ho']; simp
 rw [hset]
 exact h3
theorem qy {t : TypeId} {z : List Value} {bytes : Nat} [hi : Inf P t z true bytes] {x y : Operand} {b o : Nat} {cs vs : List Value} {T : TypeId} {fr : Nat × Nat} (k : Nat) (h : St w0 l w)
  (hx : ev e x = .pointer (some ⟨b, o, none⟩)) (hy : ev e y = .agg vs.toArray) (hk : l[k]? = some (pt b (.cells cs.toArray T fr))) (hs : Nat.beq vs.length z.length = true) (ho : Nat.ble (o + vs.length) cs.length = true) (hfr : Nat.ble fr.2 o = true) (h1 : vs.all (·.oneCell') = true)
  (kk : ∀ w', St w0 (l.set k (pt b (.cells (cs.take o ++ vs ++ cs.drop (o + vs.length)).toArray T fr))) w' -> K e w') : Ex P ⟨none, .store t x y, ty, pos, af, g⟩ e w K := by
 obtain ⟨w', h2, h3⟩ := ss (P := P) (t := t) (o := o) (v := .agg vs.toArray) k h hk (Vh hs) (Wb ho) (Wb hfr) h1
 exact fd (w' := w') (by simp only [execOp, hx, hy, Sem.run_bind, h2, Result.andThen_ok]; rfl) (kk _ h3)
theorem qg {c : Option Nat} {f : FuncId} {xs : List Operand} {tys : Array TypeId} {vs : List Value} {φ : Value -> World -> Prop} [hf : FnB P f] (hv : xs.map (ev e) = vs) (h : Ret P f vs w φ) (k : ∀ v w', φ v w' -> K (updO e c v) w') :
  Ex P ⟨c, .call ⟨.value (.func f), xs.toArray, tys⟩, ty, pos, af, g⟩ e w K := by
 obtain ⟨fn, h1, h2, h3⟩ := hf.h
 have hb : fn.body.isNone = false := h3
 have hrun : (execOp (ev e) ⟨c, .call ⟨.value (.func f), xs.toArray, tys⟩, ty, pos, af, g⟩).run P w = .ok (.enter f vs.toArray) w := by
  have hp : ∀ w, (program).run P w = .ok P w := fun _ => rfl
  simp only [execOp, resolve, ev, Deferred.ofValue, invoke, callFunc, Sem.run_bind, Sem.run_pure, Result.andThen_ok, hp, h1, h2, hb, Xg, hv]
  simp
 unfold Ret at h
 unfold Ex
 rw [hrun]
 exact Calls.mono h fun _ _ ⟨v, a, b⟩ => ⟨v, a, k _ _ b⟩
theorem na {c : Nat} {t T : TypeId} [ht : Und P t (.slice T)] {z : List Value} {agg : Bool} {bytes : Nat} [hi : Inf P T z agg bytes] {x y : Operand} {a a2 : Option Addr} {m m2 c1 c2 sz : Nat} {xs ys : List Value}
  (h : St w0 (Own T sz a m c1 xs :: l) w) (hx : ev e x = .slice a m c1) (hy : ev e y = .slice a2 m2 c2) (hr : Rd w sz a2 m2 ys) (h1 : ∀ u ∈ ys, u.oneCell' = true) (hb : (m + m2) * bytes <= 140737488355328) (h63 : m + m2 <= 9223372036854775807) (hz : z.length = sz)
  (k : ∀ a' c' w', (a' = none -> a = none) -> St w0 (Own T sz a' (m + m2) c' (xs ++ ys) :: l) w' -> K (upd e c (.slice a' (m + m2) c')) w') :
  Ex P ⟨some c, .call ⟨.builtin .append, [x, y].toArray, [t, t].toArray⟩, ty, pos, af, g⟩ e w K := by
 subst hz
 obtain ⟨a', c', w', hrun, hnn, hst⟩ := h.append (ty := ty) (c2 := c2) ht.h hi hr h1 hb h63
 refine x_w (v := .slice a' (m + m2) c') (w' := w') ?_ (k _ _ _ hnn hst)
 simp [execOp, resolve, hx, hy, invoke, builtin, hrun]
def laidS (sz : Nat) (zero : List Value) : List (Nat × Value) -> Option (List Value)
 | [] => some zero
 | (i, v) :: r =>
   bif Nat.beq (vcells v).length sz && Nat.ble (i * sz + sz) zero.length then laidS sz (zero.take (i * sz) ++ vcells v ++ zero.drop (i * sz + sz)) r else none
theorem wt (sz : Nat) : ∀ (ps : List (Nat × Value)) (zero r : List Value), laidS sz zero ps = some r -> Instr.fill (fun i => some (i * sz, sz)) zero.toArray ps = some r.toArray
 | [], zero, r, h => by simp only [laidS, Vq] at h; subst h; rfl
 | (i, v) :: ps, zero, r, h => by
  simp only [laidS] at h
  cases hc : (Nat.beq (vcells v).length sz && Nat.ble (i * sz + sz) zero.length) with
  | false => rw [hc] at h; cases h
  | true =>
   rw [hc] at h
   simp only [Ur] at hc
   have h1 : (vcells v).length = sz := Vh hc.1
   have h2 : i * sz + sz <= zero.length := Wb hc.2
   have hr := wt sz ps _ r h
   unfold Instr.fill
   simp only [yx, Wu]
   rw [if_neg (by simp [h1]; omega)]
   have := sd (vcells v) (i * sz) 0 zero O0
   simp only [Wm] at this
   have hz : (vcells v).toArray.zipIdx = ((vcells v).zipIdx).toArray := by simp
   rw [hz, List.foldl_toArray, this, h1]
   exact hr
def zrow (z : List Value) : Nat -> List Value
 | 0 => []
 | k + 1 => z ++ zrow z k
theorem nr (z : List Value) (hz : z ≠ []) : ∀ (k j : Nat), j < k * z.length -> (zrow z k)[j]? = some (z.toArray[j % z.length]!)
 | 0, j, h => by omega
 | k + 1, j, h => by
  have hpos : 0 < z.length := Vt.2 hz
  unfold zrow
  by_cases hj : j < z.length
  ·rw [Wa hj, Ul hj]; simp [hj]
  ·rw [Xj O0, nr z hz k (j - z.length) (by rw [Vi] at h; omega)]
   congr 2
   rw [<- Nat.mod_eq_sub_mod O0]
theorem wi (z : List Value) : ∀ k, (zrow z k).length = k * z.length
 | 0 => by simp [zrow]
 | k + 1 => by simp [zrow, wi z k, Vi, Wt]
theorem qjt (z : List Value) (hz : z ≠ []) (k : Nat) : (Array.range (k * z.length)).map (fun i => z.toArray[i % z.toArray.size]!) = (zrow z k).toArray := by
 apply Array.ext_getElem?
 intro j
 by_cases hj : j < k * z.length
 ·simp [hj, nr z hz k j hj]
 ·simp [hj, Vk, wi, Nat.le_of_not_lt hj]
theorem jg {c : Nat} {t T : TypeId} [ht : Und P t (.slice T)] {z : List Value} {agg : Bool} {bytes : Nat} [hi : Inf P T z agg bytes] {len : Nat} {parts : List (Nat × Operand)} {r : List Value} (h : St w0 l w)
  (hl : laidS z.length (zrow z len) (parts.map fun (i, x) => (i, ev e x)) = some r) (hs : Nat.ble (len * z.length) 16777216 = true) (hz : Nat.ble 1 z.length = true)
  (k : ∀ b w', St w0 (pt b (.cells r.toArray T (0, 0)) :: l) w' -> K (upd e c (.slice (sQ b) len len)) w') :
  Ex P ⟨some c, .buildSlice t len parts.toArray, ty, pos, af, g⟩ e w K := by
 refine x_w (v := .slice (some ⟨w.heap.size, 0, none⟩) len len) (w' := w.alloc (.cells r.toArray T (0, 0))) ?_ (k _ _ (h.alloc _))
 have hf := wt _ _ _ _ hl
 have h1 := hi.sizeOf w
 have h2 := hi.zeroValue w
 have h3 := hi.cells
 have hpos : 1 <= z.length := Wb hz
 have hne : z ≠ [] := by rintro rfl; simp at hpos
 have hsm : ¬ (2 ^ 24 < len * z.length) := by have := Wb hs; omega
 generalize (if agg then Value.agg z.toArray else z.getD 0 undef) = zz at h2 h3
 simp only at hf
 by_cases h0 : len * z.length = 0
 ·have hcells : (Array.range (len * z.length)).map (fun i => (#[] : Array Value)[i % (#[] : Array Value).size]!) = (zrow z len).toArray := by
   have : (zrow z len) = [] := Un (by rw [wi]; exact h0)
   rw [this, h0]; simp
  simp only [execOp, Instr.buildSlice, Sem.run_bind, run_underlying ht.h, Result.andThen_ok, h1]
  rw [if_neg hsm, if_pos h0]
  simp only [Sem.run_bind, Sem.run_pure, Result.andThen_ok, hcells, Xg]
  rw [hf]
  simp [newRow]
 ·have hcells := qjt z hne len
  simp only [execOp, Instr.buildSlice, Sem.run_bind, run_underlying ht.h, Result.andThen_ok, h1]
  rw [if_neg hsm, if_neg h0]
  simp only [Sem.run_bind, Sem.run_pure, Result.andThen_ok, h2, h3, hcells, Xg]
  rw [hf]
  simp [newRow]
end
end
section
section
variable {G H : Prop}
theorem Y0 (g : H) (f : H -> G := by intro g; refine r_v (ku rfl) rfl ?_; exact g) : G := f g
theorem Y6 (g : H) (f : H -> G := by intro g; refine r_v (su rfl) rfl ?_; exact g) : G := f g
theorem Y7 (g : H) (f : H -> G := by intro g; refine r_v (sk rfl) rfl ?_; exact g) : G := f g
theorem Yj (g : H) (f : H -> G := by intro g; refine r_v (m0 rfl) rfl ?_; exact g) : G := f g
theorem Yo (g : H) (f : H -> G := by intro g; refine r_v (xq rfl) rfl ?_; exact g) : G := f g
theorem Y22 (g : H) (f : H -> G := by intro g; refine r_v (jr rfl) rfl ?_; exact g) : G := f g
theorem Y1p (g : H) (f : H -> G := by intro g; refine r_v (ti rfl) rfl ?_; exact g) : G := f g
theorem Yk (g : H) (f : H -> G := by intro g; refine r_v (vm rfl) rfl ?_; exact g) : G := f g
theorem Y1c (g : H) (f : H -> G := by intro g; refine r_v (v7 rfl) rfl ?_; exact g) : G := f g
theorem Y15 (g : H) (f : H -> G := by intro g; refine r_v (t9 rfl) rfl ?_; exact g) : G := f g
theorem Y1f (g : H) (f : H -> G := by intro g; refine r_v (vt rfl rfl) rfl ?_; exact g) : G := f g
theorem Y2 (g : H) (f : H -> G := by intro g; refine qv ?_; exact g) : G := f g
theorem Yc (g : H) (f : H -> G := by intro g; refine r_gd rfl rfl ?_; exact g) : G := f g
theorem Y2d (g : H) (f : H -> G := by intro g; refine r_gn rfl rfl rfl ?_; exact g) : G := f g
theorem Yl (g : H) (f : H -> G := by intro g; refine qa ?_; exact g) : G := f g
theorem Yh (g : H) (f : H -> G := by intro g; refine wy ?_; exact g) : G := f g
theorem Y1k (g : H) (f : H -> G := by intro g; refine vq rfl ?_; exact g) : G := f g
theorem Yf (g : H) (f : H -> G := by intro g; refine r_v (ji rfl rfl rfl) rfl ?_; exact g) : G := f g
theorem Y9 (g : H) (f : H -> G := by intro g; refine r_v (jl rfl rfl rfl) rfl ?_; exact g) : G := f g
theorem Yp (g : H) (f : H -> G := by intro g; refine r_v (j9 rfl rfl) rfl ?_; exact g) : G := f g
theorem Y1u (g : H) (f : H -> G := by intro g; refine r_v (wo rfl rfl) rfl ?_; exact g) : G := f g
theorem Yx (g : H) (f : H -> G := by intro g; refine r_v (y8 rfl) rfl ?_; exact g) : G := f g
theorem Yy (g : H) (f : H -> G := by intro g; refine r_v (xj rfl) rfl ?_; exact g) : G := f g
theorem Y1l (g : H) (f : H -> G := by intro g; refine r_v (vi rfl rfl) rfl ?_; exact g) : G := f g
theorem Y1i (g : H) (f : H -> G := by intro g; refine r_v (ut rfl) rfl ?_; exact g) : G := f g
theorem Y1m (g : H) (f : H -> G := by intro g; refine r_v (yr rfl rfl) rfl ?_; exact g) : G := f g
theorem Y2j (g : H) (f : H -> G := by intro g; refine r_v (ki rfl rfl) rfl ?_; exact g) : G := f g
theorem Y3v (g : H) (f : H -> G := by intro g; refine r_v (ni rfl rfl) rfl ?_; exact g) : G := f g
theorem Y1q (g : H) (f : H -> G := by intro g; refine r_v (q_neq rfl rfl) rfl ?_; exact g) : G := f g
theorem Y4j (g : H) (f : H -> G := by intro g; refine r_v (ro rfl rfl) rfl ?_; exact g) : G := f g
theorem Y4k (g : H) (f : H -> G := by intro g; refine r_v (q_xor rfl rfl) rfl ?_; exact g) : G := f g
theorem Y4n (g : H) (f : H -> G := by intro g; refine r_v (q_mul rfl rfl) rfl ?_; exact g) : G := f g
theorem Yv (g : H) (f : H -> G := by intro g; refine cpv rfl rfl rfl rfl h rfl (vm rfl) ?_; exact g) : G := f g
theorem Y18 (g : H) (f : H -> G := by intro g; refine cpv rfl rfl rfl rfl h rfl (ku rfl) ?_; exact g) : G := f g
theorem Y1x (g : H) (f : H -> G := by intro g; refine cpv rfl rfl rfl rfl h rfl (m0 rfl) ?_; exact g) : G := f g
theorem Y1j (g : H) (f : H -> G := by intro g; refine cpv rfl rfl rfl rfl h rfl (jr rfl) ?_; exact g) : G := f g
theorem Y44 (g : H) (f : H -> G := by intro g; refine cpv rfl rfl rfl rfl h rfl (v7 rfl) ?_; exact g) : G := f g
theorem Y1y (g : H) (f : H -> G := by intro g; refine cpv rfl rfl rfl rfl h rfl (xq rfl) ?_; exact g) : G := f g
theorem Y2x (g : H) (f : H -> G := by intro g; refine cpv rfl rfl rfl rfl h rfl (t9 rfl) ?_; exact g) : G := f g
theorem Y4q (g : H) (f : H -> G := by intro g; refine cpv rfl rfl rfl rfl h rfl (te rfl rfl) ?_; exact g) : G := f g
theorem Y2s (g : H) (f : H -> G := by intro g; refine cpv rfl rfl rfl rfl h rfl (su rfl) ?_; exact g) : G := f g
theorem Yz (g : H) (f : H -> G := by intro g; refine cpv rfl rfl rfl rfl h rfl (ti rfl) ?_; exact g) : G := f g
theorem Y1d (g : H) (f : H -> G := by intro g; refine cpv rfl rfl rfl rfl h rfl (sk rfl) ?_; exact g) : G := f g
theorem Yg (g : H) (f : H -> G := by intro g; refine rn ?_; exact g) : G := f g
theorem Y1 (g : H) (f : H -> G := by intro g; refine qf ?_; refine j2 ?_; exact g) : G := f g
theorem Ya (g : H) (f : H -> G := by intro g; refine Y7 ?_; refine Y2 ?_; exact g) : G := f g
theorem Yq (g : H) (f : H -> G := by intro g; refine Yg ?_; refine Yg ?_; exact g) : G := f g
theorem Yi (g : H) (f : H -> G := by intro g; refine Y1c ?_; refine Yk ?_; exact g) : G := f g
theorem Y4 (g : H) (f : H -> G := by intro g; refine Y6 ?_; refine Y2 ?_; exact g) : G := f g
theorem Y4r (g : H) (f : H -> G := by intro g; refine Y2d ?_; refine Y2d ?_; exact g) : G := f g
theorem Yd (g : H) (f : H -> G := by intro g; refine Y2 ?_; refine Y1k ?_; exact g) : G := f g
theorem Y2y (g : H) (f : H -> G := by intro g; refine Y44 ?_; refine Yv ?_; exact g) : G := f g
theorem Y2t (g : H) (f : H -> G := by intro g; refine Y1p ?_; refine Yc ?_; exact g) : G := f g
theorem Y1r (g : H) (f : H -> G := by intro g; refine qe rfl ?_; refine Yl ?_; exact g) : G := f g
theorem Y4l (g : H) (f : H -> G := by intro g; refine r_v (te rfl rfl) rfl ?_; refine r_v (te rfl rfl) rfl ?_; exact g) : G := f g
theorem Y2e (g : H) (f : H -> G := by intro g; refine Y2 ?_; refine qf ?_; exact g) : G := f g
theorem Yt (g : H) (f : H -> G := by intro g; refine j2 ?_; refine Y1f ?_; exact g) : G := f g
theorem Y1g (g : H) (f : H -> G := by intro g; refine Y1p ?_; refine Yx ?_; exact g) : G := f g
theorem Y4w (g : H) (f : H -> G := by intro g; refine Yk ?_; refine Yc ?_; exact g) : G := f g
theorem Y2u (g : H) (f : H -> G := by intro g; refine j2 ?_; refine Y22 ?_; exact g) : G := f g
theorem Y38 (g : H) (f : H -> G := by intro g; refine qf ?_; refine Yh ?_; exact g) : G := f g
theorem Y4s (g : H) (f : H -> G := by intro g; refine Y0 ?_; refine Yc ?_; exact g) : G := f g
theorem Y4p (g : H) (f : H -> G := by intro g; refine Y2 ?_; refine Yh ?_; exact g) : G := f g
theorem Yw (g : H) (f : H -> G := by intro g; refine Yo ?_; refine Y2 ?_; exact g) : G := f g
theorem Y2a (g : H) (f : H -> G := by intro g; refine j2 ?_; refine Y0 ?_; exact g) : G := f g
theorem Y17 (g : H) (f : H -> G := by intro g; refine Yj ?_; refine Y15 ?_; exact g) : G := f g
theorem Y4t (g : H) (f : H -> G := by intro g; refine Y22 ?_; refine Yc ?_; exact g) : G := f g
theorem Y3g (g : H) (f : H -> G := by intro g; refine Y1i ?_; refine Y2 ?_; exact g) : G := f g
theorem Y3w (g : H) (f : H -> G := by intro g; refine Yj ?_; refine Yc ?_; exact g) : G := f g
theorem Y4x (g : H) (f : H -> G := by intro g; refine Y4q ?_; refine Y4q ?_; exact g) : G := f g
theorem Y24 (g : H) (f : H -> G := by intro g; refine Y2 ?_; refine qe rfl ?_; exact g) : G := f g
theorem Y3j (g : H) (f : H -> G := by intro g; refine j2 ?_; refine Yj ?_; exact g) : G := f g
theorem Y2g (g : H) (f : H -> G := by intro g; refine r_gu rfl rfl ?_; refine r_gu rfl rfl ?_; exact g) : G := f g
theorem Y2h (g : H) (f : H -> G := by intro g; refine Y9 ?_; refine Y7 ?_; exact g) : G := f g
theorem Y2i (g : H) (f : H -> G := by intro g; refine Y1x ?_; refine Y18 ?_; exact g) : G := f g
theorem Y2m (g : H) (f : H -> G := by intro g; refine Yf ?_; refine Y7 ?_; exact g) : G := f g
theorem Y30 (g : H) (f : H -> G := by intro g; refine Y0 ?_; refine Y0 ?_; exact g) : G := f g
theorem Y3b (g : H) (f : H -> G := by intro g; refine Yc ?_; refine Yp ?_; exact g) : G := f g
theorem Y4v (g : H) (f : H -> G := by intro g; refine Yc ?_; refine Yx ?_; exact g) : G := f g
theorem Y4z (g : H) (f : H -> G := by intro g; refine r_v (sw rfl rfl) rfl ?_; refine Y4j ?_; exact g) : G := f g
theorem Ym (g : H) (f : H -> G := by intro g; refine Y1 ?_; refine Y22 ?_; exact g) : G := f g
theorem Y8 (g : H) (f : H -> G := by intro g; refine Y1 ?_; refine Y0 ?_; exact g) : G := f g
theorem Ye (g : H) (f : H -> G := by intro g; refine Y1 ?_; refine Yj ?_; exact g) : G := f g
theorem Y1b (g : H) (f : H -> G := by intro g; refine Y1 ?_; refine Yo ?_; exact g) : G := f g
theorem Y3 (g : H) (f : H -> G := by intro g; refine Y1j ?_; refine Y2y ?_; exact g) : G := f g
theorem Yb (g : H) (f : H -> G := by intro g; refine Y2 ?_; refine Y1r ?_; exact g) : G := f g
theorem Y1v (g : H) (f : H -> G := by intro g; refine Y1p ?_; refine Y4r ?_; exact g) : G := f g
theorem Y3e (g : H) (f : H -> G := by intro g; refine r_v (tl rfl) rfl ?_; refine Y4l ?_; exact g) : G := f g
theorem Ys (g : H) (f : H -> G := by intro g; refine Yo ?_; refine Ya ?_; exact g) : G := f g
theorem Y16 (g : H) (f : H -> G := by intro g; refine Yq ?_; refine Yq ?_; exact g) : G := f g
theorem Yn (g : H) (f : H -> G := by intro g; refine Y2 ?_; refine Y1 ?_; exact g) : G := f g
theorem Yr (g : H) (f : H -> G := by intro g; refine Y1 ?_; refine Y4 ?_; exact g) : G := f g
theorem Y11 (g : H) (f : H -> G := by intro g; refine Yq ?_; refine Yg ?_; exact g) : G := f g
theorem Y13 (g : H) (f : H -> G := by intro g; refine Y1 ?_; refine Y6 ?_; exact g) : G := f g
theorem Y3p (g : H) (f : H -> G := by intro g; refine Y1 ?_; refine Y1u ?_; exact g) : G := f g
theorem Y2v (g : H) (f : H -> G := by intro g; refine qf ?_; refine Y1 ?_; exact g) : G := f g
theorem Y2w (g : H) (f : H -> G := by intro g; refine Y1 ?_; refine Yp ?_; exact g) : G := f g
theorem Y12 (g : H) (f : H -> G := by intro g; refine Y1 ?_; refine Ya ?_; exact g) : G := f g
theorem Y1s (g : H) (f : H -> G := by intro g; refine Yf ?_; refine Yd ?_; exact g) : G := f g
theorem Y1z (g : H) (f : H -> G := by intro g; refine Yl ?_; refine Y38 ?_; exact g) : G := f g
theorem Y1n (g : H) (f : H -> G := by intro g; refine Y6 ?_; refine Ya ?_; exact g) : G := f g
theorem Y20 (g : H) (f : H -> G := by intro g; refine Y0 ?_; refine Y4p ?_; exact g) : G := f g
theorem Y39 (g : H) (f : H -> G := by intro g; refine Ya ?_; refine qe rfl ?_; exact g) : G := f g
theorem Y23 (g : H) (f : H -> G := by intro g; refine Y2t ?_; refine Y4s ?_; exact g) : G := f g
theorem Y1e (g : H) (f : H -> G := by intro g; refine Y2t ?_; refine Y4w ?_; exact g) : G := f g
theorem Y3f (g : H) (f : H -> G := by intro g; refine Y2t ?_; refine Y4t ?_; exact g) : G := f g
theorem Y2k (g : H) (f : H -> G := by intro g; refine Ya ?_; refine Y1k ?_; exact g) : G := f g
theorem Y1t (g : H) (f : H -> G := by intro g; refine Y22 ?_; refine Yi ?_; exact g) : G := f g
theorem Y4m (g : H) (f : H -> G := by intro g; refine Yc ?_; refine Y4w ?_; exact g) : G := f g
theorem Y26 (g : H) (f : H -> G := by intro g; refine Y1 ?_; refine Yk ?_; exact g) : G := f g
theorem Y27 (g : H) (f : H -> G := by intro g; refine Yd ?_; refine Y1 ?_; exact g) : G := f g
theorem Y29 (g : H) (f : H -> G := by intro g; refine cpv rfl rfl rfl rfl h rfl (tl rfl) ?_; refine Y4x ?_; exact g) : G := f g
theorem Y3q (g : H) (f : H -> G := by intro g; refine Y6 ?_; refine Y4 ?_; exact g) : G := f g
theorem Y4u (g : H) (f : H -> G := by intro g; refine Y1i ?_; refine Y2e ?_; exact g) : G := f g
theorem Y2l (g : H) (f : H -> G := by intro g; refine Y2u ?_; refine Yi ?_; exact g) : G := f g
theorem Y2z (g : H) (f : H -> G := by intro g; refine Y2a ?_; refine Y1f ?_; exact g) : G := f g
theorem Y31 (g : H) (f : H -> G := by intro g; refine Y1 ?_; refine Y1p ?_; exact g) : G := f g
theorem Y33 (g : H) (f : H -> G := by intro g; refine Yc ?_; refine Y4s ?_; exact g) : G := f g
theorem Y3a (g : H) (f : H -> G := by intro g; refine Y2t ?_; refine Y3w ?_; exact g) : G := f g
theorem Y3h (g : H) (f : H -> G := by intro g; refine Y2 ?_; refine Yt ?_; exact g) : G := f g
theorem Y3k (g : H) (f : H -> G := by intro g; refine Y1 ?_; refine Y3g ?_; exact g) : G := f g
theorem Y3s (g : H) (f : H -> G := by intro g; refine Yd ?_; refine Y2u ?_; exact g) : G := f g
theorem Y3u (g : H) (f : H -> G := by intro g; refine Y4v ?_; refine Y9 ?_; exact g) : G := f g
theorem Y3x (g : H) (f : H -> G := by intro g; refine Y3j ?_; refine Y0 ?_; exact g) : G := f g
theorem Y42 (g : H) (f : H -> G := by intro g; refine Y2e ?_; refine Y1k ?_; exact g) : G := f g
theorem Y47 (g : H) (f : H -> G := by intro g; refine Yl ?_; refine Yt ?_; exact g) : G := f g
theorem Y49 (g : H) (f : H -> G := by intro g; refine Y2 ?_; refine Y2u ?_; exact g) : G := f g
theorem Y4f (g : H) (f : H -> G := by intro g; refine Y1 ?_; refine Y7 ?_; exact g) : G := f g
theorem Y5 (g : H) (f : H -> G := by intro g; refine Ym ?_; refine Yi ?_; exact g) : G := f g
theorem Y10 (g : H) (f : H -> G := by intro g; refine Ym ?_; refine Y22 ?_; exact g) : G := f g
theorem Yu (g : H) (f : H -> G := by intro g; refine Y1b ?_; refine Ya ?_; exact g) : G := f g
theorem Y19 (g : H) (f : H -> G := by intro g; refine Y1v ?_; refine Y4r ?_; exact g) : G := f g
theorem Y34 (g : H) (f : H -> G := by intro g; refine Ye ?_; refine Y15 ?_; exact g) : G := f g
theorem Y14 (g : H) (f : H -> G := by intro g; refine Y3p ?_; refine Y2 ?_; exact g) : G := f g
theorem Y1a (g : H) (f : H -> G := by intro g; refine Y2 ?_; refine Ym ?_; exact g) : G := f g
theorem Y1w (g : H) (f : H -> G := by intro g; refine qf ?_; refine Y8 ?_; exact g) : G := f g
theorem Y1h (g : H) (f : H -> G := by intro g; refine Y2v ?_; refine Y1g ?_; exact g) : G := f g
theorem Y1o (g : H) (f : H -> G := by intro g; refine Y3 ?_; refine Yv ?_; exact g) : G := f g
theorem Y21 (g : H) (f : H -> G := by intro g; refine Ye ?_; refine Y0 ?_; exact g) : G := f g
theorem Y28 (g : H) (f : H -> G := by intro g; refine Y3e ?_; refine Ys ?_; exact g) : G := f g
theorem Y2b (g : H) (f : H -> G := by intro g; refine Y1b ?_; refine Y2e ?_; exact g) : G := f g
theorem Y2c (g : H) (f : H -> G := by intro g; refine Y1b ?_; refine Y2 ?_; exact g) : G := f g
theorem Y2f (g : H) (f : H -> G := by intro g; refine Y1v ?_; refine Y2d ?_; exact g) : G := f g
theorem Y3r (g : H) (f : H -> G := by intro g; refine Y1b ?_; refine Y7 ?_; exact g) : G := f g
theorem Y2o (g : H) (f : H -> G := by intro g; refine Y3e ?_; refine r_v (te rfl rfl) rfl ?_; exact g) : G := f g
theorem Y2q (g : H) (f : H -> G := by intro g; refine Y16 ?_; refine Yq ?_; exact g) : G := f g
theorem Y2r (g : H) (f : H -> G := by intro g; refine Y39 ?_; refine Y2w ?_; exact g) : G := f g
theorem Y50 (g : H) (f : H -> G := by intro g; refine Y3f ?_; refine Y1c ?_; exact g) : G := f g
theorem Y4y (g : H) (f : H -> G := by intro g; refine Y4u ?_; refine Ym ?_; exact g) : G := f g
theorem Y35 (g : H) (f : H -> G := by intro g; refine Y8 ?_; refine Y0 ?_; exact g) : G := f g
theorem Y36 (g : H) (f : H -> G := by intro g; refine Y1z ?_; refine Y1 ?_; exact g) : G := f g
theorem Y51 (g : H) (f : H -> G := by intro g; refine Y3e ?_; refine Y1i ?_; exact g) : G := f g
theorem Y4o (g : H) (f : H -> G := by intro g; refine Y2d ?_; refine Y1s ?_; exact g) : G := f g
theorem Y3i (g : H) (f : H -> G := by intro g; refine Y8 ?_; refine Y4 ?_; exact g) : G := f g
theorem Y3m (g : H) (f : H -> G := by intro g; refine Y16 ?_; refine Yg ?_; exact g) : G := f g
theorem Y3n (g : H) (f : H -> G := by intro g; refine Yn ?_; refine Yk ?_; exact g) : G := f g
theorem Y3t (g : H) (f : H -> G := by intro g; refine Y4 ?_; refine Y8 ?_; exact g) : G := f g
theorem Y3z (g : H) (f : H -> G := by intro g; refine Y13 ?_; refine Ya ?_; exact g) : G := f g
theorem Y40 (g : H) (f : H -> G := by intro g; refine Ym ?_; refine Y0 ?_; exact g) : G := f g
theorem Y41 (g : H) (f : H -> G := by intro g; refine Yx ?_; refine Yb ?_; exact g) : G := f g
theorem Y45 (g : H) (f : H -> G := by intro g; refine Y8 ?_; refine Y4z ?_; exact g) : G := f g
theorem Y46 (g : H) (f : H -> G := by intro g; refine Y23 ?_; refine Yp ?_; exact g) : G := f g
theorem Y48 (g : H) (f : H -> G := by intro g; refine Y3e ?_; refine Y1n ?_; exact g) : G := f g
theorem Y4a (g : H) (f : H -> G := by intro g; refine Y3e ?_; refine Y3q ?_; exact g) : G := f g
theorem Y4c (g : H) (f : H -> G := by intro g; refine Ye ?_; refine Ys ?_; exact g) : G := f g
theorem Y4d (g : H) (f : H -> G := by intro g; refine Yr ?_; refine Yh ?_; exact g) : G := f g
theorem Y4e (g : H) (f : H -> G := by intro g; refine Y4p ?_; refine Y2w ?_; exact g) : G := f g
theorem Y4g (g : H) (f : H -> G := by intro g; refine qf ?_; refine Ym ?_; exact g) : G := f g
theorem Y4i (g : H) (f : H -> G := by intro g; refine Y16 ?_; refine Y11 ?_; exact g) : G := f g
theorem Y25 (g : H) (f : H -> G := by intro g; refine qf ?_; refine Y34 ?_; exact g) : G := f g
theorem Y2n (g : H) (f : H -> G := by intro g; refine qf ?_; refine Y5 ?_; exact g) : G := f g
theorem Y2p (g : H) (f : H -> G := by intro g; refine Y10 ?_; refine Yi ?_; exact g) : G := f g
theorem Y32 (g : H) (f : H -> G := by intro g; refine Y50 ?_; refine Y4m ?_; exact g) : G := f g
theorem Y37 (g : H) (f : H -> G := by intro g; refine Y19 ?_; refine Y4r ?_; exact g) : G := f g
theorem Y3c (g : H) (f : H -> G := by intro g; refine Y51 ?_; refine Ya ?_; exact g) : G := f g
theorem Y3d (g : H) (f : H -> G := by intro g; refine Y4y ?_; refine r_v (zm rfl rfl) rfl ?_; exact g) : G := f g
theorem Y3l (g : H) (f : H -> G := by intro g; refine Y34 ?_; refine Y20 ?_; exact g) : G := f g
theorem Y3o (g : H) (f : H -> G := by intro g; refine Y5 ?_; refine Yk ?_; exact g) : G := f g
theorem Y3y (g : H) (f : H -> G := by intro g; refine Y1w ?_; refine Yp ?_; exact g) : G := f g
theorem Y43 (g : H) (f : H -> G := by intro g; refine Y2k ?_; refine Y10 ?_; exact g) : G := f g
theorem Y4b (g : H) (f : H -> G := by intro g; refine Yd ?_; refine Yu ?_; exact g) : G := f g
theorem Y4h (g : H) (f : H -> G := by intro g; refine Y4o ?_; refine Y3r ?_; exact g) : G := f g
end
end
section
set_option linter.unusedSectionVars false
section
variable {κ β : Type} [DecidableEq κ]
def mfind (k : κ) : List (κ × β) -> Nat -> Option (Nat × β)
 | [], _ => none
 | (j, v) :: r, i => if j = k then some (i, v) else mfind k r (i + 1)
def mget (k : κ) : List (κ × β) -> Option β
 | [] => none
 | (j, v) :: r => if j = k then some v else mget k r
def mset (k : κ) (v : β) : List (κ × β) -> List (κ × β)
 | [] => [(k, v)]
 | (j, u) :: r => if j = k then (k, v) :: r else (j, u) :: mset k v r
def mdel (k : κ) : List (κ × β) -> List (κ × β)
 | [] => []
 | (j, u) :: r => if j = k then r else (j, u) :: mdel k r
theorem jq (k k' : κ) (v : β) : ∀ m, mget k' (mset k v m) = if k' = k then some v else mget k' m
 | [] => by simp [mget, mset, eq_comm]
 | (j, u) :: r => by
  by_cases h : j = k
  ·subst h
   by_cases h' : k' = j
   ·subst h'; simp [mget, mset]
   ·simp [mget, mset, h', Ne.symm h']
  ·by_cases h' : j = k'
   ·subst h'; simp [mget, mset, h]
   ·simp [mget, mset, h, h', jq k k' v r]
theorem wl (k : κ) : ∀ (m : List (κ × β)) (n : Nat), (mfind k m n).map (·.2) = mget k m
 | [], _ => rfl
 | (j, v) :: r, n => by
  by_cases h : j = k
  ·simp [mfind, mget, h]
  ·simp [mfind, mget, h, wl k r (n + 1)]
def keys (m : List (κ × β)) : List κ := m.map (·.1)
theorem mget_none {k : κ} : ∀ {m : List (κ × β)}, mget k m = none ↔ k ∉ keys m
 | [] => by simp [mget, keys]
 | (j, v) :: r => by
  have ih := mget_none (k := k) (m := r)
  unfold keys at ih ⊢
  by_cases h : j = k
  ·simp [mget, h]
  ·simp [mget, h, Ne.symm h, ih]
theorem vj (k : κ) (v : β) : ∀ m, keys (mset k v m) = if k ∈ keys m then keys m else keys m ++ [k]
 | [] => by simp [keys, mset]
 | (j, u) :: r => by
  have ih := vj k v r
  unfold keys at ih ⊢
  by_cases h : j = k
  ·subst h; simp [mset]
  ·simp only [mset, h, if_false, Ux, ih, Uo, Ne.symm h, false_or]
   split <;> simp
theorem yw (k : κ) : ∀ m : List (κ × β), keys (mdel k m) = (keys m).erase k
 | [] => by simp [keys, mdel]
 | (j, u) :: r => by
  have ih := yw k r
  unfold keys at ih ⊢
  by_cases h : j = k
  ·subst h; simp [mdel]
  ·rw [Ux, List.erase_cons_tail O15, mdel, if_neg h, Ux, ih]
theorem j3 (k k' : κ) : ∀ m : List (κ × β), (keys m).Nodup -> mget k' (mdel k m) = if k' = k then none else mget k' m
 | [], _ => by simp [mget, mdel]
 | (j, u) :: r, h => by
  have h' : j ∉ keys r ∧ (keys r).Nodup := by simpa [keys] using h
  by_cases e : j = k
  ·subst e
   by_cases e' : k' = j
   ·subst e'
    simp only [mdel, if_true]
    exact mget_none.2 h'.1
   ·simp [mdel, mget, e', Ne.symm e']
  ·by_cases e' : j = k'
   ·subst e'; simp [mdel, mget, e]
   ·simp [mdel, mget, e, e', j3 k k' r h'.2]
theorem yh {k : κ} {v : β} : ∀ {m : List (κ × β)}, mget k m = some v -> mset k v m = m
 | [], h => by simp [mget] at h
 | (j, u) :: r, h => by
  by_cases e : j = k
  ·simp only [mget, e, if_true, Vq] at h; simp [mset, e, h]
  ·simp only [mget, e, if_false] at h; simp [mset, e, yh h]
theorem we (k : κ) (v : β) : ∀ m : List (κ × β), (mset k v m).length = if mget k m = none then m.length + 1 else m.length
 | [] => by simp [mset, mget]
 | (j, u) :: r => by
  by_cases h : j = k
  ·simp [mset, mget, h]
  ·simp only [mset, mget, h, if_false, Ui, we k v r]
   split <;> rfl
theorem n8 (k : κ) : ∀ m : List (κ × β), mget k m ≠ none -> (mdel k m).length + 1 = m.length
 | [], h => by simp [mget] at h
 | (j, u) :: r, h => by
  by_cases e : j = k
  ·simp [mdel, e]
  ·simp only [mget, e, if_false] at h
   simp only [mdel, e, if_false, Ui, n8 k r h]
theorem xg (k : κ) : ∀ m : List (κ × β), mget k m = none -> mdel k m = m
 | [], _ => rfl
 | (j, u) :: r, h => by
  by_cases e : j = k
  ·simp [mget, e] at h
  ·simp only [mget, e, if_false] at h
   simp only [mdel, e, if_false, xg k r h]
theorem gn {k : κ} {v : β} {m : List (κ × β)} (h : (keys m).Nodup) : (keys (mset k v m)).Nodup := by
 rw [vj]
 split
 ·exact h
 ·rename_i hk
  exact List.nodup_append.2 ⟨h, by simp, fun a ha b hb => by simp at hb; subst hb; rintro rfl; exact hk ha⟩
theorem ky {k : κ} {m : List (κ × β)} (h : (keys m).Nodup) : (keys (mdel k m)).Nodup := by
 rw [yw]; exact h.erase k
theorem gj {γ : Type} (f : β -> γ) (k : κ) : ∀ m : List (κ × β), mget k (m.map fun p => (p.1, f p.2)) = (mget k m).map f
 | [] => rfl
 | (j, v) :: r => by by_cases h : j = k <;> simp [mget, h, gj f k r]
theorem gt {γ : Type} (f : β -> γ) (k : κ) (v : β) : ∀ m : List (κ × β), mset k (f v) (m.map fun p => (p.1, f p.2)) = (mset k v m).map fun p => (p.1, f p.2)
 | [] => rfl
 | (j, u) :: r => by by_cases h : j = k <;> simp [mset, h, gt f k v r]
theorem v8 {γ : Type} (f : β -> γ) (k : κ) : ∀ m : List (κ × β), mdel k (m.map fun p => (p.1, f p.2)) = (mdel k m).map fun p => (p.1, f p.2)
 | [] => rfl
 | (j, u) :: r => by by_cases h : j = k <;> simp [mdel, h, v8 f k r]
theorem n9 {γ : Type} (f : β -> γ) (m : List (κ × β)) : keys (m.map fun p => (p.1, f p.2)) = keys m := by simp [keys, Function.comp_def]
theorem yd (k : κ) (v : β) : ∀ m : List (κ × β), mdel k (mset k v m) = mdel k m
 | [] => by simp [mdel, mset]
 | (j, u) :: r => by by_cases h : j = k <;> simp [mdel, mset, h, yd k v r]
def big (f : κ × β -> HProp) : List (κ × β) -> HProp
 | [] => emp
 | p :: r => star (f p) (big f r)
theorem yb (f : κ × β -> HProp) (k : κ) (y : β) : ∀ m : List (κ × β), mget k m = some y -> big f m = star (f (k, y)) (big f (mdel k m))
 | [], h => by simp [mget] at h
 | (j, u) :: r, h => by
  by_cases e : j = k
  ·subst e
   simp only [mget, if_true, Vq] at h
   subst h
   simp [big, mdel]
  ·simp only [mget, e, if_false] at h
   simp only [big, mdel, e, if_false]
   rw [yb f k y r h, v5]
theorem nq (f : κ × β -> HProp) (k : κ) (y : β) (m : List (κ × β)) : big f (mset k y m) = star (f (k, y)) (big f (mdel k m)) := by
 rw [yb f k y (mset k y m) (by rw [jq]; simp), yd]
def Ents (kv : κ -> Value) (es : List MapEntry) (m : List (κ × Value)) : Prop := es.map (fun e => (e.key, e.val)) = m.map (fun p => (kv p.1, p.2))
class MK (P : Program) (kt : TypeId) (κ : Type) [DecidableEq κ] (kv : outParam (κ -> Value)) : Prop where
 check : ∀ e w k, (Instr.checkKey e 10000 kt (kv k)).run P w = .ok () w
 find : ∀ w k es m, Ents kv es m -> (Instr.findKey kt (kv k) es).run P w = .ok (mfind k m 0) w
 same : ∀ k, Instr.sameBits 10000 (kv k) (kv k) = true
 inj : ∀ a b, kv a = kv b -> a = b
def MapOf (kv : κ -> Value) (b : Nat) (m : List (κ × Value)) : HProp := fun h => ∃ es clock, Ents kv es m ∧ pt b (.map es.toArray clock) h
theorem rt {kv : κ -> Value} {es : List MapEntry} {m : List (κ × Value)} (h : Ents kv es m) : es.length = m.length := by
 have := congrArg List.length h; simpa using this
theorem wr {kv : κ -> Value} (k : κ) (v : Value) : ∀ (m : List (κ × Value)) (es : List MapEntry) (n i : Nat) (u : Value), Ents kv es m -> mfind k m n = some (i, u) -> n <= i ∧ (es[i - n]?).map (·.key) = some (kv k) ∧
  Ents kv (es.modify (i - n) fun e => { e with key := kv k, val := v }) (mset k v m) ∧ Ents kv (es.eraseIdx (i - n)) (mdel k m)
 | [], _, _, _, _, _, h => by cases h
 | (j, u0) :: r, [], n, i, u, he, h => by simp [Ents] at he
 | (j, u0) :: r, e :: es, n, i, u, he, h => by
  have he' : (e.key, e.val) = (kv j, u0) ∧ Ents kv es r := by simpa [Ents] using he
  have hk : e.key = kv j := congrArg Prod.fst he'.1
  have hv : e.val = u0 := congrArg Prod.snd he'.1
  by_cases hj : j = k
  ·subst hj
   simp only [mfind, if_true, Vq, Prod.mk.injEq] at h
   obtain ⟨rfl, rfl⟩ := h
   refine ⟨Ug _, by simp [hk], ?_, ?_⟩
   ·simp only [Zb, List.modify_zero_cons, mset, if_true]
    simp only [Ents, Ux]
    rw [he'.2]
   ·simp only [Zb, List.eraseIdx_cons_zero, mdel, if_true]
    exact he'.2
  ·simp only [mfind, hj, if_false] at h
   obtain ⟨h1, h2, h3, h4⟩ := wr k v r es (n + 1) i u he'.2 h
   have e1 : i - n = (i - (n + 1)) + 1 := by omega
   rw [e1]
   refine ⟨O_o, by simpa using h2, ?_, ?_⟩
   ·simp only [List.modify_succ_cons, mset, hj, if_false]
    simp only [Ents, Ux] at h3 ⊢
    rw [h3, hk, hv]
   ·simp only [Xh, mdel, hj, if_false]
    simp only [Ents, Ux] at h4 ⊢
    rw [h4, hk, hv]
theorem pq {k : κ} {v : Value} : ∀ {m : List (κ × Value)} {n : Nat}, mfind k m n = none -> mset k v m = m ++ [(k, v)]
 | [], _, _ => rfl
 | (j, u) :: r, n, h => by
  by_cases hj : j = k
  ·simp [mfind, hj] at h
  ·simp only [mfind, hj, if_false] at h
   simp [mset, hj, pq h]
theorem pj {k : κ} : ∀ {m : List (κ × Value)} {n : Nat}, mfind k m n = none -> mdel k m = m
 | [], _, _ => rfl
 | (j, u) :: r, n, h => by
  by_cases hj : j = k
  ·simp [mfind, hj] at h
  ·simp only [mfind, hj, if_false] at h
   simp [mdel, hj, pj h]
end
section
variable {P : Program} {κ : Type} [DecidableEq κ] {kv : κ -> Value} {e : Env} {w w0 : World} {K : Env -> World -> Prop} {l : List HProp}
variable {d : Option Nat} {ty : TypeId} {pos : String} {af : Array Edge} {g : Option (Nat × Bool)}
theorem vn {r : Nat} {o o' : Obj} (hb : w.heap[r]? = some o) : (w.heap.setIfInBounds r o')[r]? = some o' ∧ ∀ r', r' ≠ r -> (w.heap.setIfInBounds r o')[r']? = w.heap[r']? := by
 have hlt : r < w.heap.size := (Array.getElem?_eq_some_iff.1 hb).1
 exact ⟨by simp [hlt], fun r' hne => by simp [Ne.symm hne]⟩
theorem getObj_map {b : Nat} {es : Array MapEntry} {clock : Nat} (hb : w.heap[b]? = some (.map es clock)) : (getObj b).run P w = .ok (.map es clock) w := by
 simp [getObj, Sem.run, hb]
theorem setObj_map {b : Nat} {es : Array MapEntry} {clock : Nat} {o : Obj} (hb : w.heap[b]? = some (.map es clock)) : (setObj b o).run P w = .ok () { w with heap := w.heap.setIfInBounds b o } := by
 simp [setObj, Sem.run, hb]
theorem St.map_pt {b : Nat} {m : List (κ × Value)} (h : St w0 (MapOf kv b m :: l) w) : ∃ es clock, Ents kv es m ∧ St w0 (pt b (.map es.toArray clock) :: l) w := by
 obtain ⟨p, hp, x, y, hd, he, ⟨es, clock, h1, h2⟩, hl⟩ := h.own
 exact ⟨es, clock, h1, h.os, h.tape, h.output, h.size, h.old, p, hp, x, y, hd, he, h2, hl⟩
theorem St.pt_map {b : Nat} {m : List (κ × Value)} {es : List MapEntry} {clock : Nat} (he : Ents kv es m) (h : St w0 (pt b (.map es.toArray clock) :: l) w) : St w0 (MapOf kv b m :: l) w :=
 h.mono fun _ hp => ⟨es, clock, he, hp⟩
def IsMap (kv : κ -> Value) (w : World) (b : Nat) (m : List (κ × Value)) : Prop := ∃ es clock, Ents kv es m ∧ w.heap[b]? = some (.map es.toArray clock)
theorem St.isMap {b : Nat} {m : List (κ × Value)} (h : St w0 (MapOf kv b m :: l) w) : IsMap kv w b m := by
 obtain ⟨es, clock, h1, h2⟩ := h.map_pt
 exact ⟨es, clock, h1, h2.hd.1⟩
theorem IsMap.size {b : Nat} {m : List (κ × Value)} (h : IsMap kv w b m) : ∃ es clock, w.heap[b]? = some (.map es clock) ∧ es.size = m.length := by
 obtain ⟨es, clock, h1, h2⟩ := h
 exact ⟨_, clock, h2, by simpa using rt h1⟩
theorem w6 {t kt et : TypeId} (ht : P.underlying t = some (.map kt et)) [hm : MK P kt κ kv] {z : List Value} {agg : Bool} {bytes : Nat} (hi : Inf P et z agg bytes) {b : Nat} {m : List (κ × Value)} (h : IsMap kv w b m) (k : κ) (ok : Bool) :
  (Instr.lookup t (.map (some b)) (kv k) ok).run P w = .ok (if ok then .tuple #[(mget k m).getD (if agg then .agg z.toArray else z.getD 0 undef), .bool (mget k m).isSome] else (mget k m).getD (if agg then .agg z.toArray else z.getD 0 undef)) w := by
 obtain ⟨es, clock, h1, h2⟩ := h
 have hf := hm.find w k es m h1
 have hg := wl k m 0
 have hz := hi.zeroValue w
 simp only [Instr.lookup, Sem.run_bind, run_underlying ht, Result.andThen_ok, getObj_map h2, Sem.run_pure, hm.check, hf]
 cases hm' : mfind k m 0 with
 | none =>
  rw [hm'] at hg; rw [<- hg]
  simp only [Sem.run_bind, Result.andThen_ok, Sem.run_pure, hz]
  cases ok <;> rfl
 | some iv =>
  rw [hm'] at hg; rw [<- hg]
  simp only [Sem.run_bind, Result.andThen_ok, Sem.run_pure]
  cases ok <;> rfl
theorem pv {t kt et : TypeId} [ht : Und P t (.map kt et)] [hm : MK P kt κ kv] {z : List Value} {bytes : Nat} [hi : Inf P et z false bytes] {x y : Operand} {b : Nat} {m : List (κ × Value)} {k : κ} (hx : ev e x = .map (some b)) (hy : ev e y = kv k) (h : IsMap kv w b m) :
  Qv P e ⟨d, .lookup t x y true, ty, pos, af, g⟩ w (.tuple [(mget k m).getD (z.getD 0 undef), .bool (mget k m).isSome].toArray) := by
 unfold Qv
 have := w6 (P := P) (w := w) ht.h hi h k true
 simp only [execOp, hx, hy, Sem.run_bind, this]
 rfl
theorem sm {t kt et : TypeId} [ht : Und P t (.map kt et)] [hm : MK P kt κ kv] {z : List Value} {bytes : Nat} [hi : Inf P et z false bytes] {x y : Operand} {b : Nat} {m : List (κ × Value)} {k : κ} (hx : ev e x = .map (some b)) (hy : ev e y = kv k) (h : IsMap kv w b m) :
  Qv P e ⟨d, .lookup t x y false, ty, pos, af, g⟩ w ((mget k m).getD (z.getD 0 undef)) := by
 unfold Qv
 have := w6 (P := P) (w := w) ht.h hi h k false
 simp only [execOp, hx, hy, Sem.run_bind, this]
 rfl
theorem q_lenm {t kt et : TypeId} {tys : List TypeId} [hu : Und P t (.map kt et)] {x : Operand} {b : Nat} {m : List (κ × Value)} (hx : ev e x = .map (some b)) (h : IsMap kv w b m) :
  Qv P e ⟨d, .call ⟨.builtin .len, [x].toArray, (t :: tys).toArray⟩, ty, pos, af, g⟩ w (.iz m.length) := by
 obtain ⟨es, clock, h1, h2⟩ := h.size
 rw [<- h2]
 exact rf hx h1
theorem iq {c : Nat} {t : TypeId} (kv : κ -> Value) (h : St w0 l w) (k : ∀ b w', St w0 (MapOf kv b [] :: l) w' -> K (upd e c (.map (some b))) w') : Ex P ⟨some c, .makeMap t none, ty, pos, af, g⟩ e w K := by
 refine x_w (v := .map (some w.heap.size)) (w' := w.alloc (.map #[] 0)) ?_ (k _ _ ?_)
 ·simp [execOp, Instr.makeMap]
 ·exact St.pt_map (es := []) (clock := 0) rfl (h.alloc _)
theorem bi {t kt et : TypeId} (ht : P.underlying t = some (.map kt et)) [hm : MK P kt κ kv] {b : Nat} {m : List (κ × Value)} (h : St w0 (MapOf kv b m :: l) w) (k : κ) (v : Value) :
  ∃ w', (Instr.mapUpdate t (.map (some b)) (kv k) v).run P w = .ok () w' ∧ St w0 (MapOf kv b (mset k v m) :: l) w' := by
 obtain ⟨es, clock, h1, h2⟩ := h.map_pt
 have hb := h2.hd.1
 have hf := hm.find w k es m h1
 have hc := hm.check es.toArray.isEmpty w k
 have hc' := hm.check false w k
 cases hm' : mfind k m 0 with
 | none =>
  rw [hm'] at hf
  refine ⟨{ w with heap := w.heap.setIfInBounds b (.map (es.toArray.push { key := kv k, val := v, born := clock }) (clock + 1)) }, ?_, ?_⟩
  ·simp only [Instr.mapUpdate, Sem.run_bind, run_underlying ht, Result.andThen_ok, getObj_map hb, hc', hf, setObj_map hb]
  ·refine St.pt_map (es := es ++ [{ key := kv k, val := v, born := clock }]) (clock := clock + 1) ?_ (h2.put rfl rfl rfl O8 (fun j hj => (vn hb).2 j hj) ?_)
   ·rw [pq hm']
    unfold Ents at h1 ⊢
    simp [h1]
   ·have := (vn (o' := Obj.map (es.toArray.push { key := kv k, val := v, born := clock }) (clock + 1)) hb).1
    simpa using this
 | some iu =>
  obtain ⟨i, u⟩ := iu
  rw [hm'] at hf
  obtain ⟨g1, g2, g3, g4⟩ := wr k v m es 0 i u h1 hm'
  simp only [Nat.sub_zero] at g2 g3
  have hkey : ((es.toArray[i]?).map (·.key)).getD (kv k) = kv k := by simp [g2]
  refine ⟨{ w with heap := w.heap.setIfInBounds b (.map (es.toArray.modify i fun e => { e with key := kv k, val := v }) clock) }, ?_, ?_⟩
  ·simp only [Instr.mapUpdate, Sem.run_bind, run_underlying ht, Result.andThen_ok, getObj_map hb, hc', hf, hkey, Instr.keyThatStays, hm.same, if_true, Sem.run_pure, setObj_map hb]
  ·refine St.pt_map (es := es.modify i fun e => { e with key := kv k, val := v }) (clock := clock) g3 (h2.put rfl rfl rfl O8 (fun j hj => (vn hb).2 j hj) ?_)
   have := (vn (o' := Obj.map (es.toArray.modify i fun e => { e with key := kv k, val := v }) clock) hb).1
   simpa using this
theorem pu {t kt et : TypeId} [ht : Und P t (.map kt et)] [hm : MK P kt κ kv] {x y z : Operand} {b : Nat} {m : List (κ × Value)} {k : κ} {v : Value} (h : St w0 (MapOf kv b m :: l) w) (hx : ev e x = .map (some b)) (hy : ev e y = kv k) (hz : ev e z = v)
  (kk : ∀ w', St w0 (MapOf kv b (mset k v m) :: l) w' -> K e w') : Ex P ⟨none, .mapUpdate t x y z, ty, pos, af, g⟩ e w K := by
 obtain ⟨w', hrun, hst⟩ := bi (P := P) ht.h h k v
 refine fd (w' := w') ?_ (kk _ hst)
 simp [execOp, hx, hy, hz, hrun]
theorem run_delete_tys {t ty : TypeId} {tys : List TypeId} {args : Array Value} : Builtin.delete_ (t :: tys).toArray ty args = Builtin.delete_ #[t] ty args := by
 unfold Builtin.delete_
 rfl
theorem fb {t kt et : TypeId} (ty : TypeId) (ht : P.underlying t = some (.map kt et)) [hm : MK P kt κ kv] {b : Nat} {m : List (κ × Value)} (h : St w0 (MapOf kv b m :: l) w) (k : κ) :
  ∃ w', (Builtin.delete_ #[t] ty #[.map (some b), kv k]).run P w = .ok (.tuple #[]) w' ∧ St w0 (MapOf kv b (mdel k m) :: l) w' := by
 obtain ⟨es, clock, h1, h2⟩ := h.map_pt
 have hb := h2.hd.1
 have hf := hm.find w k es m h1
 have hc := hm.check es.toArray.isEmpty w k
 have e1 : (#[t] : Array TypeId)[0]? = some t := rfl
 have e2 : (#[Value.map (some b), kv k] : Array Value)[0]? = some (Value.map (some b)) := rfl
 have e3 : (#[Value.map (some b), kv k] : Array Value)[1]? = some (kv k) := rfl
 cases hm' : mfind k m 0 with
 | none =>
  rw [hm'] at hf
  refine ⟨{ w with heap := w.heap.setIfInBounds b (.map es.toArray clock) }, ?_, ?_⟩
  ·unfold Builtin.delete_
   simp only [e1, e2, e3, Sem.run_bind, run_underlying ht, Result.andThen_ok, getObj_map hb, hc, hf, setObj_map hb, Sem.run_pure]
  ·rw [pj hm']
   exact St.pt_map h1 (h2.put rfl rfl rfl O8 (fun j hj => (vn hb).2 j hj) (vn hb).1)
 | some iu =>
  obtain ⟨i, u⟩ := iu
  rw [hm'] at hf
  obtain ⟨g1, g2, g3, g4⟩ := wr k u m es 0 i u h1 hm'
  simp only [Nat.sub_zero] at g4
  refine ⟨{ w with heap := w.heap.setIfInBounds b (.map (es.toArray.eraseIdxIfInBounds i) clock) }, ?_, ?_⟩
  ·unfold Builtin.delete_
   simp only [e1, e2, e3, Sem.run_bind, run_underlying ht, Result.andThen_ok, getObj_map hb, hc, hf, setObj_map hb, Sem.run_pure]
  ·refine St.pt_map (es := es.eraseIdx i) (clock := clock) g4 (h2.put rfl rfl rfl O8 (fun j hj => (vn hb).2 j hj) ?_)
   have := (vn (o' := Obj.map (es.toArray.eraseIdxIfInBounds i) clock) hb).1
   simpa using this
theorem pk {t kt et : TypeId} {tys : List TypeId} [ht : Und P t (.map kt et)] [hm : MK P kt κ kv] {x y : Operand} {b : Nat} {m : List (κ × Value)} {k : κ} (h : St w0 (MapOf kv b m :: l) w) (hx : ev e x = .map (some b)) (hy : ev e y = kv k)
  (kk : ∀ w', St w0 (MapOf kv b (mdel k m) :: l) w' -> K (updO e d (.tuple #[])) w') : Ex P ⟨d, .call ⟨.builtin .delete, [x, y].toArray, (t :: tys).toArray⟩, ty, pos, af, g⟩ e w K := by
 obtain ⟨w', hrun, hst⟩ := fb (P := P) ty ht.h h k
 refine x_w (v := .tuple #[]) (w' := w') ?_ (kk _ hst)
 simp only [execOp, resolve, Xg, Ux, List.map_nil, hx, hy, invoke, builtin, Sem.run_bind, Sem.run_pure, Result.andThen_ok]
 rw [run_delete_tys, hrun]
 rfl
/-! Maps whose elements are pointers to things of their own. -/
section
variable {α : Type} {R : Nat -> α -> HProp}
abbrev ptrOf (p : Nat × α) : Value := .pointer (some ⟨p.1, 0, none⟩)
def PMap (kv : κ -> Value) (b : Nat) (R : Nat -> α -> HProp) (m : List (κ × α)) : HProp := ex fun mm : List (κ × (Nat × α)) =>
 all [lift (mm.map (fun p => (p.1, p.2.2)) = m), MapOf kv b (mm.map fun p => (p.1, ptrOf p.2)), big (fun p => R p.2.1 p.2.2) mm]
def PHole (kv : κ -> Value) (b : Nat) (R : Nat -> α -> HProp) (k : κ) (e : Nat) (m : List (κ × α)) : HProp := ex fun mm : List (κ × (Nat × α)) =>
 all [lift (mm.map (fun p => (p.1, p.2.2)) = m ∧ (mget k mm).map (·.1) = some e), MapOf kv b (mm.map fun p => (p.1, ptrOf p.2)), big (fun p => R p.2.1 p.2.2) (mdel k mm)]
theorem jn (P : HProp) (l : List HProp) : all (P :: l) = star P (all l) := rfl
theorem St.pmap {b : Nat} {m : List (κ × α)} : St w0 (PMap kv b R m :: l) w ↔ ∃ mm : List (κ × (Nat × α)), mm.map (fun p => (p.1, p.2.2)) = m ∧ St w0 (MapOf kv b (mm.map fun p => (p.1, ptrOf p.2)) :: big (fun p => R p.2.1 p.2.2) mm :: l) w := by
 unfold PMap
 rw [St.ex]
 constructor
 ·rintro ⟨mm, h⟩
  have := h.join
  exact ⟨mm, St.lift.1 this⟩
 ·rintro ⟨mm, h1, h2⟩
  exact ⟨mm, St.fold _ (St.lift.2 ⟨h1, h2⟩)⟩
theorem St.phole {b k' : Nat} {k : κ} {m : List (κ × α)} : St w0 (PHole kv b R k k' m :: l) w ↔ ∃ mm : List (κ × (Nat × α)), (mm.map (fun p => (p.1, p.2.2)) = m ∧ (mget k mm).map (·.1) = some k') ∧ St w0 (MapOf kv b (mm.map fun p => (p.1, ptrOf p.2)) :: big (fun p => R p.2.1 p.2.2) (mdel k mm) :: l) w := by
 unfold PHole
 rw [St.ex]
 constructor
 ·rintro ⟨mm, h⟩
  have := h.join
  exact ⟨mm, St.lift.1 this⟩
 ·rintro ⟨mm, h1, h2⟩
  exact ⟨mm, St.fold _ (St.lift.2 ⟨h1, h2⟩)⟩
theorem St.popen {b : Nat} {m : List (κ × α)} {k : κ} {x : α} (h : St w0 (PMap kv b R m :: l) w) (hk : mget k m = some x) : ∃ e, St w0 (R e x :: PHole kv b R k e m :: l) w := by
 obtain ⟨mm, hmm, h0⟩ := St.pmap.1 h
 subst hmm
 have hk' := (gj (fun p : Nat × α => p.2) k mm).symm.trans hk
 obtain ⟨⟨e, y⟩, h1, h2⟩ := Va.1 hk'
 simp only at h2
 subst h2
 refine ⟨e, ?_⟩
 have h3 := h0.f 1
 simp only [bring] at h3
 have h4 : St w0 (R e y :: big (fun p => R p.2.1 p.2.2) (mdel k mm) :: MapOf kv b (mm.map fun p => (p.1, ptrOf p.2)) :: l) w :=
  h3.of_all (by simp only [jn]; rw [yb _ k (e, y) mm h1]; simp only [jf])
 have h5 := ((h4.f 1).f 2)
 simp only [bring] at h5
 have h6 := St.phole.2 ⟨mm, ⟨rfl, by rw [h1]; rfl⟩, (show St w0 (MapOf kv b (mm.map fun p => (p.1, ptrOf p.2)) :: big (fun p => R p.2.1 p.2.2) (mdel k mm) :: R e y :: l) w from h5)⟩
 exact h6.f 1
theorem St.pclose {b e : Nat} {m : List (κ × α)} {k : κ} {x : α} (h : St w0 (R e x :: PHole kv b R k e m :: l) w) : St w0 (PMap kv b R (mset k x m) :: l) w := by
 have h1 := h.f 1
 simp only [bring] at h1
 obtain ⟨mm, ⟨rfl, h2⟩, h3⟩ := St.phole.1 h1
 obtain ⟨⟨e', y⟩, h4, h5⟩ := Va.1 h2
 simp only at h5
 subst h5
 refine St.pmap.2 ⟨mset k (e', x) mm, (gt (fun p : Nat × α => p.2) k (e', x) mm).symm, ?_⟩
 have hp : (mset k (e', x) mm).map (fun p => (p.1, ptrOf p.2)) = mm.map (fun p => (p.1, ptrOf p.2)) := by
  rw [<- gt (fun p : Nat × α => ptrOf p) k (e', x) mm]
  exact yh (by rw [gj, h4]; rfl)
 rw [hp]
 refine h3.of_all ?_
 simp only [jn]
 rw [nq, v5 (big _ _) (R e' x), <- jf (R e' x)]
theorem St.psame {b e : Nat} {m : List (κ × α)} {k : κ} {x : α} (hk : mget k m = some x) (h : St w0 (R e x :: PHole kv b R k e m :: l) w) : St w0 (PMap kv b R m :: l) w := by
 have := h.pclose
 rwa [yh hk] at this
theorem St.pnone {b : Nat} {m : List (κ × α)} (h : St w0 (PMap kv b R m :: l) w) : ∃ ps, IsMap kv w b ps ∧ keys ps = keys m ∧ ps.length = m.length := by
 obtain ⟨mm, hmm, h0⟩ := St.pmap.1 h
 subst hmm
 exact ⟨_, h0.isMap, by rw [n9 (fun p : Nat × α => ptrOf p), n9 (fun p : Nat × α => p.2)], by simp⟩
theorem St.pget {b k' : Nat} {k : κ} {m : List (κ × α)} (h : St w0 (PHole kv b R k k' m :: l) w) : ∃ ps, IsMap kv w b ps ∧ mget k ps = some (.pz k') := by
 obtain ⟨mm, ⟨rfl, h2⟩, h3⟩ := St.phole.1 h
 refine ⟨_, h3.isMap, ?_⟩
 rw [gj (fun p : Nat × α => ptrOf p) k mm]
 obtain ⟨⟨e', y⟩, h4, h5⟩ := Va.1 h2
 simp only at h5
 subst h5
 rw [h4]; rfl
theorem vg {t kt et : TypeId} [ht : Und P t (.map kt et)] [hm : MK P kt κ kv] {z : List Value} {bytes : Nat} [hi : Inf P et z false bytes] {x y : Operand} {b : Nat} {m : List (κ × α)} {k : κ} (h : St w0 (PMap kv b R m :: l) w) (hx : ev e x = .map (some b)) (hy : ev e y = kv k) (hk : mget k m = none) :
  Qv P e ⟨d, .lookup t x y true, ty, pos, af, g⟩ w (.tuple [z.getD 0 undef, .bool false].toArray) := by
 obtain ⟨ps, h1, h2, _⟩ := h.pnone
 have := pv (P := P) (t := t) (ty := ty) (d := d) (pos := pos) (af := af) (g := g) hx hy h1
 rw [mget_none.2 (by rw [h2]; exact mget_none.1 hk)] at this
 exact this
theorem gu {t kt et : TypeId} [ht : Und P t (.map kt et)] [hm : MK P kt κ kv] {z : List Value} {bytes : Nat} [hi : Inf P et z false bytes] {x y : Operand} {b k' : Nat} {m : List (κ × α)} {k : κ} (h : St w0 (PHole kv b R k k' m :: l) w) (hx : ev e x = .map (some b)) (hy : ev e y = kv k) :
  Qv P e ⟨d, .lookup t x y true, ty, pos, af, g⟩ w (.tuple [.pz k', .bool true].toArray) := by
 obtain ⟨ps, h1, h2⟩ := h.pget
 have := pv (P := P) (t := t) (ty := ty) (d := d) (pos := pos) (af := af) (g := g) hx hy h1
 rw [h2] at this
 exact this
theorem ri {t kt et : TypeId} {tys : List TypeId} [hu : Und P t (.map kt et)] {x : Operand} {b : Nat} {m : List (κ × α)} (h : St w0 (PMap kv b R m :: l) w) (hx : ev e x = .map (some b)) :
  Qv P e ⟨d, .call ⟨.builtin .len, [x].toArray, (t :: tys).toArray⟩, ty, pos, af, g⟩ w (.iz m.length) := by
 obtain ⟨ps, h1, _, h2⟩ := h.pnone
 rw [<- h2]
 exact q_lenm hx h1
theorem rl {t kt et : TypeId} [ht : Und P t (.map kt et)] [hm : MK P kt κ kv] {x y z : Operand} {b e' : Nat} {m : List (κ × α)} {k : κ} {v : α} (h : St w0 (R e' v :: PMap kv b R m :: l) w) (hk : mget k m = none) (hx : ev e x = .map (some b)) (hy : ev e y = kv k) (hz : ev e z = .pz e')
  (kk : ∀ w', St w0 (PMap kv b R (mset k v m) :: l) w' -> K e w') : Ex P ⟨none, .mapUpdate t x y z, ty, pos, af, g⟩ e w K := by
 have h1 := h.f 1
 simp only [bring] at h1
 obtain ⟨mm, rfl, h2⟩ := St.pmap.1 h1
 refine pu h2 hx hy hz fun w' h3 => kk w' (St.pmap.2 ⟨mset k (e', v) mm, (gt (fun p : Nat × α => p.2) k (e', v) mm).symm, ?_⟩)
 rw [<- gt (fun p : Nat × α => ptrOf p) k (e', v) mm]
 refine h3.of_all ?_
 simp only [jn]
 have hk' : mget k mm = none := by
  have := (gj (fun p : Nat × α => p.2) k mm).symm.trans hk
  simpa using this
 rw [nq, xg k mm hk', v5 (big _ _) (R e' v), <- jf (R e' v)]
theorem re {t kt et : TypeId} {tys : List TypeId} [ht : Und P t (.map kt et)] [hm : MK P kt κ kv] {x y : Operand} {b k' : Nat} {m : List (κ × α)} {k : κ} (h : St w0 (PHole kv b R k k' m :: l) w) (hx : ev e x = .map (some b)) (hy : ev e y = kv k)
  (kk : ∀ w', St w0 (PMap kv b R (mdel k m) :: l) w' -> K (updO e d (.tuple #[])) w') : Ex P ⟨d, .call ⟨.builtin .delete, [x, y].toArray, (t :: tys).toArray⟩, ty, pos, af, g⟩ e w K := by
 obtain ⟨mm, ⟨rfl, h2⟩, h3⟩ := St.phole.1 h
 refine pk h3 hx hy fun w' h4 => kk w' (St.pmap.2 ⟨mdel k mm, (v8 (fun p : Nat × α => p.2) k mm).symm, ?_⟩)
 rw [<- v8 (fun p : Nat × α => ptrOf p) k mm]
 exact h4
theorem ij {c : Nat} {t : TypeId} (kv : κ -> Value) (R : Nat -> α -> HProp) (h : St w0 l w) (k : ∀ b w', St w0 (PMap kv b R [] :: l) w' -> K (upd e c (.map (some b))) w') : Ex P ⟨some c, .makeMap t none, ty, pos, af, g⟩ e w K := by
 refine iq kv h fun b w' h' => k b w' (St.pmap.2 ⟨[], rfl, h'.of_all ?_⟩)
 simp only [jn, List.map_nil]
 show _ = star _ (star emp _)
 rw [ko]
end
theorem rr {P : Program} {w : World} {kt : TypeId} {ik : IntKind} (hu : P.underlying kt = some (.int ik)) (k : Int) : ∀ (es : List MapEntry) (m : List (Int × Value)), Ents (Value.int ik) es m -> (Instr.findKey kt (.int ik k) es).run P w = .ok (mfind k m 0) w := by
 have key : ∀ (es : List MapEntry) (m : List (Int × Value)) (i : Nat), Ents (Value.int ik) es m -> Instr.findNow (.int ik) (.int ik k) es i = some (mfind k m i) := by
  intro es
  induction es with
  | nil => intro m i h; cases m with | nil => rfl | cons a m => simp [Ents] at h
  | cons e es ih =>
   intro m i h
   cases m with
   | nil => simp [Ents] at h
   | cons a m =>
    obtain ⟨j, u⟩ := a
    have h' : (e.key, e.val) = (Value.int ik j, u) ∧ Ents (Value.int ik) es m := by simpa [Ents] using h
    have hk : e.key = .int ik j := congrArg Prod.fst h'.1
    have hv : e.val = u := congrArg Prod.snd h'.1
    by_cases hj : j = k
    ·subst hj
     simp [Instr.findNow, hk, hv, Instr.sameNow, mfind]
    ·have : (k == j) = false := by simpa using Ne.symm hj
     simp [Instr.findNow, hk, Instr.sameNow, mfind, this, hj, ih m (i + 1) h'.2]
 intro es m h
 have := key es m 0 h
 simp [Instr.findKey, run_underlying hu, this]
theorem MK.int {P : Program} {kt : TypeId} {ik : IntKind} (hu : P.underlying kt = some (.int ik)) : MK P kt Int (Value.int ik) where
 check := fun e w k => by
  show (Instr.checkKey e (9999 + 1) kt (.int ik k)).run P w = _
  unfold Instr.checkKey
  rw [Sem.run_bind, run_underlying hu]
  rfl
 find := fun w k es m h => rr hu k es m h
 same := fun k => by unfold Instr.sameBits; simp
 inj := fun a b h => by injection h
end
end
section
def bytesV (bs : List UInt8) : List Value := bs.map fun b => .int .u8 b.toNat
theorem bytesV_len (bs : List UInt8) : (bytesV bs).length = bs.length := by simp [bytesV]
theorem bytesV_one (bs : List UInt8) : ∀ u ∈ bytesV bs, u.oneCell' = true := by
 intro u hu
 simp only [bytesV, Vb] at hu
 obtain ⟨b, _, rfl⟩ := hu
 rfl
theorem bytesV_get {bs : List UInt8} {j : Nat} {b : UInt8} (h : bs[j]? = some b) : (bytesV bs)[j]? = some (.int .u8 b.toNat) := by simp [bytesV, h]
theorem bytesV_set (bs : List UInt8) (j : Nat) (b : UInt8) : (bytesV bs).set j (.int .u8 b.toNat) = bytesV (bs.set j b) := by simp [bytesV, List.map_set]
def strB (bs : List UInt8) : ByteArray := ⟨bs.toArray⟩
section
variable {P : Program} {n : Nat} {ops : Array Oper} {Q : Post} {rest : List Oper} {e : Env} {w w0 : World} {K : Env -> World -> Prop} {l : List HProp}
variable {d : Option Nat} {ty : TypeId} {pos : String} {af : Array Edge} {g : Option (Nat × Bool)}
theorem qz {c : Nat} {v : Value} (v' : Value) (hv : v = v') (h : Rn P n ops Q rest (upd e c v') w) : Rn P n ops Q rest (upd e c v) w := hv ▸ h
theorem jb {t T : TypeId} [ht : Und P t (.slice T)] {z : List Value} {agg : Bool} {bytes : Nat} [hi : Inf P T z agg bytes] {x y : Operand} {b o o' m c j : Nat} {k : IntKind} {i : Int}
  (hx : ev e x = .slice (some ⟨b, o, none⟩) m c) (hy : ev e y = .int k i) (hij : i = (j : Int)) (hj : j < m) (ho : o + j * z.length = o') : Qv P e ⟨d, .indexAddr t x y, ty, pos, af, g⟩ w (.pointer (some ⟨b, o', none⟩)) := by
 unfold Qv
 subst hij ho
 have h1 := hi.sizeOf w
 have h2 : (0 : Int) <= (j : Int) ∧ (j : Int) < (m : Int) := by omega
 have h3 : ((j : Int) < (m : Int)) := h2.2
 simp [execOp, hx, hy, Instr.indexAt, asIntOf, run_underlying ht.h, h1, Addr.add_mid, hj]
theorem Rd.cell {sz m b o : Nat} {xs : List Value} {j : Nat} {v : Value} (h : Rd w sz (some ⟨b, o, none⟩) m xs) (hv : xs[j]? = some v) : w.cell? ⟨b, o + j, none⟩ = some v := by
 rcases h.2 with h0 | ⟨b', o', h1, h2⟩
 ·have := h.1
  have h3 := (Uf.1 hv).1
  rw [this, h0, Nat.zero_mul] at h3
  omega
 ·cases h1; exact h2 j v hv
theorem Rd.some {sz m : Nat} {a : Option Addr} {xs : List Value} (h : Rd w sz a m xs) (hm : 0 < m) : ∃ b o, a = some ⟨b, o, none⟩ := by
 rcases h.2 with h | ⟨b, o, h, _⟩
 ·omega
 ·exact ⟨b, o, h⟩
theorem St.own_some {T sz m c : Nat} {a : Option Addr} {xs : List Value} (h : St w0 (Own T sz a m c xs :: l) w) (hm : 0 < m) : ∃ g, a = some ⟨g, 0, none⟩ := by
 obtain ⟨_, _, ⟨_, _, h, _⟩ | ⟨g, _, h, _⟩⟩ := h.own_cases
 ·omega
 ·exact ⟨g, h⟩
theorem jo {t T : TypeId} {z : List Value} {bytes : Nat} [hi : Inf P t z false bytes] {x y : Operand} {sz m c b o : Nat} {xs : List Value} {v : Value}
  (h : St w0 (Own T sz (sQ b) m c xs :: l) w) (hx : ev e x = .pointer (some ⟨b, o, none⟩)) (hy : ev e y = v) (ho : o < m * sz) (h1 : v.oneCell' = true)
  (k : ∀ w', St w0 (Own T sz (sQ b) m c (xs.set o v) :: l) w' -> K e w') : Ex P ⟨none, .store t x y, ty, pos, af, g⟩ e w K := by
 obtain ⟨h2, h3, ⟨h4, _⟩ | ⟨g, cur, h4, h5, h6, h7⟩⟩ := h.own_cases
 ·cases h4
 ·cases h4
  have hle : m * sz <= c * sz := Ut _ h3
  refine qb 0 h7 hx hy rfl (by rw [Xq]; omega) rfl h1 fun w' h => k w' ?_
  simp only [Vf] at h
  exact St.own_mk' h (by simpa using h5) (by rw [List.take_set, h6]) h3
theorem q9 {c : Nat} {t T : TypeId} [ht : Und P t (.slice T)] {z : List Value} {agg : Bool} {bytes : Nat} [hi : Inf P T z agg bytes] {x y : Operand} {a a2 : Option Addr} {m m2 m3 c1 c2 sz : Nat} {xs ys zs : List Value}
  (h : St w0 (Own T sz a m c1 xs :: l) w) (hx : ev e x = .slice a m c1) (hy : ev e y = .slice a2 m2 c2) (hr : Rd w sz a2 m2 ys) (h1 : ∀ u ∈ ys, u.oneCell' = true) (hm : m + m2 = m3) (hzs : xs ++ ys = zs) (hb : m3 * bytes <= 140737488355328) (h63 : m3 <= 9223372036854775807) (hz : z.length = sz)
  (k : ∀ a' c' w', (a' = none -> a = none) -> St w0 (Own T sz a' m3 c' zs :: l) w' -> K (upd e c (.slice a' m3 c')) w') :
  Ex P ⟨some c, .call ⟨.builtin .append, [x, y].toArray, [t, t].toArray⟩, ty, pos, af, g⟩ e w K := by
 subst hm hzs
 exact na h hx hy hr h1 hb h63 hz k
theorem xv {t T : TypeId} [ht : Und P t (.slice T)] {z : List Value} {agg : Bool} {bytes : Nat} [hi : Inf P T z agg bytes] {x y y' : Operand} {a : Option Addr} {m c h h' : Nat} {k k' : IntKind}
  (hx : ev e x = .slice a m c) (hy : ev e y = .int k (h : Int)) (hy' : ev e y' = .int k' (h' : Int)) (h1 : h <= h') (h2 : h' <= c) : Qv P e ⟨d, .slice t x none (some y) (some y'), ty, pos, af, g⟩ w (.slice a h h') := by
 unfold Qv
 have hz := hi.sizeOf w
 have e1 : (Instr.sliceBound (.int k' (h' : Int)) c .slice3Acap).run P w = .ok h' w := by
  simp [Instr.sliceBound, asIntOf, h2]
 have e2 : (Instr.sliceBound (.int k (h : Int)) h' .slice3B).run P w = .ok h w := by
  simp [Instr.sliceBound, asIntOf, h1]
 have e3 : (Instr.sliceBounds true m c none (some (.int k (h : Int))) (some (.int k' (h' : Int)))).run P w = .ok (0, h, h') w := by
  simp [Instr.sliceBounds, e1, e2]
 have key : (Instr.sliceAt t (.slice a m c) none (some (.int k (h : Int))) (some (.int k' (h' : Int)))).run P w = .ok (.slice a h h') w := by
  simp [Instr.sliceAt, Instr.slice, run_underlying ht.h, e3, hz]
  rintro -
  cases a with
  | none => rfl
  | some ad => simp [Addr.add]
 simp only [execOp, hx, hy, hy', Kg, Xa, Sem.run_bind, key, Result.andThen_ok]; rfl
theorem kz {t T : TypeId} [ht : Und P t (.slice T)] {z : List Value} {agg : Bool} {bytes : Nat} [hi : Inf P T z agg bytes] {x y : Operand} {a : Option Addr} {m c h : Nat} {k : IntKind}
  (hx : ev e x = .slice a m c) (hy : ev e y = .int k (h : Int)) (h2 : h <= c) : Qv P e ⟨d, .slice t x none (some y) none, ty, pos, af, g⟩ w (.slice a h c) := by
 unfold Qv
 have hz := hi.sizeOf w
 have e2 : (Instr.sliceBound (.int k (h : Int)) c .sliceAcap).run P w = .ok h w := by
  simp [Instr.sliceBound, asIntOf, h2]
 have e3 : (Instr.sliceBounds true m c none (some (.int k (h : Int))) none).run P w = .ok (0, h, c) w := by
  simp [Instr.sliceBounds, e2]
 have key : (Instr.sliceAt t (.slice a m c) none (some (.int k (h : Int))) none).run P w = .ok (.slice a h c) w := by
  simp [Instr.sliceAt, Instr.slice, run_underlying ht.h, e3, hz]
  rintro -
  cases a with
  | none => rfl
  | some ad => simp [Addr.add]
 simp only [execOp, hx, hy, Kg, Xa, Sem.run_bind, key, Result.andThen_ok]; rfl
theorem r8 {s t T : TypeId} [hs : Und P s (.slice T)] [hT : Und P T (.int .u8)] [ht : Und P t .string] {x : Operand} {a : Option Addr} {m c : Nat} {bs : List UInt8} (hx : ev e x = .slice a m c) (hr : Rd w 1 a m (bytesV bs)) :
  Qv P e ⟨d, .convert s t x, ty, pos, af, g⟩ w (.string (strB bs)) := by
 unfold Qv
 have hlen : bs.length = m := by have := hr.1; rw [bytesV_len] at this; omega
 subst hlen
 have key : (convert s t (.slice a bs.length c)).run P w = .ok (.string (strB bs)) w := by
  rcases hr.2 with h0 | ⟨b, o, rfl, hat⟩
  ·obtain rfl := Un h0
   cases a with
   | none =>
    rw [run_convert_bytes_string w s t T none _ c hs.h hT.h ht.h]
    simp [Conv.bytesToString, strB, ByteArray.empty, ByteArray.emptyWithCapacity]; rfl
   | some ad => exact run_convert_bytes_back w s t T ad c [] hs.h hT.h ht.h fun j hj => by cases hj
  ·refine run_convert_bytes_back w s t T _ c bs hs.h hT.h ht.h fun j hj => ?_
   rw [Addr.add_mid]
   exact hat j _ (bytesV_get (Uc hj))
 simp only [execOp, hx, Sem.run_bind, key, Result.andThen_ok]; rfl
end
section
variable {P : Program} {e : Env} {w : World} {φ : Value -> World -> Prop}
theorem gi {t : TypeId} {z : List Value} {bytes : Nat} [hi : Inf P t z true bytes] {a : Tmp} {b o : Nat} {l : List Value} (hx : e a = .pointer (some ⟨b, o, none⟩)) (hz : z.length = l.length) (hl : At w b o l) :
  (do loadVar t (<- asAddr (e a)) : Sem Value).run P w = .ok (.agg l.toArray) w := by
 have := js (P := P) (t := t) hz hl
 rw [hx]
 simpa [Instr.loadAt, Instr.sureAddr, asAddr] using this
theorem bqS1 {a : Tmp} {t : TypeId} {z : List Value} {bytes : Nat} [hi : Inf P t z true bytes] {b o : Nat} {l : List Value} (hx : e a = .pointer (some ⟨b, o, none⟩)) (hz : Nat.beq z.length l.length = true) (hl : At w b o l) (h : φ (.agg l.toArray) w) :
  bq P [.cell a t] φ .ret e w := ⟨_, gi hx (Vh hz) hl, h⟩
theorem bqS2 {a c : Tmp} {t : TypeId} {z : List Value} {bytes : Nat} [hi : Inf P t z true bytes] {b o : Nat} {l : List Value} (hx : e a = .pointer (some ⟨b, o, none⟩)) (hz : Nat.beq z.length l.length = true) (hl : At w b o l) (h : φ (.tuple [.agg l.toArray, e c].toArray) w) :
  bq P [.cell a t, .tmp c] φ .ret e w := ⟨_, gi hx (Vh hz) hl, h⟩
theorem bqS4 {a c d f : Tmp} {t : TypeId} {z : List Value} {bytes : Nat} [hi : Inf P t z true bytes] {b o : Nat} {l : List Value} (hx : e a = .pointer (some ⟨b, o, none⟩)) (hz : Nat.beq z.length l.length = true) (hl : At w b o l) (h : φ (.tuple [e d, .agg l.toArray, e c, e f].toArray) w) :
  bq P [.tmp d, .cell a t, .tmp c, .tmp f] φ .ret e w := ⟨_, gi hx (Vh hz) hl, h⟩
end
end
section
open Go.ChangeShapes Go.WideShapes Go.ChangeAt Go.RowKit
theorem trodAll_stays {H : Type} {enc : TypeId × Value -> H} {P : Program} (hl : laidOutB P = true) {W W' : World} (hb : Below W.heap.size W W') :
  ∀ {ts : List TypeId} {vs : List Value} {ds : List (DataW H)} {ps : List MemPlace}, (ts.all fun t => P.readableRec t && Zy t P.types.size) = true ->
   DataW.TrodAll enc P W 0 (fun _ => true) true ts vs ds ps -> (∀ x ∈ ps, x.block < W.heap.size) -> DataW.TrodAll enc P W' 0 (fun b => decide (b < W.heap.size)) true ts vs ds ps
 | [], vs, ds, ps, _, h, _ => by
  obtain ⟨rfl, rfl, rfl⟩ := trodAll_nil h
  exact trodAll_mk0
 | t :: ts, vs, ds, ps, hr, h, hlt => by
  obtain ⟨v, vs', d, ds', p, q, rfl, rfl, rfl, h1, h2⟩ := trodAll_cons h
  simp only [List.all_cons, Ur] at hr
  exact trodAll_cons_mk (Below.trod hl hr.1.1 (by simpa [Xq] using hr.1.2) h1 hb (fun x hx => hlt x (List.mem_append_left _ hx)))
   (trodAll_stays hl hb hr.2 h2 (fun x hx => hlt x (List.mem_append_right _ hx)))
theorem trodAll_len {H : Type} {enc : TypeId × Value -> H} {P : Program} {w : World} {base : Nat} {spare : Nat -> Bool} {held : Bool} :
  ∀ {ts : List TypeId} {vs : List Value} {ds : List (DataW H)} {ps : List MemPlace}, DataW.TrodAll enc P w base spare held ts vs ds ps -> ds.length = ts.length
 | [], vs, ds, ps, h => by obtain ⟨_, rfl, _⟩ := trodAll_nil h; rfl
 | t :: ts, vs, ds, ps, h => by
  obtain ⟨v, vs', d, ds', p, q, rfl, rfl, rfl, h1, h2⟩ := trodAll_cons h
  simp [trodAll_len h2]
theorem law_contract {H : Type} {enc : TypeId × Value -> H} {C : Checked} {f : FuncId} {fn : Func} {s : ChangeSpec} {ts : List TypeId} {tb : TypeId} (hl : laidOutB C.prog = true) (hp : fn.params.toList = ts) (hrt : fn.resultTypes = #[tb]) (hbool : C.prog.underlying tb = some .bool)
  (hread : (ts.all fun t => C.prog.readableRec t && Zy t C.prog.types.size) = true) (hvars : s.vars = []) (hs : ∀ ds : List (DataW H), ds.length = ts.length -> s.fn H ds = { results := [.lit (.bool true)], args := ds })
  {W : World} {args : Array Value} {ds gs : List (DataW H)} {before : List MemPlace}
  (hW : DataW.Whole enc C.prog fn.params.toList s.vars false W args.toList ds gs before)
  (main : (∃ ps, DataW.TrodAll enc C.prog W 0 (fun _ => true) true ts args.toList ds ps ∧ ∀ x ∈ ps, x.block < W.heap.size) -> Ret C.prog f args.toList W fun v w' => v = .bool true ∧ St W [] w') :
  Calls C.prog f args W fun e W' => ∃ v, e = .returned v ∧ s.post enc C.prog fn false true false false W args v W' := by
 have hW' := hW
 obtain ⟨p, q, hA, hV, rfl, hfz, hnd⟩ := hW
 rw [hp] at hA
 rw [hvars] at hV
 obtain ⟨rfl, rfl⟩ := trodVars_none hV
 simp only [Uw] at hW'
 have hlt : ∀ x ∈ p, x.block < W.heap.size := fun x hx => by simpa using hW'.lt x hx
 have hlen := trodAll_len hA
 have hm := main ⟨p, hA, hlt⟩
 unfold Ret at hm
 simp only [Array.toArray_toList] at hm
 refine hm.mono fun e W' ⟨v, he, hv, hst⟩ => ?_
 subst he hv
 have hb := hst.below
 refine ⟨_, rfl, ds, [], _, [], p, [], hW', ?_, ?_, ?_, hb.frame _, fun h => by cases h⟩
 ·rw [hrt, Uw, hs ds hlen]
  exact trodAll_cons_mk (shut_bool hbool true) trodAll_mk0
 ·rw [hp, Uw, hs ds hlen]
  exact trodAll_stays hl hb hread hA hlt
 ·rw [hvars, Uw, hs ds hlen]; rfl
section
variable {H : Type} {enc : TypeId × Value -> H} {P : Program} {W : World} {r : Reach} {b0 : Nat}
end
end
section
theorem wrap64 {x : Int} (h1 : -9223372036854775808 <= x) (h2 : x < 9223372036854775808) : IntKind.i64.wrap x = x := by
 unfold IntKind.wrap
 simp [IntKind.signed, IntKind.bits]
 omega
theorem w7 {a m : Int} (k : Nat) (hk : k < 63) (hm : m = 2 ^ k - 1) : bitOp .and .i64 a m = a % 2 ^ k := by
 subst hm
 have hp : (2 : Nat) ^ k < 2 ^ 63 := Nat.pow_lt_pow_right O0 hk
 have hp0 : 0 < (2 : Nat) ^ k := Wj k
 have e1 : ((2 : Int) ^ k - 1) = ((2 ^ k - 1 : Nat) : Int) := by
  rw [Int.natCast_sub O0]; simp
 have e2 : (BitVec.ofInt 64 ((2 : Int) ^ k - 1)).toNat = 2 ^ k - 1 := by
  rw [e1]
  simp only [BitVec.ofInt_natCast, BitVec.toNat_ofNat]
  exact Ul O0
 have e3 : ((BitVec.ofInt 64 a &&& BitVec.ofInt 64 ((2 : Int) ^ k - 1)).toNat : Int) = a % 2 ^ k := by
  rw [BitVec.toNat_and, e2, Nat.and_two_pow_sub_one_eq_mod, BitVec.toNat_ofInt]
  rw [Int.natCast_emod]
  have h0 : 0 <= a % ((2 ^ 64 : Nat) : Int) := Int.emod_nonneg _ O2
  rw [Int.toNat_of_nonneg h0]
  have hd : (((2 ^ k : Nat)) : Int) ∣ ((2 ^ 64 : Nat) : Int) := by
   exact Int.natCast_dvd_natCast.2 (Nat.pow_dvd_pow 2 O0)
  rw [Int.emod_emod_of_dvd _ hd]
  simp
 unfold bitOp
 simp only
 have e4 : IntKind.i64.bits = 64 := rfl
 rw [e4, e3]
 have h1 : 0 <= a % 2 ^ k := Int.emod_nonneg _ (by rw [show ((2 : Int) ^ k) = ((2 ^ k : Nat) : Int) by simp]; omega)
 have h2 : a % 2 ^ k < 2 ^ k := Int.emod_lt_of_pos _ (by rw [show ((2 : Int) ^ k) = ((2 ^ k : Nat) : Int) by simp]; omega)
 have h3 : ((2 : Int) ^ k) < 9223372036854775808 := by rw [show ((2 : Int) ^ k) = ((2 ^ k : Nat) : Int) by simp]; omega
 exact wrap64 O0 O0
end
section
section
variable {P : Program} {ops : Array Oper} {e : Env} {w : World} {d : Option Nat} {ty : TypeId} {pos : String} {af : Array Edge} {g : Option (Nat × Bool)}
theorem qr {o : Oper} {v v' : Value} (h : Qv P e o w v) (hv : v = v') : Qv P e o w v' := hv ▸ h
end
end
section
theorem zd (x : Nat) : IntKind.u64.wrap (x : Int) = ((x % 18446744073709551616 : Nat) : Int) := by
 unfold IntKind.wrap
 simp [IntKind.signed, IntKind.bits]
theorem uw (x : Nat) : IntKind.u8.wrap (x : Int) = ((x % 256 : Nat) : Int) := by
 unfold IntKind.wrap
 simp [IntKind.signed, IntKind.bits]
theorem vr {a b : Nat} (ha : a < 18446744073709551616) (hb : b < 18446744073709551616) :
  bitOp .and .u64 (a : Int) (b : Int) = ((a &&& b : Nat) : Int) ∧ bitOp .or .u64 (a : Int) (b : Int) = ((a ||| b : Nat) : Int) ∧ bitOp .xor .u64 (a : Int) (b : Int) = ((a ^^^ b : Nat) : Int) := by
 have ha' : a % 2 ^ 64 = a := Ul ha
 have hb' : b % 2 ^ 64 = b := Ul hb
 have e : IntKind.u64.bits = 64 := rfl
 refine ⟨?_, ?_, ?_⟩ <;> unfold bitOp <;> simp only [e, BitVec.ofInt_natCast, BitVec.toNat_and, BitVec.toNat_or, BitVec.toNat_xor, BitVec.toNat_ofNat, ha', hb', zd]
 ·rw [Ul (Ki (n := 64) _ hb)]
 ·rw [Ul (Nat.or_lt_two_pow (n := 64) ha hb)]
 ·rw [Ul (Wr (n := 64) ha hb)]
theorem w8 {a b : Nat} (ha : a < 256) (hb : b < 256) :
  bitOp .and .u8 (a : Int) (b : Int) = ((a &&& b : Nat) : Int) ∧ bitOp .or .u8 (a : Int) (b : Int) = ((a ||| b : Nat) : Int) ∧ bitOp .xor .u8 (a : Int) (b : Int) = ((a ^^^ b : Nat) : Int) := by
 have ha' : a % 2 ^ 8 = a := Ul ha
 have hb' : b % 2 ^ 8 = b := Ul hb
 have e : IntKind.u8.bits = 8 := rfl
 refine ⟨?_, ?_, ?_⟩ <;> unfold bitOp <;> simp only [e, BitVec.ofInt_natCast, BitVec.toNat_and, BitVec.toNat_or, BitVec.toNat_xor, BitVec.toNat_ofNat, ha', hb', uw]
 ·rw [Ul (Ki (n := 8) _ hb)]
 ·rw [Ul (Nat.or_lt_two_pow (n := 8) ha hb)]
 ·rw [Ul (Wr (n := 8) ha hb)]
theorem qqq (x y : UInt8) : bitOp .or .u8 (x.toNat : Int) (y.toNat : Int) = ((x ||| y).toNat : Int) := by
 rw [(w8 x.toNat_lt y.toNat_lt).2.1]; rfl
theorem j0 (a i n : Nat) (h : i <= n) : (a : Int).fdiv (2 ^ (min ((i : Int)).toNat n)) = ((a / 2 ^ i : Nat) : Int) := by
 rw [Zo, Vs h, Zr _ (by exact Int.le_of_lt (Int.pow_pos O2))]
 rw [Int.natCast_ediv]
 simp
theorem kh (a i : Nat) (h : i <= 64) : IntKind.u64.wrap ((a : Int) * 2 ^ (min ((i : Int)).toNat IntKind.u64.bits)) = ((a * 2 ^ i % 18446744073709551616 : Nat) : Int) := by
 rw [Zo, Vs (show i <= IntKind.u64.bits from h), <- zd]
 simp
theorem shl_u8 (a i : Nat) (h : i <= 8) : IntKind.u8.wrap ((a : Int) * 2 ^ (min ((i : Int)).toNat IntKind.u8.bits)) = ((a * 2 ^ i % 256 : Nat) : Int) := by
 rw [Zo, Vs (show i <= IntKind.u8.bits from h), <- uw]
 simp
theorem zn (a b : Nat) : (a : Int).tmod (b : Int) = ((a % b : Nat) : Int) := by
 rw [Zs (Kj _), Int.natCast_emod]
theorem py (a b : Nat) : (a : Int).tdiv (b : Int) = ((a / b : Nat) : Int) := by
 rw [Int.tdiv_eq_ediv_of_nonneg (Kj _), Int.natCast_ediv]
def mk8 (b0 b1 b2 b3 b4 b5 b6 b7 : Bool) : UInt8 := (b0.toUInt8 <<< 7) ||| (b1.toUInt8 <<< 6) ||| (b2.toUInt8 <<< 5) ||| (b3.toUInt8 <<< 4) ||| (b4.toUInt8 <<< 3) ||| (b5.toUInt8 <<< 2) ||| (b6.toUInt8 <<< 1) ||| b7.toUInt8
def byteAt (l : List Bool) (k : Nat) : UInt8 := mk8 (l.getD (8 * k) false) (l.getD (8 * k + 1) false) (l.getD (8 * k + 2) false) (l.getD (8 * k + 3) false) (l.getD (8 * k + 4) false) (l.getD (8 * k + 5) false) (l.getD (8 * k + 6) false) (l.getD (8 * k + 7) false)
def pack (l : List Bool) : List UInt8 := (List.range ((l.length + 7) / 8)).map (byteAt l)
def padz (l : List Bool) : List UInt8 := (List.range (l.length / 8 + 1)).map (byteAt l)
theorem j6 (l : List Bool) : (pack l).length = (l.length + 7) / 8 := by simp [pack]
theorem getD_snoc_lt {l : List Bool} {b : Bool} {i : Nat} (h : i < l.length) : (l ++ [b]).getD i false = l.getD i false := by
 simp [List.getD, Wa h]
theorem getD_snoc_at {l : List Bool} {b : Bool} {i : Nat} (h : i = l.length) : (l ++ [b]).getD i false = b := by
 subst h; simp [List.getD]
theorem getD_ge {l : List Bool} {i : Nat} (h : l.length <= i) : l.getD i false = false := by
 simp [List.getD, Vk h]
theorem byteAt_lt {l : List Bool} {b : Bool} {k : Nat} (h : k < l.length / 8) : byteAt (l ++ [b]) k = byteAt l k := by
 unfold byteAt
 rw [getD_snoc_lt O0, getD_snoc_lt O0, getD_snoc_lt O0, getD_snoc_lt O0, getD_snoc_lt O0, getD_snoc_lt O0, getD_snoc_lt O0, getD_snoc_lt O0]
theorem byteAt_at (l : List Bool) (b : Bool) : byteAt (l ++ [b]) (l.length / 8) = byteAt l (l.length / 8) ||| UInt8.ofNat (b.toNat * 2 ^ (7 - l.length % 8)) := by
 have hr : l.length % 8 < 8 := Vr _ O2
 have hl : l.length = 8 * (l.length / 8) + l.length % 8 := (Nat.div_add_mod _ _).symm
 generalize l.length / 8 = k at hl
 generalize l.length % 8 = r at hl hr
 unfold byteAt
 have go : ∀ j, j < 8 -> (l ++ [b]).getD (8 * k + j) false = if j < r then l.getD (8 * k + j) false else if j = r then b else false := by
  intro j _
  by_cases h1 : j < r
  ·rw [if_pos h1, getD_snoc_lt O0]
  ·rw [if_neg h1]
   by_cases h2 : j = r
   ·rw [if_pos h2, getD_snoc_at O0]
   ·rw [if_neg h2, getD_ge O6]
 have g2 : ∀ j, j < 8 -> r <= j -> l.getD (8 * k + j) false = false := fun j _ h => getD_ge O0
 have g0 := go 0 O2; have g1 := go 1 O2; have g3 := go 2 O2; have g4 := go 3 O2; have g5 := go 4 O2; have g6 := go 5 O2; have g7 := go 6 O2; have g8 := go 7 O2
 rw [Wm] at g0
 rw [g0, g1, g3, g4, g5, g6, g7, g8]
 have y0 := g2 0 O2; have y1 := g2 1 O2; have y2 := g2 2 O2; have y3 := g2 3 O2; have y4 := g2 4 O2; have y5 := g2 5 O2; have y6 := g2 6 O2; have y7 := g2 7 O2
 rw [Wm] at y0
 generalize l.getD (8 * k) false = x0 at *
 generalize l.getD (8 * k + 1) false = x1 at *
 generalize l.getD (8 * k + 2) false = x2 at *
 generalize l.getD (8 * k + 3) false = x3 at *
 generalize l.getD (8 * k + 4) false = x4 at *
 generalize l.getD (8 * k + 5) false = x5 at *
 generalize l.getD (8 * k + 6) false = x6 at *
 generalize l.getD (8 * k + 7) false = x7 at *
 clear go g2 hl g0 g1 g3 g4 g5 g6 g7 g8
 rcases (by omega : r = 0 ∨ r = 1 ∨ r = 2 ∨ r = 3 ∨ r = 4 ∨ r = 5 ∨ r = 6 ∨ r = 7) with rfl | rfl | rfl | rfl | rfl | rfl | rfl | rfl
 ·have z0 := y0 O2; have z1 := y1 O2; have z2 := y2 O2; have z3 := y3 O2; have z4 := y4 O2; have z5 := y5 O2; have z6 := y6 O2; have z7 := y7 O2
  subst z0 z1 z2 z3 z4 z5 z6 z7; clear y0 y1 y2 y3 y4 y5 y6 y7; revert b; decide
 ·have z1 := y1 O2; have z2 := y2 O2; have z3 := y3 O2; have z4 := y4 O2; have z5 := y5 O2; have z6 := y6 O2; have z7 := y7 O2
  subst z1 z2 z3 z4 z5 z6 z7; clear y0 y1 y2 y3 y4 y5 y6 y7; revert b x0; decide
 ·have z2 := y2 O2; have z3 := y3 O2; have z4 := y4 O2; have z5 := y5 O2; have z6 := y6 O2; have z7 := y7 O2
  subst z2 z3 z4 z5 z6 z7; clear y0 y1 y2 y3 y4 y5 y6 y7; revert b x0 x1; decide
 ·have z3 := y3 O2; have z4 := y4 O2; have z5 := y5 O2; have z6 := y6 O2; have z7 := y7 O2
  subst z3 z4 z5 z6 z7; clear y0 y1 y2 y3 y4 y5 y6 y7; revert b x0 x1 x2; decide
 ·have z4 := y4 O2; have z5 := y5 O2; have z6 := y6 O2; have z7 := y7 O2
  subst z4 z5 z6 z7; clear y0 y1 y2 y3 y4 y5 y6 y7; revert b x0 x1 x2 x3; decide
 ·have z5 := y5 O2; have z6 := y6 O2; have z7 := y7 O2
  subst z5 z6 z7; clear y0 y1 y2 y3 y4 y5 y6 y7; revert b x0 x1 x2 x3 x4; decide
 ·have z6 := y6 O2; have z7 := y7 O2
  subst z6 z7; clear y0 y1 y2 y3 y4 y5 y6 y7; revert b x0 x1 x2 x3 x4 x5; decide
 ·have z7 := y7 O2
  subst z7; clear y0 y1 y2 y3 y4 y5 y6 y7; revert b x0 x1 x2 x3 x4 x5 x6; decide
theorem lj (l : List Bool) (b : Bool) : pack (l ++ [b]) = (padz l).set (l.length / 8) (byteAt l (l.length / 8) ||| UInt8.ofNat (b.toNat * 2 ^ (7 - l.length % 8))) := by
 apply List.ext_getElem?
 intro i
 have hlen : ((l ++ [b]).length + 7) / 8 = l.length / 8 + 1 := by simp; omega
 unfold pack padz
 rw [hlen, Zp]
 simp only [Wp, Ve, Zc]
 by_cases h1 : l.length / 8 = i
 ·subst h1
  simp [byteAt_at]
 ·rw [if_neg h1]
  by_cases h2 : i < l.length / 8 + 1
  ·rw [Ze h2]
   simp [byteAt_lt (l := l) (b := b) (show i < l.length / 8 by omega)]
  ·rw [Vk O6]; rfl
theorem qji (l : List Bool) : (padz l)[l.length / 8]? = some (byteAt l (l.length / 8)) := by simp [padz]
theorem lg {l : List Bool} (h : l.length % 8 = 0) : padz l = pack l ++ [0] := by
 unfold padz pack
 have e : (l.length + 7) / 8 = l.length / 8 := by omega
 rw [e, List.range_succ, Wd]
 congr 1
 simp only [Ux, List.map_nil, List.cons.injEq, and_true]
 unfold byteAt
 rw [getD_ge O0, getD_ge O0, getD_ge O0, getD_ge O0, getD_ge O0, getD_ge O0, getD_ge O0, getD_ge O0]
 rfl
theorem qqj {l : List Bool} (h : l.length % 8 ≠ 0) : padz l = pack l := by
 unfold padz pack
 congr 2
 omega
def bitsOf (v : Nat) : Nat -> List Bool
 | 0 => []
 | n + 1 => v.testBit n :: bitsOf v n
theorem bitsOf_len (v : Nat) : ∀ n, (bitsOf v n).length = n
 | 0 => rfl
 | n + 1 => by simp [bitsOf, bitsOf_len v n]
def heldN (n : Int) : Nat := (min (max n 0) 64).toNat
end
section
def numA (a : Nat) : List Bool -> Nat
 | [] => a
 | b :: l => numA (2 * a + b.toNat) l
def num (l : List Bool) : Nat := numA 0 l
theorem numA_eq : ∀ (l : List Bool) (a : Nat), numA a l = a * 2 ^ l.length + num l
 | [], a => by simp [numA, num]
 | b :: l, a => by
  have h1 := numA_eq l (2 * a + b.toNat)
  have h2 := numA_eq l (2 * 0 + b.toNat)
  unfold num
  rw [numA, numA, h1, h2, Ui, Nat.pow_succ, Nat.mul_zero, Uz, Vi, Wh (2 ^ l.length) 2, <- Nat.mul_assoc, Wh a 2]
  omega
theorem numA_snoc : ∀ (l : List Bool) (a : Nat) (b : Bool), numA a (l ++ [b]) = 2 * numA a l + b.toNat
 | [], a, b => rfl
 | c :: l, a, b => by rw [We, numA, numA, numA_snoc l]
theorem qqg (l : List Bool) (b : Bool) : num (l ++ [b]) = 2 * num l + b.toNat := numA_snoc l 0 b
theorem fp : ∀ (l : List Bool), num l < 2 ^ l.length
 | [] => by simp [num, numA]
 | b :: l => by
  have h1 := fp l
  have h2 : num (b :: l) = b.toNat * 2 ^ l.length + num l := by
   have := numA_eq l (2 * 0 + b.toNat)
   simpa [num, numA] using this
  rw [h2, Ui, Nat.pow_succ]
  cases b <;> simp <;> omega
theorem w9 (v : Nat) : ∀ n, num (bitsOf v n) = v % 2 ^ n
 | 0 => by simp [bitsOf, num, numA, Nat.mod_one]
 | n + 1 => by
  have h2 : num (bitsOf v (n + 1)) = (v.testBit n).toNat * 2 ^ n + num (bitsOf v n) := by
   have := numA_eq (bitsOf v n) (2 * 0 + (v.testBit n).toNat)
   rw [bitsOf_len] at this
   simpa [num, numA, bitsOf] using this
  rw [h2, w9 v n, Nat.toNat_testBit, Nat.mod_pow_succ, Wh, Wt]
def bitsB (bs : List UInt8) : List Bool := bs.flatMap fun b => bitsOf b.toNat 8
theorem bitsB_len (bs : List UInt8) : (bitsB bs).length = 8 * bs.length := by
 induction bs with
 | nil => rfl
 | cons b bs ih =>
  show (bitsOf b.toNat 8 ++ bitsB bs).length = _
  rw [Ua, bitsOf_len, ih, Ui]; omega
theorem bitsOf_get (v : Nat) : ∀ (n j : Nat), j < n -> (bitsOf v n)[j]? = some (v.testBit (n - 1 - j))
 | n + 1, 0, _ => by simp [bitsOf]
 | n + 1, j + 1, h => by
  rw [bitsOf, Zh, bitsOf_get v n j O0]
  congr 2
  omega
theorem bitsB_get : ∀ (bs : List UInt8) (k : Nat) (b : UInt8), bs[k / 8]? = some b -> (bitsB bs)[k]? = some (b.toNat.testBit (7 - k % 8))
 | [], k, b, h => by simp at h
 | c :: bs, k, b, h => by
  show (bitsOf c.toNat 8 ++ bitsB bs)[k]? = _
  by_cases hk : k < 8
  ·rw [Wa (by rw [bitsOf_len]; exact hk), bitsOf_get _ _ _ hk]
   have h0 : k / 8 = 0 := by omega
   rw [h0] at h
   simp at h
   rw [h, Ul hk]
  ·rw [Xj (by rw [bitsOf_len]; omega), bitsOf_len]
   have h0 : k / 8 = (k - 8) / 8 + 1 := by omega
   rw [h0, Zh] at h
   rw [bitsB_get bs (k - 8) b h]
   congr 3
   omega
theorem mk8_bits : ∀ (b0 b1 b2 b3 b4 b5 b6 b7 : Bool), bitsOf (mk8 b0 b1 b2 b3 b4 b5 b6 b7).toNat 8 = [b0, b1, b2, b3, b4, b5, b6, b7] := by decide
theorem byteAt_bit (l : List Bool) (k j : Nat) (hj : j < 8) : (byteAt l k).toNat.testBit (7 - j) = l.getD (8 * k + j) false := by
 have h := bitsOf_get (byteAt l k).toNat 8 j hj
 unfold byteAt at h ⊢
 rw [mk8_bits] at h
 have h2 : 8 - 1 - j = 7 - j := by omega
 rw [h2] at h
 rcases (by omega : j = 0 ∨ j = 1 ∨ j = 2 ∨ j = 3 ∨ j = 4 ∨ j = 5 ∨ j = 6 ∨ j = 7) with rfl | rfl | rfl | rfl | rfl | rfl | rfl | rfl <;> simpa using h.symm
theorem bitsB_pack (l : List Bool) : bitsB (pack l) = l ++ List.replicate (8 * ((l.length + 7) / 8) - l.length) false := by
 apply List.ext_getElem?
 intro k
 by_cases hk : k < 8 * ((l.length + 7) / 8)
 ·have h1 : (pack l)[k / 8]? = some (byteAt l (k / 8)) := by unfold pack; rw [Wp, Ze O0]; rfl
  rw [bitsB_get _ _ _ h1, byteAt_bit _ _ _ (Vr _ O2), Nat.div_add_mod]
  by_cases h2 : k < l.length
  ·rw [Wa h2]
   simp [List.getD, Uc h2]
  ·rw [Xj O0, getD_ge O0]
   rw [List.getElem?_replicate, if_pos O0]
 ·rw [Vk (by rw [bitsB_len, j6]; omega), Vk (by rw [Ua, Xx]; omega)]
structure RS where
 rest : List Bool
 bad : Bool
def RS.get (s : RS) (n : Nat) : Nat × RS := if s.bad = true ∨ s.rest.length < n then (0, ⟨s.rest, true⟩) else (num (s.rest.take n), ⟨s.rest.drop n, false⟩)
theorem RS.get_put (v n : Nat) (r : List Bool) : RS.get ⟨bitsOf v n ++ r, false⟩ n = (v % 2 ^ n, ⟨r, false⟩) := by
 unfold RS.get
 rw [if_neg (by rw [Ua, bitsOf_len]; simp)]
 simp [Wv, bitsOf_len, Zi, w9]
theorem RS.get_len (s : RS) (n : Nat) : (s.get n).2.rest.length <= s.rest.length := by
 unfold RS.get; split
 ·exact Ug _
 ·simp
theorem RS.get_lt (s : RS) (n : Nat) : (s.get n).1 < 2 ^ n := by
 unfold RS.get; split
 ·exact Wj n
 ·have h := fp (s.rest.take n)
  refine Xp h (Vg O2 O6)
def vputF : Nat -> Nat -> List UInt8
 | 0, u => [UInt8.ofNat u]
 | k + 1, u => if u < 128 then [UInt8.ofNat u] else UInt8.ofNat (u % 128 + 128) :: vputF k (u / 128)
def vput (u : Nat) : List UInt8 := vputF 9 u
def vgetA : List UInt8 -> Nat -> Nat -> Nat × Nat
 | [], _, _ => (0, 0)
 | c :: r, i, u => if i = 10 ∨ (i = 9 ∧ 1 < c.toNat) ∨ (0 < i ∧ c.toNat = 0) then (0, 0) else if c.toNat < 128 then (u + c.toNat * 2 ^ (7 * i), i + 1) else vgetA r (i + 1) (u + c.toNat % 128 * 2 ^ (7 * i))
def vget (l : List UInt8) : Nat × Nat := vgetA l 0 0
theorem vputF_fuel : ∀ (k m u : Nat), u < 128 ^ (k + 1) -> k <= m -> vputF m u = vputF k u
 | 0, 0, u, _, _ => rfl
 | 0, m + 1, u, h, _ => by rw [show vputF (m + 1) u = if u < 128 then [UInt8.ofNat u] else UInt8.ofNat (u % 128 + 128) :: vputF m (u / 128) from rfl, if_pos O15]; rfl
 | k + 1, 0, u, _, h => by omega
 | k + 1, m + 1, u, h, hm => by
  rw [vputF, vputF]
  split
  ·rfl
  ·rw [vputF_fuel k m (u / 128) (by rw [Nat.pow_succ] at h; omega) O0]
theorem ig {u : Nat} (h : u < 128) : vput u = [UInt8.ofNat u] := by unfold vput; rw [vputF, if_pos h]
theorem iy {u : Nat} (h : ¬ u < 128) (hu : u < 18446744073709551616) : vput u = UInt8.ofNat (u % 128 + 128) :: vput (u / 128) := by
 unfold vput
 rw [vputF, if_neg h, vputF_fuel 8 9 (u / 128) (by rw [show (128 : Nat) ^ (8 + 1) = 9223372036854775808 by decide]; omega) O2]
theorem vputF_len : ∀ (k u : Nat), (vputF k u).length <= k + 1 ∧ 0 < (vputF k u).length
 | 0, u => by simp [vputF]
 | k + 1, u => by
  rw [vputF]; split
  ·simp
  ·have := vputF_len k (u / 128); simp; omega
theorem jd (u : Nat) : (vput u).length <= 10 ∧ 0 < (vput u).length := vputF_len 9 u
theorem vgetA_vput (r : List UInt8) : ∀ (v i u : Nat), v * 2 ^ (7 * i) < 18446744073709551616 -> (i = 0 ∨ 0 < v) -> vgetA (vput v ++ r) i u = (u + v * 2 ^ (7 * i), i + (vput v).length) := by
 intro v
 induction v using Nat.strongRecOn with
 | ind v ih =>
  intro i u h h0
  have hv64 : v < 18446744073709551616 := Xb (Nat.le_mul_of_pos_right _ (Wj _)) h
  have hi : i <= 9 := by
   rcases Xt i 10 with hi | hi
   ·omega
   ·exfalso
    have h1 : 2 ^ (7 * 10) <= 2 ^ (7 * i) := Vg O2 O0
    have h2 : 1 * 2 ^ (7 * i) <= v * 2 ^ (7 * i) := Ut _ O0
    have h3 : (2 : Nat) ^ (7 * 10) = 1180591620717411303424 := by decide
    omega
  by_cases hv : v < 128
  ·rw [ig hv]
   have hc : (UInt8.ofNat v).toNat = v := by rw [UInt8.toNat_ofNat', Ul O0]
   show vgetA (UInt8.ofNat v :: r) i u = _
   rw [vgetA, hc, if_neg, if_pos hv]
   ·rfl
   ·rintro (h1 | ⟨h1, h2⟩ | ⟨h1, h2⟩)
    ·omega
    ·subst h1
     have : (2 : Nat) ^ (7 * 9) = 9223372036854775808 := by decide
     rw [this] at h
     omega
    ·omega
  ·rw [iy hv hv64]
   have hc : (UInt8.ofNat (v % 128 + 128)).toNat = v % 128 + 128 := by rw [UInt8.toNat_ofNat', Ul O0]
   have hi8 : i <= 8 := by
    rcases Xt i 9 with hi | hi
    ·omega
    ·exfalso
     obtain rfl : i = 9 := by omega
     have : (2 : Nat) ^ (7 * 9) = 9223372036854775808 := by decide
     rw [this] at h
     omega
   have hp : (2 : Nat) ^ (7 * (i + 1)) = 128 * 2 ^ (7 * i) := by rw [Nat.mul_add, Xu, Wh]
   have hdm : v = 128 * (v / 128) + v % 128 := (Nat.div_add_mod v 128).symm
   show vgetA (UInt8.ofNat (v % 128 + 128) :: (vput (v / 128) ++ r)) i u = _
   rw [vgetA, hc, if_neg O0, if_neg O0, ih (v / 128) O0 (i + 1) _ ?_ O0]
   ·rw [Ui]
    refine Prod.ext ?_ O21
    dsimp only
    rw [show (v % 128 + 128) % 128 = v % 128 by omega, hp, Kf]
    congr 1
    have e : v / 128 * (128 * 2 ^ (7 * i)) = 128 * (v / 128) * 2 ^ (7 * i) := by rw [Wh 128 (v / 128), Nat.mul_assoc]
    rw [e, <- Vi, Wt, <- hdm]
   ·rw [hp]
    have e : v / 128 * (128 * 2 ^ (7 * i)) = 128 * (v / 128) * 2 ^ (7 * i) := by rw [Wh 128 (v / 128), Nat.mul_assoc]
    rw [e]
    refine Xb (Ut _ O0) h
theorem vv {v : Nat} (h : v < 18446744073709551616) (r : List UInt8) : vget (vput v ++ r) = (v, (vput v).length) := by
 have := vgetA_vput r v 0 0 O15 (.inl rfl)
 simpa [vget] using this
theorem vgetA_le : ∀ (l : List UInt8) (i u : Nat), i <= 10 -> (vgetA l i u).2 = 0 ∨ (i < (vgetA l i u).2 ∧ (vgetA l i u).2 <= i + l.length ∧ (vgetA l i u).2 <= 10)
 | [], i, u, _ => .inl rfl
 | c :: r, i, u, hi => by
  rw [vgetA]
  split
  ·exact .inl rfl
  ·rename_i h
   have h9 : i <= 9 := by omega
   split
   ·exact .inr ⟨Wk i, by rw [Ui]; omega, O_d⟩
   ·rcases vgetA_le r (i + 1) (u + c.toNat % 128 * 2 ^ (7 * i)) O0 with h1 | ⟨h1, h2, h3⟩
    ·exact .inl h1
    ·exact .inr ⟨O_o, by rw [Ui]; omega, h3⟩
theorem iz (l : List UInt8) : (vget l).2 <= l.length := by
 rcases vgetA_le l 0 0 O2 with h | ⟨_, h, _⟩
 ·unfold vget; omega
 ·unfold vget; omega
theorem vgetA_lt : ∀ (l : List UInt8) (i u : Nat), u < 2 ^ (7 * i) -> i <= 10 -> (vgetA l i u).1 < 18446744073709551616
 | [], i, u, _, _ => (by decide : (0 : Nat) < 18446744073709551616)
 | c :: r, i, u, hu, hi => by
  rw [vgetA]
  split
  ·exact (by decide : (0 : Nat) < 18446744073709551616)
  ·rename_i h
   have hp : (2 : Nat) ^ (7 * (i + 1)) = 128 * 2 ^ (7 * i) := by rw [Nat.mul_add, Xu, Wh]
   have hc := c.toNat_lt
   split
   ·rename_i h1
    dsimp only
    have h9 : i <= 9 := by omega
    rcases Xt i 9 with h2 | h2
    ·have h3 : (2 : Nat) ^ (7 * i) <= 2 ^ 56 := Vg O2 O0
     have h4 : c.toNat * 2 ^ (7 * i) <= 127 * 2 ^ 56 := Zt O0 h3
     omega
    ·obtain rfl : i = 9 := by omega
     have h3 : c.toNat <= 1 := by omega
     have h4 : c.toNat * 2 ^ (7 * 9) <= 1 * 2 ^ (7 * 9) := Ut _ h3
     have h5 : (2 : Nat) ^ (7 * 9) = 9223372036854775808 := by decide
     omega
   ·refine vgetA_lt r (i + 1) _ ?_ O0
    rw [hp]
    have h4 : c.toNat % 128 * 2 ^ (7 * i) <= 127 * 2 ^ (7 * i) := Ut _ O0
    omega
theorem iw (l : List UInt8) : (vget l).1 < 18446744073709551616 := vgetA_lt l 0 0 O2 O2
def us (t : Int) : Nat := (t % 18446744073709551616).toNat
def sg (u : Nat) : Int := if u < 9223372036854775808 then u else (u : Int) - 18446744073709551616
def I64 (t : Int) : Prop := -9223372036854775808 <= t ∧ t < 9223372036854775808
theorem kl (t : Int) : us t < 18446744073709551616 := by unfold us; omega
theorem qqv {t : Int} (h : I64 t) : sg (us t) = t := by obtain ⟨h1, h2⟩ := h; unfold sg us; split <;> omega
theorem us_sg {u : Nat} (h : u < 18446744073709551616) : us (sg u) = u := by unfold sg us; split <;> omega
theorem sg_wf {u : Nat} (h : u < 18446744073709551616) : I64 (sg u) := by unfold sg I64; split <;> omega
theorem kb (t : Int) : IntKind.u64.wrap t = (us t : Int) := by
 unfold IntKind.wrap us
 simp [IntKind.signed, IntKind.bits]
 omega
theorem ym {u : Nat} (h : u < 18446744073709551616) : IntKind.i64.wrap (u : Int) = sg u := by
 unfold IntKind.wrap sg
 simp [IntKind.signed, IntKind.bits]
 omega
structure Frm where
 ahead : Nat
 long : Nat
 bits : Nat
def which (d : Int) : Frm := if d = 0 then ⟨0, 1, 0⟩ else if -64 <= d ∧ d <= 63 then ⟨2, 2, 7⟩ else if -256 <= d ∧ d <= 255 then ⟨6, 3, 9⟩ else if -2048 <= d ∧ d <= 2047 then ⟨14, 4, 12⟩ else ⟨15, 4, 64⟩
abbrev diff (a b : Nat) : Nat := (a + 18446744073709551616 - b) % 18446744073709551616
abbrev summ (a b : Nat) : Nat := (a + b) % 18446744073709551616
def timesRest (was step : Nat) : List Int -> List Bool
 | [] => []
 | t :: r => bitsOf (which (sg (diff (diff (us t) was) step))).ahead (which (sg (diff (diff (us t) was) step))).long ++ (bitsOf (diff (diff (us t) was) step) (which (sg (diff (diff (us t) was) step))).bits ++ timesRest (us t) (diff (us t) was) r)
def timesBits : List Int -> List Bool
 | [] => []
 | t :: r => bitsOf (us t) 64 ++ timesRest (us t) 0 r
def aheadR : Nat -> RS -> Nat × RS
 | 0, s => (0, s)
 | k + 1, s => if (s.get 1).1 = 1 then ((aheadR k (s.get 1).2).1 + 1, (aheadR k (s.get 1).2).2) else (0, (s.get 1).2)
theorem aheadR_le : ∀ (k : Nat) (s : RS), (aheadR k s).1 <= k
 | 0, s => Ug _
 | k + 1, s => by
  rw [aheadR]; split
  ·have := aheadR_le k (s.get 1).2; dsimp only; omega
  ·exact Ud _
def longs (k : Nat) : Nat := [0, 7, 9, 12, 64].getD k 0
def sext (g long : Nat) : Int := if long = 0 then 0 else if g < 2 ^ (long - 1) then g else (g : Int) - 2 ^ long
def nextT (s : RS) : Int × RS := (sext ((aheadR 4 s).2.get (longs (aheadR 4 s).1)).1 (longs (aheadR 4 s).1), ((aheadR 4 s).2.get (longs (aheadR 4 s).1)).2)
def nextOk (s : RS) : Bool := decide ((which (nextT s).1).bits = longs (aheadR 4 s).1)
def timesDecA : Nat -> Nat -> Nat -> RS -> Option (List Int × RS)
 | 0, _, _, s => some ([], s)
 | k + 1, was, step, s => if nextOk s = true ∧ (nextT s).2.bad = false then (timesDecA k (summ was (summ step (us (nextT s).1))) (summ step (us (nextT s).1)) (nextT s).2).map fun r => (sg (summ was (summ step (us (nextT s).1))) :: r.1, r.2) else none
def timesDec (n : Nat) (s : RS) : Option (List Int × RS) := match n with
 | 0 => if s.bad then none else some ([], s)
 | k + 1 => if (s.get 64).2.bad then none else (timesDecA k (s.get 64).1 0 (s.get 64).2).map fun r => (sg (s.get 64).1 :: r.1, r.2)
theorem je (b : Bool) (r : List Bool) : RS.get ⟨b :: r, false⟩ 1 = (b.toNat, ⟨r, false⟩) := by
 cases b <;> simp [RS.get, num, numA]
theorem xe (d : Int) : (which d = ⟨0, 1, 0⟩ ∧ d = 0) ∨ (which d = ⟨2, 2, 7⟩ ∧ -64 <= d ∧ d <= 63 ∧ d ≠ 0) ∨ (which d = ⟨6, 3, 9⟩ ∧ -256 <= d ∧ d <= 255) ∨ (which d = ⟨14, 4, 12⟩ ∧ -2048 <= d ∧ d <= 2047) ∨ which d = ⟨15, 4, 64⟩ := by
 unfold which
 split
 ·exact .inl ⟨rfl, ‹_›⟩
 ·split
  ·exact .inr (.inl ⟨rfl, O_o, O_o, O_o⟩)
  ·split
   ·exact .inr (.inr (.inl ⟨rfl, O_o, O_o⟩))
   ·split
    ·exact .inr (.inr (.inr (.inl ⟨rfl, O_o, O_o⟩)))
    ·exact .inr (.inr (.inr (.inr rfl)))
theorem nextT_told {d : Nat} (hd : d < 18446744073709551616) (r : List Bool) : nextT ⟨bitsOf (which (sg d)).ahead (which (sg d)).long ++ (bitsOf d (which (sg d)).bits ++ r), false⟩ = (sg d, ⟨r, false⟩) ∧ nextOk ⟨bitsOf (which (sg d)).ahead (which (sg d)).long ++ (bitsOf d (which (sg d)).bits ++ r), false⟩ = true := by
 have fin : ∀ (s : RS) (k : Nat) (n : Nat), aheadR 4 s = (k, ⟨bitsOf d n ++ r, false⟩) -> longs k = n -> (which (sg d)).bits = n -> sext (d % 2 ^ n) n = sg d -> nextT s = (sg d, ⟨r, false⟩) ∧ nextOk s = true := by
  intro s k n h1 h2 h3 h4
  have hT : nextT s = (sg d, ⟨r, false⟩) := by
   unfold nextT
   rw [h1]
   dsimp only
   rw [h2, RS.get_put, h4]
  refine ⟨hT, ?_⟩
  unfold nextOk
  rw [hT, h1]
  dsimp only
  rw [h2, h3]
  simp
 rcases xe (sg d) with ⟨hw, h1⟩ | ⟨hw, h1, h2, h3⟩ | ⟨hw, h1, h2⟩ | ⟨hw, h1, h2⟩ | hw
 ·rw [hw]
  refine fin _ 0 0 ?_ rfl (by rw [hw]) (by rw [h1]; rfl)
  show aheadR 4 ⟨false :: _, false⟩ = _
  rw [aheadR, je]; rfl
 ·rw [hw]
  refine fin _ 1 7 ?_ rfl (by rw [hw]) ?_
  ·show aheadR 4 ⟨true :: false :: _, false⟩ = _
   rw [aheadR, je, aheadR, je]; rfl
  ·unfold sext sg at *
   simp only [Nat.reducePow, Nat.reduceSub, Int.reducePow, Nat.reduceEqDiff, if_false, reduceIte] at *
   split at h1 <;> split <;> omega
 ·rw [hw]
  refine fin _ 2 9 ?_ rfl (by rw [hw]) ?_
  ·show aheadR 4 ⟨true :: true :: false :: _, false⟩ = _
   rw [aheadR, je, aheadR, je, aheadR, je]; rfl
  ·unfold sext sg at *
   simp only [Nat.reducePow, Nat.reduceSub, Int.reducePow, Nat.reduceEqDiff, if_false, reduceIte] at *
   split at h1 <;> split <;> omega
 ·rw [hw]
  refine fin _ 3 12 ?_ rfl (by rw [hw]) ?_
  ·show aheadR 4 ⟨true :: true :: true :: false :: _, false⟩ = _
   rw [aheadR, je, aheadR, je, aheadR, je, aheadR, je]; rfl
  ·unfold sext sg at *
   simp only [Nat.reducePow, Nat.reduceSub, Int.reducePow, Nat.reduceEqDiff, if_false, reduceIte] at *
   split at h1 <;> split <;> omega
 ·rw [hw]
  refine fin _ 4 64 ?_ rfl (by rw [hw]) ?_
  ·show aheadR 4 ⟨true :: true :: true :: true :: _, false⟩ = _
   rw [aheadR, je, aheadR, je, aheadR, je, aheadR, je]; rfl
  ·unfold sext sg at *
   simp only [Nat.reducePow, Nat.reduceSub, Int.reducePow, Nat.reduceEqDiff, if_false, reduceIte] at *
   rw [Ul hd]
theorem timesDecA_told (r : List Bool) : ∀ (ts : List Int) (was step : Nat), was < 18446744073709551616 -> step < 18446744073709551616 -> (∀ t ∈ ts, I64 t) -> timesDecA ts.length was step ⟨timesRest was step ts ++ r, false⟩ = some (ts, ⟨r, false⟩)
 | [], _, _, _, _, _ => rfl
 | t :: ts, was, step, hw, hs, hi => by
  have ht := kl t
  have hti := hi t (Ub ..)
  have hd : diff (diff (us t) was) step < 18446744073709551616 := Vr _ O2
  obtain ⟨h1, h2⟩ := nextT_told hd (timesRest (us t) (diff (us t) was) ts ++ r)
  have ih := timesDecA_told r ts (us t) (diff (us t) was) ht (Vr _ O2) fun x hx => hi x (Ue _ hx)
  rw [timesRest, Um, Um, Ui, timesDecA, h2, h1]
  have e1 : summ step (us (sg (diff (diff (us t) was) step))) = diff (us t) was := by rw [us_sg hd]; unfold summ diff; omega
  have e2 : summ was (diff (us t) was) = us t := by unfold summ diff; omega
  dsimp only
  rw [e1, e2, ih, qqv hti]
  rfl
theorem timesDec_told (ts : List Int) (hi : ∀ t ∈ ts, I64 t) (r : List Bool) : timesDec ts.length ⟨timesBits ts ++ r, false⟩ = some (ts, ⟨r, false⟩) := by
 cases ts with
 | nil => rfl
 | cons t ts =>
  have ht := kl t
  show timesDec (ts.length + 1) ⟨(bitsOf (us t) 64 ++ timesRest (us t) 0 ts) ++ r, false⟩ = _
  rw [Um, timesDec, RS.get_put, Ul (show us t < 2 ^ 64 from ht)]
  dsimp only
  rw [timesDecA_told r ts (us t) 0 ht O2 fun x hx => hi x (Ue _ hx), qqv (hi t (Ub ..))]
  rfl
theorem timesDecA_len : ∀ (k was step : Nat) (s : RS) (x : List Int × RS), timesDecA k was step s = some x -> x.1.length = k
 | 0, _, _, _, x, h => by cases h; rfl
 | k + 1, was, step, s, x, h => by
  rw [timesDecA] at h
  split at h
  ·obtain ⟨y, h1, rfl⟩ := Va.1 h
   simp [timesDecA_len k _ _ _ y h1]
  ·cases h
theorem timesDec_len {n : Nat} {s : RS} {x : List Int × RS} (h : timesDec n s = some x) : x.1.length = n := by
 cases n with
 | zero => unfold timesDec at h; dsimp only at h; split at h <;> cases h; rfl
 | succ k =>
  unfold timesDec at h; dsimp only at h; split at h
  ·cases h
  ·obtain ⟨y, h1, rfl⟩ := Va.1 h
   simp [timesDecA_len k _ _ _ y h1]
end
section
abbrev u64V (l : List Nat) : List Value := l.map fun v : Nat => Value.int .u64 (v : Int)
abbrev i64V (l : List Int) : List Value := l.map fun v => .iz v
theorem u64V_one (l : List Nat) : ∀ u ∈ u64V l, u.oneCell' = true := by
 intro u hu
 obtain ⟨v, _, rfl⟩ := Vb.1 hu
 rfl
theorem i64V_one (l : List Int) : ∀ u ∈ i64V l, u.oneCell' = true := by
 intro u hu
 obtain ⟨v, _, rfl⟩ := Vb.1 hu
 rfl
theorem u64V_get {l : List Nat} {j v : Nat} (h : l[j]? = some v) : (u64V l)[j]? = some (.int .u64 (v : Int)) := by simp [u64V, h]
theorem i64V_get {l : List Int} {j : Nat} {v : Int} (h : l[j]? = some v) : (i64V l)[j]? = some (.iz v) := by simp [i64V, h]
theorem ofInt_us (a : Int) : (BitVec.ofInt 64 a).toNat = us a := by
 rw [BitVec.toNat_ofInt]; rfl
theorem qjl (a b : Int) : bitOp .and .i64 a b = sg (us a &&& us b) ∧ bitOp .or .i64 a b = sg (us a ||| us b) ∧ bitOp .xor .i64 a b = sg (us a ^^^ us b) := by
 have e : IntKind.i64.bits = 64 := rfl
 refine ⟨?_, ?_, ?_⟩ <;> unfold bitOp <;> simp only [e, BitVec.toNat_and, BitVec.toNat_or, BitVec.toNat_xor, ofInt_us]
 ·exact ym (Ki (n := 64) _ (kl b))
 ·exact ym (Nat.or_lt_two_pow (n := 64) (kl a) (kl b))
 ·exact ym (Wr (n := 64) (kl a) (kl b))
theorem pz {x : Nat} (h : x < 18446744073709551616) : x ^^^ 18446744073709551615 = 18446744073709551615 - x := by
 have h1 : (BitVec.ofNat 64 x ^^^ BitVec.allOnes 64).toNat = x ^^^ 18446744073709551615 := by
  rw [BitVec.toNat_xor, BitVec.toNat_ofNat, Ul h, BitVec.toNat_allOnes]
 rw [<- h1, BitVec.xor_allOnes, BitVec.toNat_not, BitVec.toNat_ofNat, Ul h]
theorem px {a b i : Nat} (h : a < 2 ^ i) : a ||| b * 2 ^ i = a + b * 2 ^ i := by
 have := Nat.two_pow_add_eq_or_of_lt h b
 rw [Nat.or_comm, Wh, <- this, Wt]
theorem qje (a k : Nat) : a &&& (2 ^ k - 1) = a % 2 ^ k := Nat.and_two_pow_sub_one_eq_mod a k
end
section
theorem r_int {P : Program} {n : Nat} {ops : Array Oper} {Q : Post} {rest : List Oper} {e : Env} {w : World} {c : Nat} {k : IntKind} {b : Int} (h : ∀ b' : Int, b' = b -> Rn P n ops Q rest (upd e c (.int k b')) w) : Rn P n ops Q rest (upd e c (.int k b)) w := h b rfl
section
variable {P : Program} {e : Env} {w : World} {d : Option Nat} {ty : TypeId} {pos : String} {af : Array Edge} {g : Option (Nat × Bool)}
theorem qja {t ft o f : Nat} {fields : Array Field} {z : List Value} {bytes : Nat} [hi : Inf P ft z false bytes] {x : Operand} {vs : List Value} {v : Value}
  (hu : P.underlying t = some (.struct fields)) (hf : (fields[f]?).map (fun fl => (fl.type, fl.offset)) = some (ft, o)) (hx : ev e x = .agg vs.toArray) (hv : vs[o]? = some v) : Qv P e ⟨d, .field t x f, ty, pos, af, g⟩ w v := by
 obtain ⟨fl, h1, h2⟩ := Va.1 hf
 simp only [Prod.mk.injEq] at h2
 obtain ⟨rfl, rfl⟩ := h2
 unfold Qv
 have h3 := hi.isAgg w
 simp [execOp, hx, Instr.field, run_underlying hu, h1, part, h3, asAgg, hv]
end
end
section
def adv (a : Option Addr) (off : Nat) (same : Bool) : Option Addr := bif same then a else a.map fun x => x.add off
section
variable {P : Program} {e : Env} {w : World} {d : Option Nat} {ty : TypeId} {pos : String} {af : Array Edge} {g : Option (Nat × Bool)}
theorem gl {t T : TypeId} [ht : Und P t (.slice T)] {z : List Value} {agg : Bool} {bytes : Nat} [hi : Inf P T z agg bytes] {x y : Operand} {a : Option Addr} {m c i : Nat} {k : IntKind}
  (hx : ev e x = .slice a m c) (hy : ev e y = .int k (i : Int)) (h : i <= m) : Qv P e ⟨d, .slice t x (some y) none none, ty, pos, af, g⟩ w (.slice (adv a (i * z.length) (Nat.beq c i)) (m - i) (c - i)) := by
 unfold Qv
 have hz := hi.sizeOf w
 have e2 : (Instr.sliceBound (.int k (i : Int)) m .sliceB).run P w = .ok i w := by
  simp [Instr.sliceBound, asIntOf, h]
 have e3 : (Instr.sliceBounds true m c (some (.int k (i : Int))) none none).run P w = .ok (i, m, c) w := by
  simp [Instr.sliceBounds, e2]
 have key : (Instr.sliceAt t (.slice a m c) (some (.int k (i : Int))) none none).run P w = .ok (.slice (adv a (i * z.length) (Nat.beq c i)) (m - i) (c - i)) w := by
  simp [Instr.sliceAt, Instr.slice, run_underlying ht.h, e3, hz, adv]
 simp only [execOp, hx, hy, Kg, Xa, Sem.run_bind, key, Result.andThen_ok]; rfl
theorem q_cut {t T : TypeId} [ht : Und P t (.slice T)] {z : List Value} {agg : Bool} {bytes : Nat} [hi : Inf P T z agg bytes] {x y y' : Operand} {a : Option Addr} {m c i j : Nat} {k k' : IntKind}
  (hx : ev e x = .slice a m c) (hy : ev e y = .int k (i : Int)) (hy' : ev e y' = .int k' (j : Int)) (h : i <= j) (hj : j <= c) : Qv P e ⟨d, .slice t x (some y) (some y') none, ty, pos, af, g⟩ w (.slice (adv a (i * z.length) (Nat.beq c i)) (j - i) (c - i)) := by
 unfold Qv
 have hz := hi.sizeOf w
 have e1 : (Instr.sliceBound (.int k' (j : Int)) c .sliceAcap).run P w = .ok j w := by
  simp [Instr.sliceBound, asIntOf, hj]
 have e2 : (Instr.sliceBound (.int k (i : Int)) j .sliceB).run P w = .ok i w := by
  simp [Instr.sliceBound, asIntOf, h]
 have e3 : (Instr.sliceBounds true m c (some (.int k (i : Int))) (some (.int k' (j : Int))) none).run P w = .ok (i, j, c) w := by
  simp [Instr.sliceBounds, e1, e2]
 have key : (Instr.sliceAt t (.slice a m c) (some (.int k (i : Int))) (some (.int k' (j : Int))) none).run P w = .ok (.slice (adv a (i * z.length) (Nat.beq c i)) (j - i) (c - i)) w := by
  simp [Instr.sliceAt, Instr.slice, run_underlying ht.h, e3, hz, adv]
 simp only [execOp, hx, hy, hy', Kg, Xa, Sem.run_bind, key, Result.andThen_ok]; rfl
end
section
variable {w0 w : World} {l : List HProp} {sz n c : Nat} {a : Option Addr} {xs : List Value}
theorem Rd.cut (h : Rd w sz a n xs) {i j : Nat} (hij : i <= j) (hj : j <= n) (hc : n <= c) : Rd w sz (adv a (i * sz) (Nat.beq c i)) (j - i) ((xs.drop (i * sz)).take ((j - i) * sz)) := by
 have hl := h.1
 refine ⟨?_, ?_⟩
 ·rw [Us, Uq, hl, <- Nat.sub_mul]
  exact Vs (Ut _ O0)
 ·rcases Wq (j - i) with h0 | h0
  ·exact .inl h0
  ·rcases h.2 with h1 | ⟨b, o, rfl, hat⟩
   ·omega
   ·have hb : Nat.beq c i = false := by
     cases hb : Nat.beq c i with
     | false => rfl
     | true => have := Vh hb; omega
    refine .inr ⟨b, o + i * sz, by rw [hb]; simp [adv, Addr.add], fun k v hk => ?_⟩
    rw [Kh] at hk
    split at hk
    ·rw [List.getElem?_drop] at hk
     have := hat _ v hk
     rwa [<- Kf] at this
    ·cases hk
theorem Rd.tail (h : Rd w sz a n xs) {i : Nat} (hi : i <= n) (hc : n <= c) : Rd w sz (adv a (i * sz) (Nat.beq c i)) (n - i) (xs.drop (i * sz)) := by
 have := h.cut hi (Ug _) hc
 rwa [Uv (by rw [Uq, h.1, <- Nat.sub_mul]; exact Ug _)] at this
theorem St.drops : ∀ {L : List HProp} {l : List HProp}, St w0 (L ++ l) w -> St w0 l w
 | [], _, h => h
 | _ :: L, _, h => St.drops (L := L) h.drop
def Reads (w0 : World) (l : List HProp) (sz : Nat) (a : Option Addr) (n : Nat) (xs : List Value) : Prop := ∀ L w', St w0 (L ++ l) w' -> Rd w' sz a n xs
theorem Reads.rd (h : Reads w0 l sz a n xs) : ∀ w', St w0 l w' -> Rd w' sz a n xs := fun w' h' => h [] w' h'
theorem Reads.at_ (h : Reads w0 l sz a n xs) (h' : St w0 l w) : Rd w sz a n xs := h [] w h'
theorem Reads.more (h : Reads w0 l sz a n xs) (M : List HProp) : Reads w0 (M ++ l) sz a n xs := fun L w' h' => h (L ++ M) w' (by rw [Um]; exact h')
theorem Reads.cons (h : Reads w0 l sz a n xs) {Q : HProp} : Reads w0 (Q :: l) sz a n xs := h.more [Q]
theorem Reads.own {T : Nat} : Reads w0 (Own T sz a n c xs :: l) sz a n xs := fun _ _ h' => h'.drops.own_rd
theorem Reads.pt {b m : Nat} {cur : List Value} {T : TypeId} (hl : xs.length = n * sz) (hc : cur.take xs.length = xs) : Reads w0 (pt b (.cells cur.toArray T (0, 0)) :: l) sz (sQ b) n xs := fun _ _ h' =>
 ⟨hl, .inr ⟨b, 0, rfl, qw (h'.drops.b 0 rfl) (by rw [Wz, hc])⟩⟩
theorem Reads.nil : Reads w0 l sz none 0 [] := fun _ _ _ => ⟨by simp, .inl rfl⟩
theorem Reads.old (hr : Rd w0 sz a n xs) (hb : ∀ b o, a = some ⟨b, o, none⟩ -> 0 < n -> b < w0.heap.size) : Reads w0 l sz a n xs := fun _ _ h' => Rd.old h' hr hb
theorem Reads.cut (h : Reads w0 l sz a n xs) {i j : Nat} (hij : i <= j) (hj : j <= n) (hc : n <= c) : Reads w0 l sz (adv a (i * sz) (Nat.beq c i)) (j - i) ((xs.drop (i * sz)).take ((j - i) * sz)) := fun L w' h' => (h L w' h').cut hij hj hc
theorem Reads.tail (h : Reads w0 l sz a n xs) {i : Nat} (hi : i <= n) (hc : n <= c) : Reads w0 l sz (adv a (i * sz) (Nat.beq c i)) (n - i) (xs.drop (i * sz)) := fun L w' h' => (h L w' h').tail hi hc
theorem Reads.head (h : Reads w0 l sz a n xs) {i : Nat} (hi : i <= n) : Reads w0 l sz a i (xs.take (i * sz)) := fun L w' h' => by
 obtain ⟨h1, h2⟩ := h L w' h'
 refine ⟨by rw [Us, h1]; exact Vs (Ut _ hi), ?_⟩
 rcases h2 with h2 | ⟨b, o, rfl, hat⟩
 ·exact .inl O0
 ·refine .inr ⟨b, o, rfl, fun k v hk => ?_⟩
  rw [Kh] at hk
  split at hk
  ·exact hat _ v hk
  ·cases hk
theorem Reads.swap (h : Reads w0 l sz a n xs) {m : List HProp} (e : all m = all l) : Reads w0 m sz a n xs := fun L w' h' => h L w' (h'.of_all (by rw [kj, kj, e]))
end
end
end Go.Hw
namespace Go.Proofs.YtngdfdangkdgcaaGreatDoor
open Go.Hw _root_.Go.Proofs.Tryz
section
instance {P : Program} {kt : TypeId} {ik : IntKind} [h : Und P kt (.int ik)] : MK P kt Int (Value.int ik) := MK.int h.h
instance : Und prog 2 (.int .i64) := ⟨underlying2⟩
instance inf2 : Inf prog 2 [V0] false 8 := mF underlying2
instance : Und prog 3 (.int .i64) := ⟨underlying3⟩
instance inf3 : Inf prog 3 [V0] false 8 := mF underlying3
instance : Und prog 4 (.bool) := ⟨underlying4⟩
instance inf4 : Inf prog 4 [V2] false 1 := mF underlying4
instance : Und prog 5 (.int .u8) := ⟨underlying5⟩
instance inf5 : Inf prog 5 [V5] false 1 := mF underlying5
instance : Und prog 9 (.string) := ⟨underlying9⟩
instance inf9 : Inf prog 9 [V6] false 16 := mF underlying9
instance : Und prog 12 (.int .u64) := ⟨underlying12⟩
instance inf12 : Inf prog 12 [V4] false 8 := mF underlying12
instance inf13 : Inf prog 13 [V6, V4] true 24 := mT underlying13
instance : Und prog 21 (.int .i32) := ⟨underlying21⟩
instance inf21 : Inf prog 21 [Value.int .i32 0] false 4 := mF underlying21
instance : Und prog 22 (.pointer 79) := ⟨underlying22⟩
instance inf22 : Inf prog 22 [V3] false 8 := mF underlying22
instance : Und prog 25 (.int .i64) := ⟨underlying25⟩
instance inf25 : Inf prog 25 [V0] false 8 := mF underlying25
instance : Und prog 26 (.slice 57) := ⟨underlying26⟩
instance inf26 : Inf prog 26 [V1] false 24 := mF underlying26
instance inf27 : Inf prog 27 [V0, V0, V1] true 40 := mT underlying27
instance inf28 : Inf prog 28 [V0, V0, V1] true 40 := mT underlying28
instance : Und prog 31 (.int .u64) := ⟨underlying31⟩
instance inf31 : Inf prog 31 [V4] false 8 := mF underlying31
instance inf32 : Inf prog 32 [V0, V0, V0, V0, V4, V0, V0, V0] true 64 := mT underlying32
instance inf33 : Inf prog 33 [V0, V0, V0, V0, V4, V0, V0, V0] true 64 := mT underlying33
instance : Und prog 34 (.pointer 90) := ⟨underlying34⟩
instance inf34 : Inf prog 34 [V3] false 8 := mF underlying34
instance : Und prog 36 (.int .i64) := ⟨underlying36⟩
instance inf36 : Inf prog 36 [V0] false 8 := mF underlying36
instance : Und prog 39 (.pointer 96) := ⟨underlying39⟩
instance inf39 : Inf prog 39 [V3] false 8 := mF underlying39
instance : Und prog 43 (.pointer 100) := ⟨underlying43⟩
instance inf43 : Inf prog 43 [V3] false 8 := mF underlying43
instance : Und prog 47 (.pointer 110) := ⟨underlying47⟩
instance inf47 : Inf prog 47 [V3] false 8 := mF underlying47
instance inf50 : Inf prog 50 [V0, V0, V0] true 24 := mT underlying50
instance inf51 : Inf prog 51 [V0, V0, V0] true 24 := mT underlying51
instance : Und prog 54 (.slice 3) := ⟨underlying54⟩
instance inf54 : Inf prog 54 [V1] false 24 := mF underlying54
instance inf56 : Inf prog 56 [V0, V4] true 16 := mT underlying56
instance inf57 : Inf prog 57 [V0, V4] true 16 := mT underlying57
instance : Und prog 62 (.slice 31) := ⟨underlying62⟩
instance inf62 : Inf prog 62 [V1] false 24 := mF underlying62
instance : Und prog 65 (.slice 119) := ⟨underlying65⟩
instance inf65 : Inf prog 65 [V1] false 24 := mF underlying65
instance : Und prog 66 (.slice 124) := ⟨underlying66⟩
instance inf66 : Inf prog 66 [V1] false 24 := mF underlying66
instance : Und prog 69 (.int .u64) := ⟨underlying69⟩
instance inf69 : Inf prog 69 [V4] false 8 := mF underlying69
instance : Und prog 74 (.pointer 129) := ⟨underlying74⟩
instance inf74 : Inf prog 74 [V3] false 8 := mF underlying74
instance inf79 : Inf prog 79 [V3, V3, V3, V3] true 32 := mT underlying79
instance : Und prog 80 (.int .i64) := ⟨underlying80⟩
instance inf80 : Inf prog 80 [V0] false 8 := mF underlying80
instance inf82 : Inf prog 82 [V2, V0, V1] true 40 := mT underlying82
instance : Und prog 83 (.slice 168) := ⟨underlying83⟩
instance inf83 : Inf prog 83 [V1] false 24 := mF underlying83
instance inf84 : Inf prog 84 [V2, V2, V0, V0, V2, V0, V1, V1] true 88 := mT underlying84
instance inf85 : Inf prog 85 [V2, V2, V0, V0, V2, V0, V1, V1] true 88 := mT underlying85
instance inf87 : Inf prog 87 [V0, V0, V0, V0, V1, V1] true 80 := mT underlying87
instance : Und prog 88 (.pointer 187) := ⟨underlying88⟩
instance inf88 : Inf prog 88 [V3] false 8 := mF underlying88
instance inf90 : Inf prog 90 [V0, V0, V0, V0, V0, V4, V0, V0, V0, V0, V2, V2, V0, V0, V2, V0, V1, V1, V2, V2, V0, V0, V2, V0, V1, V1, V2, V2, V2, V0, V0, V0, V0, V1, V1, V0, V3, V0, V1, V0, V2, V0, V0, V1] true 448 := mT underlying90
instance : Und prog 93 (.slice 4) := ⟨underlying93⟩
instance inf93 : Inf prog 93 [V1] false 24 := mF underlying93
instance : Und prog 94 (.map 3 203) := ⟨underlying94⟩
instance inf94 : Inf prog 94 [Value.map none] false 8 := mF underlying94
instance inf95 : Inf prog 95 [V0, V0, V0, V0, Value.map none] true 40 := mT underlying95
instance inf96 : Inf prog 96 [V0, V0, V0, V0, Value.map none] true 40 := mT underlying96
instance : Und prog 98 (.map 3 178) := ⟨underlying98⟩
instance inf98 : Inf prog 98 [Value.map none] false 8 := mF underlying98
instance inf99 : Inf prog 99 [V0, Value.map none] true 16 := mT underlying99
instance inf100 : Inf prog 100 [V0, Value.map none] true 16 := mT underlying100
instance : Und prog 102 (.slice 113) := ⟨underlying102⟩
instance inf102 : Inf prog 102 [V1] false 24 := mF underlying102
instance inf103 : Inf prog 103 [V0, V0, V1, V0, V0, V0] true 64 := mT underlying103
instance inf104 : Inf prog 104 [V0, V0, V1, V0, V0, V0] true 64 := mT underlying104
instance : Und prog 105 (.slice 51) := ⟨underlying105⟩
instance inf105 : Inf prog 105 [V1] false 24 := mF underlying105
instance : Und prog 108 (.map 51 26) := ⟨underlying108⟩
instance inf108 : Inf prog 108 [Value.map none] false 8 := mF underlying108
instance inf110 : Inf prog 110 [V0, V0, V1, V0, V0, V0, Value.map none] true 72 := mT underlying110
instance inf112 : Inf prog 112 [V0, V0, V0, V0, V2, V2, V0] true 48 := mT underlying112
instance inf113 : Inf prog 113 [V0, V0, V0, V0, V2, V2, V0] true 48 := mT underlying113
instance inf118 : Inf prog 118 [V0, V2, V2, V0, V1] true 48 := mT underlying118
instance inf126 : Inf prog 126 [V2, V2, V0, V0, V2, V0, V1, V1, V2, V0] true 104 := mT underlying126
instance inf127 : Inf prog 127 [V2, V2, V0, V0, V2, V0, V1, V1, V2, V0, V2, V2, V0, V0, V2, V0, V1, V1, V2, V0, V2, V2, V0, V0, V2, V0, V1, V1, V2, V0, V2, V2, V0, V0, V2, V0, V1, V1, V2, V0, V2, V2, V0, V0, V2, V0, V1, V1, V2, V0, V2, V2, V0, V0, V2, V0, V1, V1, V2, V0, V2, V2, V0, V0, V2, V0, V1, V1, V2, V0, V2, V2, V0, V0, V2, V0, V1, V1, V2, V0, V2, V2, V0, V0, V2, V0, V1, V1, V2, V0, V2, V2, V0, V0, V2, V0, V1, V1, V2, V0, V2, V2, V0, V0, V2, V0, V1, V1, V2, V0, V2, V2, V0, V0, V2, V0, V1, V1, V2, V0, V2, V2, V0, V0, V2, V0, V1, V1, V2, V0, V2, V2, V0, V0, V2, V0, V1, V1, V2, V0, V2, V2, V0, V0, V2, V0, V1, V1, V2, V0, V2, V2, V0, V0, V2, V0, V1, V1, V2, V0] true 1664 := mT underlying127
instance inf128 : Inf prog 128 [V2, V2, V0, V0, V2, V0, V1, V1, V2, V0, V2, V2, V0, V0, V2, V0, V1, V1, V2, V0, V2, V2, V0, V0, V2, V0, V1, V1, V2, V0, V2, V2, V0, V0, V2, V0, V1, V1, V2, V0, V2, V2, V0, V0, V2, V0, V1, V1, V2, V0, V2, V2, V0, V0, V2, V0, V1, V1, V2, V0, V2, V2, V0, V0, V2, V0, V1, V1, V2, V0, V2, V2, V0, V0, V2, V0, V1, V1, V2, V0, V2, V2, V0, V0, V2, V0, V1, V1, V2, V0, V2, V2, V0, V0, V2, V0, V1, V1, V2, V0, V2, V2, V0, V0, V2, V0, V1, V1, V2, V0, V2, V2, V0, V0, V2, V0, V1, V1, V2, V0, V2, V2, V0, V0, V2, V0, V1, V1, V2, V0, V2, V2, V0, V0, V2, V0, V1, V1, V2, V0, V2, V2, V0, V0, V2, V0, V1, V1, V2, V0, V2, V2, V0, V0, V2, V0, V1, V1, V2, V0] true 1664 := mT underlying128
instance inf129 : Inf prog 129 [V2, V2, V0, V0, V2, V0, V1, V1, V2, V0, V2, V2, V0, V0, V2, V0, V1, V1, V2, V0, V2, V2, V0, V0, V2, V0, V1, V1, V2, V0, V2, V2, V0, V0, V2, V0, V1, V1, V2, V0, V2, V2, V0, V0, V2, V0, V1, V1, V2, V0, V2, V2, V0, V0, V2, V0, V1, V1, V2, V0, V2, V2, V0, V0, V2, V0, V1, V1, V2, V0, V2, V2, V0, V0, V2, V0, V1, V1, V2, V0, V2, V2, V0, V0, V2, V0, V1, V1, V2, V0, V2, V2, V0, V0, V2, V0, V1, V1, V2, V0, V2, V2, V0, V0, V2, V0, V1, V1, V2, V0, V2, V2, V0, V0, V2, V0, V1, V1, V2, V0, V2, V2, V0, V0, V2, V0, V1, V1, V2, V0, V2, V2, V0, V0, V2, V0, V1, V1, V2, V0, V2, V2, V0, V0, V2, V0, V1, V1, V2, V0, V2, V2, V0, V0, V2, V0, V1, V1, V2, V0] true 1664 := mT underlying129
instance : Und prog 161 (.pointer 104) := ⟨underlying161⟩
instance inf161 : Inf prog 161 [V3] false 8 := mF underlying161
instance inf168 : Inf prog 168 [V0, V0, V0, V0, V0] true 40 := mT underlying168
instance : Und prog 172 (.pointer 126) := ⟨underlying172⟩
instance inf172 : Inf prog 172 [V3] false 8 := mF underlying172
instance : Und prog 178 (.pointer 181) := ⟨underlying178⟩
instance inf178 : Inf prog 178 [V3] false 8 := mF underlying178
instance inf181 : Inf prog 181 [V0, V0, V0, V0, V0, V0, V1, V1, V2, V0] true 112 := mT underlying181
instance : Und prog 185 (.pointer 222) := ⟨underlying185⟩
instance inf185 : Inf prog 185 [V3] false 8 := mF underlying185
instance inf187 : Inf prog 187 [V0, V0, V0, V0, V0, V3, V2, V2, V2, V1, V1] true 104 := mT underlying187
instance : Und prog 188 (.slice 26) := ⟨underlying188⟩
instance inf188 : Inf prog 188 [V1] false 24 := mF underlying188
instance : Und prog 195 (.slice 197) := ⟨underlying195⟩
instance inf195 : Inf prog 195 [V1] false 24 := mF underlying195
instance : Und prog 197 (.pointer 3) := ⟨underlying197⟩
instance inf197 : Inf prog 197 [V3] false 8 := mF underlying197
instance : Und prog 198 (.pointer 113) := ⟨underlying198⟩
instance inf198 : Inf prog 198 [V3] false 8 := mF underlying198
instance : Und prog 203 (.pointer 207) := ⟨underlying203⟩
instance inf203 : Inf prog 203 [V3] false 8 := mF underlying203
instance : Und prog 205 (.slice 5) := ⟨underlying205⟩
instance inf205 : Inf prog 205 [V1] false 24 := mF underlying205
instance inf207 : Inf prog 207 [V1, V0] true 32 := mT underlying207
instance inf220 : Inf prog 220 [V2, V2, V0] true 16 := mT underlying220
instance inf222 : Inf prog 222 [V2, V2, V0, V1, V1, V2] true 72 := mT underlying222
instance inf229 : Inf prog 229 [V0, V0, V0, V0] true 32 := mT underlying229
instance : Und prog 238 (.pointer 220) := ⟨underlying238⟩
instance inf238 : Inf prog 238 [V3] false 8 := mF underlying238
instance inf240 : Inf prog 240 [V4, V4, V4] true 24 := mT underlying240
instance : Und prog 244 (.slice 2) := ⟨underlying244⟩
instance inf244 : Inf prog 244 [V1] false 24 := mF underlying244
instance : Und prog 247 (.pointer 261) := ⟨underlying247⟩
instance inf247 : Inf prog 247 [V3] false 8 := mF underlying247
instance : Und prog 253 (.int .u32) := ⟨underlying253⟩
instance inf253 : Inf prog 253 [Value.int .u32 0] false 4 := mF underlying253
instance inf255 : Inf prog 255 (List.replicate 256 (Value.int .u32 0)) true 1024 := ⟨by kernel_rfl, (fun h => by cases h), ⟨_, underlying255, rfl⟩, by simp [Value.oneCell']⟩
instance inf261 : Inf prog 261 [V1, V0, V2] true 40 := mT underlying261
instance : Und prog 269 (.pointer 296) := ⟨underlying269⟩
instance inf269 : Inf prog 269 [V3] false 8 := mF underlying269
instance inf276 : Inf prog 276 [V4, V0, V0] true 24 := mT underlying276
instance inf279 : Inf prog 279 [V2, V0, V0] true 24 := mT underlying279
instance : Und prog 282 (.pointer 279) := ⟨underlying282⟩
instance inf282 : Inf prog 282 [V3] false 8 := mF underlying282
instance inf295 : Inf prog 295 [V1, V0] true 32 := mT underlying295
instance inf296 : Inf prog 296 [V1, V0] true 32 := mT underlying296
instance inf309 : Inf prog 309 (List.replicate 64 (V5)) true 64 := ⟨by kernel_rfl, (fun h => by cases h), ⟨_, underlying309, rfl⟩, by simp [Value.oneCell']⟩
instance : FA prog 13 0 0 := fA underlying13 inf9
instance : FA prog 13 1 1 := fA underlying13 inf12
instance : Pl prog 13 [V6, V4] [(0, 1), (1, 1)] := Pl.mk' underlying13 inf13 O1
instance : FA prog 27 0 0 := fA underlying27 inf25
instance : FA prog 27 1 1 := fA underlying27 inf3
instance : FA prog 27 2 2 := fA underlying27 inf26
instance : Pl prog 27 [V0, V0, V1] [(0, 1), (1, 1), (2, 1)] := Pl.mk' underlying27 inf27 O1
instance : FA prog 28 0 0 := fA underlying28 inf25
instance : FA prog 28 1 1 := fA underlying28 inf3
instance : FA prog 28 2 2 := fA underlying28 inf26
instance : Pl prog 28 [V0, V0, V1] [(0, 1), (1, 1), (2, 1)] := Pl.mk' underlying28 inf28 O1
instance : FA prog 32 0 0 := fA underlying32 inf3
instance : FA prog 32 1 1 := fA underlying32 inf3
instance : FA prog 32 2 2 := fA underlying32 inf3
instance : FA prog 32 3 3 := fA underlying32 inf2
instance : FA prog 32 4 4 := fA underlying32 inf31
instance : FA prog 32 5 5 := fA underlying32 inf2
instance : FA prog 32 6 6 := fA underlying32 inf2
instance : FA prog 32 7 7 := fA underlying32 inf3
instance : Pl prog 32 [V0, V0, V0, V0, V4, V0, V0, V0] [(0, 1), (1, 1), (2, 1), (3, 1), (4, 1), (5, 1), (6, 1), (7, 1)] := Pl.mk' underlying32 inf32 O1
instance : FA prog 33 0 0 := fA underlying33 inf3
instance : FA prog 33 1 1 := fA underlying33 inf3
instance : FA prog 33 2 2 := fA underlying33 inf3
instance : FA prog 33 3 3 := fA underlying33 inf2
instance : FA prog 33 4 4 := fA underlying33 inf31
instance : FA prog 33 5 5 := fA underlying33 inf2
instance : FA prog 33 6 6 := fA underlying33 inf2
instance : FA prog 33 7 7 := fA underlying33 inf3
instance : Pl prog 33 [V0, V0, V0, V0, V4, V0, V0, V0] [(0, 1), (1, 1), (2, 1), (3, 1), (4, 1), (5, 1), (6, 1), (7, 1)] := Pl.mk' underlying33 inf33 O1
instance : FA prog 50 0 0 := fA underlying50 inf3
instance : FA prog 50 1 1 := fA underlying50 inf3
instance : FA prog 50 2 2 := fA underlying50 inf3
instance : Pl prog 50 [V0, V0, V0] [(0, 1), (1, 1), (2, 1)] := Pl.mk' underlying50 inf50 O1
instance : FA prog 51 0 0 := fA underlying51 inf3
instance : FA prog 51 1 1 := fA underlying51 inf3
instance : FA prog 51 2 2 := fA underlying51 inf3
instance : Pl prog 51 [V0, V0, V0] [(0, 1), (1, 1), (2, 1)] := Pl.mk' underlying51 inf51 O1
instance : FA prog 56 0 0 := fA underlying56 inf2
instance : FA prog 56 1 1 := fA underlying56 inf31
instance : Pl prog 56 [V0, V4] [(0, 1), (1, 1)] := Pl.mk' underlying56 inf56 O1
instance : FA prog 57 0 0 := fA underlying57 inf2
instance : FA prog 57 1 1 := fA underlying57 inf31
instance : Pl prog 57 [V0, V4] [(0, 1), (1, 1)] := Pl.mk' underlying57 inf57 O1
instance : FA prog 79 0 0 := fA underlying79 inf74
instance : FA prog 79 1 1 := fA underlying79 inf47
instance : FA prog 79 2 2 := fA underlying79 inf39
instance : FA prog 79 3 3 := fA underlying79 inf43
instance : Pl prog 79 [V3, V3, V3, V3] [(0, 1), (1, 1), (2, 1), (3, 1)] := Pl.mk' underlying79 inf79 O1
instance : FA prog 82 0 0 := fA underlying82 inf4
instance : FA prog 82 1 1 := fA underlying82 inf2
instance : FA prog 82 2 2 := fA underlying82 inf26
instance : Pl prog 82 [V2, V0, V1] [(0, 1), (1, 1), (2, 1)] := Pl.mk' underlying82 inf82 O1
instance : FA prog 84 0 0 := fA underlying84 inf4
instance : FA prog 84 1 1 := fA underlying84 inf4
instance : FA prog 84 2 2 := fA underlying84 inf3
instance : FA prog 84 3 3 := fA underlying84 inf3
instance : FA prog 84 4 4 := fA underlying84 inf82
instance : FA prog 84 5 7 := fA underlying84 inf83
instance : Pl prog 84 [V2, V2, V0, V0, V2, V0, V1, V1] [(0, 1), (1, 1), (2, 1), (3, 1), (4, 3), (7, 1)] := Pl.mk' underlying84 inf84 O1
instance : FA prog 85 0 0 := fA underlying85 inf4
instance : FA prog 85 1 1 := fA underlying85 inf4
instance : FA prog 85 2 2 := fA underlying85 inf3
instance : FA prog 85 3 3 := fA underlying85 inf3
instance : FA prog 85 4 4 := fA underlying85 inf82
instance : FA prog 85 5 7 := fA underlying85 inf83
instance : Pl prog 85 [V2, V2, V0, V0, V2, V0, V1, V1] [(0, 1), (1, 1), (2, 1), (3, 1), (4, 3), (7, 1)] := Pl.mk' underlying85 inf85 O1
instance : FA prog 87 0 0 := fA underlying87 inf3
instance : FA prog 87 1 1 := fA underlying87 inf3
instance : FA prog 87 2 2 := fA underlying87 inf2
instance : FA prog 87 3 3 := fA underlying87 inf2
instance : FA prog 87 4 4 := fA underlying87 inf83
instance : FA prog 87 5 5 := fA underlying87 inf26
instance : Pl prog 87 [V0, V0, V0, V0, V1, V1] [(0, 1), (1, 1), (2, 1), (3, 1), (4, 1), (5, 1)] := Pl.mk' underlying87 inf87 O1
instance : FA prog 90 0 0 := fA underlying90 inf3
instance : FA prog 90 1 1 := fA underlying90 inf33
instance : FA prog 90 2 9 := fA underlying90 inf80
instance : FA prog 90 3 10 := fA underlying90 inf85
instance : FA prog 90 4 18 := fA underlying90 inf85
instance : FA prog 90 5 26 := fA underlying90 inf4
instance : FA prog 90 6 27 := fA underlying90 inf4
instance : FA prog 90 7 28 := fA underlying90 inf4
instance : FA prog 90 8 29 := fA underlying90 inf87
instance : FA prog 90 9 35 := fA underlying90 inf3
instance : FA prog 90 10 36 := fA underlying90 inf88
instance : FA prog 90 11 37 := fA underlying90 inf3
instance : FA prog 90 12 38 := fA underlying90 inf26
instance : FA prog 90 13 39 := fA underlying90 inf3
instance : FA prog 90 14 40 := fA underlying90 inf4
instance : FA prog 90 15 41 := fA underlying90 inf28
instance : Pl prog 90 [V0, V0, V0, V0, V0, V4, V0, V0, V0, V0, V2, V2, V0, V0, V2, V0, V1, V1, V2, V2, V0, V0, V2, V0, V1, V1, V2, V2, V2, V0, V0, V0, V0, V1, V1, V0, V3, V0, V1, V0, V2, V0, V0, V1] [(0, 1), (1, 8), (9, 1), (10, 8), (18, 8), (26, 1), (27, 1), (28, 1), (29, 6), (35, 1), (36, 1), (37, 1), (38, 1), (39, 1), (40, 1), (41, 3)] := Pl.mk' underlying90 inf90 O1
instance : FA prog 95 0 0 := fA underlying95 inf3
instance : FA prog 95 1 1 := fA underlying95 inf3
instance : FA prog 95 2 2 := fA underlying95 inf3
instance : FA prog 95 3 3 := fA underlying95 inf3
instance : FA prog 95 4 4 := fA underlying95 inf94
instance : Pl prog 95 [V0, V0, V0, V0, Value.map none] [(0, 1), (1, 1), (2, 1), (3, 1), (4, 1)] := Pl.mk' underlying95 inf95 O1
instance : FA prog 96 0 0 := fA underlying96 inf3
instance : FA prog 96 1 1 := fA underlying96 inf3
instance : FA prog 96 2 2 := fA underlying96 inf3
instance : FA prog 96 3 3 := fA underlying96 inf3
instance : FA prog 96 4 4 := fA underlying96 inf94
instance : Pl prog 96 [V0, V0, V0, V0, Value.map none] [(0, 1), (1, 1), (2, 1), (3, 1), (4, 1)] := Pl.mk' underlying96 inf96 O1
instance : FA prog 99 0 0 := fA underlying99 inf3
instance : FA prog 99 1 1 := fA underlying99 inf98
instance : Pl prog 99 [V0, Value.map none] [(0, 1), (1, 1)] := Pl.mk' underlying99 inf99 O1
instance : FA prog 100 0 0 := fA underlying100 inf3
instance : FA prog 100 1 1 := fA underlying100 inf98
instance : Pl prog 100 [V0, Value.map none] [(0, 1), (1, 1)] := Pl.mk' underlying100 inf100 O1
instance : FA prog 103 0 0 := fA underlying103 inf3
instance : FA prog 103 1 1 := fA underlying103 inf3
instance : FA prog 103 2 2 := fA underlying103 inf102
instance : FA prog 103 3 3 := fA underlying103 inf3
instance : FA prog 103 4 4 := fA underlying103 inf3
instance : FA prog 103 5 5 := fA underlying103 inf3
instance : Pl prog 103 [V0, V0, V1, V0, V0, V0] [(0, 1), (1, 1), (2, 1), (3, 1), (4, 1), (5, 1)] := Pl.mk' underlying103 inf103 O1
instance : FA prog 104 0 0 := fA underlying104 inf3
instance : FA prog 104 1 1 := fA underlying104 inf3
instance : FA prog 104 2 2 := fA underlying104 inf102
instance : FA prog 104 3 3 := fA underlying104 inf3
instance : FA prog 104 4 4 := fA underlying104 inf3
instance : FA prog 104 5 5 := fA underlying104 inf3
instance : Pl prog 104 [V0, V0, V1, V0, V0, V0] [(0, 1), (1, 1), (2, 1), (3, 1), (4, 1), (5, 1)] := Pl.mk' underlying104 inf104 O1
instance : FA prog 110 0 0 := fA underlying110 inf104
instance : FA prog 110 1 6 := fA underlying110 inf108
instance : Pl prog 110 [V0, V0, V1, V0, V0, V0, Value.map none] [(0, 6), (6, 1)] := Pl.mk' underlying110 inf110 O1
instance : FA prog 112 0 0 := fA underlying112 inf51
instance : FA prog 112 1 3 := fA underlying112 inf3
instance : FA prog 112 2 4 := fA underlying112 inf4
instance : FA prog 112 3 5 := fA underlying112 inf4
instance : FA prog 112 4 6 := fA underlying112 inf3
instance : Pl prog 112 [V0, V0, V0, V0, V2, V2, V0] [(0, 3), (3, 1), (4, 1), (5, 1), (6, 1)] := Pl.mk' underlying112 inf112 O1
instance : FA prog 113 0 0 := fA underlying113 inf51
instance : FA prog 113 1 3 := fA underlying113 inf3
instance : FA prog 113 2 4 := fA underlying113 inf4
instance : FA prog 113 3 5 := fA underlying113 inf4
instance : FA prog 113 4 6 := fA underlying113 inf3
instance : Pl prog 113 [V0, V0, V0, V0, V2, V2, V0] [(0, 3), (3, 1), (4, 1), (5, 1), (6, 1)] := Pl.mk' underlying113 inf113 O1
instance : FA prog 118 0 0 := fA underlying118 inf3
instance : FA prog 118 1 1 := fA underlying118 inf4
instance : FA prog 118 2 2 := fA underlying118 inf4
instance : FA prog 118 3 3 := fA underlying118 inf2
instance : FA prog 118 4 4 := fA underlying118 inf26
instance : Pl prog 118 [V0, V2, V2, V0, V1] [(0, 1), (1, 1), (2, 1), (3, 1), (4, 1)] := Pl.mk' underlying118 inf118 O1
instance : FA prog 126 0 0 := fA underlying126 inf85
instance : FA prog 126 1 8 := fA underlying126 inf4
instance : FA prog 126 2 9 := fA underlying126 inf3
instance : Pl prog 126 [V2, V2, V0, V0, V2, V0, V1, V1, V2, V0] [(0, 8), (8, 1), (9, 1)] := Pl.mk' underlying126 inf126 O1
instance : FA prog 128 0 0 := fA underlying128 inf127
instance : Pl prog 128 [V2, V2, V0, V0, V2, V0, V1, V1, V2, V0, V2, V2, V0, V0, V2, V0, V1, V1, V2, V0, V2, V2, V0, V0, V2, V0, V1, V1, V2, V0, V2, V2, V0, V0, V2, V0, V1, V1, V2, V0, V2, V2, V0, V0, V2, V0, V1, V1, V2, V0, V2, V2, V0, V0, V2, V0, V1, V1, V2, V0, V2, V2, V0, V0, V2, V0, V1, V1, V2, V0, V2, V2, V0, V0, V2, V0, V1, V1, V2, V0, V2, V2, V0, V0, V2, V0, V1, V1, V2, V0, V2, V2, V0, V0, V2, V0, V1, V1, V2, V0, V2, V2, V0, V0, V2, V0, V1, V1, V2, V0, V2, V2, V0, V0, V2, V0, V1, V1, V2, V0, V2, V2, V0, V0, V2, V0, V1, V1, V2, V0, V2, V2, V0, V0, V2, V0, V1, V1, V2, V0, V2, V2, V0, V0, V2, V0, V1, V1, V2, V0, V2, V2, V0, V0, V2, V0, V1, V1, V2, V0] [(0, 160)] := Pl.mk' underlying128 inf128 O1
instance : FA prog 129 0 0 := fA underlying129 inf127
instance : Pl prog 129 [V2, V2, V0, V0, V2, V0, V1, V1, V2, V0, V2, V2, V0, V0, V2, V0, V1, V1, V2, V0, V2, V2, V0, V0, V2, V0, V1, V1, V2, V0, V2, V2, V0, V0, V2, V0, V1, V1, V2, V0, V2, V2, V0, V0, V2, V0, V1, V1, V2, V0, V2, V2, V0, V0, V2, V0, V1, V1, V2, V0, V2, V2, V0, V0, V2, V0, V1, V1, V2, V0, V2, V2, V0, V0, V2, V0, V1, V1, V2, V0, V2, V2, V0, V0, V2, V0, V1, V1, V2, V0, V2, V2, V0, V0, V2, V0, V1, V1, V2, V0, V2, V2, V0, V0, V2, V0, V1, V1, V2, V0, V2, V2, V0, V0, V2, V0, V1, V1, V2, V0, V2, V2, V0, V0, V2, V0, V1, V1, V2, V0, V2, V2, V0, V0, V2, V0, V1, V1, V2, V0, V2, V2, V0, V0, V2, V0, V1, V1, V2, V0, V2, V2, V0, V0, V2, V0, V1, V1, V2, V0] [(0, 160)] := Pl.mk' underlying129 inf129 O1
instance : FA prog 168 0 0 := fA underlying168 inf3
instance : FA prog 168 1 1 := fA underlying168 inf3
instance : FA prog 168 2 2 := fA underlying168 inf3
instance : FA prog 168 3 3 := fA underlying168 inf2
instance : FA prog 168 4 4 := fA underlying168 inf2
instance : Pl prog 168 [V0, V0, V0, V0, V0] [(0, 1), (1, 1), (2, 1), (3, 1), (4, 1)] := Pl.mk' underlying168 inf168 O1
instance : FA prog 181 0 0 := fA underlying181 inf3
instance : FA prog 181 1 1 := fA underlying181 inf3
instance : FA prog 181 2 2 := fA underlying181 inf87
instance : FA prog 181 3 8 := fA underlying181 inf4
instance : FA prog 181 4 9 := fA underlying181 inf3
instance : Pl prog 181 [V0, V0, V0, V0, V0, V0, V1, V1, V2, V0] [(0, 1), (1, 1), (2, 6), (8, 1), (9, 1)] := Pl.mk' underlying181 inf181 O1
instance : FA prog 187 0 0 := fA underlying187 inf51
instance : FA prog 187 1 3 := fA underlying187 inf2
instance : FA prog 187 2 4 := fA underlying187 inf2
instance : FA prog 187 3 5 := fA underlying187 inf185
instance : FA prog 187 4 6 := fA underlying187 inf4
instance : FA prog 187 5 7 := fA underlying187 inf4
instance : FA prog 187 6 8 := fA underlying187 inf4
instance : FA prog 187 7 9 := fA underlying187 inf26
instance : FA prog 187 8 10 := fA underlying187 inf26
instance : Pl prog 187 [V0, V0, V0, V0, V0, V3, V2, V2, V2, V1, V1] [(0, 3), (3, 1), (4, 1), (5, 1), (6, 1), (7, 1), (8, 1), (9, 1), (10, 1)] := Pl.mk' underlying187 inf187 O1
instance : FA prog 207 0 0 := fA underlying207 inf205
instance : FA prog 207 1 1 := fA underlying207 inf3
instance : Pl prog 207 [V1, V0] [(0, 1), (1, 1)] := Pl.mk' underlying207 inf207 O1
instance : FA prog 220 0 0 := fA underlying220 inf4
instance : FA prog 220 1 1 := fA underlying220 inf4
instance : FA prog 220 2 2 := fA underlying220 inf3
instance : Pl prog 220 [V2, V2, V0] [(0, 1), (1, 1), (2, 1)] := Pl.mk' underlying220 inf220 O1
instance : FA prog 222 0 0 := fA underlying222 inf220
instance : FA prog 222 1 3 := fA underlying222 inf205
instance : FA prog 222 2 4 := fA underlying222 inf26
instance : FA prog 222 3 5 := fA underlying222 inf4
instance : Pl prog 222 [V2, V2, V0, V1, V1, V2] [(0, 3), (3, 1), (4, 1), (5, 1)] := Pl.mk' underlying222 inf222 O1
instance : FA prog 229 0 0 := fA underlying229 inf3
instance : FA prog 229 1 1 := fA underlying229 inf3
instance : FA prog 229 2 2 := fA underlying229 inf2
instance : FA prog 229 3 3 := fA underlying229 inf2
instance : Pl prog 229 [V0, V0, V0, V0] [(0, 1), (1, 1), (2, 1), (3, 1)] := Pl.mk' underlying229 inf229 O1
instance : FA prog 261 0 0 := fA underlying261 inf205
instance : FA prog 261 1 1 := fA underlying261 inf3
instance : FA prog 261 2 2 := fA underlying261 inf4
instance : Pl prog 261 [V1, V0, V2] [(0, 1), (1, 1), (2, 1)] := Pl.mk' underlying261 inf261 O1
instance : FA prog 276 0 0 := fA underlying276 inf31
instance : FA prog 276 1 1 := fA underlying276 inf3
instance : FA prog 276 2 2 := fA underlying276 inf3
instance : Pl prog 276 [V4, V0, V0] [(0, 1), (1, 1), (2, 1)] := Pl.mk' underlying276 inf276 O1
instance : FA prog 279 0 0 := fA underlying279 inf4
instance : FA prog 279 1 1 := fA underlying279 inf3
instance : FA prog 279 2 2 := fA underlying279 inf3
instance : Pl prog 279 [V2, V0, V0] [(0, 1), (1, 1), (2, 1)] := Pl.mk' underlying279 inf279 O1
instance : FA prog 295 0 0 := fA underlying295 inf205
instance : FA prog 295 1 1 := fA underlying295 inf3
instance : Pl prog 295 [V1, V0] [(0, 1), (1, 1)] := Pl.mk' underlying295 inf295 O1
instance : FA prog 296 0 0 := fA underlying296 inf205
instance : FA prog 296 1 1 := fA underlying296 inf3
instance : Pl prog 296 [V1, V0] [(0, 1), (1, 1)] := Pl.mk' underlying296 inf296 O1
instance : FnB prog 4 := fB func4
instance : FnB prog 11 := fB func11
instance : FnB prog 12 := fB func12
instance : FnB prog 13 := fB func13
instance : FnB prog 14 := fB func14
instance : FnB prog 15 := fB func15
instance : FnB prog 16 := fB func16
instance : FnB prog 17 := fB func17
instance : FnB prog 18 := fB func18
instance : FnB prog 19 := fB func19
instance : FnB prog 20 := fB func20
instance : FnB prog 21 := fB func21
instance : FnB prog 22 := fB func22
instance : FnB prog 23 := fB func23
instance : FnB prog 24 := fB func24
instance : FnB prog 25 := fB func25
instance : FnB prog 26 := fB func26
instance : FnB prog 31 := fB func31
instance : FnB prog 32 := fB func32
instance : FnB prog 33 := fB func33
instance : FnB prog 34 := fB func34
instance : FnB prog 35 := fB func35
instance : FnB prog 36 := fB func36
instance : FnB prog 37 := fB func37
instance : FnB prog 38 := fB func38
instance : FnB prog 39 := fB func39
instance : FnB prog 40 := fB func40
instance : FnB prog 41 := fB func41
instance : FnB prog 42 := fB func42
instance : FnB prog 43 := fB func43
instance : FnB prog 44 := fB func44
instance : FnB prog 45 := fB func45
instance : FnB prog 46 := fB func46
instance : FnB prog 47 := fB func47
instance : FnB prog 54 := fB func54
instance : FnB prog 55 := fB func55
instance : FnB prog 56 := fB func56
instance : FnB prog 57 := fB func57
instance : FnB prog 58 := fB func58
instance : FnB prog 59 := fB func59
instance : FnB prog 60 := fB func60
instance : FnB prog 61 := fB func61
instance : FnB prog 62 := fB func62
instance : FnB prog 63 := fB func63
instance : FnB prog 64 := fB func64
instance : FnB prog 65 := fB func65
instance : FnB prog 66 := fB func66
instance : FnB prog 67 := fB func67
instance : FnB prog 68 := fB func68
instance : FnB prog 69 := fB func69
instance : FnB prog 70 := fB func70
instance : FnB prog 71 := fB func71
instance : FnB prog 72 := fB func72
instance : FnB prog 73 := fB func73
instance : FnB prog 74 := fB func74
instance : FnB prog 75 := fB func75
instance : FnB prog 76 := fB func76
instance : FnB prog 77 := fB func77
instance : FnB prog 78 := fB func78
instance : FnB prog 79 := fB func79
instance : FnB prog 80 := fB func80
instance : FnB prog 81 := fB func81
instance : FnB prog 82 := fB func82
instance : FnB prog 83 := fB func83
instance : FnB prog 84 := fB func84
instance : FnB prog 85 := fB func85
instance : FnB prog 86 := fB func86
instance : FnB prog 87 := fB func87
instance : FnB prog 88 := fB func88
instance : FnB prog 89 := fB func89
instance : FnB prog 90 := fB func90
instance : FnB prog 91 := fB func91
instance : FnB prog 92 := fB func92
instance : FnB prog 93 := fB func93
instance : FnB prog 94 := fB func94
instance : FnB prog 95 := fB func95
instance : FnB prog 96 := fB func96
instance : FnB prog 97 := fB func97
instance : FnB prog 98 := fB func98
instance : FnB prog 99 := fB func99
instance : FnB prog 100 := fB func100
instance : FnB prog 101 := fB func101
instance : FnB prog 102 := fB func102
instance : FnB prog 103 := fB func103
instance : FnB prog 104 := fB func104
instance : FnB prog 105 := fB func105
instance : FnB prog 106 := fB func106
instance : FnB prog 107 := fB func107
instance : FnB prog 108 := fB func108
instance : FnB prog 109 := fB func109
instance : FnB prog 110 := fB func110
instance : FnB prog 111 := fB func111
instance : FnB prog 112 := fB func112
instance : FnB prog 113 := fB func113
instance : FnB prog 114 := fB func114
instance : FnB prog 115 := fB func115
instance : FnB prog 116 := fB func116
instance : FnB prog 117 := fB func117
instance : FnB prog 118 := fB func118
instance : FnB prog 119 := fB func119
instance : FnB prog 120 := fB func120
instance : FnB prog 121 := fB func121
instance : FnB prog 122 := fB func122
instance : FnB prog 123 := fB func123
instance : FnB prog 124 := fB func124
instance : FnB prog 125 := fB func125
instance : FnB prog 126 := fB func126
instance : FnB prog 127 := fB func127
instance : FnB prog 128 := fB func128
instance : FnB prog 129 := fB func129
instance : FnB prog 130 := fB func130
instance : FnB prog 131 := fB func131
instance : FnB prog 132 := fB func132
instance : FnB prog 133 := fB func133
instance : FnB prog 134 := fB func134
instance : FnB prog 136 := fB func136
instance : FnB prog 137 := fB func137
instance : FnB prog 138 := fB func138
instance : FnB prog 139 := fB func139
instance : FnB prog 140 := fB func140
instance : FnB prog 141 := fB func141
instance : FnB prog 142 := fB func142
instance : FnB prog 143 := fB func143
instance : FnB prog 144 := fB func144
instance : FnB prog 145 := fB func145
instance : FnB prog 146 := fB func146
instance : FnB prog 148 := fB func148
instance : FnB prog 149 := fB func149
instance : FnB prog 150 := fB func150
instance : FnB prog 151 := fB func151
instance : FnB prog 152 := fB func152
instance : FnB prog 153 := fB func153
instance : FnB prog 155 := fB func155
instance : FnB prog 156 := fB func156
instance : FnB prog 157 := fB func157
instance : FnB prog 158 := fB func158
instance : FnB prog 159 := fB func159
instance : FnB prog 160 := fB func160
instance : FnB prog 161 := fB func161
instance : FnB prog 162 := fB func162
instance : FnB prog 163 := fB func163
instance : FnB prog 164 := fB func164
instance : FnB prog 165 := fB func165
instance : FnB prog 166 := fB func166
instance : FnB prog 167 := fB func167
instance : FnB prog 168 := fB func168
instance : FnB prog 169 := fB func169
instance : FnB prog 170 := fB func170
instance : FnB prog 171 := fB func171
instance : FnB prog 172 := fB func172
instance : FnB prog 173 := fB func173
instance : FnB prog 174 := fB func174
instance : FnB prog 175 := fB func175
instance : FnB prog 176 := fB func176
instance : FnB prog 177 := fB func177
instance : FnB prog 178 := fB func178
instance : FnB prog 179 := fB func179
instance : FnB prog 180 := fB func180
instance : FnB prog 181 := fB func181
instance : FnB prog 182 := fB func182
instance : FnB prog 183 := fB func183
instance : FnB prog 184 := fB func184
instance : FnB prog 185 := fB func185
instance : FnB prog 187 := fB func187
instance : FnB prog 189 := fB func189
instance : FnB prog 192 := fB func192
instance : FnB prog 193 := fB func193
instance : FnB prog 194 := fB func194
instance : FnB prog 195 := fB func195
instance : FnB prog 196 := fB func196
instance : FnB prog 197 := fB func197
instance : FnB prog 198 := fB func198
instance : FnB prog 199 := fB func199
instance : FnB prog 200 := fB func200
instance : FnB prog 201 := fB func201
instance : FnB prog 204 := fB func204
instance : FnB prog 209 := fB func209
instance : FnB prog 210 := fB func210
end
section
abbrev BwPt (p : Nat) (a : Option Addr) (m c n : Nat) : HProp := pt p (.cells [.slice a m c, .iz n].toArray 296 (0, 0))
def IsBW (p : Nat) (bs : List Bool) : HProp := ex fun q : Option Addr × Nat => all [BwPt p q.1 ((bs.length + 7) / 8) q.2 bs.length, Own 5 1 q.1 ((bs.length + 7) / 8) q.2 (bytesV (pack bs))]
section
variable {w0 w : World} {l : List HProp} {p : Nat} {bs : List Bool}
theorem St.bw : St w0 (IsBW p bs :: l) w ↔ ∃ a c, St w0 (BwPt p a ((bs.length + 7) / 8) c bs.length :: Own 5 1 a ((bs.length + 7) / 8) c (bytesV (pack bs)) :: l) w := by
 unfold IsBW
 rw [St.ex]
 exact ⟨fun ⟨q, h⟩ => ⟨q.1, q.2, h.join⟩, fun ⟨a, c, h⟩ => ⟨(a, c), St.fold [_, _] h⟩⟩
theorem ke (h : St w0 l w) : Ret prog 177 [] w fun v w' => ∃ p, v = .pz p ∧ St w0 (IsBW p [] :: l) w' := by
 refine en func177 results177 ntmps177 ?_
 refine Y1 ?_; refine Y1i ?_; refine Yn ?_
 refine r_v (qc (r := [.slice none 0 0, .iz 0]) rfl) rfl ?_
 refine r_c rfl (jv h (show _ = Value.agg [.slice none 0 0, .iz 0].toArray from rfl) fun p w h => ?_)
 refine Y3g ?_
 refine qk (bq1 ⟨p, rfl, St.bw.2 ⟨none, 0, ?_⟩⟩)
 exact (St.ownNil 5 1 h).f 1
theorem sn (n : Int) (h : St w0 l w) : Ret prog 181 [.iz n] w fun v w' => v = .iz (heldN n) ∧ St w0 l w' := by
 refine en func181 results181 ntmps181 ?_
 refine Yr ?_; refine Y45 ?_
 refine qz (.iz (heldN n)) (by unfold heldN; congr 1; omega) ?_
 refine Y4 ?_
 exact qk (bq1 ⟨rfl, h⟩)
theorem heldN_le (n : Int) : heldN n <= 64 := by unfold heldN; omega
theorem testBit_toNat (v k : Nat) : v / 2 ^ k % 2 = (v.testBit k).toNat := by
 rw [Nat.toNat_testBit]
theorem gd (v : Nat) (n : Int) (hv : v < 18446744073709551616) (hlen : bs.length <= 70368744177664) (h : St w0 (IsBW p bs :: l) w) :
  Ret prog 198 [.pz p, .int .u64 v, .iz n] w fun v' w' => v' = .tuple #[] ∧ St w0 (IsBW p (bs ++ bitsOf v (heldN n)) :: l) w' := by
 refine en func198 results198 ntmps198 ?_
 have hle := heldN_le n
 refine Y8 ?_
 refine r_c rfl (qg rfl (sn n h) ?_)
 rintro _ w ⟨rfl, h⟩
 refine Y1l ?_
 refine qz (.iz ((heldN n : Int) - 1)) O11 ?_
 refine Y4 ?_; refine Yh ?_
 refine jx (Γ := Nat × List Bool) (fun k => [(0, .pz p), (1, .int .u64 v), (6, .iz ((k.1 : Int) - 1))])
  (fun k w => k.1 <= 64 ∧ k.2 ++ bitsOf v k.1 = bs ++ bitsOf v (heldN n) ∧ St w0 (IsBW p k.2 :: l) w) (fun k => k.1) (heldN n, bs) zz3 ⟨hle, rfl, h⟩ ?_
 clear h
 rintro ⟨k, cur⟩ w e ⟨hk, hcur, h⟩
 dsimp only at hk hcur h ⊢
 have hcl : cur.length + k = bs.length + heldN n := by
  have := congrArg List.length hcur
  simpa [bitsOf_len] using this
 refine Y1w ?_; refine Y1m ?_
 cases k with
 | zero =>
  refine qz (.bool false) O8 ?_
  refine Y24 ?_
  refine ju ?_
  rw [<- hcur, bitsOf, Uw]
  exact (show (packv [] : Value) = .tuple #[] ∧ _ from ⟨rfl, h⟩)
 | succ k =>
 refine qz (.bool true) (by simp <;> omega) ?_
 refine Yd ?_; refine Yl ?_
 obtain ⟨a, c, h⟩ := St.bw.1 h
 refine Y38 ?_
 refine qt (Γ := Option Addr × Nat) (fun q => [(0, .pz p), (1, .int .u64 v), (6, .iz (((k + 1 : Nat) : Int) - 1))])
  (fun q w => St w0 (BwPt p q.1 (cur.length / 8 + 1) q.2 cur.length :: Own 5 1 q.1 (cur.length / 8 + 1) q.2 (bytesV (padz cur)) :: l) w) ?_ ?_
 ·refine Y5 ?_; refine r_v (qq rfl (h.b 0) rfl) rfl ?_
  refine r_v (nl rfl rfl O2) rfl ?_
  refine qz (.iz ((cur.length % 8 : Nat) : Int)) (by exact congrArg Value.iz (zn _ _)) ?_
  refine Yp ?_
  by_cases h8 : cur.length % 8 = 0
  ·refine qz (.bool true) (by simp [h8]) ?_
   refine Y3s ?_; refine Y1t ?_; refine r_v (qq rfl (h.b 0) rfl) rfl ?_
   refine r_c rfl (jg (r := [.int .u8 0]) h rfl rfl rfl fun b w h => ?_)
   refine r_c rfl (q9 (ys := [.int .u8 0]) (zs := bytesV (padz cur)) (m3 := cur.length / 8 + 1) (h.f 2) rfl rfl ⟨rfl, .inr ⟨b, 0, rfl, qw (h.b 0 rfl) rfl⟩⟩ (fun u hu => by rw [Vc.1 hu]; rfl) O0 (by rw [lg h8]; simp [bytesV]) O0 O0 rfl fun a' c' w _ h => ?_)
   refine Yi ?_
   refine r_c rfl (qb 2 h rfl (show _ = Value.slice _ _ _ from rfl) rfl rfl rfl rfl fun w h => ?_)
   refine qv ⟨(a', c'), zz3, ?_⟩
   exact (h.f 1).drop.f 1
  ·refine qz (.bool false) O6 ?_
   refine qv (qe rfl (qa ⟨(a, c), zz3, ?_⟩))
   rw [qqj h8]
   have e : cur.length / 8 + 1 = (cur.length + 7) / 8 := by omega
   rw [e]
   exact h
 clear h
 rintro ⟨a, c⟩ w e h
 dsimp only at h
 obtain ⟨g, rfl⟩ := (h.f 1).own_some O0
 have hk64 : k < 64 := by omega
 have hb2 : (v.testBit k).toNat <= 1 := by cases v.testBit k <;> decide
 have hb3 : (v.testBit k).toNat * 2 ^ (7 - cur.length % 8) < 256 := by
  have : 2 ^ (7 - cur.length % 8) <= 2 ^ 7 := Vg O2 O0
  have := Zt hb2 this
  omega
 refine qf (jh (some 25) (fun w => St w0 _ w) O1 O1 h.drew fun w h => ?_)
 refine Y3 ?_; refine qj rfl rfl rfl rfl h (fun _ h => qh rfl (qq rfl (h.b 0) rfl)) ?_; refine Y3 ?_; refine qj rfl rfl rfl rfl h (fun _ h => qh rfl (qq rfl (h.b 0) rfl)) ?_
 refine cpv rfl rfl rfl rfl h rfl (qr (v' := .iz ((cur.length / 8 : Nat) : Int)) (q_quo rfl rfl O2) (by rw [show ((cur.length : Nat) : Int).tdiv 8 = ((cur.length / 8 : Nat) : Int) from py _ 8, wrap64 O0 O0])) ?_
 refine cpv rfl rfl rfl rfl h rfl (jb (o' := cur.length / 8) rfl rfl rfl O0 O8) ?_
 refine qj rfl rfl rfl rfl h (fun w h => qh rfl (jj (v := .int .u8 (byteAt cur (cur.length / 8)).toNat) rfl (by have := (h.f 1).own_rd.cell (bytesV_get (qji cur)); simpa using this))) ?_
 refine Y18 ?_; refine Y18 ?_
 refine cpv rfl rfl rfl rfl h rfl (qr (v' := .int .u64 ((v / 2 ^ k : Nat) : Int)) (vl rfl rfl O0) (by rw [show (((k + 1 : Nat) : Int) - 1) = (k : Int) by omega]; exact congrArg (Value.int .u64) (j0 v k _ (Nat.le_of_lt hk64)))) ?_
 refine cpv rfl rfl rfl rfl h rfl (qr (v' := .int .u64 (((v.testBit k).toNat : Nat) : Int)) (zb rfl rfl) (by
  rw [show bitOp .and .u64 ((v / 2 ^ k : Nat) : Int) 1 = ((v / 2 ^ k &&& 1 : Nat) : Int) from (vr (Xb (Nat.div_le_self _ _) hv) O2).1, Kk, testBit_toNat])) ?_
 refine cpv rfl rfl rfl rfl h rfl (qr (v' := .int .u8 (((v.testBit k).toNat : Nat) : Int)) (xj rfl) (by rw [uw, Ul O0])) ?_
 refine Y3 ?_; refine qj rfl rfl rfl rfl h (fun _ h => qh rfl (qq rfl (h.b 0) rfl)) ?_
 refine cpv rfl rfl rfl rfl h rfl (qr (v' := .iz ((cur.length % 8 : Nat) : Int)) (nl rfl rfl O2) (congrArg Value.iz (zn _ 8))) ?_
 refine cpv rfl rfl rfl rfl h rfl (qr (v' := .iz ((7 - cur.length % 8 : Nat) : Int)) (vi rfl rfl) O9) ?_
 refine cpv rfl rfl rfl rfl h rfl (qr (v' := .int .u8 (((v.testBit k).toNat * 2 ^ (7 - cur.length % 8) : Nat) : Int)) (xl rfl rfl O0) (by rw [shl_u8 _ _ O0, Ul hb3])) ?_
 refine cpv rfl rfl rfl rfl h rfl (qr (v' := .int .u8 ((byteAt cur (cur.length / 8) ||| UInt8.ofNat ((v.testBit k).toNat * 2 ^ (7 - cur.length % 8))).toNat : Int)) (q_or rfl rfl) (by
  rw [<- qqq, UInt8.toNat_ofNat', Ul hb3])) ?_
 refine cpv rfl rfl rfl rfl h rfl (jb (o' := cur.length / 8) rfl rfl rfl O0 O8) ?_
 refine Yg ?_
 refine jk 25 rfl rfl rfl ?_
 refine jo (v := .int .u8 ((byteAt cur (cur.length / 8) ||| UInt8.ofNat ((v.testBit k).toNat * 2 ^ (7 - cur.length % 8))).toNat : Int)) (h.f 1) rfl rfl O0 rfl fun w h => ?_
 rw [bytesV_set, <- lj] at h
 refine Y2l ?_
 refine r_v (qq (v := .iz cur.length) rfl (h.b 1 rfl) rfl) rfl ?_
 refine Y1f ?_
 refine qz (.iz ((cur.length + 1 : Nat) : Int)) O7 ?_
 refine Yi ?_
 refine r_c rfl (qb 1 h rfl (show _ = Value.int _ _ from rfl) rfl rfl rfl rfl fun w h => ?_)
 refine Y2 ?_; refine Y2a ?_; refine Y1l ?_
 refine qz (.iz ((k : Int) - 1)) O9 ?_
 refine Y6 ?_
 refine qv ⟨(k, cur ++ [v.testBit k]), zz3, ⟨O_d, ?_, St.bw.2 ⟨some ⟨g, 0, none⟩, c, ?_⟩⟩, O_d⟩
 ·rw [<- hcur, Um]; rfl
 ·have e1 : ((cur ++ [v.testBit k]).length + 7) / 8 = cur.length / 8 + 1 := by simp; omega
  rw [e1, Ua]
  exact h.f 1
end
end
end Go.Proofs.YtngdfdangkdgcaaGreatDoor
namespace Go.Hw
section
def len64 (x : Nat) : Nat := if x = 0 then 0 else Nat.log2 x + 1
theorem len64_le {x k : Nat} : len64 x <= k ↔ x < 2 ^ k := by
 unfold len64
 split
 ·rename_i h; subst h; simp [Wj]
 ·rename_i h
  rw [<- Nat.log2_lt h]
  omega
theorem len64_lt (x : Nat) : x < 2 ^ len64 x := len64_le.1 (Ug _)
theorem len64_64 {x : Nat} (h : x < 18446744073709551616) : len64 x <= 64 := len64_le.2 h
def tzA : Nat -> Nat -> Nat
 | 0, _ => 0
 | k + 1, x => if x % 2 = 1 then 0 else tzA k (x / 2) + 1
def tz (x : Nat) : Nat := tzA 64 x
theorem tzA_dvd : ∀ (k x : Nat), x / 2 ^ tzA k x * 2 ^ tzA k x = x
 | 0, x => by simp [tzA]
 | k + 1, x => by
  rw [tzA]
  split
  ·simp
  ·have ih := tzA_dvd k (x / 2)
   rw [Nat.pow_succ, Wh _ 2, <- Nat.div_div_eq_div_mul, Wh 2, <- Nat.mul_assoc, ih]
   omega
theorem qqu {x t : Nat} (h : t <= tz x) : x / 2 ^ t * 2 ^ t = x := by
 have h1 := tzA_dvd 64 x
 have h2 : 2 ^ tz x = 2 ^ (tz x - t) * 2 ^ t := by rw [<- Xu]; congr 1; omega
 have h3 : x = (x / 2 ^ tz x * 2 ^ (tz x - t)) * 2 ^ t := by rw [Nat.mul_assoc, <- h2]; exact h1.symm
 have h4 : x / 2 ^ t = x / 2 ^ tz x * 2 ^ (tz x - t) := by
  conv => lhs; rw [h3]
  exact Nat.mul_div_cancel _ (Wj t)
 rw [h4]; exact h3.symm
theorem qjr {x : Nat} (h0 : x ≠ 0) : tz x + 1 <= len64 x := by
 have h1 := qqu (Ug (tz x))
 have h2 : 2 ^ tz x <= x := by
  conv => rhs; rw [<- h1]
  have : x / 2 ^ tz x ≠ 0 := by
   intro h; rw [h] at h1; simp at h1; exact h0 h1.symm
  exact Nat.le_mul_of_pos_left _ (Nat.pos_of_ne_zero this)
 rcases Xt (tz x) (len64 x) with h3 | h3
 ·exact h3
 ·have := len64_le.1 h3; omega
structure Win where
 is : Bool
 lead : Nat
 trail : Nat
 deriving DecidableEq
def winOf (x : Nat) : Win := ⟨true, min (64 - len64 x) 31, tz x⟩
def Win.fits (w : Win) (x : Nat) : Bool := w.is && decide (w.lead <= (winOf x).lead) && decide (w.trail <= (winOf x).trail)
def Win.long (w : Win) : Nat := 64 - w.lead - w.trail
def xorRest (win : Win) (was : Nat) : List Nat -> List Bool
 | [] => []
 | now :: r => if now ^^^ was = 0 then bitsOf 0 1 ++ xorRest win now r
  else if win.fits (now ^^^ was) = true then bitsOf 2 2 ++ (bitsOf ((now ^^^ was) / 2 ^ win.trail) win.long ++ xorRest win now r)
  else bitsOf 3 2 ++ (bitsOf (winOf (now ^^^ was)).lead 5 ++ (bitsOf ((winOf (now ^^^ was)).long - 1) 6 ++ (bitsOf ((now ^^^ was) / 2 ^ (winOf (now ^^^ was)).trail) (winOf (now ^^^ was)).long ++ xorRest (winOf (now ^^^ was)) now r)))
def xorBits : List Nat -> List Bool
 | [] => []
 | v :: r => bitsOf v 64 ++ xorRest ⟨false, 0, 0⟩ v r
def turnR (s : RS) (win : Win) : Option (Nat × Win) × RS :=
 if (s.get 1).1 = 0 then (some (0, win), (s.get 1).2)
 else if ((s.get 1).2.get 1).1 = 0 then
  let g := ((s.get 1).2.get 1).2.get win.long
  let x := g.1 * 2 ^ win.trail % 18446744073709551616
  (if win.is = true ∧ x ≠ 0 then some (x, win) else none, g.2)
 else
  let a := ((s.get 1).2.get 1).2.get 5
  let b := a.2.get 6
  if 64 < a.1 + (b.1 + 1) then (none, b.2) else
  let g := b.2.get (b.1 + 1)
  let x := g.1 * 2 ^ (64 - a.1 - (b.1 + 1)) % 18446744073709551616
  (if x = 0 ∨ winOf x ≠ ⟨true, a.1, 64 - a.1 - (b.1 + 1)⟩ ∨ win.fits x = true then none else some (x, ⟨true, a.1, 64 - a.1 - (b.1 + 1)⟩), g.2)
theorem turnR_0 {s s1 : RS} {win : Win} (h : s.get 1 = (0, s1)) : turnR s win = (some (0, win), s1) := by
 unfold turnR; rw [h]; rfl
theorem turnR_2 {s s1 s2 s3 : RS} {win : Win} {a g : Nat} (h1 : s.get 1 = (a, s1)) (ha : a ≠ 0) (h2 : s1.get 1 = (0, s2)) (h3 : s2.get win.long = (g, s3)) :
  turnR s win = (if win.is = true ∧ g * 2 ^ win.trail % 18446744073709551616 ≠ 0 then some (g * 2 ^ win.trail % 18446744073709551616, win) else none, s3) := by
 unfold turnR
 simp only [h1, h2, h3]
 rw [if_neg ha, if_pos trivial]
theorem turnR_3x {s s1 s2 s3 s4 : RS} {win : Win} {a b lead long : Nat} (h1 : s.get 1 = (a, s1)) (ha : a ≠ 0) (h2 : s1.get 1 = (b, s2)) (hb : b ≠ 0) (h3 : s2.get 5 = (lead, s3)) (h4 : s3.get 6 = (long, s4)) (h5 : 64 < lead + (long + 1)) :
  turnR s win = (none, s4) := by
 unfold turnR
 simp only [h1, h2, h3, h4]
 rw [if_neg ha, if_neg hb, if_pos h5]
theorem turnR_3 {s s1 s2 s3 s4 s5 : RS} {win : Win} {a b lead long g : Nat} (h1 : s.get 1 = (a, s1)) (ha : a ≠ 0) (h2 : s1.get 1 = (b, s2)) (hb : b ≠ 0) (h3 : s2.get 5 = (lead, s3)) (h4 : s3.get 6 = (long, s4)) (h5 : ¬ 64 < lead + (long + 1)) (h6 : s4.get (long + 1) = (g, s5)) :
  turnR s win = (if g * 2 ^ (64 - lead - (long + 1)) % 18446744073709551616 = 0 ∨ winOf (g * 2 ^ (64 - lead - (long + 1)) % 18446744073709551616) ≠ ⟨true, lead, 64 - lead - (long + 1)⟩ ∨ win.fits (g * 2 ^ (64 - lead - (long + 1)) % 18446744073709551616) = true then none
   else some (g * 2 ^ (64 - lead - (long + 1)) % 18446744073709551616, ⟨true, lead, 64 - lead - (long + 1)⟩), s5) := by
 unfold turnR
 simp only [h1, h2, h3, h4, h6]
 rw [if_neg ha, if_neg hb, if_neg h5]
def xorDecA : Nat -> Nat -> Win -> RS -> Option (List Nat)
 | 0, _, _, _ => some []
 | k + 1, was, win, s => match turnR s win with
  | (none, _) => none
  | (some (x, win'), s') => if s'.bad = true then none else (xorDecA k (was ^^^ x) win' s').map fun r => (was ^^^ x) :: r
def xorDec (n : Nat) (s : RS) : Option (List Nat) := match n with
 | 0 => if s.bad = true then none else some []
 | k + 1 => if (s.get 64).2.bad = true then none else (xorDecA k (s.get 64).1 ⟨false, 0, 0⟩ (s.get 64).2).map fun r => (s.get 64).1 :: r
theorem winOf_long {x : Nat} (h0 : x ≠ 0) (h : x < 18446744073709551616) : (winOf x).lead + (winOf x).trail + (winOf x).long = 64 ∧ 1 <= (winOf x).long ∧ (winOf x).long <= 64 ∧ (winOf x).lead <= 31 := by
 have h1 := qjr h0
 have h2 := len64_64 h
 unfold Win.long winOf
 dsimp only
 omega
theorem shown {x : Nat} {w : Win} (h : x < 18446744073709551616) (h1 : w.lead <= (winOf x).lead) (h2 : w.trail <= (winOf x).trail) : x / 2 ^ w.trail % 2 ^ w.long * 2 ^ w.trail % 18446744073709551616 = x := by
 have h3 : x < 2 ^ (64 - w.lead) := by
  have := len64_lt x
  refine Xp this (Vg O2 ?_)
  have := len64_64 h
  unfold winOf at h1; dsimp only at h1
  omega
 have h5 : x / 2 ^ w.trail % 2 ^ w.long = x / 2 ^ w.trail := by
  apply Ul
  rcases Xt (64 - w.lead) w.trail with h6 | h6
  ·have h7 : x < 2 ^ w.trail := Xp h3 (Vg O2 O0)
   rw [Nat.div_eq_of_lt h7]
   exact Wj _
  ·rw [Nat.div_lt_iff_lt_mul (Wj _), <- Xu]
   unfold Win.long
   rwa [show 64 - w.lead - w.trail + w.trail = 64 - w.lead by omega]
 rw [h5, qqu h2, Ul h]
theorem qj0 {w : Win} {x : Nat} (h : w.fits x = true) : w.is = true ∧ w.lead <= (winOf x).lead ∧ w.trail <= (winOf x).trail := by
 unfold Win.fits at h
 simpa [Ur, and_assoc] using h
theorem qqk {a b : Nat} : b ^^^ (a ^^^ b) = a := by rw [Nat.xor_comm a b, <- Nat.xor_assoc, Nat.xor_self, Nat.zero_xor]
theorem xorDecA_told (r : List Bool) : ∀ (vs : List Nat) (was : Nat) (win : Win), was < 18446744073709551616 -> (∀ v ∈ vs, v < 18446744073709551616) -> xorDecA vs.length was win ⟨xorRest win was vs ++ r, false⟩ = some vs
 | [], _, _, _, _ => rfl
 | v :: vs, was, win, hw, hv => by
  have hx : v ^^^ was < 18446744073709551616 := Wr (n := 64) (hv v (Ub ..)) hw
  have ih := fun w => xorDecA_told r vs v w (hv v (Ub ..)) fun x h => hv x (Ue _ h)
  have hb : was ^^^ (v ^^^ was) = v := qqk
  rw [xorRest, Ui, xorDecA]
  generalize hxe : v ^^^ was = x at *
  by_cases h0 : x = 0
  ·rw [if_pos h0, Um]
   have ht : turnR ⟨bitsOf 0 1 ++ (xorRest win v vs ++ r), false⟩ win = (some (0, win), ⟨xorRest win v vs ++ r, false⟩) := by
    unfold turnR
    rw [RS.get_put]; rfl
   rw [ht]
   dsimp only
   rw [h0] at hb
   rw [hb, ih win]; rfl
  ·rw [if_neg h0]
   by_cases hf : win.fits x = true
   ·rw [if_pos hf, Um, Um]
    obtain ⟨f1, f2, f3⟩ := qj0 hf
    have ht : turnR ⟨bitsOf 2 2 ++ (bitsOf (x / 2 ^ win.trail) win.long ++ (xorRest win v vs ++ r)), false⟩ win = (some (x, win), ⟨xorRest win v vs ++ r, false⟩) := by
     refine (turnR_2 (je true _) O2 (je false _) (RS.get_put _ _ _)).trans ?_
     rw [shown hx f2 f3, if_pos ⟨f1, h0⟩]
    rw [ht]
    dsimp only
    rw [hb, ih win]; rfl
   ·rw [if_neg hf, Um, Um, Um, Um]
    obtain ⟨l1, l2, l3, l4⟩ := winOf_long h0 hx
    have ht : turnR ⟨bitsOf 3 2 ++ (bitsOf (winOf x).lead 5 ++ (bitsOf ((winOf x).long - 1) 6 ++ (bitsOf (x / 2 ^ (winOf x).trail) (winOf x).long ++ (xorRest (winOf x) v vs ++ r)))), false⟩ win = (some (x, winOf x), ⟨xorRest (winOf x) v vs ++ r, false⟩) := by
     have e1 : (winOf x).long - 1 + 1 = (winOf x).long := by omega
     have e2 : 64 - (winOf x).lead - (winOf x).long = (winOf x).trail := by omega
     have g1 := RS.get_put (winOf x).lead 5 (bitsOf ((winOf x).long - 1) 6 ++ (bitsOf (x / 2 ^ (winOf x).trail) (winOf x).long ++ (xorRest (winOf x) v vs ++ r)))
     have g2 := RS.get_put ((winOf x).long - 1) 6 (bitsOf (x / 2 ^ (winOf x).trail) (winOf x).long ++ (xorRest (winOf x) v vs ++ r))
     rw [Ul (show (winOf x).lead < 2 ^ 5 by omega)] at g1
     rw [Ul (show (winOf x).long - 1 < 2 ^ 6 by omega)] at g2
     have g3 : RS.get ⟨bitsOf (x / 2 ^ (winOf x).trail) (winOf x).long ++ (xorRest (winOf x) v vs ++ r), false⟩ ((winOf x).long - 1 + 1) = (x / 2 ^ (winOf x).trail % 2 ^ (winOf x).long, ⟨xorRest (winOf x) v vs ++ r, false⟩) := by rw [e1]; exact RS.get_put _ _ _
     have := turnR_3 (win := win) (je true _) O2 (je true _) O2 g1 g2 O0 g3
     rw [e1, e2, shown hx (Ug _) (Ug _), if_neg] at this
     ·exact this
     ·rintro (h | h | h)
      ·exact h0 h
      ·exact h rfl
      ·exact hf h
    rw [ht]
    dsimp only
    rw [hb, ih (winOf x)]; rfl
theorem xorDec_told (vs : List Nat) (hv : ∀ v ∈ vs, v < 18446744073709551616) (r : List Bool) : xorDec vs.length ⟨xorBits vs ++ r, false⟩ = some vs := by
 cases vs with
 | nil => rfl
 | cons v vs =>
  have h := hv v (Ub ..)
  show xorDec (vs.length + 1) ⟨(bitsOf v 64 ++ xorRest ⟨false, 0, 0⟩ v vs) ++ r, false⟩ = _
  rw [Um, xorDec, RS.get_put, Ul (show v < 2 ^ 64 from h)]
  dsimp only
  rw [xorDecA_told r vs v ⟨false, 0, 0⟩ h fun x hx => hv x (Ue _ hx)]
  rfl
def packW (b : Nat) : List Nat -> Nat
 | [] => 0
 | x :: r => x + 2 ^ b * packW b r
def kindsL : List (Nat × Nat) := [(240, 0), (120, 0), (60, 1), (30, 2), (20, 3), (15, 4), (12, 5), (10, 6), (8, 7), (7, 8), (6, 10), (5, 12), (4, 15), (3, 20), (2, 30), (1, 60)]
def fitsK (k : Nat × Nat) (u : List Nat) : Option Nat := if k.2 = 0 ∧ u.length < k.1 then none else if (u.take k.1).all (fun x => decide (len64 x <= k.2)) = true then some (min u.length k.1) else none
def wordA : Nat -> List (Nat × Nat) -> List Nat -> Option (Nat × Nat)
 | _, [], _ => none
 | i, k :: ks, u => match fitsK k u with
  | some n => some (i * 1152921504606846976 + packW k.2 (u.take n), n)
  | none => wordA (i + 1) ks u
def simpEncF : Nat -> List Nat -> Option (List Nat)
 | _, [] => some []
 | 0, _ :: _ => none
 | k + 1, a :: r => match wordA 0 kindsL (a :: r) with
  | none => none
  | some (w, n) => (simpEncF k ((a :: r).drop n)).map fun y => w :: y
def simpEnc (u : List Nat) : Option (List Nat) := simpEncF u.length u
def unpackW (x b m : Nat) : List Nat := (List.range m).map fun j => x / 2 ^ (j * b) % 2 ^ b
def simpDecA : List Nat -> Nat -> Option (List Nat)
 | [], _ => some []
 | x :: ws, room => if room = 0 then none else
  (simpDecA ws (room - min (kindsL.getD (x / 1152921504606846976) (0, 0)).1 room)).map fun r =>
   unpackW (x % 1152921504606846976) (kindsL.getD (x / 1152921504606846976) (0, 0)).2 (min (kindsL.getD (x / 1152921504606846976) (0, 0)).1 room) ++ r
def simpDec (ws : List Nat) (n : Nat) : Option (List Nat) := match simpDecA ws n with
 | none => none
 | some out => if out.length = n ∧ simpEnc out = some ws then some out else none
theorem packW_lt {b : Nat} : ∀ {l : List Nat}, (∀ x ∈ l, x < 2 ^ b) -> packW b l < 2 ^ (b * l.length)
 | [], _ => by simp [packW]
 | x :: l, h => by
  have h1 := packW_lt (l := l) fun y hy => h y (Ue _ hy)
  have h2 := h x (Ub ..)
  rw [packW, Ui, Nat.mul_add, Nat.mul_one, Xu, Wh (2 ^ (b * l.length))]
  have h3 : 2 ^ b * (packW b l + 1) <= 2 ^ b * 2 ^ (b * l.length) := Nat.mul_le_mul_left _ h1
  rw [Nat.mul_add] at h3
  omega
theorem unpackW_packW {b : Nat} : ∀ {l : List Nat}, (∀ x ∈ l, x < 2 ^ b) -> ∀ m, m <= l.length -> unpackW (packW b l) b m = l.take m
 | _, _, 0, _ => by simp [unpackW]
 | [], _, m + 1, hm => by simp at hm
 | x :: l, h, m + 1, hm => by
  have h2 := h x (Ub ..)
  have ih := unpackW_packW (l := l) (fun y hy => h y (Ue _ hy)) m (by simpa using hm)
  unfold unpackW at ih ⊢
  rw [List.range_succ_eq_map, Ux, List.map_map, Vu]
  congr 1
  ·rw [packW, Nat.zero_mul, Nat.pow_zero, Nat.div_one, Nat.add_mul_mod_self_left, Ul h2]
  ·rw [<- ih]
   apply List.map_congr_left
   intro j _
   show packW b (x :: l) / 2 ^ ((j + 1) * b) % 2 ^ b = _
   congr 1
   rw [packW, Vi, Nat.one_mul, Wt (j * b), Xu, <- Nat.div_div_eq_div_mul, Nat.add_mul_div_left _ _ (Wj b), Nat.div_eq_of_lt h2, Uz]
theorem fitsK_some {k : Nat × Nat} {u : List Nat} {n : Nat} (h : fitsK k u = some n) : n = min u.length k.1 ∧ (∀ x ∈ u.take n, x < 2 ^ k.2) ∧ (k.2 = 0 -> n = k.1) := by
 unfold fitsK at h
 split at h
 ·cases h
 ·rename_i h0
  split at h
  ·rename_i h1
   cases h
   refine ⟨rfl, fun x hx => ?_, fun hk => by omega⟩
   have : x ∈ u.take k.1 := by
    rcases Nat.le_total u.length k.1 with h2 | h2
    ·rw [Vs h2] at hx; rw [Uv h2]; exact Xi hx
    ·rw [Nat.min_eq_right h2] at hx; exact hx
   have := Xe.1 h1 x this
   exact len64_le.1 (by simpa using this)
  ·cases h
theorem wordA_some : ∀ {i : Nat} {ks : List (Nat × Nat)} {u : List Nat} {w n : Nat}, wordA i ks u = some (w, n) -> ∃ j k, ks[j]? = some k ∧ fitsK k u = some n ∧ w = (i + j) * 1152921504606846976 + packW k.2 (u.take n)
 | _, [], _, _, _, h => by cases h
 | i, k :: ks, u, w, n, h => by
  rw [wordA] at h
  cases hf : fitsK k u with
  | some m => rw [hf] at h; cases h; exact ⟨0, k, rfl, hf, by simp⟩
  | none =>
   rw [hf] at h
   obtain ⟨j, k', h1, h2, h3⟩ := wordA_some h
   exact ⟨j + 1, k', by simpa using h1, h2, by rw [h3]; congr 2; omega⟩
theorem kindsL_ok : ∀ (j : Nat) (k : Nat × Nat), kindsL[j]? = some k -> j < 16 ∧ 0 < k.1 ∧ k.1 <= 240 ∧ k.2 * k.1 <= 60 := by
 intro j k h
 have hj : j < 16 := (Uf.1 h).1
 refine ⟨hj, ?_⟩
 have hall : ∀ k ∈ kindsL, 0 < k.1 ∧ k.1 <= 240 ∧ k.2 * k.1 <= 60 := by decide
 exact hall k (Uj h)
theorem wordA_pos {u : List Nat} (hu : u ≠ []) {w n : Nat} (h : wordA 0 kindsL u = some (w, n)) : 0 < n ∧ n <= u.length := by
 obtain ⟨j, k, g1, g2, g3⟩ := wordA_some h
 obtain ⟨f1, f2, f3⟩ := fitsK_some g2
 obtain ⟨k1, k2, k3, k4⟩ := kindsL_ok j k g1
 have : 0 < u.length := Vt.2 hu
 omega
theorem simpEncF_fuel : ∀ (k m : Nat) (u : List Nat), u.length <= k -> k <= m -> simpEncF m u = simpEncF k u
 | k, m, [], _, _ => by rw [simpEncF, simpEncF]
 | 0, _, _ :: _, h, _ => by simp at h
 | _ + 1, 0, _ :: _, _, h => by omega
 | k + 1, m + 1, a :: r, h, hm => by
  rw [simpEncF, simpEncF]
  cases hw : wordA 0 kindsL (a :: r) with
  | none => rfl
  | some wn =>
   obtain ⟨w, n⟩ := wn
   have := wordA_pos O8 hw
   dsimp only
   rw [simpEncF_fuel k m _ (by rw [Uq]; rw [Ui] at h ⊢; omega) O0]
theorem simpEnc_nil : simpEnc [] = some [] := rfl
theorem simpEnc_none {u : List Nat} (hu : u ≠ []) (h : wordA 0 kindsL u = none) : simpEnc u = none := by
 cases u with
 | nil => exact absurd rfl hu
 | cons a r => unfold simpEnc; rw [Ui, simpEncF, h]
theorem simpEnc_some {u : List Nat} (hu : u ≠ []) {w n : Nat} (h : wordA 0 kindsL u = some (w, n)) : simpEnc u = (simpEnc (u.drop n)).map fun y => w :: y := by
 have hp := wordA_pos hu h
 cases u with
 | nil => exact absurd rfl hu
 | cons a r =>
  unfold simpEnc
  rw [Ui, simpEncF, h]
  dsimp only
  rw [simpEncF_fuel ((a :: r).drop n).length r.length _ (Ug _) (by rw [Uq, Ui]; omega)]
theorem simpDecA_told : ∀ (m : Nat) (u ws : List Nat), u.length <= m -> simpEnc u = some ws -> simpDecA ws u.length = some u ∧ ∀ w ∈ ws, w < 18446744073709551616
 | m, [], ws, _, h => by
  rw [simpEnc_nil] at h
  cases h
  exact ⟨rfl, fun _ h => by cases h⟩
 | 0, _ :: _, _, hm, _ => by simp at hm
 | m + 1, a :: b, ws, hm, h => by
  have hne : a :: b ≠ [] := by simp
  generalize hu : a :: b = u at *
  have hpos : 0 < u.length := Vt.2 hne
  cases hw : wordA 0 kindsL u with
  | none => rw [simpEnc_none hne hw] at h; cases h
  | some wn =>
   obtain ⟨w, n⟩ := wn
   rw [simpEnc_some hne hw] at h
   obtain ⟨r, h1, rfl⟩ := Va.1 h
   have hn := wordA_pos hne hw
   obtain ⟨j, k, g1, g2, g3⟩ := wordA_some hw
   obtain ⟨f1, f2, f3⟩ := fitsK_some g2
   obtain ⟨k1, k2, k3, k4⟩ := kindsL_ok j k g1
   have hlt : packW k.2 (u.take n) < 1152921504606846976 := by
    refine Xp (packW_lt f2) ?_
    have : k.2 * (u.take n).length <= 60 := by
     rw [Us]
     exact Uy (Nat.mul_le_mul_left _ O0) k4
    exact Vg O2 this
   rw [Uz] at g3
   have hdiv : w / 1152921504606846976 = j := by omega
   have hmod : w % 1152921504606846976 = packW k.2 (u.take n) := by omega
   obtain ⟨ih, ih2⟩ := simpDecA_told m (u.drop n) r O22 h1
   refine ⟨?_, ?_⟩
   ·rw [simpDecA, if_neg O0, hdiv, hmod]
    have hk : kindsL.getD j (0, 0) = k := by simp [List.getD, g1]
    rw [hk]
    have hmin : min k.1 u.length = n := by omega
    rw [hmin, show u.length - n = (u.drop n).length by simp, ih, unpackW_packW f2 n O6]
    simp [List.take_take]
   ·intro x hx
    rcases Uo.1 hx with rfl | hx
    ·omega
    ·exact ih2 x hx
theorem simpDec_told {u ws : List Nat} (h : simpEnc u = some ws) : simpDec ws u.length = some u := by
 unfold simpDec
 rw [(simpDecA_told _ u ws (Ug _) h).1]
 dsimp only
 rw [if_pos ⟨rfl, h⟩]
end
end Go.Hw
