/- What the proof of TakeLeaves needs, part 5: plain lemmas, and what each function does. -/
import Derived.Test.YtnnehiiblfmpnaaGreatDoorQTakeLeavesd
set_option linter.unusedVariables false
set_option linter.unusedSimpArgs false
set_option linter.unnecessarySimpa false
namespace Go.Proofs.YtnnehiiblfmpnaaGreatDoor
open Go.Hw
set_option maxRecDepth 100000
def m4 (n : Nat) : Nat := max 1 ((n + 3) / 4)
theorem m4_le (n : Nat) (h : n ≤ 4) : m4 n = 1 := by unfold m4; omega
theorem m4_gt (n : Nat) (h : 4 < n) : m4 n = m4 (n - 4) + 1 := by unfold m4; omega
namespace Tk
structure PhA (x : Tk) : Prop where
 d : x.d = none
 dec : x.dec = false
 pin : x.pin = false
 done : x.done = false
 row : x.row = []
 out : x.out = []
structure PhB (c : List UInt8) (r : Nat) (bad : Bool) (x : Tk) : Prop where
 d : ∃ d, x.d = some d ∧ d.bs = c ∧ d.on = ⟨true, false, r, bad⟩
 dec : x.dec = false
 pin : x.pin = false
 done : x.done = false
 row : x.row = []
 out : x.out = []
structure PhC (o : Option (List Smp)) (x : Tk) : Prop where
 d : ∃ d, x.d = some d ∧ d.told = o
 dec : x.dec = true
 pin : x.pin = false
 done : x.done = false
 row : x.row = []
 out : x.out = []
structure PhD (w : List Smp) (x : Tk) : Prop where
 pin : x.pin = true
 done : x.done = false
 row : x.row = w
 out : x.out = w.take x.i
 i : x.i ≤ w.length
structure PhE (w : List Smp) (x : Tk) : Prop where
 pin : x.pin = false
 done : x.done = true
 row : x.row = w
 out : x.out = w
variable {x : Tk} {S : Sto} {C : Cac}
theorem new_A (s f b fr to : Int) : (Tk.new s f b fr to).PhA := ⟨rfl, rfl, rfl, rfl, rfl, rfl⟩
theorem get_none {k : Key3} (h : (C.get k).2 = none) : (C.get k).1 = C := by
 unfold Cac.get at h ⊢
 split at h
 ·cases h
 ·rename_i h1; rw [if_neg h1]
theorem stepA (h : x.PhA) : x.step S C = x.begin_ S C := by unfold step; rw [h.done, h.pin, h.d]; rfl
theorem pinned_D (L : List Smp) (hd : x.done = false) (ho : x.out = []) : (x.pinned L).PhD (within L x.fr x.to) := ⟨rfl, hd, rfl, by show x.out = (within L x.fr x.to).take 0; rw [ho]; rfl, Nat.zero_le _⟩
theorem stepA_hit (h : x.PhA) {L : List Smp} (hg : (C.get x.key).2 = some L) : x.step S C = (x.pinned L, ((C.get x.key).1.pinN x.key 1).1, 0) := by rw [stepA h]; unfold begin_; rw [hg]
theorem stepA_miss (h : x.PhA) (hg : (C.get x.key).2 = none) {e : Kept} (hb : mget x.key.blob S.l = some e) : x.step S C = ({ x with d := some (Dcd.new e.bs) }, C, 0) ∧ Tk.PhB e.bs (decL e.bs).length (!(chOpen e.bs).isSome) { x with d := some (Dcd.new e.bs) } := by
 refine ⟨?_, ⟨_, rfl, rfl, rfl⟩, h.dec, h.pin, h.done, h.row, h.out⟩
 rw [stepA h]; unfold begin_; rw [hg]; dsimp only; rw [hb, get_none hg]
theorem stepB {c : List UInt8} {r : Nat} {bad : Bool} (h : x.PhB c r bad) : ∃ x', x.step S C = (x', C, 0) ∧ x'.key = x.key ∧ x'.fr = x.fr ∧ x'.to = x.to ∧ (4 < r → x'.PhB c (r - 4) bad) ∧ (r ≤ 4 → x'.PhC (if bad then none else some (decL c))) := by
 obtain ⟨d, h1, h2, h3⟩ := h.d
 have e : x.step S C = ({ x with d := some (d.step 4), dec := !(d.more 4) }, C, 0) := by unfold step; rw [h.done, h.pin, h1]; dsimp only; rw [h.dec]; rfl
 have c4 : clampN 4 = 4 := by decide
 have hs : (d.step 4).s = ⟨true, decide ((r : Int) - 4 ≤ 0), (r : Int) - 4, bad⟩ := by unfold Dcd.step; rw [h3]; unfold WkS.step; rw [c4]; rfl
 have hm : d.more 4 = !decide ((r : Int) - 4 ≤ 0) := by unfold Dcd.more; rw [h3]; unfold WkS.more; rw [c4]; rfl
 refine ⟨_, e, rfl, rfl, rfl, fun hr => ?_, fun hr => ?_⟩
 ·have hd : decide ((r : Int) - 4 ≤ 0) = false := decide_eq_false O0
  rw [hd] at hs hm
  refine ⟨⟨_, rfl, h2, ?_⟩, by rw [hm]; rfl, h.pin, h.done, h.row, h.out⟩
  unfold Dcd.on
  rw [hs]
  show (⟨true, false, (r : Int) - 4, bad⟩ : WkS) = _
  congr 1
  omega
 ·have hd : decide ((r : Int) - 4 ≤ 0) = true := decide_eq_true O0
  rw [hd] at hs hm
  refine ⟨⟨_, rfl, ?_⟩, by rw [hm]; rfl, h.pin, h.done, h.row, h.out⟩
  have hb : (d.step 4).bs = c := h2
  unfold Dcd.told Dcd.rows
  rw [hs, hb]
  cases bad <;> rfl
def putRes (x : Tk) (C : Cac) : Option (List Smp) → Tk × Cac × Int
 | none => (x, C, 7)
 | some L => if (C.put x.key L).2 then (x.pinned L, ((C.put x.key L).1.pinN x.key 1).1, 0) else (x, (C.put x.key L).1, 6)
theorem stepC {o : Option (List Smp)} (h : x.PhC o) : x.step S C = putRes x C o := by
 obtain ⟨d, h1, h2⟩ := h.d
 unfold step; rw [h.done, h.pin, h1]; dsimp only; rw [h.dec]
 show x.put d C = _
 unfold put
 rw [h2]
 cases o <;> rfl
theorem stepD {w : List Smp} (h : x.PhD w) : ∃ x', x'.key = x.key ∧ x'.fr = x.fr ∧ x'.to = x.to ∧ x'.d = x.d ∧ (4 < w.length - x.i → x'.PhD w ∧ x'.i = x.i + 4 ∧ x.step S C = (x', C, 0)) ∧ (w.length - x.i ≤ 4 → x'.PhE w ∧ x.step S C = (x', (C.unpin x.key).1, 0)) := by
 have e0 : x.step S C = if x.take4.rest.length = 0 then ({ x.take4 with pin := false, done := true }, (C.unpin x.key).1, 0) else (x.take4, C, 0) := by unfold step; rw [h.done, h.pin]; rfl
 have hrl : x.rest.length = w.length - x.i := by unfold rest; rw [List.length_drop, h.row]
 have hi := h.i
 have hti : x.take4.i = x.i + min 4 x.rest.length := rfl
 have htl : x.take4.rest.length = w.length - (x.i + min 4 x.rest.length) := by show (x.row.drop (x.i + min 4 x.rest.length)).length = _; rw [List.length_drop, h.row]
 have hto : x.take4.out = w.take (x.i + min 4 x.rest.length) := by
  show x.out ++ x.rest.take (min 4 x.rest.length) = _
  rw [h.out, List.take_add]
  unfold rest
  rw [h.row]
 by_cases hc : 4 < w.length - x.i
 ·rw [if_neg O0] at e0
  have hmin : min 4 x.rest.length = 4 := by omega
  rw [hmin] at hti hto
  refine ⟨x.take4, rfl, rfl, rfl, rfl, fun _ => ⟨⟨h.pin, h.done, h.row, by rw [hto, hti], by rw [hti]; omega⟩, hti, e0⟩, fun hh => by omega⟩
 ·rw [if_pos O0] at e0
  refine ⟨{ x.take4 with pin := false, done := true }, rfl, rfl, rfl, rfl, fun hh => absurd hh hc, fun _ => ⟨⟨rfl, rfl, h.row, ?_⟩, e0⟩⟩
  show x.take4.out = w
  rw [hto, List.take_of_length_le O0]
theorem stepE {w : List Smp} (h : x.PhE w) : x.step S C = (x, C, 0) := by unfold step; rw [h.done]; rfl
end Tk
structure Rn0 where
 key : Key3
 fr : Int
 to : Int
 c : List UInt8
 L : List Smp
 C0 : Cac
namespace Rn0
def hit (R : Rn0) : Bool := (R.C0.get R.key).2.isSome
def land (R : Rn0) : Cac := if R.hit then ((R.C0.get R.key).1.pinN R.key 1).1 else ((R.C0.put R.key R.L).1.pinN R.key 1).1
def fin (R : Rn0) : Cac := (R.land.unpin R.key).1
def w (R : Rn0) : List Smp := within R.L R.fr R.to
structure Ok (R : Rn0) (S : Sto) : Prop where
 opens : (chOpen R.c).map Prod.fst = some R.L
 blob : ∃ e, mget R.key.blob S.l = some e ∧ e.bs = R.c
 was : ∀ M, (R.C0.get R.key).2 = some M → M = R.L
 room : R.hit = false → (R.C0.put R.key R.L).2 = true
 len : R.L.length ≤ 65535
def Ph (R : Rn0) (k : Nat) (x : Tk) (C : Cac) : Prop := x.key = R.key ∧ x.fr = R.fr ∧ x.to = R.to ∧
 ((x.PhA ∧ C = R.C0 ∧ k = if R.hit then 1 + m4 R.w.length else 1 + m4 R.L.length + 1 + m4 R.w.length) ∨
  (∃ r, x.PhB R.c r false ∧ C = R.C0 ∧ R.hit = false ∧ k = m4 r + 1 + m4 R.w.length) ∨
  (x.PhC (some R.L) ∧ C = R.C0 ∧ R.hit = false ∧ k = 1 + m4 R.w.length) ∨
  (x.PhD R.w ∧ C = R.land ∧ k = m4 (R.w.length - x.i)) ∨
  (x.PhE R.w ∧ C = R.fin ∧ k = 0))
variable {R : Rn0} {S : Sto} {x : Tk} {C : Cac}
theorem m4_pos (n : Nat) : 1 ≤ m4 n := by unfold m4; omega
theorem Ph.zero {k : Nat} (h : R.Ph k x C) : (k = 0 ↔ x.done = true) ∧ (k = 0 → x.PhE R.w ∧ C = R.fin) := by
 have h1 := m4_pos R.w.length
 have h2 := m4_pos (R.w.length - x.i)
 rcases h.2.2.2 with ⟨a, b, c⟩ | ⟨r, a, b, c, d⟩ | ⟨a, b, c, d⟩ | ⟨a, b, c⟩ | ⟨a, b, c⟩
 ·have hk : k ≠ 0 := by split at c <;> omega
  exact ⟨⟨fun e => absurd e hk, fun e => by rw [a.done] at e; cases e⟩, fun e => absurd e hk⟩
 ·have hk : k ≠ 0 := by omega
  exact ⟨⟨fun e => absurd e hk, fun e => by rw [a.done] at e; cases e⟩, fun e => absurd e hk⟩
 ·have hk : k ≠ 0 := by omega
  exact ⟨⟨fun e => absurd e hk, fun e => by rw [a.done] at e; cases e⟩, fun e => absurd e hk⟩
 ·have hk : k ≠ 0 := by omega
  exact ⟨⟨fun e => absurd e hk, fun e => by rw [a.done] at e; cases e⟩, fun e => absurd e hk⟩
 ·exact ⟨⟨fun _ => a.done, fun _ => c⟩, fun _ => ⟨a, b⟩⟩
theorem Ph.step {k : Nat} (hR : R.Ok S) (h : R.Ph k x C) : (x.step S C).2.2 = 0 ∧ R.Ph (k - 1) (x.step S C).1 (x.step S C).2.1 := by
 obtain ⟨k1, k2, k3, h⟩ := h
 obtain ⟨e, he, heb⟩ := hR.blob
 have hdl : decL R.c = R.L := by unfold decL; rw [hR.opens]; rfl
 have hsome : (chOpen R.c).isSome = true := by have := hR.opens; cases hx : chOpen R.c with | none => rw [hx] at this; cases this | some y => rfl
 rcases h with ⟨a, b, c⟩ | ⟨r, a, b, c, d⟩ | ⟨a, b, c, d⟩ | ⟨a, b, c⟩ | ⟨a, b, c⟩
 ·subst b
  cases hg : (R.C0.get R.key).2 with
  | some M =>
   obtain rfl := hR.was M hg
   have hh : R.hit = true := by unfold hit; rw [hg]; rfl
   rw [if_pos hh] at c
   rw [Tk.stepA_hit a (by rw [k1]; exact hg)]
   refine ⟨rfl, k1, k2, k3, .inr (.inr (.inr (.inl ⟨?_, ?_, ?_⟩)))⟩
   ·have := Tk.pinned_D (x := x) R.L a.done a.out
    rw [k2, k3] at this; exact this
   ·show _ = R.land; unfold land; rw [if_pos hh, k1]
   ·show _ = m4 (R.w.length - 0); rw [Nat.sub_zero]; omega
  | none =>
   have hh : R.hit = false := by unfold hit; rw [hg]; rfl
   rw [hh, if_neg O7] at c
   obtain ⟨e1, e2⟩ := Tk.stepA_miss (S := S) a (by rw [k1]; exact hg) (by rw [k1]; exact he)
   rw [e1]
   rw [heb, hdl, hsome] at e2
   refine ⟨rfl, k1, k2, k3, .inr (.inl ⟨R.L.length, ?_, rfl, hh, by omega⟩)⟩
   rw [heb]; exact e2
 ·subst b
  obtain ⟨x', e1, e2, e3, e4, e5, e6⟩ := Tk.stepB (S := S) (C := R.C0) a
  rw [e1]
  refine ⟨rfl, e2.trans k1, e3.trans k2, e4.trans k3, ?_⟩
  by_cases hr : 4 < r
  ·have := m4_gt r hr
   exact .inr (.inl ⟨r - 4, e5 hr, rfl, c, by omega⟩)
  ·have := m4_le r O0
   have h6 := e6 O0
   rw [hdl] at h6
   exact .inr (.inr (.inl ⟨h6, rfl, c, by omega⟩))
 ·subst b
  have hp := hR.room c
  have e1 : x.step S R.C0 = if (R.C0.put x.key R.L).2 then (x.pinned R.L, ((R.C0.put x.key R.L).1.pinN x.key 1).1, 0) else (x, (R.C0.put x.key R.L).1, 6) := Tk.stepC a
  rw [k1, if_pos hp] at e1
  rw [e1]
  refine ⟨rfl, k1, k2, k3, .inr (.inr (.inr (.inl ⟨?_, ?_, ?_⟩)))⟩
  ·have := Tk.pinned_D (x := x) R.L a.done a.out
   rw [k2, k3] at this; exact this
  ·show _ = R.land; unfold land; rw [c]; rfl
  ·show _ = m4 (R.w.length - 0); rw [Nat.sub_zero]; omega
 ·subst b
  obtain ⟨x', e1, e2, e3, _, e4, e5⟩ := Tk.stepD (S := S) (C := R.land) a
  by_cases hr : 4 < R.w.length - x.i
  ·obtain ⟨f1, f2, f3⟩ := e4 hr
   have := m4_gt _ hr
   rw [f3]
   exact ⟨rfl, e1.trans k1, e2.trans k2, e3.trans k3, .inr (.inr (.inr (.inl ⟨f1, rfl, by show _ = m4 (R.w.length - x'.i); rw [f2, show R.w.length - (x.i + 4) = R.w.length - x.i - 4 by omega]; omega⟩)))⟩
  ·obtain ⟨f1, f3⟩ := e5 O0
   have := m4_le _ (show R.w.length - x.i ≤ 4 by omega)
   rw [f3]
   exact ⟨rfl, e1.trans k1, e2.trans k2, e3.trans k3, .inr (.inr (.inr (.inr ⟨f1, by show _ = R.fin; unfold fin; rw [k1], by omega⟩)))⟩
 ·rw [Tk.stepE a]
  exact ⟨rfl, k1, k2, k3, .inr (.inr (.inr (.inr ⟨a, b, by omega⟩)))⟩
theorem w_len : R.w.length ≤ R.L.length := List.length_filter_le _ _
theorem Ph.size {k : Nat} (hR : R.Ok S) (h : R.Ph k x C) : x.row.length + x.out.length ≤ 200000 := by
 have h1 := hR.len
 have h2 : R.w.length ≤ R.L.length := w_len
 rcases h.2.2.2 with ⟨a, _⟩ | ⟨r, a, _⟩ | ⟨a, _⟩ | ⟨a, _⟩ | ⟨a, _⟩
 ·rw [a.row, a.out]; exact Nat.zero_le _
 ·rw [a.row, a.out]; exact Nat.zero_le _
 ·rw [a.row, a.out]; exact Nat.zero_le _
 ·rw [a.row, a.out, List.length_take]; omega
 ·rw [a.row, a.out]; omega
end Rn0
end Go.Proofs.YtnnehiiblfmpnaaGreatDoor

namespace Go.Hw.Cac
variable {C : Cac} {N : Int}
theorem Good.tight {M : Int} (h : C.Good M) (hb : ∀ k a, C.pins k = some a → a ≤ N) : C.Good N := ⟨h.clk, hb, h.nodup, h.same, h.rows⟩
theorem pin_unpin (h : C.Good N) {k : Key3} {a : Int} (hk : C.pins k = some a) : (C.pinN k 1).1.Good (N + 1) ∧ (C.pinN k 1).1.pins k = some (a + 1) ∧ (C.pinN k 1).1.rows = C.rows ∧ (C.pinN k 1).1.clk.most = C.clk.most ∧ (∀ j, j ≠ k → (C.pinN k 1).1.pins j = C.pins j) ∧
  ((C.pinN k 1).1.unpin k).1.Good N ∧ ((C.pinN k 1).1.unpin k).1.rows = C.rows ∧ ((C.pinN k 1).1.unpin k).1.clk.most = C.clk.most ∧ ∀ j, ((C.pinN k 1).1.unpin k).1.pins j = C.pins j := by
 have hge := h.ge hk
 have hle := h.big k a hk
 obtain ⟨p1, p2, p3, p4, p5⟩ := pin_some h 1 hk
 have g1 : (C.pinN k 1).1.Good (N + 1) := p5.mono O0
 have e1 := pin_at h 1 hk
 have e1k : (C.pinN k 1).1.pins k = some (a + 1) := by rw [e1, if_pos rfl]; congr 1; omega
 have hu := unpin_pos g1 e1k O0
 obtain ⟨u1, u2, u3, u4, u5⟩ := pin_some g1 (-1) e1k
 have e2 := pin_at g1 (-1) e1k
 rw [hu]
 have hall : ∀ j, ((C.pinN k 1).1.pinN k (-1)).1.pins j = C.pins j := by
  intro j
  rw [e2]
  split
  ·rename_i hj; subst hj; rw [hk]; congr 1; omega
  ·rename_i hj; rw [e1, if_neg hj]
 refine ⟨g1, e1k, p2, p3, fun j hj => by rw [e1, if_neg hj], u5.tight fun j b hj => ?_, by rw [u2, p2], by rw [u3, p3], hall⟩
 rw [hall] at hj
 exact h.big j b hj
end Go.Hw.Cac
namespace Go.Proofs.YtnnehiiblfmpnaaGreatDoor
open Go.Hw
set_option maxRecDepth 100000
namespace Rn0
def base (R : Rn0) : Cac := if R.hit then (R.C0.get R.key).1 else (R.C0.put R.key R.L).1
variable {R : Rn0} {S : Sto} {x : Tk} {C : Cac} {N : Int}
theorem hit_iff (hG : R.C0.Good N) : R.hit = (R.C0.pins R.key).isSome := by unfold hit; rw [(Cac.get_good hG _).2.2.2.1]; exact hG.same _
theorem base_good (hG : R.C0.Good N) (hN : 0 ≤ N) (hR : R.Ok S) : R.base.Good N ∧ (∃ a, R.base.pins R.key = some a) ∧ (R.hit = true → R.base.rows = R.C0.rows ∧ R.base.clk.most = R.C0.clk.most ∧ ∀ j, R.base.pins j = R.C0.pins j) ∧ (R.hit = false → Cac.PutIn R.C0 R.key R.L R.base N) := by
 have hi := hit_iff hG
 have hl := hR.len
 unfold base
 cases hh : R.hit with
 | true =>
  rw [hh] at hi
  obtain ⟨g1, g2, g3, g4, g5⟩ := Cac.get_good hG R.key
  have gp := Cac.get_pins hG R.key
  obtain ⟨a, ha⟩ := Option.isSome_iff_exists.1 hi.symm
  exact ⟨g1, ⟨a, by rw [if_pos rfl, gp]; exact ha⟩, fun _ => ⟨g3, g5, fun j => gp j⟩, fun h => by cases h⟩
 | false =>
  rw [hh] at hi
  have hno : R.C0.pins R.key = none := by simpa using hi.symm
  have hroom := hR.room hh
  have hp : (R.C0.put R.key R.L).2 = true ∧ Cac.PutIn R.C0 R.key R.L (R.C0.put R.key R.L).1 N := by
   refine Cac.put_in hG hN O0 hno fun hc => ?_
   rw [Cac.put_full hG hno hc.1 hc.2] at hroom
   cases hroom
  exact ⟨hp.2.good, ⟨0, hp.2.here⟩, fun h => (by cases h), fun _ => hp.2⟩
theorem land_eq : R.land = (R.base.pinN R.key 1).1 := by
 unfold land base
 cases R.hit <;> rfl
structure Fin (R : Rn0) (N : Int) : Prop where
 good : R.fin.Good N
 landed : R.land.Good (N + 1)
 rows : R.fin.rows = R.base.rows
 most : R.fin.clk.most = R.base.clk.most
 pins : ∀ j, R.fin.pins j = R.base.pins j
theorem fin_ok (hG : R.C0.Good N) (hN : 0 ≤ N) (hR : R.Ok S) : R.Fin N := by
 obtain ⟨b1, ⟨a, b2⟩, _, _⟩ := base_good hG hN hR
 have h := Cac.pin_unpin b1 b2
 have he := land_eq (R := R)
 have hf : R.fin = ((R.base.pinN R.key 1).1.unpin R.key).1 := by unfold fin; rw [he]
 exact ⟨by rw [hf]; exact h.2.2.2.2.2.1, by rw [he]; exact h.1, by rw [hf]; exact h.2.2.2.2.2.2.1, by rw [hf]; exact h.2.2.2.2.2.2.2.1, fun j => by rw [hf]; exact h.2.2.2.2.2.2.2.2 j⟩
theorem Ph.good {k : Nat} (hG : R.C0.Good N) (hN : 0 ≤ N) (hR : R.Ok S) (h : R.Ph k x C) : C.Good (N + 1) := by
 have hf := fin_ok hG hN hR
 rcases h.2.2.2 with ⟨_, b, _⟩ | ⟨r, _, b, _⟩ | ⟨_, b, _⟩ | ⟨_, b, _⟩ | ⟨_, b, _⟩
 ·rw [b]; exact hG.mono O0
 ·rw [b]; exact hG.mono O0
 ·rw [b]; exact hG.mono O0
 ·rw [b]; exact hf.landed
 ·rw [b]; exact hf.good.mono O0
def total (R : Rn0) : Nat := if R.hit then 1 + m4 R.w.length else 1 + m4 R.L.length + 1 + m4 R.w.length
theorem Ph.start (s f b : Int) (hk : R.key = ⟨s, f, b⟩) : R.Ph R.total (Tk.new s f b R.fr R.to) R.C0 := ⟨hk.symm, rfl, rfl, .inl ⟨Tk.new_A _ _ _ _ _, rfl, rfl⟩⟩
end Rn0
section
variable {w0 w : World} {l : List HProp} {t p b : Nat} {x : Tk} {C : Cac} {S : Sto} {N : Int}
theorem step_good (hT : Tz w0) (hx : x.row.length + x.out.length ≤ 200000) (hC : C.Good N) (hN : 0 ≤ N ∧ N ≤ 1099511627776) (hS : ∀ id e, mget id S.l = some e → e.bs.length ≤ 140737488355328) (h : St w0 (IsTk t x :: IsStore b S :: IsCache p C :: l) w) :
  Ret Tryz.prog 27 [.pointer (some ⟨t, 0, none⟩), .pointer (some ⟨b, 0, none⟩), .pointer (some ⟨p, 0, none⟩)] w fun v w' => v = .int .i64 (x.step S C).2.2 ∧ St w0 (IsTk t (x.step S C).1 :: IsStore b S :: IsCache p (x.step S C).2.1 :: l) w' :=
 take_Step hT O0 (hC.ok hN.2) ((Cac.get_good hC _).1.ok hN.2) (fun L hL => (Cac.put_good hC hN.1 O0).ok hN.2) hS h
end
end Go.Proofs.YtnnehiiblfmpnaaGreatDoor

namespace Go.Proofs.YtnnehiiblfmpnaaGreatDoor
open Go.Hw
set_option maxHeartbeats 4000000
set_option maxRecDepth 100000
section
variable {w0 w : World} {l : List HProp} {t p b : Nat} {S : Sto} {N : Int}
end
end Go.Proofs.YtnnehiiblfmpnaaGreatDoor

namespace Go.Hw
def b2u (b : Bool) : UInt8 := UInt8.ofNat b.toNat
def b2us (l : List Bool) : List UInt8 := l.map b2u
theorem b2u_nat (b : Bool) : (b2u b).toNat = b.toNat := by cases b <;> rfl
theorem b2us_get {l : List Bool} {j : Nat} {b : Bool} (h : l[j]? = some b) : (b2us l)[j]? = some (b2u b) := by simp [b2us, h]
theorem shl_i64 {a : Int} {m : Nat} (hm : m ≤ 64) (h : I64 (a * 2 ^ m)) : IntKind.i64.wrap (a * 2 ^ (min ((m : Int)).toNat IntKind.i64.bits)) = a * 2 ^ m := by
 rw [show min ((m : Int)).toNat IntKind.i64.bits = m by simp [IntKind.bits]; omega]
 exact wrap64 h.1 h.2
theorem two_pow_int (m : Nat) : ((2 : Int) ^ m) = ((2 ^ m : Nat) : Int) := by simp
theorem lead31 (x : Nat) : (winOf x).lead = min (64 - len64 x) 31 := rfl
end Go.Hw
namespace Go.Proofs.YtnnehiiblfmpnaaGreatDoor
open Go.Hw
set_option maxHeartbeats 4000000
set_option maxRecDepth 100000
abbrev RwPt (p : Nat) (a : Option Addr) (n c : Nat) : HProp := pt p (.cells [.slice a n c].toArray 190 (0, 0))
def IsRW (p : Nat) (bs : List Bool) : HProp := ex fun q : Option Addr × Nat => all [RwPt p q.1 bs.length q.2, Own 5 1 q.1 bs.length q.2 (bytesV (b2us bs))]
section
variable {w0 w : World} {l : List HProp} {p : Nat} {bs : List Bool}
theorem St.rw : St w0 (IsRW p bs :: l) w ↔ ∃ a c, St w0 (RwPt p a bs.length c :: Own 5 1 a bs.length c (bytesV (b2us bs)) :: l) w := by
 unfold IsRW
 rw [St.ex]
 exact ⟨fun ⟨q, h⟩ => ⟨q.1, q.2, h.join⟩, fun ⟨a, c, h⟩ => ⟨(a, c), St.fold [_, _] h⟩⟩
theorem St.rw_new (h : St w0 (pt p (.cells [.slice none 0 0].toArray 190 (0, 0)) :: l) w) : St w0 (IsRW p [] :: l) w := St.rw.2 ⟨none, 0, (St.ownNil 5 1 h).f 1⟩
theorem rw_Put (v : Nat) (n : Int) (hv : v < 18446744073709551616) (hlen : bs.length ≤ 70368744177664) (h : St w0 (IsRW p bs :: l) w) :
  Ret Tryz.prog 140 [.pointer (some ⟨p, 0, none⟩), .int .u64 v, .int .i64 n] w fun v' w' => v' = .tuple #[] ∧ St w0 (IsRW p (bs ++ bitsOf v (heldN n)) :: l) w' := by
 refine enter Tryz.func140 rfl Tryz.results140 Tryz.ntmps140 rfl ?_
 have hle := heldN_le n
 refine Y4 ?_; refine Y3g ?_
 refine qg (.int .i64 (heldN n)) (by unfold heldN; congr 1; omega) ?_
 refine Y1p ?_
 refine qg (.int .i64 ((heldN n : Int) - 1)) O13 ?_
 refine Y6 ?_; refine Ya ?_
 refine qc (Γ := Nat × List Bool) (fun k => [(0, .pointer (some ⟨p, 0, none⟩)), (1, .int .u64 v), (6, .int .i64 ((k.1 : Int) - 1))])
  (fun k w => k.1 ≤ 64 ∧ k.2 ++ bitsOf v k.1 = bs ++ bitsOf v (heldN n) ∧ St w0 (IsRW p k.2 :: l) w) (fun k => k.1) (heldN n, bs) ⟨rfl, rfl, rfl, trivial⟩ ⟨hle, rfl, h⟩ ?_
 clear h
 rintro ⟨k, cur⟩ w e ⟨hk, hcur, h⟩
 dsimp only at hk hcur h ⊢
 have hcl : cur.length + k = bs.length + heldN n := by
  have := congrArg List.length hcur
  simpa [bitsOf_len] using this
 refine Y1g ?_; refine Y1v ?_
 cases k with
 | zero =>
  refine qg (.bool false) O7 ?_
  refine Y11 ?_
  refine qd ?_
  rw [← hcur, bitsOf, List.append_nil]
  exact (show (packv [] : Value) = .tuple #[] ∧ _ from ⟨rfl, h⟩)
 | succ k =>
 refine qg (.bool true) (by simp <;> omega) ?_
 refine Y1z ?_
 obtain ⟨a, c, h⟩ := St.rw.1 h
 have hk64 : k < 64 := by omega
 refine Y1y ?_; refine Y23 ?_; refine Y2q ?_; refine qz (qk rfl (h.b 0) rfl) rfl ?_; refine Y0 ?_; refine Y2k ?_
 refine qg (.int .u64 (k : Int)) (by rw [show (((k + 1 : Nat) : Int) - 1) = (k : Int) by omega, g9, Nat.mod_eq_of_lt O0]) ?_
 refine qz (qh (v' := .int .u64 ((v / 2 ^ k : Nat) : Int)) (ju rfl rfl O0) (congrArg (Value.int .u64) (q9 v k _ (Nat.le_of_lt hk64)))) rfl ?_
 refine qz (qh (v' := .int .u64 (((v.testBit k).toNat : Nat) : Int)) (q_and rfl rfl) (by
  rw [show bitOp .and .u64 ((v / 2 ^ k : Nat) : Int) 1 = ((v / 2 ^ k &&& 1 : Nat) : Int) from (jv (Nat.lt_of_le_of_lt (Nat.div_le_self _ _) hv) O4).1, Nat.and_one_is_mod, testBit_toNat])) rfl ?_
 refine qz (qh (v' := .int .u8 ((b2u (v.testBit k)).toNat : Int)) (jb rfl) (by rw [wrap_u8, b2u_nat]; cases v.testBit k <;> rfl)) rfl ?_
 refine jo (v := .int .u8 (b2u (v.testBit k)).toNat) (m3 := cur.length + 1) (zs := bytesV (b2us (cur ++ [v.testBit k]))) (h.f 1) rfl rfl rfl rfl rfl rfl (by simp [b2us, bytesV, vcells]) O0 O0 rfl rfl rfl rfl rfl fun b a' c' w _ h => ?_
 refine Y12 ?_
 refine qw rfl (q8 1 h rfl (show _ = Value.slice _ _ _ from rfl) rfl rfl rfl rfl fun w h => ?_)
 refine Y3 ?_; refine Y1a ?_; refine Y1p ?_
 refine qg (.int .i64 ((k : Int) - 1)) O6 ?_
 refine Y2 ?_
 refine qq ⟨(k, cur ++ [v.testBit k]), ⟨rfl, rfl, rfl, trivial⟩, ⟨by dsimp only; omega, ?_, St.rw.2 ⟨a', c', ?_⟩⟩, by dsimp only; omega⟩
 ·rw [← hcur, List.append_assoc]; rfl
 ·rw [List.length_append]
  exact h.f 1
theorem rw_Bytes (hn : bs.length ≤ 70368744177664) (h : St w0 (IsRW p bs :: l) w) :
  Ret Tryz.prog 95 [.pointer (some ⟨p, 0, none⟩)] w fun v w' => ∃ a c, v = .slice a (pack bs).length c ∧ St w0 (OwnB a c (pack bs) :: IsRW p bs :: l) w' := by
 obtain ⟨ba, bc, h⟩ := St.rw.1 h
 refine enter Tryz.func95 rfl Tryz.results95 Tryz.ntmps95 rfl ?_
 refine Y3j ?_; refine Y2w ?_
 refine qc (Γ := Nat × Option Addr × Nat) (fun k => [(0, .pointer (some ⟨p, 0, none⟩)), (3, .slice k.2.1 ((k.1 + 7) / 8) k.2.2), (4, .int .i64 k.1)])
  (fun k w => k.1 ≤ bs.length ∧ St w0 (Own 5 1 k.2.1 ((k.1 + 7) / 8) k.2.2 (bytesV (pack (bs.take k.1))) :: RwPt p ba bs.length bc :: Own 5 1 ba bs.length bc (bytesV (b2us bs)) :: l) w) (fun k => bs.length - k.1) (0, none, 0) ⟨rfl, rfl, rfl, trivial⟩ ⟨Nat.zero_le _, by simpa [pack, bytesV] using St.ownNil 5 1 h⟩ ?_
 clear h
 rintro ⟨i, oa, oc⟩ w e ⟨hi, h⟩
 dsimp only at hi h ⊢
 refine Y1g ?_; refine Y2q ?_; refine qz (qk rfl (h.b 1) rfl) rfl ?_; refine Y3a ?_; refine Y4i ?_
 refine qy (decide ((i : Int) < (bs.length : Int))) rfl (fun hc => ?_) (fun hc => ?_)
 ·
  have hlt : i < bs.length := by simp at hc; omega
  have hg := List.getElem?_eq_getElem hlt
  generalize bs[i] = x at hg
  have htl : (bs.take i).length = i := by rw [List.length_take]; omega
  have htk : bs.take (i + 1) = bs.take i ++ [x] := by rw [List.take_add_one, hg]; rfl
  refine Yy ?_
  refine qo (Γ := Option Addr × Nat) (fun q => [(0, .pointer (some ⟨p, 0, none⟩)), (3, .slice q.1 (i / 8 + 1) q.2), (4, .int .i64 i)])
   (fun q w => St w0 (Own 5 1 q.1 (i / 8 + 1) q.2 (bytesV (padz (bs.take i))) :: RwPt p ba bs.length bc :: Own 5 1 ba bs.length bc (bytesV (b2us bs)) :: l) w) ?_ ?_
  ·refine Y4 ?_
   refine qz (qh (v' := .int .i64 ((i % 8 : Nat) : Int)) (q_rem rfl rfl O4) (congrArg (Value.int .i64) (gz _ _))) rfl ?_
   refine Yd ?_
   by_cases h8 : i % 8 = 0
   ·refine qg (.bool true) (by simp [h8]) ?_
    refine Yk ?_; refine Y45 ?_
    refine jo (v := .int .u8 0) (m3 := i / 8 + 1) (zs := bytesV (padz (bs.take i))) h rfl rfl rfl rfl rfl O0 (by rw [padz_even (by rw [htl]; exact h8)]; simp [bytesV, vcells]) O0 O0 rfl rfl rfl rfl rfl fun b a' c' w _ h => ?_
    refine Yx ?_
    exact qq ⟨(a', c'), ⟨rfl, rfl, rfl, trivial⟩, h⟩
   ·refine qg (.bool false) O1 ?_
    refine qq (q6 rfl (qr ⟨(oa, oc), ⟨rfl, ?_, rfl, trivial⟩, ?_⟩))
    ·show Value.slice oa ((i + 7) / 8) oc = _
     rw [show (i + 7) / 8 = i / 8 + 1 by omega]
    ·rw [padz_odd (by rw [htl]; exact h8)]
     have e1 : i / 8 + 1 = (i + 7) / 8 := by omega
     rw [e1]
     exact h
  clear h
  rintro ⟨oa, oc⟩ w e h
  dsimp only at h ⊢
  obtain ⟨g, rfl⟩ := h.own_some O0
  obtain ⟨g2, rfl⟩ := (h.f 2).own_some O0
  have hx2 : (b2u x).toNat ≤ 1 := by cases x <;> decide
  have hx3 : (b2u x).toNat * 2 ^ (7 - i % 8) < 256 := by
   have : 2 ^ (7 - i % 8) ≤ 2 ^ 7 := Nat.pow_le_pow_right O4 O0
   have := Nat.mul_le_mul hx2 this
   omega
  have hpz : (padz (bs.take i))[i / 8]? = some (byteAt (bs.take i) (i / 8)) := by have := padz_at (bs.take i); rwa [htl] at this
  have hq8 : Value.int .i64 (IntKind.i64.wrap ((i : Int).tdiv 8)) = .int .i64 ((i / 8 : Nat) : Int) := by rw [show (i : Int).tdiv 8 = ((i / 8 : Nat) : Int) from tdiv_nat _ 8, wrap64 O0 O0]
  refine jj (some 22) (fun w => St w0 _ w) O2 O2 h.drew fun w h => ?_
  refine Yq ?_
  refine cpv rfl rfl rfl rfl h rfl (qh (v' := .int .i64 ((i / 8 : Nat) : Int)) (q_quo rfl rfl O4) hq8) ?_
  refine Yq ?_
  refine cpv rfl rfl rfl rfl h rfl (qh (v' := .int .i64 ((i / 8 : Nat) : Int)) (q_quo rfl rfl O4) hq8) ?_
  refine cpv rfl rfl rfl rfl h rfl (qn (o' := i / 8) rfl rfl rfl O0 O7) ?_
  refine qu rfl rfl rfl rfl h (fun w h => qm rfl (qx (v := .int .u8 (byteAt (bs.take i) (i / 8)).toNat) rfl (by have := h.own_rd.cell (bytesV_get hpz); simpa using this))) ?_
  refine Yg ?_; refine qu rfl rfl rfl rfl h (fun _ h => qm rfl (qk rfl (h.b 1) rfl)) ?_; refine Yj ?_
  refine cpv rfl rfl rfl rfl h rfl (qn (o' := i) rfl rfl rfl hlt O7) ?_
  refine qu rfl rfl rfl rfl h (fun w h => qm rfl (qx (v := .int .u8 (b2u x).toNat) rfl (by have := (h.f 2).own_rd.cell (bytesV_get (b2us_get hg)); simpa using this))) ?_
  refine Yj ?_
  refine cpv rfl rfl rfl rfl h rfl (qh (v' := .int .i64 ((i % 8 : Nat) : Int)) (q_rem rfl rfl O4) (congrArg (Value.int .i64) (gz _ 8))) ?_
  refine cpv rfl rfl rfl rfl h rfl (qh (v' := .int .i64 ((7 - i % 8 : Nat) : Int)) (jm rfl rfl) O6) ?_
  refine cpv rfl rfl rfl rfl h rfl (qh (v' := .int .u64 ((7 - i % 8 : Nat) : Int)) (jb rfl) O9) ?_
  refine cpv rfl rfl rfl rfl h rfl (qh (v' := .int .u8 (((b2u x).toNat * 2 ^ (7 - i % 8) : Nat) : Int)) (gk rfl rfl O0) (by rw [shl_u8 _ _ O0, Nat.mod_eq_of_lt hx3])) ?_
  refine cpv rfl rfl rfl rfl h rfl (qh (v' := .int .u8 ((byteAt (bs.take i) (i / 8) ||| UInt8.ofNat (x.toNat * 2 ^ (7 - i % 8))).toNat : Int)) (q_or rfl rfl) (by
   rw [← or_bytes, UInt8.toNat_ofNat', b2u_nat] ; rw [b2u_nat] at hx3; rw [Nat.mod_eq_of_lt hx3])) ?_
  refine cpv rfl rfl rfl rfl h rfl (qn (o' := i / 8) rfl rfl rfl O0 O7) ?_
  refine Yl ?_
  refine jd 22 rfl rfl rfl ?_
  refine jn (v := .int .u8 ((byteAt (bs.take i) (i / 8) ||| UInt8.ofNat (x.toNat * 2 ^ (7 - i % 8))).toNat : Int)) h rfl rfl O0 rfl fun w h => ?_
  have hps := pack_snoc (bs.take i) x
  rw [htl] at hps
  rw [bytesV_set, ← hps, ← htk] at h
  refine Y1b ?_
  refine qg (.int .i64 ((i + 1 : Nat) : Int)) O5 ?_
  refine Y2 ?_
  have e1 : i / 8 + 1 = (i + 1 + 7) / 8 := by omega
  rw [e1] at h
  refine qq ⟨(i + 1, some ⟨g, 0, none⟩, oc), ⟨rfl, ?_, rfl, trivial⟩, ⟨by dsimp only; omega, h⟩, by dsimp only; omega⟩
  show Value.slice _ (i / 8 + 1) _ = _
  rw [e1]
 ·have hin : i = bs.length := by simp at hc; omega
  subst hin
  rw [List.take_length] at h
  refine qd ?_
  refine Y4d ?_
  refine qv (bq1 ⟨oa, oc, ?_, ?_⟩)
  ·show Value.slice oa ((bs.length + 7) / 8) oc = _
   rw [jc]
  ·rw [← jc] at h
   exact (St.rw.2 ⟨ba, bc, (h.f 2).f 2⟩ |>.f 1)
end
end Go.Proofs.YtnnehiiblfmpnaaGreatDoor

namespace Go.Hw
theorem le_lead {x n : Nat} : x / 2 ^ n = 0 ↔ len64 x ≤ n := by
 rw [len64_le, Nat.div_eq_zero_iff]
 have := Nat.two_pow_pos n
 omega
theorem tz_even {x n : Nat} (h : n < tz x) : x / 2 ^ n % 2 = 0 := by
 have h1 := tz_dvd (x := x) (t := n + 1) h
 have h2 : x / 2 ^ n = x / 2 ^ (n + 1) * 2 := by
  conv => lhs; rw [← h1]
  rw [Nat.pow_succ, Nat.mul_comm (2 ^ n) 2, ← Nat.mul_assoc, Nat.mul_div_cancel _ (Nat.two_pow_pos n), Nat.mul_comm 2 (2 ^ n), ← Nat.pow_succ]
 omega
end Go.Hw
namespace Go.Proofs.YtnnehiiblfmpnaaGreatDoor
open Go.Hw
set_option maxHeartbeats 4000000
set_option maxRecDepth 100000
section
variable {w0 w : World} {l : List HProp}
theorem ref1_Zig {n : Int} (hn : I64 n) (h : St w0 l w) : Ret Tryz.prog 56 [.int .i64 n] w fun v w' => v = .int .u64 (zigT n : Nat) ∧ St w0 l w' := by
 obtain ⟨h1, h2⟩ := hn
 refine enter Tryz.func56 rfl Tryz.results56 Tryz.ntmps56 rfl ?_
 refine Yf ?_; refine Y1g ?_; refine Y4i ?_
 refine qy (decide (n < 0)) rfl (fun hc => ?_) (fun hc => ?_)
 ·
  have hc : n < 0 := by simpa using hc
  refine Y4 ?_; refine Y1n ?_
  refine qg (.int .i64 (n + 1)) O13 ?_
  refine qz (q_neg rfl) rfl ?_
  refine qg (.int .i64 (-(n + 1))) O6 ?_
  refine Yb ?_
  refine qg (.int .u64 (((-(n + 1)).toNat : Nat) : Int)) O16 ?_
  refine Y43 ?_
  refine qg (.int .u64 ((2 * (-(n + 1)).toNat : Nat) : Int)) O16 ?_
  refine Y1n ?_
  refine qg (.int .u64 ((zigT n : Nat) : Int)) (by rw [jt]; unfold us zigT zigU us; congr 1; split <;> omega) ?_
  refine Y6 ?_
  exact qv (bq1 ⟨rfl, h⟩)
 ·
  have hc : 0 ≤ n := by simpa using hc
  refine Yh ?_; refine Y4 ?_; refine Yb ?_
  refine qg (.int .u64 ((n.toNat : Nat) : Int)) O16 ?_
  refine Y43 ?_
  refine qg (.int .u64 ((zigT n : Nat) : Int)) (by rw [jt]; unfold us zigT zigU us; congr 1; split <;> omega) ?_
  refine Y6 ?_
  exact qv (bq1 ⟨rfl, h⟩)
theorem ref1_Put {sl : Option Addr} {c : Nat} {bs : List UInt8} (u : Nat) (hu : u < 18446744073709551616) (h : St w0 l w) (hr : ∀ w', St w0 l w' → Rd w' 1 sl bs.length (bytesV bs)) (hn : bs.length ≤ 70368744177664) :
  Ret Tryz.prog 55 [.slice sl bs.length c, .int .u64 u] w fun v w' => ∃ a c', v = .slice a (bs ++ vput u).length c' ∧ St w0 (OwnB a c' (bs ++ vput u) :: l) w' := by
 refine enter Tryz.func55 rfl Tryz.results55 Tryz.ntmps55 rfl ?_
 refine Yn ?_; refine Y1 ?_
 refine qw rfl (q5 (r := []) h rfl rfl rfl fun b w h => ?_)
 refine Yp ?_
 have h1 : St w0 (Own 5 1 (some ⟨b, 0, none⟩) 0 0 [] :: l) w := St.own_mk (cur := []) h rfl rfl (Nat.le_refl _)
 refine qw rfl (qa (zs := bytesV bs) (m3 := bs.length) h1 rfl rfl (hr w h1.drop) (bytesV_one _) O0 (List.nil_append _) O0 O0 rfl fun a c1 w _ h => ?_)
 refine Ym ?_
 refine qo (Γ := Nat × List UInt8 × Option Addr × Nat) (fun k => [(1, .int .u64 k.1), (5, .slice k.2.2.1 k.2.1.length k.2.2.2)])
  (fun k w => k.1 < 128 ∧ k.2.1 ++ vput k.1 = bs ++ vput u ∧ St w0 (OwnB k.2.2.1 k.2.2.2 k.2.1 :: l) w) ?_ ?_
 ·refine Ya ?_
  refine qc (Γ := Nat × List UInt8 × Option Addr × Nat) (fun k => [(1, .int .u64 k.1), (5, .slice k.2.2.1 k.2.1.length k.2.2.2)])
   (fun k w => k.1 < 18446744073709551616 ∧ k.2.1 ++ vput k.1 = bs ++ vput u ∧ St w0 (OwnB k.2.2.1 k.2.2.2 k.2.1 :: l) w) (fun k => k.1) (u, bs, a, c1) ⟨rfl, rfl, trivial⟩ ⟨hu, rfl, h⟩ ?_
  clear h hu
  rintro ⟨u', out, a, c⟩ w e ⟨hu, he, h⟩
  dsimp only at hu he h ⊢
  have hlen : out.length ≤ bs.length + 10 := by
   have h1 := congrArg List.length he
   have h2 := jq u
   have h3 := jq u'
   simp only [List.length_append] at h1
   omega
  refine Y1g ?_; refine Y1q ?_
  refine qq (qy (decide ((u' : Int) > 127)) rfl (fun hc => ?_) (fun hc => ?_))
  ·
   have hge : 128 ≤ u' := by simp at hc; omega
   refine Y3x ?_; refine Yo ?_
   refine qz (qh (v' := .int .u64 ((u' % 128 : Nat) : Int)) (q_and rfl rfl) (by rw [show bitOp .and .u64 (u' : Int) 127 = ((u' &&& 127 : Nat) : Int) from (jv hu O4).1, show u' &&& 127 = u' % 128 from and_low u' 7])) rfl ?_
   refine qz (qh (v' := .int .u64 ((u' % 128 + 128 : Nat) : Int)) (q_or rfl rfl) (by rw [show bitOp .or .u64 ((u' % 128 : Nat) : Int) 128 = ((u' % 128 ||| 128 : Nat) : Int) from (jv O0 O4).2.1, or_more _ O0, Nat.mod_mod])) rfl ?_
   refine qz (qh (v' := .int .u8 ((UInt8.ofNat (u' % 128 + 128)).toNat : Int)) (jb rfl) O12) rfl ?_
   refine jo (v := .int .u8 ((UInt8.ofNat (u' % 128 + 128)).toNat : Int)) (m3 := (out ++ [UInt8.ofNat (u' % 128 + 128)]).length) (zs := bytesV (out ++ [UInt8.ofNat (u' % 128 + 128)])) h rfl rfl rfl rfl rfl O7 (by simp [bytesV, vcells]) O1 O1 rfl rfl rfl rfl rfl fun b a' c' w _ h => ?_
   refine Y4k ?_
   refine qz (qh (v' := .int .u64 ((u' / 128 : Nat) : Int)) (ju rfl rfl O0) (congrArg (Value.int .u64) (q9 u' 7 64 O4))) rfl ?_
   refine Y2 ?_
   refine qq ⟨(u' / 128, out ++ [UInt8.ofNat (u' % 128 + 128)], a', c'), ⟨rfl, rfl, trivial⟩, ⟨by dsimp only; omega, ?_, h⟩, by dsimp only; omega⟩
   rw [← he, vput_ge O0 hu, List.append_assoc]; rfl
  exact qd ⟨(u', out, a, c), ⟨rfl, rfl, trivial⟩, by simp at hc; dsimp only; omega, he, h⟩
 clear h hu
 rintro ⟨u', out, a, c⟩ w e ⟨hu, he, h⟩
 dsimp only at hu he h ⊢
 rw [vput_lt hu] at he
 have hlen : out.length ≤ bs.length + 10 := by
  have h1 := congrArg List.length he
  have h2 := jq u
  simp only [List.length_append, List.length_singleton] at h1
  omega
 refine Yo ?_; refine Yb ?_
 refine qg (.int .u8 ((UInt8.ofNat u').toNat : Int)) O12 ?_
 refine jo (v := .int .u8 ((UInt8.ofNat u').toNat : Int)) (m3 := (bs ++ vput u).length) (zs := bytesV (bs ++ vput u)) h rfl rfl rfl rfl rfl (by rw [← he]; simp) (by rw [← he]; simp [bytesV, vcells]) (by rw [← he]; simp; omega) (by rw [← he]; simp; omega) rfl rfl rfl rfl rfl fun b a' c' w _ h => ?_
 refine Ym ?_
 exact qv (bq1 ⟨a', c', rfl, h⟩)
theorem ref4_within (d : Int) {m : Nat} {n : Int} (hm : m ≤ 62) (hn : n = (m : Int) + 1) (h : St w0 l w) : Ret Tryz.prog 192 [.int .i64 d, .int .i64 n] w fun v w' => v = .bool (decide (-(2 ^ m : Int) ≤ d ∧ d < 2 ^ m)) ∧ St w0 l w' := by
 subst hn
 have hp : (2 : Nat) ^ m ≤ 2 ^ 62 := Nat.pow_le_pow_right O4 hm
 have hp0 := Nat.two_pow_pos m
 have hpi := two_pow_int m
 refine enter Tryz.func192 rfl Tryz.results192 Tryz.ntmps192 rfl ?_
 refine Y2a ?_; refine Y4 ?_; refine Y1u ?_
 refine qg (.int .i64 ((m : Nat) : Int)) O6 ?_
 refine Yb ?_
 refine qg (.int .u64 ((m : Nat) : Int)) O9 ?_
 refine qz (qh (v' := .int .i64 (-(2 ^ m : Int))) (gk rfl rfl O0) (by rw [shl_i64 O0 ⟨by omega, by omega⟩]; congr 1; omega)) rfl ?_
 refine Y1v ?_
 by_cases h1 : -(2 ^ m : Int) ≤ d
 ·refine qg (.bool true) (congrArg Value.bool (decide_eq_true h1)) ?_
  refine Y10 ?_; refine Y1k ?_; refine Y1p ?_
  refine qg (.int .i64 ((m : Nat) : Int)) O6 ?_
  refine Y7 ?_; refine Yb ?_
  refine qg (.int .u64 ((m : Nat) : Int)) O9 ?_
  refine Y7 ?_
  refine qz (qh (v' := .int .i64 (2 ^ m : Int)) (gk rfl rfl O0) (by rw [shl_i64 O0 ⟨by omega, by omega⟩]; congr 1; omega)) rfl ?_
  refine Y7 ?_; refine Ys ?_; refine Yi ?_; refine Yc ?_
  refine qv (bq1 ⟨?_, h⟩)
  exact congrArg Value.bool (by simp [h1])
 ·refine qg (.bool false) (congrArg Value.bool (decide_eq_false h1)) ?_
  refine Y2b ?_; refine Y8 ?_; refine Yc ?_
  refine qv (bq1 ⟨?_, h⟩)
  exact congrArg Value.bool (by simp [h1])
theorem ref4_kind (d : Int) (h : St w0 l w) : Ret Tryz.prog 141 [.int .i64 d] w fun v w' => v = .tuple [.int .i64 (which d).bits, .int .u64 (which d).ahead, .int .i64 (which d).long].toArray ∧ St w0 l w' := by
 refine enter Tryz.func141 rfl Tryz.results141 Tryz.ntmps141 rfl ?_
 refine Y24 ?_; refine Y22 ?_
 refine qo (Γ := Unit) (fun _ => []) (fun _ w => which d = ⟨15, 4, 64⟩ ∧ St w0 l w) ?_ ?_
 ·refine Ya ?_; refine Y4 ?_; refine Yd ?_; refine Yc ?_
  refine qy (d == 0) rfl (fun hc => ?_) (fun h0 => ?_)
  ·have hw : which d = ⟨0, 1, 0⟩ := by unfold which; rw [if_pos O25]
   rw [hw]
   refine Y24 ?_; refine Y2 ?_; refine Y2 ?_
   exact qq (qv (bq3 ⟨rfl, h⟩))
  have h0 : ¬ d = 0 := by simpa using h0
  refine Y4 ?_
  refine qw rfl (qj rfl (ref4_within d (m := 6) O4 rfl h) ?_)
  rintro _ w ⟨rfl, h⟩
  refine Yc ?_
  refine qy _ rfl (fun hc => ?_) (fun h1 => ?_)
  ·have hw : which d = ⟨2, 2, 7⟩ := by unfold which; rw [if_neg h0, if_pos O39]
   rw [hw]
   refine Y24 ?_; refine Y2 ?_; refine Y2 ?_
   exact qq (qv (bq3 ⟨rfl, h⟩))
  have h1 : ¬ (-64 ≤ d ∧ d ≤ 63) := by rw [decide_eq_false_iff_not] at h1; omega
  refine Y4 ?_
  refine qw rfl (qj rfl (ref4_within d (m := 8) O4 rfl h) ?_)
  rintro _ w ⟨rfl, h⟩
  refine Yc ?_
  refine qy _ rfl (fun hc => ?_) (fun h2 => ?_)
  ·have hw : which d = ⟨6, 3, 9⟩ := by unfold which; rw [if_neg h0, if_neg h1, if_pos O39]
   rw [hw]
   refine Y24 ?_; refine Y2 ?_; refine Y2 ?_
   exact qq (qv (bq3 ⟨rfl, h⟩))
  have h2 : ¬ (-256 ≤ d ∧ d ≤ 255) := by rw [decide_eq_false_iff_not] at h2; omega
  refine Y4 ?_
  refine qw rfl (qj rfl (ref4_within d (m := 11) O4 rfl h) ?_)
  rintro _ w ⟨rfl, h⟩
  refine Yc ?_
  refine qy _ rfl (fun hc => ?_) (fun h3 => ?_)
  ·have hw : which d = ⟨14, 4, 12⟩ := by unfold which; rw [if_neg h0, if_neg h1, if_neg h2, if_pos O39]
   rw [hw]
   refine Y24 ?_; refine Y2 ?_; refine Y2 ?_
   exact qq (qv (bq3 ⟨rfl, h⟩))
  have h3 : ¬ (-2048 ≤ d ∧ d ≤ 2047) := by rw [decide_eq_false_iff_not] at h3; omega
  exact qr ⟨(), trivial, by unfold which; rw [if_neg h0, if_neg h1, if_neg h2, if_neg h3], h⟩
 clear h
 rintro ⟨⟩ w e ⟨hw, h⟩
 rw [hw]
 refine Y24 ?_; refine Y2 ?_; refine Y2 ?_
 exact qq (qv (bq3 ⟨rfl, h⟩))
theorem ref4_Times {p : Nat} {bs : List Bool} {sl : Option Addr} {c : Nat} {ts : List Int} (hi : ∀ t ∈ ts, I64 t) (hn : ts.length ≤ 65535) (hb : bs.length ≤ 1073741824) (h : St w0 (IsRW p bs :: l) w) (hr : Reads w0 l 1 sl ts.length (i64V ts)) :
  Ret Tryz.prog 94 [.pointer (some ⟨p, 0, none⟩), .slice sl ts.length c] w fun v w' => v = .tuple #[] ∧ St w0 (IsRW p (bs ++ timesBits ts) :: l) w' := by
 refine enter Tryz.func94 rfl Tryz.results94 Tryz.ntmps94 rfl ?_
 have htl := timesBits_len ts
 have hrd : ∀ {Q : HProp} {w' : World}, St w0 (Q :: l) w' → Rd w' 1 sl ts.length (i64V ts) := fun {Q w'} h' => hr [Q] w' h'
 refine Yf ?_; refine Y17 ?_
 refine qc (Γ := Nat × Nat × List Bool) (fun k => [(0, .pointer (some ⟨p, 0, none⟩)), (1, .slice sl ts.length c), (4, .int .u64 k.2.1), (5, .int .i64 k.1)])
  (fun k w => k.1 ≤ ts.length ∧ k.2.1 < 18446744073709551616 ∧ (k.1 = 0 → k.2.1 = 0 ∧ k.2.2 = bs) ∧ (0 < k.1 → k.2.2 ++ timesRest (us (ts.getD (k.1 - 1) 0)) k.2.1 (ts.drop k.1) = bs ++ timesBits ts) ∧ St w0 (IsRW p k.2.2 :: l) w)
  (fun k => ts.length - k.1) (0, 0, bs) ⟨rfl, rfl, rfl, rfl, trivial⟩ ⟨Nat.zero_le _, (by decide : (0 : Nat) < 18446744073709551616), fun _ => ⟨rfl, rfl⟩, (fun h => absurd h (by decide : ¬ (0 : Nat) < 0)), h⟩ ?_
 clear h
 rintro ⟨i, step, out⟩ w e ⟨hin, hstep, h00, hnz, h⟩
 dsimp only at hin hstep h00 hnz h ⊢
 refine Y2n ?_
 refine qy (decide ((i : Int) < (ts.length : Int))) rfl (fun hc => ?_) (fun hc => ?_)
 ·
  have hlt : i < ts.length := by simp at hc; omega
  have hg := List.getElem?_eq_getElem hlt
  have hdr := List.drop_eq_getElem_cons hlt
  generalize ts[i] = t at hg hdr
  have ht := hi t (List.mem_of_getElem? hg)
  have hut := us_lt t
  have hgd : ts.getD i 0 = t := by rw [List.getD, hg]; rfl
  obtain ⟨b, o, hsl⟩ := (hrd h).some O0
  have hol : out.length ≤ bs.length + (timesBits ts).length := by
   rcases Nat.eq_zero_or_pos i with h0 | h0
   ·rw [(h00 h0).2]; omega
   ·have := congrArg List.length (hnz h0)
    simp only [List.length_append] at this
    omega
  refine Yh ?_
  refine qo (Γ := Nat × List Bool) (fun k => [(0, .pointer (some ⟨p, 0, none⟩)), (1, .slice sl ts.length c), (4, .int .u64 k.1), (5, .int .i64 i)])
   (fun k w => k.1 < 18446744073709551616 ∧ k.2 ++ timesRest (us t) k.1 (ts.drop (i + 1)) = bs ++ timesBits ts ∧ St w0 (IsRW p k.2 :: l) w) ?_ ?_
  ·refine Ya ?_; refine Y2s ?_
   by_cases hi0 : i = 0
   ·refine qg (.bool true) O35 ?_
    refine Yk ?_
    obtain ⟨hs0, ho0⟩ := h00 hi0
    refine Y3y ?_
    refine qz (qn (b := b) (o := o) (m := ts.length) (c := c) (j := 0) (o' := o + 0) O8 rfl rfl O0 O7) rfl ?_
    refine qz (qx (v := .int .i64 t) rfl ((hsl ▸ hrd h).cell (i64V_get (by rw [← hi0]; exact hg)))) rfl ?_
    refine Yb ?_
    refine qg (.int .u64 (us t : Nat)) (by rw [jt]) ?_
    refine qw rfl (qj rfl (rw_Put (us t) 64 hut O0 h) ?_)
    rintro _ w ⟨rfl, h⟩
    refine Y3 ?_
    refine qd ⟨(step, out ++ bitsOf (us t) (heldN 64)), ⟨rfl, rfl, rfl, rfl, trivial⟩, hstep, ?_, h⟩
    rw [hi0, List.drop_zero] at hdr
    rw [ho0, hs0, hi0, List.append_assoc]
    conv => rhs; rw [hdr, timesBits]
    rfl
   refine qg (.bool false) O1 ?_
   refine Y9 ?_
   have he := hnz O0
   have hg1 : ts[i - 1]? = some (ts.getD (i - 1) 0) := by
    rw [List.getD, List.getElem?_eq_getElem (show i - 1 < ts.length by omega)]; rfl
   generalize ts.getD (i - 1) 0 = t1 at hg1 he
   have hwas := us_lt t1
   rw [hdr, timesRest] at he
   refine ql (jj none (fun w => St w0 _ w) O2 O2 h.drew fun w h => ?_)
   refine Yq ?_
   refine cpv rfl rfl rfl rfl h rfl (qn (b := b) (o := o) (m := ts.length) (c := c) (o' := o + i) O8 rfl rfl hlt O7) ?_
   refine qu rfl rfl rfl rfl h (fun _ h => qm rfl (qx (v := .int .i64 t) rfl ((hsl ▸ hrd h).cell (i64V_get hg)))) ?_
   refine cpv rfl rfl rfl rfl h rfl (qh (v' := .int .u64 (us t : Nat)) (jb rfl) (by rw [jt])) ?_
   refine Yq ?_
   refine cpv rfl rfl rfl rfl h rfl (qh (v' := .int .i64 ((i - 1 : Nat) : Int)) (jm rfl rfl) O6) ?_
   refine cpv rfl rfl rfl rfl h rfl (qn (b := b) (o := o) (m := ts.length) (c := c) (o' := o + (i - 1)) O8 rfl rfl O0 O7) ?_
   refine qu rfl rfl rfl rfl h (fun _ h => qm rfl (qx (v := .int .i64 t1) rfl ((hsl ▸ hrd h).cell (i64V_get hg1)))) ?_
   refine cpv rfl rfl rfl rfl h rfl (qh (v' := .int .u64 (us t1 : Nat)) (jb rfl) (by rw [jt])) ?_
   refine cpv rfl rfl rfl rfl h rfl (qh (v' := .int .u64 (diff (us t) (us t1) : Nat)) (jm rfl rfl) (by rw [wrap_diff hwas])) ?_
   refine Y2h ?_
   refine qi ?_
   have hd : diff (diff (us t) (us t1)) step < 18446744073709551616 := Nat.mod_lt _ O4
   have hd1 : diff (us t) (us t1) < 18446744073709551616 := Nat.mod_lt _ O4
   refine Y4 ?_; refine Y1u ?_
   refine qg (.int .u64 (diff (diff (us t) (us t1)) step : Nat)) (by rw [wrap_diff hstep]) ?_
   generalize hde : diff (diff (us t) (us t1)) step = d at *
   obtain ⟨hf1, hf2, hf3⟩ := which_le (sg d)
   have hlen := congrArg List.length he
   simp only [List.length_append, bitsOf_len] at hlen
   refine Yb ?_
   refine qg (.int .i64 (sg d)) (by rw [gm hd]) ?_
   refine Y6 ?_; refine Y2z ?_; refine Y4 ?_
   refine qw rfl (qj rfl (ref4_kind (sg d) h) ?_)
   rintro _ w ⟨rfl, h⟩
   refine Y3k ?_; refine Y2 ?_; refine Y22 ?_; refine Yr ?_; refine Y0 ?_; refine Y0 ?_
   refine qw rfl (qj rfl (rw_Put (which (sg d)).ahead (which (sg d)).long O0 O0 h) ?_)
   rintro _ w ⟨rfl, h⟩
   refine Y4n ?_; refine Y2k ?_
   refine qg (.int .u64 (d : Nat)) (by rw [jt, us_sg hd]) ?_
   refine Y0 ?_
   refine qw rfl (qj rfl (rw_Put d (which (sg d)).bits hd (by rw [heldN_nat O0, List.length_append, bitsOf_len]; omega) h) ?_)
   rintro _ w ⟨rfl, h⟩
   refine qq ⟨(diff (us t) (us t1), _), ⟨rfl, rfl, rfl, rfl, trivial⟩, hd1, ?_, h⟩
   rw [heldN_nat O0, heldN_nat O0, List.append_assoc, List.append_assoc, ← he]
  clear h
  rintro ⟨step', out'⟩ w e ⟨hs', he', h⟩
  dsimp only at hs' he' h ⊢
  refine Y1b ?_
  refine qg (.int .i64 ((i + 1 : Nat) : Int)) O5 ?_
  refine Y2 ?_
  refine qq ⟨(i + 1, step', out'), ⟨rfl, rfl, rfl, rfl, trivial⟩, ⟨hlt, hs', (fun h => by cases h), fun _ => ?_, h⟩, by dsimp only; omega⟩
  dsimp only
  rw [Nat.add_sub_cancel, hgd]
  exact he'
 have hin' : i = ts.length := by simp at hc; omega
 refine qd ?_
 have : out = bs ++ timesBits ts := by
  rcases Nat.eq_zero_or_pos i with h0 | h0
  ·rw [(h00 h0).2]
   have : ts = [] := List.eq_nil_of_length_eq_zero O0
   rw [this]; simp [timesBits]
  ·have := hnz h0
   rw [hin', List.drop_length, timesRest, List.append_nil] at this
   exact this
 rw [← this]
 exact (show (packv [] : Value) = .tuple #[] ∧ _ from ⟨rfl, h⟩)
theorem ref4_ahead {x : Nat} (hx : x < 18446744073709551616) (h : St w0 l w) : Ret Tryz.prog 184 [.int .u64 x] w fun v w' => v = .int .i64 ((winOf x).lead : Nat) ∧ St w0 l w' := by
 have h64 := len64_64 hx
 refine enter Tryz.func184 rfl Tryz.results184 Tryz.ntmps184 rfl ?_
 refine Yf ?_; refine Yf ?_
 refine qo (Γ := Unit) (fun _ => [(3, .int .i64 ((winOf x).lead : Nat))]) (fun _ w => St w0 l w) ?_ ?_
 ·refine Ya ?_
  refine qc (Γ := Nat) (fun k => [(0, .int .u64 x), (3, .int .i64 k)]) (fun k w => k ≤ 31 ∧ k ≤ 64 - len64 x ∧ St w0 l w) (fun k => 31 - k) 0 ⟨rfl, rfl, trivial⟩ ⟨Nat.zero_le _, Nat.zero_le _, h⟩ ?_
  clear h
  rintro n w e ⟨hn, hn2, h⟩
  refine Y3s ?_
  by_cases h31 : n < 31
  ·refine qg (.bool true) O1 ?_
   refine Y10 ?_; refine Y1k ?_; refine Y1p ?_
   refine qg (.int .i64 ((63 - n : Nat) : Int)) O6 ?_
   refine Y7 ?_; refine Yb ?_
   refine qg (.int .u64 ((63 - n : Nat) : Int)) O9 ?_
   refine Y7 ?_
   refine qz (qh (v' := .int .u64 ((x / 2 ^ (63 - n) : Nat) : Int)) (ju rfl rfl O0) (congrArg (Value.int .u64) (q9 x (63 - n) _ (show 63 - n ≤ 64 by omega)))) rfl ?_
   refine Y4r ?_
   by_cases h0 : x / 2 ^ (63 - n) = 0
   ·refine qg (.bool true) O36 ?_
    refine Yi ?_; refine Y1z ?_; refine Ya ?_; refine Y1b ?_
    refine qg (.int .i64 ((n + 1 : Nat) : Int)) O5 ?_
    refine Y2 ?_
    have := le_lead.1 h0
    exact qq ⟨n + 1, ⟨rfl, rfl, trivial⟩, ⟨by omega, by omega, h⟩, by omega⟩
   ·refine qg (.bool false) O3 ?_
    refine Yi ?_; refine Y11 ?_
    have : ¬ len64 x ≤ 63 - n := fun hh => h0 (le_lead.2 hh)
    refine qd ⟨(), ⟨?_, trivial⟩, h⟩
    show Value.int .i64 (n : Int) = _
    rw [lead31]; congr 1; omega
  ·refine qg (.bool false) O1 ?_
   refine Y2b ?_; refine Y8 ?_; refine Y11 ?_
   refine qd ⟨(), ⟨?_, trivial⟩, h⟩
   show Value.int .i64 (n : Int) = _
   rw [lead31]; congr 1; omega
 clear h
 rintro ⟨⟩ w e h
 refine Y4 ?_; refine Y2 ?_
 exact qq (qv (bq1 ⟨rfl, h⟩))
theorem ref4_behind {x : Nat} (h0 : x ≠ 0) (hx : x < 18446744073709551616) (h : St w0 l w) : Ret Tryz.prog 185 [.int .u64 x] w fun v w' => v = .int .i64 (tz x : Nat) ∧ St w0 l w' := by
 obtain ⟨ht1, ht2⟩ := tzA_odd 64 x h0 hx
 have ht1 : x / 2 ^ tz x % 2 = 1 := ht1
 have ht2 : tz x < 64 := ht2
 refine enter Tryz.func185 rfl Tryz.results185 Tryz.ntmps185 rfl ?_
 refine Yf ?_; refine Yf ?_
 refine qo (Γ := Unit) (fun _ => [(3, .int .i64 (tz x : Nat))]) (fun _ w => St w0 l w) ?_ ?_
 ·refine Ya ?_
  refine qc (Γ := Nat) (fun k => [(0, .int .u64 x), (3, .int .i64 k)]) (fun k w => k ≤ tz x ∧ St w0 l w) (fun k => tz x - k) 0 ⟨rfl, rfl, trivial⟩ ⟨Nat.zero_le _, h⟩ ?_
  clear h
  rintro n w e ⟨hn, h⟩
  refine Y1g ?_; refine Y2k ?_
  refine qg (.int .u64 (n : Int)) O9 ?_
  refine qz (qh (v' := .int .u64 ((x / 2 ^ n : Nat) : Int)) (ju rfl rfl O0) (congrArg (Value.int .u64) (q9 x n _ (show n ≤ 64 by omega)))) rfl ?_
  refine qz (qh (v' := .int .u64 ((x / 2 ^ n % 2 : Nat) : Int)) (q_and rfl rfl) (by
   rw [show bitOp .and .u64 ((x / 2 ^ n : Nat) : Int) 1 = ((x / 2 ^ n &&& 1 : Nat) : Int) from (jv (Nat.lt_of_le_of_lt (Nat.div_le_self _ _) hx) O4).1, Nat.and_one_is_mod])) rfl ?_
  refine Yd ?_
  by_cases hlt : n < tz x
  ·rw [tz_even hlt]
   refine Y1z ?_; refine Ya ?_; refine Y1b ?_
   refine qg (.int .i64 ((n + 1 : Nat) : Int)) O5 ?_
   refine Y2 ?_
   exact qq ⟨n + 1, ⟨rfl, rfl, trivial⟩, ⟨by omega, h⟩, by omega⟩
  ·obtain rfl : n = tz x := by omega
   rw [ht1]
   refine Y11 ?_
   exact qd ⟨(), ⟨rfl, trivial⟩, h⟩
 clear h
 rintro ⟨⟩ w e h
 refine Y4 ?_; refine Y2 ?_
 exact qq (qv (bq1 ⟨rfl, h⟩))
end
end Go.Proofs.YtnnehiiblfmpnaaGreatDoor

namespace Go.Hw
def kNum (k : Nat) : Nat := (kindsL.getD k (0, 0)).1
def kBit (k : Nat) : Nat := (kindsL.getD k (0, 0)).2
abbrev intsV (l : List Nat) : List Value := l.map fun v : Nat => Value.int .i64 (v : Int)
def numsL : List Nat := [240, 120, 60, 30, 20, 15, 12, 10, 8, 7, 6, 5, 4, 3, 2, 1]
def bitsL : List Nat := [0, 0, 1, 2, 3, 4, 5, 6, 7, 8, 10, 12, 15, 20, 30, 60]
theorem numsL_get : ∀ k, k < 16 → numsL[k]? = some (kNum k) := by decide
theorem bitsL_get : ∀ k, k < 16 → bitsL[k]? = some (kBit k) := by decide
theorem intsV_get {l : List Nat} {j v : Nat} (h : l[j]? = some v) : (intsV l)[j]? = some (.int .i64 (v : Int)) := by simp [intsV, h]
theorem kinds_at {k : Nat} (h : k < 16) : kindsL[k]? = some (kNum k, kBit k) := by
 rw [List.getElem?_eq_getElem (show k < kindsL.length from h)]
 unfold kNum kBit
 rw [List.getD, List.getElem?_eq_getElem (show k < kindsL.length from h)]
 rfl
theorem kinds_two : ∀ k, k < 16 → (k < 2 ↔ kBit k = 0) := by decide
theorem kinds_le : ∀ k, k < 16 → kNum k ≤ 240 ∧ kBit k ≤ 60 ∧ 0 < kNum k ∧ kBit k * kNum k ≤ 60 := by decide
theorem idx_lead (x : Nat) (r : List Nat) {j : Nat} (h : j < lead x r) : r[j]? = some x := by
 have h1 := lead_split x r
 rw [← h1, List.getElem?_append_left O19]
 simp [h]
theorem idx_lead_end (x : Nat) (r : List Nat) : r[lead x r]? ≠ some x := by
 have := lead_head x r
 rwa [List.head?_drop] at this
end Go.Hw
namespace Go.Proofs.YtnnehiiblfmpnaaGreatDoor
open Go.Hw
set_option maxHeartbeats 4000000
set_option maxRecDepth 100000
instance und16 : Und Tryz.prog 316 (.array 16 3) := ⟨Tryz.underlying316⟩
section
variable {w0 w : World} {l : List HProp}
theorem ref4_Values {p : Nat} {bs : List Bool} {sl : Option Addr} {c : Nat} {vs : List Nat} (hv : ∀ v ∈ vs, v < 18446744073709551616) (hn : vs.length ≤ 65535) (hb : bs.length ≤ 1073741824) (h : St w0 (IsRW p bs :: l) w) (hr : Reads w0 l 1 sl vs.length (u64V vs)) :
  Ret Tryz.prog 134 [.pointer (some ⟨p, 0, none⟩), .slice sl vs.length c] w fun v w' => v = .tuple #[] ∧ St w0 (IsRW p (bs ++ xorBits vs) :: l) w' := by
 have htl := xorBits_len vs
 have hrd : ∀ {Q : HProp} {w' : World}, St w0 (Q :: l) w' → Rd w' 1 sl vs.length (u64V vs) := fun {Q w'} h' => hr [Q] w' h'
 refine enter Tryz.func134 rfl Tryz.results134 Tryz.ntmps134 rfl ?_
 refine Y3t ?_; refine Y22 ?_; refine Y17 ?_
 refine qc (Γ := Nat × Win × List Bool) (fun k => [(0, .pointer (some ⟨p, 0, none⟩)), (1, .slice sl vs.length c), (4, .bool k.2.1.is), (5, .int .i64 k.2.1.lead), (6, .int .i64 k.2.1.trail), (7, .int .i64 k.1)])
  (fun k w => k.1 ≤ vs.length ∧ WinOk k.2.1 ∧ (k.1 = 0 → k.2.1 = ⟨false, 0, 0⟩ ∧ k.2.2 = bs) ∧ (0 < k.1 → k.2.2 ++ xorRest k.2.1 (vs.getD (k.1 - 1) 0) (vs.drop k.1) = bs ++ xorBits vs) ∧ St w0 (IsRW p k.2.2 :: l) w)
  (fun k => vs.length - k.1) (0, ⟨false, 0, 0⟩, bs) ⟨rfl, rfl, rfl, rfl, rfl, rfl, trivial⟩ ⟨Nat.zero_le _, (show (0 : Nat) + 0 ≤ 63 by decide), fun _ => ⟨rfl, rfl⟩, (fun h => absurd h (by decide : ¬ (0 : Nat) < 0)), h⟩ ?_
 clear h
 rintro ⟨i, win, out⟩ w e ⟨hin, hwo, h00, hnz, h⟩
 dsimp only at hin hwo h00 hnz h ⊢
 refine Y2n ?_
 refine qy (decide ((i : Int) < (vs.length : Int))) rfl (fun hc => ?_) (fun hc => ?_)
 ·
  have hlt : i < vs.length := by simp at hc; omega
  have hg := List.getElem?_eq_getElem hlt
  have hdr := List.drop_eq_getElem_cons hlt
  generalize vs[i] = now at hg hdr
  have hnow := hv now (List.mem_of_getElem? hg)
  have hgd : vs.getD i 0 = now := by rw [List.getD, hg]; rfl
  obtain ⟨bs_, o, hsl⟩ := (hrd h).some O0
  have hol : out.length ≤ bs.length + (xorBits vs).length := by
   rcases Nat.eq_zero_or_pos i with h0 | h0
   ·rw [(h00 h0).2]; omega
   ·have := congrArg List.length (hnz h0)
    simp only [List.length_append] at this
    omega
  refine Yh ?_
  refine qo (Γ := Win × List Bool) (fun k => [(0, .pointer (some ⟨p, 0, none⟩)), (1, .slice sl vs.length c), (4, .bool k.1.is), (5, .int .i64 k.1.lead), (6, .int .i64 k.1.trail), (7, .int .i64 i)])
   (fun k w => WinOk k.1 ∧ k.2 ++ xorRest k.1 now (vs.drop (i + 1)) = bs ++ xorBits vs ∧ St w0 (IsRW p k.2 :: l) w) ?_ ?_
  ·refine Ya ?_; refine Y2s ?_
   by_cases hi0 : i = 0
   ·refine qg (.bool true) O35 ?_
    refine Yk ?_
    obtain ⟨hw0, ho0⟩ := h00 hi0
    refine Y3y ?_
    refine qz (qn (b := bs_) (o := o) (m := vs.length) (c := c) (j := 0) (o' := o + 0) O8 rfl rfl O0 O7) rfl ?_
    refine qz (qx (v := .int .u64 now) rfl ((hsl ▸ hrd h).cell (u64V_get (by rw [← hi0]; exact hg)))) rfl ?_
    refine qw rfl (qj rfl (rw_Put now 64 hnow O0 h) ?_)
    rintro _ w ⟨rfl, h⟩
    refine Y3 ?_
    refine qd ⟨(win, out ++ bitsOf now (heldN 64)), ⟨rfl, rfl, rfl, rfl, rfl, rfl, trivial⟩, hwo, ?_, h⟩
    rw [hi0, List.drop_zero] at hdr
    rw [ho0, hw0, hi0, List.append_assoc]
    conv => rhs; rw [hdr, xorBits]
    rfl
   refine qg (.bool false) O1 ?_
   refine Y9 ?_
   have he := hnz O0
   have hg1 : vs[i - 1]? = some (vs.getD (i - 1) 0) := by
    rw [List.getD, List.getElem?_eq_getElem (show i - 1 < vs.length by omega)]; rfl
   generalize vs.getD (i - 1) 0 = was at hg1 he
   have hwas := hv was (List.mem_of_getElem? hg1)
   have hx : now ^^^ was < 18446744073709551616 := Nat.xor_lt_two_pow (n := 64) hnow hwas
   rw [hdr, xorRest] at he
   refine ql (jj none (fun w => St w0 _ w) O2 O2 h.drew fun w h => ?_)
   refine Yq ?_
   refine cpv rfl rfl rfl rfl h rfl (qn (b := bs_) (o := o) (m := vs.length) (c := c) (o' := o + i) O8 rfl rfl hlt O7) ?_
   refine qu rfl rfl rfl rfl h (fun _ h => qm rfl (qx (v := .int .u64 now) rfl ((hsl ▸ hrd h).cell (u64V_get hg)))) ?_
   refine Yq ?_
   refine cpv rfl rfl rfl rfl h rfl (qh (v' := .int .i64 ((i - 1 : Nat) : Int)) (jm rfl rfl) O6) ?_
   refine cpv rfl rfl rfl rfl h rfl (qn (b := bs_) (o := o) (m := vs.length) (c := c) (o' := o + (i - 1)) O8 rfl rfl O0 O7) ?_
   refine qu rfl rfl rfl rfl h (fun _ h => qm rfl (qx (v := .int .u64 was) rfl ((hsl ▸ hrd h).cell (u64V_get hg1)))) ?_
   refine cpv rfl rfl rfl rfl h rfl (qh (v' := .int .u64 ((now ^^^ was : Nat) : Int)) (q_xor rfl rfl) (by rw [(jv hnow hwas).2.2])) ?_
   refine Y2h ?_
   refine qi ?_
   generalize now ^^^ was = x at hx he
   refine Y2s ?_
   by_cases hx0 : x = 0
   ·refine qg (.bool true) (by rw [hx0]; rfl) ?_
    refine Yk ?_
    rw [if_pos hx0] at he
    refine Yr ?_
    refine qw rfl (qj rfl (rw_Put 0 1 O4 O0 h) ?_)
    rintro _ w ⟨rfl, h⟩
    refine Y3 ?_
    refine qd ⟨(win, out ++ bitsOf 0 (heldN 1)), ⟨rfl, rfl, rfl, rfl, rfl, rfl, trivial⟩, hwo, ?_, h⟩
    rw [← he, List.append_assoc]; rfl
   refine qg (.bool false) O3 ?_
   refine Y9 ?_
   rw [if_neg hx0] at he
   obtain ⟨l1, l2, l3, l4⟩ := winOf_long hx0 hx
   refine Yr ?_
   refine qw rfl (qj rfl (rw_Put 1 1 O4 O0 h) ?_)
   rintro _ w ⟨rfl, h⟩
   refine Y3 ?_
   have hl1 : (out ++ bitsOf 1 (heldN 1)).length = out.length + 1 := by rw [List.length_append]; rfl
   refine ql (qo (Γ := Bool) (fun k => [(0, .pointer (some ⟨p, 0, none⟩)), (1, .slice sl vs.length c), (4, .bool win.is), (5, .int .i64 win.lead), (6, .int .i64 win.trail), (7, .int .i64 i), (8, .int .u64 x), (50, .bool k)])
    (fun k w => k = win.fits x ∧ St w0 (IsRW p (out ++ bitsOf 1 (heldN 1)) :: l) w) ?_ ?_)
   ·refine j8 ?_
    have hfit : win.fits x = (win.is && decide (win.lead ≤ (winOf x).lead) && decide (win.trail ≤ (winOf x).trail)) := rfl
    cases hi : win.is with
    | false =>
     refine Y2u ?_; refine Y41 ?_; refine Y41 ?_
     exact qq ⟨false, ⟨rfl, rfl, rfl, rfl, rfl, rfl, rfl, rfl, trivial⟩, by rw [hfit, hi]; rfl, h⟩
    | true =>
     refine Y2u ?_; refine Y10 ?_
     refine qw rfl (qj rfl (ref4_ahead hx h) ?_)
     rintro _ w ⟨rfl, h⟩
     refine Y7 ?_; refine Y1k ?_; refine Y1v ?_; refine Yi ?_
     by_cases h1 : win.lead ≤ (winOf x).lead
     ·refine qg (.bool true) O10 ?_
      refine Y10 ?_
      refine qw rfl (qj rfl (ref4_behind hx0 hx h) ?_)
      rintro _ w ⟨rfl, h⟩
      refine Y7 ?_; refine Y1k ?_; refine Y1v ?_; refine Yi ?_
      refine qq ⟨decide (win.trail ≤ (winOf x).trail), ⟨rfl, rfl, rfl, rfl, rfl, rfl, rfl, ?_, trivial⟩, by rw [hfit, hi, decide_eq_true h1]; rfl, h⟩
      show Value.bool _ = _
      congr 1
      rw [decide_eq_decide]
      show (tz x : Int) ≥ _ ↔ win.trail ≤ tz x
      omega
     ·refine qg (.bool false) O11 ?_
      refine Y41 ?_
      exact qq ⟨false, ⟨rfl, rfl, rfl, rfl, rfl, rfl, rfl, rfl, trivial⟩, by rw [hfit, hi, decide_eq_false h1]; rfl, h⟩
   clear h
   rintro k w e ⟨hk, h⟩
   have hw1 := hwo
   unfold WinOk at hw1
   refine qy k rfl (fun hc => ?_) (fun hc => ?_)
   ·
    rw [if_pos (by rw [← hk]; exact hc)] at he
    refine Yr ?_
    refine qw rfl (qj rfl (rw_Put 0 1 O4 O0 h) ?_)
    rintro _ w ⟨rfl, h⟩
    refine Y2v ?_; refine Y0 ?_; refine Y2k ?_
    refine qg (.int .u64 (win.trail : Int)) O9 ?_
    refine qz (qh (v' := .int .u64 ((x / 2 ^ win.trail : Nat) : Int)) (ju rfl rfl O0) (congrArg (Value.int .u64) (q9 x win.trail _ (show win.trail ≤ 64 by omega)))) rfl ?_
    refine Y1u ?_
    refine qg (.int .i64 ((64 - win.lead : Nat) : Int)) O6 ?_
    refine Y1u ?_
    refine qg (.int .i64 ((win.long : Nat) : Int)) (by unfold Win.long; rw [wrap64 O0 O0]; congr 1; omega) ?_
    refine qw rfl (qj rfl (rw_Put (x / 2 ^ win.trail) win.long (Nat.lt_of_le_of_lt (Nat.div_le_self _ _) hx) (by rw [List.length_append, hl1, bitsOf_len, show heldN 1 = 1 from rfl]; omega) h) ?_)
    rintro _ w ⟨rfl, h⟩
    refine Y3 ?_
    refine qd ⟨(win, _), ⟨rfl, rfl, rfl, rfl, rfl, rfl, trivial⟩, hwo, ?_, h⟩
    rw [heldN_nat (win_long_le win), ← he]
    simp only [List.append_assoc]
    rfl
   rw [if_neg (by rw [← hk, hc]; simp)] at he
   refine Yh ?_; refine Y4 ?_
   refine qw rfl (qj rfl (ref4_ahead hx h) ?_)
   rintro _ w ⟨rfl, h⟩
   refine Y0 ?_
   refine qw rfl (qj rfl (ref4_behind hx0 hx h) ?_)
   rintro _ w ⟨rfl, h⟩
   replace l1 : (winOf x).lead + tz x + (winOf x).long = 64 := l1
   refine Ye ?_; refine Y22 ?_; refine Yr ?_
   refine qw rfl (qj rfl (rw_Put 1 1 O4 O0 h) ?_)
   rintro _ w ⟨rfl, h⟩
   have hl2 : (out ++ bitsOf 1 (heldN 1) ++ bitsOf 1 (heldN 1)).length = out.length + 2 := by rw [List.length_append, hl1]; rfl
   refine Y2v ?_; refine Y2k ?_
   refine qg (.int .u64 ((winOf x).lead : Int)) O9 ?_
   refine qw rfl (qj rfl (rw_Put (winOf x).lead 5 O0 O0 h) ?_)
   rintro _ w ⟨rfl, h⟩
   refine Y2v ?_; refine Y1u ?_
   refine qg (.int .i64 ((63 - (winOf x).lead : Nat) : Int)) O6 ?_
   refine Y1u ?_
   refine qg (.int .i64 (((winOf x).long - 1 : Nat) : Int)) O6 ?_
   refine Yb ?_
   refine qg (.int .u64 (((winOf x).long - 1 : Nat) : Int)) O9 ?_
   refine qw rfl (qj rfl (rw_Put ((winOf x).long - 1) 6 O0 (by rw [List.length_append, hl2, bitsOf_len, show heldN 5 = 5 from rfl]; omega) h) ?_)
   rintro _ w ⟨rfl, h⟩
   refine Y4n ?_; refine Y0 ?_; refine Y2k ?_
   refine qg (.int .u64 (tz x : Int)) O9 ?_
   refine qz (qh (v' := .int .u64 ((x / 2 ^ tz x : Nat) : Int)) (ju rfl rfl O0) (congrArg (Value.int .u64) (q9 x (tz x) _ (show tz x ≤ 64 by omega)))) rfl ?_
   refine Y1u ?_
   refine qg (.int .i64 ((64 - (winOf x).lead : Nat) : Int)) O6 ?_
   refine Y1u ?_
   refine qg (.int .i64 (((winOf x).long : Nat) : Int)) O6 ?_
   refine qw rfl (qj rfl (rw_Put (x / 2 ^ tz x) (winOf x).long (Nat.lt_of_le_of_lt (Nat.div_le_self _ _) hx) (by rw [List.length_append, List.length_append, hl2, bitsOf_len, bitsOf_len, show heldN 5 = 5 from rfl, show heldN 6 = 6 from rfl]; omega) h) ?_)
   rintro _ w ⟨rfl, h⟩
   refine qq ⟨(winOf x, _), ⟨rfl, rfl, rfl, rfl, rfl, rfl, trivial⟩, winOk_of hx0 hx, ?_, h⟩
   rw [heldN_nat O0, ← he]
   simp only [List.append_assoc]
   rfl
  clear h
  rintro ⟨win, out⟩ w e ⟨hwo, he, h⟩
  dsimp only at hwo he h ⊢
  refine Y1b ?_
  refine qg (.int .i64 ((i + 1 : Nat) : Int)) O5 ?_
  refine Y2 ?_
  refine qq ⟨(i + 1, win, out), ⟨rfl, rfl, rfl, rfl, rfl, rfl, trivial⟩, ⟨hlt, hwo, (fun h => by cases h), fun _ => ?_, h⟩, by dsimp only; omega⟩
  dsimp only
  rw [Nat.add_sub_cancel, hgd]
  exact he
 have hin' : i = vs.length := by simp at hc; omega
 refine qd ?_
 have : out = bs ++ xorBits vs := by
  rcases Nat.eq_zero_or_pos i with h0 | h0
  ·rw [(h00 h0).2]
   have : vs = [] := List.eq_nil_of_length_eq_zero O0
   rw [this]; simp [xorBits]
  ·have := hnz h0
   rw [hin', List.drop_length, xorRest, List.append_nil] at this
   exact this
 rw [← this]
 exact (show (packv [] : Value) = .tuple #[] ∧ _ from ⟨rfl, h⟩)
theorem ref4_numbers {k : Nat} (hk : k < 16) (h : St w0 l w) : Ret Tryz.prog 187 [.int .i64 k] w fun v w' => v = .int .i64 (kNum k) ∧ St w0 l w' := by
 refine enter Tryz.func187 rfl Tryz.results187 Tryz.ntmps187 rfl ?_
 refine Yf ?_; refine Y1 ?_
 refine qz (q_abuild (m := 16) (r := intsV numsL) O2) rfl ?_
 refine qw rfl (q7 h fun b w h => ?_)
 refine qw rfl (qb (vs := intsV numsL) 0 h rfl rfl rfl rfl rfl rfl rfl fun w h => ?_)
 replace h : St w0 (pt b (.cells (intsV numsL).toArray 316 (0, 0)) :: l) w := h
 refine Y3 ?_; refine Y4 ?_
 refine qz (q_aidx (m := 16) (o' := k) rfl rfl rfl hk O7) rfl ?_
 refine qz (qk (v := .int .i64 (kNum k)) rfl (h.b 0 rfl) (intsV_get (numsL_get k hk))) rfl ?_
 refine Y2 ?_
 exact qq (qv (bq1 ⟨rfl, h.drop⟩))
theorem ref4_bits {k : Nat} (hk : k < 16) (h : St w0 l w) : Ret Tryz.prog 188 [.int .i64 k] w fun v w' => v = .int .i64 (kBit k) ∧ St w0 l w' := by
 refine enter Tryz.func188 rfl Tryz.results188 Tryz.ntmps188 rfl ?_
 refine Yf ?_; refine Y1 ?_
 refine qz (q_abuild (m := 16) (r := intsV bitsL) O2) rfl ?_
 refine qw rfl (q7 h fun b w h => ?_)
 refine qw rfl (qb (vs := intsV bitsL) 0 h rfl rfl rfl rfl rfl rfl rfl fun w h => ?_)
 replace h : St w0 (pt b (.cells (intsV bitsL).toArray 316 (0, 0)) :: l) w := h
 refine Y3 ?_; refine Y4 ?_
 refine qz (q_aidx (m := 16) (o' := k) rfl rfl rfl hk O7) rfl ?_
 refine qz (qk (v := .int .i64 (kBit k)) rfl (h.b 0 rfl) (intsV_get (bitsL_get k hk))) rfl ?_
 refine Y2 ?_
 exact qq (qv (bq1 ⟨rfl, h.drop⟩))
theorem ref4_fits {k : Nat} (hk : k < 16) {sl : Option Addr} {c : Nat} {u : List Nat} (hu : ∀ x ∈ u, x < 18446744073709551616) (hn : u.length ≤ 65535) (hr : Reads w0 l 1 sl u.length (u64V u)) (h : St w0 l w) :
  Ret Tryz.prog 186 [.slice sl u.length c, .int .i64 k] w fun v w' => v = .bool (fitsK (kNum k, kBit k) u).isSome ∧ St w0 l w' := by
 obtain ⟨k1, k2, k3, _⟩ := kinds_le k hk
 have k4 := kinds_two k hk
 refine enter Tryz.func186 rfl Tryz.results186 Tryz.ntmps186 rfl ?_
 refine Y2a ?_
 refine qo (Γ := Unit) (fun _ => [(0, .slice sl u.length c), (1, .int .i64 k)]) (fun _ w => ¬ (kBit k = 0 ∧ u.length < kNum k) ∧ St w0 l w) ?_ ?_
 ·refine Y4 ?_; refine Ys ?_
  by_cases h2 : k < 2
  ·refine qg (.bool true) O1 ?_
   refine Y36 ?_; refine Y1k ?_
   refine qw rfl (qj rfl (ref4_numbers hk h) ?_)
   rintro _ w ⟨rfl, h⟩
   refine Y7 ?_; refine Ys ?_; refine Yi ?_
   by_cases h3 : u.length < kNum k
   ·refine qg (.bool true) O1 ?_
    refine Y28 ?_; refine Ye ?_
    refine qq (qv (bq1 ⟨?_, h⟩))
    unfold fitsK
    rw [if_pos ⟨k4.1 h2, h3⟩]; rfl
   ·refine qg (.bool false) O1 ?_
    refine qq (q6 rfl (qr ⟨(), ⟨rfl, rfl, trivial⟩, fun hh => h3 hh.2, h⟩))
  ·refine qg (.bool false) O1 ?_
   refine Y16 ?_; refine Y30 ?_
   refine qq (q6 rfl (qr ⟨(), ⟨rfl, rfl, trivial⟩, fun hh => h2 (k4.2 hh.1), h⟩))
 clear h
 rintro ⟨⟩ w e ⟨hno, h⟩
 have hfit : fitsK (kNum k, kBit k) u = if (u.take (kNum k)).all (fun x => decide (len64 x ≤ kBit k)) = true then some (min u.length (kNum k)) else none := by
  unfold fitsK
  rw [if_neg hno]
 refine qo (Γ := Unit) (fun _ => []) (fun _ w => (fitsK (kNum k, kBit k) u).isSome = true ∧ St w0 l w) ?_ ?_
 ·refine Y17 ?_
  refine qc (Γ := Nat) (fun j => [(0, .slice sl u.length c), (1, .int .i64 k), (5, .int .i64 j)]) (fun j w => j ≤ u.length ∧ j ≤ kNum k ∧ (u.take j).all (fun x => decide (len64 x ≤ kBit k)) = true ∧ St w0 l w) (fun j => u.length - j) 0 ⟨rfl, rfl, rfl, trivial⟩ ⟨Nat.zero_le _, Nat.zero_le _, rfl, h⟩ ?_
  clear h
  rintro j w e ⟨hj, hj2, hall, h⟩
  refine Y4z ?_; refine Ys ?_
  by_cases hlt : j < u.length
  ·refine qg (.bool true) O1 ?_
   refine Y10 ?_; refine Y1k ?_
   refine qw rfl (qj rfl (ref4_numbers hk h) ?_)
   rintro _ w ⟨rfl, h⟩
   refine Y7 ?_; refine Ys ?_; refine Yi ?_
   by_cases hlk : j < kNum k
   ·refine qg (.bool true) O1 ?_
    refine Y1z ?_
    have hg := List.getElem?_eq_getElem hlt
    generalize u[j] = x at hg
    have hx := hu x (List.mem_of_getElem? hg)
    obtain ⟨b, o, hsl⟩ := (hr.at_ h).some O0
    refine Y1y ?_
    refine ql (jj none (fun w => St w0 l w) O2 O2 h.drew fun w h => ?_)
    refine Yq ?_
    refine cpv rfl rfl rfl rfl h rfl (qn (b := b) (o := o) (m := u.length) (c := c) (o' := o + j) O8 rfl rfl hlt O7) ?_
    refine qu rfl rfl rfl rfl h (fun _ h => qm rfl (qx (v := .int .u64 x) rfl ((hsl ▸ hr.at_ h).cell (u64V_get hg)))) ?_
    refine Yj ?_; refine Y13 ?_
    refine qt 5 rfl rfl rfl rfl ?_
    refine (qj rfl (ref4_bits hk h) ?_)
    rintro _ w ⟨rfl, h⟩
    refine ⟨fun _ => h, ?_⟩
    refine cpv rfl rfl rfl rfl h rfl (qh (v' := .int .u64 (kBit k : Int)) (jb rfl) O9) ?_
    refine cpv rfl rfl rfl rfl h rfl (qh (v' := .int .u64 ((x / 2 ^ kBit k : Nat) : Int)) (ju rfl rfl O0) (congrArg (Value.int .u64) (q9 x (kBit k) _ (show kBit k ≤ 64 by omega)))) ?_
    refine cpv rfl rfl rfl rfl h rfl (q_neq rfl rfl) ?_
    refine qi ?_
    refine qy (((x / 2 ^ kBit k : Nat) : Int) != 0) rfl (fun hc => ?_) (fun hc => ?_)
    ·have hb : ¬ len64 x ≤ kBit k := fun hh => by rw [le_lead.2 hh] at hc; simp at hc
     refine Y3t ?_
     refine qq (qv (bq1 ⟨?_, h⟩))
     rw [hfit, if_neg]
     ·rfl
     ·intro hh
      rw [List.all_eq_true] at hh
      have hm : x ∈ u.take (kNum k) := by
       have : (u.take (kNum k))[j]? = some x := by rw [List.getElem?_take, if_pos hlk, hg]
       exact List.mem_of_getElem? this
      exact hb (by simpa using hh x hm)
    ·have hb : len64 x ≤ kBit k := le_lead.1 (by rw [bne_eq_false_iff_eq] at hc; omega)
     refine Y4q ?_
     refine qg (.int .i64 ((j + 1 : Nat) : Int)) O5 ?_
     refine Y2 ?_
     exact qq ⟨j + 1, ⟨rfl, rfl, rfl, trivial⟩, ⟨hlt, hlk, all_take_succ _ hg hall (by simpa using hb), h⟩, by omega⟩
   ·refine qg (.bool false) O1 ?_
    obtain rfl : j = kNum k := by omega
    refine qq (q6 rfl (qd ⟨(), trivial, ?_, h⟩))
    rw [hfit, if_pos hall]; rfl
  ·refine qg (.bool false) O1 ?_
   refine Y41 ?_
   refine qq (q6 rfl (qd ⟨(), trivial, ?_, h⟩))
   rw [hfit, if_pos]
   ·rfl
   ·rw [List.take_of_length_le O0] at hall ⊢; exact hall
 clear h
 rintro ⟨⟩ w e ⟨hs, h⟩
 rw [hs]
 refine Y3t ?_
 exact qq (qv (bq1 ⟨rfl, h⟩))
theorem ref4_width {x : Nat} (hx : x < 18446744073709551616) (h : St w0 l w) : Ret Tryz.prog 190 [.int .u64 x] w fun v w' => v = .int .i64 (len64 x) ∧ St w0 l w' := by
 have h64 := len64_64 hx
 refine enter Tryz.func190 rfl Tryz.results190 Tryz.ntmps190 rfl ?_
 refine Yf ?_; refine Yf ?_
 refine qo (Γ := Unit) (fun _ => [(3, .int .i64 (len64 x : Nat))]) (fun _ w => St w0 l w) ?_ ?_
 ·refine Ya ?_
  refine qc (Γ := Nat) (fun k => [(0, .int .u64 x), (3, .int .i64 k)]) (fun k w => k ≤ len64 x ∧ St w0 l w) (fun k => 64 - k) 0 ⟨rfl, rfl, trivial⟩ ⟨Nat.zero_le _, h⟩ ?_
  clear h
  rintro n w e ⟨hn, h⟩
  refine Y3s ?_
  by_cases hl : n < 64
  ·refine qg (.bool true) O1 ?_
   refine Y10 ?_; refine Y1k ?_; refine Yb ?_
   refine qg (.int .u64 (n : Int)) O9 ?_
   refine Y7 ?_
   refine qz (qh (v' := .int .u64 ((x / 2 ^ n : Nat) : Int)) (ju rfl rfl O0) (congrArg (Value.int .u64) (q9 x n _ (show n ≤ 64 by omega)))) rfl ?_
   refine Y7 ?_; refine Y2y ?_; refine Yi ?_
   by_cases h0 : x / 2 ^ n = 0
   ·refine qg (.bool false) O36 ?_
    have := le_lead.1 h0
    obtain rfl : n = len64 x := by omega
    exact qq (q6 rfl (qd ⟨(), ⟨rfl, trivial⟩, h⟩))
   ·refine qg (.bool true) O18 ?_
    have : ¬ len64 x ≤ n := fun hh => h0 (le_lead.2 hh)
    refine Y1z ?_; refine Ya ?_; refine Y1b ?_
    refine qg (.int .i64 ((n + 1 : Nat) : Int)) O5 ?_
    refine Y2 ?_
    exact qq ⟨n + 1, ⟨rfl, rfl, trivial⟩, ⟨by omega, h⟩, by omega⟩
  ·refine qg (.bool false) O1 ?_
   refine Y16 ?_; refine Y30 ?_
   obtain rfl : n = len64 x := by omega
   exact qq (q6 rfl (qd ⟨(), ⟨rfl, trivial⟩, h⟩))
 clear h
 rintro ⟨⟩ w e h
 refine Y4 ?_; refine Y2 ?_
 exact qq (qv (bq1 ⟨rfl, h⟩))
theorem ref4_place {sl : Option Addr} {c : Nat} {m : List Nat} (v : Nat) (hn : m.length ≤ 65535) (hr : Reads w0 l 1 sl m.length (u64V m)) (h : St w0 l w) :
  Ret Tryz.prog 191 [.slice sl m.length c, .int .u64 v] w fun r w' => r = .int .i64 (if v ∈ m then ((m.idxOf v : Nat) : Int) else -1) ∧ St w0 l w' := by
 refine enter Tryz.func191 rfl Tryz.results191 Tryz.ntmps191 rfl ?_
 refine Yf ?_
 refine qo (Γ := Unit) (fun _ => []) (fun _ w => v ∉ m ∧ St w0 l w) ?_ ?_
 ·refine Y17 ?_
  refine qc (Γ := Nat) (fun k => [(0, .slice sl m.length c), (1, .int .u64 v), (5, .int .i64 k)]) (fun k w => k ≤ m.length ∧ v ∉ m.take k ∧ St w0 l w) (fun k => m.length - k) 0 ⟨rfl, rfl, rfl, trivial⟩ ⟨Nat.zero_le _, by simp, h⟩ ?_
  clear h
  rintro k w e ⟨hk, hno, h⟩
  refine Y2n ?_
  refine qy (decide ((k : Int) < (m.length : Int))) rfl (fun hc => ?_) (fun hc => ?_)
  ·have hlt : k < m.length := by simp at hc; omega
   have hg := List.getElem?_eq_getElem hlt
   have hdr := List.drop_eq_getElem_cons hlt
   generalize m[k] = x at hg hdr
   obtain ⟨b, o, hsl⟩ := (hr.at_ h).some O0
   refine Yy ?_; refine Yo ?_
   refine qz (qn (b := b) (o := o) (m := m.length) (c := c) (o' := o + k) O8 rfl rfl hlt O7) rfl ?_
   refine qz (qx (v := .int .u64 x) rfl ((hsl ▸ hr.at_ h).cell (u64V_get hg))) rfl ?_
   refine Y0 ?_; refine Yd ?_
   by_cases hx : x = v
   ·refine qg (.bool true) (by rw [hx]; simp) ?_
    refine Yk ?_; refine Y4 ?_; refine Y2 ?_
    refine qq (qv (bq1 ⟨?_, h⟩))
    have hsp : m = m.take k ++ (x :: m.drop (k + 1)) := by rw [← hdr, List.take_append_drop]
    have hmem : v ∈ m := by rw [hsp, hx]; simp
    have hidx : m.idxOf v = k := by
     rw [hsp, List.idxOf_append, if_neg hno, hx, List.idxOf_cons_self, List.length_take]
     omega
    rw [if_pos hmem, hidx]
    rfl
   ·refine qg (.bool false) O3 ?_
    refine Y9 ?_; refine Y1b ?_
    refine qg (.int .i64 ((k + 1 : Nat) : Int)) O5 ?_
    refine Y2 ?_
    refine qq ⟨k + 1, ⟨rfl, rfl, rfl, trivial⟩, ⟨hlt, ?_, h⟩, by omega⟩
    rw [List.take_add_one, hg]
    simp only [List.mem_append, not_or]
    exact ⟨hno, by simpa using fun hh => hx hh.symm⟩
  ·obtain rfl : k = m.length := by simp at hc; omega
   rw [List.take_length] at hno
   exact qd ⟨(), trivial, hno, h⟩
 clear h
 rintro ⟨⟩ w e ⟨hno, h⟩
 rw [if_neg hno]
 refine Y24 ?_
 exact qq (qv (bq1 ⟨rfl, h⟩))
end
end Go.Proofs.YtnnehiiblfmpnaaGreatDoor

namespace Go.Proofs.YtnnehiiblfmpnaaGreatDoor
open Go.Hw
set_option maxHeartbeats 4000000
set_option maxRecDepth 100000
section
variable {w0 w : World} {l : List HProp}
theorem ref4_Simple {sl : Option Addr} {c : Nat} {u : List Nat} (hu : ∀ x ∈ u, x < 18446744073709551616) (hn : u.length ≤ 65535) (hcl : u.length ≤ c) (hr : Reads w0 l 1 sl u.length (u64V u)) (h : St w0 l w) :
  Ret Tryz.prog 135 [.slice sl u.length c] w fun v w' => ∃ a c', v = .tuple [.slice a ((simpEnc u).getD []).length c', .bool (simpEnc u).isSome].toArray ∧ St w0 (OwnU a c' ((simpEnc u).getD []) :: l) w' := by
 refine enter Tryz.func135 rfl Tryz.results135 Tryz.ntmps135 rfl ?_
 refine Y18 ?_; refine Yn ?_
 refine qo (Γ := List Nat × Option Addr × Nat) (fun q => [(4, .slice q.2.1 q.1.length q.2.2)]) (fun q w => simpEnc u = some q.1 ∧ St w0 (OwnU q.2.1 q.2.2 q.1 :: l) w) ?_ ?_
 ·refine Y17 ?_
  refine qc (Γ := Nat × List Nat × Option Addr × Nat) (fun k => [(0, .slice sl u.length c), (4, .slice k.2.2.1 k.2.1.length k.2.2.2), (5, .int .i64 k.1)])
   (fun k w => k.1 ≤ u.length ∧ k.2.1.length ≤ k.1 ∧ (simpEnc (u.drop k.1)).map (fun r => k.2.1 ++ r) = simpEnc u ∧ St w0 (OwnU k.2.2.1 k.2.2.2 k.2.1 :: l) w) (fun k => u.length - k.1) (0, [], none, 0) ⟨rfl, rfl, rfl, trivial⟩ ⟨Nat.zero_le _, Nat.zero_le _, by simp, St.ownNil 30 1 h⟩ ?_
  clear h
  rintro ⟨at', out, oa, oc⟩ w e ⟨hat, hol, he, h⟩
  dsimp only at hat hol he h ⊢
  refine Y2n ?_
  refine qy (decide ((at' : Int) < (u.length : Int))) rfl (fun hc => ?_) (fun hc => ?_)
  ·have hlt : at' < u.length := by simp at hc; omega
   have hne : u.drop at' ≠ [] := fun hh => by have := congrArg List.length hh; simp at this; omega
   have hdl : (u.drop at').length = u.length - at' := List.length_drop
   have hud : ∀ x ∈ u.drop at', x < 18446744073709551616 := fun x hx => hu x (List.mem_of_mem_drop hx)
   refine Y3x ?_; refine Yf ?_
   refine qo (Γ := Nat) (fun k => [(0, .slice sl u.length c), (4, .slice oa out.length oc), (5, .int .i64 at'), (6, .int .i64 k)])
    (fun k w => k ≤ 16 ∧ wordA k (kindsL.drop k) (u.drop at') = wordA 0 kindsL (u.drop at') ∧ (k < 16 → (fitsK (kNum k, kBit k) (u.drop at')).isSome = true) ∧ St w0 (OwnU oa oc out :: l) w) ?_ ?_
   ·refine Ya ?_
    refine qc (Γ := Nat) (fun k => [(0, .slice sl u.length c), (4, .slice oa out.length oc), (5, .int .i64 at'), (6, .int .i64 k)])
     (fun k w => k ≤ 16 ∧ wordA k (kindsL.drop k) (u.drop at') = wordA 0 kindsL (u.drop at') ∧ St w0 (OwnU oa oc out :: l) w) (fun k => 16 - k) 0 ⟨rfl, rfl, rfl, rfl, trivial⟩ ⟨Nat.zero_le _, rfl, h⟩ ?_
    clear h
    rintro k w e ⟨hk, hw, h⟩
    refine Y3s ?_
    by_cases hlk : k < 16
    ·refine qg (.bool true) O1 ?_
     have hdr := List.drop_eq_getElem_cons (show k < kindsL.length from hlk)
     have hka := kinds_at hlk
     rw [List.getElem?_eq_getElem (show k < kindsL.length from hlk)] at hka
     rw [Option.some.inj hka] at hdr
     rw [hdr, wordA] at hw
     refine Y2f ?_; refine Y1k ?_
     refine qz (jh (i := at') rfl rfl hat) rfl ?_
     refine qg (.slice (adv sl (at' * 1) (Nat.beq c at')) (u.drop at').length (c - at')) (by rw [hdl]; rfl) ?_
     refine Y7 ?_; refine Y1k ?_
     refine qw rfl (qj rfl (ref4_fits hlk hud O0 (reads_drop hr.cons hat hcl) h) ?_)
     rintro _ w ⟨rfl, h⟩
     refine Y3e ?_; refine Yi ?_
     cases hf : fitsK (kNum k, kBit k) (u.drop at') with
     | none =>
      rw [hf] at hw
      refine Y1z ?_; refine Ya ?_; refine Y1b ?_
      refine qg (.int .i64 ((k + 1 : Nat) : Int)) O5 ?_
      refine Y2 ?_
      exact qq ⟨k + 1, ⟨rfl, rfl, rfl, rfl, trivial⟩, ⟨hlk, hw, h⟩, by omega⟩
     | some n =>
      refine qq (q6 rfl (qd ⟨k, ⟨rfl, rfl, rfl, rfl, trivial⟩, hk, ?_, fun _ => by rw [hf]; rfl, h⟩))
      rw [hdr, wordA]
      exact hw
    ·refine qg (.bool false) O1 ?_
     refine Y2b ?_; refine Y8 ?_
     exact qq (q6 rfl (qd ⟨k, ⟨rfl, rfl, rfl, rfl, trivial⟩, hk, hw, fun hh => absurd hh hlk, h⟩))
   clear h
   rintro k w e ⟨hk, hw, hfit, h⟩
   refine Y2s ?_
   by_cases h16 : k = 16
   ·refine qg (.bool true) (by rw [h16]; rfl) ?_
    refine Y2t ?_
    rw [h16] at hw
    rw [simpEnc_none hne hw.symm] at he
    rw [← he]
    exact qv (bq2 ⟨none, 0, rfl, St.ownNil _ _ h.drop⟩)
   refine qg (.bool false) O3 ?_
   refine Y9 ?_
   have hlk : k < 16 := by omega
   obtain ⟨k1, k2, k3, k60⟩ := kinds_le k hlk
   have hdr := List.drop_eq_getElem_cons (show k < kindsL.length from hlk)
   have hka := kinds_at hlk
   rw [List.getElem?_eq_getElem (show k < kindsL.length from hlk)] at hka
   rw [Option.some.inj hka] at hdr
   rw [hdr, wordA] at hw
   obtain ⟨m, hf⟩ := Option.isSome_iff_exists.1 (hfit hlk)
   rw [hf] at hw
   obtain ⟨f1, f2, f3⟩ := fitsK_some hf
   dsimp only at f1 f2
   rw [hdl] at f1
   rw [simpEnc_some hne hw.symm, Option.map_map, List.drop_drop] at he
   refine Y4 ?_; refine Yb ?_
   refine qg (.int .u64 (k : Int)) O9 ?_
   refine qz (qh (v' := .int .u64 ((k * 1152921504606846976 + packW (kBit k) ((u.drop at').take 0) : Nat) : Int)) (gk rfl rfl O0) (by rw [show IntKind.u64.wrap ((k : Int) * 2 ^ (min (60 : Int).toNat IntKind.u64.bits)) = ((k * 2 ^ 60 % 18446744073709551616 : Nat) : Int) from ji k 60 O4, Nat.mod_eq_of_lt O0]; simp [packW])) rfl ?_
   refine Y3p ?_
   refine qw rfl (qj rfl (ref4_numbers hlk h) ?_)
   rintro _ w ⟨rfl, h⟩
   refine Y1r ?_; refine Y1u ?_
   refine qg (.int .i64 ((u.length - at' : Nat) : Int)) O6 ?_
   refine Y51 ?_
   refine qg (.int .i64 ((m : Nat) : Int)) O20 ?_
   refine Y6 ?_
   have hm1 : 0 < m := by omega
   refine qo (Γ := Unit) (fun _ => [(0, .slice sl u.length c), (4, .slice oa out.length oc), (5, .int .i64 at'), (7, .int .u64 ((k * 1152921504606846976 + packW (kBit k) ((u.drop at').take m) : Nat) : Int)), (8, .int .i64 m)]) (fun _ w => St w0 (OwnU oa oc out :: l) w) ?_ ?_
   ·refine Y17 ?_
    refine qc (Γ := Nat) (fun j => [(0, .slice sl u.length c), (4, .slice oa out.length oc), (5, .int .i64 at'), (6, .int .i64 k), (7, .int .u64 ((k * 1152921504606846976 + packW (kBit k) ((u.drop at').take j) : Nat) : Int)), (8, .int .i64 m), (9, .int .i64 j)])
     (fun j w => j ≤ m ∧ St w0 (OwnU oa oc out :: l) w) (fun j => m - j) 0 ⟨rfl, rfl, rfl, rfl, rfl, rfl, rfl, trivial⟩ ⟨Nat.zero_le _, h⟩ ?_
    clear h
    rintro j w e ⟨hj, h⟩
    refine Y31 ?_; refine Y4i ?_
    refine qy (decide ((j : Int) < (m : Int))) rfl (fun hc => ?_) (fun hc => ?_)
    ·have hjm : j < m := by simp at hc; omega
     have hgu : (u.drop at')[j]? = some (u[at' + j]'O0) := by rw [List.getElem?_drop, List.getElem?_eq_getElem]
     have hgx : u[at' + j]? = some (u[at' + j]'O0) := List.getElem?_eq_getElem _
     generalize u[at' + j]'O0 = x at hgu hgx
     have hxb : x < 2 ^ kBit k := f2 x (by
      have : ((u.drop at').take m)[j]? = some x := by rw [List.getElem?_take, if_pos hjm, hgu]
      exact List.mem_of_getElem? this)
     have hsum : packW (kBit k) ((u.drop at').take (j + 1)) = packW (kBit k) ((u.drop at').take j) + 2 ^ (kBit k * j) * x := by
      rw [List.take_add_one, hgu]
      show packW (kBit k) ((u.drop at').take j ++ [x]) = _
      rw [packW_snoc, List.length_take, Nat.min_eq_left O0]
     have hjk : j * kBit k ≤ 60 := by
      have : j * kBit k ≤ kNum k * kBit k := Nat.mul_le_mul_right _ O0
      rw [Nat.mul_comm (kNum k)] at this; omega
     have hlt60 : packW (kBit k) ((u.drop at').take (j + 1)) < 1152921504606846976 := by
      refine Nat.lt_of_lt_of_le (packW_lt (fun y hy => f2 y (by
       have hp : (u.drop at').take (j + 1) = ((u.drop at').take m).take (j + 1) := by rw [List.take_take, Nat.min_eq_left O0]
       rw [hp] at hy; exact List.mem_of_mem_take hy))) ?_
      have : kBit k * ((u.drop at').take (j + 1)).length ≤ 60 := by
       rw [List.length_take]
       exact Nat.le_trans (Nat.mul_le_mul_left _ O0) k60
      exact Nat.pow_le_pow_right O4 this
     have hpl : packW (kBit k) ((u.drop at').take j) < 2 ^ (j * kBit k) := by
      have := packW_lt (b := kBit k) (l := (u.drop at').take j) (fun y hy => f2 y (by
       have hp : (u.drop at').take j = ((u.drop at').take m).take j := by rw [List.take_take, Nat.min_eq_left O0]
       rw [hp] at hy; exact List.mem_of_mem_take hy))
      rwa [List.length_take, Nat.min_eq_left O0, Nat.mul_comm] at this
     rw [Nat.mul_comm (kBit k) j, Nat.mul_comm (2 ^ (j * kBit k)) x] at hsum
     obtain ⟨bs, o, hsl⟩ := (hr.cons.at_ h).some O0
     refine Yy ?_
     refine jj none (fun w => St w0 (OwnU oa oc out :: l) w) O2 O2 h.drew fun w h => ?_
     refine Yj ?_; refine Yq ?_; refine Yj ?_
     refine cpv rfl rfl rfl rfl h rfl (qh (v' := .int .i64 ((at' + j : Nat) : Int)) (ga rfl rfl) O14) ?_
     refine cpv rfl rfl rfl rfl h rfl (qn (b := bs) (o := o) (m := u.length) (c := c) (o' := o + (at' + j)) O8 rfl rfl O0 O7) ?_
     refine qu rfl rfl rfl rfl h (fun _ h => qm rfl (qx (v := .int .u64 x) rfl ((hsl ▸ hr.cons.at_ h).cell (u64V_get hgx)))) ?_
     refine Yj ?_; refine Yj ?_; refine Y40 ?_
     refine qt 9 rfl rfl rfl rfl ?_
     refine (qj rfl (ref4_bits hlk h) ?_)
     rintro _ w ⟨rfl, h⟩
     refine ⟨fun _ => h, ?_⟩
     refine cpv rfl rfl rfl rfl h rfl (qh (v' := .int .i64 ((j * kBit k : Nat) : Int)) (q_mul rfl rfl) O34) ?_
     refine cpv rfl rfl rfl rfl h rfl (qh (v' := .int .u64 ((j * kBit k : Nat) : Int)) (jb rfl) O9) ?_
     refine cpv rfl rfl rfl rfl h rfl (qh (v' := .int .u64 ((x * 2 ^ (j * kBit k) : Nat) : Int)) (gk rfl rfl O0) (by rw [ji _ _ O0, Nat.mod_eq_of_lt O0])) ?_
     refine cpv rfl rfl rfl rfl h rfl (qh (v' := .int .u64 ((k * 1152921504606846976 + packW (kBit k) ((u.drop at').take (j + 1)) : Nat) : Int)) (q_or rfl rfl) (by
      rw [(jv O0 O0).2.1, hsum, or_three hpl O0])) ?_
     refine Y2h ?_
     refine qi ?_
     refine Y1b ?_
     refine qg (.int .i64 ((j + 1 : Nat) : Int)) O5 ?_
     refine Y2 ?_
     exact qq ⟨j + 1, ⟨rfl, rfl, rfl, rfl, rfl, rfl, rfl, trivial⟩, ⟨hjm, h⟩, by omega⟩
    ·obtain rfl : j = m := by simp at hc; omega
     exact qd ⟨(), ⟨rfl, rfl, rfl, rfl, rfl, trivial⟩, h⟩
   clear h
   rintro ⟨⟩ w e h
   generalize hx : k * 1152921504606846976 + packW (kBit k) ((u.drop at').take m) = x at *
   refine Yo ?_
   refine jo (v := .int .u64 (x : Int)) (m3 := (out ++ [x]).length) (zs := u64V (out ++ [x])) h rfl rfl rfl rfl rfl O7 O22 O1 O1 rfl rfl rfl rfl rfl fun b a' c' w _ h => ?_
   refine Y4k ?_; refine Y3h ?_
   refine qg (.int .i64 ((at' + m : Nat) : Int)) O14 ?_
   refine Y2 ?_
   refine qq ⟨(at' + m, out ++ [x], a', c'), ⟨rfl, rfl, rfl, trivial⟩, ⟨by dsimp only; omega, by simp; omega, ?_, h⟩, by dsimp only; omega⟩
   rw [← he]
   congr 1
   funext r
   simp
  ·have hin : at' = u.length := by simp at hc; omega
   rw [hin, List.drop_length, simpEnc_nil, Option.map_some, List.append_nil] at he
   exact qd ⟨(out, oa, oc), ⟨rfl, trivial⟩, he.symm, h⟩
 clear h
 rintro ⟨out, oa, oc⟩ w e ⟨he, h⟩
 dsimp only at he h ⊢
 rw [he]
 refine Y5 ?_; refine Y1f ?_
 exact qq (qv (bq2 ⟨oa, oc, rfl, h⟩))
theorem ref4_pack {ba la : Option Addr} {bc lc : Nat} {bs : List UInt8} {ls : List Nat} {n : Nat} (hn : n ≤ 64) (hll : ls.length ≤ 65535) (hbl : bs.length ≤ 1073741824) (hu : ∀ x ∈ ls, x < 18446744073709551616) (hr : Reads w0 l 1 ba bs.length (bytesV bs)) (hr2 : Reads w0 l 1 la ls.length (u64V ls)) (h : St w0 l w) :
  Ret Tryz.prog 189 [.slice ba bs.length bc, .slice la ls.length lc, .int .i64 n] w fun v w' => ∃ a c', v = .slice a (bs ++ pack (ls.flatMap fun y => bitsOf y n)).length c' ∧ St w0 (OwnB a c' (bs ++ pack (ls.flatMap fun y => bitsOf y n)) :: l) w' := by
 have hflat := flat_bits_len (fun y => y) n ls
 have hwl : n * ls.length ≤ 64 * 65535 := Nat.mul_le_mul hn hll
 refine enter Tryz.func189 rfl Tryz.results189 Tryz.ntmps189 rfl ?_
 refine Yn ?_; refine Y1 ?_
 refine qz (qe (r := [.slice none 0 0]) rfl) rfl ?_
 refine qw rfl (jy h (show _ = Value.agg [.slice none 0 0].toArray from rfl) fun p w h => ?_)
 replace h : St w0 (IsRW p [] :: l) w := St.rw_new h
 refine Y1d ?_
 refine qo (Γ := Unit) (fun _ => [(0, .slice ba bs.length bc), (7, .pointer (some ⟨p, 0, none⟩))]) (fun _ w => St w0 (IsRW p (ls.flatMap fun y => bitsOf y n) :: l) w) ?_ ?_
 ·refine Y17 ?_
  refine qc (Γ := Nat) (fun k => [(0, .slice ba bs.length bc), (1, .slice la ls.length lc), (2, .int .i64 n), (7, .pointer (some ⟨p, 0, none⟩)), (8, .int .i64 k)]) (fun k w => k ≤ ls.length ∧ St w0 (IsRW p ((ls.take k).flatMap fun y => bitsOf y n) :: l) w) (fun k => ls.length - k) 0 ⟨rfl, rfl, rfl, rfl, rfl, trivial⟩ ⟨Nat.zero_le _, h⟩ ?_
  clear h
  rintro k w e ⟨hk, h⟩
  refine Y2n ?_
  refine qy (decide ((k : Int) < (ls.length : Int))) rfl (fun hc => ?_) (fun hc => ?_)
  ·have hlt : k < ls.length := by simp at hc; omega
   have hg := List.getElem?_eq_getElem hlt
   generalize ls[k] = y at hg
   have hyu := hu y (List.mem_of_getElem? hg)
   have htl := flat_bits_len (fun y => y) n (ls.take k)
   rw [List.length_take, Nat.min_eq_left (Nat.le_of_lt hlt)] at htl
   have hwk : n * k ≤ n * ls.length := Nat.mul_le_mul_left _ hk
   obtain ⟨b, o, hsl⟩ := (hr2.cons.at_ h).some O0
   refine Yy ?_; refine Y23 ?_; refine Y27 ?_
   refine qz (qn (b := b) (o := o) (m := ls.length) (c := lc) (o' := o + k) O8 rfl rfl hlt O7) rfl ?_
   refine qz (qx (v := .int .u64 y) rfl ((hsl ▸ hr2.cons.at_ h).cell (u64V_get hg))) rfl ?_
   refine Y0 ?_
   refine qw rfl (qj rfl (rw_Put y n hyu (by rw [htl]; omega) h) ?_)
   rintro _ w ⟨rfl, h⟩
   refine Y3 ?_; refine Y1b ?_
   refine qg (.int .i64 ((k + 1 : Nat) : Int)) O5 ?_
   refine Y2 ?_
   refine qq ⟨k + 1, ⟨rfl, rfl, rfl, rfl, rfl, trivial⟩, ⟨hlt, ?_⟩, by omega⟩
   rw [heldN_nat hn] at h
   rw [List.take_add_one, hg, List.flatMap_append]
   simpa using h
  ·obtain rfl : k = ls.length := by simp at hc; omega
   rw [List.take_length] at h
   exact qd ⟨(), ⟨rfl, rfl, trivial⟩, h⟩
 clear h
 rintro ⟨⟩ w e h
 have hpl := jc (ls.flatMap fun y => bitsOf y n)
 refine Y1 ?_
 refine qw rfl (q5 (r := []) h rfl rfl rfl fun b w h => ?_)
 refine Yp ?_
 have h1 : St w0 (Own 5 1 (some ⟨b, 0, none⟩) 0 0 [] :: IsRW p (ls.flatMap fun y => bitsOf y n) :: l) w := St.own_mk (cur := []) h rfl rfl (Nat.le_refl _)
 refine qw rfl (qa (zs := bytesV bs) (m3 := bs.length) h1 rfl rfl (hr [_] _ h1.drop) (bytesV_one _) O0 (List.nil_append _) O0 O0 rfl fun a c1 w _ h => ?_)
 refine Y1x ?_
 refine qw rfl (qj rfl (rw_Bytes O0 (h.f 1)) ?_)
 rintro _ w ⟨a3, c3, rfl, h⟩
 refine qw rfl (qa (ys := bytesV (pack (ls.flatMap fun y => bitsOf y n))) (zs := bytesV (bs ++ pack (ls.flatMap fun y => bitsOf y n))) (m3 := (bs ++ pack (ls.flatMap fun y => bitsOf y n)).length) (h.f 2) rfl rfl h.own_rd (bytesV_one _) O7 O31 O1 O1 rfl fun a4 c4 w _ h => ?_)
 refine Ym ?_
 exact qv (bq1 ⟨a4, c4, rfl, ((h.f 1).drop.f 1).drop⟩)
theorem ref4_Runs {sl : Option Addr} {c : Nat} {u : List Nat} (hu : ∀ x ∈ u, x < 18446744073709551616) (hn : u.length ≤ 65535) (hr : Reads w0 l 1 sl u.length (u64V u)) (h : St w0 l w) :
  Ret Tryz.prog 137 [.slice sl u.length c] w fun v w' => ∃ a c', v = .slice a (runsEnc u).length c' ∧ St w0 (OwnB a c' (runsEnc u) :: l) w' := by
 have hrl := runsEnc_len u
 refine enter Tryz.func137 rfl Tryz.results137 Tryz.ntmps137 rfl ?_
 refine Y3j ?_
 refine qo (Γ := Option Addr × Nat) (fun q => [(3, .slice q.1 (runsEnc u).length q.2)]) (fun q w => St w0 (OwnB q.1 q.2 (runsEnc u) :: l) w) ?_ ?_
 ·refine Y17 ?_
  refine qc (Γ := Nat × List UInt8 × Option Addr × Nat) (fun k => [(0, .slice sl u.length c), (3, .slice k.2.2.1 k.2.1.length k.2.2.2), (4, .int .i64 k.1)])
   (fun k w => k.1 ≤ u.length ∧ k.2.1 ++ runsEnc (u.drop k.1) = runsEnc u ∧ St w0 (OwnB k.2.2.1 k.2.2.2 k.2.1 :: l) w) (fun k => u.length - k.1) (0, [], none, 0) ⟨rfl, rfl, rfl, trivial⟩ ⟨Nat.zero_le _, rfl, St.ownNil _ _ h⟩ ?_
  clear h
  rintro ⟨i, out, oa, oc⟩ w e ⟨hi, he, h⟩
  dsimp only at hi he h ⊢
  refine Y2n ?_
  refine qy (decide ((i : Int) < (u.length : Int))) rfl (fun hc => ?_) (fun hc => ?_)
  ·have hlt : i < u.length := by simp at hc; omega
   have hg := List.getElem?_eq_getElem hlt
   have hdr := List.drop_eq_getElem_cons hlt
   generalize u[i] = x at hg hdr
   have hx := hu x (List.mem_of_getElem? hg)
   have hrd : ∀ {Q : HProp} {w' : World}, St w0 (Q :: l) w' → Rd w' 1 sl u.length (u64V u) := fun {Q w'} h' => hr [Q] w' h'
   obtain ⟨b, o, hsl⟩ := (hrd h).some O0
   have hle := lead_le x (u.drop (i + 1))
   rw [List.length_drop] at hle
   have hin : ∀ j, j < lead x (u.drop (i + 1)) → u[i + 1 + j]? = some x := fun j hj => by
    have := idx_lead x _ hj
    rwa [List.getElem?_drop] at this
   have hend : u[i + 1 + lead x (u.drop (i + 1))]? ≠ some x := by
    have := idx_lead_end x (u.drop (i + 1))
    rwa [List.getElem?_drop] at this
   rw [hdr, runsEnc_cons, List.drop_drop] at he
   generalize hL : lead x (u.drop (i + 1)) = L at *
   refine Y3x ?_; refine Y2z ?_
   refine qo (Γ := Unit) (fun _ => [(0, .slice sl u.length c), (3, .slice oa out.length oc), (4, .int .i64 i), (5, .int .i64 ((i + 1 + L : Nat) : Int))]) (fun _ w => St w0 (OwnB oa oc out :: l) w) ?_ ?_
   ·refine Ya ?_
    refine qc (Γ := Nat) (fun k => [(0, .slice sl u.length c), (3, .slice oa out.length oc), (4, .int .i64 i), (5, .int .i64 k)]) (fun k w => i ≤ k ∧ k ≤ i + 1 + L ∧ St w0 (OwnB oa oc out :: l) w) (fun k => u.length - k) i ⟨rfl, rfl, rfl, rfl, trivial⟩ ⟨Nat.le_refl _, by omega, h⟩ ?_
    clear h
    rintro k w e ⟨hik, hkL, h⟩
    by_cases hku : k < u.length
    ·have hgk := List.getElem?_eq_getElem hku
     generalize u[k] = y at hgk
     have hyx : y = x ↔ k < i + 1 + L := by
      constructor
      ·intro hh
       rcases Nat.lt_or_ge k (i + 1 + L) with h2 | h2
       ·exact h2
       ·obtain rfl : k = i + 1 + L := by omega
        rw [hgk, hh] at hend
        exact absurd rfl hend
      ·intro hh
       rcases Nat.eq_or_lt_of_le hik with h2 | h2
       ·subst h2; rw [hg] at hgk; exact (Option.some.inj hgk).symm
       ·have := hin (k - (i + 1)) O0
        rw [show i + 1 + (k - (i + 1)) = k by omega, hgk] at this
        exact Option.some.inj this
     refine ql (ql (jj none (fun w => St w0 (OwnB oa oc out :: l) w) O2 O2 h.drew fun w h => ?_))
     refine Yj ?_; refine Y37 ?_
     refine cpv rfl rfl rfl rfl h rfl (qh (v' := .bool true) (gt rfl rfl) O1) ?_
     refine Y3c ?_; refine qs rfl rfl rfl rfl (fun _ => h) (fun _ => jz rfl rfl (q_moveS rfl)) (qs rfl rfl rfl rfl (fun _ => h) (fun _ => jz rfl rfl (q_moveI rfl)) ?_)
     refine qs rfl rfl rfl rfl (fun _ => h) (fun _ => jz rfl rfl (qn (b := b) (o := o) (m := u.length) (c := c) (o' := o + k) O8 rfl rfl hku O7)) ?_
     refine qu rfl rfl rfl rfl h (fun _ h => jz rfl rfl (qx (v := .int .u64 y) rfl ((hsl ▸ hrd h).cell (u64V_get hgk)))) ?_
     refine qs rfl rfl rfl rfl (fun _ => h) (fun _ => jz rfl rfl (q_moveS rfl)) (qs rfl rfl rfl rfl (fun _ => h) (fun _ => jz rfl rfl (q_moveI rfl)) ?_)
     refine qs rfl rfl rfl rfl (fun _ => h) (fun _ => jz rfl rfl (qn (b := b) (o := o) (m := u.length) (c := c) (o' := o + i) O8 rfl rfl hlt O7)) ?_
     refine qu rfl rfl rfl rfl h (fun _ h => jz rfl rfl (qx (v := .int .u64 x) rfl ((hsl ▸ hrd h).cell (u64V_get hg)))) ?_
     refine qs rfl rfl rfl rfl (fun _ => h) (fun _ => jz rfl rfl (jg rfl rfl)) (cpv rfl rfl rfl rfl h rfl (q_pick1 rfl rfl rfl) ?_)
     refine qi ?_
     refine qy ((y : Int) == (x : Int)) rfl (fun hc => ?_) (fun hc => ?_)
     ·have hk2 := hyx.1 (by rw [beq_iff_eq] at hc; omega)
      refine Y3x ?_; refine Y1b ?_
      refine qg (.int .i64 ((k + 1 : Nat) : Int)) O5 ?_
      refine Y2 ?_
      exact qq ⟨k + 1, ⟨rfl, rfl, rfl, rfl, trivial⟩, ⟨by omega, by omega, h⟩, by omega⟩
     ·have hk2 : ¬ k < i + 1 + L := fun hh => by rw [beq_eq_false_iff_ne] at hc; have := hyx.2 hh; omega
      obtain rfl : k = i + 1 + L := by omega
      exact qd ⟨(), ⟨rfl, rfl, rfl, rfl, trivial⟩, h⟩
    ·obtain rfl : k = i + 1 + L := by omega
     refine ql (ql (jj none (fun w => St w0 (OwnB oa oc out :: l) w) O2 O2 h.drew fun w h => ?_))
     refine Yj ?_; refine Y37 ?_
     refine cpv rfl rfl rfl rfl h rfl (qh (v' := .bool false) (gt rfl rfl) O1) ?_
     refine Y3c ?_; refine qs rfl rfl rfl rfl (fun _ => h) (fun _ => jk rfl rfl) (qs rfl rfl rfl rfl (fun _ => h) (fun _ => jk rfl rfl) (qs rfl rfl rfl rfl (fun _ => h) (fun _ => jk rfl rfl) (qs rfl rfl rfl rfl (fun _ => h) (fun _ => jk rfl rfl) (qs rfl rfl rfl rfl (fun _ => h) (fun _ => jk rfl rfl) (qs rfl rfl rfl rfl (fun _ => h) (fun _ => jk rfl rfl) ?_))))); refine qs rfl rfl rfl rfl (fun _ => h) (fun _ => jk rfl rfl) (qs rfl rfl rfl rfl (fun _ => h) (fun _ => jk rfl rfl) (qs rfl rfl rfl rfl (fun _ => h) (fun _ => jk rfl rfl) (cpv rfl rfl rfl rfl h rfl (q_pick0 rfl rfl rfl) ?_)))
     refine qi ?_
     exact q6 rfl (qd ⟨(), ⟨rfl, rfl, rfl, rfl, trivial⟩, h⟩)
   clear h
   rintro ⟨⟩ w e h
   have hlen := congrArg List.length he
   simp only [List.length_append] at hlen
   refine ql (j7 [0, 1, 2, 3, 4, 5, 6, 7, 8, 9, 10, 11] none (fun w => ∃ M, St w0 (M ++ l) w) O2 O2 ?_)
   replace h := h.drew
   generalize w.drew = w at h
   have hs := h
   replace h : ∃ M, St w0 (M ++ l) w := ⟨[_], hs⟩
   refine Yq ?_; refine Yj ?_
   refine cpv rfl rfl rfl rfl h rfl (qh (v' := .int .i64 ((1 + L : Nat) : Int)) (jm rfl rfl) O6) ?_
   refine cpv rfl rfl rfl rfl h rfl (qh (v' := .int .u64 ((1 + L : Nat) : Int)) (jb rfl) O9) ?_
   refine Yl ?_; refine Yq ?_
   refine cpv rfl rfl rfl rfl h rfl (qn (b := b) (o := o) (m := u.length) (c := c) (o' := o + i) O8 rfl rfl hlt O7) ?_
   refine qu rfl rfl rfl rfl h (fun w h => qm rfl (qx (v := .int .u64 x) rfl (by obtain ⟨M, h⟩ := h; exact (hsl ▸ hr M w h).cell (u64V_get hg)))) ?_
   refine Yz ?_
   refine qt 5 rfl rfl rfl rfl ?_
   refine (qj rfl (ref1_Put (1 + L) O0 hs (fun w' h' => h'.own_rd) O0) ?_)
   rintro _ w ⟨a1, c1, rfl, hs⟩
   replace h : ∃ M, St w0 (M ++ l) w := ⟨[_, _], hs⟩
   refine ⟨fun _ => h, ?_⟩
   refine Yz ?_
   refine qt 10 rfl rfl rfl rfl ?_
   refine (qj rfl (ref1_Put x hx hs (fun w' h' => h'.own_rd) O1) ?_)
   rintro _ w ⟨a2, c2, rfl, hs⟩
   replace h : ∃ M, St w0 (M ++ l) w := ⟨[_, _, _], hs⟩
   refine ⟨fun _ => h, ?_⟩
   refine Y1t ?_
   refine qi ?_
   refine Y1a ?_; refine Y2 ?_
   refine qq ⟨(i + 1 + L, out ++ vput (1 + L) ++ vput x, a2, c2), ⟨rfl, rfl, rfl, trivial⟩, ⟨by dsimp only; omega, ?_, (hs.f 1).drop.f 1 |>.drop⟩, by dsimp only; omega⟩
   dsimp only
   rw [← he, List.append_assoc, List.append_assoc]
  ·have hin : i = u.length := by simp at hc; omega
   rw [hin, List.drop_length, runsEnc, List.append_nil] at he
   refine qd ⟨(oa, oc), ⟨?_, trivial⟩, he ▸ h⟩
   rw [← he]
   rfl
 clear h
 rintro ⟨oa, oc⟩ w e h
 refine Y5 ?_; refine Yx ?_
 exact qq (qv (bq1 ⟨oa, oc, rfl, h⟩))
end
end Go.Proofs.YtnnehiiblfmpnaaGreatDoor

namespace Go.Hw
theorem flat_map_bits (f : Nat → Nat) (n : Nat) (v : List Nat) : (v.map f).flatMap (fun y => bitsOf y n) = v.flatMap fun y => bitsOf (f y) n := by
 induction v with
 | nil => rfl
 | cons x v ih => rw [List.map_cons, List.flatMap_cons, List.flatMap_cons, ih]
theorem idxOf_append_of_mem {l t : List Nat} {x : Nat} (h : x ∈ l) : (l ++ t).idxOf x = l.idxOf x := by rw [List.idxOf_append, if_pos h]
end Go.Hw
namespace Go.Proofs.YtnnehiiblfmpnaaGreatDoor
open Go.Hw
set_option maxHeartbeats 4000000
set_option maxRecDepth 100000
section
variable {w0 w : World} {l : List HProp}
theorem ref4_Frame {sl : Option Addr} {c : Nat} {u : List Nat} (hu : ∀ x ∈ u, x < 18446744073709551616) (hn : u.length ≤ 65535) (hr : Reads w0 l 1 sl u.length (u64V u)) (h : St w0 l w) :
  Ret Tryz.prog 138 [.slice sl u.length c] w fun v w' => ∃ a c', v = .slice a (frameEnc u).length c' ∧ St w0 (OwnB a c' (frameEnc u) :: l) w' := by
 refine enter Tryz.func138 rfl Tryz.results138 Tryz.ntmps138 rfl ?_
 refine Yn ?_; refine Y1w ?_; refine Yd ?_
 cases u with
 | nil =>
  refine qg (.bool true) rfl ?_
  refine Yk ?_; refine Yn ?_
  exact qv (bq1 ⟨none, 0, rfl, St.ownNil _ _ h⟩)
 | cons x r =>
 have hx := hu x (List.mem_cons_self ..)
 have hlst := leastA_lt r x hx
 have hgt := greatA_lt r x hx fun y hy => hu y (List.mem_cons_of_mem _ hy)
 have hlg : leastA x r ≤ greatA x r := Nat.le_trans (leastA_le r x).1 (greatA_ge r x).1
 have hw64 : len64 (greatA x r - leastA x r) ≤ 64 := len64_64 O0
 refine qg (.bool false) O1 ?_
 refine Y9 ?_
 have hfe : frameEnc (x :: r) = vput (leastA x r) ++ (UInt8.ofNat (len64 (greatA x r - leastA x r)) :: pack ((x :: r).flatMap fun y => bitsOf (y - leastA x r) (len64 (greatA x r - leastA x r)))) := rfl
 have hmem : ∀ y ∈ x :: r, leastA x r ≤ y := by
  intro y hy
  rcases List.mem_cons.1 hy with rfl | hy
  ·exact (leastA_le r y).1
  ·exact (leastA_le r x).2 y hy
 have hl0 : leastA x (x :: r) = leastA x r := by rw [leastA, Nat.min_self]
 have hg0 : greatA x (x :: r) = greatA x r := by rw [greatA, Nat.max_self]
 have hgx : (x :: r)[0]? = some x := rfl
 rw [hfe]
 generalize hlo : leastA x r = lo at *
 generalize hhi : greatA x r = hi at *
 have hpos : 0 < (x :: r).length := by simp
 generalize hU : x :: r = u at *
 clear hfe
 have hrd : ∀ {M : List HProp} {w' : World}, St w0 (M ++ l) w' → Rd w' 1 sl u.length (u64V u) := fun {M w'} h' => hr M w' h'
 obtain ⟨b, o, hsl⟩ := (hrd (M := []) h).some hpos
 refine ql (c_anyR [0, 1, 2, 4, 5, 6, 3, 7] none (fun w => St w0 l w) O2 O2 h.drew fun w h => ?_)
 refine Y1i ?_
 refine cpv rfl rfl rfl rfl h rfl (qn (b := b) (o := o) (m := u.length) (c := c) (j := 0) (o' := o + 0) O8 rfl rfl hpos O7) ?_
 refine qu rfl rfl rfl rfl h (fun w h => qm rfl (qx (v := .int .u64 x) rfl ((hsl ▸ hrd (M := []) h).cell (u64V_get hgx)))) ?_
 refine Y1i ?_
 refine cpv rfl rfl rfl rfl h rfl (qn (b := b) (o := o) (m := u.length) (c := c) (j := 0) (o' := o + 0) O8 rfl rfl hpos O7) ?_
 refine qu rfl rfl rfl rfl h (fun w h => qm rfl (qx (v := .int .u64 x) rfl ((hsl ▸ hrd (M := []) h).cell (u64V_get hgx)))) ?_
 refine Y2h ?_; refine Y2h ?_
 refine qi ?_
 refine qo (Γ := Unit) (fun _ => [(0, .slice sl u.length c), (3, .int .u64 lo), (4, .int .u64 hi)]) (fun _ w => St w0 l w) ?_ ?_
 ·refine Y17 ?_
  refine qc (Γ := Nat × Nat × Nat) (fun k => [(0, .slice sl u.length c), (3, .int .u64 k.2.1), (4, .int .u64 k.2.2), (5, .int .i64 k.1)])
   (fun k w => k.1 ≤ u.length ∧ leastA k.2.1 (u.drop k.1) = lo ∧ greatA k.2.2 (u.drop k.1) = hi ∧ St w0 l w) (fun k => u.length - k.1) (0, x, x) ⟨rfl, rfl, rfl, rfl, trivial⟩ ⟨Nat.zero_le _, hl0, hg0, h⟩ ?_
  clear h
  rintro ⟨k, a, z⟩ w e ⟨hk, ha, hz, h⟩
  dsimp only at hk ha hz h ⊢
  refine Y2n ?_
  refine qy (decide ((k : Int) < (u.length : Int))) rfl (fun hc => ?_) (fun hc => ?_)
  ·have hlt : k < u.length := by simp at hc; omega
   have hg := List.getElem?_eq_getElem hlt
   have hdr := List.drop_eq_getElem_cons hlt
   generalize u[k] = y at hg hdr
   rw [hdr] at ha hz
   rw [leastA] at ha
   rw [greatA] at hz
   refine Yy ?_
   refine jj none (fun w => St w0 l w) O2 O2 h.drew fun w h => ?_
   refine Yj ?_; refine Yq ?_
   refine cpv rfl rfl rfl rfl h rfl (qn (b := b) (o := o) (m := u.length) (c := c) (o' := o + k) O8 rfl rfl hlt O7) ?_
   refine qu rfl rfl rfl rfl h (fun w h => qm rfl (qx (v := .int .u64 y) rfl ((hsl ▸ hrd (M := []) h).cell (u64V_get hg)))) ?_
   refine cpv rfl rfl rfl rfl h rfl (qh (v' := .int .u64 ((min a y : Nat) : Int)) (q_min rfl rfl) O20) ?_
   refine Yj ?_; refine Yq ?_
   refine cpv rfl rfl rfl rfl h rfl (qn (b := b) (o := o) (m := u.length) (c := c) (o' := o + k) O8 rfl rfl hlt O7) ?_
   refine qu rfl rfl rfl rfl h (fun w h => qm rfl (qx (v := .int .u64 y) rfl ((hsl ▸ hrd (M := []) h).cell (u64V_get hg)))) ?_
   refine cpv rfl rfl rfl rfl h rfl (qh (v' := .int .u64 ((max z y : Nat) : Int)) (q_max rfl rfl) O20) ?_
   refine Y2h ?_; refine Y2h ?_
   refine qi ?_
   refine Y1b ?_
   refine qg (.int .i64 ((k + 1 : Nat) : Int)) O5 ?_
   refine Y2 ?_
   exact qq ⟨(k + 1, min a y, max z y), ⟨rfl, rfl, rfl, rfl, trivial⟩, ⟨hlt, ha, hz, h⟩, by dsimp only; omega⟩
  ·obtain rfl : k = u.length := by simp at hc; omega
   rw [List.drop_length, leastA] at ha
   rw [List.drop_length, greatA] at hz
   subst ha hz
   exact qd ⟨(), ⟨rfl, rfl, rfl, trivial⟩, h⟩
 clear h
 rintro ⟨⟩ w e h
 refine Yn ?_
 refine qo (Γ := Option Addr × Nat) (fun q => [(3, .int .u64 lo), (4, .int .u64 hi), (6, .slice q.1 (u.map fun y => y - lo).length q.2)]) (fun q w => St w0 (OwnU q.1 q.2 (u.map fun y => y - lo) :: l) w) ?_ ?_
 ·refine Y17 ?_
  refine qc (Γ := Nat × Option Addr × Nat) (fun k => [(0, .slice sl u.length c), (3, .int .u64 lo), (4, .int .u64 hi), (6, .slice k.2.1 ((u.take k.1).map fun y => y - lo).length k.2.2), (7, .int .i64 k.1)])
   (fun k w => k.1 ≤ u.length ∧ St w0 (OwnU k.2.1 k.2.2 ((u.take k.1).map fun y => y - lo) :: l) w) (fun k => u.length - k.1) (0, none, 0) ⟨rfl, rfl, rfl, rfl, rfl, trivial⟩ ⟨Nat.zero_le _, St.ownNil 30 1 h⟩ ?_
  clear h
  rintro ⟨k, oa, oc⟩ w e ⟨hk, h⟩
  dsimp only at hk h ⊢
  refine Y2n ?_
  refine qy (decide ((k : Int) < (u.length : Int))) rfl (fun hc => ?_) (fun hc => ?_)
  ·have hlt : k < u.length := by simp at hc; omega
   have hg := List.getElem?_eq_getElem hlt
   generalize u[k] = y at hg
   have hyl := hmem y (List.mem_of_getElem? hg)
   have hyu := hu y (List.mem_of_getElem? hg)
   refine Yy ?_; refine Y4u ?_
   refine qz (qn (b := b) (o := o) (m := u.length) (c := c) (o' := o + k) O8 rfl rfl hlt O7) rfl ?_
   refine qz (qx (v := .int .u64 y) rfl ((hsl ▸ hrd (M := [_]) h).cell (u64V_get hg))) rfl ?_
   refine Y1u ?_
   refine qg (.int .u64 ((y - lo : Nat) : Int)) O16 ?_
   refine jo (v := .int .u64 ((y - lo : Nat) : Int)) (m3 := ((u.take (k + 1)).map fun y => y - lo).length) (zs := u64V ((u.take (k + 1)).map fun y => y - lo)) h rfl rfl rfl rfl rfl O1 (by rw [List.take_add_one, hg]; simp [u64V, vcells]) O1 O1 rfl rfl rfl rfl rfl fun b a' c' w _ h => ?_
   refine Y42 ?_
   refine qg (.int .i64 ((k + 1 : Nat) : Int)) O5 ?_
   refine Y2 ?_
   exact qq ⟨(k + 1, a', c'), ⟨rfl, rfl, rfl, rfl, rfl, trivial⟩, ⟨hlt, h⟩, by dsimp only; omega⟩
  ·obtain rfl : k = u.length := by simp at hc; omega
   rw [List.take_length] at h
   refine qd ⟨(oa, oc), ⟨rfl, rfl, ?_, trivial⟩, h⟩
   show Value.slice oa ((u.take u.length).map fun y => y - lo).length oc = _
   rw [List.take_length]
 clear h
 rintro ⟨oa, oc⟩ w e h
 dsimp only at h ⊢
 have hv := jq lo
 refine Y4 ?_
 refine qw rfl (qj rfl (ref1_Put (bs := []) lo hlst h (fun w' h' => Reads.nil.at_ h') O7) ?_)
 rintro _ w ⟨a1, c1, rfl, h⟩
 rw [List.nil_append] at h ⊢
 refine Y0 ?_; refine Y1u ?_
 refine qg (.int .u64 ((hi - lo : Nat) : Int)) O16 ?_
 refine qw rfl (qj rfl (ref4_width O0 h) ?_)
 rintro _ w ⟨rfl, h⟩
 refine Yb ?_
 refine qg (.int .u8 ((UInt8.ofNat (len64 (hi - lo))).toNat : Int)) O12 ?_
 refine jo (v := .int .u8 ((UInt8.ofNat (len64 (hi - lo))).toNat : Int)) (m3 := (vput lo ++ [UInt8.ofNat (len64 (hi - lo))]).length) (zs := bytesV (vput lo ++ [UInt8.ofNat (len64 (hi - lo))])) h rfl rfl rfl rfl rfl O7 (by simp [bytesV, vcells]) O1 O1 rfl rfl rfl rfl rfl fun b2 a2 c2 w _ h => ?_
 refine Y27 ?_; refine Y1u ?_
 refine qg (.int .u64 ((hi - lo : Nat) : Int)) O16 ?_
 refine qw rfl (qj rfl (ref4_width O0 h) ?_)
 rintro _ w ⟨rfl, h⟩
 refine qw rfl (qj rfl (ref4_pack (ls := u.map fun y => y - lo) hw64 (by simp; exact hn) O1 (fun y hy => by obtain ⟨z, hz, rfl⟩ := List.mem_map.1 hy; have := hu z hz; omega) Reads.own Reads.own.cons h) ?_)
 rintro _ w ⟨a3, c3, rfl, h⟩
 rw [flat_map_bits, List.append_assoc] at h
 refine Ym ?_
 refine qv (bq1 ⟨a3, c3, ?_, (h.f 1).drop.f 1 |>.drop⟩)
 rw [flat_map_bits, List.append_assoc]
 rfl
theorem ref4_Dict {sl : Option Addr} {c : Nat} {u : List Nat} (hu : ∀ x ∈ u, x < 18446744073709551616) (hn : u.length ≤ 65535) (hr : Reads w0 l 1 sl u.length (u64V u)) (h : St w0 l w) :
  Ret Tryz.prog 139 [.slice sl u.length c] w fun v w' => ∃ a c', v = .tuple [.slice a ((dictEnc u).getD []).length c', .bool (dictEnc u).isSome].toArray ∧ St w0 (OwnB a c' ((dictEnc u).getD []) :: l) w' := by
 have hrd : ∀ {M : List HProp} {w' : World}, St w0 (M ++ l) w' → Rd w' 1 sl u.length (u64V u) := fun {M w'} h' => hr M w' h'
 refine enter Tryz.func139 rfl Tryz.results139 Tryz.ntmps139 rfl ?_
 refine Y18 ?_; refine Y2p ?_; refine Ym ?_
 refine qo (Γ := List Nat × Option Addr × Nat × Option Addr × Nat) (fun q => [(0, .slice sl u.length c), (4, .slice q.2.1 q.1.length q.2.2.1), (5, .slice q.2.2.2.1 (u.map fun x => q.1.idxOf x).length q.2.2.2.2)])
  (fun q w => unlikeA [] u = some q.1 ∧ St w0 (OwnU q.2.1 q.2.2.1 q.1 :: OwnU q.2.2.2.1 q.2.2.2.2 (u.map fun x => q.1.idxOf x) :: l) w) ?_ ?_
 ·refine Y17 ?_
  refine qc (Γ := Nat × List Nat × Option Addr × Nat × Option Addr × Nat) (fun k => [(0, .slice sl u.length c), (4, .slice k.2.2.1 k.2.1.length k.2.2.2.1), (5, .slice k.2.2.2.2.1 ((u.take k.1).map fun x => k.2.1.idxOf x).length k.2.2.2.2.2), (6, .int .i64 k.1)])
   (fun k w => k.1 ≤ u.length ∧ k.2.1.length ≤ 256 ∧ (∀ x ∈ u.take k.1, x ∈ k.2.1) ∧ unlikeA k.2.1 (u.drop k.1) = unlikeA [] u ∧ St w0 (OwnU k.2.2.1 k.2.2.2.1 k.2.1 :: OwnU k.2.2.2.2.1 k.2.2.2.2.2 ((u.take k.1).map fun x => k.2.1.idxOf x) :: l) w)
   (fun k => u.length - k.1) (0, [], none, 0, none, 0) ⟨rfl, rfl, rfl, rfl, trivial⟩ ⟨Nat.zero_le _, by decide, (fun _ h => by cases h), rfl, St.ownNil 30 1 (St.ownNil 30 1 h)⟩ ?_
  clear h
  rintro ⟨i, m, ma, mc, ia, ic⟩ w e ⟨hi, hm, hall, he, h⟩
  dsimp only at hi hm hall he h ⊢
  refine Y2n ?_
  refine qy (decide ((i : Int) < (u.length : Int))) rfl (fun hc => ?_) (fun hc => ?_)
  ·have hlt : i < u.length := by simp at hc; omega
   have hg := List.getElem?_eq_getElem hlt
   have hdr := List.drop_eq_getElem_cons hlt
   generalize u[i] = x at hg hdr
   have hx := hu x (List.mem_of_getElem? hg)
   obtain ⟨b, o, hsl⟩ := (hrd (M := [_, _]) h).some O0
   rw [hdr, unlikeA] at he
   refine Yy ?_
   refine qo (Γ := List Nat × Option Addr × Nat) (fun q => [(0, .slice sl u.length c), (4, .slice q.2.1 q.1.length q.2.2), (5, .slice ia ((u.take i).map fun x => q.1.idxOf x).length ic), (6, .int .i64 i)])
    (fun q w => q.1.length ≤ 257 ∧ x ∈ q.1 ∧ (∀ y ∈ u.take i, y ∈ q.1) ∧ (if 256 < q.1.length then none else unlikeA q.1 (u.drop (i + 1))) = unlikeA [] u ∧ St w0 (OwnU q.2.1 q.2.2 q.1 :: OwnU ia ic ((u.take i).map fun x => q.1.idxOf x) :: l) w) ?_ ?_
   ·refine Y5 ?_; refine Y27 ?_
    refine qz (qn (b := b) (o := o) (m := u.length) (c := c) (o' := o + i) O8 rfl rfl hlt O7) rfl ?_
    refine qz (qx (v := .int .u64 x) rfl ((hsl ▸ hrd (M := [_, _]) h).cell (u64V_get hg))) rfl ?_
    refine qw rfl (qj rfl (ref4_place x O0 Reads.own h) ?_)
    rintro _ w ⟨rfl, h⟩
    refine Ys ?_
    by_cases hxm : x ∈ m
    ·rw [if_pos hxm] at he
     refine qg (.bool false) (by rw [if_pos hxm]; exact congrArg Value.bool (decide_eq_false O0)) ?_
     refine qq (q6 rfl (qr ⟨(m, ma, mc), ⟨rfl, rfl, rfl, rfl, trivial⟩, by dsimp only; omega, hxm, hall, ?_, h⟩))
     dsimp only
     rw [if_neg O0]
     exact he
    ·rw [if_neg hxm] at he
     refine qg (.bool true) (by rw [if_neg hxm]; rfl) ?_
     refine Yk ?_; refine Y4u ?_
     refine qz (qn (b := b) (o := o) (m := u.length) (c := c) (o' := o + i) O8 rfl rfl hlt O7) rfl ?_
     refine qz (qx (v := .int .u64 x) rfl ((hsl ▸ hrd (M := [_, _]) h).cell (u64V_get hg))) rfl ?_
     refine jo (v := .int .u64 (x : Int)) (m3 := (m ++ [x]).length) (zs := u64V (m ++ [x])) h rfl rfl rfl rfl rfl O7 O22 O1 O1 rfl rfl rfl rfl rfl fun b a' c' w _ h => ?_
     refine Yx ?_
     have hmap : ((u.take i).map fun y => m.idxOf y) = (u.take i).map fun y => (m ++ [x]).idxOf y := List.map_congr_left fun y hy => (idxOf_append_of_mem (hall y hy)).symm
     refine qq ⟨(m ++ [x], a', c'), ⟨rfl, rfl, ?_, rfl, trivial⟩, by simp; omega, by simp, fun y hy => List.mem_append_left _ (hall y hy), ?_, ?_⟩
     ·show Value.slice ia _ ic = _
      rw [← hmap]
     ·dsimp only
      rw [← he, List.length_append, List.length_singleton]
      by_cases h6 : m.length = 256
      ·rw [if_pos O0, if_pos h6]
      ·rw [if_neg O0, if_neg h6]
     ·dsimp only
      rw [← hmap]
      exact h
   clear h he hall hm
   rintro ⟨m, ma, mc⟩ w e ⟨hm, hxm, hall, he, h⟩
   dsimp only at hm hxm hall he h ⊢
   have hix := List.idxOf_lt_length_of_mem hxm
   refine Y5 ?_; refine Yp ?_; refine Y27 ?_
   refine qz (qn (b := b) (o := o) (m := u.length) (c := c) (o' := o + i) O8 rfl rfl hlt O7) rfl ?_
   refine qz (qx (v := .int .u64 x) rfl ((hsl ▸ hrd (M := [_, _]) h).cell (u64V_get hg))) rfl ?_
   refine qw rfl (qj rfl (ref4_place x O0 Reads.own h) ?_)
   rintro _ w ⟨rfl, h⟩
   rw [if_pos hxm]
   refine Yb ?_
   refine qg (.int .u64 ((m.idxOf x : Nat) : Int)) O9 ?_
   refine jo (v := .int .u64 ((m.idxOf x : Nat) : Int)) (m3 := ((u.take (i + 1)).map fun y => m.idxOf y).length) (zs := u64V ((u.take (i + 1)).map fun y => m.idxOf y)) (h.f 1) rfl rfl rfl rfl rfl O1 (by rw [List.take_add_one, hg]; simp [u64V, vcells]) O1 O1 rfl rfl rfl rfl rfl fun b a' c' w _ h => ?_
   refine Ym ?_; refine Y21 ?_; refine Y1q ?_; refine Y3 ?_
   refine qy (decide ((m.length : Int) > 256)) rfl (fun hc => ?_) (fun hc => ?_)
   ·rw [if_pos (by simp at hc; omega)] at he
    have hd : dictEnc u = none := by unfold dictEnc; rw [← he]
    rw [hd]
    refine Y26 ?_
    exact qq (qv (bq2 ⟨none, 0, rfl, St.ownNil _ _ h.drop.drop⟩))
   ·rw [if_neg (by simp at hc; omega)] at he
    refine Y4q ?_
    refine qg (.int .i64 ((i + 1 : Nat) : Int)) O5 ?_
    refine Y2 ?_
    refine qq ⟨(i + 1, m, ma, mc, a', c'), ⟨rfl, rfl, rfl, rfl, trivial⟩, ⟨hlt, by simp at hc; dsimp only; omega, fun y hy => ?_, he, h.f 1⟩, by dsimp only; omega⟩
    dsimp only at hy ⊢
    rw [List.take_add_one, hg] at hy
    rcases List.mem_append.1 hy with hy | hy
    ·exact hall y hy
    ·have : y = x := by simpa using hy
     rw [this]; exact hxm
  ·obtain rfl : i = u.length := by simp at hc; omega
   rw [List.drop_length, unlikeA] at he
   rw [List.take_length] at h
   refine qd ⟨(m, ma, mc, ia, ic), ⟨rfl, rfl, ?_, trivial⟩, he.symm, h⟩
   show Value.slice ia ((u.take u.length).map _).length ic = _
   rw [List.take_length]
 clear h
 rintro ⟨m, ma, mc, ia, ic⟩ w e ⟨hso, h⟩
 dsimp only at hso h ⊢
 obtain ⟨_, hmem, hm256, hfrom⟩ := unlikeA_some u [] m hso O7
 have hm64 : ∀ x ∈ m, x < 18446744073709551616 := fun x hx => by
  rcases hfrom x hx with h | h
  ·cases h
  ·exact hu x h
 refine Y1w ?_; refine Yd ?_
 by_cases hu0 : u.length = 0
 ·refine qg (.bool true) (by rw [hu0]; rfl) ?_
  refine Yk ?_
  have hd : dictEnc u = some [] := by unfold dictEnc; rw [hso]; exact if_pos (List.eq_nil_of_length_eq_zero hu0)
  rw [hd]
  refine Y26 ?_
  exact qq (qv (bq2 ⟨none, 0, rfl, St.ownNil _ _ h.drop.drop⟩))
 have hd : dictEnc u = some (dictBytes m u) := by unfold dictEnc; rw [hso]; dsimp only; rw [if_neg (fun hh => hu0 (by rw [hh]; rfl))]
 rw [hd]
 have hmpos : 0 < m.length := by
  have hg := List.getElem?_eq_getElem (show 0 < u.length by omega)
  exact List.length_pos_of_mem (hmem _ (List.mem_of_getElem? hg))
 refine qg (.bool false) O3 ?_
 refine Y9 ?_
 have hvl := jq m.length
 refine Y21 ?_; refine Yb ?_
 refine qg (.int .u64 (m.length : Int)) O9 ?_
 refine qw rfl (qj rfl (ref1_Put (bs := []) m.length O0 h (fun w' h' => Reads.nil.at_ h') O7) ?_)
 rintro _ w ⟨a1, c1, rfl, h⟩
 rw [List.nil_append] at h ⊢
 refine Ym ?_
 refine qo (Γ := Option Addr × Nat) (fun q => [(4, .slice ma m.length mc), (5, .slice ia (u.map fun x => m.idxOf x).length ic), (7, .slice q.1 (vput m.length ++ m.flatMap vput).length q.2)]) (fun q w => St w0 (OwnB q.1 q.2 (vput m.length ++ m.flatMap vput) :: OwnU ma mc m :: OwnU ia ic (u.map fun x => m.idxOf x) :: l) w) ?_ ?_
 ·refine Y17 ?_
  refine qc (Γ := Nat × Option Addr × Nat) (fun k => [(4, .slice ma m.length mc), (5, .slice ia (u.map fun x => m.idxOf x).length ic), (7, .slice k.2.1 (vput m.length ++ (m.take k.1).flatMap vput).length k.2.2), (8, .int .i64 k.1)])
   (fun k w => k.1 ≤ m.length ∧ St w0 (OwnB k.2.1 k.2.2 (vput m.length ++ (m.take k.1).flatMap vput) :: OwnU ma mc m :: OwnU ia ic (u.map fun x => m.idxOf x) :: l) w) (fun k => m.length - k.1) (0, a1, c1) ⟨rfl, rfl, by simp; rfl, rfl, trivial⟩ ⟨Nat.zero_le _, by simpa using h⟩ ?_
  clear h
  rintro ⟨k, a1, c1⟩ w e ⟨hk, h⟩
  dsimp only at hk h ⊢
  refine Y2n ?_
  refine qy (decide ((k : Int) < (m.length : Int))) rfl (fun hc => ?_) (fun hc => ?_)
  ·have hlt : k < m.length := by simp at hc; omega
   have hg := List.getElem?_eq_getElem hlt
   generalize m[k] = y at hg
   have hvs := vputs_len (m.take k)
   rw [List.length_take, Nat.min_eq_left hk] at hvs
   obtain ⟨g, rfl⟩ := (h.f 1).own_some O0
   refine Yy ?_; refine Y4u ?_
   refine qz (qn (b := g) (o := 0) (m := m.length) (c := mc) (o' := k) rfl rfl rfl hlt O7) rfl ?_
   refine qz (qx (v := .int .u64 y) rfl O30) rfl ?_
   refine qw rfl (qj rfl (ref1_Put y (hm64 y (List.mem_of_getElem? hg)) h (fun w' h' => h'.own_rd) O28) ?_)
   rintro _ w ⟨a2, c2, rfl, h⟩
   have e1 : vput m.length ++ (m.take k).flatMap vput ++ vput y = vput m.length ++ (m.take (k + 1)).flatMap vput := by rw [List.take_add_one, hg]; simp
   rw [e1] at h ⊢
   refine Y42 ?_
   refine qg (.int .i64 ((k + 1 : Nat) : Int)) O5 ?_
   refine Y2 ?_
   exact qq ⟨(k + 1, a2, c2), ⟨rfl, rfl, rfl, rfl, trivial⟩, ⟨hlt, (h.f 1).drop⟩, by dsimp only; omega⟩
  ·obtain rfl : k = m.length := by simp at hc; omega
   rw [List.take_length] at h
   refine qd ⟨(a1, c1), ⟨rfl, rfl, ?_, trivial⟩, h⟩
   show Value.slice a1 (vput m.length ++ (m.take m.length).flatMap vput).length c1 = _
   rw [List.take_length]
 clear h
 rintro ⟨a2, c2⟩ w e h
 dsimp only at h ⊢
 have hvs := vputs_len m
 have hw64 : len64 (m.length - 1) ≤ 64 := len64_64 O0
 refine Y5 ?_; refine Yp ?_; refine Y1r ?_; refine Y1p ?_
 refine qg (.int .i64 ((m.length - 1 : Nat) : Int)) O6 ?_
 refine Yb ?_
 refine qg (.int .u64 ((m.length - 1 : Nat) : Int)) O9 ?_
 refine qw rfl (qj rfl (ref4_width O0 h) ?_)
 rintro _ w ⟨rfl, h⟩
 refine qw rfl (qj rfl (ref4_pack (ls := u.map fun x => m.idxOf x) hw64 (by simp; exact hn) O28 (fun y hy => by obtain ⟨z, hz, rfl⟩ := List.mem_map.1 hy; have := List.idxOf_lt_length_of_mem (hmem z hz); omega) Reads.own Reads.own.cons.cons h) ?_)
 rintro _ w ⟨a3, c3, rfl, h⟩
 have e2 : vput m.length ++ m.flatMap vput ++ pack ((u.map fun x => m.idxOf x).flatMap fun y => bitsOf y (len64 (m.length - 1))) = dictBytes m u := by rw [flat_map_bits, List.append_assoc]; rfl
 rw [e2] at h ⊢
 refine Y1f ?_
 exact qq (qv (bq2 ⟨a3, c3, rfl, ((h.f 1).drop.f 1).drop.f 1 |>.drop⟩))
end
end Go.Proofs.YtnnehiiblfmpnaaGreatDoor

namespace Go.Hw
end Go.Hw
namespace Go.Proofs.YtnnehiiblfmpnaaGreatDoor
open Go.Hw
set_option maxHeartbeats 4000000
set_option maxRecDepth 100000
section
variable {w0 w : World} {l : List HProp}
end
end Go.Proofs.YtnnehiiblfmpnaaGreatDoor

namespace Go.Proofs.YtnnehiiblfmpnaaGreatDoor
open Go.Hw
set_option maxHeartbeats 4000000
set_option maxRecDepth 100000
section
variable {w0 w : World} {l : List HProp}
theorem valsOf_get {L : List Smp} (hw : ∀ s ∈ L, s.Wf) {k : Nat} {s : Smp} (h : L[k]? = some s) : s.V = ((s.V.toNat : Nat) : Int) := by
 have := hw s (List.mem_of_getElem? h)
 obtain ⟨_, h2, _⟩ := this
 omega
theorem ref10_values {sl : Option Addr} {c : Nat} {L : List Smp} (hw : ∀ s ∈ L, s.Wf) (hn : L.length ≤ 65535) (hr : Reads w0 l 2 sl L.length (smpsV L)) (h : St w0 l w) :
  Ret Tryz.prog 92 [.slice sl L.length c] w fun v w' => ∃ a c', v = .slice a (valsOf L).length c' ∧ (valsOf L).length ≤ c' ∧ St w0 (OwnU a c' (valsOf L) :: l) w' := by
 refine enter Tryz.func92 rfl Tryz.results92 Tryz.ntmps92 rfl ?_
 refine Y3j ?_; refine Y2w ?_
 refine qc (Γ := Nat × Option Addr × Nat) (fun k => [(0, .slice sl L.length c), (3, .slice k.2.1 (valsOf (L.take k.1)).length k.2.2), (4, .int .i64 k.1)])
  (fun k w => k.1 ≤ L.length ∧ St w0 (OwnU k.2.1 k.2.2 (valsOf (L.take k.1)) :: l) w) (fun k => L.length - k.1) (0, none, 0) ⟨rfl, rfl, rfl, trivial⟩ ⟨Nat.zero_le _, St.ownNil 30 1 h⟩ ?_
 clear h
 rintro ⟨k, oa, oc⟩ w e ⟨hk, h⟩
 dsimp only at hk h ⊢
 refine Y2n ?_
 refine qy (decide ((k : Int) < (L.length : Int))) rfl (fun hc => ?_) (fun hc => ?_)
 ·have hlt : k < L.length := by simp at hc; omega
  have hg := List.getElem?_eq_getElem hlt
  generalize L[k] = s at hg
  have hsv := valsOf_get hw hg
  have hvl : (valsOf (L.take k)).length = k := by unfold valsOf; simp; omega
  have hvs : valsOf (L.take (k + 1)) = valsOf (L.take k) ++ [s.V.toNat] := by rw [List.take_add_one, hg]; simp [valsOf]
  obtain ⟨b, o, hsl⟩ := (hr.cons.at_ h).some O0
  refine Yy ?_; refine Y4u ?_
  refine qz (qn (b := b) (o := o) (m := L.length) (c := c) (o' := o + k * 2) O8 rfl rfl hlt rfl) rfl ?_
  refine Y1h ?_
  refine qz (qx (v := .int .u64 (s.V.toNat : Int)) rfl (by rw [← hsv]; exact (hsl ▸ hr.cons.at_ h).elem js hg 1 _ rfl)) rfl ?_
  refine jo (v := .int .u64 (s.V.toNat : Int)) (m3 := (valsOf (L.take (k + 1))).length) (zs := u64V (valsOf (L.take (k + 1)))) h rfl rfl rfl rfl rfl (by rw [hvs]; simp) (by rw [hvs]; simp [u64V, vcells]) (by rw [hvs]; simp; omega) (by rw [hvs]; simp; omega) rfl rfl rfl rfl rfl fun b a' c' w _ h => ?_
  refine Y42 ?_
  refine qg (.int .i64 ((k + 1 : Nat) : Int)) O5 ?_
  refine Y2 ?_
  exact qq ⟨(k + 1, a', c'), ⟨rfl, rfl, rfl, trivial⟩, ⟨hlt, h⟩, by dsimp only; omega⟩
 ·obtain rfl : k = L.length := by simp at hc; omega
  rw [List.take_length] at h
  refine qd ?_
  refine Y5 ?_; refine Yx ?_
  refine qq (qv (bq1 ⟨oa, oc, ?_, h.own_cases.2.1, h⟩))
  show Value.slice oa (valsOf (L.take L.length)).length oc = _
  rw [List.take_length]
theorem ref10_steps {sl : Option Addr} {c : Nat} {u : List Nat} (hu : ∀ x ∈ u, x < 18446744073709551616) (hn : u.length ≤ 65535) (hr : Reads w0 l 1 sl u.length (u64V u)) (h : St w0 l w) :
  Ret Tryz.prog 136 [.slice sl u.length c] w fun v w' => ∃ a c', v = .slice a (stepsL 0 u).length c' ∧ (stepsL 0 u).length ≤ c' ∧ St w0 (OwnU a c' (stepsL 0 u) :: l) w' := by
 refine enter Tryz.func136 rfl Tryz.results136 Tryz.ntmps136 rfl ?_
 refine Y3j ?_; refine Yf ?_; refine Y2w ?_
 refine qc (Γ := Nat × Nat × List Nat × Option Addr × Nat) (fun k => [(0, .slice sl u.length c), (3, .slice k.2.2.2.1 k.2.2.1.length k.2.2.2.2), (4, .int .u64 k.2.1), (5, .int .i64 k.1)])
  (fun k w => k.1 ≤ u.length ∧ k.2.1 < 18446744073709551616 ∧ k.2.2.1.length = k.1 ∧ k.2.2.1 ++ stepsL k.2.1 (u.drop k.1) = stepsL 0 u ∧ St w0 (OwnU k.2.2.2.1 k.2.2.2.2 k.2.2.1 :: l) w) (fun k => u.length - k.1) (0, 0, [], none, 0) ⟨rfl, rfl, rfl, rfl, trivial⟩ ⟨Nat.zero_le _, (by decide : (0 : Nat) < 18446744073709551616), rfl, rfl, St.ownNil _ _ h⟩ ?_
 clear h
 rintro ⟨i, was, out, a, c1⟩ w e ⟨hi, hw, hol, he, h⟩
 dsimp only at hi hw hol he h ⊢
 refine Y2n ?_
 refine qy (decide ((i : Int) < (u.length : Int))) rfl (fun hc => ?_) (fun hc => ?_)
 ·have hlt : i < u.length := by simp at hc; omega
  have hg := List.getElem?_eq_getElem hlt
  have hdr := List.drop_eq_getElem_cons hlt
  generalize u[i] = x at hg hdr
  have hx := hu x (List.mem_of_getElem? hg)
  have hd : diff x was < 18446744073709551616 := Nat.mod_lt _ O4
  rw [hdr, stepsL] at he
  obtain ⟨b, o, hsl⟩ := (hr.cons.at_ h).some O0
  refine Yy ?_; refine Y5 ?_; refine Y27 ?_
  refine qz (qn (b := b) (o := o) (m := u.length) (c := c) (o' := o + i) O8 rfl rfl hlt O7) rfl ?_
  refine qz (qx (v := .int .u64 x) rfl ((hsl ▸ hr.cons.at_ h).cell (u64V_get hg))) rfl ?_
  refine Y1u ?_
  refine qg (.int .u64 (diff x was : Nat)) (by rw [wrap_diff hw]) ?_
  refine Yb ?_
  refine qg (.int .i64 (sg (diff x was))) (by rw [gm hd]) ?_
  refine qw rfl (qj rfl (ref1_Zig (sg_wf hd) h) ?_)
  rintro _ w ⟨rfl, h⟩
  rw [show zigT (sg (diff x was)) = zigU (diff x was) by unfold zigT; rw [us_sg hd]]
  refine jo (v := .int .u64 (zigU (diff x was) : Nat)) (m3 := (out ++ [zigU (diff x was)]).length) (zs := u64V (out ++ [zigU (diff x was)])) h rfl rfl rfl rfl rfl O7 O22 O1 O1 rfl rfl rfl rfl rfl fun b2 a2 c2 w _ h => ?_
  refine Ym ?_; refine Y29 ?_
  refine qz (qn (b := b) (o := o) (m := u.length) (c := c) (o' := o + i) O8 rfl rfl hlt O7) rfl ?_
  refine qz (qx (v := .int .u64 x) rfl ((hsl ▸ hr.cons.at_ h).cell (u64V_get hg))) rfl ?_
  refine Y49 ?_
  refine qg (.int .i64 ((i + 1 : Nat) : Int)) O5 ?_
  refine Y2 ?_
  refine qq ⟨(i + 1, x, out ++ [zigU (diff x was)], a2, c2), ⟨rfl, rfl, rfl, rfl, trivial⟩, ⟨hlt, hx, by simp; omega, ?_, h⟩, by dsimp only; omega⟩
  rw [← he]; simp
 ·have hin : i = u.length := by simp at hc; omega
  rw [hin, List.drop_length, stepsL, List.append_nil] at he
  refine qd ?_
  refine Y4d ?_
  rw [← he]
  exact qv (bq1 ⟨a, c1, rfl, h.own_cases.2.1, h⟩)
abbrev TellV (tag : Int) (u : List Nat) (l : List HProp) (w0 : World) (v : Value) (w' : World) : Prop := ∃ a c', v = .tuple [.slice a ((valuesEnc tag u).getD []).length c', .bool (valuesEnc tag u).isSome].toArray ∧ St w0 (OwnB a c' ((valuesEnc tag u).getD []) :: l) w'
theorem ref10_told (tag : Int) {sl : Option Addr} {c : Nat} {u : List Nat} (hu : ∀ x ∈ u, x < 18446744073709551616) (hn : u.length ≤ 65535) (hr : Reads w0 l 1 sl u.length (u64V u)) (h : St w0 l w) :
  Ret Tryz.prog 91 [.int .i64 tag, .slice sl u.length c] w fun v w' => TellV tag u l w0 v w' := by
 refine enter Tryz.func91 rfl Tryz.results91 Tryz.ntmps91 rfl ?_
 refine Y18 ?_; refine Y1g ?_; refine Y3 ?_; refine Ya ?_; refine Y20 ?_
 refine qy (tag == 1) rfl (fun hc => ?_) (fun hc1 => ?_)
 ·have hv : valuesEnc tag u = some (pack (xorBits u)) := by unfold valuesEnc; rw [if_pos O25]
  have hxl := xorBits_len u
  unfold TellV
  rw [hv]
  refine Y1 ?_
  refine qz (qe (r := [.slice none 0 0]) rfl) rfl ?_
  refine qw rfl (jy h (show _ = Value.agg [.slice none 0 0].toArray from rfl) fun p w h => ?_)
  replace h : St w0 (IsRW p [] :: l) w := St.rw_new h
  refine Y1d ?_; refine Y3y ?_
  refine qw rfl (qj rfl (ref4_Values hu hn O4 h hr) ?_)
  rintro _ w ⟨rfl, h⟩
  rw [List.nil_append] at h
  refine Y2v ?_
  refine qw rfl (qj rfl (rw_Bytes O0 h) ?_)
  rintro _ w ⟨a, c', rfl, h⟩
  refine Y1f ?_
  exact qq (qv (bq2 ⟨a, c', rfl, (h.f 1).drop⟩))
 have hn1 : ¬ tag = 1 := by simpa using hc1
 refine Y20 ?_
 refine qy (tag == 2) rfl (fun hc => ?_) (fun hc2 => ?_)
 ·have hv : valuesEnc tag u = (simpEnc (stepsL 0 u)).map bigL := by unfold valuesEnc; rw [if_neg hn1, if_pos O25]
  have hsl := stepsL_len u 0
  have hslt := stepsL_lt u 0
  obtain ⟨hsl2, hsw⟩ := simpEnc_len (u := stepsL 0 u)
  obtain ⟨e1, e2⟩ := simp_big (simpEnc (stepsL 0 u))
  unfold TellV
  rw [hv, e1, e2]
  refine Y5 ?_
  refine qw rfl (qj rfl (ref10_steps hu hn hr h) ?_)
  rintro _ w ⟨sa, sc, rfl, hsc, h⟩
  refine qw rfl (qj rfl (ref4_Simple hslt O0 hsc Reads.own h) ?_)
  rintro _ w ⟨wa, wc, rfl, h⟩
  generalize (simpEnc (stepsL 0 u)).getD [] = ws at hsl2 hsw h ⊢
  generalize (simpEnc (stepsL 0 u)).isSome = ok
  replace h : St w0 (OwnU wa wc ws :: l) w := (h.f 1).drop
  clear hr
  refine Y14 ?_; refine Yn ?_; refine Y2w ?_
  refine qc (Γ := Nat × Option Addr × Nat) (fun k => [(7, .slice wa ws.length wc), (8, .bool ok), (9, .slice k.2.1 (bigL (ws.take k.1)).length k.2.2), (10, .int .i64 k.1)])
   (fun k w => k.1 ≤ ws.length ∧ St w0 (OwnB k.2.1 k.2.2 (bigL (ws.take k.1)) :: OwnU wa wc ws :: l) w) (fun k => ws.length - k.1) (0, none, 0) ⟨rfl, rfl, rfl, rfl, trivial⟩ ⟨Nat.zero_le _, St.ownNil _ _ h⟩ ?_
  clear h
  rintro ⟨i, a, c1⟩ w e ⟨hi, h⟩
  dsimp only at hi h ⊢
  have hbl := bigL_len (ws.take i)
  rw [List.length_take, Nat.min_eq_left hi] at hbl
  refine Y2n ?_
  refine qy (decide ((i : Int) < (ws.length : Int))) rfl (fun hc => ?_) (fun hc => ?_)
  ·have hlt : i < ws.length := by simp at hc; omega
   have hg := List.getElem?_eq_getElem hlt
   generalize ws[i] = x at hg
   have hx := hsw x (List.mem_of_getElem? hg)
   obtain ⟨g, rfl⟩ := (h.f 1).own_some O0
   have hstep : bigL (ws.take (i + 1)) = bigL (ws.take i) ++ be8 x := by
    unfold bigL
    rw [List.take_add_one, hg, List.flatMap_append]; simp
   rw [show Value.slice a (bigL (ws.take i)).length c1 = Value.slice a (bigL (ws.take i) ++ (be8 x).take 0).length c1 by simp]
   replace h : St w0 (OwnB a c1 (bigL (ws.take i) ++ (be8 x).take 0) :: OwnU (some ⟨g, 0, none⟩) wc ws :: l) w := by simpa using h
   generalize bigL (ws.take i) = base at hbl hstep h ⊢
   refine Yy ?_; refine Y17 ?_
   refine qc (Γ := Nat × Option Addr × Nat) (fun k => [(7, .slice (some ⟨g, 0, none⟩) ws.length wc), (8, .bool ok), (9, .slice k.2.1 (base ++ (be8 x).take k.1).length k.2.2), (10, .int .i64 i), (11, .int .i64 (7 - (k.1 : Int)))])
    (fun k w => k.1 ≤ 8 ∧ St w0 (OwnB k.2.1 k.2.2 (base ++ (be8 x).take k.1) :: OwnU (some ⟨g, 0, none⟩) wc ws :: l) w) (fun k => 8 - k.1) (0, a, c1) ⟨rfl, rfl, rfl, rfl, rfl, trivial⟩ ⟨Nat.zero_le _, h⟩ ?_
   clear h
   rintro ⟨j, a, c1⟩ w e ⟨hj, h⟩
   dsimp only at hj h ⊢
   have hb8 : (be8 x).length = 8 := rfl
   refine Y1g ?_; refine Y1v ?_
   by_cases hj8 : j < 8
   ·refine qg (.bool true) O1 ?_
    refine Y1z ?_
    have hgj := be8_get x j hj8
    have htk : (be8 x).take (j + 1) = (be8 x).take j ++ [UInt8.ofNat (x / 2 ^ (8 * (7 - j)))] := by rw [List.take_add_one, hgj]; rfl
    have htl : ((be8 x).take j).length = j := by rw [List.length_take, hb8]; omega
    refine Y1y ?_; refine Y4u ?_
    refine qz (qn (b := g) (o := 0) (m := ws.length) (c := wc) (o' := i) rfl rfl rfl hlt O7) rfl ?_
    refine qz (qx (v := .int .u64 x) rfl O30) rfl ?_
    refine Y0 ?_; refine Y43 ?_
    refine qg (.int .i64 ((8 * (7 - j) : Nat) : Int)) O6 ?_
    refine Yb ?_
    refine qg (.int .u64 ((8 * (7 - j) : Nat) : Int)) O9 ?_
    refine qz (qh (v' := .int .u64 ((x / 2 ^ (8 * (7 - j)) : Nat) : Int)) (ju rfl rfl O0) (congrArg (Value.int .u64) (q9 x (8 * (7 - j)) 64 O0))) rfl ?_
    refine Yb ?_
    refine qg (.int .u8 ((UInt8.ofNat (x / 2 ^ (8 * (7 - j)))).toNat : Int)) O12 ?_
    refine jo (v := .int .u8 ((UInt8.ofNat (x / 2 ^ (8 * (7 - j)))).toNat : Int)) (m3 := (base ++ (be8 x).take (j + 1)).length) (zs := bytesV (base ++ (be8 x).take (j + 1))) h rfl rfl rfl rfl rfl O33 (by rw [htk]; simp [bytesV, vcells]) O33 O33 rfl rfl rfl rfl rfl fun b2 a2 c2 w _ h => ?_
    refine Y4k ?_; refine Y1p ?_
    refine qg (.int .i64 (7 - ((j + 1 : Nat) : Int))) O6 ?_
    refine Y2 ?_
    exact qq ⟨(j + 1, a2, c2), ⟨rfl, rfl, rfl, rfl, rfl, trivial⟩, ⟨hj8, h⟩, by dsimp only; omega⟩
   refine qg (.bool false) O1 ?_
   refine Y11 ?_
   have hjj : j = 8 := by omega
   subst hjj
   rw [show (be8 x).take 8 = be8 x from rfl, ← hstep] at h
   refine qd ?_
   refine Y1b ?_
   refine qg (.int .i64 ((i + 1 : Nat) : Int)) O5 ?_
   refine Y2 ?_
   refine qq ⟨(i + 1, a, c1), ⟨rfl, rfl, ?_, rfl, trivial⟩, ⟨hlt, h⟩, by dsimp only; omega⟩
   show Value.slice _ _ _ = Value.slice _ _ _
   rw [hstep]; rfl
  ·have hin : i = ws.length := by simp at hc; omega
   rw [hin, List.take_length] at h
   refine qd ?_
   refine Y5 ?_; refine Y2u ?_; refine Y1f ?_
   refine qq (qv (bq2 ⟨a, c1, ?_, (h.f 1).drop⟩))
   show Value.tuple [Value.slice a (bigL (ws.take i)).length c1, _].toArray = _
   rw [hin, List.take_length]
   rfl
 have hn2 : ¬ tag = 2 := by simpa using hc2
 refine Y20 ?_
 refine qy (tag == 3) rfl (fun hc => ?_) (fun hc3 => ?_)
 ·have hv : valuesEnc tag u = some (runsEnc u) := by unfold valuesEnc; rw [if_neg hn1, if_neg hn2, if_pos O25]
  unfold TellV
  rw [hv]
  refine Y5 ?_
  refine qw rfl (qj rfl (ref4_Runs hu hn hr h) ?_)
  rintro _ w ⟨a, c', rfl, h⟩
  refine Y1f ?_
  exact qq (qv (bq2 ⟨a, c', rfl, h⟩))
 have hn3 : ¬ tag = 3 := by simpa using hc3
 refine Y20 ?_
 refine qy (tag == 4) rfl (fun hc => ?_) (fun hc4 => ?_)
 ·have hv : valuesEnc tag u = some (frameEnc u) := by unfold valuesEnc; rw [if_neg hn1, if_neg hn2, if_neg hn3, if_pos O25]
  unfold TellV
  rw [hv]
  refine Y5 ?_
  refine qw rfl (qj rfl (ref4_Frame hu hn hr h) ?_)
  rintro _ w ⟨a, c', rfl, h⟩
  refine Y1f ?_
  exact qq (qv (bq2 ⟨a, c', rfl, h⟩))
 have hn4 : ¬ tag = 4 := by simpa using hc4
 refine Y20 ?_
 refine qy (tag == 5) rfl (fun hc => ?_) (fun hc5 => ?_)
 ·have hv : valuesEnc tag u = dictEnc u := by unfold valuesEnc; rw [if_neg hn1, if_neg hn2, if_neg hn3, if_neg hn4, if_pos O25]
  unfold TellV
  rw [hv]
  refine Y5 ?_
  refine qw rfl (qj rfl (ref4_Dict hu hn hr h) ?_)
  rintro _ w ⟨a, c', rfl, h⟩
  refine Y3m ?_; refine Y1f ?_
  exact qq (qv (bq2 ⟨a, c', rfl, h⟩))
 have hn5 : ¬ tag = 5 := by simpa using hc5
 refine Y20 ?_
 refine qy (tag == 6) rfl (fun hc => ?_) (fun hc6 => ?_)
 ·have hv : valuesEnc tag u = sameEnc u := by unfold valuesEnc; rw [if_neg hn1, if_neg hn2, if_neg hn3, if_neg hn4, if_neg hn5, if_pos O25]
  unfold TellV
  rw [hv]
  refine Y1w ?_; refine Yd ?_
  cases u with
  | nil =>
   refine qg (.bool true) rfl ?_
   refine Y2e ?_
   exact qq (qv (bq2 ⟨none, 0, rfl, St.ownNil _ _ h⟩))
  | cons x r =>
  have hx := hu x (List.mem_cons_self ..)
  have hgx : (x :: r)[0]? = some x := rfl
  have hpos : 0 < (x :: r).length := by simp
  refine qg (.bool false) O1 ?_
  refine Y9 ?_
  obtain ⟨b, o, hsl⟩ := (hr.at_ h).some hpos
  refine qo (Γ := Unit) (fun _ => [(1, .slice sl (x :: r).length c)]) (fun _ w => (r.all fun y => decide (y = x)) = true ∧ St w0 l w) ?_ ?_
  ·refine Y17 ?_
   refine qc (Γ := Nat) (fun k => [(1, .slice sl (x :: r).length c), (12, .int .i64 k)]) (fun k w => k ≤ (x :: r).length ∧ (∀ y ∈ (x :: r).take k, y = x) ∧ St w0 l w) (fun k => (x :: r).length - k) 0 ⟨rfl, rfl, trivial⟩ ⟨Nat.zero_le _, (fun _ h => by cases h), h⟩ ?_
   clear h
   rintro k w e ⟨hk, hall, h⟩
   refine Y2n ?_
   refine qy (decide ((k : Int) < ((x :: r).length : Int))) rfl (fun hc => ?_) (fun hc => ?_)
   ·have hlt : k < (x :: r).length := by simp at hc ⊢; omega
    have hg := List.getElem?_eq_getElem hlt
    have hgm : (x :: r)[k] ∈ x :: r := List.getElem_mem _
    generalize (x :: r)[k] = y at hg hgm
    refine Yy ?_
    refine ql (jj none (fun w => St w0 l w) O2 O2 h.drew fun w h => ?_)
    refine Yq ?_
    refine cpv rfl rfl rfl rfl h rfl (qn (b := b) (o := o) (m := (x :: r).length) (c := c) (o' := o + k) O8 rfl rfl hlt O7) ?_
    refine qu rfl rfl rfl rfl h (fun w h => qm rfl (qx (v := .int .u64 y) rfl ((hsl ▸ hr.at_ h).cell (u64V_get hg)))) ?_
    refine Y1i ?_
    refine cpv rfl rfl rfl rfl h rfl (qn (b := b) (o := o) (m := (x :: r).length) (c := c) (j := 0) (o' := o + 0) O8 rfl rfl hpos O7) ?_
    refine qu rfl rfl rfl rfl h (fun w h => qm rfl (qx (v := .int .u64 x) rfl ((hsl ▸ hr.at_ h).cell (u64V_get hgx)))) ?_
    refine cpv rfl rfl rfl rfl h rfl (q_neq rfl rfl) ?_
    refine qi ?_
    refine qy ((y : Int) != (x : Int)) rfl (fun hc => ?_) (fun hc => ?_)
    ·have hyx : y ≠ x := by rw [bne_iff_ne] at hc; omega
     have e1 : sameEnc (x :: r) = none := by
      rw [sameEnc, if_neg]
      intro hh
      rcases List.mem_cons.1 hgm with h1 | h1
      ·exact hyx h1
      ·exact hyx (by simpa using List.all_eq_true.1 hh y h1)
     rw [e1]
     refine Y26 ?_
     exact qq (qv (bq2 ⟨none, 0, rfl, St.ownNil _ _ h⟩))
    ·have hyx : y = x := by rw [bne_eq_false_iff_eq] at hc; omega
     refine Y4q ?_
     refine qg (.int .i64 ((k + 1 : Nat) : Int)) O5 ?_
     refine Y2 ?_
     refine qq ⟨k + 1, ⟨rfl, rfl, trivial⟩, ⟨hlt, fun z hz => ?_, h⟩, by omega⟩
     rw [List.take_add_one, hg] at hz
     rcases List.mem_append.1 hz with hz | hz
     ·exact hall z hz
     ·have : z = y := by simpa using hz
      rw [this, hyx]
   ·obtain rfl : k = (x :: r).length := by simp at hc hk ⊢; omega
    rw [List.take_length] at hall
    refine qd ⟨(), ⟨rfl, trivial⟩, ?_, h⟩
    exact List.all_eq_true.2 fun y hy => by simpa using hall y (List.mem_cons_of_mem _ hy)
  clear h
  rintro ⟨⟩ w e ⟨hall, h⟩
  rw [sameEnc, if_pos hall]
  refine Y5 ?_
  refine qz (qn (b := b) (o := o) (m := (x :: r).length) (c := c) (j := 0) (o' := o + 0) O8 rfl rfl hpos O7) rfl ?_
  refine qz (qx (v := .int .u64 x) rfl ((hsl ▸ hr.at_ h).cell (u64V_get hgx))) rfl ?_
  refine qw rfl (qj rfl (ref1_Put (bs := []) x hx h (fun w' h' => Reads.nil.at_ h') O7) ?_)
  rintro _ w ⟨a1, c1, rfl, h⟩
  rw [List.nil_append] at h ⊢
  refine Y1f ?_
  exact qq (qv (bq2 ⟨a1, c1, rfl, h⟩))
 have hn6 : ¬ tag = 6 := by simpa using hc6
 have hv : valuesEnc tag u = none := by unfold valuesEnc; rw [if_neg hn1, if_neg hn2, if_neg hn3, if_neg hn4, if_neg hn5, if_neg hn6]
 unfold TellV
 rw [hv]
 refine Yh ?_; refine Y26 ?_
 exact qq (qv (bq2 ⟨none, 0, rfl, St.ownNil _ _ h⟩))
theorem ref10_Rising {sl : Option Addr} {c : Nat} {L : List Smp} (hn : L.length ≤ 1073741824) (hr : Reads w0 l 2 sl L.length (smpsV L)) (h : St w0 l w) :
  Ret Tryz.prog 93 [.slice sl L.length c] w fun v w' => v = .bool (rising L) ∧ St w0 l w' := by
 refine enter Tryz.func93 rfl Tryz.results93 Tryz.ntmps93 rfl ?_
 refine Y2a ?_; refine Y2w ?_
 refine qc (Γ := Nat) (fun k => [(0, .slice sl L.length c), (3, .int .i64 ((k + 1 : Nat) : Int))]) (fun k w => (L = [] ∨ (k < L.length ∧ ∀ s, L[k]? = some s → rises L = risesA s.T (L.drop (k + 1)))) ∧ St w0 l w) (fun k => L.length - k) 0 ⟨rfl, rfl, trivial⟩ ⟨by
  cases L with
  | nil => exact .inl rfl
  | cons s r => exact .inr ⟨by simp, fun x hx => by simp at hx; subst hx; rfl⟩, h⟩ ?_
 clear h
 rintro k w e ⟨inv, h⟩
 refine Y4z ?_; refine Ys ?_
 by_cases hlt : k + 1 < L.length
 ·refine qg (.bool true) O1 ?_
  refine Y1z ?_
  rcases inv with inv | ⟨hk, inv⟩
  ·rw [inv] at hlt; simp at hlt
  have hg0 := List.getElem?_eq_getElem hk
  have hg := List.getElem?_eq_getElem hlt
  have hdr := List.drop_eq_getElem_cons hlt
  generalize L[k + 1] = s1 at hg hdr
  have he := inv _ hg0
  generalize L[k] = s0 at hg0 he
  rw [hdr, risesA] at he
  obtain ⟨b, o, hsl⟩ := (hr.at_ h).some O0
  have hat1 : ∀ {w'}, St w0 l w' → w'.cell? ⟨b, o + (k + 1) * 2 + 0, none⟩ = some (.int .i64 s1.T) := fun h' => (hsl ▸ hr.at_ h').elem js hg 0 _ rfl
  have hat0 : ∀ {w'}, St w0 l w' → w'.cell? ⟨b, o + k * 2 + 0, none⟩ = some (.int .i64 s0.T) := fun h' => (hsl ▸ hr.at_ h').elem js hg0 0 _ rfl
  refine Y1y ?_
  refine ql (jj none (fun w => St w0 _ w) O2 O2 h.drew fun w h => ?_)
  refine Yq ?_
  refine cpv rfl rfl rfl rfl h rfl (qn (b := b) (o := o) (m := L.length) (c := c) (o' := o + (k + 1) * 2) O8 rfl rfl hlt rfl) ?_
  refine Y1c ?_
  refine qu rfl rfl rfl rfl h (fun w h => qm rfl (qx (v := .int .i64 s1.T) rfl (hat1 h))) ?_
  refine Yq ?_
  refine cpv rfl rfl rfl rfl h rfl (qh (v' := .int .i64 (k : Int)) (jm rfl rfl) O6) ?_
  refine cpv rfl rfl rfl rfl h rfl (qn (b := b) (o := o) (m := L.length) (c := c) (o' := o + k * 2) O8 rfl rfl hk rfl) ?_
  refine Y1c ?_
  refine qu rfl rfl rfl rfl h (fun w h => qm rfl (qx (v := .int .i64 s0.T) rfl (hat0 h))) ?_
  refine cpv rfl rfl rfl rfl h rfl (q_leq rfl rfl) ?_
  refine qi ?_
  refine qy (decide (s1.T ≤ s0.T)) rfl (fun hc => ?_) (fun hc => ?_)
  ·
   refine Y2a ?_
   refine qv (bq1 ⟨?_, h⟩)
   have : rising L = false := by
    unfold rising
    rw [he, show decide (s0.T < s1.T) = false by rw [decide_eq_true_eq] at hc; rw [decide_eq_false_iff_not]; omega]
    rfl
   rw [this]; rfl
  ·rw [show decide (s0.T < s1.T) = true by rw [decide_eq_false_iff_not] at hc; rw [decide_eq_true_eq]; omega, Bool.true_and] at he
   refine Y4q ?_
   refine qg (.int .i64 ((k + 1 + 1 : Nat) : Int)) O5 ?_
   refine Y2 ?_
   refine qq ⟨k + 1, ⟨rfl, rfl, trivial⟩, ⟨.inr ⟨hlt, fun s hs => ?_⟩, h⟩, by omega⟩
   rw [hg] at hs; cases hs
   exact he
 refine qg (.bool false) O1 ?_
 refine Y11 ?_
 have hrise : rises L = true := by
  rcases inv with inv | ⟨hk, inv⟩
  ·rw [inv]; rfl
  ·have := inv _ (List.getElem?_eq_getElem hk)
   rw [this, show k + 1 = L.length by omega, List.drop_length]; rfl
 refine qd ?_
 refine Y21 ?_; refine Y4x ?_; refine Yc ?_
 refine qv (bq1 ⟨?_, h⟩)
 show Value.bool (decide ((L.length : Int) ≤ 65535)) = _
 unfold rising
 rw [hrise, Bool.true_and]
 congr 1
 rw [decide_eq_decide]
 omega
theorem ref10_Encode (tag : Int) {sl : Option Addr} {c : Nat} {L : List Smp} (hw : ∀ s ∈ L, s.Wf) (hn : L.length ≤ 65535) (hr : Reads w0 l 2 sl L.length (smpsV L)) (h : St w0 l w) :
  Ret Tryz.prog 54 [.int .i64 tag, .slice sl L.length c] w fun v w' => ∃ a c', v = .tuple [.slice a ((suitEnc tag L).getD []).length c', .bool (suitEnc tag L).isSome].toArray ∧ St w0 (OwnB a c' ((suitEnc tag L).getD []) :: l) w' := by
 have hvl : (valsOf L).length = L.length := by simp [valsOf]
 have hvlt := valsOf_lt hw
 have htl : (timesOf L).length = L.length := by simp [timesOf]
 have hvel := valuesEnc_len (tag := tag) (u := valsOf L) O0 hvlt
 refine enter Tryz.func54 rfl Tryz.results54 Tryz.ntmps54 rfl ?_
 refine Y39 ?_; refine Yp ?_
 refine qw rfl (qj rfl (ref10_values hw hn hr h) ?_)
 rintro _ w ⟨va, vc, rfl, _, h⟩
 refine qw rfl (qj rfl (ref10_told tag hvlt O0 Reads.own h) ?_)
 rintro _ w ⟨ba, bc, rfl, h⟩
 replace h := (h.f 1).drop
 refine Y14 ?_; refine Y44 ?_
 cases hE : valuesEnc tag (valsOf L) with
 | none =>
  have hS : suitEnc tag L = none := by unfold suitEnc; rw [hE]; split <;> rfl
  rw [hS]
  rw [hE] at h
  show Rn _ _ _ _ _ (upd (upd _ 6 (.slice ba 0 bc)) 7 (.bool false)) _
  refine Y1l ?_; refine Y15 ?_; refine Y2c ?_
  exact qq (qv (bq2 ⟨none, 0, rfl, St.ownNil _ _ h.drop⟩))
 | some vb =>
 rw [hE] at h hvel
 replace h : St w0 (OwnB ba bc vb :: l) w := h
 have hvel : vb.length ≤ 2000000 := hvel
 show Rn _ _ _ _ _ (upd (upd _ 6 (.slice ba vb.length bc)) 7 (.bool true)) _
 refine Y1l ?_; refine Y2f ?_
 refine qw rfl (qj rfl (ref10_Rising O0 hr.cons h) ?_)
 rintro _ w ⟨rfl, h⟩
 cases hR : rising L with
 | false =>
  have hS : suitEnc tag L = none := by unfold suitEnc; rw [hR]; rfl
  rw [hS]
  refine Y3e ?_; refine Y8 ?_; refine Y2e ?_
  exact qq (qv (bq2 ⟨none, 0, rfl, St.ownNil _ _ h.drop⟩))
 | true =>
 have hS : suitEnc tag L = some (suitBytes L vb) := by unfold suitEnc; rw [hR, hE]; rfl
 rw [hS]
 refine Y3e ?_; refine Y4p ?_; refine Y1 ?_
 refine qz (qe (r := [.slice none 0 0]) rfl) rfl ?_
 refine qw rfl (jy h (show _ = Value.agg [.slice none 0 0].toArray from rfl) fun p w h => ?_)
 replace h : St w0 (IsRW p [] :: OwnB ba bc vb :: l) w := St.rw_new h
 refine Y1d ?_; refine Yn ?_
 refine qo (Γ := Option Addr × Nat) (fun q => [(6, .slice ba vb.length bc), (8, .pointer (some ⟨p, 0, none⟩)), (9, .slice q.1 (timesOf L).length q.2)])
  (fun q w => St w0 (IsRW p [] :: Own 2 1 q.1 (timesOf L).length q.2 (i64V (timesOf L)) :: OwnB ba bc vb :: l) w) ?_ ?_
 ·refine Y17 ?_
  refine qc (Γ := Nat × Option Addr × Nat) (fun k => [(1, .slice sl L.length c), (6, .slice ba vb.length bc), (8, .pointer (some ⟨p, 0, none⟩)), (9, .slice k.2.1 (timesOf (L.take k.1)).length k.2.2), (10, .int .i64 k.1)])
   (fun k w => k.1 ≤ L.length ∧ St w0 (Own 2 1 k.2.1 (timesOf (L.take k.1)).length k.2.2 (i64V (timesOf (L.take k.1))) :: IsRW p [] :: OwnB ba bc vb :: l) w) (fun k => L.length - k.1) (0, none, 0) ⟨rfl, rfl, rfl, rfl, rfl, trivial⟩ ⟨Nat.zero_le _, St.ownNil _ _ h⟩ ?_
  clear h
  rintro ⟨k, oa, oc⟩ w e ⟨hk, h⟩
  dsimp only at hk h ⊢
  refine Y2n ?_
  refine qy (decide ((k : Int) < (L.length : Int))) rfl (fun hc => ?_) (fun hc => ?_)
  ·have hlt : k < L.length := by simp at hc; omega
   have hg := List.getElem?_eq_getElem hlt
   generalize L[k] = s at hg
   have hkl : (timesOf (L.take k)).length = k := by unfold timesOf; simp; omega
   have hvs : timesOf (L.take (k + 1)) = timesOf (L.take k) ++ [s.T] := by rw [List.take_add_one, hg]; simp [timesOf]
   obtain ⟨b, o, hsl⟩ := (hr [_, _, _] _ h).some O0
   refine Yy ?_; refine Y4u ?_
   refine qz (qn (b := b) (o := o) (m := L.length) (c := c) (o' := o + k * 2) O8 rfl rfl hlt rfl) rfl ?_
   refine Y1h ?_
   refine qz (qx (v := .int .i64 s.T) rfl ((hsl ▸ hr [_, _, _] _ h).elem js hg 0 _ rfl)) rfl ?_
   refine jo (v := .int .i64 s.T) (m3 := (timesOf (L.take (k + 1))).length) (zs := i64V (timesOf (L.take (k + 1)))) h rfl rfl rfl rfl rfl (by rw [hvs]; simp) (by rw [hvs]; simp [i64V, vcells]) (by rw [hvs]; simp; omega) (by rw [hvs]; simp; omega) rfl rfl rfl rfl rfl fun b a' c' w _ h => ?_
   refine Y42 ?_
   refine qg (.int .i64 ((k + 1 : Nat) : Int)) O5 ?_
   refine Y2 ?_
   exact qq ⟨(k + 1, a', c'), ⟨rfl, rfl, rfl, rfl, rfl, trivial⟩, ⟨hlt, h⟩, by dsimp only; omega⟩
  ·obtain rfl : k = L.length := by simp at hc; omega
   rw [List.take_length] at h
   refine qd ⟨(oa, oc), ⟨rfl, rfl, ?_, trivial⟩, h.f 1⟩
   show Value.slice oa (timesOf (L.take L.length)).length oc = _
   rw [List.take_length]
 clear h
 rintro ⟨ta, tc⟩ w e h
 dsimp only at h ⊢
 have htb := timesBits_len (timesOf L)
 have hpl := jc (timesBits (timesOf L))
 refine Y3y ?_
 refine qw rfl (qj rfl (ref4_Times (timesOf_wf hw) O0 O4 h Reads.own) ?_)
 rintro _ w ⟨rfl, h⟩
 rw [List.nil_append] at h
 refine Y2v ?_
 refine qw rfl (qj rfl (rw_Bytes O0 h) ?_)
 rintro _ w ⟨xa, xc, rfl, h⟩
 replace h := ((h.f 1).drop.f 1).drop
 refine Ym ?_
 have hsb : suitBytes L vb = vput (pack (timesBits (timesOf L))).length ++ (pack (timesBits (timesOf L)) ++ vb) := rfl
 generalize pack (timesBits (timesOf L)) = tb at *
 have hvp := jq tb.length
 rw [hsb]
 refine Y21 ?_; refine Yb ?_
 refine qg (.int .u64 (tb.length : Int)) O9 ?_
 refine qw rfl (qj rfl (ref1_Put (bs := []) tb.length O0 h (fun w' h' => Reads.nil.at_ h') O7) ?_)
 rintro _ w ⟨a1, c1, rfl, h⟩
 rw [List.nil_append] at h ⊢
 refine Yp ?_
 refine qw rfl (qa (ys := bytesV tb) (zs := bytesV (vput tb.length ++ tb)) (m3 := (vput tb.length ++ tb).length) h rfl rfl (h.f 1).own_rd (bytesV_one _) O7 O31 O1 O1 rfl fun a2 c2 w _ h => ?_)
 refine Yp ?_
 refine qw rfl (qa (ys := bytesV vb) (zs := bytesV (vput tb.length ++ (tb ++ vb))) (m3 := (vput tb.length ++ (tb ++ vb)).length) h rfl rfl (h.f 2).own_rd (bytesV_one _) O1 O31 O1 O1 rfl fun a3 c3 w _ h => ?_)
 refine Y1f ?_
 exact qq (qv (bq2 ⟨a3, c3, rfl, ((h.f 1).drop.f 1).drop⟩))
theorem ref1_Entry {i : Nat} (hi : i < 4294967296) (h : St w0 l w) : Ret Tryz.prog 96 [.int .u32 i] w fun v w' => v = .int .u32 (crcByte i : Nat) ∧ St w0 l w' := by
 refine enter Tryz.func96 rfl Tryz.results96 Tryz.ntmps96 rfl ?_
 refine Yf ?_; refine Y2w ?_
 refine qc (Γ := Nat) (fun k => [(0, .int .u32 (crcN k i : Nat)), (3, .int .i64 k)]) (fun k w => k ≤ 8 ∧ St w0 l w) (fun k => 8 - k) 0 ⟨rfl, rfl, trivial⟩ ⟨Nat.zero_le _, h⟩ ?_
 clear h
 rintro k w e ⟨hk, h⟩
 refine Y3s ?_
 by_cases hk8 : k < 8
 ·refine qg (.bool true) O1 ?_
  refine Y1z ?_
  have hcl := crcN_lt hi k
  have hstep : crcN (k + 1) i = crcBit (crcN k i) := rfl
  generalize crcN k i = c at hcl hstep
  refine qo (Γ := Unit) (fun _ => [(0, .int .u32 (crcN (k + 1) i : Nat)), (3, .int .i64 k)]) (fun _ w => St w0 l w) ?_ ?_
  ·refine Ya ?_; refine Y4 ?_
   refine qz (qh (v' := .int .u32 ((c % 2 : Nat) : Int)) (q_and rfl rfl) (by rw [show bitOp .and .u32 (c : Int) 1 = ((c &&& 1 : Nat) : Int) from (bit_u32 hcl O4).1, Nat.and_one_is_mod])) rfl ?_
   refine Y3p ?_
   refine qz (qh (v' := .int .u32 ((c / 2 : Nat) : Int)) (ju rfl rfl O0) (congrArg (Value.int .u32) (q9 c 1 32 O4))) rfl ?_
   refine Y3p ?_; refine Yd ?_
   by_cases h1 : c % 2 = 1
   ·refine qg (.bool true) (by rw [h1]; rfl) ?_
    refine Yk ?_; refine Y1a ?_; refine Y3b ?_
    refine qg (.int .u32 ((crcN (k + 1) i : Nat) : Int)) (by rw [hstep, crcBit, if_pos h1]; exact congrArg (Value.int .u32) (bit_u32 O0 O4).2) ?_
    refine Y2 ?_
    exact qq ⟨(), ⟨rfl, rfl, trivial⟩, h⟩
   ·refine qg (.bool false) O3 ?_
    refine qq (q6 rfl (qr ⟨(), ⟨?_, rfl, trivial⟩, h⟩))
    show Value.int .u32 ((c / 2 : Nat) : Int) = _
    rw [hstep, crcBit, if_neg h1]
  clear h
  rintro ⟨⟩ w e h
  refine Y1b ?_
  refine qg (.int .i64 ((k + 1 : Nat) : Int)) O5 ?_
  refine Y2 ?_
  exact qq ⟨k + 1, ⟨rfl, rfl, trivial⟩, ⟨hk8, h⟩, by omega⟩
 ·refine qg (.bool false) O1 ?_
  obtain rfl : k = 8 := by omega
  refine qq (q6 rfl (qd ?_))
  refine Y4 ?_; refine Y2 ?_
  exact qq (qv (bq1 ⟨rfl, h⟩))
theorem ref1_Sum {sl : Option Addr} {c : Nat} {bs : List UInt8} (hn : bs.length ≤ 140737488355328) (hr : Reads w0 l 1 sl bs.length (bytesV bs)) (h : St w0 l w) :
  Ret Tryz.prog 57 [.slice sl bs.length c] w fun v w' => v = .int .u32 (crc bs : Int) ∧ St w0 l w' := by
 refine enter Tryz.func57 rfl Tryz.results57 Tryz.ntmps57 rfl ?_
 refine Yf ?_; refine Yf ?_; refine Y2w ?_
 refine qc (Γ := Nat × Nat) (fun k => [(0, .slice sl bs.length c), (3, .int .u32 (k.2 : Int)), (4, .int .i64 k.1)])
  (fun k w => k.1 ≤ bs.length ∧ k.2 < 4294967296 ∧ crcA k.2 (bs.drop k.1) = crcA 4294967295 bs ∧ St w0 l w) (fun k => bs.length - k.1) (0, 4294967295) ⟨rfl, rfl, rfl, trivial⟩ ⟨Nat.zero_le _, (by decide : (4294967295 : Nat) < 4294967296), rfl, h⟩ ?_
 clear h
 rintro ⟨i, s⟩ w e ⟨hi, hs, he, h⟩
 dsimp only at hi hs he h ⊢
 refine Y2n ?_
 refine qy (decide ((i : Int) < (bs.length : Int))) rfl (fun hc => ?_) (fun hc => ?_)
 ·have hlt : i < bs.length := by simp at hc; omega
  have hg := List.getElem?_eq_getElem hlt
  have hdr := List.drop_eq_getElem_cons hlt
  generalize bs[i] = x at hg hdr
  have hx := x.toNat_lt
  rw [hdr, crcA] at he
  have hst := crcStep_lt (x := x.toNat) hs hx
  unfold crcStep at he hst
  have hj : (s % 256) ^^^ x.toNat < 256 := xor8 (Nat.mod_lt _ O4) hx
  have hbl := crcByte_lt hj
  have hxm : (s ^^^ x.toNat) % 256 = (s % 256) ^^^ x.toNat := by
   have := Nat.xor_mod_two_pow (a := s) (b := x.toNat) (n := 8)
   rw [show (2 : Nat) ^ 8 = 256 from rfl, Nat.mod_eq_of_lt hx] at this
   exact this
  obtain ⟨b, o, hsl⟩ := (hr.at_ h).some O0
  refine Yy ?_; refine Y1a ?_; refine Y27 ?_
  refine qz (qn (b := b) (o := o) (m := bs.length) (c := c) (o' := o + i) O8 rfl rfl hlt O7) rfl ?_
  refine qz (qx (v := .int .u8 x.toNat) rfl ((hsl ▸ hr.at_ h).cell (bytesV_get hg))) rfl ?_
  refine Yb ?_
  refine qg (.int .u32 (x.toNat : Int)) (by rw [wrap_u32, Nat.mod_eq_of_lt O0]) ?_
  refine Y3b ?_
  refine qg (.int .u32 ((s ^^^ x.toNat : Nat) : Int)) (congrArg (Value.int .u32) (bit_u32 hs O0).2) ?_
  refine qz (qh (v' := .int .u32 (((s % 256) ^^^ x.toNat : Nat) : Int)) (q_and rfl rfl) (by
   rw [show bitOp .and .u32 ((s ^^^ x.toNat : Nat) : Int) 255 = (((s ^^^ x.toNat) &&& 255 : Nat) : Int) from (bit_u32 (Nat.xor_lt_two_pow (n := 32) hs O0) O4).1, show (s ^^^ x.toNat) &&& 255 = (s ^^^ x.toNat) % 256 from and_low _ 8, hxm])) rfl ?_
  refine qw rfl (qj rfl (ref1_Entry O0 h) ?_)
  rintro _ w ⟨rfl, h⟩
  generalize crcByte ((s % 256) ^^^ x.toNat) = tb at he hst hbl ⊢
  refine Y0 ?_
  refine qz (qh (v' := .int .u32 ((s / 2 ^ 8 : Nat) : Int)) (ju rfl rfl O0) (congrArg (Value.int .u32) (q9 s 8 32 O4))) rfl ?_
  refine Y3b ?_
  refine qg (.int .u32 ((tb ^^^ (s / 256) : Nat) : Int)) (congrArg (Value.int .u32) (bit_u32 hbl O0).2) ?_
  refine Y49 ?_
  refine qg (.int .i64 ((i + 1 : Nat) : Int)) O5 ?_
  refine Y2 ?_
  exact qq ⟨(i + 1, tb ^^^ (s / 256)), ⟨rfl, rfl, rfl, trivial⟩, ⟨hlt, hst, he, h⟩, by dsimp only; omega⟩
 ·have hin : i = bs.length := by simp at hc; omega
  rw [hin, List.drop_length, crcA] at he
  refine qd ?_
  refine Y4 ?_; refine Y3b ?_
  refine qg (.int .u32 ((s ^^^ 4294967295 : Nat) : Int)) (congrArg (Value.int .u32) (bit_u32 hs O4).2) ?_
  refine Y6 ?_
  exact qv (bq1 ⟨by unfold crc; rw [← he]; rfl, h⟩)
theorem ref10_Make (tag : Int) {sl : Option Addr} {c : Nat} {L : List Smp} (hw : ∀ s ∈ L, s.Wf) (hn : L.length ≤ 65535) (hr : Reads w0 l 2 sl L.length (smpsV L)) (h : St w0 l w) :
  Ret Tryz.prog 21 [.int .i64 tag, .slice sl L.length c] w fun v w' => ∃ a c', v = .tuple [.slice a ((chMake tag L).getD []).length c', .bool (chMake tag L).isSome].toArray ∧ St w0 (OwnB a c' ((chMake tag L).getD []) :: l) w' := by
 have hlen := suitEnc_len (tag := tag) hw
 refine enter Tryz.func21 rfl Tryz.results21 Tryz.ntmps21 rfl ?_
 refine Y39 ?_; refine Yp ?_
 refine qw rfl (qj rfl (ref10_Encode tag hw hn hr h) ?_)
 cases hE : suitEnc tag L with
 | none =>
  have hM : chMake tag L = none := by unfold chMake; rw [hE]
  rw [hM]
  rintro _ w ⟨xa, xc, rfl, h⟩
  replace h := h.drop
  show Rn _ _ _ _ _ (upd _ _ (.tuple [.slice xa 0 xc, .bool false].toArray)) _
  refine Y14 ?_; refine Y1s ?_; refine Y15 ?_; refine Y2d ?_; refine Y2t ?_
  exact qv (bq2 ⟨none, 0, rfl, St.ownNil _ _ h⟩)
 | some x =>
 rw [hE] at hlen
 have hxl : x.length ≤ 3000000 := hlen
 obtain ⟨ht1, ht6⟩ := suitEnc_tag hE
 obtain ⟨_, hL16⟩ := suitEnc_rises hE
 rintro _ w ⟨xa, xc, rfl, h⟩
 replace h : St w0 (OwnB xa xc x :: l) w := h
 show Rn _ _ _ _ _ (upd _ _ (.tuple [.slice xa x.length xc, .bool true].toArray)) _
 refine Y14 ?_; refine Y1s ?_; refine Y36 ?_
 by_cases hL0 : L.length = 0
 ·have hLn : L = [] := List.eq_nil_of_length_eq_zero hL0
  have hM : chMake tag L = none := by unfold chMake; rw [hE]; dsimp only; rw [if_pos hLn]
  rw [hM]
  refine qz (qh (v' := .bool true) (jg rfl rfl) (by rw [hL0]; rfl)) rfl ?_
  refine Y8 ?_; refine Y2t ?_
  exact qv (bq2 ⟨none, 0, rfl, St.ownNil _ _ h.drop⟩)
 have hLn : L ≠ [] := fun hh => hL0 (by rw [hh]; rfl)
 have hM : chMake tag L = some (chBody tag L x ++ be4 (crc (chBody tag L x))) := by unfold chMake; rw [hE]; dsimp only; rw [if_neg hLn]
 rw [hM]
 obtain ⟨w1, w2⟩ := ends_wf hw hLn
 refine qz (qh (v' := .bool false) (jg rfl rfl) O3) rfl ?_
 refine Y4p ?_; refine Y4 ?_; refine Yb ?_
 refine qg (.int .u8 ((UInt8.ofNat tag.toNat).toNat : Int)) (by rw [UInt8.toNat_ofNat', show tag = ((tag.toNat : Nat) : Int) by omega, wrap_u8]; simp) ?_
 refine qw rfl (q5 (r := bytesV [UInt8.ofNat tag.toNat]) h rfl rfl rfl fun b2 w h => ?_)
 refine Y1r ?_; refine Yb ?_
 refine qg (.int .u64 (L.length : Int)) (congrArg (Value.int .u64) (gu O0)) ?_
 refine qw rfl (qj rfl (ref1_Put (bs := [UInt8.ofNat tag.toNat]) L.length O0 h (fun w' h' => (Reads.pt (m := 0) rfl rfl).at_ h') O7) ?_)
 rintro _ w ⟨a1, c1, rfl, h⟩
 replace h := (h.f 1).drop
 refine Ym ?_
 have hp1 := jq L.length
 have hp2 := jq (zigT (firstT L))
 have hp3 := jq (zigT (lastT L))
 refine qo (Γ := Option Addr × Nat) (fun q => [(0, .int .i64 tag), (1, .slice sl L.length c), (6, .slice xa x.length xc), (8, .slice q.1 (UInt8.ofNat tag.toNat :: (chNums L).flatMap vput).length q.2)]) (fun q w => St w0 (OwnB q.1 q.2 (UInt8.ofNat tag.toNat :: (chNums L).flatMap vput) :: OwnB xa xc x :: l) w) ?_ ?_
 ·have hg0 : L[0]? = some (L[0]'O0) := List.getElem?_eq_getElem _
  have hgl : L[L.length - 1]? = some (L[L.length - 1]'O0) := List.getElem?_eq_getElem _
  have hf : firstT L = (L[0]'O0).T := by unfold firstT; rw [List.head?_eq_getElem?, hg0]; rfl
  have ht : lastT L = (L[L.length - 1]'O0).T := by unfold lastT; rw [List.getLast?_eq_getElem?, hgl]; rfl
  generalize L[0]'O0 = s0 at hg0 hf
  generalize L[L.length - 1]'O0 = s1 at hgl ht
  obtain ⟨b, o, hsl⟩ := ((hr.more [_, _]).at_ h).some O0
  have hc0 : ∀ {w'}, (∃ M, St w0 (M ++ l) w') → w'.cell? ⟨b, o, none⟩ = some (.int .i64 s0.T) := fun ⟨M, h'⟩ => by
   have := (hsl ▸ hr M _ h').elem js hg0 0 _ rfl; simpa using this
  have hc1 : ∀ {w'}, (∃ M, St w0 (M ++ l) w') → w'.cell? ⟨b, o + (L.length - 1) * 2 + 0, none⟩ = some (.int .i64 s1.T) := fun ⟨M, h'⟩ => (hsl ▸ hr M _ h').elem js hgl 0 _ rfl
  refine j7 [0, 1, 2, 3, 4, 5, 6, 7, 8, 9, 10, 11, 12, 13, 14, 15, 16] none (fun w => ∃ M, St w0 (M ++ l) w) O2 O2 ?_
  replace h := h.drew
  generalize w.drew = w at h
  have hs := h
  replace h : ∃ M, St w0 (M ++ l) w := ⟨[_, _], hs⟩
  refine Y1i ?_; refine Y1i ?_
  refine cpv rfl rfl rfl rfl h rfl (qn (b := b) (o := o) (m := L.length) (c := c) (j := 0) (o' := o) O8 rfl rfl O0 O7) ?_
  refine Y1c ?_
  refine qu rfl rfl rfl rfl h (fun w h => qm rfl (qx (v := .int .i64 s0.T) rfl (hc0 h))) ?_
  refine Yz ?_; refine Y1i ?_; refine Y37 ?_
  refine cpv rfl rfl rfl rfl h rfl (qh (v' := .int .i64 ((L.length - 1 : Nat) : Int)) (jm rfl rfl) O6) ?_
  refine cpv rfl rfl rfl rfl h rfl (qn (b := b) (o := o) (m := L.length) (c := c) (j := L.length - 1) (o' := o + (L.length - 1) * 2) O8 rfl rfl O0 rfl) ?_
  refine Y1c ?_
  refine qu rfl rfl rfl rfl h (fun w h => qm rfl (qx (v := .int .i64 s1.T) rfl (hc1 h))) ?_
  refine Y1m ?_
  refine qt 5 rfl rfl rfl rfl ?_
  refine (qj rfl (ref1_Zig (hf ▸ w1) hs) ?_)
  rintro _ w ⟨rfl, hs⟩
  rw [← hf]
  replace h : ∃ M, St w0 (M ++ l) w := ⟨[_, _], hs⟩
  refine ⟨fun _ => h, ?_⟩
  refine Y13 ?_
  refine qt 6 rfl rfl rfl rfl ?_
  refine (qj rfl (ref1_Put (zigT (firstT L)) (zigT_lt _) hs (fun w' h' => h'.own_rd) O1) ?_)
  rintro _ w ⟨a2, c2, rfl, hs⟩
  replace h : ∃ M, St w0 (M ++ l) w := ⟨[_, _, _], hs⟩
  refine ⟨fun _ => h, ?_⟩
  refine Y1m ?_
  refine qt 14 rfl rfl rfl rfl ?_
  refine (qj rfl (ref1_Zig (ht ▸ w2) hs) ?_)
  rintro _ w ⟨rfl, hs⟩
  rw [← ht]
  replace h : ∃ M, St w0 (M ++ l) w := ⟨[_, _, _], hs⟩
  refine ⟨fun _ => h, ?_⟩
  refine Yz ?_
  refine qt 15 rfl rfl rfl rfl ?_
  refine (qj rfl (ref1_Put (zigT (lastT L)) (zigT_lt _) hs (fun w' h' => h'.own_rd) O1) ?_)
  rintro _ w ⟨a3, c3, rfl, hs⟩
  replace h : ∃ M, St w0 (M ++ l) w := ⟨[_, _, _, _], hs⟩
  refine ⟨fun _ => h, ?_⟩
  refine Y1t ?_
  have e3 : [UInt8.ofNat tag.toNat] ++ vput L.length ++ vput (zigT (firstT L)) ++ vput (zigT (lastT L)) = UInt8.ofNat tag.toNat :: (chNums L).flatMap vput := by simp [chNums]
  rw [e3] at hs
  refine qi ⟨(a3, c3), ⟨rfl, rfl, rfl, ?_, trivial⟩, ((hs.f 1).drop.f 1).drop⟩
  show Value.slice _ _ _ = Value.slice _ _ _
  rw [e3]
 clear h a1 c1
 rintro ⟨a1, c1⟩ w e h
 dsimp only at h ⊢
 have hbl := chBody_len tag L x
 have hbe : chBody tag L x = (UInt8.ofNat tag.toNat :: (chNums L).flatMap vput) ++ x := by simp [chBody]
 have hbl2 : (UInt8.ofNat tag.toNat :: (chNums L).flatMap vput).length + x.length = (chBody tag L x).length := by rw [hbe, List.length_append]
 generalize UInt8.ofNat tag.toNat :: (chNums L).flatMap vput = hd at h hbe hbl2 ⊢
 generalize chBody tag L x = B at hbe hbl hbl2 ⊢
 refine Y5 ?_; refine Yp ?_
 refine qw rfl (qa (ys := bytesV x) (zs := bytesV B) (m3 := B.length) h rfl rfl (h.f 1).own_rd (bytesV_one _) O0 (by rw [hbe]; simp [bytesV]) O0 O0 rfl fun a2 c2 w _ h => ?_)
 refine Ym ?_; refine Y5 ?_
 refine qw rfl (qj rfl (ref1_Sum (bs := B) O0 Reads.own h) ?_)
 rintro _ w ⟨rfl, h⟩
 refine Y6 ?_
 generalize crc B = k
 refine Yo ?_
 refine qz (qh (v' := .int .u32 ((k / 2 ^ 24 : Nat) : Int)) (ju rfl rfl O0) (congrArg (Value.int .u32) (q9 k 24 32 O4))) rfl ?_
 refine Yb ?_
 refine qg (.int .u8 ((UInt8.ofNat (k / 2 ^ 24)).toNat : Int)) O12 ?_
 refine Y0 ?_
 refine qz (qh (v' := .int .u32 ((k / 2 ^ 16 : Nat) : Int)) (ju rfl rfl O0) (congrArg (Value.int .u32) (q9 k 16 32 O4))) rfl ?_
 refine Yb ?_
 refine qg (.int .u8 ((UInt8.ofNat (k / 2 ^ 16)).toNat : Int)) O12 ?_
 refine Y0 ?_
 refine qz (qh (v' := .int .u32 ((k / 2 ^ 8 : Nat) : Int)) (ju rfl rfl O0) (congrArg (Value.int .u32) (q9 k 8 32 O4))) rfl ?_
 refine Yb ?_
 refine qg (.int .u8 ((UInt8.ofNat (k / 2 ^ 8)).toNat : Int)) O12 ?_
 refine Y2k ?_
 refine qg (.int .u8 ((UInt8.ofNat k).toNat : Int)) O12 ?_
 refine qw rfl (q5 (r := bytesV (be4 k)) h rfl rfl rfl fun b4 w h => ?_)
 refine qw rfl (qa (ys := bytesV (be4 k)) (zs := bytesV (B ++ be4 k)) (m3 := (B ++ be4 k).length) (h.f 1) rfl rfl ⟨rfl, .inr ⟨b4, 0, rfl, qp (h.b 0 rfl) rfl⟩⟩ (bytesV_one _) (by simp [be4_len]) O31 O23 O23 rfl fun a3 c3 w _ h => ?_)
 refine Yv ?_
 refine qv (bq2 ⟨a3, c3, rfl, ?_⟩)
 have h' := ((h.f 1).drop.f 1).drop
 exact h'
end
end Go.Proofs.YtnnehiiblfmpnaaGreatDoor

namespace Go.Hw
set_option maxRecDepth 100000
def L5 : List Smp := [⟨1, 0⟩, ⟨2, 0⟩, ⟨3, 0⟩, ⟨4, 0⟩, ⟨5, 0⟩]
def C5 : List UInt8 := (chMake 1 L5).getD []
theorem C5_make : chMake 1 L5 = some C5 := by
 have : (chMake 1 L5).isSome = true := by decide +kernel
 unfold C5
 cases h : chMake 1 L5 with
 | none => rw [h] at this; cases this
 | some b => rfl
theorem C5_len : C5.length ≤ 1000 := by decide +kernel
theorem L5_wf : ∀ s ∈ L5, s.Wf := by
 intro s hs
 simp only [L5, List.mem_cons, List.not_mem_nil, or_false] at hs
 rcases hs with rfl | rfl | rfl | rfl | rfl <;> exact ⟨⟨by decide, by decide⟩, by decide⟩
end Go.Hw
namespace Go.Proofs.YtnnehiiblfmpnaaGreatDoor
open Go.Hw
set_option maxHeartbeats 4000000
set_option maxRecDepth 100000
def R5 : Rn0 := ⟨⟨3, 0, 1⟩, 2, 4, C5, L5, Cac.new 1⟩
def S5 : Sto := ⟨1000, 1, C5.length, 0, [(1, ⟨C5, 1⟩)]⟩
theorem R5_hit : R5.hit = false := rfl
theorem R5_w : R5.w = [⟨2, 0⟩, ⟨3, 0⟩, ⟨4, 0⟩] := by decide
theorem R5_total : R5.total = 5 := by unfold Rn0.total; rw [R5_hit, R5_w]; rfl
theorem R5_ok : R5.Ok S5 := by
 have hg := Cac.new_good 1
 refine ⟨?_, ⟨_, rfl, rfl⟩, fun M hM => (by cases hM), fun _ => ?_, by decide⟩
 ·show (chOpen C5).map Prod.fst = some L5
  rw [chOpen_told L5_wf (by have := C5_len; omega) C5_make]; rfl
 ·exact (Cac.put_in hg (Int.le_refl 0) O4 rfl (fun hc => by have := hc.1; revert this; decide)).1
theorem R5_rows : R5.fin.rows.length = 1 := by
 have hg := Cac.new_good 1
 have hf := Rn0.fin_ok (R := R5) hg (Int.le_refl 0) R5_ok
 have hb := (Rn0.base_good (R := R5) hg (Int.le_refl 0) R5_ok).2.2.2 R5_hit
 rw [hf.rows]
 rcases hb.others with ⟨_, e, _⟩ | ⟨e, _⟩
 ·rw [e]; rfl
 ·exact absurd e O4
theorem R5_pins (k : Key3) : R5.fin.pins k = if k = R5.key then some 0 else none := by
 have hg := Cac.new_good 1
 have hf := Rn0.fin_ok (R := R5) hg (Int.le_refl 0) R5_ok
 have hb := (Rn0.base_good (R := R5) hg (Int.le_refl 0) R5_ok).2.2.2 R5_hit
 rw [hf.pins]
 split
 ·rename_i e; rw [e]; exact hb.here
 ·rename_i e
  rcases hb.others with ⟨_, _, e2⟩ | ⟨e2, _⟩
  ·rw [e2 k e]; rfl
  ·exact absurd e2 O4
section
variable {w0 w : World} {l : List HProp}
theorem law20_awake (hT : Tz w0) (h : St w0 l w) : Ret Tryz.prog 22 [] w fun v w' => v = .bool true ∧ St w0 l w' := by
 have hcm := C5_len
 have hG5 : R5.C0.Good 0 := Cac.new_good 1
 refine enter Tryz.func22 rfl Tryz.results22 Tryz.ntmps22 rfl ?_
 refine Y2a ?_; refine Y1 ?_
 refine qz (qe (r := (Smp.mk 1 0).cells) rfl) rfl ?_
 refine qz (qe (r := (Smp.mk 2 0).cells) rfl) rfl ?_
 refine qz (qe (r := (Smp.mk 3 0).cells) rfl) rfl ?_
 refine qz (qe (r := (Smp.mk 4 0).cells) rfl) rfl ?_
 refine qz (qe (r := (Smp.mk 5 0).cells) rfl) rfl ?_
 refine qw rfl (q5 (r := smpsV L5) h rfl rfl rfl fun bs w h => ?_)
 have hr : Reads w0 (pt bs (.cells (smpsV L5).toArray 58 (0, 0)) :: l) 2 (some ⟨bs, 0, none⟩) L5.length (smpsV L5) := Reads.pt (m := 0) rfl rfl
 refine Ym ?_; refine Y5 ?_
 refine qw rfl (qj rfl (ref10_Make 1 (L := L5) L5_wf O4 hr h) ?_)
 rw [C5_make]
 clear h
 rintro _ w ⟨ac, cc, rfl, h⟩
 replace h : St w0 (OwnB ac cc C5 :: pt bs (.cells (smpsV L5).toArray 58 (0, 0)) :: l) w := h
 show Rn _ _ _ _ _ (upd _ _ (.tuple [.slice ac C5.length cc, .bool true].toArray)) _
 refine Y14 ?_; refine Y1 ?_
 refine qw rfl (qj rfl (blob_New 1000 h) ?_)
 clear h
 rintro _ w ⟨b, rfl, h⟩
 refine qw rfl (qj rfl (cach_New 1 h) ?_)
 clear h
 rintro _ w ⟨p, rfl, h⟩
 refine Y4w ?_; refine Y1d ?_; refine Y2m ?_; refine Y3u ?_; refine Y38 ?_; refine Y3u ?_; refine Y4p ?_; refine Y3y ?_
 refine qw rfl (qj rfl (blob_Add (bs := C5) (n := C5.length) (h.f 1) (fun w' h' => (h'.f 1).own_rd) O0 rfl) ?_)
 clear h
 rintro _ w h
 have e0 : IntKind.i64.wrap ((⟨min (max 1000 0) 1073741824, 0, 0, 0, []⟩ : Sto).budget - IntKind.i64.wrap ((⟨min (max 1000 0) 1073741824, 0, 0, 0, []⟩ : Sto).bytes + (⟨min (max 1000 0) 1073741824, 0, 0, 0, []⟩ : Sto).charged)) = 1000 := by decide
 rw [e0, if_neg O0] at h
 obtain ⟨rfl, h⟩ := h
 have e1 : IntKind.i64.wrap ((⟨min (max 1000 0) 1073741824, 0, 0, 0, []⟩ : Sto).last + 1) = 1 := by decide
 have e2 : IntKind.i64.wrap ((⟨min (max 1000 0) 1073741824, 0, 0, 0, []⟩ : Sto).bytes + (C5.length : Int)) = (C5.length : Int) := by
  show IntKind.i64.wrap (0 + (C5.length : Int)) = _
  rw [wrap64 O0 O0]; omega
 rw [e1] at h ⊢
 rw [e2] at h
 replace h : St w0 (IsStore b S5 :: IsCache p (Cac.new 1) :: OwnB ac cc C5 :: pt bs (.cells (smpsV L5).toArray 58 (0, 0)) :: l) w := h
 refine Y2j ?_; refine Yt ?_; refine Y4 ?_
 refine qz (qe (r := (Prt.mk 1 1 5 1 5).cells) rfl) rfl ?_
 refine qw rfl (qj rfl (take_New 3 0 ⟨1, 1, 5, 1, 5⟩ 2 4 h) ?_)
 clear h
 rintro _ w ⟨t, rfl, h⟩
 refine Y1d ?_; refine Y1 ?_
 refine qz (qe (r := (Prt.mk 99 0 5 1 5).cells) rfl) rfl ?_
 refine qw rfl (qj rfl (take_New 3 0 ⟨99, 0, 5, 1, 5⟩ 2 4 h) ?_)
 clear h
 rintro _ w ⟨u, rfl, h⟩
 refine Y1d ?_; refine Y2m ?_; refine Y3u ?_; refine Y38 ?_; refine Y3u ?_; refine Y4p ?_
 replace h : St w0 (IsTk t (Tk.new 3 0 1 2 4) :: IsStore b S5 :: IsCache p R5.C0 :: IsTk u (Tk.new 3 0 99 2 4) :: OwnB ac cc C5 :: pt bs (.cells (smpsV L5).toArray 58 (0, 0)) :: l) w := h.o [1, 2, 3, 0]
 generalize hM : (IsTk u (Tk.new 3 0 99 2 4) :: OwnB ac cc C5 :: pt bs (.cells (smpsV L5).toArray 58 (0, 0)) :: l) = M at h
 refine Yf ?_
 have hst : R5.Ph 5 (Tk.new 3 0 1 2 4) R5.C0 := by have := Rn0.Ph.start (R := R5) 3 0 1 rfl; rw [R5_total] at this; exact this
 have hS : ∀ id e, mget id S5.l = some e → e.bs.length ≤ 140737488355328 := by
  intro id e he
  have : e = ⟨C5, 1⟩ := by
   simp only [S5, mget] at he
   split at he
   ·exact (Option.some.inj he).symm
   ·cases he
  rw [this]; dsimp only; omega
 refine qo (Γ := Tk) (fun _ => [(1, .slice (some ⟨bs, 0, none⟩) 5 5), (4, .pointer (some ⟨b, 0, none⟩)), (5, .pointer (some ⟨p, 0, none⟩)), (6, .int .i64 1), (7, .bool true), (8, .pointer (some ⟨t, 0, none⟩)), (9, .pointer (some ⟨u, 0, none⟩)), (10, .int .i64 5)])
  (fun x w => x.PhE R5.w ∧ St w0 (IsTk t x :: IsStore b S5 :: IsCache p R5.fin :: M) w) ?_ ?_
 ·refine Y17 ?_
  refine qc (Γ := Nat × Tk × Cac) (fun g => [(1, .slice (some ⟨bs, 0, none⟩) 5 5), (4, .pointer (some ⟨b, 0, none⟩)), (5, .pointer (some ⟨p, 0, none⟩)), (6, .int .i64 1), (7, .bool true), (8, .pointer (some ⟨t, 0, none⟩)), (9, .pointer (some ⟨u, 0, none⟩)), (10, .int .i64 g.1), (11, .int .i64 g.1)])
   (fun g w => g.1 ≤ 5 ∧ R5.Ph (5 - g.1) g.2.1 g.2.2 ∧ St w0 (IsTk t g.2.1 :: IsStore b S5 :: IsCache p g.2.2 :: M) w) (fun g => 5 - g.1) (0, Tk.new 3 0 1 2 4, R5.C0) ⟨rfl, rfl, rfl, rfl, rfl, rfl, rfl, rfl, rfl, trivial⟩ ⟨Nat.zero_le _, hst, h⟩ ?_
  clear h hst
  rintro ⟨i, x, C⟩ w e ⟨hi, hph, h⟩
  dsimp only at hi hph h
  have hsz := hph.size R5_ok
  refine Y3s ?_
  refine qg (.bool true) O10 ?_
  refine Y4o ?_; refine Y2m ?_
  have hdone := take_Done (x := x) O0 h
  have hz := hph.zero
  clear h
  cases hd : x.done with
  | true =>
   rw [hd] at hdone hz
   have h0 : 5 - i = 0 := hz.1.2 rfl
   obtain ⟨hE, rfl⟩ := hz.2 h0
   obtain rfl : i = 5 := by omega
   refine qw rfl (qj rfl hdone ?_)
   rintro _ w ⟨a, c, rfl, h⟩
   refine Y14 ?_; refine Y2x ?_
   refine qq (gf rfl (qd ?_))
   exact Eq.mpr (if_neg O4) (Eq.mpr (if_pos rfl) ⟨x, ⟨rfl, rfl, rfl, rfl, rfl, rfl, rfl, rfl, trivial⟩, hE, h.drop⟩)
  | false =>
   rw [hd] at hdone hz
   have h0 : 5 - i ≠ 0 := fun e => by have := hz.1.1 e; cases this
   refine qw rfl (qj rfl hdone ?_)
   rintro _ w ⟨a, c, rfl, h⟩
   replace h := h.drop
   refine Y14 ?_; refine Y2x ?_; refine Y9 ?_; refine Y2m ?_; refine Y1x ?_; refine Y1x ?_
   have hst := hph.step R5_ok (S := S5)
   refine qw rfl (qj rfl (step_good hT hsz (hph.good hG5 (Int.le_refl 0) R5_ok) ⟨by decide, by decide⟩ hS h) ?_)
   clear h
   rintro _ w ⟨rfl, h⟩
   obtain ⟨hs0, hs1⟩ := hst
   rw [hs0]
   refine Y2y ?_; refine Y9 ?_; refine Y1b ?_
   refine qg (.int .i64 (i + 1 : Nat)) O14 ?_
   refine Y49 ?_
   refine qg (.int .i64 (i + 1 : Nat)) O14 ?_
   refine Y2 ?_
   refine qq ⟨(i + 1, (x.step S5 C).1, (x.step S5 C).2.1), ⟨rfl, rfl, rfl, rfl, rfl, rfl, rfl, rfl, rfl, trivial⟩, ⟨by dsimp only; omega, ?_, h⟩, by dsimp only; omega⟩
   dsimp only
   rw [show 5 - (i + 1) = 5 - i - 1 by omega]
   exact hs1
 rintro x w e ⟨hE, h⟩
 subst hM
 have hdn := take_Done (x := x) (by rw [hE.out]; exact Nat.le_trans Rn0.w_len O4) h
 rw [hE.done, hE.out, if_pos rfl, R5_w] at hdn
 refine Yr ?_
 refine qw rfl (qj rfl hdn ?_)
 clear h hdn
 rintro _ w ⟨a, c, rfl, h⟩
 refine Y14 ?_; refine Y2x ?_; refine Y2i ?_; refine Y2u ?_; refine Yi ?_; refine Y2f ?_; refine Y3v ?_
 refine qz (q_cut (i := 1) (j := 4) rfl rfl rfl O4 O4) rfl ?_
 refine Y7 ?_
 refine qw rfl (qj rfl (ref10_Same (L1 := [⟨2, 0⟩, ⟨3, 0⟩, ⟨4, 0⟩]) (L2 := [⟨2, 0⟩, ⟨3, 0⟩, ⟨4, 0⟩]) h (fun w' h' => h'.own_rd) (fun w' h' => ((hr.more [_, _, _, _, _, _]).rd w' h').cut (i := 1) (j := 4) (c := 5) O4 O4 O4) O4) ?_)
 clear h
 rintro _ w ⟨rfl, h⟩
 rw [show decide (([⟨2, 0⟩, ⟨3, 0⟩, ⟨4, 0⟩] : List Smp) = [⟨2, 0⟩, ⟨3, 0⟩, ⟨4, 0⟩]) = true by decide]
 refine Yi ?_; refine Y10 ?_; refine Y1v ?_; refine Yi ?_; refine Y10 ?_; refine Y4x ?_; refine Yi ?_; refine Y38 ?_
 refine qw rfl (qj rfl (cach_Frames (h.f 3)) ?_)
 clear h
 rintro _ w ⟨rfl, h⟩
 rw [R5_rows]
 refine Y4r ?_; refine Yi ?_; refine Y38 ?_; refine Y1k ?_
 refine qz (qe (r := (Key3.mk 3 0 1).C) rfl) rfl ?_
 refine Y7 ?_
 have hG := (Rn0.fin_ok (R := R5) hG5 (Int.le_refl 0) R5_ok).good
 have hu : R5.fin.unpin ⟨3, 0, 1⟩ = (R5.fin, false) := Cac.unpin_zero hG fun a ha => by
  rw [R5_pins] at ha
  split at ha
  ·exact (Option.some.inj ha).symm
  ·cases ha
 have hun := cach_Unpin (k := ⟨3, 0, 1⟩) (hG.ok O4) h
 rw [hu] at hun
 refine qw rfl (qj rfl hun ?_)
 clear h hun
 rintro _ w ⟨rfl, h⟩
 refine Y7 ?_; refine qz (q_eqb rfl rfl) rfl ?_; refine Yi ?_; refine Y38 ?_; refine Y56 ?_; refine Y56 ?_
 have hA : (Tk.new 3 0 99 2 4).PhA := Tk.new_A _ _ _ _ _
 have hgn : (R5.fin.get (Tk.new 3 0 99 2 4).key).2 = none := by
  rw [(Cac.get_good hG _).2.2.2.1]
  exact hG.norow (by rw [R5_pins, if_neg O4])
 have hy : (Tk.new 3 0 99 2 4).step S5 R5.fin = (Tk.new 3 0 99 2 4, R5.fin, 7) := by
  rw [Tk.stepA hA]
  unfold Tk.begin_
  rw [hgn]
  dsimp only
  rw [Tk.get_none hgn]
  rfl
 have hst := step_good (x := Tk.new 3 0 99 2 4) hT O4 hG O4 hS (h.o [4, 3, 0, 1, 2])
 rw [hy] at hst
 refine qw rfl (qj rfl hst ?_)
 clear h hst
 rintro _ w ⟨rfl, h⟩
 refine Y4r ?_; refine Y4m ?_
 refine qq (qv (bq1 ⟨rfl, ?_⟩))
 exact St.drops (L := [_, _, _, _, _, _, _]) h
end
end Go.Proofs.YtnnehiiblfmpnaaGreatDoor

namespace Go.Hw
def Suf (B : List UInt8) (s : RS) : Prop := s.rest.length ≤ 8 * B.length ∧ s.rest = (bitsB B).drop (8 * B.length - s.rest.length)
theorem Suf.all (B : List UInt8) : Suf B ⟨bitsB B, false⟩ := by
 refine ⟨by rw [bitsB_len]; exact Nat.le_refl _, ?_⟩
 rw [bitsB_len, Nat.sub_self, List.drop_zero]
theorem Suf.get {B : List UInt8} {s : RS} (h : Suf B s) (n : Nat) : Suf B (s.get n).2 := by
 obtain ⟨h1, h2⟩ := h
 unfold RS.get
 split
 ·exact ⟨h1, h2⟩
 ·rename_i hn
  have h3 : n ≤ s.rest.length := by omega
  refine ⟨by dsimp only; rw [List.length_drop]; omega, ?_⟩
  dsimp only
  rw [List.length_drop]
  conv => lhs; rw [h2, List.drop_drop]
  congr 1
  omega
theorem Suf.aheadR {B : List UInt8} : ∀ (k : Nat) {s : RS}, Suf B s → Suf B (Hw.aheadR k s).2
 | 0, _, h => h
 | k + 1, s, h => by
  rw [Hw.aheadR]
  split
  ·exact Suf.aheadR k (h.get 1)
  ·exact h.get 1
theorem Suf.nextT {B : List UInt8} {s : RS} (h : Suf B s) : Suf B (Hw.nextT s).2 := (Suf.aheadR 4 h).get _
theorem getLast_get {l : List Int} {n : Nat} (h : l.length = n + 1) : l[n]? = some (l.getD n 0) := by
 rw [List.getD, List.getElem?_eq_getElem O0]; rfl
end Go.Hw
namespace Go.Proofs.YtnnehiiblfmpnaaGreatDoor
open Go.Hw
set_option maxHeartbeats 4000000
set_option maxRecDepth 100000
instance und5 : Und Tryz.prog 305 (.array 5 3) := ⟨Tryz.underlying305⟩
abbrev RrPt (p : Nat) (a : Option Addr) (m c at_ : Nat) (bad : Bool) : HProp := pt p (.cells [.slice a m c, .int .i64 at_, .bool bad].toArray 219 (0, 0))
abbrev RrS (p : Nat) (a : Option Addr) (c : Nat) (B : List UInt8) (s : RS) : HProp := RrPt p a B.length c (8 * B.length - s.rest.length) s.bad
section
variable {w0 w : World} {l : List HProp}
theorem ref1_Get {sl : Option Addr} {c : Nat} {bs : List UInt8} (h : St w0 l w) (hr : Reads w0 l 1 sl bs.length (bytesV bs)) (hn : bs.length ≤ 140737488355328) :
  Ret Tryz.prog 116 [.slice sl bs.length c] w fun v w' => v = .tuple [.int .u64 ((vget bs).1 : Nat), .int .i64 ((vget bs).2 : Nat)].toArray ∧ St w0 l w' := by
 refine enter Tryz.func116 rfl Tryz.results116 Tryz.ntmps116 rfl ?_
 refine Y1 ?_; refine Y22 ?_; refine Yf ?_; refine Y2w ?_
 refine qc (Γ := Nat × Nat) (fun k => [(0, .slice sl bs.length c), (4, .int .u64 k.2), (5, .int .i64 k.1)])
  (fun k w => k.1 ≤ bs.length ∧ k.1 ≤ 10 ∧ k.2 < 2 ^ (7 * k.1) ∧ vgetA (bs.drop k.1) k.1 k.2 = vget bs ∧ St w0 l w) (fun k => bs.length - k.1) (0, 0) ⟨rfl, rfl, rfl, trivial⟩ ⟨Nat.zero_le _, by decide, by decide, rfl, h⟩ ?_
 clear h
 rintro ⟨i, u⟩ w e ⟨hi, hi10, hu, hv, h⟩
 dsimp only at hi hi10 hu hv ⊢
 refine Y4z ?_; refine Ys ?_
 by_cases hin : i < bs.length
 ·refine qg (.bool true) O1 ?_
  have hg := List.getElem?_eq_getElem hin
  have hdr := List.drop_eq_getElem_cons hin
  generalize bs[i] = x at hg hdr
  rw [hdr, vgetA] at hv
  refine Y10 ?_; refine Ys ?_; refine Yi ?_
  by_cases hi9 : i ≤ 9
  ·refine qg (.bool true) O1 ?_
   refine Y1z ?_
   obtain ⟨b, o, hsl⟩ := (hr.at_ h).some O0
   have hx := x.toNat_lt
   refine Y1y ?_; refine Yo ?_
   refine qz (qn (b := b) (o := o) (m := bs.length) (c := c) (o' := o + i) O8 rfl rfl hin O7) rfl ?_
   refine qz (qx (v := .int .u8 x.toNat) rfl ((hsl ▸ hr.at_ h).cell (bytesV_get hg))) rfl ?_
   refine Y6 ?_
   refine ql (qo (Γ := Bool) (fun k => [(0, .slice sl bs.length c), (4, .int .u64 u), (5, .int .i64 i), (6, .int .u8 x.toNat), (34, .bool k)])
    (fun k w => (k = true ↔ ((i = 9 ∧ 1 < x.toNat) ∨ (0 < i ∧ x.toNat = 0))) ∧ St w0 l w) ?_ ?_)
   ·refine Y1a ?_; refine Yd ?_
    by_cases h9 : i = 9
    ·refine qg (.bool true) O1 ?_
     refine Y10 ?_; refine Y1q ?_
     by_cases h1 : 1 < x.toNat
     ·refine qg (.bool true) O1 ?_
      refine Yi ?_; refine Y15 ?_; refine r_gn rfl rfl rfl ?_; refine Y52 ?_; refine Y2d ?_
      exact qq ⟨true, ⟨rfl, rfl, rfl, rfl, rfl, trivial⟩, ⟨fun _ => .inl ⟨h9, h1⟩, fun _ => rfl⟩, h⟩
     ·refine qg (.bool false) O1 ?_
      refine Yi ?_; refine Y10 ?_; refine Yd ?_
      by_cases h0 : x.toNat = 0
      ·refine qg (.bool true) O36 ?_
       refine Y7 ?_; refine Y10 ?_; refine Y1q ?_
       refine qg (.bool true) O1 ?_
       refine Y47 ?_
       exact qq ⟨true, ⟨rfl, rfl, rfl, rfl, rfl, trivial⟩, ⟨fun _ => .inr ⟨by omega, h0⟩, fun _ => rfl⟩, h⟩
      ·refine qg (.bool false) O3 ?_
       refine Y7 ?_; refine Y15 ?_; refine Y7 ?_; refine Y8 ?_; refine Y8 ?_
       exact qq ⟨false, ⟨rfl, rfl, rfl, rfl, rfl, trivial⟩, ⟨(fun h => by cases h), (fun h => by omega)⟩, h⟩
    ·refine qg (.bool false) O1 ?_
     refine Y15 ?_; refine Y2r ?_; refine Yd ?_
     by_cases h0 : x.toNat = 0
     ·refine qg (.bool true) O36 ?_
      refine Y7 ?_; refine Y10 ?_; refine Y1q ?_
      by_cases hp : 0 < i
      ·refine qg (.bool true) O1 ?_
       refine Y47 ?_
       exact qq ⟨true, ⟨rfl, rfl, rfl, rfl, rfl, trivial⟩, ⟨fun _ => .inr ⟨by omega, h0⟩, fun _ => rfl⟩, h⟩
      ·refine qg (.bool false) O1 ?_
       refine Y47 ?_
       exact qq ⟨false, ⟨rfl, rfl, rfl, rfl, rfl, trivial⟩, ⟨(fun h => by cases h), (fun h => by omega)⟩, h⟩
     ·refine qg (.bool false) O3 ?_
      refine Y7 ?_; refine Y15 ?_; refine Y7 ?_; refine Y8 ?_; refine Y8 ?_
      exact qq ⟨false, ⟨rfl, rfl, rfl, rfl, rfl, trivial⟩, ⟨(fun h => by cases h), (fun h => by omega)⟩, h⟩
   clear h
   rintro k w e ⟨hk, h⟩
   refine qy k rfl (fun hc => ?_) (fun hc => ?_)
   ·rw [if_pos (.inr (hk.1 hc))] at hv
    refine Y24 ?_; refine Y2 ?_
    exact qq (qv (bq2 ⟨by rw [← hv]; rfl, h⟩))
   have hnb : ¬ ((i = 9 ∧ 1 < x.toNat) ∨ (0 < i ∧ x.toNat = 0)) := fun hb => by rw [hk.2 hb] at hc; cases hc
   rw [if_neg O0] at hv
   have hm : x.toNat % 128 * 2 ^ (7 * i) ≤ 127 * 2 ^ (7 * i) := Nat.mul_le_mul_right _ O0
   have h63 : (2 : Nat) ^ (7 * i) ≤ 2 ^ 63 := Nat.pow_le_pow_right O4 O0
   have hu64 : u < 18446744073709551616 := by omega
   have hb : x.toNat % 128 * 2 ^ (7 * i) < 18446744073709551616 := by
    rcases Nat.lt_or_ge i 9 with h2 | h2
    ·have h3 : (2 : Nat) ^ (7 * i) ≤ 2 ^ 56 := Nat.pow_le_pow_right O4 O0
     omega
    ·obtain rfl : i = 9 := by omega
     have h4 : x.toNat % 128 * 2 ^ (7 * 9) ≤ 1 * 2 ^ (7 * 9) := Nat.mul_le_mul_right _ O0
     have h5 : (2 : Nat) ^ (7 * 9) = 9223372036854775808 := by decide
     omega
   refine Yh ?_; refine Y4 ?_; refine Y0 ?_; refine Y33 ?_
   refine qg (.int .u8 ((x.toNat % 128 : Nat) : Int)) (by rw [show bitOp .and .u8 (x.toNat : Int) 127 = ((x.toNat &&& 127 : Nat) : Int) from (bit_u8 hx O4).1, show x.toNat &&& 127 = x.toNat % 128 from and_low x.toNat 7]) ?_
   refine Yb ?_
   refine qg (.int .u64 ((x.toNat % 128 : Nat) : Int)) O9 ?_
   refine Y0 ?_; refine Y43 ?_
   refine qg (.int .i64 ((7 * i : Nat) : Int)) O5 ?_
   refine Yb ?_
   refine qg (.int .u64 ((7 * i : Nat) : Int)) O9 ?_
   refine qz (qh (v' := .int .u64 ((x.toNat % 128 * 2 ^ (7 * i) : Nat) : Int)) (gk rfl rfl O0) (by rw [ji _ _ O0, Nat.mod_eq_of_lt hb])) rfl ?_
   refine Y50 ?_
   refine qg (.int .u64 ((u + x.toNat % 128 * 2 ^ (7 * i) : Nat) : Int)) (by rw [(jv hu64 hb).2.1, or_shift hu]) ?_
   refine Y3p ?_; refine Y4i ?_
   refine qy (decide ((x.toNat : Int) < 128)) rfl (fun hc => ?_) (fun hc => ?_)
   ·have hx7 : x.toNat < 128 := by simp at hc; omega
    rw [if_pos hx7] at hv
    refine Y4 ?_; refine Y3h ?_
    refine qg (.int .i64 ((i + 1 : Nat) : Int)) O5 ?_
    refine Y2 ?_; refine Y2 ?_
    refine qq (qv (bq2 ⟨?_, h⟩))
    rw [← hv]
    show Value.tuple [Value.int .u64 ((u + x.toNat % 128 * 2 ^ (7 * i) : Nat) : Int), _].toArray = _
    rw [Nat.mod_eq_of_lt hx7]; rfl
   ·rw [if_neg (by simp at hc; omega)] at hv
    refine Y4q ?_
    refine qg (.int .i64 ((i + 1 : Nat) : Int)) O5 ?_
    refine Y2 ?_
    refine qq ⟨(i + 1, u + x.toNat % 128 * 2 ^ (7 * i)), ⟨rfl, rfl, rfl, trivial⟩, ⟨by dsimp only; omega, by dsimp only; omega, ?_, hv, h⟩, by dsimp only; omega⟩
    have hp : (2 : Nat) ^ (7 * (i + 1)) = 128 * 2 ^ (7 * i) := by rw [Nat.mul_add, Nat.pow_add, Nat.mul_comm]
    dsimp only
    rw [hp]
    omega
  ·refine qg (.bool false) O1 ?_
   rw [if_pos (.inl O0)] at hv
   refine qq (q6 rfl (qd ?_))
   refine Y24 ?_; refine Y2 ?_
   exact qq (qv (bq2 ⟨by rw [← hv]; rfl, h⟩))
 ·refine qg (.bool false) O1 ?_
  obtain rfl : i = bs.length := by omega
  rw [List.drop_length, vgetA] at hv
  refine Y15 ?_; refine Y8 ?_
  refine qq (q6 rfl (qd ?_))
  refine Y24 ?_; refine Y2 ?_
  exact qq (qv (bq2 ⟨by rw [← hv]; rfl, h⟩))
theorem ref4_held (n : Int) (h : St w0 l w) : Ret Tryz.prog 159 [.int .i64 n] w fun v w' => v = .int .i64 (askN n) ∧ St w0 l w' := by
 refine enter Tryz.func159 rfl Tryz.results159 Tryz.ntmps159 rfl ?_
 refine Yf ?_; refine Y4 ?_; refine Y3g ?_
 refine qg (.int .i64 (askN n)) (by unfold askN; congr 1; omega) ?_
 refine Y2 ?_
 exact qq (qv (bq1 ⟨rfl, h⟩))
theorem rr_Left {p : Nat} {a : Option Addr} {c at_ : Nat} {bad : Bool} {m : Nat} (hat : at_ ≤ 8 * m) (hB : m ≤ 140737488355328) (h : St w0 (RrPt p a m c at_ bad :: l) w) :
  Ret Tryz.prog 208 [.pointer (some ⟨p, 0, none⟩)] w fun v w' => v = .int .i64 ((if bad = true then 0 else 8 * m - at_ : Nat) : Int) ∧ St w0 (RrPt p a m c at_ bad :: l) w' := by
 refine enter Tryz.func208 rfl Tryz.results208 Tryz.ntmps208 rfl ?_
 refine Yf ?_; refine Y3w ?_
 refine qz (qk (v := .bool bad) rfl (h.b 0 rfl) rfl) rfl ?_
 cases bad with
 | true =>
  refine Y28 ?_; refine Y2 ?_
  exact qq (qv (bq1 ⟨rfl, h⟩))
 | false =>
  refine Y9 ?_
  refine ql (jj none (fun w => St w0 _ w) O2 O2 h.drew fun w h => ?_)
  refine Yg ?_; refine qu rfl rfl rfl rfl h (fun _ h => qm rfl (qk rfl (h.b 0) rfl)) ?_; refine Y4y ?_
  refine cpv rfl rfl rfl rfl h rfl (qh (v' := .int .i64 ((8 * m : Nat) : Int)) (q_mul rfl rfl) O5) ?_
  refine Yg ?_; refine qu rfl rfl rfl rfl h (fun _ h => qm rfl (qk rfl (h.b 0) rfl)) ?_
  refine cpv rfl rfl rfl rfl h rfl (qh (v' := .int .i64 ((8 * m - at_ : Nat) : Int)) (jm rfl rfl) O6) ?_
  refine Y2h ?_
  exact qi (qv (bq1 ⟨rfl, h⟩))
theorem rr_Get {p : Nat} {a : Option Addr} {c : Nat} {B : List UInt8} {s : RS} (n : Int) (hs : Suf B s) (hB : B.length ≤ 140737488355328) (hr : Reads w0 l 1 a B.length (bytesV B)) (h : St w0 (RrS p a c B s :: l) w) :
  Ret Tryz.prog 160 [.pointer (some ⟨p, 0, none⟩), .int .i64 n] w fun v w' => v = .int .u64 ((s.get (heldN n)).1 : Nat) ∧ St w0 (RrS p a c B (s.get (heldN n)).2 :: l) w' := by
 obtain ⟨rest, bad⟩ := s
 obtain ⟨hrl, hrest⟩ := hs
 dsimp only at hrl hrest h
 have hm := heldN_le n
 have hbl := bitsB_len B
 refine enter Tryz.func160 rfl Tryz.results160 Tryz.ntmps160 rfl ?_
 refine Yf ?_; refine Y4 ?_; refine Y3g ?_
 refine qg (.int .i64 (heldN n)) (by unfold heldN; congr 1; omega) ?_
 generalize heldN n = m at hm ⊢
 refine Y6 ?_
 have bads : ∀ {e : Env} {w : World}, (RS.get ⟨rest, bad⟩ m = (0, ⟨rest, true⟩)) → e 0 = .pointer (some ⟨p, 0, none⟩) → St w0 (RrPt p a B.length c (8 * B.length - rest.length) bad :: l) w → True := fun _ _ _ => trivial
 clear bads
 refine qo (Γ := Unit) (fun _ => [(0, .pointer (some ⟨p, 0, none⟩)), (1, .int .i64 m)]) (fun _ w => bad = false ∧ m ≤ rest.length ∧ St w0 (RrPt p a B.length c (8 * B.length - rest.length) false :: l) w) ?_ ?_
 ·have key : bad = true ∨ rest.length < m → RS.get ⟨rest, bad⟩ m = (0, ⟨rest, true⟩) := fun hh => by unfold RS.get; exact if_pos hh
  refine Yu ?_
  refine qz (qk (v := .bool bad) rfl (h.b 0 rfl) rfl) rfl ?_
  cases bad with
  | true =>
   refine Y2g ?_; refine Yk ?_
   rw [key (.inl rfl)]
   refine Yu ?_
   refine qw rfl (q8 0 h rfl (show _ = Value.bool true from rfl) rfl rfl rfl rfl fun w h => ?_)
   refine Y3 ?_; refine Y24 ?_
   exact qq (qv (bq1 ⟨rfl, h⟩))
  | false =>
   refine Y10 ?_; refine Y56 ?_
   refine qw rfl (qj rfl (rr_Left O0 hB h) ?_)
   rintro _ w ⟨rfl, h⟩
   refine Y4t ?_
   by_cases hl : rest.length < m
   ·refine qg (.bool true) (by congr 1; rw [decide_eq_true_eq]; simp; omega) ?_
    refine Yk ?_
    rw [key (.inr hl)]
    refine Yu ?_
    refine qw rfl (q8 0 h rfl (show _ = Value.bool true from rfl) rfl rfl rfl rfl fun w h => ?_)
    refine Y3 ?_; refine Y24 ?_
    exact qq (qv (bq1 ⟨rfl, h⟩))
   ·refine qg (.bool false) (by congr 1; rw [decide_eq_false_iff_not]; simp; omega) ?_
    exact qq (q6 rfl (qr ⟨(), ⟨rfl, rfl, trivial⟩, rfl, by omega, h⟩))
 clear h
 rintro ⟨⟩ w e ⟨hbad, hml, h⟩
 have hget : RS.get ⟨rest, bad⟩ m = (num (rest.take m), ⟨rest.drop m, false⟩) := by unfold RS.get; rw [hbad]; exact if_neg (by dsimp only; simp; omega)
 rw [hget]
 refine Yf ?_; refine Y2w ?_
 refine qc (Γ := Nat) (fun k => [(0, .pointer (some ⟨p, 0, none⟩)), (1, .int .i64 m), (5, .int .u64 (num (rest.take k) : Nat)), (6, .int .i64 k)]) (fun k w => k ≤ m ∧ St w0 (RrPt p a B.length c (8 * B.length - rest.length + k) false :: l) w) (fun k => m - k) 0 ⟨rfl, rfl, rfl, rfl, trivial⟩ ⟨Nat.zero_le _, h⟩ ?_
 clear h
 rintro k w e ⟨hk, h⟩
 refine Y31 ?_; refine Y4i ?_
 refine qy (decide ((k : Int) < (m : Int))) rfl (fun hc => ?_) (fun hc => ?_)
 ·have hlt : k < m := by simp at hc; omega
  have hrk : rest[k]? = (bitsB B)[8 * B.length - rest.length + k]? := by conv => lhs; rw [hrest, List.getElem?_drop]
  generalize hQ : 8 * B.length - rest.length + k = q at hrk h
  have hqB : q < 8 * B.length := by omega
  have hgb := List.getElem?_eq_getElem (show q / 8 < B.length by omega)
  generalize B[q / 8]'O0 = y at hgb
  have hbit := bitsB_get B q y hgb
  rw [hbit] at hrk
  generalize y.toNat.testBit (7 - q % 8) = bt at *
  have hnum := take_succ_num hrk
  have hnlt := num_lt (rest.take k)
  rw [List.length_take, Nat.min_eq_left O0] at hnlt
  have h63 : (2 : Nat) ^ k ≤ 2 ^ 63 := Nat.pow_le_pow_right O4 O0
  have hbt2 : y.toNat / 2 ^ (7 - q % 8) % 2 = bt.toNat := by
   have := bitsB_get B q y hgb
   rw [hbit] at this
   rw [testBit_toNat, ← Option.some.inj this]
  have hb1 : bt.toNat ≤ 1 := by cases bt <;> decide
  have hy := y.toNat_lt
  obtain ⟨b, o, hsl⟩ := (hr.cons.at_ h).some O0
  refine Yy ?_
  refine ql (jj none (fun w => St w0 (RrPt p a B.length c q false :: l) w) O2 O2 h.drew fun w h => ?_)
  refine Yj ?_
  refine cpv rfl rfl rfl rfl h rfl (qh (v' := .int .u64 ((num (rest.take k) * 2 ^ 1 : Nat) : Int)) (gk rfl rfl O0) (by rw [show IntKind.u64.wrap ((num (rest.take k) : Int) * 2 ^ (min (1 : Int).toNat IntKind.u64.bits)) = ((num (rest.take k) * 2 ^ 1 % 18446744073709551616 : Nat) : Int) from ji _ 1 O4, Nat.mod_eq_of_lt O0])) ?_
  refine Yg ?_; refine qu rfl rfl rfl rfl h (fun _ h => qm rfl (qk rfl (h.b 0) rfl)) ?_; refine Yg ?_; refine qu rfl rfl rfl rfl h (fun _ h => qm rfl (qk rfl (h.b 0) rfl)) ?_
  refine cpv rfl rfl rfl rfl h rfl (qh (v' := .int .i64 ((q / 8 : Nat) : Int)) (q_quo rfl rfl O4) (by rw [show ((q : Nat) : Int).tdiv 8 = ((q / 8 : Nat) : Int) from tdiv_nat _ 8, wrap64 O0 O0])) ?_
  refine cpv rfl rfl rfl rfl h rfl (qn (b := b) (o := o) (m := B.length) (c := c) (o' := o + q / 8) O8 rfl rfl O0 O7) ?_
  refine qu rfl rfl rfl rfl h (fun _ h => qm rfl (qx (v := .int .u8 y.toNat) rfl ((hsl ▸ hr.cons.at_ h).cell (bytesV_get hgb)))) ?_
  refine Yg ?_; refine qu rfl rfl rfl rfl h (fun _ h => qm rfl (qk rfl (h.b 0) rfl)) ?_
  refine cpv rfl rfl rfl rfl h rfl (qh (v' := .int .i64 ((q % 8 : Nat) : Int)) (q_rem rfl rfl O4) (congrArg (Value.int .i64) (gz _ 8))) ?_
  refine cpv rfl rfl rfl rfl h rfl (qh (v' := .int .i64 ((7 - q % 8 : Nat) : Int)) (jm rfl rfl) O6) ?_
  refine cpv rfl rfl rfl rfl h rfl (qh (v' := .int .u64 ((7 - q % 8 : Nat) : Int)) (jb rfl) O9) ?_
  refine cpv rfl rfl rfl rfl h rfl (qh (v' := .int .u8 ((y.toNat / 2 ^ (7 - q % 8) : Nat) : Int)) (ju rfl rfl O0) (congrArg (Value.int .u8) (q9 y.toNat (7 - q % 8) _ (show 7 - q % 8 ≤ 8 by omega)))) ?_
  refine cpv rfl rfl rfl rfl h rfl (qh (v' := .int .u8 ((bt.toNat : Nat) : Int)) (q_and rfl rfl) (by
   rw [show bitOp .and .u8 ((y.toNat / 2 ^ (7 - q % 8) : Nat) : Int) 1 = ((y.toNat / 2 ^ (7 - q % 8) &&& 1 : Nat) : Int) from (bit_u8 (Nat.lt_of_le_of_lt (Nat.div_le_self _ _) hy) O4).1, Nat.and_one_is_mod, hbt2])) ?_
  refine cpv rfl rfl rfl rfl h rfl (qh (v' := .int .u64 ((bt.toNat : Nat) : Int)) (jb rfl) O9) ?_
  refine cpv rfl rfl rfl rfl h rfl (qh (v' := .int .u64 ((num (rest.take (k + 1)) : Nat) : Int)) (q_or rfl rfl) (by
   rw [(jv O0 O0).2.1, Nat.or_comm, or_shift (show bt.toNat < 2 ^ 1 by omega), hnum]; congr 2; omega)) ?_
  refine Y2h ?_
  refine qi ?_
  refine Y23 ?_; refine Y12 ?_
  refine qz (qk (v := .int .i64 q) rfl (h.b 0 rfl) rfl) rfl ?_
  refine Y1n ?_
  refine qg (.int .i64 ((8 * B.length - rest.length + (k + 1) : Nat) : Int)) O6 ?_
  refine Y12 ?_
  refine qw rfl (q8 0 h rfl (show _ = Value.int .i64 ((8 * B.length - rest.length + (k + 1) : Nat) : Int) from rfl) rfl rfl rfl rfl fun w h => ?_)
  refine Y3 ?_; refine Y1b ?_
  refine qg (.int .i64 ((k + 1 : Nat) : Int)) O5 ?_
  refine Y2 ?_
  exact qq ⟨k + 1, ⟨rfl, rfl, rfl, rfl, trivial⟩, ⟨hlt, h⟩, by omega⟩
 ·obtain rfl : k = m := by simp at hc; omega
  refine qd ?_
  refine Y4 ?_; refine Y2 ?_
  refine qq (qv (bq1 ⟨rfl, ?_⟩))
  show St w0 (RrPt p a B.length c (8 * B.length - (rest.drop k).length) false :: l) w
  rw [List.length_drop, show 8 * B.length - (rest.length - k) = 8 * B.length - rest.length + k by omega]
  exact h
theorem ref4_difference {p : Nat} {a : Option Addr} {c : Nat} {B : List UInt8} {s : RS} (hs : Suf B s) (hB : B.length ≤ 140737488355328) (hr : Reads w0 l 1 a B.length (bytesV B)) (h : St w0 (RrS p a c B s :: l) w) :
  Ret Tryz.prog 161 [.pointer (some ⟨p, 0, none⟩)] w fun v w' => v = .tuple [.int .i64 (nextT s).1, .bool (nextOk s)].toArray ∧ St w0 (RrS p a c B (nextT s).2 :: l) w' := by
 refine enter Tryz.func161 rfl Tryz.results161 Tryz.ntmps161 rfl ?_
 refine Y1 ?_; refine Yt ?_; refine Yf ?_
 refine qo (Γ := Unit) (fun _ => [(0, .pointer (some ⟨p, 0, none⟩)), (4, .int .i64 ((aheadR 4 s).1 : Nat))]) (fun _ w => St w0 (RrS p a c B (aheadR 4 s).2 :: l) w) ?_ ?_
 ·refine Ya ?_
  refine qc (Γ := Nat × RS) (fun k => [(0, .pointer (some ⟨p, 0, none⟩)), (4, .int .i64 k.1)]) (fun k w => k.1 ≤ 4 ∧ Suf B k.2 ∧ aheadR 4 s = ((aheadR (4 - k.1) k.2).1 + k.1, (aheadR (4 - k.1) k.2).2) ∧ St w0 (RrS p a c B k.2 :: l) w) (fun k => 4 - k.1) (0, s) ⟨rfl, rfl, trivial⟩ ⟨Nat.zero_le _, hs, rfl, h⟩ ?_
  clear h
  rintro ⟨k, s'⟩ w e ⟨hk, hs', he, h⟩
  dsimp only at hk hs' he h ⊢
  refine Y3s ?_
  by_cases hk4 : k < 4
  ·refine qg (.bool true) O1 ?_
   refine Y38 ?_
   refine qw rfl (qj rfl (rr_Get 1 hs' hB hr h) ?_)
   rintro _ w ⟨rfl, h⟩
   rw [heldN_one] at h ⊢
   rw [show 4 - k = (4 - (k + 1)) + 1 by omega] at he
   conv at he => rhs; rw [aheadR]
   refine Y4r ?_; refine Yi ?_
   by_cases h1 : (s'.get 1).1 = 1
   ·refine qg (.bool true) (by rw [h1]; rfl) ?_
    rw [if_pos h1] at he
    refine Y1z ?_; refine Ya ?_; refine Y1b ?_
    refine qg (.int .i64 ((k + 1 : Nat) : Int)) O5 ?_
    refine Y2 ?_
    exact qq ⟨(k + 1, (s'.get 1).2), ⟨rfl, rfl, trivial⟩, ⟨hk4, hs'.get 1, by rw [he]; congr 1; dsimp only; omega, h⟩, by dsimp only; omega⟩
   ·refine qg (.bool false) O3 ?_
    rw [if_neg h1] at he
    dsimp only at he
    rw [he]
    refine qq (q6 rfl (qd ⟨(), ⟨rfl, ?_, trivial⟩, h⟩))
    show Value.int .i64 (k : Int) = _
    dsimp only
    rw [Nat.zero_add]
  ·refine qg (.bool false) O1 ?_
   obtain rfl : k = 4 := by omega
   rw [he]
   refine Y15 ?_; refine Y30 ?_
   refine qq (q6 rfl (qd ⟨(), ⟨rfl, ?_, trivial⟩, h⟩))
   show Value.int .i64 ((4 : Nat) : Int) = _
   rfl
 clear h
 rintro ⟨⟩ w e h
 have hle := aheadR_le 4 s
 have hnT : nextT s = (sext ((aheadR 4 s).2.get (longs (aheadR 4 s).1)).1 (longs (aheadR 4 s).1), ((aheadR 4 s).2.get (longs (aheadR 4 s).1)).2) := rfl
 have hnO : nextOk s = decide ((which (nextT s).1).bits = longs (aheadR 4 s).1) := rfl
 have hs1 := Suf.aheadR 4 hs
 generalize hk : (aheadR 4 s).1 = k at *
 generalize (aheadR 4 s).2 = s1 at *
 have hll := longs_le k
 refine Y1 ?_
 refine qz (q_abuild (m := 5) (r := i64V [0, 7, 9, 12, 64]) O2) rfl ?_
 refine qw rfl (q7 h fun b w h => ?_)
 refine qw rfl (qb (vs := i64V [0, 7, 9, 12, 64]) 0 h rfl rfl rfl rfl rfl rfl rfl fun w h => ?_)
 replace h : St w0 (pt b (.cells (i64V [0, 7, 9, 12, 64]).toArray 305 (0, 0)) :: RrS p a c B s1 :: l) w := h
 refine Y3 ?_; refine Y4 ?_
 refine qz (q_aidx (m := 5) (o' := k) rfl rfl rfl O0 O7) rfl ?_
 refine qz (qk (v := .int .i64 (longs k : Nat)) rfl (h.b 0 rfl) (longs_get hle)) rfl ?_
 refine Y6 ?_; refine Yr ?_; refine Y0 ?_
 refine qw rfl (qj rfl (rr_Get (longs k : Nat) hs1 hB hr.cons (h.f 1)) ?_)
 rintro _ w ⟨rfl, h⟩
 rw [heldN_nat hll] at h ⊢
 replace h : St w0 (RrS p a c B (s1.get (longs k)).2 :: l) w := (h.f 1).drop
 have hglt := RS.get_lt s1 (longs k)
 have hg0 : longs k = 0 → (s1.get (longs k)).1 = 0 := fun hh => by rw [hh] at hglt ⊢; omega
 rw [hnT] at hnO ⊢
 generalize (s1.get (longs k)).1 = g at *
 generalize (s1.get (longs k)).2 = s2 at *
 dsimp only at hnO ⊢
 rw [hnO]
 have hlk : longs k = 0 ∨ longs k = 64 ∨ (1 ≤ longs k ∧ longs k ≤ 12) := by
  rcases (by omega : k = 0 ∨ k = 1 ∨ k = 2 ∨ k = 3 ∨ k = 4) with rfl | rfl | rfl | rfl | rfl <;> decide
 generalize longs k = n at *
 have hg64 : g < 18446744073709551616 := Nat.lt_of_lt_of_le hglt (show 2 ^ n ≤ 2 ^ 64 from Nat.pow_le_pow_right O4 hll)
 refine Y3p ?_; refine Yb ?_
 refine qg (.int .i64 (sg g)) (by rw [gm hg64]) ?_
 refine Y6 ?_
 refine qo (Γ := Unit) (fun _ => [(6, .int .i64 n), (8, .int .i64 (sext g n))]) (fun _ w => St w0 (RrS p a c B s2 :: l) w) ?_ ?_
 ·refine Y4 ?_; refine Y1q ?_
  by_cases hn0 : n = 0
  ·refine qg (.bool false) (by rw [hn0]; rfl) ?_
   refine Y15 ?_; refine Y8 ?_; refine Y2b ?_; refine Y8 ?_
   refine qq (q6 rfl (qr ⟨(), ⟨rfl, ?_, trivial⟩, h⟩))
   show Value.int .i64 (sg g) = _
   rw [hg0 hn0]; unfold sext; rw [if_pos hn0]; rfl
  refine qg (.bool true) O10 ?_
  refine Y10 ?_; refine Ys ?_
  by_cases hn64 : n = 64
  ·refine qg (.bool false) (by rw [hn64]; rfl) ?_
   refine Yi ?_; refine Y2b ?_; refine Y8 ?_
   refine qq (q6 rfl (qr ⟨(), ⟨rfl, ?_, trivial⟩, h⟩))
   show Value.int .i64 (sg g) = _
   rw [hn64]
   rfl
  have hn12 : 1 ≤ n ∧ n ≤ 12 := by omega
  have hg12 : 2 ^ n ≤ 2 ^ 12 := Nat.pow_le_pow_right O4 hn12.2
  have hsg : sg g = (g : Int) := by unfold sg; rw [if_pos O0]
  have hpn : 2 ^ n = 2 * 2 ^ (n - 1) := by rw [← Nat.pow_succ']; congr 1; omega
  refine qg (.bool true) O10 ?_
  refine Yi ?_; refine Y10 ?_; refine Y1k ?_; refine Y1p ?_
  refine qg (.int .i64 ((n - 1 : Nat) : Int)) O6 ?_
  refine Y7 ?_; refine Yb ?_
  refine qg (.int .u64 ((n - 1 : Nat) : Int)) O9 ?_
  refine Y7 ?_
  refine qz (qh (v' := .int .u64 ((g / 2 ^ (n - 1) : Nat) : Int)) (ju rfl rfl O0) (congrArg (Value.int .u64) (q9 g (n - 1) _ (show n - 1 ≤ 64 by omega)))) rfl ?_
  refine Y4r ?_; refine Yi ?_
  have hP := Nat.two_pow_pos (n - 1)
  by_cases hge : g < 2 ^ (n - 1)
  ·refine qg (.bool false) (by rw [Nat.div_eq_of_lt hge]; rfl) ?_
   refine qq (q6 rfl (qr ⟨(), ⟨rfl, ?_, trivial⟩, h⟩))
   show Value.int .i64 (sg g) = _
   rw [hsg]; unfold sext; rw [if_neg hn0, if_pos hge]
  ·have hd1 : g / 2 ^ (n - 1) = 1 := by
    apply Nat.div_eq_of_lt_le <;> omega
   refine qg (.bool true) (by rw [hd1]; rfl) ?_
   refine Yk ?_; refine Y1a ?_; refine Yb ?_
   refine qg (.int .i64 (g : Int)) (by rw [gm hg64, hsg]) ?_
   refine Y2k ?_
   refine qg (.int .u64 (n : Int)) O9 ?_
   refine qz (qh (v' := .int .i64 ((2 ^ n : Nat) : Int)) (gk rfl rfl O0) (by rw [shl_i64 O0 (by rw [Int.one_mul, two_pow_int]; exact ⟨by omega, by omega⟩), Int.one_mul, two_pow_int])) rfl ?_
   refine Y1p ?_
   refine qg (.int .i64 (sext g n)) (by unfold sext; rw [if_neg hn0, if_neg hge, two_pow_int, wrap64 O0 O0]) ?_
   refine Y2 ?_
   exact qq ⟨(), ⟨rfl, rfl, trivial⟩, h⟩
 clear h
 rintro ⟨⟩ w e h
 refine Y4 ?_
 refine qw rfl (qj rfl (ref4_kind (sext g n) h) ?_)
 rintro _ w ⟨rfl, h⟩
 refine Y3k ?_; refine Y2 ?_; refine Y22 ?_; refine Y4 ?_; refine Y0 ?_; refine Y0 ?_; refine Yd ?_
 refine qg (.bool (decide ((which (sext g n)).bits = n))) (by
  by_cases hh : (which (sext g n)).bits = n
  ·rw [hh]; simp
  ·rw [decide_eq_false hh]; congr 1; rw [beq_eq_false_iff_ne]; omega) ?_
 refine Y2 ?_; refine Ye ?_
 exact qq (qv (bq2 ⟨rfl, h⟩))
theorem ref4_GetTimes {p : Nat} {a : Option Addr} {c : Nat} {B : List UInt8} {s : RS} (n : Int) (hs : Suf B s) (hB : B.length ≤ 140737488355328) (hr : Reads w0 l 1 a B.length (bytesV B)) (h : St w0 (RrS p a c B s :: l) w) :
  Ret Tryz.prog 118 [.pointer (some ⟨p, 0, none⟩), .int .i64 n] w fun v w' => ∃ ta tc s', v = .tuple [.slice ta (((timesDec (askN n) s).map Prod.fst).getD []).length tc, .bool (timesDec (askN n) s).isSome].toArray ∧ (∀ t ∈ ((timesDec (askN n) s).map Prod.fst).getD [], I64 t) ∧
   St w0 (Own 2 1 ta (((timesDec (askN n) s).map Prod.fst).getD []).length tc (i64V (((timesDec (askN n) s).map Prod.fst).getD [])) :: RrS p a c B s' :: l) w' := by
 have hm := askN_le n
 refine enter Tryz.func118 rfl Tryz.results118 Tryz.ntmps118 rfl ?_
 refine Y39 ?_
 refine qw rfl (qj rfl (ref4_held n h) ?_)
 rintro _ w ⟨rfl, h⟩
 generalize askN n = m at hm ⊢
 refine Y6 ?_; refine Yn ?_; refine Yf ?_
 have fail : timesDec m s = none → (timesDec m s).isSome = false ∧ ((timesDec m s).map Prod.fst).getD [] = [] := fun hh => by rw [hh]; exact ⟨rfl, rfl⟩
 refine qo (Γ := List Int × Option Addr × Nat × RS) (fun q => [(0, .pointer (some ⟨p, 0, none⟩)), (6, .slice q.2.1 q.1.length q.2.2.1)])
  (fun q w => (q.2.2.2.bad = true → timesDec m s = none) ∧ (q.2.2.2.bad = false → (timesDec m s).map Prod.fst = some q.1) ∧ (∀ t ∈ q.1, I64 t) ∧ St w0 (Own 2 1 q.2.1 q.1.length q.2.2.1 (i64V q.1) :: RrS p a c B q.2.2.2 :: l) w) ?_ ?_
 ·refine Y17 ?_
  refine qc (Γ := Nat × List Int × Nat × RS × Option Addr × Nat) (fun k => [(0, .pointer (some ⟨p, 0, none⟩)), (1, .int .i64 m), (6, .slice k.2.2.2.2.1 k.2.1.length k.2.2.2.2.2), (7, .int .u64 k.2.2.1), (8, .int .i64 k.1)])
   (fun k w => k.1 ≤ m ∧ k.2.1.length = k.1 ∧ k.2.2.1 < 18446744073709551616 ∧ Suf B k.2.2.2.1 ∧ (∀ t ∈ k.2.1, I64 t) ∧ (k.1 = 0 → k.2.2.2.1 = s ∧ k.2.2.1 = 0) ∧
    (0 < k.1 → (k.2.2.2.1.bad = true → timesDec m s = none) ∧ (k.2.2.2.1.bad = false → (timesDecA (m - k.1) (us (k.2.1.getD (k.1 - 1) 0)) k.2.2.1 k.2.2.2.1).map (fun r => k.2.1 ++ r.1) = (timesDec m s).map Prod.fst)) ∧
    St w0 (Own 2 1 k.2.2.2.2.1 k.2.1.length k.2.2.2.2.2 (i64V k.2.1) :: RrS p a c B k.2.2.2.1 :: l) w) (fun k => m - k.1) (0, [], 0, s, none, 0) ⟨rfl, rfl, rfl, rfl, rfl, trivial⟩ ⟨Nat.zero_le _, rfl, (by decide : (0 : Nat) < 18446744073709551616), hs, (fun _ h => by cases h), fun _ => ⟨rfl, rfl⟩, (fun h => absurd h (by decide : ¬ (0 : Nat) < 0)), St.ownNil _ _ h⟩ ?_
  clear h
  rintro ⟨i, out, last, s', oa, oc⟩ w e ⟨hi, hol, hlast, hs', hwf, h00, hnz, h⟩
  dsimp only at hi hol hlast hs' hwf h00 hnz h ⊢
  have stop : ¬ (i < m ∧ s'.bad = false) → (s'.bad = true → timesDec m s = none) ∧ (s'.bad = false → (timesDec m s).map Prod.fst = some out) := by
   intro hno
   rcases Nat.eq_zero_or_pos i with h0 | h0
   ·obtain ⟨e1, _⟩ := h00 h0
    have : out = [] := List.eq_nil_of_length_eq_zero O0
    subst this e1
    refine ⟨fun hb => ?_, fun hb => ?_⟩
    ·cases m with
     | zero => rw [timesDec, if_pos hb]
     | succ m' => rw [timesDec, if_pos]; unfold RS.get; rw [if_pos (.inl hb)]
    ·have : m = 0 := by
      rcases Nat.eq_zero_or_pos m with h | h
      ·exact h
      ·exact absurd ⟨by omega, hb⟩ hno
     rw [this, timesDec, if_neg (by rw [hb]; simp)]; rfl
   ·obtain ⟨e1, e2⟩ := hnz h0
    refine ⟨e1, fun hb => ?_⟩
    have him : i = m := by
     rcases Nat.lt_or_ge i m with h | h
     ·exact absurd ⟨h, hb⟩ hno
     ·omega
    have := e2 hb
    rw [him, Nat.sub_self, timesDecA] at this
    rw [← this]; simp
  refine Y31 ?_; refine Ys ?_
  by_cases hlt : i < m
  ·refine qg (.bool true) O1 ?_
   refine Y38 ?_; refine Y19 ?_; refine Y4b ?_
   refine qz (qk (v := .bool s'.bad) rfl (h.b 1 rfl) rfl) rfl ?_
   cases hbad : s'.bad with
   | true =>
    refine Y3e ?_; refine Yi ?_
    obtain ⟨t1, t2⟩ := stop (by rw [hbad]; simp)
    exact qq (q6 rfl (qd ⟨(out, oa, oc, s'), ⟨rfl, rfl, trivial⟩, t1, t2, hwf, h⟩))
   | false =>
   refine Y3e ?_; refine Yi ?_; refine Y1z ?_
   refine qo (Γ := List Int × Nat × RS × Option Addr × Nat) (fun k => [(0, .pointer (some ⟨p, 0, none⟩)), (1, .int .i64 m), (6, .slice k.2.2.2.1 k.1.length k.2.2.2.2), (7, .int .u64 k.2.1), (8, .int .i64 i)])
    (fun k w => k.1.length = i + 1 ∧ k.2.1 < 18446744073709551616 ∧ Suf B k.2.2.1 ∧ (∀ t ∈ k.1, I64 t) ∧
     ((k.2.2.1.bad = true → timesDec m s = none) ∧ (k.2.2.1.bad = false → (timesDecA (m - (i + 1)) (us (k.1.getD i 0)) k.2.1 k.2.2.1).map (fun r => k.1 ++ r.1) = (timesDec m s).map Prod.fst)) ∧
     St w0 (Own 2 1 k.2.2.2.1 k.1.length k.2.2.2.2 (i64V k.1) :: RrS p a c B k.2.2.1 :: l) w) ?_ ?_
   ·refine Ya ?_; refine Y2s ?_
    by_cases hi0 : i = 0
    ·refine qg (.bool true) O35 ?_
     refine Yk ?_
     obtain ⟨e1, e2⟩ := h00 hi0
     have hout : out = [] := List.eq_nil_of_length_eq_zero O0
     subst hout e2
     refine Y5 ?_; refine Y1x ?_
     refine qw rfl (qj rfl (rr_Get 64 hs' hB hr.cons (h.f 1)) ?_)
     rintro _ w ⟨rfl, h⟩
     rw [show heldN 64 = 64 from rfl] at h ⊢
     have hg64 := RS.get_lt s' 64
     have htd : timesDec m s = if (s'.get 64).2.bad then none else (timesDecA (m - 1) (s'.get 64).1 0 (s'.get 64).2).map fun r => (sg (s'.get 64).1 :: r.1, r.2) := by
      rw [← e1, show m = (m - 1) + 1 by omega]; rfl
     have hs2 := hs'.get 64
     generalize (s'.get 64).1 = g at *
     generalize (s'.get 64).2 = s2 at *
     refine Yb ?_
     refine qg (.int .i64 (sg g)) (by rw [gm hg64]) ?_
     refine jo (v := .int .i64 (sg g)) (m3 := 1) (zs := i64V [sg g]) (h.f 1) rfl rfl rfl rfl rfl rfl rfl O0 O0 rfl rfl rfl rfl rfl fun b2 a2 c2 w _ h => ?_
     refine Ym ?_
     refine qd ⟨([sg g], 0, s2, a2, c2), ⟨rfl, rfl, rfl, rfl, rfl, trivial⟩, by rw [hi0]; rfl, (by decide : (0 : Nat) < 18446744073709551616), hs2, ?_, ⟨fun hb => ?_, fun hb => ?_⟩, h⟩
     ·intro t ht
      have : t = sg g := by simpa using ht
      rw [this]; exact sg_wf hg64
     ·rw [htd, if_pos hb]
     ·dsimp only at hb ⊢
      rw [htd, hb, if_neg O7, hi0]
      show (timesDecA (m - 1) (us (sg g)) 0 s2).map _ = _
      rw [us_sg hg64, Option.map_map]
      congr 1
    refine qg (.bool false) O1 ?_
    refine Y9 ?_
    obtain ⟨_, e2⟩ := hnz O0
    have e2 := e2 hbad
    have hgl := getLast_get (l := out) (n := i - 1) O0
    generalize out.getD (i - 1) 0 = was at hgl e2
    rw [show m - i = (m - (i + 1)) + 1 by omega, timesDecA] at e2
    refine Yr ?_
    refine qw rfl (qj rfl (ref4_difference hs' hB hr.cons (h.f 1)) ?_)
    rintro _ w ⟨rfl, h⟩
    have hs2 := hs'.nextT
    generalize hd : (nextT s').1 = d at *
    generalize (nextT s').2 = s2 at *
    refine Y2j ?_; refine Yt ?_; refine Y1s ?_
    cases hok : nextOk s' with
    | false =>
     rw [hok, if_neg O7, Option.map_none] at e2
     have hno : timesDec m s = none := by
      cases ht : timesDec m s with
      | none => rfl
      | some x => rw [ht] at e2; cases e2
     obtain ⟨f1, f2⟩ := fail hno
     rw [f1, f2]
     refine Y2e ?_
     exact qq (qv (bq2 ⟨none, 0, s2, rfl, (fun _ h => by cases h), St.ownNil _ _ (h.f 1).drop⟩))
    | true =>
    refine Y9 ?_
    have hsum : summ last (us d) < 18446744073709551616 := Nat.mod_lt _ O4
    refine Y4 ?_; refine Y2k ?_
    refine qg (.int .u64 (us d : Nat)) (by rw [jt]) ?_
    refine Y1n ?_
    refine qg (.int .u64 (summ last (us d) : Nat)) (by rw [gr]) ?_
    refine Y6 ?_
    generalize summ last (us d) = st at hsum e2
    have hsum2 : summ (us was) st < 18446744073709551616 := Nat.mod_lt _ O4
    obtain ⟨g, rfl⟩ := (h.f 1).own_some O0
    refine Y4u ?_; refine Y1p ?_
    refine qg (.int .i64 ((i - 1 : Nat) : Int)) O6 ?_
    refine qz (qn (o' := i - 1) rfl rfl rfl O0 O7) rfl ?_
    refine qz (qx (v := .int .i64 was) rfl (by have := (h.f 1).own_rd.cell (i64V_get hgl); simpa using this)) rfl ?_
    refine Yb ?_
    refine qg (.int .u64 (us was : Nat)) (by rw [jt]) ?_
    refine Y3h ?_
    refine qg (.int .u64 (summ (us was) st : Nat)) (by rw [gr]) ?_
    refine Yb ?_
    generalize summ (us was) st = nx at hsum2 e2
    refine qg (.int .i64 (sg nx)) (by rw [gm hsum2]) ?_
    refine jo (v := .int .i64 (sg nx)) (m3 := (out ++ [sg nx]).length) (zs := i64V (out ++ [sg nx])) (h.f 1) rfl rfl rfl rfl rfl O7 (by simp [i64V, vcells]) O1 O1 rfl rfl rfl rfl rfl fun b2 a2 c2 w _ h => ?_
    refine Yx ?_
    refine qq ⟨(out ++ [sg nx], st, s2, a2, c2), ⟨rfl, rfl, rfl, rfl, rfl, trivial⟩, by simp; omega, hsum, hs2, ?_, ⟨fun hb => ?_, fun hb => ?_⟩, h⟩
    ·intro t ht
     rcases List.mem_append.1 ht with ht | ht
     ·exact hwf t ht
     ·have : t = sg nx := by simpa using ht
      rw [this]; exact sg_wf hsum2
    ·dsimp only at hb
     rw [hok, hb, if_neg O7, Option.map_none] at e2
     cases ht : timesDec m s with
     | none => rfl
     | some x => rw [ht] at e2; cases e2
    ·dsimp only at hb ⊢
     rw [hok, hb, if_pos ⟨rfl, rfl⟩, Option.map_map] at e2
     have hgd : (out ++ [sg nx]).getD i 0 = sg nx := by rw [List.getD, List.getElem?_append_right O0, hol, Nat.sub_self]; rfl
     rw [hgd, us_sg hsum2, ← e2]
     congr 1
     funext r
     simp
   clear h
   rintro ⟨out', last', s2, oa', oc'⟩ w e ⟨k1, k2, k3, k4, k5, h⟩
   dsimp only at k1 k2 k3 k4 k5 h ⊢
   refine Y1b ?_
   refine qg (.int .i64 ((i + 1 : Nat) : Int)) O5 ?_
   refine Y2 ?_
   exact qq ⟨(i + 1, out', last', s2, oa', oc'), ⟨rfl, rfl, rfl, rfl, rfl, trivial⟩, ⟨hlt, k1, k2, k3, k4, (fun h => by cases h), fun _ => k5, h⟩, by dsimp only; omega⟩
  ·refine qg (.bool false) O1 ?_
   refine Y16 ?_; refine Y30 ?_
   obtain ⟨t1, t2⟩ := stop (fun hh => hlt hh.1)
   exact qq (q6 rfl (qd ⟨(out, oa, oc, s'), ⟨rfl, rfl, trivial⟩, t1, t2, hwf, h⟩))
 clear h
 rintro ⟨out, oa, oc, s'⟩ w e ⟨t1, t2, hwf, h⟩
 dsimp only at t1 t2 hwf h ⊢
 refine Y3w ?_
 refine qz (qk (v := .bool s'.bad) rfl (h.b 1 rfl) rfl) rfl ?_
 cases hbad : s'.bad with
 | true =>
  obtain ⟨f1, f2⟩ := fail (t1 hbad)
  rw [f1, f2]
  refine Y2e ?_
  exact qq (qv (bq2 ⟨none, 0, s', rfl, (fun _ h => by cases h), St.ownNil _ _ h.drop⟩))
 | false =>
  have e1 := t2 hbad
  have e2 : (timesDec m s).isSome = true := by
   cases ht : timesDec m s with
   | none => rw [ht] at e1; cases e1
   | some x => rfl
  rw [e1, e2]
  refine Y9 ?_; refine Y5 ?_; refine Y1f ?_
  exact qq (qv (bq2 ⟨oa, oc, s', rfl, hwf, h⟩))
end
end Go.Proofs.YtnnehiiblfmpnaaGreatDoor

namespace Go.Hw
theorem xr_zero {win : Win} {was now : Nat} {V : List Nat} {r : List Bool} {s : RS} (hb : s.bad = false) (hs : s.rest = xorRest win was (now :: V) ++ r) (hx : now ^^^ was = 0) :
  s.get 1 = (0, ⟨xorRest win now V ++ r, false⟩) := by
 obtain ⟨rest, bad⟩ := s
 dsimp only at hb hs
 subst hb hs
 rw [xorRest, if_pos hx, List.append_assoc, RS.get_put]
theorem xr_one {win : Win} {was now : Nat} {V : List Nat} {r : List Bool} {s : RS} (hb : s.bad = false) (hs : s.rest = xorRest win was (now :: V) ++ r) (hx : now ^^^ was ≠ 0) : (s.get 1).1 = 1 ∧
  ((win.fits (now ^^^ was) = true ∧ (s.get 1).2.get 1 = (0, ⟨bitsOf ((now ^^^ was) / 2 ^ win.trail) win.long ++ (xorRest win now V ++ r), false⟩)) ∨
   (win.fits (now ^^^ was) = false ∧ (s.get 1).2.get 1 = (1, ⟨bitsOf (winOf (now ^^^ was)).lead 5 ++ (bitsOf ((winOf (now ^^^ was)).long - 1) 6 ++ (bitsOf ((now ^^^ was) / 2 ^ (winOf (now ^^^ was)).trail) (winOf (now ^^^ was)).long ++ (xorRest (winOf (now ^^^ was)) now V ++ r))), false⟩))) := by
 obtain ⟨rest, bad⟩ := s
 dsimp only at hb hs
 subst hb hs
 rw [xorRest, if_neg hx]
 by_cases hf : win.fits (now ^^^ was) = true
 ·rw [if_pos hf, show bitsOf 2 2 = bitsOf 1 1 ++ bitsOf 0 1 by decide]
  simp only [List.append_assoc]
  rw [RS.get_put]
  refine ⟨rfl, .inl ⟨hf, ?_⟩⟩
  dsimp only
  rw [RS.get_put]
 ·rw [if_neg hf, show bitsOf 3 2 = bitsOf 1 1 ++ bitsOf 1 1 by decide]
  simp only [List.append_assoc]
  rw [RS.get_put]
  refine ⟨rfl, .inr ⟨by simpa using hf, ?_⟩⟩
  dsimp only
  rw [RS.get_put]
def looseA : List Nat → Nat → List Nat
 | [], _ => []
 | x :: ws, room => if room = 0 then [] else
  unpackW (x % 1152921504606846976) (kindsL.getD (x / 1152921504606846976) (0, 0)).2 (min (kindsL.getD (x / 1152921504606846976) (0, 0)).1 room) ++ looseA ws (room - min (kindsL.getD (x / 1152921504606846976) (0, 0)).1 room)
theorem looseA_of : ∀ (ws : List Nat) (room : Nat) (r : List Nat), simpDecA ws room = some r → looseA ws room = r
 | [], _, r, h => by rw [simpDecA] at h; cases h; rfl
 | x :: ws, room, r, h => by
  rw [simpDecA] at h
  rw [looseA]
  split at h
  ·cases h
  ·rename_i hr
   rw [if_neg hr]
   obtain ⟨y, hy, rfl⟩ := Option.map_eq_some_iff.1 h
   rw [looseA_of ws _ y hy]
theorem looseA_zero : ∀ (ws : List Nat), looseA ws 0 = []
 | [] => rfl
 | x :: ws => by rw [looseA, if_pos rfl]
theorem unpackW_lt {x b m : Nat} (hb : b ≤ 60) : ∀ y ∈ unpackW x b m, y < 18446744073709551616 := by
 intro y hy
 simp only [unpackW, List.mem_map, List.mem_range] at hy
 obtain ⟨j, _, rfl⟩ := hy
 have h1 := Nat.mod_lt (x / 2 ^ (j * b)) (Nat.two_pow_pos b)
 have h2 : 2 ^ b ≤ 2 ^ 60 := Nat.pow_le_pow_right O4 hb
 omega
theorem unpackW_snoc (x b m : Nat) : unpackW x b (m + 1) = unpackW x b m ++ [x / 2 ^ (m * b) % 2 ^ b] := by simp [unpackW, List.range_succ]
theorem unpack_at {x j b : Nat} (h : j * b + b ≤ 60) : x % 1152921504606846976 / 2 ^ (j * b) % 2 ^ b = x / 2 ^ (j * b) % 2 ^ b := by
 have e : (1152921504606846976 : Nat) = 2 ^ (j * b) * 2 ^ (60 - j * b) := by rw [← Nat.pow_add, show j * b + (60 - j * b) = 60 by omega]
 rw [e, Nat.mod_mul_right_div_self]
 have e2 : 2 ^ (60 - j * b) = 2 ^ b * 2 ^ (60 - j * b - b) := by rw [← Nat.pow_add]; congr 1; omega
 rw [e2, Nat.mod_mul_right_mod]
end Go.Hw
namespace Go.Proofs.YtnnehiiblfmpnaaGreatDoor
open Go.Hw
set_option maxHeartbeats 8000000
set_option maxRecDepth 100000
section
variable {w0 w : World} {l : List HProp}
theorem ref4_GetValues {p : Nat} {a : Option Addr} {c : Nat} {B : List UInt8} (n : Int) (hB : B.length ≤ 140737488355328) (hr : Reads w0 l 1 a B.length (bytesV B)) (h : St w0 (RrPt p a B.length c 0 false :: l) w) :
  Ret Tryz.prog 162 [.pointer (some ⟨p, 0, none⟩), .int .i64 n] w fun v w' => ∃ ok vs va vc, v = .tuple [.slice va vs.length vc, .bool ok].toArray ∧ (∀ x ∈ vs, x < 18446744073709551616) ∧
   (∀ V r, (∀ x ∈ V, x < 18446744073709551616) → V.length = askN n → bitsB B = xorBits V ++ r → ok = true ∧ vs = V) ∧ St w0 (OwnU va vc vs :: l) w' := by
 have hm := askN_le n
 have hbl := bitsB_len B
 refine enter Tryz.func162 rfl Tryz.results162 Tryz.ntmps162 rfl ?_
 refine Y39 ?_
 refine qw rfl (qj rfl (ref4_held n h) ?_)
 rintro _ w ⟨rfl, h⟩
 generalize askN n = m at hm ⊢
 refine Y6 ?_; refine Yu ?_; refine qz (qk rfl (h.b 0) rfl) rfl ?_; refine Y6 ?_; refine Yn ?_; refine Y3t ?_; refine Y22 ?_
 replace h : St w0 (RrS p a c B ⟨bitsB B, false⟩ :: l) w := by
  show St w0 (RrPt p a B.length c (8 * B.length - (bitsB B).length) false :: l) w
  rw [hbl, Nat.sub_self]; exact h
 have none_ok : ∀ {w' : World}, (∀ V r, (∀ x ∈ V, x < 18446744073709551616) → V.length = m → bitsB B = xorBits V ++ r → False) → St w0 l w' → ∃ ok vs va vc, Value.tuple [.slice none 0 0, .bool false].toArray = .tuple [.slice va (vs : List Nat).length vc, .bool ok].toArray ∧ (∀ x ∈ vs, x < 18446744073709551616) ∧
   (∀ V r, (∀ x ∈ V, x < 18446744073709551616) → V.length = m → bitsB B = xorBits V ++ r → ok = true ∧ vs = V) ∧ St w0 (OwnU va vc vs :: l) w' := fun hno h' =>
  ⟨false, [], none, 0, rfl, (fun _ h => by cases h), fun V r h1 h2 h3 => (hno V r h1 h2 h3).elim, St.ownNil _ _ h'⟩
 refine qo (Γ := List Nat × RS × Option Addr × Nat) (fun q => [(0, .pointer (some ⟨p, 0, none⟩)), (6, .int .i64 0), (7, .slice q.2.2.1 q.1.length q.2.2.2)])
  (fun q w => q.1.length ≤ m ∧ (∀ x ∈ q.1, x < 18446744073709551616) ∧ Suf B q.2.1 ∧ (∀ V r, (∀ x ∈ V, x < 18446744073709551616) → V.length = m → bitsB B = xorBits V ++ r → q.2.1.bad = false ∧ q.1 = V ∧ q.2.1.rest = r) ∧ St w0 (OwnU q.2.2.1 q.2.2.2 q.1 :: RrS p a c B q.2.1 :: l) w) ?_ ?_
 ·refine Y17 ?_
  refine qc (Γ := Nat × List Nat × Win × RS × Option Addr × Nat) (fun k => [(0, .pointer (some ⟨p, 0, none⟩)), (1, .int .i64 m), (6, .int .i64 0), (7, .slice k.2.2.2.2.1 k.2.1.length k.2.2.2.2.2), (8, .bool k.2.2.1.is), (9, .int .i64 k.2.2.1.lead), (10, .int .i64 k.2.2.1.trail), (11, .int .i64 k.1)])
   (fun k w => k.1 ≤ m ∧ k.2.1.length = k.1 ∧ WinOk k.2.2.1 ∧ Suf B k.2.2.2.1 ∧ (∀ x ∈ k.2.1, x < 18446744073709551616) ∧ (k.1 = 0 → k.2.2.1 = ⟨false, 0, 0⟩ ∧ k.2.2.2.1 = ⟨bitsB B, false⟩) ∧
    (0 < k.1 → ∀ V r, (∀ x ∈ V, x < 18446744073709551616) → V.length = m → bitsB B = xorBits V ++ r → k.2.2.2.1.bad = false ∧ k.2.1 = V.take k.1 ∧ k.2.2.2.1.rest = xorRest k.2.2.1 (V.getD (k.1 - 1) 0) (V.drop k.1) ++ r) ∧
    St w0 (OwnU k.2.2.2.2.1 k.2.2.2.2.2 k.2.1 :: RrS p a c B k.2.2.2.1 :: l) w) (fun k => m - k.1) (0, [], ⟨false, 0, 0⟩, ⟨bitsB B, false⟩, none, 0) ⟨rfl, rfl, rfl, rfl, rfl, rfl, rfl, rfl, trivial⟩
    ⟨Nat.zero_le _, rfl, (show (0 : Nat) + 0 ≤ 63 by decide), Suf.all B, (fun _ h => by cases h), fun _ => ⟨rfl, rfl⟩, (fun h => absurd h (by decide : ¬ (0 : Nat) < 0)), St.ownNil _ _ h⟩ ?_
  clear h
  rintro ⟨i, out, win, s, oa, oc⟩ w e ⟨hi, hol, hwo, hs, hlt64, h00, hnz, h⟩
  dsimp only at hi hol hwo hs hlt64 h00 hnz h ⊢
  have stop : ¬ (i < m ∧ s.bad = false) → ∀ V r, (∀ x ∈ V, x < 18446744073709551616) → V.length = m → bitsB B = xorBits V ++ r → s.bad = false ∧ out = V ∧ s.rest = r := by
   intro hno V r h1 h2 h3
   rcases Nat.eq_zero_or_pos i with h0 | h0
   ·obtain ⟨_, e1⟩ := h00 h0
    have : m = 0 := by
     rcases Nat.eq_zero_or_pos m with h | h
     ·exact h
     ·exact absurd ⟨by omega, by rw [e1]⟩ hno
    have hV : V = [] := List.eq_nil_of_length_eq_zero O0
    subst hV
    rw [e1]
    exact ⟨rfl, List.eq_nil_of_length_eq_zero O0, by rw [h3]; rfl⟩
   ·obtain ⟨k1, k2, k3⟩ := hnz h0 V r h1 h2 h3
    have him : i = m := by
     rcases Nat.lt_or_ge i m with h | h
     ·exact absurd ⟨h, k1⟩ hno
     ·omega
    rw [him, ← h2, List.take_length] at k2
    rw [him, ← h2, List.drop_length] at k3
    exact ⟨k1, k2, by rw [k3]; rfl⟩
  refine Y31 ?_; refine Ys ?_
  by_cases hlt : i < m
  ·refine qg (.bool true) O1 ?_
   refine Y38 ?_; refine Y19 ?_; refine Y4b ?_
   refine qz (qk (v := .bool s.bad) rfl (h.b 1 rfl) rfl) rfl ?_
   cases hbad : s.bad with
   | true =>
    refine Y3e ?_; refine Yi ?_
    have t1 := stop (by rw [hbad]; simp)
    exact qq (q6 rfl (qd ⟨(out, s, oa, oc), ⟨rfl, rfl, rfl, trivial⟩, by dsimp only; omega, hlt64, hs, t1, h⟩))
   | false =>
   refine Y3e ?_; refine Yi ?_; refine Y1z ?_
   refine qo (Γ := List Nat × Win × RS × Option Addr × Nat) (fun k => [(0, .pointer (some ⟨p, 0, none⟩)), (1, .int .i64 m), (6, .int .i64 0), (7, .slice k.2.2.2.1 k.1.length k.2.2.2.2), (8, .bool k.2.1.is), (9, .int .i64 k.2.1.lead), (10, .int .i64 k.2.1.trail), (11, .int .i64 i)])
    (fun k w => k.1.length = i + 1 ∧ WinOk k.2.1 ∧ Suf B k.2.2.1 ∧ (∀ x ∈ k.1, x < 18446744073709551616) ∧
     (∀ V r, (∀ x ∈ V, x < 18446744073709551616) → V.length = m → bitsB B = xorBits V ++ r → k.2.2.1.bad = false ∧ k.1 = V.take (i + 1) ∧ k.2.2.1.rest = xorRest k.2.1 (V.getD i 0) (V.drop (i + 1)) ++ r) ∧
     St w0 (OwnU k.2.2.2.1 k.2.2.2.2 k.1 :: RrS p a c B k.2.2.1 :: l) w) ?_ ?_
   ·refine Ya ?_; refine Y2s ?_
    by_cases hi0 : i = 0
    ·refine qg (.bool true) O35 ?_
     refine Yk ?_
     obtain ⟨e1, e2⟩ := h00 hi0
     have hout : out = [] := List.eq_nil_of_length_eq_zero O0
     refine Y5 ?_; refine Y1x ?_
     refine qw rfl (qj rfl (rr_Get 64 hs hB hr.cons (h.f 1)) ?_)
     rintro _ w ⟨rfl, h⟩
     rw [show heldN 64 = 64 from rfl] at h ⊢
     have hg64 := RS.get_lt s 64
     refine jo (v := .int .u64 ((s.get 64).1 : Nat)) (m3 := (out ++ [(s.get 64).1]).length) (zs := u64V (out ++ [(s.get 64).1])) (h.f 1) rfl rfl rfl rfl rfl O7 O22 O1 O1 rfl rfl rfl rfl rfl fun b2 a2 c2 w _ h => ?_
     refine Ym ?_
     refine qd ⟨(out ++ [(s.get 64).1], win, (s.get 64).2, a2, c2), ⟨rfl, rfl, rfl, rfl, rfl, rfl, rfl, rfl, trivial⟩, by simp; omega, hwo, hs.get 64, ?_, ?_, h⟩
     ·intro x hx
      rw [hout] at hx
      have : x = (s.get 64).1 := by simpa using hx
      rw [this]; exact hg64
     ·intro V r h1 h2 h3
      cases V with
      | nil => simp at h2; omega
      | cons v V =>
      have hv := h1 v (List.mem_cons_self ..)
      have hst : s.get 64 = (v, ⟨xorRest ⟨false, 0, 0⟩ v V ++ r, false⟩) := by
       rw [e2, h3, xorBits, List.append_assoc, RS.get_put, Nat.mod_eq_of_lt hv]
      dsimp only
      rw [hst, hout, hi0, e1]
      exact ⟨rfl, rfl, rfl⟩
    refine qg (.bool false) O1 ?_
    refine Y9 ?_
    have hyp := hnz O0
    have hgl : out[i - 1]? = some (out.getD (i - 1) 0) := by rw [List.getD, List.getElem?_eq_getElem O0]; rfl
    have hlast := hlt64 _ (List.mem_of_getElem? hgl)
    have hwas : ∀ V r, (∀ x ∈ V, x < 18446744073709551616) → V.length = m → bitsB B = xorBits V ++ r → ∃ now V', V.drop i = now :: V' ∧ V.drop (i + 1) = V' ∧ V.getD i 0 = now ∧ V.getD (i - 1) 0 = out.getD (i - 1) 0 ∧ now < 18446744073709551616 ∧ V.take (i + 1) = out ++ [now] ∧ s.rest = xorRest win (out.getD (i - 1) 0) (now :: V') ++ r := by
     intro V r h1 h2 h3
     obtain ⟨k1, k2, k3⟩ := hyp V r h1 h2 h3
     have hdr := List.drop_eq_getElem_cons (show i < V.length by omega)
     have hgv := List.getElem?_eq_getElem (show i < V.length by omega)
     have hge : V.getD (i - 1) 0 = out.getD (i - 1) 0 := by
      rw [List.getD, List.getD, k2, List.getElem?_take, if_pos O0]
     refine ⟨V[i]'O0, V.drop (i + 1), hdr, rfl, by rw [List.getD, hgv]; rfl, hge, h1 _ (List.getElem_mem _), ?_, ?_⟩
     ·rw [List.take_add_one, hgv]
      exact congrArg (· ++ [V[i]'O0]) k2.symm
     ·rw [k3, hge, hdr]
    generalize out.getD (i - 1) 0 = was at hgl hlast hwas
    refine Yf ?_
    refine qo (Γ := Win × RS × Nat) (fun k => [(0, .pointer (some ⟨p, 0, none⟩)), (1, .int .i64 m), (6, .int .i64 0), (7, .slice oa out.length oc), (8, .bool k.1.is), (9, .int .i64 k.1.lead), (10, .int .i64 k.1.trail), (11, .int .i64 i), (12, .int .u64 k.2.2)])
     (fun k w => WinOk k.1 ∧ Suf B k.2.1 ∧ k.2.2 < 18446744073709551616 ∧ (∀ V r, (∀ x ∈ V, x < 18446744073709551616) → V.length = m → bitsB B = xorBits V ++ r → k.2.1.bad = false ∧ k.2.2 = V.getD i 0 ^^^ was ∧ k.2.1.rest = xorRest k.1 (V.getD i 0) (V.drop (i + 1)) ++ r) ∧ St w0 (RrS p a c B k.2.1 :: OwnU oa oc out :: l) w) ?_ ?_
    ·refine Yr ?_
     refine qw rfl (qj rfl (rr_Get 1 hs hB hr.cons (h.f 1)) ?_)
     rintro _ w ⟨rfl, h⟩
     rw [heldN_one] at h ⊢
     have hs1 := hs.get 1
     refine Yd ?_
     by_cases hg1 : (s.get 1).1 = 1
     ·refine qg (.bool true) (by rw [hg1]; rfl) ?_
      refine Yk ?_
      have hwas1 : ∀ V r, (∀ x ∈ V, x < 18446744073709551616) → V.length = m → bitsB B = xorBits V ++ r → V.getD i 0 ^^^ was ≠ 0 := by
       intro V r h1 h2 h3 h0
       obtain ⟨now, V', k1, k2, k3, k4, k5, k6, k7⟩ := hwas V r h1 h2 h3
       rw [k3] at h0
       rw [xr_zero hbad k7 h0] at hg1
       cases hg1
      refine qo (Γ := Win × RS) (fun k => [(0, .pointer (some ⟨p, 0, none⟩)), (1, .int .i64 m), (6, .int .i64 0), (7, .slice oa out.length oc), (8, .bool k.1.is), (9, .int .i64 k.1.lead), (10, .int .i64 k.1.trail), (11, .int .i64 i)])
       (fun k w => WinOk k.1 ∧ Suf B k.2 ∧ (∀ V r, (∀ x ∈ V, x < 18446744073709551616) → V.length = m → bitsB B = xorBits V ++ r → k.1.lead ≤ (winOf (V.getD i 0 ^^^ was)).lead ∧ k.1.trail ≤ (winOf (V.getD i 0 ^^^ was)).trail ∧ k.2 = ⟨bitsOf ((V.getD i 0 ^^^ was) / 2 ^ k.1.trail) k.1.long ++ (xorRest k.1 (V.getD i 0) (V.drop (i + 1)) ++ r), false⟩) ∧ St w0 (RrS p a c B k.2 :: OwnU oa oc out :: l) w) ?_ ?_
      ·refine Yr ?_
       refine qw rfl (qj rfl (rr_Get 1 hs1 hB hr.cons h) ?_)
       rintro _ w ⟨rfl, h⟩
       rw [heldN_one] at h ⊢
       have hs2 := hs1.get 1
       have two : ∀ V r, (∀ x ∈ V, x < 18446744073709551616) → V.length = m → bitsB B = xorBits V ++ r → (win.fits (V.getD i 0 ^^^ was) = true ∧ (s.get 1).2.get 1 = (0, ⟨bitsOf ((V.getD i 0 ^^^ was) / 2 ^ win.trail) win.long ++ (xorRest win (V.getD i 0) (V.drop (i + 1)) ++ r), false⟩)) ∨
         (win.fits (V.getD i 0 ^^^ was) = false ∧ (s.get 1).2.get 1 = (1, ⟨bitsOf (winOf (V.getD i 0 ^^^ was)).lead 5 ++ (bitsOf ((winOf (V.getD i 0 ^^^ was)).long - 1) 6 ++ (bitsOf ((V.getD i 0 ^^^ was) / 2 ^ (winOf (V.getD i 0 ^^^ was)).trail) (winOf (V.getD i 0 ^^^ was)).long ++ (xorRest (winOf (V.getD i 0 ^^^ was)) (V.getD i 0) (V.drop (i + 1)) ++ r))), false⟩)) := by
        intro V r h1 h2 h3
        obtain ⟨now, V', k1, k2, k3, k4, k5, k6, k7⟩ := hwas V r h1 h2 h3
        rw [k3, k2]
        exact (xr_one hbad k7 (by rw [← k3]; exact hwas1 V r h1 h2 h3)).2
       generalize hq : (s.get 1).2.get 1 = q at *
       obtain ⟨g2, s2⟩ := q
       dsimp only at hs2 h ⊢
       refine Yd ?_
       by_cases hg2 : g2 = 1
       ·refine qg (.bool true) (by rw [hg2]; rfl) ?_
        refine Yk ?_; refine Yr ?_
        refine qw rfl (qj rfl (rr_Get 5 hs2 hB hr.cons h) ?_)
        rintro _ w ⟨rfl, h⟩
        rw [show heldN 5 = 5 from rfl] at h ⊢
        have hs3 := hs2.get 5
        have hg5 := RS.get_lt s2 5
        refine Yb ?_
        refine qg (.int .i64 ((s2.get 5).1 : Nat)) O13 ?_
        refine Y6 ?_; refine Yr ?_
        refine qw rfl (qj rfl (rr_Get 6 hs3 hB hr.cons h) ?_)
        rintro _ w ⟨rfl, h⟩
        rw [show heldN 6 = 6 from rfl] at h ⊢
        have hs4 := hs3.get 6
        have hg6 := RS.get_lt (s2.get 5).2 6
        refine Yb ?_
        refine qg (.int .i64 (((s2.get 5).2.get 6).1 : Nat)) O13 ?_
        refine Y1n ?_
        refine qg (.int .i64 ((((s2.get 5).2.get 6).1 + 1 : Nat) : Int)) O5 ?_
        refine Y6 ?_
        have three : ∀ V r, (∀ x ∈ V, x < 18446744073709551616) → V.length = m → bitsB B = xorBits V ++ r → (s2.get 5).1 = (winOf (V.getD i 0 ^^^ was)).lead ∧ ((s2.get 5).2.get 6).1 + 1 = (winOf (V.getD i 0 ^^^ was)).long ∧ (winOf (V.getD i 0 ^^^ was)).lead + (winOf (V.getD i 0 ^^^ was)).trail + (winOf (V.getD i 0 ^^^ was)).long = 64 ∧
          ((s2.get 5).2.get 6).2 = ⟨bitsOf ((V.getD i 0 ^^^ was) / 2 ^ (winOf (V.getD i 0 ^^^ was)).trail) (winOf (V.getD i 0 ^^^ was)).long ++ (xorRest (winOf (V.getD i 0 ^^^ was)) (V.getD i 0) (V.drop (i + 1)) ++ r), false⟩ := by
         intro V r h1 h2 h3
         obtain ⟨now, V', k1, k2, k3, k4, k5, k6, k7⟩ := hwas V r h1 h2 h3
         have hx : V.getD i 0 ^^^ was < 18446744073709551616 := Nat.xor_lt_two_pow (n := 64) (by rw [k3]; exact k5) hlast
         obtain ⟨l1, l2, l3, l4⟩ := winOf_long (hwas1 V r h1 h2 h3) hx
         rcases two V r h1 h2 h3 with ⟨_, hq⟩ | ⟨_, hq⟩
         ·have hh := congrArg Prod.fst hq; dsimp only at hh; omega
         ·have hh := congrArg Prod.snd hq
          dsimp only at hh
          rw [hh, RS.get_put]
          dsimp only
          rw [RS.get_put]
          dsimp only
          rw [Nat.mod_eq_of_lt O0, Nat.mod_eq_of_lt O0]
          exact ⟨rfl, by omega, l1, rfl⟩
        generalize (s2.get 5).1 = la at *
        generalize hQ : (s2.get 5).2.get 6 = Q at *
        obtain ⟨lb, s4⟩ := Q
        dsimp only at hs4 h hg6 three ⊢
        refine Y31 ?_; refine Y1n ?_
        refine qg (.int .i64 ((la + (lb + 1) : Nat) : Int)) O14 ?_
        refine Y1q ?_
        by_cases h64 : la + (lb + 1) > 64
        ·refine qg (.bool true) O10 ?_
         refine Y2e ?_
         refine qq (qv (bq2 (none_ok ?_ h.drop.drop)))
         intro V r h1 h2 h3
         obtain ⟨k1, k2, k3, _⟩ := three V r h1 h2 h3
         omega
        ·refine qg (.bool false) O11 ?_
         refine Y9 ?_; refine Y1a ?_; refine Y1p ?_
         refine qg (.int .i64 ((64 - la : Nat) : Int)) O6 ?_
         refine Y1u ?_
         refine qg (.int .i64 ((64 - la - (lb + 1) : Nat) : Int)) O6 ?_
         refine Ye ?_; refine Y2 ?_
         refine qq ⟨(⟨true, la, 64 - la - (lb + 1)⟩, s4), ⟨rfl, rfl, rfl, rfl, rfl, rfl, rfl, rfl, trivial⟩, by unfold WinOk; dsimp only; omega, hs4, ?_, h⟩
         intro V r h1 h2 h3
         obtain ⟨k1, k2, k3, k4⟩ := three V r h1 h2 h3
         dsimp only at k4 ⊢
         have hwe : (⟨true, la, 64 - la - (lb + 1)⟩ : Win) = winOf (V.getD i 0 ^^^ was) := by
          show _ = Win.mk true (winOf (V.getD i 0 ^^^ was)).lead (winOf (V.getD i 0 ^^^ was)).trail
          congr 1
          omega
         have ht : 64 - la - (lb + 1) = (winOf (V.getD i 0 ^^^ was)).trail := by omega
         rw [hwe, k4, ht]
         exact ⟨by omega, Nat.le_refl _, rfl⟩
       ·refine qg (.bool false) O3 ?_
        refine Y11 ?_
        have four : ∀ V r, (∀ x ∈ V, x < 18446744073709551616) → V.length = m → bitsB B = xorBits V ++ r → win.fits (V.getD i 0 ^^^ was) = true ∧ s2 = ⟨bitsOf ((V.getD i 0 ^^^ was) / 2 ^ win.trail) win.long ++ (xorRest win (V.getD i 0) (V.drop (i + 1)) ++ r), false⟩ := by
         intro V r h1 h2 h3
         rcases two V r h1 h2 h3 with ⟨k1, hq⟩ | ⟨_, hq⟩
         ·exact ⟨k1, congrArg Prod.snd hq⟩
         ·exact absurd (congrArg Prod.fst hq) hg2
        refine Y1 ?_; refine Y1l ?_
        cases hwi : win.is with
        | false =>
         refine Y2e ?_
         refine qq (qv (bq2 (none_ok ?_ h.drop.drop)))
         intro V r h1 h2 h3
         have := (fits_le (four V r h1 h2 h3).1).1
         rw [hwi] at this; cases this
        | true =>
         refine qq (q6 rfl (qr ⟨(win, s2), ⟨rfl, rfl, rfl, rfl, hwi.symm ▸ rfl, rfl, rfl, rfl, trivial⟩, hwo, hs2, ?_, h⟩))
         intro V r h1 h2 h3
         obtain ⟨k1, k2⟩ := four V r h1 h2 h3
         obtain ⟨_, k3, k4⟩ := fits_le k1
         exact ⟨k3, k4, k2⟩
      clear h
      rintro ⟨wn, s2⟩ w e ⟨hwn, hs2, hx2, h⟩
      dsimp only at hwn hs2 hx2 h ⊢
      have hwn2 := hwn
      unfold WinOk at hwn2
      refine Y23 ?_; refine Y1u ?_
      refine qg (.int .i64 ((64 - wn.lead : Nat) : Int)) O6 ?_
      refine Y1u ?_
      refine qg (.int .i64 (wn.long : Nat)) (by unfold Win.long; rw [wrap64 O0 O0]; congr 1; omega) ?_
      refine qw rfl (qj rfl (rr_Get (wn.long : Nat) hs2 hB hr.cons h) ?_)
      rintro _ w ⟨rfl, h⟩
      rw [heldN_nat (win_long_le wn)] at h ⊢
      refine Y2k ?_
      refine qg (.int .u64 (wn.trail : Int)) O9 ?_
      refine qz (qh (v' := .int .u64 (((s2.get wn.long).1 * 2 ^ wn.trail % 18446744073709551616 : Nat) : Int)) (gk rfl rfl O0) (by rw [ji _ _ O0])) rfl ?_
      refine Y2 ?_
      refine qq ⟨(wn, (s2.get wn.long).2, (s2.get wn.long).1 * 2 ^ wn.trail % 18446744073709551616), ⟨rfl, rfl, rfl, rfl, rfl, rfl, rfl, rfl, rfl, trivial⟩, hwn, hs2.get _, Nat.mod_lt _ O4, ?_, h⟩
      intro V r h1 h2 h3
      obtain ⟨k1, k2, k3⟩ := hx2 V r h1 h2 h3
      obtain ⟨now, V', _, _, j3, _, j5, _, _⟩ := hwas V r h1 h2 h3
      have hx : V.getD i 0 ^^^ was < 18446744073709551616 := Nat.xor_lt_two_pow (n := 64) (by rw [j3]; exact j5) hlast
      dsimp only
      rw [k3, RS.get_put]
      exact ⟨rfl, shown hx k1 k2, rfl⟩
     ·refine qg (.bool false) O3 ?_
      refine qq (q6 rfl (qr ⟨(win, (s.get 1).2, 0), ⟨rfl, rfl, rfl, rfl, rfl, rfl, rfl, rfl, rfl, trivial⟩, hwo, hs1, (by decide : (0 : Nat) < 18446744073709551616), ?_, h⟩))
      intro V r h1 h2 h3
      obtain ⟨now, V', k1, k2, k3, k4, k5, k6, k7⟩ := hwas V r h1 h2 h3
      dsimp only
      rw [k3, k2]
      by_cases hx : now ^^^ was = 0
      ·rw [xr_zero hbad k7 hx]
       exact ⟨rfl, hx.symm, rfl⟩
      ·exact absurd (xr_one hbad k7 hx).1 hg1
    clear h
    rintro ⟨wn, s2, x⟩ w e ⟨hwn, hs2, hx, hx2, h⟩
    dsimp only at hwn hs2 hx hx2 h ⊢
    have hxw : was ^^^ x < 18446744073709551616 := Nat.xor_lt_two_pow (n := 64) hlast hx
    obtain ⟨g, rfl⟩ := (h.f 1).own_some O0
    refine Y4u ?_; refine Y1p ?_
    refine qg (.int .i64 ((i - 1 : Nat) : Int)) O6 ?_
    refine qz (qn (o' := i - 1) rfl rfl rfl O0 O7) rfl ?_
    refine qz (qx (v := .int .u64 was) rfl (by have := (h.f 1).own_rd.cell (u64V_get hgl); simpa using this)) rfl ?_
    refine Y0 ?_; refine Y3b ?_
    refine qg (.int .u64 ((was ^^^ x : Nat) : Int)) (by rw [(jv hlast hx).2.2]) ?_
    refine jo (v := .int .u64 ((was ^^^ x : Nat) : Int)) (m3 := (out ++ [was ^^^ x]).length) (zs := u64V (out ++ [was ^^^ x])) (h.f 1) rfl rfl rfl rfl rfl O7 O22 O1 O1 rfl rfl rfl rfl rfl fun b2 a2 c2 w _ h => ?_
    refine Yx ?_
    refine qq ⟨(out ++ [was ^^^ x], wn, s2, a2, c2), ⟨rfl, rfl, rfl, rfl, rfl, rfl, rfl, rfl, trivial⟩, by simp; omega, hwn, hs2, ?_, ?_, h⟩
    ·intro y hy
     rcases List.mem_append.1 hy with hy | hy
     ·exact hlt64 y hy
     ·have : y = was ^^^ x := by simpa using hy
      rw [this]; exact hxw
    ·intro V r h1 h2 h3
     obtain ⟨k1, k2, k3⟩ := hx2 V r h1 h2 h3
     obtain ⟨now, V', _, _, j3, _, j5, j6, _⟩ := hwas V r h1 h2 h3
     refine ⟨k1, ?_, k3⟩
     dsimp only
     rw [j6, k2, j3, xor_back]
   clear h
   rintro ⟨out', wn, s2, oa', oc'⟩ w e ⟨k1, k2, k3, k4, k5, h⟩
   dsimp only at k1 k2 k3 k4 k5 h ⊢
   refine Y1b ?_
   refine qg (.int .i64 ((i + 1 : Nat) : Int)) O5 ?_
   refine Y2 ?_
   exact qq ⟨(i + 1, out', wn, s2, oa', oc'), ⟨rfl, rfl, rfl, rfl, rfl, rfl, rfl, rfl, trivial⟩, ⟨hlt, k1, k2, k3, k4, (fun h => by cases h), fun _ => k5, h⟩, by dsimp only; omega⟩
  ·refine qg (.bool false) O1 ?_
   refine Y16 ?_; refine Y30 ?_
   have t1 := stop (fun hh => hlt hh.1)
   exact qq (q6 rfl (qd ⟨(out, s, oa, oc), ⟨rfl, rfl, rfl, trivial⟩, by dsimp only; omega, hlt64, hs, t1, h⟩))
 clear h
 rintro ⟨out, s, oa, oc⟩ w e ⟨hlm, hlt64, hs, hyp, h⟩
 dsimp only at hlm hlt64 hs hyp h ⊢
 refine Y3w ?_
 refine qz (qk (v := .bool s.bad) rfl (h.b 1 rfl) rfl) rfl ?_
 cases hbad : s.bad with
 | true =>
  refine Y2e ?_
  refine qq (qv (bq2 (none_ok ?_ h.drop.drop)))
  intro V r h1 h2 h3
  have := (hyp V r h1 h2 h3).1
  rw [hbad] at this; cases this
 | false =>
 refine Y9 ?_
 obtain ⟨hsl, hsr⟩ := hs
 have hxl := xorBits_len out
 refine Y1 ?_
 refine qz (qe (r := [.slice none 0 0]) rfl) rfl ?_
 refine qw rfl (jy h (show _ = Value.agg [.slice none 0 0].toArray from rfl) fun p2 w h => ?_)
 replace h : St w0 (IsRW p2 [] :: OwnU oa oc out :: RrS p a c B s :: l) w := St.rw_new h
 refine Y1d ?_; refine Y3y ?_
 refine qw rfl (qj rfl (ref4_Values hlt64 O0 O4 h Reads.own) ?_)
 rintro _ w ⟨rfl, h⟩
 rw [List.nil_append] at h
 refine Y3 ?_
 have hyp2 : ∀ V r, (∀ x ∈ V, x < 18446744073709551616) → V.length = m → bitsB B = xorBits V ++ r → out = V ∧ bitsB B = xorBits out ++ r ∧ 8 * B.length - s.rest.length = (xorBits out).length := by
  intro V r h1 h2 h3
  obtain ⟨_, k2, k3⟩ := hyp V r h1 h2 h3
  refine ⟨k2, by rw [k2]; exact h3, ?_⟩
  have := congrArg List.length h3
  rw [List.length_append, hbl] at this
  rw [k3, k2]; omega
 clear hyp
 generalize hX : xorBits out = X at *
 obtain ⟨xa, xc, h⟩ := St.rw.1 h
 generalize hat : 8 * B.length - s.rest.length = at_ at *
 replace h : St w0 (RwPt p2 xa X.length xc :: Own 5 1 xa X.length xc (bytesV (b2us X)) :: OwnU oa oc out :: RrPt p a B.length c at_ s.bad :: l) w := by rw [← hat]; exact h
 refine ql (ql (jj none (fun w => St w0 (RwPt p2 xa X.length xc :: Own 5 1 xa X.length xc (bytesV (b2us X)) :: OwnU oa oc out :: RrPt p a B.length c at_ s.bad :: l) w) O2 O2 h.drew fun w h => ?_))
 refine Yg ?_; refine qu rfl rfl rfl rfl h (fun _ h => qm rfl (qk rfl (h.b 0) rfl)) ?_; refine Y4y ?_; refine Yg ?_
 refine qu rfl rfl rfl rfl h (fun _ h => qm rfl (qk (v := .int .i64 at_) rfl (h.b 3 rfl) rfl)) ?_
 refine Yj ?_
 refine cpv rfl rfl rfl rfl h rfl (qh (v' := .int .i64 ((at_ : Nat) : Int)) (jm rfl rfl) (by rw [Int.sub_zero, wrap64 O0 O0])) ?_
 refine cpv rfl rfl rfl rfl h rfl (q_neq rfl rfl) ?_
 refine qi ?_
 refine qy ((X.length : Int) != (at_ : Int)) rfl (fun hc => ?_) (fun hc => ?_)
 ·refine Y26 ?_
  refine qq (qv (bq2 (none_ok ?_ h.drop.drop.drop.drop)))
  intro V r h1 h2 h3
  have := (hyp2 V r h1 h2 h3).2.2
  rw [this] at hc; simp at hc
 have hXat : X.length = at_ := by rw [bne_eq_false_iff_eq] at hc; omega
 refine Yh ?_
 refine qo (Γ := Unit) (fun _ => [(7, .slice oa out.length oc)]) (fun _ w => St w0 (OwnU oa oc out :: l) w) ?_ ?_
 ·refine Y17 ?_
  refine qc (Γ := Nat) (fun k => [(0, .pointer (some ⟨p, 0, none⟩)), (6, .int .i64 0), (7, .slice oa out.length oc), (14, .pointer (some ⟨p2, 0, none⟩)), (15, .int .i64 k)])
   (fun k w => k ≤ X.length ∧ St w0 (RwPt p2 xa X.length xc :: Own 5 1 xa X.length xc (bytesV (b2us X)) :: OwnU oa oc out :: RrPt p a B.length c at_ s.bad :: l) w) (fun k => X.length - k) 0 ⟨rfl, rfl, rfl, rfl, rfl, trivial⟩ ⟨Nat.zero_le _, h⟩ ?_
  clear h
  rintro k w e ⟨hk, h⟩
  refine Y1g ?_; refine Y2q ?_; refine qz (qk rfl (h.b 0) rfl) rfl ?_; refine Y3a ?_; refine Y4i ?_
  refine qy (decide ((k : Int) < (X.length : Int))) rfl (fun hc => ?_) (fun hc => ?_)
  ·have hlt : k < X.length := by simp at hc; omega
   have hgx := List.getElem?_eq_getElem hlt
   generalize X[k] = bx at hgx
   have hgb := List.getElem?_eq_getElem (show k / 8 < B.length by omega)
   generalize B[k / 8]'O0 = y at hgb
   have hbit := bitsB_get B k y hgb
   have hy := y.toNat_lt
   have hb1 : (b2u bx).toNat ≤ 1 := by cases bx <;> decide
   obtain ⟨g, rfl⟩ := (h.f 1).own_some O0
   obtain ⟨b, o, hsl2⟩ := (hr [_, _, _, _] _ h).some O0
   refine Yy ?_; refine Y4 ?_; refine Y3h ?_
   refine qg (.int .i64 (k : Nat)) (by rw [Int.zero_add, wrap64 O0 O0]) ?_
   refine Y6 ?_
   refine ql (jj none (fun w => St w0 (RwPt p2 (some ⟨g, 0, none⟩) X.length xc :: Own 5 1 (some ⟨g, 0, none⟩) X.length xc (bytesV (b2us X)) :: OwnU oa oc out :: RrPt p a B.length c at_ s.bad :: l) w) O2 O2 h.drew fun w h => ?_)
   refine Yg ?_; refine qu rfl rfl rfl rfl h (fun _ h => qm rfl (qk rfl (h.b 0) rfl)) ?_; refine Yj ?_
   refine cpv rfl rfl rfl rfl h rfl (qn (o' := k) rfl rfl rfl hlt O7) ?_
   refine qu rfl rfl rfl rfl h (fun w h => qm rfl (qx (v := .int .u8 (b2u bx).toNat) rfl (by have := (h.f 1).own_rd.cell (bytesV_get (b2us_get hgx)); simpa using this))) ?_
   refine Yg ?_
   refine qu rfl rfl rfl rfl h (fun _ h => qm rfl (qk (v := .slice a B.length c) rfl (h.b 3 rfl) rfl)) ?_
   refine Yj ?_
   refine cpv rfl rfl rfl rfl h rfl (qh (v' := .int .i64 ((k / 8 : Nat) : Int)) (q_quo rfl rfl O4) (by rw [show ((k : Nat) : Int).tdiv 8 = ((k / 8 : Nat) : Int) from tdiv_nat _ 8, wrap64 O0 O0])) ?_
   refine cpv rfl rfl rfl rfl h rfl (qn (b := b) (o := o) (m := B.length) (c := c) (o' := o + k / 8) (by rw [← hsl2]; rfl) rfl rfl O0 O7) ?_
   refine qu rfl rfl rfl rfl h (fun _ h => qm rfl (qx (v := .int .u8 y.toNat) rfl ((hsl2 ▸ hr [_, _, _, _] _ h).cell (bytesV_get hgb)))) ?_
   refine Yj ?_
   refine cpv rfl rfl rfl rfl h rfl (qh (v' := .int .i64 ((k % 8 : Nat) : Int)) (q_rem rfl rfl O4) (congrArg (Value.int .i64) (gz _ 8))) ?_
   refine cpv rfl rfl rfl rfl h rfl (qh (v' := .int .i64 ((7 - k % 8 : Nat) : Int)) (jm rfl rfl) O6) ?_
   refine cpv rfl rfl rfl rfl h rfl (qh (v' := .int .u64 ((7 - k % 8 : Nat) : Int)) (jb rfl) O9) ?_
   refine cpv rfl rfl rfl rfl h rfl (qh (v' := .int .u8 ((y.toNat / 2 ^ (7 - k % 8) : Nat) : Int)) (ju rfl rfl O0) (congrArg (Value.int .u8) (q9 y.toNat (7 - k % 8) _ (show 7 - k % 8 ≤ 8 by omega)))) ?_
   refine cpv rfl rfl rfl rfl h rfl (qh (v' := .int .u8 (((y.toNat.testBit (7 - k % 8)).toNat : Nat) : Int)) (q_and rfl rfl) (by
    rw [show bitOp .and .u8 ((y.toNat / 2 ^ (7 - k % 8) : Nat) : Int) 1 = ((y.toNat / 2 ^ (7 - k % 8) &&& 1 : Nat) : Int) from (bit_u8 (Nat.lt_of_le_of_lt (Nat.div_le_self _ _) hy) O4).1, Nat.and_one_is_mod, testBit_toNat])) ?_
   refine cpv rfl rfl rfl rfl h rfl (q_neq rfl rfl) ?_
   refine qi ?_
   generalize y.toNat.testBit (7 - k % 8) = by_ at hbit ⊢
   refine qy (((b2u bx).toNat : Int) != (by_.toNat : Int)) rfl (fun hc => ?_) (fun hc => ?_)
   ·refine Y26 ?_
    refine qq (qv (bq2 (none_ok ?_ h.drop.drop.drop.drop)))
    intro V r h1 h2 h3
    obtain ⟨_, k2, _⟩ := hyp2 V r h1 h2 h3
    rw [k2, List.getElem?_append_left hlt, hgx] at hbit
    rw [Option.some.inj hbit, b2u_nat] at hc
    simp at hc
   ·refine Y4q ?_
    refine qg (.int .i64 ((k + 1 : Nat) : Int)) O5 ?_
    refine Y2 ?_
    exact qq ⟨k + 1, ⟨rfl, rfl, rfl, rfl, rfl, trivial⟩, ⟨hlt, h⟩, by omega⟩
  ·exact qd ⟨(), ⟨rfl, trivial⟩, h.x [0, 1, 3]⟩
 clear h
 rintro ⟨⟩ w e h
 refine Y5 ?_; refine Y1f ?_
 exact qq (qv (bq2 ⟨true, out, oa, oc, rfl, hlt64, fun V r h1 h2 h3 => ⟨rfl, (hyp2 V r h1 h2 h3).1⟩, h⟩))
theorem ref1_SameWords {a1 a2 : Option Addr} {c1 c2 : Nat} {L1 L2 : List Nat} (hr1 : Reads w0 l 1 a1 L1.length (u64V L1)) (hr2 : Reads w0 l 1 a2 L2.length (u64V L2)) (hn : L1.length < 9223372036854775807) (h : St w0 l w) :
  Ret Tryz.prog 209 [.slice a1 L1.length c1, .slice a2 L2.length c2] w fun v w' => v = .bool (decide (L1 = L2)) ∧ St w0 l w' := by
 refine enter Tryz.func209 rfl Tryz.results209 Tryz.ntmps209 rfl ?_
 refine Y2a ?_; refine Y1w ?_; refine Y1r ?_; refine Y2y ?_; refine Y3 ?_
 refine qy ((L1.length : Int) != (L2.length : Int)) rfl (fun hc => ?_) (fun hc => ?_)
 ·refine Y3t ?_
  refine qq (qv (bq1 ⟨?_, h⟩))
  have : L1 ≠ L2 := by rintro rfl; simp at hc
  exact congrArg Value.bool (decide_eq_false this).symm
 have hnn : L1.length = L2.length := by rw [bne_eq_false_iff_eq] at hc; omega
 refine Yh ?_
 refine qo (Γ := Unit) (fun _ => []) (fun _ w => L1 = L2 ∧ St w0 l w) ?_ ?_
 ·refine Y17 ?_
  refine qc (Γ := Nat) (fun k => [(0, .slice a1 L1.length c1), (1, .slice a2 L2.length c2), (5, .int .i64 k)]) (fun k w => k ≤ L1.length ∧ L1.take k = L2.take k ∧ St w0 l w) (fun k => L1.length - k) 0 ⟨rfl, rfl, rfl, trivial⟩ ⟨Nat.zero_le _, by simp, h⟩ ?_
  clear h
  rintro k w e ⟨hk, hpre, h⟩
  refine Y2n ?_
  refine qy (decide ((k : Int) < (L1.length : Int))) rfl (fun hc => ?_) (fun hc => ?_)
  ·have hlt : k < L1.length := by simp at hc; omega
   have hg1 := List.getElem?_eq_getElem hlt
   have hg2 := List.getElem?_eq_getElem (show k < L2.length by omega)
   generalize L1[k] = x at hg1
   generalize L2[k]'O0 = y at hg2
   obtain ⟨b1, o1, hsl1⟩ := (hr1.at_ h).some O0
   obtain ⟨b2, o2, hsl2⟩ := (hr2.at_ h).some O0
   refine Yy ?_
   refine ql (jj none (fun w => St w0 l w) O2 O2 h.drew fun w h => ?_)
   refine Yq ?_
   refine cpv rfl rfl rfl rfl h rfl (qn (b := b1) (o := o1) (m := L1.length) (c := c1) (o' := o1 + k) (by rw [← hsl1]; rfl) rfl rfl hlt O7) ?_
   refine qu rfl rfl rfl rfl h (fun w h => qm rfl (qx (v := .int .u64 x) rfl ((hsl1 ▸ hr1.at_ h).cell (u64V_get hg1)))) ?_
   refine Yq ?_
   refine cpv rfl rfl rfl rfl h rfl (qn (b := b2) (o := o2) (m := L2.length) (c := c2) (o' := o2 + k) (by rw [← hsl2]; rfl) rfl rfl O0 O7) ?_
   refine qu rfl rfl rfl rfl h (fun w h => qm rfl (qx (v := .int .u64 y) rfl ((hsl2 ▸ hr2.at_ h).cell (u64V_get hg2)))) ?_
   refine cpv rfl rfl rfl rfl h rfl (q_neq rfl rfl) ?_
   refine qi ?_
   refine qy ((x : Int) != (y : Int)) rfl (fun hc => ?_) (fun hc => ?_)
   ·refine Y3t ?_
    refine qq (qv (bq1 ⟨?_, h⟩))
    have : L1 ≠ L2 := by
     rintro rfl
     rw [hg1] at hg2
     cases hg2
     simp at hc
    exact congrArg Value.bool (decide_eq_false this).symm
   ·have hxy : x = y := by rw [bne_eq_false_iff_eq] at hc; omega
    refine Y4q ?_
    refine qg (.int .i64 ((k + 1 : Nat) : Int)) O5 ?_
    refine Y2 ?_
    exact qq ⟨k + 1, ⟨rfl, rfl, rfl, trivial⟩, ⟨hlt, by rw [List.take_add_one, List.take_add_one, hg1, hg2, hpre, hxy], h⟩, by omega⟩
  ·obtain rfl : k = L1.length := by simp at hc; omega
   rw [List.take_length, hnn, List.take_length] at hpre
   exact qd ⟨(), trivial, hpre, h⟩
 clear h
 rintro ⟨⟩ w e ⟨he, h⟩
 rw [decide_eq_true he]
 refine Y3t ?_
 exact qq (qv (bq1 ⟨rfl, h⟩))
end
end Go.Proofs.YtnnehiiblfmpnaaGreatDoor

namespace Go.Hw
def getsL : Nat → Nat → RS → List Nat
 | 0, _, _ => []
 | k + 1, wide, s => (s.get wide).1 :: getsL k wide (s.get wide).2
theorem getsL_len : ∀ (k wide : Nat) (s : RS), (getsL k wide s).length = k
 | 0, _, _ => rfl
 | k + 1, wide, s => by rw [getsL, List.length_cons, getsL_len]
theorem getsL_lt {wide : Nat} (hw : wide ≤ 64) : ∀ (k : Nat) (s : RS), ∀ x ∈ getsL k wide s, x < 18446744073709551616
 | 0, _, x, h => by cases h
 | k + 1, s, x, h => by
  rw [getsL] at h
  rcases List.mem_cons.1 h with rfl | h
  ·exact Nat.lt_of_lt_of_le (RS.get_lt s wide) (Nat.pow_le_pow_right (n := 2) O4 hw)
  ·exact getsL_lt hw k _ x h
theorem getAll_gets : ∀ (k wide : Nat) (s : RS) (ys : List Nat), getAll k wide s = some ys → getsL k wide s = ys
 | 0, _, _, ys, h => by cases h; rfl
 | k + 1, wide, s, ys, h => by
  rw [getAll] at h
  split at h
  ·cases h
  ·obtain ⟨y, h1, rfl⟩ := Option.map_eq_some_iff.1 h
   rw [getsL, getAll_gets k wide _ y h1]
end Go.Hw
namespace Go.Proofs.YtnnehiiblfmpnaaGreatDoor
open Go.Hw
set_option maxHeartbeats 4000000
set_option maxRecDepth 100000
section
variable {w0 w : World} {l : List HProp}
theorem ref1_Zag {u : Nat} (hu : u < 18446744073709551616) (h : St w0 l w) : Ret Tryz.prog 117 [.int .u64 (u : Int)] w fun v w' => v = .int .i64 (sg (zagU u)) ∧ St w0 l w' := by
 refine enter Tryz.func117 rfl Tryz.results117 Tryz.ntmps117 rfl ?_
 refine Yf ?_
 have hb : bitOp .and .u64 (u : Int) 1 = ((u % 2 : Nat) : Int) := by
  have := (jv hu (by decide : (1 : Nat) < 18446744073709551616)).1
  rw [Nat.and_one_is_mod] at this
  exact this
 refine Y1g ?_; refine Y33 ?_
 refine qg (.int .u64 ((u % 2 : Nat) : Int)) (by rw [hb]) ?_
 refine Yd ?_
 by_cases hp : u % 2 = 1
 ·refine qg (.bool true) (by rw [hp]; rfl) ?_
  refine Yk ?_; refine Y4 ?_
  refine qz (qh (v' := .int .u64 ((u / 2 : Nat) : Int)) (ju rfl rfl O0) (congrArg (Value.int .u64) (q9 u 1 64 O4))) rfl ?_
  refine Yb ?_
  refine qg (.int .i64 ((u / 2 : Nat) : Int)) O13 ?_
  refine qz (q_neg rfl) rfl ?_
  refine qg (.int .i64 (-((u / 2 : Nat) : Int))) O6 ?_
  refine Y1p ?_
  refine qg (.int .i64 (sg (zagU u))) (by rw [wrap64 O0 O0]; congr 1; rw [show zagU u = 18446744073709551615 - u / 2 by unfold zagU; rw [if_neg O0]]; unfold sg; split <;> omega) ?_
  refine Y2 ?_
  exact qq (qv (bq1 ⟨rfl, h⟩))
 ·refine qg (.bool false) O3 ?_
  refine Y9 ?_; refine Y4 ?_
  refine qz (qh (v' := .int .u64 ((u / 2 : Nat) : Int)) (ju rfl rfl O0) (congrArg (Value.int .u64) (q9 u 1 64 O4))) rfl ?_
  refine Yb ?_
  refine qg (.int .i64 (sg (zagU u))) (by rw [wrap64 O0 O0]; congr 1; rw [show zagU u = u / 2 by unfold zagU; rw [if_pos O0]]; unfold sg; split <;> omega) ?_
  refine Y2 ?_
  exact qq (qv (bq1 ⟨rfl, h⟩))
theorem ref4_unpack {sl : Option Addr} {c : Nat} {B : List UInt8} {n wide : Nat} (hn : n ≤ 65535) (hw : wide ≤ 64) (hB : B.length ≤ 140737488355328) (hr : Reads w0 l 1 sl B.length (bytesV B)) (h : St w0 l w) :
  Ret Tryz.prog 210 [.slice sl B.length c, .int .i64 (n : Int), .int .i64 (wide : Int)] w fun v w' => ∃ a c', v = .slice a (getsL n wide ⟨bitsB B, false⟩).length c' ∧ St w0 (OwnU a c' (getsL n wide ⟨bitsB B, false⟩) :: l) w' := by
 refine enter Tryz.func210 rfl Tryz.results210 Tryz.ntmps210 rfl ?_
 refine Yn ?_; refine Y5 ?_; refine qz (qe rfl) rfl ?_
 refine qw rfl (jy h rfl fun p w h => ?_)
 replace h : St w0 (RrS p sl c B ⟨bitsB B, false⟩ :: l) w := by
  show St w0 (RrPt p sl B.length c (8 * B.length - (bitsB B).length) false :: l) w
  rw [bitsB_len, Nat.sub_self]; exact h
 refine Y1d ?_; refine Yn ?_; refine Y2w ?_
 have hs := Suf.all B
 generalize (⟨bitsB B, false⟩ : RS) = s0 at h hs ⊢
 refine qc (Γ := Nat × List Nat × RS × Option Addr × Nat) (fun k => [(1, .int .i64 n), (2, .int .i64 wide), (7, .pointer (some ⟨p, 0, none⟩)), (8, .slice k.2.2.2.1 k.2.1.length k.2.2.2.2), (9, .int .i64 k.1)])
  (fun k w => k.1 ≤ n ∧ k.2.1.length = k.1 ∧ getsL n wide s0 = k.2.1 ++ getsL (n - k.1) wide k.2.2.1 ∧ Suf B k.2.2.1 ∧ St w0 (OwnU k.2.2.2.1 k.2.2.2.2 k.2.1 :: RrS p sl c B k.2.2.1 :: l) w)
  (fun k => n - k.1) (0, [], s0, none, 0) ⟨rfl, rfl, rfl, rfl, rfl, trivial⟩ ⟨Nat.zero_le _, rfl, rfl, hs, St.ownNil _ _ h⟩ ?_
 clear h hs
 rintro ⟨i, out, s, oa, oc⟩ w e ⟨hi, hol, inv, hs, h⟩
 dsimp only at hi hol inv hs h ⊢
 refine Y31 ?_; refine Ys ?_
 by_cases hlt : i < n
 ·refine qg (.bool true) O1 ?_
  refine Y4o ?_; refine Y45 ?_; refine Y1x ?_; refine Y0 ?_
  refine qw rfl (qj rfl (rr_Get (wide : Int) hs hB hr.cons (h.f 1)) ?_)
  rw [heldN_nat hw]
  rintro _ w ⟨rfl, h⟩
  rw [show n - i = (n - (i + 1)) + 1 by omega, getsL] at inv
  refine jo (v := .int .u64 ((s.get wide).1 : Nat)) (m3 := (out ++ [(s.get wide).1]).length) (zs := u64V (out ++ [(s.get wide).1])) (h.f 1) rfl rfl rfl rfl rfl O7 O22 O1 O1 rfl rfl rfl rfl rfl fun b2 a2 c2 w _ h => ?_
  refine Y42 ?_
  refine qg (.int .i64 ((i + 1 : Nat) : Int)) O5 ?_
  refine Y2 ?_
  exact qq ⟨(i + 1, out ++ [(s.get wide).1], (s.get wide).2, a2, c2), ⟨rfl, rfl, rfl, rfl, rfl, trivial⟩, ⟨hlt, by simp; omega, by rw [inv]; simp, hs.get _, h⟩, by dsimp only; omega⟩
 ·refine qg (.bool false) O1 ?_
  refine Y11 ?_
  have hin : i = n := by omega
  rw [hin, Nat.sub_self, getsL, List.append_nil] at inv
  refine qd ?_
  refine Y5 ?_; refine Yx ?_
  refine qq (qv (bq1 ⟨oa, oc, ?_, ?_⟩))
  ·rw [inv]; rfl
  ·rw [inv]; exact (h.f 1).drop
theorem Told.nil {n : Nat} {bs : List UInt8} {D : Option (List Nat)} (hn0 : n = 0) (hD : D = if bs = [] then some [] else none) (h : St w0 l w) : Told w0 l n D (.tuple [.slice none 0 0, .bool (decide (bs = []))].toArray) w :=
 ⟨none, 0, [], decide (bs = []), rfl, (by rw [hD]; by_cases hb : bs = [] <;> simp [hb]), fun _ => ⟨hn0.symm, (fun _ h => by cases h)⟩, St.ownNil _ _ h⟩
theorem ref4_GetRuns {sl : Option Addr} {c : Nat} {bs : List UInt8} {n : Nat} (hn : n ≤ 65535) (hbn : bs.length ≤ 140737488355328) (hc : bs.length ≤ c) (hr : Reads w0 l 1 sl bs.length (bytesV bs)) (h : St w0 l w) :
  Ret Tryz.prog 164 [.slice sl bs.length c, .int .i64 (n : Int)] w fun v w' => Told w0 l n (runsDec bs n) v w' := by
 refine enter Tryz.func164 rfl Tryz.results164 Tryz.ntmps164 rfl ?_
 refine Y39 ?_
 refine qw rfl (qj rfl (ref4_held n h) ?_)
 rw [askN_nat hn]
 rintro _ w ⟨rfl, h⟩
 refine Y6 ?_; refine Y4d ?_; refine Yn ?_; refine Y1y ?_
 refine qc (Γ := List UInt8 × Option Addr × Nat × Nat × List Nat × Option Addr × Nat) (fun k => [(1, .int .i64 n), (6, .slice k.2.1 k.1.length k.2.2.1), (7, .slice k.2.2.2.2.2.1 k.2.2.2.2.1.length k.2.2.2.2.2.2)])
  (fun k w => k.1.length ≤ bs.length ∧ k.1.length ≤ k.2.2.2.1 ∧ k.1.length ≤ k.2.2.1 ∧ k.2.2.2.2.1.length ≤ n ∧ (∀ x ∈ k.2.2.2.2.1, x < 18446744073709551616) ∧ runsDec bs n = (runsDecA k.2.2.2.1 k.1 (n - k.2.2.2.2.1.length) k.2.2.2.2.1.getLast?).map (fun r => k.2.2.2.2.1 ++ r) ∧ Reads w0 l 1 k.2.1 k.1.length (bytesV k.1) ∧ St w0 (OwnU k.2.2.2.2.2.1 k.2.2.2.2.2.2 k.2.2.2.2.1 :: l) w)
  (fun k => k.1.length) (bs, sl, c, bs.length, [], none, 0) ⟨rfl, rfl, rfl, trivial⟩ ⟨Nat.le_refl _, Nat.le_refl _, hc, Nat.zero_le _, (fun _ h => by cases h), (by simp [runsDec]), hr, St.ownNil _ _ h⟩ ?_
 clear h hr hc
 rintro ⟨b, ba, bc, f, out, oa, oc⟩ w e ⟨hbl, hbf, hc, hol, hout, inv, hr, h⟩
 dsimp only at hbl hbf hc hol hout inv hr h ⊢
 refine Y1w ?_; refine Y1q ?_; refine Y3 ?_
 refine qy (decide ((b.length : Int) > 0)) rfl (fun hcc => ?_) (fun hcc => ?_)
 ·have hpos : 0 < b.length := by simp at hcc; omega
  have hne : b ≠ [] := List.length_pos_iff.1 hpos
  cases f with
  | zero => omega
  | succ f =>
  rw [runsDecA_step hne] at inv
  have hk := ja b
  have hm := jp b
  refine Y3x ?_; refine Y5 ?_
  refine qw rfl (qj rfl (ref1_Get h hr.cons O0) ?_)
  rintro _ w ⟨rfl, h⟩
  refine Y2l ?_
  generalize (vget b).1 = many at hm inv ⊢
  generalize (vget b).2 = i at hk inv ⊢
  have hrt := hr.tailB hk hc
  have hk2 := ja (b.drop i)
  have hx := jp (b.drop i)
  refine Yo ?_
  refine qz (jh (i := i) rfl rfl hk) rfl ?_
  show Rn _ _ _ _ _ (upd _ _ (.slice (adv ba (i * 1) (Nat.beq bc i)) (b.length - i) (bc - i))) _
  rw [← List.length_drop]
  refine Ym ?_; refine Y5 ?_
  refine qw rfl (qj rfl (ref1_Get h hrt.cons O15) ?_)
  rintro _ w ⟨rfl, h⟩
  refine Y2l ?_
  generalize (vget (b.drop i)).1 = x at hx inv ⊢
  generalize (vget (b.drop i)).2 = k at hk2 inv ⊢
  have hrt2 := hrt.tailB (i := k) (c := bc - i) hk2 O15
  rw [List.drop_drop] at hrt2
  refine Yo ?_
  refine qz (jh (i := k) rfl rfl hk2) rfl ?_
  show Rn _ _ _ _ _ (upd _ _ (.slice (adv (adv ba (i * 1) (Nat.beq bc i)) (k * 1) (Nat.beq (bc - i) k)) ((b.drop i).length - k) (bc - i - k))) _
  rw [← List.length_drop, List.drop_drop]
  refine Ym ?_
  rw [List.length_drop] at hk2
  refine qo (Γ := Unit) (fun _ => [(1, .int .i64 n), (6, .slice (adv (adv ba (i * 1) (Nat.beq bc i)) (k * 1) (Nat.beq (bc - i) k)) (b.drop (i + k)).length (bc - i - k)), (7, .slice oa out.length oc), (8, .int .u64 many), (10, .int .u64 x)])
   (fun _ w => ¬ (i = 0 ∨ k = 0 ∨ many = 0 ∨ n - out.length < many ∨ out.getLast? = some x) ∧ St w0 (OwnU oa oc out :: l) w) ?_ ?_
  ·have bad : ∀ {w : World}, (i = 0 ∨ k = 0 ∨ many = 0 ∨ n - out.length < many ∨ out.getLast? = some x) → St w0 (OwnU oa oc out :: l) w → Told w0 l n (runsDec bs n) (.tuple [.slice none 0 0, .bool false].toArray) w := fun hb h => Told.no (by rw [inv, if_pos hb]; rfl) h.drop
   refine Y1 ?_
   by_cases g1 : i = 0
   ·refine Y0 ?_
    refine qz (qh (v' := .bool true) (jg rfl rfl) O37) rfl ?_
    refine Y4f ?_; refine Y2b ?_; refine Y2d ?_; refine Y16 ?_; refine Y32 ?_; refine Y32 ?_; refine Y2c ?_
    exact qq (qv (bq2 (bad (.inl g1) h)))
   refine Y0 ?_
   refine qz (qh (v' := .bool false) (jg rfl rfl) O3) rfl ?_
   refine Y10 ?_
   by_cases g2 : k = 0
   ·refine qz (qh (v' := .bool true) (jg rfl rfl) (by rw [g2]; rfl)) rfl ?_
    refine Y8 ?_; refine Y3d ?_; refine Y2b ?_; refine Y2d ?_; refine Y16 ?_; refine Y32 ?_; refine Y32 ?_; refine Y2c ?_
    exact qq (qv (bq2 (bad (.inr (.inl g2)) h)))
   refine qz (qh (v' := .bool false) (jg rfl rfl) O3) rfl ?_
   refine Y2r ?_
   by_cases g3 : many = 0
   ·refine qz (qh (v' := .bool true) (jg rfl rfl) (by rw [g3]; rfl)) rfl ?_
    refine Y8 ?_; refine Y2b ?_; refine Y2d ?_; refine Y16 ?_; refine Y32 ?_; refine Y32 ?_; refine Y2c ?_
    exact qq (qv (bq2 (bad (.inr (.inr (.inl g3))) h)))
   refine qz (qh (v' := .bool false) (jg rfl rfl) O3) rfl ?_
   refine Y2r ?_; refine Y1k ?_; refine Y4s ?_
   refine qz (qh (v' := .int .i64 ((n - out.length : Nat) : Int)) (jm rfl rfl) O6) rfl ?_
   refine Y7 ?_
   refine qz (qh (v' := .int .u64 ((n - out.length : Nat) : Int)) (jb rfl) (congrArg (Value.int .u64) (gu O0))) rfl ?_
   refine Y7 ?_
   by_cases g4 : n - out.length < many
   ·refine qz (qh (v' := .bool true) (gn rfl rfl) O17) rfl ?_
    refine Y8 ?_; refine Y16 ?_; refine Y32 ?_; refine Y32 ?_; refine Y2c ?_
    exact qq (qv (bq2 (bad (.inr (.inr (.inr (.inl g4)))) h)))
   refine qz (qh (v' := .bool false) (gn rfl rfl) O17) rfl ?_
   refine Y8 ?_; refine Y36 ?_
   by_cases g0 : out.length = 0
   ·have ho : out = [] := List.eq_nil_of_length_eq_zero g0
    refine qz (qh (v' := .bool false) (gn rfl rfl) (by rw [g0]; rfl)) rfl ?_
    refine Y7 ?_; refine Y2b ?_; refine Y54 ?_; refine Y7 ?_; refine Y8 ?_; refine Y8 ?_; refine Y11 ?_
    refine qr ⟨(), ⟨rfl, rfl, rfl, rfl, rfl, trivial⟩, ?_, h⟩
    rw [ho]
    simp
    rw [ho] at g4
    simp at g4
    omega
   ·refine qz (qh (v' := .bool true) (gn rfl rfl) O17) rfl ?_
    have hgl := List.getElem?_eq_getElem (show out.length - 1 < out.length by omega)
    have hlast : out.getLast? = some (out[out.length - 1]'O0) := by rw [List.getLast?_eq_getElem?, hgl]
    generalize out[out.length - 1]'O0 = z at hgl hlast
    obtain ⟨bo, hosl⟩ := h.own_some O0
    refine Y7 ?_; refine Y2f ?_; refine Y4s ?_
    refine qz (qh (v' := .int .i64 ((out.length - 1 : Nat) : Int)) (jm rfl rfl) O6) rfl ?_
    refine Y7 ?_
    refine qz (qn (b := bo) (o := 0) (m := out.length) (c := oc) (o' := out.length - 1) (by rw [← hosl]; rfl) rfl rfl O0 O7) rfl ?_
    refine Y7 ?_
    refine qz (qx (v := .int .u64 z) rfl (by have := (hosl ▸ h.own_rd).cell (u64V_get hgl); simpa using this)) rfl ?_
    refine Y7 ?_; refine Y1k ?_; refine Yd ?_; refine Y47 ?_
    refine qq (qy ((z : Int) == (x : Int)) rfl (fun hc1 => ?_) (fun hc1 => ?_))
    ·refine Y26 ?_
     exact qq (qv (bq2 (bad (.inr (.inr (.inr (.inr (by rw [hlast]; congr 1; rw [beq_iff_eq] at hc1; omega))))) h)))
    ·refine qr ⟨(), ⟨rfl, rfl, rfl, rfl, rfl, trivial⟩, ?_, h⟩
     rw [beq_eq_false_iff_ne] at hc1
     rintro (h | h | h | h | h)
     ·omega
     ·omega
     ·omega
     ·omega
     ·rw [hlast] at h; cases h; exact hc1 rfl
  clear h
  rintro _ w e ⟨hcond, h⟩
  rw [if_neg hcond] at inv
  have hmn : many ≤ n - out.length := by omega
  have hik : i + k ≤ b.length := by omega
  refine Ya ?_
  generalize adv (adv ba (i * 1) (Nat.beq bc i)) (k * 1) (Nat.beq (bc - i) k) = ba2 at hrt2 ⊢
  refine qc (Γ := Nat × Option Addr × Nat) (fun q => [(1, .int .i64 n), (6, .slice ba2 (b.drop (i + k)).length (bc - i - k)), (7, .slice q.2.1 (out ++ List.replicate q.1 x).length q.2.2), (8, .int .u64 (many - q.1 : Nat)), (10, .int .u64 x)])
   (fun q w => q.1 ≤ many ∧ St w0 (OwnU q.2.1 q.2.2 (out ++ List.replicate q.1 x) :: l) w) (fun q => many - q.1) (0, oa, oc) ⟨rfl, rfl, (by show Value.slice _ _ _ = Value.slice _ _ _; simp), rfl, rfl, trivial⟩ ⟨Nat.zero_le _, by simpa using h⟩ ?_
  clear h
  rintro ⟨j, oa, oc⟩ w e ⟨hj, h⟩
  dsimp only at hj h ⊢
  refine Y1g ?_; refine Y1q ?_; refine Y3 ?_
  refine qy (decide (((many - j : Nat) : Int) > 0)) rfl (fun hc1 => ?_) (fun hc1 => ?_)
  ·have hlt : j < many := by simp at hc1; omega
   have hstep : out ++ List.replicate (j + 1) x = out ++ List.replicate j x ++ [x] := by rw [List.replicate_succ', List.append_assoc]
   refine Yy ?_; refine Y29 ?_
   refine jo (v := .int .u64 (x : Int)) (m3 := (out ++ List.replicate (j + 1) x).length) (zs := u64V (out ++ List.replicate (j + 1) x)) h rfl rfl rfl rfl rfl O21 (by rw [hstep]; simp [u64V, vcells]) O1 O1 rfl rfl rfl rfl rfl fun b2 a2 c2 w _ h => ?_
   refine Y4k ?_; refine Y1p ?_
   refine qg (.int .u64 ((many - (j + 1) : Nat) : Int)) (by rw [show ((many - j : Nat) : Int) - 1 = ((many - (j + 1) : Nat) : Int) by omega, g9, Nat.mod_eq_of_lt O0]) ?_
   refine Y2 ?_
   exact qq ⟨(j + 1, a2, c2), ⟨rfl, rfl, rfl, rfl, rfl, trivial⟩, ⟨hlt, h⟩, by dsimp only; omega⟩
  have hjm : j = many := by simp at hc1; omega
  subst hjm
  refine qd ⟨(b.drop (i + k), ba2, bc - i - k, f, out ++ List.replicate j x, oa, oc), ⟨rfl, rfl, rfl, trivial⟩, ⟨by dsimp only; rw [List.length_drop]; omega, by dsimp only; rw [List.length_drop]; omega, by dsimp only; rw [List.length_drop]; omega, by dsimp only; rw [List.length_append, List.length_replicate]; omega, fun z hz => ?_, ?_, hrt2, h⟩, by dsimp only; rw [List.length_drop]; omega⟩
  ·rcases List.mem_append.1 hz with hz | hz
   ·exact hout z hz
   ·rw [(List.mem_replicate.1 hz).2]; exact hx
  ·rw [inv, getLast?_rep out O0, List.length_append, List.length_replicate, Option.map_map, Nat.sub_sub]
   congr 1
   funext r
   simp
 have hb0 : b = [] := List.eq_nil_of_length_eq_zero (by rw [decide_eq_false_iff_not] at hcc; omega)
 subst hb0
 have inv : runsDec bs n = (if n - out.length = 0 then some [] else none).map (fun r => out ++ r) := by
  rw [inv]
  cases f <;> rfl
 refine qd ?_
 refine Y1w ?_; refine Y0 ?_; refine Y2y ?_
 by_cases hon : out.length = n
 ·refine qg (.bool false) (by rw [hon]; simp) ?_
  refine Y9 ?_; refine Y4c ?_
  exact qv (bq2 ⟨oa, oc, out, true, rfl, by rw [inv, if_pos O0]; simp, fun _ => ⟨hon, hout⟩, h⟩)
 ·refine qg (.bool true) O18 ?_
  refine Y2t ?_
  exact qv (bq2 (Told.no (by rw [inv, if_neg O0]; rfl) h.drop))
end
end Go.Proofs.YtnnehiiblfmpnaaGreatDoor

namespace Go.Hw
theorem half_set (f : Nat → Nat) (U : List Nat) {k z : Nat} (h : U[k]? = some z) : ((U.take k).map f ++ U.drop k).set k (f z) = (U.take (k + 1)).map f ++ U.drop (k + 1) := by
 have hk := (List.getElem?_eq_some_iff.1 h).1
 have hz := (List.getElem?_eq_some_iff.1 h).2
 have hl : ((U.take k).map f).length = k := by simp; omega
 rw [List.set_append_right _ _ O0, hl, Nat.sub_self, List.drop_eq_getElem_cons hk, List.set_cons_zero, List.take_add_one, h]
 simp
theorem half_get (f : Nat → Nat) (U : List Nat) {k z : Nat} (h : U[k]? = some z) : ((U.take k).map f ++ U.drop k)[k]? = some z := by
 have hk := (List.getElem?_eq_some_iff.1 h).1
 have hl : ((U.take k).map f).length = k := by simp; omega
 rw [List.getElem?_append_right O0, hl, Nat.sub_self, List.getElem?_drop, Nat.add_zero, h]
theorem strB_eq (a b : List UInt8) : ((strB a).data.toList == (strB b).data.toList) = decide (a = b) := by
 show (a.toArray.toList == b.toArray.toList) = _
 by_cases h : a = b
 ·subst h; simp
 ·simp [h]
theorem pickAll_none {l : List Nat} : ∀ (at_ : List Nat) (a : Nat), a ∈ at_ → l.length ≤ a → pickAll l at_ = none
 | x :: r, a, h, hl => by
  rw [pickAll]
  rcases List.mem_cons.1 h with rfl | h
  ·rw [List.getElem?_eq_none hl]
  ·split
   ·rfl
   ·rw [pickAll_none r a h hl]; rfl
theorem pickAll_map {l : List Nat} : ∀ (at_ : List Nat), (∀ a ∈ at_, a < l.length) → pickAll l at_ = some (at_.map fun a => l.getD a 0)
 | [], _ => rfl
 | x :: r, h => by
  have hx := h x (List.mem_cons_self ..)
  rw [pickAll, List.getElem?_eq_getElem hx]
  dsimp only
  rw [pickAll_map r fun a ha => h a (List.mem_cons_of_mem _ ha), Option.map_some, List.map_cons, List.getD, List.getElem?_eq_getElem hx]
  rfl
theorem simpDec_loose {ws : List Nat} {n : Nat} : simpDec ws n = if (looseA ws n).length = n ∧ simpEnc (looseA ws n) = some ws then some (looseA ws n) else none := by
 unfold simpDec
 cases hD : simpDecA ws n with
 | none =>
  dsimp only
  rw [if_neg]
  rintro ⟨h1, h2⟩
  have := (simpDecA_told _ _ ws (Nat.le_refl _) h2).1
  rw [h1, hD] at this
  cases this
 | some x =>
  rw [looseA_of ws n x hD]
theorem looseA_le : ∀ (ws : List Nat) (room : Nat), (looseA ws room).length ≤ room
 | [], _ => Nat.zero_le _
 | x :: ws, room => by
  rw [looseA]
  split
  ·exact Nat.zero_le _
  ·rw [List.length_append, unpackW_len]
   have := looseA_le ws (room - min (kindsL.getD (x / 1152921504606846976) (0, 0)).1 room)
   omega
end Go.Hw
namespace Go.Proofs.YtnnehiiblfmpnaaGreatDoor
open Go.Hw
set_option maxHeartbeats 4000000
set_option maxRecDepth 100000
section
variable {w0 w : World} {l : List HProp}
theorem ref4_GetFrame {sl : Option Addr} {c : Nat} {bs : List UInt8} {n : Nat} (hn : n ≤ 65535) (hbn : bs.length ≤ 140737488355328) (hc : bs.length ≤ c) (hr : Reads w0 l 1 sl bs.length (bytesV bs)) (h : St w0 l w) :
  Ret Tryz.prog 165 [.slice sl bs.length c, .int .i64 (n : Int)] w fun v w' => Told w0 l n (frameDec bs n) v w' := by
 have hdef : frameDec bs n = _ := rfl
 conv at hdef => rhs; unfold frameDec
 refine enter Tryz.func165 rfl Tryz.results165 Tryz.ntmps165 rfl ?_
 refine Y39 ?_
 refine qw rfl (qj rfl (ref4_held n h) ?_)
 rw [askN_nat hn]
 rintro _ w ⟨rfl, h⟩
 refine Y6 ?_; refine Y2s ?_
 by_cases hn0 : n = 0
 ·refine qg (.bool true) (by rw [hn0]; rfl) ?_
  refine Yk ?_; refine Y21 ?_; refine Yd ?_
  refine qg (.bool (decide (bs = []))) O40 ?_
  refine Y1f ?_
  refine qq (qv (bq2 (Told.nil hn0 (by rw [hdef, if_pos hn0]) h)))
 refine qg (.bool false) O3 ?_
 refine Y9 ?_
 rw [if_neg hn0] at hdef
 have hk := ja bs
 have hm := jp bs
 refine Y5 ?_
 refine qw rfl (qj rfl (ref1_Get h hr hbn) ?_)
 rintro _ w ⟨rfl, h⟩
 refine Y2l ?_
 generalize (vget bs).1 = least at hm hdef ⊢
 generalize (vget bs).2 = i at hk hdef ⊢
 refine qo (Γ := UInt8) (fun _ => [(0, .slice sl bs.length c), (1, .int .i64 n), (6, .int .u64 least), (7, .int .i64 i)])
  (fun q w => bs[i]? = some q ∧ q.toNat ≤ 64 ∧ i ≠ 0 ∧ St w0 l w) ?_ ?_
 ·refine Y1 ?_
  by_cases g1 : i = 0
  ·refine Y0 ?_
   refine qz (qh (v' := .bool true) (jg rfl rfl) O37) rfl ?_
   refine Y2g ?_; refine Y16 ?_; refine Y2c ?_
   exact qq (qv (bq2 (Told.no (by rw [hdef, if_pos g1]) h)))
  rw [if_neg g1] at hdef
  refine Y0 ?_
  refine qz (qh (v' := .bool false) (jg rfl rfl) O3) rfl ?_
  refine Y10 ?_; refine Y4s ?_
  by_cases g2 : i = bs.length
  ·refine qz (qh (v' := .bool true) (q_geq rfl rfl) (by rw [g2]; simp)) rfl ?_
   refine Y8 ?_; refine Y16 ?_; refine Y2c ?_
   exact qq (qv (bq2 (Told.no (by rw [hdef, List.getElem?_eq_none O0]) h)))
  have hil : i < bs.length := by omega
  have hg := List.getElem?_eq_getElem hil
  generalize bs[i] = q at hg
  rw [hg] at hdef
  dsimp only at hdef
  obtain ⟨b, o, hsl⟩ := (hr.at_ h).some O0
  refine qz (qh (v' := .bool false) (q_geq rfl rfl) O17) rfl ?_
  refine Y8 ?_; refine Y2f ?_; refine Y1k ?_
  refine qz (qn (b := b) (o := o) (m := bs.length) (c := c) (o' := o + i) O8 rfl rfl hil O7) rfl ?_
  refine Y7 ?_
  refine qz (qx (v := .int .u8 q.toNat) rfl ((hsl ▸ hr.at_ h).cell (bytesV_get hg))) rfl ?_
  refine Y4t ?_
  refine qq (qy (decide ((q.toNat : Int) > 64)) rfl (fun hc1 => ?_) (fun hc1 => ?_))
  ·refine Y26 ?_
   exact qq (qv (bq2 (Told.no (by rw [hdef, if_pos O24]) h)))
  ·exact qr ⟨q, ⟨rfl, rfl, rfl, rfl, trivial⟩, hg, by simp at hc1; omega, g1, h⟩
 clear h
 rintro q w e ⟨hg, hq64, hi0, h⟩
 have hil : i < bs.length := (List.getElem?_eq_some_iff.1 hg).1
 rw [if_neg hi0, hg] at hdef
 dsimp only at hdef
 rw [if_neg O0] at hdef
 have hrt := hr.tailB (i := i + 1) hil hc
 obtain ⟨b, o, hsl⟩ := (hr.at_ h).some O0
 refine qo (Γ := Option Addr × Nat) (fun k => [(0, .slice sl bs.length c), (1, .int .i64 n), (6, .int .u64 least), (8, .slice k.1 (getsL n q.toNat ⟨bitsB (bs.drop (i + 1)), false⟩).length k.2)])
  (fun k w => St w0 (OwnU k.1 k.2 (getsL n q.toNat ⟨bitsB (bs.drop (i + 1)), false⟩) :: l) w) ?_ ?_
 ·refine jj none (fun w => St w0 l w) O2 O2 h.drew fun w h => ?_
  refine Yq ?_
  refine cpv rfl rfl rfl rfl h rfl (qh (v' := .int .i64 ((i + 1 : Nat) : Int)) (ga rfl rfl) O5) ?_
  refine cpv rfl rfl rfl rfl h rfl (qh (v' := .slice (adv sl ((i + 1) * 1) (Nat.beq c (i + 1))) (bs.drop (i + 1)).length (c - (i + 1))) (jh (i := i + 1) rfl rfl hil) O38) ?_
  refine Yj ?_; refine Yq ?_
  refine cpv rfl rfl rfl rfl h rfl (qn (b := b) (o := o) (m := bs.length) (c := c) (o' := o + i) O8 rfl rfl hil O7) ?_
  refine qu rfl rfl rfl rfl h (fun w h => qm rfl (qx (v := .int .u8 q.toNat) rfl ((hsl ▸ hr.at_ h).cell (bytesV_get hg)))) ?_
  refine cpv rfl rfl rfl rfl h rfl (qh (v' := .int .i64 (q.toNat : Int)) (jb rfl) O13) ?_
  refine Yz ?_
  refine qt 10 rfl rfl rfl rfl ?_
  refine (qj rfl (ref4_unpack hn hq64 O15 hrt h) ?_)
  rintro _ w ⟨ua, uc, rfl, hs⟩
  replace h := hs.drop
  refine ⟨fun _ => h, ?_⟩
  refine Y1t ?_
  exact qi ⟨(ua, uc), ⟨rfl, rfl, rfl, rfl, trivial⟩, hs⟩
 clear h
 have hUl := getsL_len n q.toNat ⟨bitsB (bs.drop (i + 1)), false⟩
 have hU64 := getsL_lt hq64 n ⟨bitsB (bs.drop (i + 1)), false⟩
 have hga := getAll_gets n q.toNat ⟨bitsB (bs.drop (i + 1)), false⟩
 generalize getsL n q.toNat ⟨bitsB (bs.drop (i + 1)), false⟩ = U at hUl hU64 hga ⊢
 generalize getAll n q.toNat ⟨bitsB (bs.drop (i + 1)), false⟩ = G at hga hdef
 rintro ⟨ua, uc⟩ w e h
 dsimp only at h ⊢
 refine qo (Γ := Unit) (fun _ => [(0, .slice sl bs.length c), (8, .slice ua (U.map fun y => summ least y).length uc)]) (fun _ w => St w0 (OwnU ua uc (U.map fun y => summ least y) :: l) w) ?_ ?_
 ·refine Y17 ?_
  refine qc (Γ := Nat) (fun k => [(0, .slice sl bs.length c), (1, .int .i64 n), (6, .int .u64 least), (8, .slice ua U.length uc), (9, .int .i64 k)])
   (fun k w => k ≤ n ∧ St w0 (Own 30 1 ua U.length uc (u64V ((U.take k).map (fun y => summ least y) ++ U.drop k)) :: l) w) (fun k => n - k) 0 ⟨rfl, rfl, rfl, rfl, rfl, trivial⟩ ⟨Nat.zero_le _, by simpa using h⟩ ?_
  clear h
  rintro k w e ⟨hk, h⟩
  refine Y31 ?_; refine Ys ?_
  by_cases hlt : k < n
  ·refine qg (.bool true) O1 ?_
   refine Y1z ?_
   have hgz := List.getElem?_eq_getElem (show k < U.length by omega)
   generalize U[k]'O0 = z at hgz
   have hz := hU64 z (List.mem_of_getElem? hgz)
   have hgz2 := half_get (fun y => summ least y) U hgz
   have hst := half_set (fun y => summ least y) U hgz
   generalize (U.take k).map (fun y => summ least y) ++ U.drop k = X at h hgz2 hst
   obtain ⟨g, rfl⟩ := h.own_some O0
   refine Y1y ?_; refine Y29 ?_; refine Y27 ?_
   refine qz (qn (b := g) (o := 0) (m := U.length) (c := uc) (o' := k) rfl rfl rfl O0 O7) rfl ?_
   refine qz (qx (v := .int .u64 (z : Int)) rfl (by have := h.own_rd.cell (u64V_get hgz2); simpa using this)) rfl ?_
   refine Y3h ?_
   refine qg (.int .u64 (summ least z : Nat)) (by rw [← gr]; congr 2; omega) ?_
   refine qz (qn (b := g) (o := 0) (m := U.length) (c := uc) (o' := k) rfl rfl rfl O0 O7) rfl ?_
   refine qw rfl (jn (v := .int .u64 (summ least z : Nat)) h rfl rfl (by simp [u64V]; have := (List.getElem?_eq_some_iff.1 hgz2).1; omega) rfl fun w h => ?_)
   refine Y3 ?_; refine Y1b ?_
   refine qg (.int .i64 ((k + 1 : Nat) : Int)) O5 ?_
   refine Y2 ?_
   refine qq ⟨k + 1, ⟨rfl, rfl, rfl, rfl, rfl, trivial⟩, ⟨hlt, ?_⟩, by omega⟩
   rw [← hst]
   have : u64V (X.set k (summ least z)) = (u64V X).set k (.int .u64 (summ least z : Nat)) := by unfold u64V; rw [List.map_set]
   rw [this]
   exact h
  ·refine qg (.bool false) O1 ?_
   refine Y11 ?_
   rw [show k = U.length by omega, List.take_length, List.drop_length, List.append_nil] at h
   refine qd ⟨(), ⟨rfl, (by show Value.slice _ _ _ = Value.slice _ _ _; rw [List.length_map]), trivial⟩, ?_⟩
   show St w0 (Own _ 1 ua (U.map fun y => summ least y).length uc _ :: l) w
   rw [List.length_map]; exact h
 clear h
 rintro ⟨⟩ w e h
 have hml : (U.map fun y => summ least y).length = n := by rw [List.length_map, hUl]
 have hmlt : ∀ x ∈ U.map (fun y => summ least y), x < 18446744073709551616 := fun x hx => by
  obtain ⟨y, _, rfl⟩ := List.mem_map.1 hx
  exact Nat.mod_lt _ O4
 have hdef2 : frameDec bs n = if frameEnc (U.map fun y => summ least y) = bs then some (U.map fun y => summ least y) else none := by
  by_cases hE : frameEnc (U.map fun y => summ least y) = bs
  ·rw [if_pos hE, ← hE, ← hml]
   exact frameDec_told hmlt
  ·rw [if_neg hE, hdef]
   cases G with
   | none => rfl
   | some x => dsimp only; rw [← hga x rfl, if_neg hE]
 generalize U.map (fun y => summ least y) = out at hml hmlt hdef2 h ⊢
 refine ql (ql (jj none (fun w => St w0 _ w) O2 O2 h.drew fun w h => ?_))
 refine Y1i ?_; refine Yz ?_; refine Y1i ?_
 refine qu rfl rfl rfl rfl h (fun w h => qm rfl (q_btos (bs := bs) rfl (hr.cons.at_ h))) ?_
 refine Yl ?_
 refine qt 1 rfl rfl rfl rfl ?_
 refine (qj rfl (ref4_Frame hmlt O0 Reads.own h) ?_)
 rintro _ w ⟨fa, fc, rfl, hs⟩
 refine ⟨fun _ => hs.drop, ?_⟩
 refine Yz ?_
 refine qt 2 rfl rfl rfl rfl ?_
 refine x_v (q_btos (bs := frameEnc out) rfl hs.own_rd) ⟨fun _ => hs.drop, ?_⟩
 replace h := hs.drop
 refine cpv rfl rfl rfl rfl h rfl (q_strne rfl rfl) ?_
 rw [strB_eq]
 refine qi ?_
 refine qy (!decide (frameEnc out = bs)) rfl (fun hc2 => ?_) (fun hc2 => ?_)
 ·refine Y26 ?_
  exact qq (qv (bq2 (Told.no (by rw [hdef2, if_neg O32]) h.drop)))
 refine Yh ?_; refine Y5 ?_; refine Y1f ?_
 exact qq (qv (bq2 ⟨ua, uc, out, true, rfl, by rw [hdef2, if_pos O32]; rfl, fun _ => ⟨hml, hmlt⟩, h⟩))
end
end Go.Proofs.YtnnehiiblfmpnaaGreatDoor

namespace Go.Proofs.YtnnehiiblfmpnaaGreatDoor
open Go.Hw
set_option maxHeartbeats 4000000
set_option maxRecDepth 100000
section
variable {w0 w : World} {l : List HProp}
theorem ref4_GetDict {sl : Option Addr} {c : Nat} {bs : List UInt8} {n : Nat} (hn : n ≤ 65535) (hbn : bs.length ≤ 140737488355328) (hc : bs.length ≤ c) (hr : Reads w0 l 1 sl bs.length (bytesV bs)) (h : St w0 l w) :
  Ret Tryz.prog 166 [.slice sl bs.length c, .int .i64 (n : Int)] w fun v w' => Told w0 l n (dictDec bs n) v w' := by
 have hdef : dictDec bs n = _ := rfl
 conv at hdef => rhs; unfold dictDec
 refine enter Tryz.func166 rfl Tryz.results166 Tryz.ntmps166 rfl ?_
 refine Y39 ?_
 refine qw rfl (qj rfl (ref4_held n h) ?_)
 rw [askN_nat hn]
 rintro _ w ⟨rfl, h⟩
 refine Y6 ?_; refine Y2s ?_
 by_cases hn0 : n = 0
 ·refine qg (.bool true) (by rw [hn0]; rfl) ?_
  refine Yk ?_; refine Y21 ?_; refine Yd ?_
  refine qg (.bool (decide (bs = []))) O40 ?_
  refine Y1f ?_
  refine qq (qv (bq2 (Told.nil hn0 (by rw [hdef, if_pos hn0]) h)))
 refine qg (.bool false) O3 ?_
 refine Y9 ?_
 rw [if_neg hn0] at hdef
 have hk := ja bs
 have hm := jp bs
 refine Y5 ?_
 refine qw rfl (qj rfl (ref1_Get h hr hbn) ?_)
 rintro _ w ⟨rfl, h⟩
 refine Y2l ?_
 generalize (vget bs).1 = x at hm hdef ⊢
 generalize (vget bs).2 = i at hk hdef ⊢
 have hrt := hr.tailB hk hc
 have fin : ∀ {w : World}, (i = 0 ∨ x = 0 ∨ 256 < x) → St w0 l w → Told w0 l n (dictDec bs n) (.tuple [.slice none 0 0, .bool false].toArray) w := fun hb h => Told.no (by rw [hdef, if_pos hb]) h
 refine qo (Γ := Unit) (fun _ => [(0, .slice sl bs.length c), (1, .int .i64 n), (6, .int .u64 x), (7, .int .i64 i)]) (fun _ w => ¬ (i = 0 ∨ x = 0 ∨ 256 < x) ∧ St w0 l w) ?_ ?_
 ·refine Y1 ?_
  by_cases g1 : i = 0
  ·refine Y0 ?_
   refine qz (qh (v' := .bool true) (jg rfl rfl) O37) rfl ?_
   refine Y4f ?_; refine Y2e ?_
   exact qq (qv (bq2 (fin (.inl g1) h)))
  refine Y0 ?_
  refine qz (qh (v' := .bool false) (jg rfl rfl) O3) rfl ?_
  refine Y10 ?_
  by_cases g2 : x = 0
  ·refine qz (qh (v' := .bool true) (jg rfl rfl) (by rw [g2]; rfl)) rfl ?_
   refine Y8 ?_; refine Y3d ?_; refine Y2e ?_
   exact qq (qv (bq2 (fin (.inr (.inl g2)) h)))
  refine qz (qh (v' := .bool false) (jg rfl rfl) O3) rfl ?_
  refine Y2r ?_; refine Y57 ?_
  refine qq (qy (decide ((x : Int) > 256)) rfl (fun hc1 => ?_) (fun hc1 => ?_))
  ·refine Y26 ?_
   exact qq (qv (bq2 (fin (.inr (.inr O24)) h)))
  ·exact qr ⟨(), ⟨rfl, rfl, rfl, rfl, trivial⟩, by simp at hc1; omega, h⟩
 clear h
 rintro _ w e ⟨hcond, h⟩
 rw [if_neg hcond] at hdef
 refine Yo ?_
 refine qz (jh (i := i) rfl rfl hk) rfl ?_
 show Rn _ _ _ _ _ (upd _ _ (.slice (adv sl (i * 1) (Nat.beq c i)) (bs.length - i) (c - i))) _
 rw [← List.length_drop]
 refine Ym ?_; refine Yn ?_
 generalize hG : getVs x (bs.drop i) = G at hdef
 refine qo (Γ := List Nat × List UInt8 × Option Addr × Nat × Option Addr × Nat) (fun k => [(0, .slice sl bs.length c), (1, .int .i64 n), (6, .int .u64 x), (8, .slice k.2.2.1 k.2.1.length k.2.2.2.1), (9, .slice k.2.2.2.2.1 k.1.length k.2.2.2.2.2)])
  (fun k w => G = some (k.1, k.2.1) ∧ k.1.length = x ∧ (∀ y ∈ k.1, y < 18446744073709551616) ∧ k.2.1.length ≤ bs.length ∧ k.2.1.length ≤ k.2.2.2.1 ∧ Reads w0 l 1 k.2.2.1 k.2.1.length (bytesV k.2.1) ∧ St w0 (OwnU k.2.2.2.2.1 k.2.2.2.2.2 k.1 :: l) w) ?_ ?_
 ·refine Y17 ?_
  refine qc (Γ := Nat × List Nat × List UInt8 × Option Addr × Nat × Option Addr × Nat) (fun k => [(0, .slice sl bs.length c), (1, .int .i64 n), (6, .int .u64 x), (8, .slice k.2.2.2.1 k.2.2.1.length k.2.2.2.2.1), (9, .slice k.2.2.2.2.2.1 k.2.1.length k.2.2.2.2.2.2), (10, .int .u64 k.1)])
   (fun k w => k.1 ≤ x ∧ k.2.1.length = k.1 ∧ (∀ y ∈ k.2.1, y < 18446744073709551616) ∧ G = (getVs (x - k.1) k.2.2.1).map (fun q => (k.2.1 ++ q.1, q.2)) ∧ k.2.2.1.length ≤ bs.length ∧ k.2.2.1.length ≤ k.2.2.2.2.1 ∧ Reads w0 l 1 k.2.2.2.1 k.2.2.1.length (bytesV k.2.2.1) ∧ St w0 (OwnU k.2.2.2.2.2.1 k.2.2.2.2.2.2 k.2.1 :: l) w)
   (fun k => x - k.1) (0, [], bs.drop i, adv sl (i * 1) (Nat.beq c i), c - i, none, 0) ⟨rfl, rfl, rfl, rfl, rfl, rfl, trivial⟩ ⟨Nat.zero_le _, rfl, (fun _ h => by cases h), (by rw [← hG]; simp), O29, O29, hrt, St.ownNil _ _ h⟩ ?_
  clear h
  rintro ⟨k, vals, rest, ra, rc, va, vc⟩ w e ⟨hkx, hvl, hv, inv, hrl, hrc, hrr, h⟩
  dsimp only at hkx hvl hv inv hrl hrc hrr h ⊢
  refine Y31 ?_; refine Y4i ?_
  refine qy (decide ((k : Int) < (x : Int))) rfl (fun hc1 => ?_) (fun hc1 => ?_)
  ·have hlt : k < x := by simp at hc1; omega
   rw [show x - k = (x - (k + 1)) + 1 by omega, getVs] at inv
   have hk2 := ja rest
   have hy := jp rest
   refine Yy ?_; refine Y5 ?_
   refine qw rfl (qj rfl (ref1_Get h hrr.cons O0) ?_)
   rintro _ w ⟨rfl, h⟩
   refine Y2l ?_
   generalize (vget rest).1 = y at hy inv ⊢
   generalize (vget rest).2 = j at hk2 inv ⊢
   refine Y2s ?_
   by_cases hj0 : j = 0
   ·refine qg (.bool true) (by rw [hj0]; rfl) ?_
    refine Y2e ?_
    rw [if_pos hj0, Option.map_none] at inv
    exact qq (qv (bq2 (Told.no (by rw [hdef, inv]) h.drop)))
   refine qg (.bool false) O3 ?_
   refine Y9 ?_
   rw [if_neg hj0, Option.map_map] at inv
   refine Yo ?_
   refine jo (v := .int .u64 (y : Int)) (m3 := (vals ++ [y]).length) (zs := u64V (vals ++ [y])) h rfl rfl rfl rfl rfl O7 O22 O1 O1 rfl rfl rfl rfl rfl fun b2 a2 c2 w _ h => ?_
   refine Ym ?_; refine Y29 ?_
   refine qz (jh (i := j) rfl rfl hk2) rfl ?_
   show Rn _ _ _ _ _ (upd _ _ (.slice (adv ra (j * 1) (Nat.beq rc j)) (rest.length - j) (rc - j))) _
   rw [← List.length_drop]
   refine Y42 ?_
   refine qg (.int .u64 ((k + 1 : Nat) : Int)) (congrArg (Value.int .u64) (gu (x := k + 1) O0)) ?_
   refine Y2 ?_
   refine qq ⟨(k + 1, vals ++ [y], rest.drop j, adv ra (j * 1) (Nat.beq rc j), rc - j, a2, c2), ⟨rfl, rfl, rfl, rfl, rfl, rfl, trivial⟩, ⟨hlt, by simp; omega, ?_, ?_, by dsimp only; rw [List.length_drop]; omega, by dsimp only; rw [List.length_drop]; omega, hrr.tailB hk2 hrc, h⟩, by dsimp only; omega⟩
   ·intro z hz
    rcases List.mem_append.1 hz with hz | hz
    ·exact hv z hz
    ·rw [show z = y by simpa using hz]; exact hy
   ·rw [inv]
    congr 1
    funext q
    simp
  ·have hkx2 : k = x := by simp at hc1; omega
   rw [hkx2, Nat.sub_self, getVs, Option.map_some, List.append_nil] at inv
   exact qd ⟨(vals, rest, ra, rc, va, vc), ⟨rfl, rfl, rfl, rfl, rfl, trivial⟩, inv, by dsimp only; omega, hv, hrl, hrc, hrr, h⟩
 clear h
 rintro ⟨vals, rest, ra, rc, va, vc⟩ w e ⟨hG2, hvl, hv64, hrl, hrc, hrr, h⟩
 dsimp only at hG2 hvl hv64 hrl hrc hrr h ⊢
 rw [hG2] at hdef
 dsimp only at hdef
 subst hvl
 have hw64 : len64 (vals.length - 1) ≤ 64 := len64_64 O0
 refine Yo ?_; refine Y1u ?_
 refine qg (.int .u64 ((vals.length - 1 : Nat) : Int)) (by rw [show ((vals.length : Nat) : Int) - 1 = ((vals.length - 1 : Nat) : Int) by omega, g9, Nat.mod_eq_of_lt O0]) ?_
 refine qw rfl (qj rfl (ref4_width (x := vals.length - 1) O0 h) ?_)
 rintro _ w ⟨rfl, h⟩
 refine qw rfl (qj rfl (ref4_unpack hn hw64 O0 hrr.cons h) ?_)
 have hUl := getsL_len n (len64 (vals.length - 1)) ⟨bitsB rest, false⟩
 have hU64 := getsL_lt hw64 n ⟨bitsB rest, false⟩
 have hga := getAll_gets n (len64 (vals.length - 1)) ⟨bitsB rest, false⟩
 generalize getsL n (len64 (vals.length - 1)) ⟨bitsB rest, false⟩ = U at hUl hU64 hga ⊢
 generalize getAll n (len64 (vals.length - 1)) ⟨bitsB rest, false⟩ = G at hga hdef
 rintro _ w ⟨ua, uc, rfl, h⟩
 refine Ym ?_; refine Yn ?_
 refine qo (Γ := Option Addr × Nat) (fun q => [(0, .slice sl bs.length c), (14, .slice q.1 (U.map fun a => vals.getD a 0).length q.2)]) (fun q w => (∀ a ∈ U, a < vals.length) ∧ St w0 (OwnU q.1 q.2 (U.map fun a => vals.getD a 0) :: l) w) ?_ ?_
 ·refine Y17 ?_
  refine qc (Γ := Nat × Option Addr × Nat) (fun k => [(0, .slice sl bs.length c), (1, .int .i64 n), (6, .int .u64 vals.length), (9, .slice va vals.length vc), (13, .slice ua U.length uc), (14, .slice k.2.1 ((U.take k.1).map fun a => vals.getD a 0).length k.2.2), (15, .int .i64 k.1)])
   (fun k w => k.1 ≤ n ∧ (∀ a ∈ U.take k.1, a < vals.length) ∧ St w0 (OwnU k.2.1 k.2.2 ((U.take k.1).map fun a => vals.getD a 0) :: OwnU ua uc U :: OwnU va vc vals :: l) w) (fun k => n - k.1) (0, none, 0) ⟨rfl, rfl, rfl, rfl, rfl, rfl, rfl, trivial⟩ ⟨Nat.zero_le _, (fun a h => by simp at h), St.ownNil _ _ h⟩ ?_
  clear h
  rintro ⟨k, oa, oc⟩ w e ⟨hk, hall, h⟩
  dsimp only at hk hall h ⊢
  refine Y31 ?_; refine Ys ?_
  by_cases hlt : k < n
  ·refine qg (.bool true) O1 ?_
   refine Y1z ?_
   have hgz := List.getElem?_eq_getElem (show k < U.length by omega)
   generalize U[k]'O0 = z at hgz
   have hz := hU64 z (List.mem_of_getElem? hgz)
   have hst : (U.take (k + 1)).map (fun a => vals.getD a 0) = (U.take k).map (fun a => vals.getD a 0) ++ [vals.getD z 0] := by rw [List.take_add_one, hgz]; simp
   have htl : ((U.take k).map (fun a => vals.getD a 0)).length = k := by simp; omega
   obtain ⟨g, rfl⟩ := (h.f 1).own_some O0
   refine Y1y ?_; refine ql ?_; refine Yo ?_
   refine qz (qn (b := g) (o := 0) (m := U.length) (c := uc) (o' := k) rfl rfl rfl O0 O7) rfl ?_
   refine qz (qx (v := .int .u64 (z : Int)) rfl (by have := (h.f 1).own_rd.cell (u64V_get hgz); simpa using this)) rfl ?_
   refine Y0 ?_; refine Y1v ?_
   by_cases hzl : vals.length ≤ z
   ·refine qg (.bool true) O10 ?_
    refine Y2e ?_
    refine qq (qv (bq2 (Told.no ?_ h.drop.drop.drop)))
    rw [hdef]
    cases G with
    | none => rfl
    | some y => dsimp only; rw [← hga y rfl, pickAll_none U z (List.mem_of_getElem? hgz) hzl]
   refine qg (.bool false) O11 ?_
   refine Y9 ?_
   have hgv : vals[z]? = some (vals.getD z 0) := by rw [List.getD, List.getElem?_eq_getElem O0]; rfl
   obtain ⟨g2, rfl⟩ := (h.f 2).own_some O0
   refine Y45 ?_; refine Yp ?_; refine Y27 ?_
   refine qz (qn (b := g) (o := 0) (m := U.length) (c := uc) (o' := k) rfl rfl rfl O0 O7) rfl ?_
   refine qz (qx (v := .int .u64 (z : Int)) rfl (by have := (h.f 1).own_rd.cell (u64V_get hgz); simpa using this)) rfl ?_
   refine qz (qn (b := g2) (o := 0) (m := vals.length) (c := vc) (o' := z) rfl rfl rfl O0 O7) rfl ?_
   refine qz (qx (v := .int .u64 (vals.getD z 0 : Nat)) rfl (by have := (h.f 2).own_rd.cell (u64V_get hgv); simpa using this)) rfl ?_
   refine jo (v := .int .u64 (vals.getD z 0 : Nat)) (m3 := ((U.take (k + 1)).map fun a => vals.getD a 0).length) (zs := u64V ((U.take (k + 1)).map fun a => vals.getD a 0)) h rfl rfl rfl rfl rfl (by rw [hst]; simp) (by rw [hst]; simp [u64V, vcells]) O1 O1 rfl rfl rfl rfl rfl fun b2 a2 c2 w _ h => ?_
   refine Y42 ?_
   refine qg (.int .i64 ((k + 1 : Nat) : Int)) O5 ?_
   refine Y2 ?_
   refine qq ⟨(k + 1, a2, c2), ⟨rfl, rfl, rfl, rfl, rfl, rfl, rfl, trivial⟩, ⟨hlt, fun a ha => ?_, h⟩, by dsimp only; omega⟩
   dsimp only at ha
   rw [List.take_add_one, hgz] at ha
   rcases List.mem_append.1 ha with ha | ha
   ·exact hall a ha
   ·rw [show a = z by simpa using ha]; omega
  ·refine qg (.bool false) O1 ?_
   refine Y11 ?_
   rw [show k = U.length by omega, List.take_length] at h hall
   refine qd ⟨(oa, oc), ⟨rfl, ?_, trivial⟩, hall, h.x [1, 2]⟩
   show Value.slice _ _ _ = Value.slice _ _ _
   rw [show k = U.length by omega, List.take_length]
 clear h
 rintro ⟨oa, oc⟩ w e ⟨hall, h⟩
 dsimp only at h ⊢
 have hml : (U.map fun a => vals.getD a 0).length = n := by rw [List.length_map, hUl]
 have hmlt : ∀ x ∈ U.map (fun a => vals.getD a 0), x < 18446744073709551616 := fun x hx => by
  obtain ⟨y, hy, rfl⟩ := List.mem_map.1 hx
  have := hall y hy
  rw [List.getD, List.getElem?_eq_getElem this]
  exact hv64 _ (List.getElem_mem _)
 have hdef2 : dictDec bs n = if dictEnc (U.map fun a => vals.getD a 0) = some bs then some (U.map fun a => vals.getD a 0) else none := by
  by_cases hE : dictEnc (U.map fun a => vals.getD a 0) = some bs
  ·rw [if_pos hE, ← hml]
   exact dictDec_told hmlt hE
  ·rw [if_neg hE, hdef]
   cases G with
   | none => rfl
   | some x => dsimp only; rw [← hga x rfl, pickAll_map U hall]; dsimp only; rw [if_neg hE]
 generalize U.map (fun a => vals.getD a 0) = out at hml hmlt hdef2 h ⊢
 refine Y5 ?_
 refine qw rfl (qj rfl (ref4_Dict hmlt O0 Reads.own h) ?_)
 rintro _ w ⟨da, dc, rfl, h⟩
 refine Y14 ?_; refine Y44 ?_
 cases hE : dictEnc out with
 | none =>
  refine Y1l ?_; refine Y16 ?_; refine Y2c ?_
  exact qq (qv (bq2 (Told.no (by rw [hdef2, hE]; rfl) h.drop.drop)))
 | some d =>
  rw [hE] at h hdef2
  refine Y1l ?_; refine Y2f ?_
  refine qz (q_btos (bs := d) rfl h.own_rd) rfl ?_
  refine Y7 ?_; refine Y3v ?_
  refine qz (q_btos (bs := bs) rfl ((hr.more [_, _]).at_ h)) rfl ?_
  refine Y7 ?_; refine qz (q_strne rfl rfl) rfl ?_
  rw [strB_eq]
  refine Y8 ?_
  refine qq (qy (!decide (d = bs)) rfl (fun hc2 => ?_) (fun hc2 => ?_))
  ·refine Y26 ?_
   exact qq (qv (bq2 (Told.no (by rw [hdef2, if_neg O32]) h.drop.drop)))
  ·refine Yh ?_; refine Y5 ?_; refine Y1f ?_
   exact qq (qv (bq2 ⟨oa, oc, out, true, rfl, by rw [hdef2, if_pos O32]; rfl, fun _ => ⟨hml, hmlt⟩, h.drop⟩))
end
end Go.Proofs.YtnnehiiblfmpnaaGreatDoor
