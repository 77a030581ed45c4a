/- What the proof of ProgBusy needs, part 7: plain lemmas, and what each function does. -/
import Derived.Test.YtngdfdangkdgcaaGreatDoorQProgBusyf
set_option linter.unusedVariables false
set_option linter.unusedSimpArgs false
set_option linter.unnecessarySimpa false
set_option maxRecDepth 100000
set_option maxHeartbeats 4000000
namespace Go.Proofs.YtngdfdangkdgcaaGreatDoor
open Go.Hw _root_.Go.Proofs.Tryz
section
variable {s s' s2 : Shd} {a : Ag} {A : List Ag} {acc : List SlotV} {al : Int -> Bool} {G G' : Int -> Blb} {n n' : Nat} {r : Run} {ps pn : List Key3} {b b' : Int} {who series : Int} {k : Nat}
structure Keeps (who : Int) (s s' : Shd) : Prop where
 dir : ∀ (i : Nat) (p : Plc), s.d[i]? = some p -> p.taken = true -> p.who ≠ who -> s'.d[i]? = some p
 tab : ∀ (id : Int) (o : On), mget id s.t.l = some o -> o.used = true -> o.who ≠ who -> mget id s'.t.l = some o
theorem Keeps.refl (who : Int) (s : Shd) : Keeps who s s := ⟨fun _ _ h _ _ => h, fun _ _ h _ _ => h⟩
theorem Keeps.trans (h : Keeps who s s') (h' : Keeps who s' s2) : Keeps who s s2 := ⟨fun i p h1 h2 h3 => h'.dir i p (h.dir i p h1 h2 h3) h2 h3, fun i o h1 h2 h3 => h'.tab i o (h.tab i o h1 h2 h3) h2 h3⟩
theorem Keeps.same (hd : s'.d = s.d) (ht : s'.t = s.t) : Keeps who s s' := ⟨fun i p h _ _ => by rw [hd]; exact h, fun i p h _ _ => by rw [ht]; exact h⟩
theorem Keeps.here {i : Nat} {p q : Plc} (hp : s.d[i]? = some p) (hw : p.taken = false ∨ p.who = who) (hd : s'.d = s.d.set i q) (ht : s'.t = s.t) : Keeps who s s' := by
 refine ⟨fun j x hx h1 h2 => ?_, fun j o h _ _ => by rw [ht]; exact h⟩
 rw [hd, gr]
 ·exact hx
 ·rintro rfl
  rw [hp] at hx
  obtain rfl := Uk hx
  rcases hw with hw | hw
  ·rw [hw] at h1; cases h1
  ·exact h2 hw
theorem Keeps.on {id : Int} {o o' : On} (hg : mget id s.t.l = some o) (hw : o.used = false ∨ o.who = who) (hd : s'.d = s.d) (ht : s'.t.l = mset id o' s.t.l) : Keeps who s s' := by
 refine ⟨fun i p h _ _ => by rw [hd]; exact h, fun j x hx h1 h2 => ?_⟩
 rw [ht, jq, if_neg]
 ·exact hx
 ·rintro rfl
  rw [hg] at hx
  obtain rfl := Uk hx
  rcases hw with hw | hw
  ·rw [hw] at h1; cases h1
  ·exact h2 hw
def PartSt (G : Int -> Blb) (x : Snp) (series : Int) (one : Option Tk) (i : Int) (got : List Smp) (pn : List Key3) (k : Nat) : Prop :=
 ∃ j : Nat, i = (j : Int) ∧ j <= x.parts.length ∧ got = ((x.parts.take j).flatMap fun p => within (G p.blob).L x.frm x.upto) ∧
  ((one = none ∧ pn = [] ∧ k = 6 * (x.parts.length - j)) ∨
   (∃ y p kk, one = some y ∧ x.parts[j]? = some p ∧ y.key = ⟨series, x.life, p.blob⟩ ∧ y.fr = x.frm ∧ y.to = x.upto ∧ TkI G y pn kk ∧ k = kk + 6 * (x.parts.length - j - 1)))
theorem PartSt.new (G : Int -> Blb) (x : Snp) (series : Int) : PartSt G x series none 0 [] [] (6 * x.parts.length) := ⟨0, rfl, Ud _, by rw [Xk]; rfl, .inl ⟨rfl, rfl, rfl⟩⟩
theorem mf {x : Snp} (hG : ∀ id, id <= b -> G' id = G id) : ∀ {l : List Prt}, (∀ p ∈ l, PrtOk G b p) -> (l.flatMap fun p => within (G' p.blob).L x.frm x.upto) = l.flatMap fun p => within (G p.blob).L x.frm x.upto
 | [], _ => rfl
 | p :: l, h => by rw [Uh, Uh, mf hG fun q hq => h q (Ue _ hq), hG _ (h p (Ub ..)).idl]
theorem PartSt.more {x : Snp} {one : Option Tk} {i : Int} {got : List Smp} (h : PartSt G x series one i got pn k) (hx : ∀ p ∈ x.parts, PrtOk G b p) (hG : ∀ id, id <= b -> G' id = G id) : PartSt G' x series one i got pn k := by
 obtain ⟨j, h1, h2, h3, h4⟩ := h
 refine ⟨j, h1, h2, ?_, ?_⟩
 ·rw [h3, mf hG fun p hp => hx p (Xi hp)]
 ·rcases h4 with h4 | ⟨y, p, kk, e1, e2, e3, e4, e5, e6, e7⟩
  ·exact .inl h4
  ·refine .inr ⟨y, p, kk, e1, e2, e3, e4, e5, e6.same ?_, e7⟩
   rw [e3]
   exact hG _ (hx p (Uj e2)).idl
theorem flat_len {f : Prt -> List Smp} : ∀ {l : List Prt}, (∀ p ∈ l, (f p).length <= 8) -> (l.flatMap f).length <= 8 * l.length
 | [], _ => Ud _
 | p :: l, h => by
  rw [Uh, Ua, Ui]
  have h1 := h p (Ub ..)
  have h2 := flat_len (l := l) fun q hq => h q (Ue _ hq)
  omega
theorem part8 {p : Prt} (h : PrtOk G b p) (f t : Int) : (within (G p.blob).L f t).length <= 8 := Uy (zw _ _ _) h.len
theorem PartSt.got_len {x : Snp} {one : Option Tk} {i : Int} {got : List Smp} (h : PartSt G x series one i got pn k) (hx : ∀ p ∈ x.parts, PrtOk G b p) : got.length <= 8 * x.parts.length := by
 obtain ⟨j, h1, h2, h3, h4⟩ := h
 rw [h3]
 have := flat_len (f := fun p => within (G p.blob).L x.frm x.upto) (l := x.parts.take j) fun p hp => part8 (hx p (Xi hp)) _ _
 rw [Us] at this
 omega
theorem Snp.len {x : Snp} (hx : SnpOk G b x) : (x.all G).length <= 8 * x.parts.length + 7 := by
 unfold Snp.all
 rw [Ua]
 have := flat_len (f := fun p => within (G p.blob).L x.frm x.upto) (l := x.parts) fun p hp => part8 (hx.prts p hp) _ _
 have := hx.tail
 omega
theorem PartSt.full {x : Snp} {one : Option Tk} {got : List Smp} (h : PartSt G x series one (x.parts.length : Int) got pn k) : got ++ x.tail = x.all G ∧ one = none ∧ pn = [] := by
 obtain ⟨j, h1, h2, h3, h4⟩ := h
 have hj : j = x.parts.length := by omega
 refine ⟨?_, ?_⟩
 ·rw [h3, hj, Zj]; rfl
 ·rcases h4 with h4 | ⟨y, p, kk, _, e2, _⟩
  ·exact ⟨h4.1, h4.2.1⟩
  ·rw [hj, Vk (Ug _)] at e2; cases e2
theorem PartSt.pre {x : Snp} {one : Option Tk} {i : Int} {got : List Smp} (h : PartSt G x series one i got pn k) : got <+: x.all G := by
 obtain ⟨j, h1, h2, h3, h4⟩ := h
 refine ⟨((x.parts.drop j).flatMap fun p => within (G p.blob).L x.frm x.upto) ++ x.tail, ?_⟩
 rw [h3, <- Um, <- Xm, Zl]; rfl
theorem PartSt.pins1 {x : Snp} {one : Option Tk} {i : Int} {got : List Smp} (h : PartSt G x series one i got pn k) : pn.length <= 1 := by
 obtain ⟨j, _, _, _, ⟨_, h, _⟩ | ⟨y, p, kk, _, _, _, _, _, h, _⟩⟩ := h
 ·rw [h]; exact Ud _
 ·rcases h with ⟨_, h, _⟩ | ⟨_, _, _, _, h, _⟩ | ⟨_, h, _⟩ | ⟨_, h, _⟩ <;> rw [h] <;> exact Wb rfl
theorem PartSt.cur (h : PartSt G r.x series r.one r.i r.got pn k) (hx : ∀ p ∈ r.x.parts, PrtOk G b p) (hi : r.i ≠ (r.x.parts.length : Int)) :
  ∃ (j : Nat) (p : Prt) (kk : Nat), r.i = (j : Int) ∧ j < r.x.parts.length ∧ r.got = ((r.x.parts.take j).flatMap fun p => within (G p.blob).L r.x.frm r.x.upto) ∧ r.x.parts[j]? = some p ∧ PrtOk G b p ∧ (r.cur series).key = ⟨series, r.x.life, p.blob⟩ ∧ (r.cur series).fr = r.x.frm ∧ (r.cur series).to = r.x.upto ∧ TkI G (r.cur series) pn kk ∧ kk + 6 * (r.x.parts.length - j - 1) <= k := by
 obtain ⟨j, h1, h2, h3, h4⟩ := h
 have hj : j < r.x.parts.length := by omega
 rcases h4 with ⟨e1, e2, e3⟩ | ⟨y, p, kk, e1, e2, e3, e4, e5, e6, e7⟩
 ·obtain ⟨p, hp⟩ : ∃ p, r.x.parts[j]? = some p := ⟨_, Uc hj⟩
  have hpk := hx p (Uj hp)
  have hgd : r.x.parts.getD r.i.toNat ⟨0, 0, 0, 0, 0⟩ = p := by
   rw [h1, show ((j : Int)).toNat = j from by omega, Zq, hp]; rfl
  have hc : r.cur series = Tk.new series r.x.life p.blob r.x.frm r.x.upto := by
   unfold Run.cur
   rw [e1, hgd]
  rw [hc]
  have hT := TkI.new (G := G) series r.x.life r.x.frm r.x.upto p.blob
  have hs := (hT.sizes hpk.len).2.2
  refine ⟨j, p, _, h1, hj, h3, hp, hpk, rfl, rfl, rfl, by rw [e2]; exact hT, ?_⟩
  omega
 ·have hpk := hx p (Uj e2)
  have hc : r.cur series = y := by unfold Run.cur; rw [e1]
  rw [hc]
  exact ⟨j, p, kk, h1, hj, h3, e2, hpk, e3, e4, e5, e6, O_o⟩
theorem xo (h : PartSt G r.x series r.one r.i r.got pn k) (hx : SnpOk G b r.x) (hb : b <= 100000) (hi : r.i ≠ (r.x.parts.length : Int)) (hal : al series = false) (hC : CacInv s.c (pn ++ ps) al G b) (hS : ∀ p ∈ r.x.parts, ∃ e, mget p.blob s.b.l = some e ∧ (G p.blob).Ok e.bs) :
  ((r.cur series).row.length <= 8 ∧ (r.cur series).out.length <= 8 ∧ ((r.cur series).step s.b s.c).1.out.length <= 8) ∧
  ((∃ one i got pn' k' C, r.part s series = ({ r with one := one, i := i, got := got }, { s with c := C }, 0) ∧ PartSt G r.x series one i got pn' k' ∧ k' < k ∧ CacInv C (pn' ++ ps) al G b ∧ C.clk.most = s.c.clk.most) ∨
   (∃ y kk, r.part s series = ({ r with one := some y }, s, 6) ∧ pn = [] ∧ TkI G y [] kk ∧ s.c.clk.most <= (s.c.clk.res.length : Int) ∧ ∀ j a, s.c.pins j = some a -> a ≠ 0)) := by
 obtain ⟨j, p, kk, h1, h2, h3, h4, h5, h6, h7, h8, h9, h10⟩ := h.cur hx.prts hi
 have hlen : (G (r.cur series).key.blob).L.length <= 8 := by rw [h6]; exact h5.len
 obtain ⟨z1, z2, _⟩ := h9.sizes hlen
 have hfew := hx.few
 have hwi : wI ((j : Int) + 1) = ((j + 1 : Nat) : Int) := by
  show IntKind.i64.wrap _ = _
  rw [jp O0 O0]; omega
 rcases h9.step (ps := ps) (S := s.b) hC (by rw [h6]; exact hal) (by rw [h6]; exact h5.idl) (by rw [h6]; exact hS p (Uj h4)) hlen with ⟨q1, q2, q3, q4, q5, ⟨pn', k', q6, q7, q8⟩ | ⟨q6, q7⟩⟩ | ⟨q1, q2, q3, q4⟩
 ·have hz := q6.sizes (by rw [q2]; exact hlen)
  refine ⟨⟨z1, z2, hz.2.1⟩, .inl ⟨some ((r.cur series).step s.b s.c).1, r.i, r.got, pn', k' + 6 * (r.x.parts.length - j - 1), ((r.cur series).step s.b s.c).2.1, ?_, ?_, O_o, q8, q5⟩⟩
  ·rw [Run.part_eq, q1, if_neg (fun e => e rfl), q6.notdone, if_neg O2]
  ·exact ⟨j, h1, O_o, h3, .inr ⟨_, p, k', rfl, h4, by rw [q2, h6], by rw [q3, h7], by rw [q4, h8], q6, rfl⟩⟩
 ·have hw : within (G (r.cur series).key.blob).L (r.cur series).fr (r.cur series).to = within (G p.blob).L r.x.frm r.x.upto := by rw [h6, h7, h8]
  rw [hw] at q6
  refine ⟨⟨z1, z2, by rw [q6.out]; exact part8 h5 _ _⟩, .inl ⟨none, ((j + 1 : Nat) : Int), r.got ++ within (G p.blob).L r.x.frm r.x.upto, [], 6 * (r.x.parts.length - (j + 1)), ((r.cur series).step s.b s.c).2.1, ?_, ?_, ?_, q7, q5⟩⟩
  ·rw [Run.part_eq, q1, if_neg (fun e => e rfl), q6.done, if_pos rfl, q6.out, h1, hwi]
  ·refine ⟨j + 1, rfl, h2, ?_, .inl ⟨rfl, rfl, rfl⟩⟩
   rw [Vl, h4, Xm, h3]
   show _ = _ ++ (within (G p.blob).L r.x.frm r.x.upto ++ [])
   rw [Uw]
  ·have := h9.pos
   omega
 ·have hq : (r.cur series).step s.b s.c = (r.cur series, s.c, 6) := q1
  refine ⟨⟨z1, z2, by rw [hq]; exact z2⟩, .inr ⟨r.cur series, kk, ?_, q4, by rw [<- q4]; exact h9, q2, q3⟩⟩
  rw [Run.part_eq, hq]; rfl
end
section
variable {s s' s2 : Shd} {a : Ag} {A : List Ag} {acc : List SlotV} {al : Int -> Bool} {G G' : Int -> Blb} {n n' : Nat} {r : Run} {ps pn : List Key3} {b b' : Int} {who series : Int} {k : Nat}
theorem Inv.look (h : Inv s A acc al G n) {id : Int} (h0 : 0 <= id) (h1 : id < 16) : ∃ (i : Nat) (p : Plc), id = (i : Int) ∧ i < 16 ∧ s.d[i]? = some p ∧ Dir.at_ s.d id = some p ∧
  ((p.taken = true ∧ Dir.look s.d id = none) ∨ (p.taken = false ∧ Dir.look s.d id = some p.s ∧ p.s.ver.tmod 2 = 0 ∧ acc[i]? = some p.s)) := by
 have hl := h.dir.len
 obtain ⟨p, hp⟩ : ∃ p, s.d[id.toNat]? = some p := ⟨_, Uc O0⟩
 have hat : Dir.at_ s.d id = some p := by rw [qjb h0 h1]; exact hp
 refine ⟨id.toNat, p, O_o, O_o, hp, hat, ?_⟩
 unfold Dir.look
 rw [hat]
 cases ht : p.taken with
 | true => exact .inl ⟨rfl, if_pos (h.dir.busy _ p hp ht).1⟩
 | false =>
  obtain ⟨v1, v2⟩ := h.dir.idle _ p hp ht
  exact .inr ⟨rfl, if_neg (by rw [v1]; decide), v1, v2⟩
def FlagAt (s : Shd) (r : Run) : Prop := ∃ i : Nat, r.o.series = (i : Int) ∧ i < 16 ∧ s.d[i]? = some ⟨{ r.slot with ver := r.slot.ver + 1 }, true, r.who⟩
def Blk (A : List Ag) (o : Opr) : Prop := (1 <= o.kind ∧ o.kind <= 5 ∧ ∃ x ∈ A, ∃ f, x.flag = some f ∧ f.1 = o.series) ∨ ((o.kind = 6 ∨ o.kind = 7) ∧ ∃ x ∈ A, x.use = some o.iter)
theorem Inv.blk (h : Inv s (a :: A) acc al G n) (ha : a.flag = none) {i : Nat} {p : Plc} (hp : s.d[i]? = some p) (ht : p.taken = true) : ∃ x ∈ A, ∃ f, x.flag = some f ∧ f.1 = (i : Int) := by
 obtain ⟨_, f, hf, he⟩ := h.dir.busy i p hp ht
 rw [Uh, kc ha, Up, Xf] at hf
 obtain ⟨x, hx, hf⟩ := hf
 unfold Ag.flags at hf
 split at hf
 ·cases hf
 ·rename_i g hg
  rw [Vc] at hf
  subst hf
  exact ⟨x, hx, g, hg, he⟩
theorem fg (h : Inv s (a :: A) acc al G n) (ha : a.flag = none) (hw : a.who = r.who) (h0 : 0 <= r.o.series) (h1 : r.o.series < 16) (hn : n + 1 <= 1000000000) :
  (r.take s = (r, s, false) ∧ Dir.look s.d r.o.series = none ∧ ∃ x ∈ A, ∃ f, x.flag = some f ∧ f.1 = r.o.series) ∨
  ∃ (i : Nat) (p : Plc), r.o.series = (i : Int) ∧ i < 16 ∧ s.d[i]? = some p ∧ p.taken = false ∧ p.s.ver.tmod 2 = 0 ∧ Dir.look s.d r.o.series = some p.s ∧
   r.take s = ({ r with slot := p.s, flag := true, ph := 1 }, { s with d := s.d.set i ⟨{ p.s with ver := p.s.ver + 1 }, true, r.who⟩ }, true) ∧
   Inv { s with d := s.d.set i ⟨{ p.s with ver := p.s.ver + 1 }, true, r.who⟩ } ({ a with flag := some (r.o.series, p.s) } :: A) acc al G (n + 1) ∧
   FlagAt { s with d := s.d.set i ⟨{ p.s with ver := p.s.ver + 1 }, true, r.who⟩ } { r with slot := p.s, flag := true, ph := 1 } ∧
   Keeps r.who s { s with d := s.d.set i ⟨{ p.s with ver := p.s.ver + 1 }, true, r.who⟩ } ∧ abs { s with d := s.d.set i ⟨{ p.s with ver := p.s.ver + 1 }, true, r.who⟩ } G = abs s G := by
 obtain ⟨i, p, e, hi, hp, hat, ⟨ht, hl⟩ | ⟨ht, hl, hv, hacc⟩⟩ := h.look h0 h1
 ·refine .inl ⟨?_, hl, ?_⟩
  ·unfold Run.take; rw [hl]
  ·obtain ⟨x, hx, f, hf, he⟩ := h.blk ha hp ht
   exact ⟨x, hx, f, hf, he.trans e.symm⟩
 ·obtain ⟨_, _, v0, v1, _⟩ := h.dir.ok i p hp
  have hwv : wI (p.s.ver + 1) = p.s.ver + 1 := jp O0 O0
  have htk : Dir.take s.d r.o.series r.who = some (s.d.set i ⟨{ p.s with ver := p.s.ver + 1 }, true, r.who⟩) := by
   unfold Dir.take
   rw [hat]
   dsimp only
   rw [ht, if_neg O2, hwv, e, show ((i : Int)).toNat = i from by omega]
  have hI := h.take ha hp ht hn
  rw [<- e] at hI
  refine .inr ⟨i, p, e, hi, hp, ht, hv, hl, ?_, (by rw [<- hw]; exact hI), ⟨i, e, hi, uz hp⟩, Keeps.here hp (.inl ht) rfl rfl, ?_⟩
  ·unfold Run.take; rw [hl]; dsimp only; rw [htk]
  ·unfold abs
   rw [show serOf (s.d.set i ⟨{ p.s with ver := p.s.ver + 1 }, true, r.who⟩) G = serOf s.d G from serOf_ver hp hi rfl]
theorem FlagAt.ok (h : Inv s A acc al G n) (hf : FlagAt s r) : SlotOk G s.b.last r.slot ∧ (r.slot.chunks.length : Int) <= s.b.last ∧ 0 <= r.slot.life ∧ r.slot.life <= n ∧ serOf s.d G r.o.series = r.slot.tells G := by
 obtain ⟨i, e, hi, hd⟩ := hf
 obtain ⟨h1, h2, h3, h4, h5, h6⟩ := h.dir.ok i _ hd
 exact ⟨h1.ver r.slot.ver, h2, h5, h6, by rw [e, serOf_at hd hi]; rfl⟩
theorem un (h : Inv s (a :: A) acc al G n) (hf : FlagAt s r) (hw : a.who = r.who) {x sl : SlotV} (ha : a.flag = some (r.o.series, x)) (hok : SlotOk G s.b.last sl) (e1 : sl.chunks = x.chunks) (e2 : sl.opn = x.opn) (hl0 : 0 <= sl.life) (hl1 : sl.life <= n) (hn : n + 1 <= 1000000000) :
  ∃ D acc', r.publish s sl = ({ r with flag := false }, { s with d := D }) ∧ Inv { s with d := D } ({ a with flag := none } :: A) acc' al G (n + 1) ∧ Keeps r.who s { s with d := D } ∧ serOf D G = upS (serOf s.d G) r.o.series (sl.tells G) := by
 obtain ⟨i, e, hi, hd⟩ := hf
 rw [e] at ha
 obtain ⟨p, hp, hpt, hpw, hodd, hv0, hv1, hI⟩ := h.give ha hok e1 e2 hl0 hl1 hn
 have hn0 := h.n30
 have hwv : wI (p.s.ver + 1) = p.s.ver + 1 := jp O0 O0
 refine ⟨s.d.set i ⟨{ sl with ver := p.s.ver + 1 }, false, 0⟩, _, ?_, hI, Keeps.here hp (.inr (hpw.trans hw)) rfl rfl, ?_⟩
 ·unfold Run.publish
  have : Dir.leave s.d r.o.series r.who sl = some (s.d.set i ⟨{ sl with ver := p.s.ver + 1 }, false, 0⟩) := by
   unfold Dir.leave
   rw [e, nm hi, hp]
   dsimp only
   rw [if_pos ⟨hpt, hpw.trans hw⟩, hwv, show ((i : Int)).toNat = i from by omega]
  rw [this]; rfl
 ·rw [e, serOf_set hp hi]; rfl
def gadd (G : Int -> Blb) (b : Int) (L : List Smp) (id : Int) : Blb := if id = b + 1 then ⟨1, L⟩ else G id
theorem bj {L : List Smp} : ∀ id, id <= b -> gadd G b L id = G id := fun id h => if_neg O0
theorem kq {L : List Smp} : gadd G b L (b + 1) = ⟨1, L⟩ := if_pos rfl
theorem az {S : Sto} {cnt : Int -> Nat} {ch k : Nat} {L : List Smp} (h : StoInv S cnt ch G) (hb : S.last <= 100000) (hk : L.length = k) (hk1 : 1 <= k) (hk8 : k <= 8) (hc : k <= ch) (hwf : ∀ x ∈ L, x.Wf) (hr : RiseP L) :
  ∃ bs, chMake 1 L = some bs ∧ (headDec bs).map (·.1) = some ⟨1, L.length, firstT L, lastT L⟩ ∧
  ((((S.chg (-(16 * (k : Int)))).2.add bs = none) ∧ ((S.chg (-(16 * (k : Int)))).2.chg (16 * (k : Int))).2 = S ∧ S.room + 16 * (k : Int) < bs.length) ∨
   ∃ S', (S.chg (-(16 * (k : Int)))).2.add bs = some (S', S.last + 1) ∧ StoInv S' (fun j => cnt j + if S.last + 1 = j then 1 else 0) (ch - k) (gadd G S.last L) ∧ S'.last = S.last + 1 ∧ S'.budget = S.budget) := by
 have hne : L ≠ [] := fun e => by rw [e] at hk; simp at hk; omega
 obtain ⟨bs, m1, m2, m3⟩ := made hne hwf hr O0
 refine ⟨bs, m1, m3, ?_⟩
 obtain ⟨f1, f2⟩ := h.free k hc O0
 rw [f1]
 dsimp only
 rcases f2.add (G' := gadd G S.last L) (bs := bs) (cnt' := fun j => cnt j + if S.last + 1 = j then 1 else 0) (by show S.last < _; unfold M40; omega) (by show ((gadd G S.last L) (S.last + 1)).Ok bs; rw [kq]; exact m2) (fun id hid => bj id hid) (fun j => rfl) with ⟨a1, a2⟩ | ⟨S', a1, a2, a3, a4, _⟩
 ·refine .inl ⟨a1, ?_, ?_⟩
  ·have ho := h.ok
   have hch := h.chg
   rcases f2.charge k O0 with ⟨c1, c2⟩ | ⟨S', c1, c2, _⟩
   ·exfalso
    have e : (({ S with charged := S.charged - 16 * (k : Int) } : Sto)).room = S.budget - S.bytes - (S.charged - 16 * (k : Int)) := rfl
    have := ho.sum
    omega
   ·rw [c1, c2]
    show ({ S with charged := S.charged - 16 * (k : Int) + 16 * (k : Int) } : Sto) = S
    rw [show S.charged - 16 * (k : Int) + 16 * (k : Int) = S.charged by omega]
  ·have e : (({ S with charged := S.charged - 16 * (k : Int) } : Sto)).room = S.budget - S.bytes - (S.charged - 16 * (k : Int)) := rfl
   have e' : S.room = S.budget - S.bytes - S.charged := rfl
   omega
 ·exact .inr ⟨S', a1, a2, a3, a4⟩
theorem mt {cnt : Int -> Nat} {ch : Nat} (h : StoInv s.b cnt ch G) (hb : s.b.last <= 100000) (hk1 : 1 <= r.next.opn.length) (hk8 : r.next.opn.length <= 8) (hc : r.next.opn.length <= ch) (hwf : ∀ x ∈ r.next.opn, x.Wf) (hr : RiseP r.next.opn) :
  (r.close s = (r, s, false) ∧ ∃ bs, chMake 1 r.next.opn = some bs ∧ s.b.room + 16 * (r.next.opn.length : Int) < bs.length) ∨
  ∃ S', r.close s = ({ r with next := r.next.shut (partOf (s.b.last + 1) r.next.opn) }, { s with b := S' }, true) ∧ StoInv S' (fun j => cnt j + if s.b.last + 1 = j then 1 else 0) (ch - r.next.opn.length) (gadd G s.b.last r.next.opn) ∧ S'.last = s.b.last + 1 ∧ S'.budget = s.b.budget := by
 obtain ⟨bs, m1, m2, m3⟩ := az h hb rfl hk1 hk8 hc hwf hr
 have hz : r.next.size = 16 * (r.next.opn.length : Int) := by show IntKind.i64.wrap _ = _; exact jp O0 O0
 have hz0 : wI (0 - 16 * (r.next.opn.length : Int)) = -(16 * (r.next.opn.length : Int)) := by show IntKind.i64.wrap _ = _; rw [jp O0 O0]; omega
 unfold Run.close
 rw [hz, m1]
 dsimp only [Option.getD]
 rw [hz0]
 rcases m3 with ⟨k1, k2, k3⟩ | ⟨S', k1, k2⟩
 ·refine .inl ⟨?_, bs, rfl, k3⟩
  rw [k1]
  dsimp only
  rw [k2]
 ·refine .inr ⟨S', ?_, k2⟩
  rw [k1]
  dsimp only
  rw [m2]; rfl
theorem partOk {S : Sto} {L : List Smp} (h0 : 0 <= S.last) (hne : L ≠ []) (hl : L.length <= 8) (hwf : ∀ x ∈ L, x.Wf) (hr : RiseP L) : PrtOk (gadd G S.last L) (S.last + 1) (partOf (S.last + 1) L) := by
 have e : gadd G S.last L (partOf (S.last + 1) L).blob = ⟨1, L⟩ := kq
 exact ⟨by show 1 <= S.last + 1; omega, Uu _, by rw [e]; exact hne, by rw [e]; exact hwf, by rw [e]; exact hr, by rw [e]; exact hl, by rw [e]; rfl, by rw [e]; rfl, by rw [e]; rfl, by rw [e]; rfl⟩
end
section
variable {s s' s2 : Shd} {a : Ag} {A : List Ag} {acc : List SlotV} {al : Int -> Bool} {G G' : Int -> Blb} {n n' : Nat} {r : Run} {ps pn : List Key3} {b b' : Int} {who series : Int} {k : Nat}
def Run.need (r : Run) (s : Shd) : Nat :=
 if r.o.kind = 2 then 3 + 6 * (match Dir.at_ s.d r.o.series with | none => 0 | some p => p.s.chunks.length)
 else if r.o.kind = 6 then 2 + 6 * (match mget r.o.iter s.t.l with | none => 0 | some o => o.x.parts.length)
 else if r.o.kind = 5 ∨ r.o.kind = 7 then 1 else 3
structure RunOk (al : Int -> Bool) (r : Run) : Prop where
 over : r.over = false
 bad : Run.bad r.o = false
 wf : r.o.Wf
 al : r.o.kind <= 5 -> al r.o.series = false
 s4 : r.slot.opn.length <= 8
 s5 : r.slot.chunks.length <= 100000
 n4 : r.next.opn.length <= 8
 n5 : r.next.chunks.length <= 100000
 xp : r.x.parts.length <= 100000
 f0 : 0 <= r.fails
 f3 : r.fails <= 3
structure Run.Bare (r : Run) : Prop where
 using_ : r.using_ = false
 held : r.held = false
 one : r.one = none
 i : r.i = 0
 got : r.got = []
def Eff (G : Int -> Blb) (r : Run) : Prop := ∀ m : Mdl, m.ser r.o.series = r.slot.tells G -> m.act r.o = ({ m with ser := upS m.ser r.o.series (r.next.tells G) }, ⟨0, 0, []⟩)
abbrev Run.wrt (r : Run) : Prop := r.o.kind = 1 ∨ r.o.kind = 3 ∨ r.o.kind = 4
def Run.cap (r : Run) : Int := min (max r.o.N 0) 1000
def Run.adds (r : Run) : Int := if (r.o.kind = 1 ∨ r.o.kind = 3 ∨ r.o.kind = 4) ∧ r.ph = 1 then 1 else 0
inductive Rel (G : Int -> Blb) (s : Shd) (r : Run) : Ag -> Nat -> Prop
 | idle (h0 : r.ph = 0) (hf : r.flag = false) (hb : r.Bare) : Rel G s r (Ag.idle r.who) (r.need s)
 | make (hk : r.wrt) (h0 : r.ph = 1) (hf : r.flag = true) (hb : r.Bare) (hd : FlagAt s r) : Rel G s r ⟨r.who, some (r.o.series, r.slot), [], [], none, none⟩ 2
 | put (hk : r.wrt) (h0 : r.ph = 3) (hf : r.flag = true) (hb : r.Bare) (hd : FlagAt s r) (hs : SlotOk G s.b.last r.next) (hl0 : 0 <= r.next.life) (hl : r.next.life <= r.slot.life + 1) (he : Eff G r) : Rel G s r ⟨r.who, some (r.o.series, r.next), [], [], none, none⟩ 1
 | hard (hk : r.o.kind = 2) (h0 : r.ph = 1) (hf : r.flag = true) (hb : r.Bare) (hd : FlagAt s r) : Rel G s r ⟨r.who, some (r.o.series, r.slot), [], [], none, none⟩ (2 + 6 * r.slot.chunks.length)
 | read (hk : r.o.kind = 2) (hh : r.held = true) (hu : r.using_ = false) {sl : SlotV} {fl se : Option (Int × SlotV)} {pn : List Key3} {k : Nat}
   (hsl : (r.flag = true ∧ FlagAt s r ∧ sl = r.slot ∧ fl = some (r.o.series, r.slot) ∧ se = none) ∨ (r.flag = false ∧ fl = none ∧ se = some (r.o.series, sl) ∧ r.fails <= 2))
   (ht : sl.there = true) (hs : SlotOk G s.b.last sl) (hx : r.x = sl.snap r.o.F r.o.To) (hp : PartSt G r.x r.o.series r.one r.i r.got pn k)
   (hph : (r.ph = 2 ∧ r.i ≠ (r.x.parts.length : Int)) ∨ (r.ph = 3 ∧ r.i = (r.x.parts.length : Int))) : Rel G s r ⟨r.who, fl, r.x.parts, pn, none, se⟩ (k + 1)
 | next (hk : r.o.kind = 6) (hf : r.flag = false) (hh : r.held = false) (hu : r.using_ = true) {o : On} {pn : List Key3} {k : Nat}
   (hg : mget r.o.iter s.t.l = some o) (hou : o.used = true) (how : o.who = r.who) (hox : o.x = r.x) (hot : o.told = r.told) (hp : PartSt G r.x o.series r.one r.i r.got pn k) (hn0 : r.cap ≠ 0)
   (hph : (r.ph = 2 ∧ r.i ≠ (r.x.parts.length : Int) ∧ (r.got.length : Int) < r.told + r.cap) ∨ (r.ph = 3 ∧ r.one = none ∧ pn = [] ∧ (r.i = (r.x.parts.length : Int) ∨ r.told + r.cap <= (r.got.length : Int)))) : Rel G s r ⟨r.who, none, [], pn, some r.o.iter, none⟩ (k + 1)
theorem ite3 (c : Prop) [Decidable c] : (if c then (3 : Int) else 2) ≠ 0 := by split <;> decide
def AllPinned (A : List Ag) (C : Cac) : Prop := ∃ ks : List Key3, ks.Nodup ∧ C.clk.most <= (ks.length : Int) ∧ ∀ k ∈ ks, k ∈ A.flatMap Ag.pins
theorem allPinned_of {C : Cac} (hC : CacInv C (A.flatMap Ag.pins) al G b) (h1 : C.clk.most <= (C.clk.res.length : Int)) (h2 : ∀ j a, C.pins j = some a -> a ≠ 0) : AllPinned A C := by
 refine ⟨keys C.clk.res, hC.good.clk.resNodup, by unfold keys; rw [Ve]; exact h1, fun k hk => ?_⟩
 cases hp : C.pins k with
 | none => exact absurd hk (mget_none.1 hp)
 | some x =>
  have h3 := hC.pin k x hp
  have h4 := h2 k x hp
  exact List.count_pos_iff.1 O0
inductive Did (A : List Ag) (al : Int -> Bool) (s : Shd) (G : Int -> Blb) (r : Run) (k : Nat) (a' : Ag) (G' : Int -> Blb) (q : Run × Shd × Int) : Prop
 | none (h : q = (r, s, 0)) (hp : r.ph = 0) (hb : Blk A r.o)
 | some (h : q.2.2 = 1) (ho : RunOk al q.1) (k' : Nat) (hr : Rel G' q.2.1 q.1 a' k') (hk : (k' < k ∧ q.1.fails = r.fails ∧ q.1.ph ≠ 0) ∨ (r.o.kind = 2 ∧ q.1.ph = 0 ∧ q.1.fails = r.fails + 1 ∧ k = 1 ∧ r.flag = false)) (ha : abs q.2.1 G' = abs s G) (hw : r.wrt -> (r.ph = 0 ∧ q.1.ph = 1 ∧ q.2.1.b = s.b ∧ Dir.look s.d r.o.series = Option.some q.1.slot) ∨ (r.ph = 1 ∧ q.1.ph = 3))
 | point (h : q.2.2 = 2) (ho : q.1.over = true) (hh : q.1.holds = 0) (ha' : a' = Ag.idle r.who) (ha : (abs s G).act r.o = (abs q.2.1 G', q.1.res))
 | full (h : q.2.2 = 3) (h1 : r.ph = 1) (ho : q.1.over = true) (hh : q.1.holds = 0) (ha' : a' = Ag.idle r.who) (ha : abs q.2.1 G' = abs s G) (he : q.1.res = ⟨9, 0, []⟩) (hs : q.2.1.b = s.b) (hw : (r.o.kind = 1 ∧ (s.b.room < 16 ∨ r.slot.opn.length = 7)) ∨ (r.o.kind = 3 ∧ r.slot.opn ≠ [])) (hroom : s.b.room < 300)
 | busy (h : q.2.2 = 3) (ho : q.1.over = true) (hh : q.1.holds = 0) (ha' : a' = Ag.idle r.who) (ha : abs q.2.1 G' = abs s G) (he : q.1.res = ⟨6, 0, []⟩) (hc : AllPinned A s.c) (hr : r.o.kind = 2 ∨ r.o.kind = 6)
structure Out (A : List Ag) (al : Int -> Bool) (s : Shd) (G : Int -> Blb) (n : Nat) (r : Run) (k : Nat) (q : Run × Shd × Int) (a' : Ag) (acc' : List SlotV) (G' : Int -> Blb) : Prop where
 inv : Inv q.2.1 (a' :: A) acc' al G' (n + 2)
 same : ∀ id, id <= s.b.last -> G' id = G id
 le : s.b.last <= q.2.1.b.last
 le1 : q.2.1.b.last <= s.b.last + r.adds
 tag : ∀ id, s.b.last < id -> id <= q.2.1.b.last -> (G' id).tag = 1 ∧ (G' id).L.length <= 8
 keeps : Keeps r.who s q.2.1
 who : q.1.who = r.who
 o : q.1.o = r.o
 most : q.2.1.c.clk.most = s.c.clk.most
 budget : q.2.1.b.budget = s.b.budget
 did : Did A al s G r k a' G' q
theorem Inv.fits (h : Inv s A acc al G n) : Dir.Fits s.d := by
 intro p hp
 obtain ⟨i, hi⟩ := Zn.1 hp
 obtain ⟨h1, h2, _⟩ := h.dir.ok i p hi
 have := h1.few
 have := h.last
 omega
theorem Inv.free_id (h : Inv s A acc al G n) : mget (wI (s.b.last + 1)) s.b.l = none := by
 have h0 := h.b0
 have h1 := h.last
 have hw : wI (s.b.last + 1) = s.b.last + 1 := jp (by have := h.b0; dsimp only [List.length] at this; omega) O0
 rw [hw]
 exact mget_none.2 fun hk => by have := (h.sto.rng _ hk).2; omega
theorem Inv.acc_at (h : Inv s (a :: A) acc al G n) {i : Nat} {x : SlotV} (ha : a.flag = some ((i : Int), x)) : acc[i]? = some x := by
 have hd := h.dir
 rw [Uh, ux ha] at hd
 obtain ⟨_, _, p, _, _, _, hpa⟩ := hd.flg _ (Ub ..)
 exact hpa
theorem sumF_mem {α : Type} (f : α -> Nat) {l : List α} {i : Nat} {x : α} (h : l[i]? = some x) : f x <= sumF f l := sumF_le f (Uj h)
theorem vh {m : Mdl} {o : Opr} (hb : Run.bad o = false) (h6 : o.kind ≠ 6) (h7 : o.kind ≠ 7) : m.act o = match m.ser o.series with
  | none => if o.kind = 1 then ({ m with ser := upS m.ser o.series (some (false, [⟨o.T, (o.V : Int)⟩])) }, ⟨0, 0, []⟩) else m.err 3
  | some (cl, L) =>
   if o.kind = 1 then if cl then m.err 2 else if o.T <= lastT L then m.err 1 else ({ m with ser := upS m.ser o.series (some (false, L ++ [⟨o.T, (o.V : Int)⟩])) }, ⟨0, 0, []⟩)
   else if o.kind = 2 then (m, ⟨0, 0, within L o.F o.To⟩)
   else if o.kind = 3 then if cl then m.err 2 else ({ m with ser := upS m.ser o.series (some (true, L)) }, ⟨0, 0, []⟩)
   else if o.kind = 4 then ({ m with ser := upS m.ser o.series none }, ⟨0, 0, []⟩)
   else if m.its.length ≥ 8 then m.err 5
   else ({ m with its := m.its ++ [(m.next + 1, within L o.F o.To)], next := m.next + 1 }, ⟨0, m.next + 1, []⟩) := by
 unfold Mdl.act
 rw [hb, if_neg O2, if_neg h6, if_neg h7]
 all_goals rfl
theorem up (r : Run) : (r.slot.there = false ∧ r.o.kind ≠ 1 ∧ r.wrong = 3) ∨ (r.slot.there = true ∧ r.o.kind ≠ 4 ∧ r.slot.closed = true ∧ r.wrong = 2) ∨
  (r.slot.there = true ∧ r.slot.closed = false ∧ r.o.kind = 1 ∧ r.o.T <= r.slot.last ∧ r.wrong = 1) ∨
  (r.wrong = 0 ∧ (r.o.kind ≠ 1 -> r.slot.there = true) ∧ (r.slot.there = true -> r.o.kind ≠ 4 -> r.slot.closed = false) ∧ (r.o.kind = 1 -> r.slot.there = true -> r.slot.any = true -> r.slot.last < r.o.T)) := by
 obtain ⟨w, hw⟩ : ∃ w, r.wrong = w := ⟨_, rfl⟩
 have hw' := hw
 rw [hw]
 unfold Run.wrong at hw'
 by_cases c1 : r.o.kind ≠ 1 ∧ r.slot.there = false
 ·rw [if_pos c1] at hw'
  exact .inl ⟨c1.2, c1.1, hw'.symm⟩
 ·rw [if_neg c1] at hw'
  by_cases c2 : r.o.kind ≠ 4 ∧ r.slot.there = true ∧ r.slot.closed = true
  ·rw [if_pos c2] at hw'
   exact .inr (.inl ⟨c2.2.1, c2.1, c2.2.2, hw'.symm⟩)
  ·rw [if_neg c2] at hw'
   by_cases c3 : r.o.kind = 1 ∧ r.slot.there = true ∧ r.slot.any = true ∧ r.o.T <= r.slot.last
   ·rw [if_pos c3] at hw'
    refine .inr (.inr (.inl ⟨c3.2.1, ?_, c3.1, c3.2.2.2, hw'.symm⟩))
    rw [<- Ke]
    exact fun h => c2 ⟨by have := c3.1; omega, c3.2.1, h⟩
   ·rw [if_neg c3] at hw'
    refine .inr (.inr (.inr ⟨hw'.symm, fun h => ?_, fun h1 h2 => ?_, fun h1 h2 h3 => ?_⟩))
    ·cases ht : r.slot.there with
     | true => rfl
     | false => exact absurd ⟨h, ht⟩ c1
    ·rw [<- Ke]
     exact fun h => c2 ⟨h2, h1, h⟩
    ·exact Wg fun h => c3 ⟨h1, h2, h3, O_o⟩
theorem fv (h : r.slot.there = false) : r.slot.tells G = none := by unfold SlotV.tells; rw [h]; rfl
theorem vz (h : r.slot.there = true) : r.slot.tells G = some (r.slot.closed, r.slot.all G) := by unfold SlotV.tells; rw [h]; rfl
theorem ax {m : Mdl} (hk : r.wrt) (hb : Run.bad r.o = false) (hs : SlotOk G b r.slot) (hm : m.ser r.o.series = r.slot.tells G) (hw : r.wrong ≠ 0) : m.act r.o = (m, ⟨r.wrong, 0, []⟩) := by
 have h6 : r.o.kind ≠ 6 := by rcases hk with h | h | h <;> omega
 have h7 : r.o.kind ≠ 7 := by rcases hk with h | h | h <;> omega
 have h2 : r.o.kind ≠ 2 := by rcases hk with h | h | h <;> omega
 have h5 : r.o.kind ≠ 5 := by rcases hk with h | h | h <;> omega
 rw [vh hb h6 h7, hm]
 rcases up r with ⟨h1, hk1, hw1⟩ | ⟨h1, hk1, hc, hw1⟩ | ⟨h1, hc, hk1, hT, hw1⟩ | ⟨hw1, _⟩
 ·rw [fv h1, hw1]
  dsimp only
  rw [if_neg hk1]; rfl
 ·rw [vz h1, hw1, hc]
  dsimp only
  by_cases h1 : r.o.kind = 1
  ·rw [if_pos h1, if_pos rfl]; rfl
  ·rw [if_neg h1, if_neg h2, if_pos (by rcases hk with h | h | h; exact absurd h h1; exact h; exact absurd h hk1), if_pos rfl]; rfl
 ·rw [vz h1, hw1, hc]
  dsimp only
  rw [if_pos hk1, if_neg O2, if_pos (by rw [<- (hs.yes h1).2.2]; exact hT)]; rfl
 ·exact absurd hw1 hw
theorem add_eq (hk : r.o.kind = 1) (hs : SlotOk G b r.slot) (hw : r.wrong = 0) :
  (if r.slot.there then r.slot else { SlotV.zero with there := true, life := r.slot.life } : SlotV).add ⟨r.o.T, (r.o.V : Int)⟩ = r.slot.more ⟨r.o.T, (r.o.V : Int)⟩ ∧ (r.slot.there = true -> r.slot.closed = false) ∧ (r.slot.all G = [] ∨ lastT (r.slot.all G) < r.o.T) := by
 rcases up r with ⟨_, _, hw1⟩ | ⟨_, _, _, hw1⟩ | ⟨_, _, _, _, hw1⟩ | ⟨_, _, hcl, hT⟩
 ·rw [hw] at hw1; cases hw1
 ·rw [hw] at hw1; cases hw1
 ·rw [hw] at hw1; cases hw1
 unfold SlotV.more
 cases ht : r.slot.there with
 | false =>
  obtain ⟨h1, h2⟩ := hs.no ht
  refine ⟨?_, fun h => (by cases h), .inl ?_⟩
  ·rw [if_neg O2, h1]; rfl
  ·unfold SlotV.all; rw [h1, h2]; rfl
 | true =>
  obtain ⟨ha, hne, hlast⟩ := hs.yes ht
  have hT := hT hk ht ha
  refine ⟨?_, fun _ => hcl ht O0, .inr (by rw [<- hlast]; exact hT)⟩
  rw [if_pos rfl]
  unfold SlotV.add
  rw [if_neg (fun h => by have := h.2; dsimp only at this; omega)]
theorem bu {x : Smp} {sl : SlotV} (hs : SlotOk G b sl) (hx : x.Wf) (hr : sl.all G = [] ∨ lastT (sl.all G) < x.T) (hcl : sl.there = true -> sl.closed = false) :
  RiseP (sl.all G ++ [x]) ∧ (∀ y ∈ (sl.more x).opn, y.Wf) ∧ RiseP (sl.more x).opn ∧ (sl.more x).closed = false ∧ (sl.more x).tells G = some (false, sl.all G ++ [x]) := by
 obtain ⟨e1, e2, e3, e4, e5, e6⟩ := hs.opn_more x
 have hall := hs.all_more x
 have hrise := au hs.rise hr
 have hc : (sl.more x).closed = false := by
  unfold SlotV.more
  cases ht : sl.there with
  | true => exact hcl ht
  | false => rfl
 refine ⟨hrise, fun y hy => ?_, ?_, hc, ?_⟩
 ·rw [e1] at hy
  rcases Ws.1 hy with hy | hy
  ·exact hs.wf y hy
  ·rw [Vc] at hy; rw [hy]; exact hx
 ·rw [e1]
  refine hrise.sublist ?_
  unfold SlotV.all
  rw [Um]
  exact List.sublist_append_right _ _
 ·unfold SlotV.tells
  rw [e3, if_pos rfl, hc, hall]
theorem qgn {x : Smp} {sl : SlotV} (hs : SlotOk G b sl) (hx : x.Wf) (hr : sl.all G = [] ∨ lastT (sl.all G) < x.T) (hcl : sl.there = true -> sl.closed = false) (h7 : sl.opn.length < 7) : SlotOk G b (sl.more x) := by
 obtain ⟨e1, e2, e3, e4, e5, e6⟩ := hs.opn_more x
 have hall := hs.all_more x
 obtain ⟨m1, m2, m3, m4, m5⟩ := bu hs hx hr hcl
 exact ⟨fun h => (by rw [e3] at h; cases h), fun _ => ⟨e4, by rw [hall]; exact Xw _ (List.cons_ne_nil _ _), by rw [e5, hall, lastT_snoc]⟩, by rw [e1, Ua]; show _ + 1 <= 7; omega, fun h => (by rw [m4] at h; cases h), m2, fun p hp => hs.prts p (by rw [<- e2]; exact hp), by rw [hall]; exact m1⟩
theorem i4 {sl : SlotV} {p : Prt} (ht : sl.there = true) (ha : sl.any = true) (hl : sl.last = lastT (sl.all G)) (hne : sl.all G ≠ []) (hr : RiseP (sl.all G)) (hp : PrtOk G b p) (hps : ∀ q ∈ sl.chunks, PrtOk G b q) (he : (G p.blob).L = sl.opn) : SlotOk G b (sl.shut p) := by
 have hall := sl.all_shut he
 refine ⟨fun h => ?_, fun _ => ⟨ha, by rw [hall]; exact hne, by rw [hall]; exact hl⟩, Ud _, fun _ => rfl, fun x hx => (by cases hx), fun q hq => ?_, by rw [hall]; exact hr⟩
 ·have h' : sl.there = false := h
  rw [ht] at h'; cases h'
 ·rcases Ws.1 (show q ∈ sl.chunks ++ [p] from hq) with hq | hq
  ·exact hps q hq
  ·rw [Vc] at hq; rw [hq]; exact hp
end
section
variable {s s' s2 : Shd} {a : Ag} {A : List Ag} {acc : List SlotV} {al : Int -> Bool} {G G' : Int -> Blb} {n n' : Nat} {r : Run} {ps pn : List Key3} {b b' : Int} {who series : Int} {k : Nat}
theorem holds0 (h1 : r.flag = false) (h2 : r.using_ = false) (h3 : r.held = false) : r.holds = 0 := by unfold Run.holds; rw [h1, h2, h3]; rfl
theorem tw (hk : r.wrt) : r.o.kind ≠ 2 ∧ r.o.kind ≠ 5 ∧ r.o.kind ≠ 6 ∧ r.o.kind ≠ 7 ∧ 1 <= r.o.kind ∧ r.o.kind <= 5 := by rcases hk with h | h | h <;> omega
theorem xt (hb : Run.bad r.o = false) (h1 : 1 <= r.o.kind) (h5 : r.o.kind <= 5) : 0 <= r.o.series ∧ r.o.series < 16 := by
 unfold Run.bad at hb
 rw [if_pos ⟨h1, h5⟩, Za, decide_eq_false_iff_not, decide_eq_false_iff_not] at hb
 omega
theorem aw (hI : Inv s (a :: A) acc al G n) (hr : RunOk al r) (hk : r.wrt) (hd : FlagAt s r) (hw : r.wrong = 0) (ha : a = ⟨r.who, some (r.o.series, r.slot), [], [], none, none⟩) (hn : n + 2 <= 1000000000) (hb : s.b.last < 100000) :
  (∃ nx, r.make s = ({ r with next := nx }, s, false) ∧ ((r.o.kind = 1 ∧ (s.b.room < 16 ∨ r.slot.opn.length = 7)) ∨ (r.o.kind = 3 ∧ r.slot.opn ≠ [])) ∧ s.b.room < 300) ∨
  ∃ nx S' G' acc', r.make s = ({ r with next := nx }, { s with b := S' }, true) ∧ Inv { s with b := S' } ({ a with flag := some (r.o.series, nx) } :: A) acc' al G' n ∧ (∀ id, id <= s.b.last -> G' id = G id) ∧ s.b.last <= S'.last ∧ S'.last <= s.b.last + 1 ∧ S'.budget = s.b.budget ∧
   SlotOk G' S'.last nx ∧ 0 <= nx.life ∧ nx.life <= r.slot.life + 1 ∧ Eff G' { r with next := nx } ∧ nx.opn.length <= 8 ∧ nx.chunks.length <= 100000 ∧ ∀ id, s.b.last < id -> id <= S'.last -> (G' id).tag = 1 ∧ (G' id).L.length <= 8 := by
 obtain ⟨hs, hch, hl0, hl1, hser⟩ := hd.ok hI
 obtain ⟨n2, n5, n6, n7, k1, k5⟩ := tw hk
 obtain ⟨i, e, hi, hdi⟩ := hd
 have haf : a.flag = some ((i : Int), r.slot) := by rw [ha, <- e]
 have hacc := hI.acc_at haf
 have hb0 : 0 <= s.b.last := hI.sto.ok.l0
 have hopc : r.slot.opn.length <= chOf acc := sumF_mem (fun x : SlotV => x.opn.length) hacc
 have hrise : RiseP r.slot.opn := hs.rise.sublist (by unfold SlotV.all; exact List.sublist_append_right _ _)
 unfold Run.make
 dsimp only
 obtain ⟨w3, w4, w5⟩ : (r.o.kind ≠ 1 -> r.slot.there = true) ∧ (r.slot.there = true -> r.o.kind ≠ 4 -> r.slot.closed = false) ∧ True := by
  rcases up r with ⟨_, _, hw1⟩ | ⟨_, _, _, hw1⟩ | ⟨_, _, _, _, hw1⟩ | ⟨_, q1, q2, _⟩
  ·rw [hw] at hw1; cases hw1
  ·rw [hw] at hw1; cases hw1
  ·rw [hw] at hw1; cases hw1
  ·exact ⟨q1, q2, trivial⟩
 by_cases hk1 : r.o.kind = 1
 ·rw [if_pos hk1]
  obtain ⟨hadd, hcl, hT⟩ := add_eq hk1 hs hw
  have hxw : (⟨r.o.T, (r.o.V : Int)⟩ : Smp).Wf := ⟨hr.wf.2.2.2.1, ⟨O_d, by have := hr.wf.2.2.2.2.1; dsimp only; omega⟩⟩
  obtain ⟨x, hx⟩ : ∃ x : Smp, (⟨r.o.T, (r.o.V : Int)⟩ : Smp) = x := ⟨_, rfl⟩
  have hxT : x.T = r.o.T := by rw [<- hx]
  rw [hx] at hadd hxw
  rw [<- hxT] at hT
  obtain ⟨m1, m2, m3, m4, m5⟩ := bu hs hxw hT hcl
  obtain ⟨f1, f2, f3, f4, f5, f6⟩ := hs.opn_more x
  have hmall := hs.all_more x
  have hflen : (r.slot.more x).opn.length = r.slot.opn.length + 1 := by rw [f1, Ua]; rfl
  have h7 := hs.few
  have heff : ∀ (nx : SlotV) (G2 : Int -> Blb), r.slot.tells G2 = r.slot.tells G -> nx.tells G2 = some (false, r.slot.all G ++ [x]) -> Eff G2 { r with next := nx } := by
   intro nx G2 ht2 hnx m hm
   dsimp only at hm ⊢
   rw [vh hr.bad n6 n7, hm, ht2, hnx, hx]
   cases ht : r.slot.there with
   | false =>
    rw [fv ht]
    obtain ⟨h1, h2⟩ := hs.no ht
    have he : r.slot.all G = [] := by unfold SlotV.all; rw [h1, h2]; rfl
    rw [he]
    dsimp only
    rw [if_pos hk1]; rfl
   | true =>
    rw [vz ht, hcl ht]
    dsimp only
    rw [if_pos hk1, if_neg O2, if_neg]
    intro hle
    rcases hT with hT | hT
    ·exact (hs.yes ht).2.1 hT
    ·omega
  have hr1 : ∀ z, ({ r with next := r.slot } : Run).add z = match z.b.chg 16 with
    | (false, _) => ({ r with next := r.slot.more x }, z, false)
    | (true, b) => if (r.slot.more x).opn.length < 8 then ({ r with next := r.slot.more x }, { z with b := b }, true)
     else match ({ r with next := r.slot.more x } : Run).close { z with b := b } with
      | (r, s, true) => (r, s, true)
      | (r, s, false) => (r, { s with b := (s.b.chg (-16)).2 }, false) := by
   intro z
   unfold Run.add
   dsimp only
   rw [hx, hadd]
   rfl
  rw [hr1]
  rcases hI.sto.charge 1 O0 with ⟨c1, c2⟩ | ⟨S1, c1, c2, c3, c4⟩
  ·have c1' : s.b.chg 16 = (false, s.b) := c1
   rw [c1']
   exact .inl ⟨_, rfl, .inl ⟨hk1, .inl O0⟩, O_o⟩
  ·have c1' : s.b.chg 16 = (true, S1) := c1
   rw [c1']
   dsimp only
   have hS1l : S1.last = s.b.last := by rw [c2]
   have hS1b : S1.budget = s.b.budget := by rw [c2]
   by_cases h8 : (r.slot.more x).opn.length < 8
   ·rw [if_pos h8]
    have hok := qgn hs hxw hT hcl O0
    have hch2 := xf (y := r.slot.more x) hacc
    have hAcc := hI.account (y := r.slot.more x) (S := S1) (G' := G) (n' := n) haf (by
     have hc0 : chOf (acc.set i (r.slot.more x)) = chOf acc + 1 := by omega
     rw [hc0]
     refine c3.eqv fun id => ?_
     have := ye (y := r.slot.more x) (A := a :: A) hacc s.t id
     rw [f2] at this
     omega) O0 O0 (fun _ _ => rfl) (Ug _) O0 (by rw [f2, hS1l]; exact hch) O0
    rw [<- e] at hAcc
    exact .inr ⟨_, S1, G, _, rfl, hAcc, fun _ _ => rfl, O_o, O_o, hS1b, by rw [hS1l]; exact hok, by rw [f6]; exact hl0, by rw [f6]; omega, heff _ _ rfl m5, O_o, by rw [f2]; exact hr.s5, fun _ h1 h2 => by omega⟩
   ·rw [if_neg h8]
    have h7' : r.slot.opn.length = 7 := by omega
    rcases mt (s := { s with b := S1 }) (r := { r with next := r.slot.more x }) (cnt := cntOf acc (a :: A) s.t) (ch := chOf acc + 1) (G := G) c3 O21 O21 O21 O21 m2 m3 with ⟨k1, bs, kb1, kb2⟩ | ⟨S', k1, k2, k3, k4⟩
    ·have hbl := chMake1_lenN kb1
     (try dsimp only at hbl kb2)
     have hroom : S1.room = s.b.room - 16 := by
      rw [c2]
      show s.b.budget - s.b.bytes - (s.b.charged + 16 * ((1 : Nat) : Int)) = s.b.budget - s.b.bytes - s.b.charged - 16
      omega
     rw [k1]
     dsimp only
     have hf := (c3.free 1 O0 O0).1
     have hf' : S1.chg (-16) = (true, { S1 with charged := S1.charged - 16 }) := hf
     rw [hf', c2]
     refine .inl ⟨r.slot.more x, ?_, .inl ⟨hk1, .inr h7'⟩, O_o⟩
     show (({ r with next := r.slot.more x } : Run), ({ s with b := { s.b with charged := s.b.charged + 16 * ((1 : Nat) : Int) - 16 } } : Shd), false) = _
     rw [show s.b.charged + 16 * ((1 : Nat) : Int) - 16 = s.b.charged by omega]
    ·dsimp only at k1 k2 k3 k4 ⊢
     rw [hS1l] at k1 k2 k3
     rw [k1]
     dsimp only
     have hpk : PrtOk (gadd G s.b.last (r.slot.more x).opn) (s.b.last + 1) (partOf (s.b.last + 1) (r.slot.more x).opn) := partOk hb0 (by rw [f1]; exact Xw _ (List.cons_ne_nil _ _)) O0 m2 m3
     have hold : ∀ id, id <= s.b.last -> gadd G s.b.last (r.slot.more x).opn id = G id := fun id hid => bj id hid
     obtain ⟨hs', hall'⟩ := hs.more (b' := s.b.last + 1) O0 hold
     have hpn : (gadd G s.b.last (r.slot.more x).opn (partOf (s.b.last + 1) (r.slot.more x).opn).blob).L = (r.slot.more x).opn := by
      show (gadd G s.b.last (r.slot.more x).opn (s.b.last + 1)).L = _
      rw [kq]
     have hmall' : (r.slot.more x).all (gadd G s.b.last (r.slot.more x).opn) = r.slot.all G ++ [x] := by rw [hs'.all_more x, hall']
     have hokS : SlotOk (gadd G s.b.last (r.slot.more x).opn) (s.b.last + 1) ((r.slot.more x).shut (partOf (s.b.last + 1) (r.slot.more x).opn)) :=
      i4 f3 f4 (by rw [hmall', f5, lastT_snoc]) (by rw [hmall']; exact Xw _ (List.cons_ne_nil _ _)) (by rw [hmall']; exact m1) hpk (fun q hq => hs'.prts q (by rw [<- f2]; exact hq)) hpn
     have hch2 := xf (y := (r.slot.more x).shut (partOf (s.b.last + 1) (r.slot.more x).opn)) hacc
     have hsc : ((r.slot.more x).shut (partOf (s.b.last + 1) (r.slot.more x).opn)).chunks = r.slot.chunks ++ [partOf (s.b.last + 1) (r.slot.more x).opn] := by show (r.slot.more x).chunks ++ _ = _; rw [f2]
     have hso : ((r.slot.more x).shut (partOf (s.b.last + 1) (r.slot.more x).opn)).opn.length = 0 := rfl
     have hlast := hI.last
     have hAcc := hI.account (y := (r.slot.more x).shut (partOf (s.b.last + 1) (r.slot.more x).opn)) (S := S') (G' := gadd G s.b.last (r.slot.more x).opn) (n' := n) haf (by
      have hc0 : chOf (acc.set i ((r.slot.more x).shut (partOf (s.b.last + 1) (r.slot.more x).opn))) = chOf acc + 1 - (r.slot.more x).opn.length := by omega
      rw [hc0]
      refine k2.eqv fun id => ?_
      have := ye (y := (r.slot.more x).shut (partOf (s.b.last + 1) (r.slot.more x).opn)) (A := a :: A) hacc s.t id
      rw [hsc, mp, yi, uy] at this
      have e3 : (partOf (s.b.last + 1) (r.slot.more x).opn).blob = s.b.last + 1 := rfl
      rw [e3] at this
      omega) O0 O0 hold (Ug _) O0 (by rw [hsc, Ua]; show ((r.slot.chunks.length + 1 : Nat) : Int) <= _; omega) O0
     rw [<- e] at hAcc
     refine .inr ⟨_, S', _, _, rfl, hAcc, hold, O_o, O_o, k4.trans hS1b, by rw [k3]; exact hokS, ?_, ?_, heff _ _ ?_ ?_, O_o, by rw [hsc, Ua]; show r.slot.chunks.length + 1 <= _; omega, fun id h1 h2 => by
      obtain rfl : id = s.b.last + 1 := by omega
      rw [kq]
      exact ⟨rfl, by show (r.slot.more x).opn.length <= 8; omega⟩⟩
     ·show 0 <= (r.slot.more x).life; rw [f6]; exact hl0
     ·show (r.slot.more x).life <= _; rw [f6]; omega
     ·unfold SlotV.tells; rw [hall']
     ·unfold SlotV.tells
      rw [SlotV.all_shut _ hpn, hmall']
      show (if (r.slot.more x).there then some ((r.slot.more x).closed, _) else none) = _
      rw [f3, m4]; rfl
 ·have ht := w3 hk1
  rw [if_neg hk1]
  by_cases hk3 : r.o.kind = 3
  ·rw [if_pos hk3]
   have hcl := w4 ht O0
   obtain ⟨hany, hne, hlst⟩ := hs.yes ht
   have heff : ∀ (nx : SlotV) (G2 : Int -> Blb), r.slot.tells G2 = r.slot.tells G -> nx.tells G2 = some (true, r.slot.all G) -> Eff G2 { r with next := nx } := by
    intro nx G2 ht2 hnx m hm
    dsimp only at hm ⊢
    rw [vh hr.bad n6 n7, hm, ht2, hnx, vz ht, hcl]
    dsimp only
    rw [if_neg hk1, if_neg n2, if_pos hk3, if_neg O2]
   unfold Run.seal_
   dsimp only
   have hokc : SlotOk G s.b.last { r.slot with closed := true } ∨ r.slot.opn ≠ [] := by
    by_cases ho : r.slot.opn = []
    ·exact .inl ⟨hs.no, hs.yes, hs.few, fun _ => ho, hs.wf, hs.prts, hs.rise⟩
    ·exact .inr ho
   by_cases hz : r.slot.opn.length = 0
   ·rw [if_pos hz]
    have ho : r.slot.opn = [] := List.length_eq_zero_iff.1 hz
    have hok : SlotOk G s.b.last { r.slot with closed := true } := ⟨hs.no, hs.yes, hs.few, fun _ => ho, hs.wf, hs.prts, hs.rise⟩
    have hch2 := xf (y := { r.slot with closed := true }) hacc
    have hAcc := hI.account (y := { r.slot with closed := true }) (S := s.b) (G' := G) (n' := n) haf (by
     have hc0 : chOf (acc.set i { r.slot with closed := true }) = chOf acc := Zx hch2
     rw [hc0]
     exact hI.sto.eqv fun id => Zx (ye (y := { r.slot with closed := true }) (A := a :: A) hacc s.t id)) (Uu _) O0 (fun _ _ => rfl) (Ug _) O0 hch (by have := hs.few; (try dsimp only); omega)
    rw [<- e] at hAcc
    refine .inr ⟨_, s.b, G, _, rfl, hAcc, fun _ _ => rfl, Uu _, O_o, rfl, hok, hl0, O_t, heff _ _ rfl ?_, hr.s4, hr.s5, fun _ h1 h2 => by omega⟩
    unfold SlotV.tells
    dsimp only
    rw [ht]; rfl
   ·rw [if_neg hz]
    have hone : r.slot.opn ≠ [] := fun h => hz (by rw [h]; rfl)
    have h7 := hs.few
    rcases mt (s := s) (r := { r with next := { r.slot with closed := true } }) (cnt := cntOf acc (a :: A) s.t) (ch := chOf acc) (G := G) hI.sto O0 O21 O21 O21 hs.wf hrise with ⟨k1, bs, kb1, kb2⟩ | ⟨S', k1, k2, k3, k4⟩
    ·have hbl := chMake1_lenN kb1
     (try dsimp only at hbl kb2)
     exact .inl ⟨_, k1, .inr ⟨hk3, hone⟩, O_o⟩
    ·dsimp only at k1 k2
     have hpk : PrtOk (gadd G s.b.last r.slot.opn) (s.b.last + 1) (partOf (s.b.last + 1) r.slot.opn) := partOk hb0 hone O0 hs.wf hrise
     have hold : ∀ id, id <= s.b.last -> gadd G s.b.last r.slot.opn id = G id := fun id hid => bj id hid
     obtain ⟨hs', hall'⟩ := hs.more (b' := s.b.last + 1) O0 hold
     have hpn : (gadd G s.b.last r.slot.opn (partOf (s.b.last + 1) r.slot.opn).blob).L = r.slot.opn := by
      show (gadd G s.b.last r.slot.opn (s.b.last + 1)).L = _
      rw [kq]
     obtain ⟨q1, q2, q3⟩ := hs'.yes ht
     have hokS : SlotOk (gadd G s.b.last r.slot.opn) (s.b.last + 1) (({ r.slot with closed := true } : SlotV).shut (partOf (s.b.last + 1) r.slot.opn)) :=
      i4 ht hany q3 q2 hs'.rise hpk hs'.prts hpn
     have hch2 := xf (y := ({ r.slot with closed := true } : SlotV).shut (partOf (s.b.last + 1) r.slot.opn)) hacc
     have hlast := hI.last
     have hAcc := hI.account (y := ({ r.slot with closed := true } : SlotV).shut (partOf (s.b.last + 1) r.slot.opn)) (S := S') (G' := gadd G s.b.last r.slot.opn) (n' := n) haf (by
      have hc0 : chOf (acc.set i (({ r.slot with closed := true } : SlotV).shut (partOf (s.b.last + 1) r.slot.opn))) = chOf acc - r.slot.opn.length := by
       have hz0 : (({ r.slot with closed := true } : SlotV).shut (partOf (s.b.last + 1) r.slot.opn)).opn.length = 0 := rfl
       omega
      rw [hc0]
      refine k2.eqv fun id => ?_
      have := ye (y := ({ r.slot with closed := true } : SlotV).shut (partOf (s.b.last + 1) r.slot.opn)) (A := a :: A) hacc s.t id
      have hsc : (({ r.slot with closed := true } : SlotV).shut (partOf (s.b.last + 1) r.slot.opn)).chunks = r.slot.chunks ++ [partOf (s.b.last + 1) r.slot.opn] := rfl
      rw [hsc, mp, yi, uy] at this
      have e3 : (partOf (s.b.last + 1) r.slot.opn).blob = s.b.last + 1 := rfl
      rw [e3] at this
      omega) O0 O0 hold (Ug _) O0 (by show ((r.slot.chunks ++ [_]).length : Int) <= _; rw [Ua]; show ((r.slot.chunks.length + 1 : Nat) : Int) <= _; omega) (by show 0 <= 8; omega)
     rw [<- e] at hAcc
     refine .inr ⟨_, S', _, _, k1, hAcc, hold, O_o, O_o, k4, by rw [k3]; exact hokS, hl0, ?_, heff _ _ ?_ ?_, Ud _, by show (r.slot.chunks ++ [_]).length <= _; rw [Ua]; show r.slot.chunks.length + 1 <= _; omega, fun id h1 h2 => by
      obtain rfl : id = s.b.last + 1 := by omega
      rw [kq]
      exact ⟨rfl, by show r.slot.opn.length <= 8; omega⟩⟩
     ·show r.slot.life <= _; omega
     ·unfold SlotV.tells; rw [hall']
     ·unfold SlotV.tells
      rw [SlotV.all_shut ({ r.slot with closed := true } : SlotV) hpn]
      show (if r.slot.there then some (true, r.slot.all _) else none) = _
      rw [ht, hall']; rfl
  ·rw [if_neg hk3]
   have hk4 : r.o.kind = 4 := by rcases hk with h | h | h; exact absurd h hk1; exact absurd h hk3; exact h
   unfold Run.drop
   have h7 := hs.few
   have hwl : wI (r.slot.life + 1) = r.slot.life + 1 := jp O0 O0
   have hz : wI (0 - r.slot.size) = -(16 * (r.slot.opn.length : Int)) := by
    have hz : r.slot.size = 16 * (r.slot.opn.length : Int) := by show IntKind.i64.wrap _ = _; exact jp O0 O0
    rw [hz]
    show IntKind.i64.wrap _ = _
    rw [jp O0 O0]; omega
   rw [hwl, hz]
   obtain ⟨f1, f2⟩ := hI.sto.free r.slot.opn.length hopc O0
   rw [f1]
   dsimp only
   obtain ⟨nx, hnx⟩ : ∃ nx : SlotV, ({ SlotV.zero with life := r.slot.life + 1 } : SlotV) = nx := ⟨_, rfl⟩
   rw [hnx]
   have hnc : nx.chunks = [] := by rw [<- hnx]; rfl
   have hno : nx.opn = [] := by rw [<- hnx]; rfl
   have hnt : nx.there = false := by rw [<- hnx]; rfl
   have hnl : nx.life = r.slot.life + 1 := by rw [<- hnx]
   have hcl : nx.closed = false := by rw [<- hnx]; rfl
   have hall : nx.all G = [] := by unfold SlotV.all; rw [hnc, hno]; rfl
   have hok : SlotOk G s.b.last nx := ⟨fun _ => ⟨hno, hnc⟩, fun h => (by rw [hnt] at h; cases h), by rw [hno]; exact Ud _, fun _ => hno, fun x hx => (by rw [hno] at hx; cases hx), fun p hp => (by rw [hnc] at hp; cases hp), by rw [hall]; exact List.Pairwise.nil⟩
   obtain ⟨l1, l2, l3⟩ := StoInv.leave (ps := r.slot.chunks) (cnt' := cntOf (acc.set i nx) (a :: A) s.t) f2 fun id => by
    have := ye (y := nx) (A := a :: A) hacc s.t id
    rw [hnc, uy] at this
    omega
   have hch2 := xf (y := nx) hacc
   have hlast := hI.last
   have hAcc := hI.account (y := nx) (S := ({ s.b with charged := s.b.charged - 16 * (r.slot.opn.length : Int) } : Sto).leave r.slot.chunks) (G' := G) (n' := n) haf (by
    have hc0 : chOf (acc.set i nx) = chOf acc - r.slot.opn.length := by rw [hno] at hch2; dsimp only [List.length] at hch2; omega
    rw [hc0]
    exact l1) (by rw [l2]; exact Uu _) (by rw [l2]; exact hlast) (fun _ _ => rfl) (Ug _) O0 (by rw [hnc, l2]; exact hb0) (by rw [hno]; exact Ud _)
   rw [<- e] at hAcc
   refine .inr ⟨nx, _, G, _, rfl, hAcc, fun _ _ => rfl, by rw [l2]; exact Uu _, by rw [l2]; (try dsimp only); omega, l3, by rw [l2]; exact hok, O_o, O_o, ?_, by rw [hno]; exact Ud _, by rw [hnc]; exact Ud _, fun _ h1 h2 => by rw [l2] at h2; (try dsimp only at h2); omega⟩
   intro m hm
   dsimp only at hm ⊢
   rw [vh hr.bad n6 n7, hm, vz ht]
   dsimp only
   rw [if_neg hk1, if_neg n2, if_neg hk3, if_pos hk4]
   unfold SlotV.tells
   rw [hnt]; rfl
end
section
variable {s s' s2 : Shd} {a : Ag} {A : List Ag} {acc : List SlotV} {al : Int -> Bool} {G G' : Int -> Blb} {n n' : Nat} {r : Run} {ps pn : List Key3} {b b' : Int} {who series : Int} {k : Nat}
theorem serOf_here (h : Inv s A acc al G n) (hf : FlagAt s r) : serOf s.d G r.o.series = r.slot.tells G := (hf.ok h).2.2.2.2
theorem Inv.set_n (h : Inv s A acc al G n) (hn : n + 2 <= 1000000000) : Inv s A acc al G (n + 1) ∧ Inv s A acc al G (n + 2) := ⟨h.mono (Nat.le_add_right _ _) O0, h.mono (Nat.le_add_right _ _) O0⟩
theorem SlotV.len {sl : SlotV} (hs : SlotOk G b sl) (hc : (sl.chunks.length : Int) <= b) (hb : b <= 100000) : sl.opn.length <= 8 ∧ sl.chunks.length <= 100000 := ⟨by have := hs.few; omega, O_o⟩
theorem th (hI : Inv s (a :: A) acc al G n) (hr : RunOk al r) (hk : r.wrt) (hR : Rel G s r a k) (hn : n + 2 <= 1000000000) (hb : s.b.last < 100000) : r.WriteOk s ∧ ∃ a' acc' G', Out A al s G n r k (r.write s) a' acc' G' := by
 obtain ⟨n2, n5, n6, n7, k1, k5⟩ := tw hk
 obtain ⟨s0, s1⟩ := xt hr.bad k1 k5
 refine ⟨⟨hI.fits, fun hp hw => ?_, by have := hr.s4; omega, by have := hr.s5; omega, by have := hr.n4; omega, by have := hr.n5; omega⟩, ?_⟩
 ·cases hR with
  | idle h0 => omega
  | put hk' h0 => omega
  | hard hk' => exact absurd hk' n2
  | read hk' => exact absurd hk' n2
  | next hk' => exact absurd hk' n6
  | make hk' h0 hf hbr hd =>
   obtain ⟨q1, q2, _⟩ := hd.ok hI
   exact ⟨q1.wf, hr.wf, by have := hr.s4; omega, by have := hr.s5; omega, hI.free_id⟩
 ·have hadd0 : 0 <= r.adds := by unfold Run.adds; split <;> decide
  have hl0 : s.b.last <= s.b.last + r.adds := by omega
  cases hR with
  | hard hk' => exact absurd hk' n2
  | read hk' => exact absurd hk' n2
  | next hk' => exact absurd hk' n6
  | idle h0 hf hbr =>
   have hwr : r.write s = if (r.take s).2.2 then ((r.take s).1, (r.take s).2.1, 1) else ((r.take s).1, (r.take s).2.1, 0) := by
    unfold Run.write
    rw [if_pos h0]
    generalize r.take s = z
    obtain ⟨z1, z2, z3⟩ := z
    cases z3 <;> rfl
   have hneed : r.need s = 3 := by unfold Run.need; rw [if_neg n2, if_neg n6, if_neg (fun h => by rcases h with h | h; exact n5 h; exact n7 h)]
   rcases fg (r := r) hI rfl rfl s0 s1 O0 with ⟨t1, t2, t3⟩ | ⟨i, p, e, hi, hp, ht, hv, hlk, t1, t2, t3, t4, t5⟩
   ·rw [hwr, t1]
    refine ⟨_, _, G, (hI.set_n hn).2, fun _ _ => rfl, Uu _, hl0, fun _ h1 h2 => absurd h1 (Vj.2 h2), Keeps.refl _ _, rfl, rfl, rfl, rfl, .none rfl h0 (.inl ⟨k1, k5, t3⟩)⟩
   ·rw [hwr, t1]
    obtain ⟨o1, o2, _⟩ := hI.dir.ok i p hp
    obtain ⟨l1, l2⟩ := SlotV.len o1 o2 O0
    refine ⟨_, _, G, t2.mono O0 O0, fun _ _ => rfl, Uu _, hl0, fun _ h1 h2 => absurd h1 (Vj.2 h2), t4, rfl, rfl, rfl, rfl, .some rfl ⟨hr.over, hr.bad, hr.wf, hr.al, l1, l2, hr.n4, hr.n5, hr.xp, hr.f0, hr.f3⟩ 2 ?_ (.inl ⟨by rw [hneed]; omega, rfl, by show (1 : Int) ≠ 0; decide⟩) t5 (fun _ => .inl ⟨h0, rfl, rfl, hlk⟩)⟩
    exact Rel.make (r := { r with slot := p.s, flag := true, ph := 1 }) hk rfl rfl ⟨hbr.1, hbr.2, hbr.3, hbr.4, hbr.5⟩ t3
  | make hk' h0 hf hbr hd =>
   obtain ⟨hs, hch, hl0', hl1, hser⟩ := hd.ok hI
   have hwr : r.write s = if r.wrong ≠ 0 then (r.publish s r.slot).1.refuse (r.publish s r.slot).2 r.wrong else if (r.make s).2.2 then ({ (r.make s).1 with ph := 3 }, (r.make s).2.1, 1) else ((r.make s).1.publish (r.make s).2.1 (r.make s).1.slot).1.stop ((r.make s).1.publish (r.make s).2.1 (r.make s).1.slot).2 ⟨9, 0, []⟩ 3 := by
    unfold Run.write
    rw [if_neg O0, if_pos h0]
    by_cases hw : r.wrong ≠ 0
    ·rw [if_pos hw, if_pos hw]
    ·rw [if_neg hw, if_neg hw]
     generalize r.make s = z
     obtain ⟨z1, z2, z3⟩ := z
     cases z3 <;> rfl
   rw [hwr]
   by_cases hw : r.wrong ≠ 0
   ·rw [if_pos hw]
    obtain ⟨D, acc', p1, p2, p3, p4⟩ := un hI hd rfl (sl := r.slot) rfl hs rfl rfl hl0' hl1 O0
    rw [p1]
    have hser' : serOf D G = serOf s.d G := by rw [p4, <- hser, upS_self]
    have hab : abs { s with d := D } G = abs s G := by unfold abs; rw [show serOf D G = serOf s.d G from hser']
    refine ⟨_, acc', G, p2.mono O0 O0, fun _ _ => rfl, Uu _, hl0, fun _ h1 h2 => absurd h1 (Vj.2 h2), p3, rfl, rfl, rfl, rfl, .point rfl rfl (holds0 rfl hbr.using_ hbr.held) rfl ?_⟩
    rw [ax hk hr.bad hs hser hw]
    show (abs s G, _) = (abs { s with d := D } G, _)
    rw [hab]; rfl
   ·rw [if_neg hw]
    have hw : r.wrong = 0 := Wg hw
    rcases aw hI hr hk hd hw rfl hn hb with ⟨nx, m1, m2⟩ | ⟨nx, S', G', acc', m1, m2, m3, m4, m5, m6, m7, m8, m9, m10, m11, m12, m13⟩
    ·rw [m1, if_neg Vn]
     dsimp only
     obtain ⟨D, acc', p1, p2, p3, p4⟩ := un (r := { r with next := nx }) hI hd rfl (sl := r.slot) rfl hs rfl rfl hl0' hl1 O0
     rw [p1]
     have hser' : serOf D G = serOf s.d G := by rw [p4]; show upS _ r.o.series _ = _; rw [<- hser, upS_self]
     have hab : abs { s with d := D } G = abs s G := by unfold abs; rw [show serOf D G = serOf s.d G from hser']
     exact ⟨_, acc', G, p2.mono O0 O0, fun _ _ => rfl, Uu _, hl0, fun _ h1 h2 => absurd h1 (Vj.2 h2), p3, rfl, rfl, rfl, rfl, .full rfl h0 rfl (holds0 rfl hbr.using_ hbr.held) rfl hab rfl rfl m2.1 m2.2⟩
    ·rw [m1, if_pos rfl]
     dsimp only
     have hadd : r.adds = 1 := if_pos ⟨hk, h0⟩
     refine ⟨_, acc', G', m2.mono O0 O0, m3, m4, (by rw [hadd]; exact m5), m13, Keeps.same rfl rfl, rfl, rfl, rfl, m6, .some rfl ⟨hr.over, hr.bad, hr.wf, hr.al, hr.s4, hr.s5, m11, m12, hr.xp, hr.f0, hr.f3⟩ 1 ?_ (.inl ⟨O_o, rfl, by show (3 : Int) ≠ 0; decide⟩) ?_ (fun _ => .inr ⟨h0, rfl⟩)⟩
     ·exact Rel.put (r := { r with next := nx, ph := 3 }) hk rfl hf ⟨hbr.1, hbr.2, hbr.3, hbr.4, hbr.5⟩ hd m7 m8 m9 m10
     ·exact (show abs s G' = abs s G from qjs hI m3)
  | put hk' h0 hf hbr hd hs hl0' hl he =>
   obtain ⟨hs0, hch, hl00, hl1, hser⟩ := hd.ok hI
   have hwr : r.write s = (r.publish s r.next).1.stop (r.publish s r.next).2 ⟨0, 0, []⟩ 2 := by
    unfold Run.write
    rw [if_neg O0, if_neg O0]
   rw [hwr]
   obtain ⟨D, acc', p1, p2, p3, p4⟩ := un (hI.set_n hn).1 hd rfl (sl := r.next) rfl hs rfl rfl hl0' O0 O0
   rw [p1]
   refine ⟨_, acc', G, p2, fun _ _ => rfl, Uu _, hl0, fun _ h1 h2 => absurd h1 (Vj.2 h2), p3, rfl, rfl, rfl, rfl, .point rfl rfl (holds0 rfl hbr.using_ hbr.held) rfl ?_⟩
   rw [he _ hser]
   show _ = (abs { s with d := D } G, _)
   unfold abs
   rw [show serOf D G = _ from p4]
   rfl
end
section
variable {s s' s2 : Shd} {a : Ag} {A : List Ag} {acc : List SlotV} {al : Int -> Bool} {G G' : Int -> Blb} {n n' : Nat} {r : Run} {ps pn : List Key3} {b b' : Int} {who series : Int} {k : Nat} {fl se : Option (Int × SlotV)} {held : List Prt}
theorem kf : ∀ (l : List Prt) (S : Sto), (S.leave l).budget = S.budget
 | [], S => rfl
 | p :: l, S => by
  rw [Sto.leave, kf l]
  split
  ·rfl
  ·unfold Sto.left
   split <;> rfl
theorem fk : ∀ {A : List Ag}, (∀ x ∈ A, x.pins.length <= 100) -> (A.flatMap Ag.pins).length <= 100 * A.length
 | [], _ => Ud _
 | x :: A, h => by
  rw [Uh, Ua, Ui]
  have h1 := h x (Ub ..)
  have h2 := fk (A := A) fun y hy => h y (Ue _ hy)
  omega
theorem Inv.pins_le (h : Inv s A acc al G n) : (A.flatMap Ag.pins).length <= 10000 := by
 have h1 := fk fun x hx => (h.ags x hx).pins
 have h2 := h.few
 omega
theorem Inv.cacOk (h : Inv s A acc al G n) : s.c.Ok := by
 have := h.pins_le
 exact h.cac.good.ok O0
theorem CacInv.ok (h : CacInv s.c ps al G b) (hp : ps.length <= 100000) : s.c.Ok := h.good.ok O0
def OneSt (G : Int -> Blb) (one : Option Tk) (pn : List Key3) : Prop := (one = none ∧ pn = []) ∨ ∃ y kk, one = some y ∧ TkI G y pn kk
theorem PartSt.one {x : Snp} {one : Option Tk} {i : Int} {got : List Smp} (h : PartSt G x series one i got pn k) : OneSt G one pn := by
 obtain ⟨j, _, _, _, ⟨h1, h2, _⟩ | ⟨y, p, kk, h1, _, _, _, _, h2, _⟩⟩ := h
 ·exact .inl ⟨h1, h2⟩
 ·exact .inr ⟨y, kk, h1, h2⟩
theorem xi (hI : Inv s (⟨r.who, fl, held, pn, none, se⟩ :: A) acc al G n) (ho : OneSt G r.one pn) (hh : (r.held = true ∧ held = r.x.parts) ∨ (r.held = false ∧ held = []))
  (hf : (r.flag = true ∧ FlagAt s r ∧ fl = some (r.o.series, r.slot)) ∨ (r.flag = false ∧ fl = none)) (hn : n + 1 <= 1000000000) :
  ∃ s' acc', r.leave s = ({ r with flag := false, held := false, one := none, i := 0, got := [] }, s') ∧ Inv s' (Ag.idle r.who :: A) acc' al G (n + 1) ∧ Keeps r.who s s' ∧ abs s' G = abs s G ∧ s'.b.last = s.b.last ∧ s'.c.clk.most = s.c.clk.most ∧ s'.b.budget = s.b.budget := by
 have hC : ∃ C, (match r.one with | none => s.c | some x => (x.leave s.c).2) = C ∧ CacInv C (A.flatMap Ag.pins) al G s.b.last ∧ C.clk.most = s.c.clk.most := by
  have hc := hI.cac_in
  rcases ho with ⟨h1, h2⟩ | ⟨y, kk, h1, h2⟩
  ·rw [h1]
   have hc' : CacInv s.c (pn ++ A.flatMap Ag.pins) al G s.b.last := hc
   rw [h2] at hc'
   exact ⟨_, rfl, hc', rfl⟩
  ·rw [h1]
   obtain ⟨q1, q2⟩ := h2.leave (ps := A.flatMap Ag.pins) hc
   exact ⟨_, rfl, q1, q2⟩
 obtain ⟨C, hC0, hC1, hC2⟩ := hC
 have h1 := hI.cache (pn := []) (Ud _) hC1
 have h2 : ∃ S, (if r.held then s.b.leave r.x.parts else s.b) = S ∧ Inv { s with c := C, b := S } (⟨r.who, fl, [], [], none, se⟩ :: A) acc al G n ∧ S.last = s.b.last ∧ S.budget = s.b.budget := by
  rcases hh with ⟨q1, q2⟩ | ⟨q1, q2⟩
  ·rw [q1, if_pos rfl]
   obtain ⟨k1, k2⟩ := h1.unhold (ps := r.x.parts) q2
   exact ⟨_, rfl, k2, k1, kf _ _⟩
  ·rw [q1, if_neg O2]
   refine ⟨_, rfl, ?_, rfl, rfl⟩
   rw [q2] at h1
   exact h1
 obtain ⟨S, hS0, hS1, hS2, hS3⟩ := h2
 have h3 := hS1.see (f := none) fun x hx => by cases hx
 have key : r.leave s = ({ (if r.flag then ({ r with held := false } : Run).publish { s with c := C, b := S } r.slot else ({ r with held := false }, { s with c := C, b := S })).1 with one := none, i := 0, got := [] },
   (if r.flag then ({ r with held := false } : Run).publish { s with c := C, b := S } r.slot else ({ r with held := false }, { s with c := C, b := S })).2) := by
  rw [<- hS0, <- hC0]
  unfold Run.leave
  dsimp only
  cases r.held <;> cases r.one <;> rfl
 rw [key]
 rcases hf with ⟨q1, q2, q3⟩ | ⟨q1, q2⟩
 ·rw [if_pos q1]
  obtain ⟨o1, o2, o3, o4, o5⟩ := q2.ok hI
  obtain ⟨D, acc', p1, p2, p3, p4⟩ := un (r := { r with held := false }) (s := { s with c := C, b := S }) (sl := r.slot) h3 q2 rfl q3 (by dsimp only; rw [hS2]; exact o1) rfl rfl o3 o4 hn
  rw [p1]
  refine ⟨{ s with c := C, b := S, d := D }, acc', rfl, p2, p3.trans (Keeps.refl _ _) |>.dir |> fun h => ⟨h, fun id o h1 _ _ => h1⟩, ?_, hS2, hC2, hS3⟩
  have p4' : serOf D G = serOf s.d G := by
   rw [p4]
   show upS (serOf s.d G) r.o.series _ = _
   rw [<- o5, upS_self]
  unfold abs
  rw [show serOf ({ s with c := C, b := S, d := D } : Shd).d G = serOf s.d G from p4']
 ·rw [if_neg (by rw [q1]; decide)]
  rw [q2] at h3
  refine ⟨{ s with c := C, b := S }, acc, ?_, h3.mono (Nat.le_succ _) hn, Keeps.same rfl rfl, rfl, hS2, hC2, hS3⟩
  rw [q1]
theorem ah (hk : r.o.kind = 2) {p : Plc} (hp : Dir.at_ s.d r.o.series = some p) : r.need s = 3 + 6 * p.s.chunks.length := by unfold Run.need; rw [if_pos hk, hp]
theorem bk {sl : SlotV} (hI : Inv s (⟨r.who, fl, [], [], none, none⟩ :: A) acc al G n) (hr : RunOk al r) (hk : r.o.kind = 2) (hb : r.Bare) (hn : n + 2 <= 1000000000)
  (hsl : (r.flag = true ∧ FlagAt s r ∧ sl = r.slot ∧ fl = some (r.o.series, r.slot)) ∨ (r.flag = false ∧ fl = none ∧ r.fails <= 2 ∧ ∃ (i : Nat) (p : Plc), r.o.series = (i : Int) ∧ i < 16 ∧ s.d[i]? = some p ∧ p.taken = false ∧ sl = p.s)) (hkk : 6 * sl.chunks.length + 1 < k) :
  r.BeginOk s sl ∧ ∃ a' acc' G', Out A al s G n r k (r.begin_ s sl) a' acc' G' := by
 have hsok : SlotOk G s.b.last sl ∧ (sl.chunks.length : Int) <= s.b.last ∧ serOf s.d G r.o.series = sl.tells G ∧ sl ∈ acc := by
  rcases hsl with ⟨h1, h2, h3, h4⟩ | ⟨h1, h2, h3, i, p, h4, h5, h6, h7, h8⟩
  ·obtain ⟨o1, o2, o3, o4, o5⟩ := h2.ok hI
   obtain ⟨i, e, _⟩ := h2
   have := hI.acc_at (i := i) (x := r.slot) (by rw [<- e]; exact h4)
   rw [h3]
   exact ⟨o1, o2, o5, Uj this⟩
  ·obtain ⟨o1, o2, _⟩ := hI.dir.ok i p h6
   rw [h8, h4, serOf_at h6 h5]
   exact ⟨o1, o2, rfl, Uj (hI.dir.idle i p h6 h7).2⟩
 obtain ⟨hs, hch, hser, hacc⟩ := hsok
 have hlast := hI.last
 have h7 := hs.few
 refine ⟨⟨⟨hI.cacOk, by have := hr.xp; omega, by have := hr.s4; omega, by have := hr.s5; omega⟩, O_o, O_o⟩, ?_⟩
 have key : r.begin_ s sl = if sl.there = false then (r.leave s).1.refuse (r.leave s).2 3 else if (s.b.hold [] (sl.snap r.o.F r.o.To).parts).1
   then ({ r with x := sl.snap r.o.F r.o.To, held := true, ph := if (sl.snap r.o.F r.o.To).parts.length = 0 then 3 else 2 }, { s with b := (s.b.hold [] (sl.snap r.o.F r.o.To).parts).2 }, 1)
   else (({ r with x := sl.snap r.o.F r.o.To } : Run).leave { s with b := (s.b.hold [] (sl.snap r.o.F r.o.To).parts).2 }).1.stop (({ r with x := sl.snap r.o.F r.o.To } : Run).leave { s with b := (s.b.hold [] (sl.snap r.o.F r.o.To).parts).2 }).2 ⟨7, 0, []⟩ 3 := by
  unfold Run.begin_
  by_cases ht : sl.there = false
  ·rw [if_pos ht, if_pos ht]
  ·rw [if_neg ht, if_neg ht]
   dsimp only
   generalize s.b.hold [] (sl.snap r.o.F r.o.To).parts = z
   obtain ⟨z1, z2⟩ := z
   cases z1 <;> rfl
 rw [key]
 have hadd : r.adds = 0 := if_neg O0
 have h1l : s.b.last <= s.b.last + r.adds := by omega
 by_cases ht : sl.there = false
 ·rw [if_pos ht]
  obtain ⟨s', acc', l1, l2, l3, l4, l5, l6, l7⟩ := xi (n := n) hI (.inl ⟨hb.one, rfl⟩) (.inr ⟨hb.held, rfl⟩) (by
   rcases hsl with ⟨h1, h2, _, h4⟩ | ⟨h1, h2, _⟩
   ·exact .inl ⟨h1, h2, h4⟩
   ·exact .inr ⟨h1, h2⟩) O0
  rw [l1]
  refine ⟨_, acc', G, l2.mono O0 O0, fun _ _ => rfl, by show _ <= s'.b.last; omega, by show s'.b.last <= _; omega, fun _ h1 h2 => absurd h1 (Vj.2 (Vy h2 O24)), l3, rfl, rfl, l6, l7, .point rfl rfl (holds0 rfl hb.using_ rfl) rfl ?_⟩
  have htl : sl.tells G = none := by unfold SlotV.tells; rw [ht]; rfl
  rw [vh hr.bad O0 O0, show (abs s G).ser r.o.series = none from hser.trans htl]
  dsimp only
  rw [if_neg O0]
  show (abs s G, _) = (abs s' G, _)
  rw [l4]; rfl
 ·rw [if_neg ht]
  have ht : sl.there = true := by cases h : sl.there with | true => rfl | false => exact absurd h ht
  obtain ⟨X, hX⟩ : ∃ X, sl.snap r.o.F r.o.To = X := ⟨_, rfl⟩
  have hXp : ∀ p ∈ X.parts, PrtOk G s.b.last p := by rw [<- hX]; exact hs.snap_prts _ _
  have hXm : ∀ p ∈ X.parts, p ∈ sl.chunks := by rw [<- hX]; exact fun p hp => (Xo.1 hp).1
  have hXl : X.parts.length <= sl.chunks.length := by rw [<- hX]; exact partsIn_le _ _ _
  rw [hX]
  obtain ⟨q1, q2, q3⟩ := hI.hold (ps := X.parts) rfl hXp (fun p hp => ns hacc (hXm p hp) _) O0
  rw [q1, if_pos rfl]
  have hbud : (s.b.hold [] X.parts).2.budget = s.b.budget := by
   have hc : ∀ j, cntOf acc (⟨r.who, fl, X.parts, [], none, none⟩ :: A) s.t j = cntOf acc (⟨r.who, fl, [], [], none, none⟩ :: A) s.t j + rc j X.parts := by
    intro j
    unfold cntOf
    rw [sumF, sumF, uy]
    (try dsimp only)
    omega
   have := hI.sto.hold (cnt' := cntOf acc (⟨r.who, fl, X.parts, [], none, none⟩ :: A) s.t) [] (ps := X.parts) (fun p hp => ns hacc (hXm p hp) _) hc fun j => by
    have e1 := hI.cnt_le j
    have e2 := mc j X.parts
    rw [hc]
    unfold M40
    omega
   exact this.2.2.2.1
  obtain ⟨se, hse0, hse1⟩ : ∃ se : Option (Int × SlotV), ((r.flag = true ∧ FlagAt s r ∧ sl = r.slot ∧ fl = some (r.o.series, r.slot) ∧ se = none) ∨ (r.flag = false ∧ fl = none ∧ se = some (r.o.series, sl) ∧ r.fails <= 2)) ∧ ∀ f, se = some f -> SeenOk s.d G s.b.last f := by
   rcases hsl with ⟨h1, h2, h3, h4⟩ | ⟨h1, h2, h3, i, p, h4, h5, h6, h7, h8⟩
   ·exact ⟨none, .inl ⟨h1, h2, h3, h4, rfl⟩, fun f hf => by cases hf⟩
   ·refine ⟨some (r.o.series, sl), .inr ⟨h1, h2, rfl, h3⟩, fun f hf => ?_⟩
    obtain rfl := Uk hf
    refine ⟨O_d, O_d, hs, by dsimp only; rw [h8]; exact (hI.dir.idle i p h6 h7).1, p, ?_, ?_, ?_⟩
    ·dsimp only
     rw [h4, show ((i : Int)).toNat = i from by omega]; exact h6
    ·dsimp only; rw [h8]; exact Uu _
    ·dsimp only; rw [h8]; exact fun _ => rfl
  have q4 := q3.see (f := se) fun f hf => by
   have := hse1 f hf
   (try dsimp only)
   rw [q2]; exact this
  refine ⟨_, acc, G, q4.mono O0 O0, fun _ _ => rfl, by show _ <= (s.b.hold [] X.parts).2.last; omega, by show (s.b.hold [] X.parts).2.last <= _; omega, fun _ h1 h2 => absurd h1 (Vj.2 (Vy h2 (by show (s.b.hold [] X.parts).2.last <= _; omega))), Keeps.same rfl rfl, rfl, rfl, rfl, hbud, .some rfl ⟨hr.over, hr.bad, hr.wf, hr.al, hr.s4, hr.s5, hr.n4, hr.n5, O_t, hr.f0, hr.f3⟩ (6 * X.parts.length + 1) ?_ (.inl ⟨O_o, rfl, ite3 _⟩) rfl (fun h => absurd h O10)⟩
  have hps := PartSt.new G X r.o.series
  refine Rel.read (r := { r with x := X, held := true, ph := if X.parts.length = 0 then 3 else 2 }) hk rfl hb.using_ (sl := sl) hse0 ht (by (try dsimp only); rw [q2]; exact hs) hX.symm (k := 6 * X.parts.length) (pn := []) ?_ ?_
  ·show PartSt G X r.o.series r.one r.i r.got [] _
   rw [hb.one, hb.i, hb.got]; exact hps
  ·show (((if X.parts.length = 0 then (3 : Int) else 2) = 2 ∧ r.i ≠ _) ∨ ((if X.parts.length = 0 then (3 : Int) else 2) = 3 ∧ r.i = (X.parts.length : Int)))
   rw [hb.i]
   by_cases h0 : X.parts.length = 0
   ·rw [if_pos h0]
    exact .inr ⟨rfl, O_o⟩
   ·rw [if_neg h0]
    exact .inl ⟨rfl, by show (0 : Int) ≠ (X.parts.length : Int); omega⟩
end
section
variable {s s' s2 : Shd} {a : Ag} {A : List Ag} {acc : List SlotV} {al : Int -> Bool} {G G' : Int -> Blb} {n n' : Nat} {r : Run} {ps pn : List Key3} {b b' : Int} {who series : Int} {k : Nat} {fl se : Option (Int × SlotV)} {held : List Prt}
theorem Inv.sto_len (h : Inv s A acc al G n) : ∀ id e, mget id s.b.l = some e -> e.bs.length <= 140737488355328 := fun id e he => by have := (h.sto.has id e he).2.few; omega
theorem fy (hI : Inv s (a :: A) acc al G n) (hap : a.pins = pn) (hP : PartSt G r.x series r.one r.i r.got pn k) (hx : SnpOk G s.b.last r.x) (hi : r.i ≠ (r.x.parts.length : Int)) (hal : al series = false)
  (hS : ∀ p ∈ r.x.parts, ∃ e, mget p.blob s.b.l = some e ∧ (G p.blob).Ok e.bs) (hTg : ∀ id, 1 <= id -> id <= s.b.last -> CodOk (G id).tag) : r.PartOk s series := by
 have hc : CacInv s.c (pn ++ A.flatMap Ag.pins) al G s.b.last ∧ (A.flatMap Ag.pins).length <= 10000 ∧ s.b.last <= 100000 ∧ ∀ id e, mget id s.b.l = some e -> e.bs.length <= 140737488355328 := by
  have := hI.pins_le
  rw [Uh, Ua] at this
  exact ⟨by rw [<- hap]; exact hI.cac_in, O_o, hI.last, hI.sto_len⟩
 obtain ⟨hC, hpl, hlast, hsl⟩ := hc
 obtain ⟨⟨z1, z2, z3⟩, _⟩ := xo (s := s) hP hx hlast hi hal hC hS
 have hp1 := hP.pins1
 have hg := hP.got_len hx.prts
 have hfew := hx.few
 obtain ⟨j, p, kk, h1, h2, _, h4, h5, h6, _, _, h9, _⟩ := hP.cur hx.prts hi
 exact ⟨⟨_, hC.good, Kj _, by rw [Ua]; omega⟩, hsl, fun _ => by omega, O_o, O_o, O_o, fun d e1 e2 e3 => (h9.dec d e1 e2 e3).tagOk (hTg _ (by rw [h6]; exact h5.id1) (by rw [h6]; exact h5.idl))⟩
theorem qgp {sl : SlotV} {f t : Int} (hs : SlotOk G b sl) (hc : (sl.chunks.length : Int) <= b) : SnpOk G b (sl.snap f t) :=
 ⟨hs.snap_prts _ _, Vy (Int.ofNat_le.2 (partsIn_le f t sl.chunks)) hc, Uy (Wx _ _) hs.few⟩
theorem am (hI : Inv s (a :: A) acc al G n) (hr : RunOk al r) (hk : r.o.kind = 2) (hR : Rel G s r a k) (hn : n + 2 <= 1000000000) (hTg : ∀ id, 1 <= id -> id <= s.b.last -> CodOk (G id).tag) : r.ReadOk s ∧ ∃ a' acc' G', Out A al s G n r k (r.read s) a' acc' G' := by
 obtain ⟨s0, s1⟩ := xt hr.bad O0 O0
 have hal := hr.al O0
 have hlast := hI.last
 have hadd : r.adds = 0 := if_neg O0
 have h1l : s.b.last <= s.b.last + r.adds := by omega
 cases hR with
 | make hk' => exact absurd hk' O10
 | put hk' => exact absurd hk' O10
 | next hk' => omega
 | idle h0 hf hb =>
  have hrd : r.read s = r.look s := by unfold Run.read; rw [if_pos h0]
  rw [hrd]
  obtain ⟨i, p, e, hi, hp, hat, hc⟩ := hI.look s0 s1
  have hneed := ah hk hat
  have hlv : r.LeaveOk s := ⟨hI.cacOk, by have := hr.xp; omega, by have := hr.s4; omega, by have := hr.s5; omega⟩
  refine ⟨⟨hI.fits, fun _ sl hsl => ?_, fun h => by omega, fun h => by omega, fun h => absurd h0 h⟩, ?_⟩
  ·rcases hc with ⟨_, hc⟩ | ⟨ht, hc, _⟩
   ·rw [hc] at hsl; cases hsl
   ·rw [hc] at hsl
    obtain rfl := Uk hsl
    obtain ⟨o1, o2, _⟩ := hI.dir.ok i p hp
    have := o1.few
    exact ⟨hlv, O_o, O_o⟩
  ·by_cases hfl : r.fails ≥ 3
   ·have hlk : r.look s = if (r.take s).2.2 then ((r.take s).1, (r.take s).2.1, 1) else ((r.take s).1, (r.take s).2.1, 0) := by
     unfold Run.look
     rw [if_pos hfl]
     generalize r.take s = z
     obtain ⟨z1, z2, z3⟩ := z
     cases z3 <;> rfl
    rw [hlk]
    rcases fg (r := r) hI rfl rfl s0 s1 O0 with ⟨t1, t2, t3⟩ | ⟨i, q, e, hi, hq, ht, hv, hlk, t1, t2, t3, t4, t5⟩
    ·rw [t1]
     exact ⟨_, _, G, (hI.set_n hn).2, fun _ _ => rfl, Uu _, h1l, fun _ h1 h2 => absurd h1 (Vj.2 h2), Keeps.refl _ _, rfl, rfl, rfl, rfl, .none rfl h0 (.inl ⟨O_o, O_o, t3⟩)⟩
    ·rw [t1]
     obtain ⟨o1, o2, _⟩ := hI.dir.ok i q hq
     obtain ⟨l1, l2⟩ := SlotV.len o1 o2 O0
     have hat' : Dir.at_ s.d r.o.series = some q := by rw [e, nm hi]; exact hq
     rw [hat'] at hat
     obtain rfl := Uk hat
     refine ⟨_, _, G, t2.mono O0 O0, fun _ _ => rfl, Uu _, h1l, fun _ h1 h2 => absurd h1 (Vj.2 h2), t4, rfl, rfl, rfl, rfl, .some rfl ⟨hr.over, hr.bad, hr.wf, hr.al, l1, l2, hr.n4, hr.n5, hr.xp, hr.f0, hr.f3⟩ _ (Rel.hard (r := { r with slot := q.s, flag := true, ph := 1 }) hk rfl rfl ⟨hb.1, hb.2, hb.3, hb.4, hb.5⟩ t3) (.inl ⟨?_, rfl, by show (1 : Int) ≠ 0; decide⟩) t5 (fun h => absurd h O10)⟩
     rw [hneed]; show 2 + 6 * q.s.chunks.length < _; omega
   ·have hlk : r.look s = match Dir.look s.d r.o.series with | none => (r, s, 0) | some sl => r.begin_ s sl := by
     unfold Run.look
     rw [if_neg hfl]
     rfl
    rw [hlk]
    rcases hc with ⟨ht, hc⟩ | ⟨ht, hc, hv, hacc⟩
    ·rw [hc]
     obtain ⟨x, hx, f, hf, he⟩ := hI.blk rfl hp ht
     exact ⟨_, _, G, (hI.set_n hn).2, fun _ _ => rfl, Uu _, h1l, fun _ h1 h2 => absurd h1 (Vj.2 h2), Keeps.refl _ _, rfl, rfl, rfl, rfl, .none rfl h0 (.inl ⟨O_o, O_o, x, hx, f, hf, he.trans e.symm⟩)⟩
    ·rw [hc]
     exact (bk hI hr hk hb hn (.inr ⟨hf, rfl, O_o, i, p, e, hi, hp, ht, rfl⟩) (by rw [hneed]; omega)).2
 | hard hk' h0 hf hb hd =>
  have hrd : r.read s = r.begin_ s r.slot := by unfold Run.read; rw [if_neg O0, if_pos h0]
  rw [hrd]
  obtain ⟨q1, q2⟩ := bk (k := 2 + 6 * r.slot.chunks.length) hI hr hk hb hn (.inl ⟨hf, hd, rfl, rfl⟩) O0
  exact ⟨⟨hI.fits, fun h => by omega, fun _ => q1, fun h => by omega, fun _ h => absurd h0 h⟩, q2⟩
 | @read _ hh hu sl fl se pn k hsl ht hs hx hp hph =>
  have hxok : SnpOk G s.b.last r.x := ⟨by rw [hx]; exact hs.snap_prts _ _, (hI.ags _ (Ub ..)).few, by rw [hx]; exact Uy (Wx _ _) hs.few⟩
  have hS : ∀ p ∈ r.x.parts, ∃ e, mget p.blob s.b.l = some e ∧ (G p.blob).Ok e.bs := fun p hp => by
   obtain ⟨e, he, ho, _⟩ := hI.sto.alive (qjh (a := ⟨r.who, fl, r.x.parts, pn, none, se⟩) (show p ∈ _ from hp) s.t)
   exact ⟨e, he, ho⟩
  have hlv : ∀ C : Cac, C.Ok -> ∀ (one : Option Tk) (i : Int) (got : List Smp), ({ r with one := one, i := i, got := got } : Run).LeaveOk { s with c := C } := fun C hC one i got => ⟨hC, by have := hr.xp; (try dsimp only); omega, by have := hr.s4; (try dsimp only); omega, by have := hr.s5; (try dsimp only); omega⟩
  have hgl := hp.got_len hxok.prts
  have hxp := hxok.few
  have hxt := hxok.tail
  have hflag : (r.flag = true ∧ FlagAt s r ∧ fl = some (r.o.series, r.slot)) ∨ (r.flag = false ∧ fl = none) := by
   rcases hsl with ⟨h1, h2, _, h4, _⟩ | ⟨h1, h2, _⟩
   ·exact .inl ⟨h1, h2, h4⟩
   ·exact .inr ⟨h1, h2⟩
  rcases hph with ⟨h2, hi⟩ | ⟨h3, hi⟩
  ·obtain ⟨z, hz⟩ : ∃ z, r.part s r.o.series = z := ⟨_, rfl⟩
   have hrd : r.read s = if z.2.2 ≠ 0 then (z.1.leave z.2.1).1.stop (z.1.leave z.2.1).2 ⟨z.2.2, 0, []⟩ 3 else ({ z.1 with ph := if z.1.i = (z.1.x.parts.length : Int) then 3 else 2 }, z.2.1, 1) := by
    unfold Run.read
    rw [if_neg O0, if_neg O0, if_pos h2, hz]
   have hpo := fy hI rfl hp hxok hi hal hS hTg
   obtain ⟨_, hst⟩ := xo (s := s) hp hxok hlast hi hal hI.cac_in hS
   have hplen := hI.pins_le
   rw [Uh, Ua] at hplen
   rw [hrd]
   rcases hst with ⟨one, i, got, pn', k', C, e1, e2, e3, e4, e5⟩ | ⟨y, kk, e1, e2, e3, e4, e5⟩
   ·have hp1 := e2.pins1
    refine ⟨⟨hI.fits, fun h => by omega, fun h => by omega, fun _ => ⟨hpo, by rw [e1]; exact hlv C (e4.good.ok O25) _ _ _⟩, fun _ _ h => absurd h2 h⟩, ?_⟩
    rw [e1] at hz
    rw [<- hz, if_neg (fun h => h rfl)]
    dsimp only
    have hI' := hI.cache (pn := pn') O0 e4
    refine ⟨_, acc, G, hI'.mono O0 O0, fun _ _ => rfl, Uu _, h1l, fun _ h1 h2 => absurd h1 (Vj.2 h2), Keeps.same rfl rfl, rfl, rfl, e5, rfl, .some rfl ⟨hr.over, hr.bad, hr.wf, hr.al, hr.s4, hr.s5, hr.n4, hr.n5, hr.xp, hr.f0, hr.f3⟩ (k' + 1) ?_ (.inl ⟨O_o, rfl, ite3 _⟩) rfl (fun h => absurd h O10)⟩
    refine Rel.read (r := { r with one := one, i := i, got := got, ph := if i = (r.x.parts.length : Int) then 3 else 2 }) hk hh hu (sl := sl) hsl ht hs hx e2 ?_
    show ((if i = (r.x.parts.length : Int) then (3 : Int) else 2) = 2 ∧ i ≠ _) ∨ ((if i = (r.x.parts.length : Int) then (3 : Int) else 2) = 3 ∧ i = _)
    by_cases h0 : i = (r.x.parts.length : Int)
    ·rw [if_pos h0]; exact .inr ⟨rfl, h0⟩
    ·rw [if_neg h0]; exact .inl ⟨rfl, h0⟩
   ·refine ⟨⟨hI.fits, fun h => by omega, fun h => by omega, fun _ => ⟨hpo, by rw [e1]; exact hlv s.c hI.cacOk (some y) r.i r.got⟩, fun _ _ h => absurd h2 h⟩, ?_⟩
    rw [e1] at hz
    rw [<- hz, if_pos (show (6 : Int) ≠ 0 by decide)]
    dsimp only
    obtain ⟨s', acc', l1, l2, l3, l4, l5, l6, l7⟩ := xi (r := { r with one := some y }) (n := n) hI (.inr ⟨y, kk, rfl, by rw [e2]; exact e3⟩) (.inl ⟨hh, rfl⟩) hflag O0
    rw [l1]
    exact ⟨_, acc', G, l2.mono O0 O0, fun _ _ => rfl, by show _ <= s'.b.last; omega, by show s'.b.last <= _; omega, fun _ h1 h2 => absurd h1 (Vj.2 (Vy h2 O24)), l3, rfl, rfl, l6, l7, .busy rfl rfl (holds0 rfl hu rfl) rfl l4 rfl (allPinned_of (al := al) (G := G) (b := s.b.last) (by
     have hcc := hI.cac_in
     (try dsimp only at hcc)
     rw [e2] at hcc
     exact hcc) e4 e5) (.inl hk)⟩
  ·have hi' := hi
   rw [hi] at hp
   obtain ⟨f1, f2, f3⟩ := hp.full
   have hk0 : k = 0 := by
    obtain ⟨j, q1, q2, q3, ⟨_, _, q4⟩ | ⟨y, p, kk, _, q4, _⟩⟩ := hp
    ·omega
    ·rw [Vk O0] at q4; cases q4
   have hans : r.AnswerOk s := ⟨hlv s.c hI.cacOk r.one r.i r.got, O_o, O_o⟩
   refine ⟨⟨hI.fits, fun h => by omega, fun h => by omega, fun h => by omega, fun _ _ _ => hans⟩, ?_⟩
   obtain ⟨s', acc', l1, l2, l3, l4, l5, l6, l7⟩ := xi (n := n) hI (.inl ⟨f2, f3⟩) (.inl ⟨hh, rfl⟩) hflag O0
   have hgood : serOf s.d G r.o.series = sl.tells G -> r.read s = r.answer s -> ∃ a' acc' G', Out A al s G n r (k + 1) (r.read s) a' acc' G' := by
    intro hser hrd
    rw [hrd]
    unfold Run.answer
    dsimp only
    rw [l1]
    refine ⟨_, acc', G, l2.mono O0 O0, fun _ _ => rfl, by show _ <= s'.b.last; omega, by show s'.b.last <= _; omega, fun _ h1 h2 => absurd h1 (Vj.2 (Vy h2 O24)), l3, rfl, rfl, l6, l7, .point rfl rfl (holds0 rfl hu rfl) rfl ?_⟩
    have htl : sl.tells G = some (sl.closed, sl.all G) := by unfold SlotV.tells; rw [ht]; rfl
    rw [vh hr.bad O0 O0, show (abs s G).ser r.o.series = some (sl.closed, sl.all G) from hser.trans htl]
    dsimp only
    rw [if_neg O0, if_pos hk, f1, hx, hs.snap]
    show (abs s G, _) = (abs s' G, _)
    rw [l4]; rfl
   have hrd : r.read s = if r.flag then r.answer s else match Dir.look s.d r.o.series with
     | some sl => if sl.life = r.x.life ∧ sl.ver = r.x.ver then r.answer s else ({ (r.leave s).1 with fails := wI ((r.leave s).1.fails + 1), ph := 0 }, (r.leave s).2, 1)
     | none => ({ (r.leave s).1 with fails := wI ((r.leave s).1.fails + 1), ph := 0 }, (r.leave s).2, 1) := by
    unfold Run.read
    rw [if_neg O0, if_neg O0, if_neg O0]
    rfl
   rcases hsl with ⟨h1, h2, e3, e4, e5⟩ | ⟨h1, h2, e3, h4⟩
   ·exact hgood (by rw [e3]; exact serOf_here hI h2) (by rw [hrd, if_pos h1])
   ·rw [if_neg (by rw [h1]; decide)] at hrd
    have hagain : r.read s = ({ (r.leave s).1 with fails := wI ((r.leave s).1.fails + 1), ph := 0 }, (r.leave s).2, 1) -> ∃ a' acc' G', Out A al s G n r (k + 1) (r.read s) a' acc' G' := by
     intro hrd
     rw [hrd, l1]
     have hf0 := hr.f0
     have hwf : wI (r.fails + 1) = r.fails + 1 := jp O0 O0
     dsimp only
     rw [hwf]
     refine ⟨_, acc', G, l2.mono O0 O0, fun _ _ => rfl, by show _ <= s'.b.last; omega, by show s'.b.last <= _; omega, fun _ h1 h2 => absurd h1 (Vj.2 (Vy h2 O24)), l3, rfl, rfl, l6, l7, .some rfl ⟨hr.over, hr.bad, hr.wf, hr.al, hr.s4, hr.s5, hr.n4, hr.n5, hr.xp, O_t, O_t⟩ _ (Rel.idle rfl rfl ⟨hu, rfl, rfl, rfl, rfl⟩) (.inr ⟨hk, rfl, rfl, O_o, h1⟩) l4 (fun h => absurd h O10)⟩
    obtain ⟨i, p, e, hi16, hpd, hat, ⟨ht2, hc⟩ | ⟨ht2, hc, hv, hacc⟩⟩ := hI.look s0 s1
    ·rw [hc] at hrd
     exact hagain hrd
    ·rw [hc] at hrd
     dsimp only at hrd
     by_cases hsame : p.s.life = r.x.life ∧ p.s.ver = r.x.ver
     ·rw [if_pos hsame] at hrd
      obtain ⟨_, _, _, _, p', hp', _, hps⟩ := (hI.ags _ (Ub ..)).seen _ e3
      dsimp only at hp' hps
      rw [e, show ((i : Int)).toNat = i from by omega, hpd] at hp'
      obtain rfl := Uk hp'
      have hpsl := hps (by rw [hsame.2, hx]; rfl)
      exact hgood (by rw [e, serOf_at hpd hi16, hpsl]) hrd
     ·rw [if_neg hsame] at hrd
      exact hagain hrd
end
section
theorem mi {κ β : Type} [DecidableEq κ] (k : κ) (u v : β) : ∀ m : List (κ × β), mset k v (mset k u m) = mset k v m
 | [] => by simp [mset]
 | (j, x) :: r => by
  by_cases e : j = k
  ·simp [mset, e]
  ·simp [mset, e, mi k u v r]
variable {s s' s2 : Shd} {a : Ag} {A : List Ag} {acc : List SlotV} {al : Int -> Bool} {G G' : Int -> Blb} {n n' : Nat} {r : Run} {ps pn : List Key3} {b b' : Int} {who series : Int} {k : Nat} {fl se : Option (Int × SlotV)} {held : List Prt}
theorem Inv.tfits (h : Inv s A acc al G n) : s.t.Fits := by
 intro id o ho
 obtain ⟨h1, h2, h3, _⟩ := h.tab.on id o ho
 have := h.last
 have := h1.few
 have := h1.tail
 have := Snp.len h1
 omega
theorem Inv.idle_nouse (h : Inv s (a :: A) acc al G n) (ha : a.use = none) {id : Int} {o : On} (hg : mget id s.t.l = some o) (hu : o.used = true) : ∃ x ∈ A, x.use = some id := by
 have hm := (h.tab.on id o hg).2.2.2.2 hu
 rw [Uh, u9 ha, Up, Xf] at hm
 obtain ⟨x, hx, hxu⟩ := hm
 unfold Ag.uses at hxu
 split at hxu
 ·cases hxu
 ·rename_i i hi
  rw [Vc] at hxu
  have := congrArg Prod.snd hxu
  dsimp only at this
  exact ⟨x, hx, by rw [hi, this]⟩
theorem i5 (hI : Inv s (Ag.idle r.who :: A) acc al G n) :
  (mget r.o.iter s.t.l = none ∧ r.use s = ((r.refuse s 3).1, (r.refuse s 3).2.1, (r.refuse s 3).2.2, false)) ∨
  ((∃ x ∈ A, x.use = some r.o.iter) ∧ r.use s = (r, s, 0, false)) ∨
  ∃ o, mget r.o.iter s.t.l = some o ∧ o.used = false ∧ r.use s = ({ r with using_ := true }, { s with t := ⟨s.t.last, mset r.o.iter { o with used := true, who := r.who } s.t.l⟩ }, 1, true) ∧
   Inv { s with t := ⟨s.t.last, mset r.o.iter { o with used := true, who := r.who } s.t.l⟩ } (⟨r.who, none, [], [], some r.o.iter, none⟩ :: A) acc al G n ∧
   mget r.o.iter (mset r.o.iter { o with used := true, who := r.who } s.t.l) = some { o with used := true, who := r.who } ∧
   Keeps r.who s { s with t := ⟨s.t.last, mset r.o.iter { o with used := true, who := r.who } s.t.l⟩ } ∧ abs { s with t := ⟨s.t.last, mset r.o.iter { o with used := true, who := r.who } s.t.l⟩ } G = abs s G := by
 unfold Run.use
 cases hg : mget r.o.iter s.t.l with
 | none => exact .inl ⟨rfl, rfl⟩
 | some o =>
  dsimp only
  by_cases hu : o.used = true ∧ o.who ≠ r.who
  ·rw [if_pos hu]
   exact .inr (.inl ⟨hI.idle_nouse rfl hg hu.1, rfl⟩)
  ·rw [if_neg hu]
   obtain ⟨h1, h2⟩ := hI.uses rfl hg hu
   refine .inr (.inr ⟨o, rfl, h1, rfl, h2, by rw [jq, if_pos rfl], Keeps.on hg (.inl h1) rfl rfl, ?_⟩)
   unfold abs
   rw [show itsOf (mset r.o.iter { o with used := true, who := r.who } s.t.l) G = itsOf s.t.l G from itsOf_same hg rfl rfl]
theorem fz {m : Mdl} {o : Opr} (hb : Run.bad o = false) (h6 : o.kind = 6) : m.act o = match mget o.iter m.its with
  | none => m.err 3
  | some L => ({ m with its := mset o.iter (L.drop (min (max o.N 0) 1000).toNat) m.its }, ⟨0, 0, L.take (min (max o.N 0) 1000).toNat⟩) := by
 unfold Mdl.act
 rw [hb, if_neg O2, if_pos h6]; all_goals rfl
theorem ml {m : Mdl} {o : Opr} (hb : Run.bad o = false) (h7 : o.kind = 7) : m.act o = match mget o.iter m.its with
  | none => m.err 3
  | some _ => ({ m with its := mdel o.iter m.its }, ⟨0, 0, []⟩) := by
 unfold Mdl.act
 rw [hb, if_neg O2, if_neg O0, if_pos h7]; all_goals rfl
theorem bz {m : Mdl} {o : Opr} (hb : Run.bad o = false) (hk : o.kind = 6 ∨ o.kind = 7) (hn : mget o.iter m.its = none) : m.act o = m.err 3 := by
 rcases hk with hk | hk
 ·rw [fz hb hk, hn]
 ·rw [ml hb hk, hn]
theorem me (hI : Inv s (⟨r.who, none, [], [], some r.o.iter, none⟩ :: A) acc al G n) {o : On} (hg : mget r.o.iter s.t.l = some o) (hou : o.used = true) (how : o.who = r.who) (hb : Run.bad r.o = false) (hk : r.o.kind = 6) {L : List Smp} (hL : L = ((o.x.all G).drop o.told.toNat).take r.cap.toNat) :
  ∃ s', r.hand s L = ({ r with using_ := false, over := true, res := ⟨0, 0, L⟩ }, s', 2) ∧ Inv s' (Ag.idle r.who :: A) acc al G n ∧ Keeps r.who s s' ∧ s'.b = s.b ∧ s'.c = s.c ∧ (abs s G).act r.o = (abs s' G, ⟨0, 0, L⟩) := by
 obtain ⟨o', h1, _, _, h4, h5, h6, h7⟩ := hI.mine rfl
 rw [hg] at h1
 obtain rfl := Uk h1
 have hsl := Snp.len h4
 have hfew := h4.few
 have hlast := hI.last
 have hcap : 0 <= r.cap ∧ r.cap <= 1000 := by unfold Run.cap; omega
 have hLl : L.length = min r.cap.toNat ((o.x.all G).length - o.told.toNat) := by rw [hL, Us, Uq]
 have hwt : wI (o.told + max (L.length : Int) 0) = o.told + (L.length : Int) := by
  rw [show max (L.length : Int) 0 = (L.length : Int) by omega]
  exact jp O0 O0
 have hmv : (s.t.move r.o.iter r.who (L.length : Int)).free r.o.iter r.who = ⟨s.t.last, mset r.o.iter { o with used := false, told := o.told + (L.length : Int) } s.t.l⟩ := by
  have hm : s.t.mine r.o.iter r.who = some o := by
   unfold Tb.mine
   rw [hg]
   dsimp only
   rw [if_pos ⟨hou, how⟩]
  have e1 : s.t.move r.o.iter r.who (L.length : Int) = ⟨s.t.last, mset r.o.iter { o with told := o.told + (L.length : Int) } s.t.l⟩ := by
   unfold Tb.move
   rw [hm]
   dsimp only
   rw [hwt]
  rw [e1]
  have hm2 : Tb.mine ⟨s.t.last, mset r.o.iter { o with told := o.told + (L.length : Int) } s.t.l⟩ r.o.iter r.who = some { o with told := o.told + (L.length : Int) } := by
   unfold Tb.mine
   dsimp only
   rw [jq, if_pos rfl]
   dsimp only
   rw [if_pos ⟨hou, how⟩]
  unfold Tb.free
  rw [hm2]
  dsimp only
  rw [mi]
 have hI' := hI.frees (told := o.told + (L.length : Int)) rfl hg O0 O0
 refine ⟨{ s with t := ⟨s.t.last, mset r.o.iter { o with used := false, told := o.told + (L.length : Int) } s.t.l⟩ }, ?_, hI', Keeps.on hg (.inr how) rfl rfl, rfl, rfl, ?_⟩
 ·rw [Run.hand_eq, hmv]
 ·have hget : mget r.o.iter (abs s G).its = some ((o.x.all G).drop o.told.toNat) := by
   show mget r.o.iter (itsOf s.t.l G) = _
   rw [itsOf_get, hg]; rfl
  rw [fz hb hk, hget]
  dsimp only
  have hdrop : ((o.x.all G).drop o.told.toNat).drop r.cap.toNat = (o.x.all G).drop (o.told + (L.length : Int)).toNat := by
   rw [List.drop_drop]
   by_cases hc : r.cap.toNat <= (o.x.all G).length - o.told.toNat
   ·congr 1; omega
   ·rw [List.drop_of_length_le O0, List.drop_of_length_le O0]
  have hits : mset r.o.iter (((o.x.all G).drop o.told.toNat).drop r.cap.toNat) (itsOf s.t.l G) = itsOf (mset r.o.iter { o with used := false, told := o.told + (L.length : Int) } s.t.l) G := by
   rw [itsOf_set hg, hdrop]
  rw [show (min (max r.o.N 0) 1000) = r.cap from rfl, show (abs s G).its = itsOf s.t.l G from rfl, hits, <- hL]
  rfl
theorem ap (hk : r.o.kind = 6) {o : On} (ho : mget r.o.iter s.t.l = some o) : r.need s = 2 + 6 * o.x.parts.length := by unfold Run.need; rw [if_neg O0, if_pos hk, ho]
theorem qgc {id : Int} {o : On} {T : Tb} (hg : mget id T.l = some o) {p : Prt} (hp : p ∈ o.x.parts) : 0 < cntOf acc A T p.blob := by
 have h1 := i3 (fun o : On => rc p.blob o.x.parts) hg
 have h2 := tx hp
 unfold cntOf
 (try dsimp only at h1)
 omega
theorem ai (hI : Inv s (a :: A) acc al G n) (hr : RunOk al r) (hk : r.o.kind = 5) (hR : Rel G s r a k) (hn : n + 2 <= 1000000000) : r.OpenOk s ∧ ∃ a' acc' G', Out A al s G n r k (r.open_ s) a' acc' G' := by
 obtain ⟨s0, s1⟩ := xt hr.bad O0 O0
 have hal := hr.al O0
 have hlast := hI.last
 have hadd : r.adds = 0 := if_neg O0
 have h1l : s.b.last <= s.b.last + r.adds := by omega
 have ht := hI.tab
 have ht0 := ht.last0
 have ht1 := ht.last1
 have hnk : mget (s.t.last + 1) s.t.l = none := mget_none.2 fun hm => by have := (ht.ids _ hm).2; omega
 refine ⟨⟨hI.fits, hnk, ht0, O_o⟩, ?_⟩
 cases hR with
 | make hk' => exact absurd hk' O10
 | put hk' => exact absurd hk' O10
 | hard hk' => omega
 | read hk' => omega
 | next hk' => omega
 | idle h0 hf hb =>
  obtain ⟨i, p, e, hi, hp, hat, hc⟩ := hI.look s0 s1
  have key : r.open_ s = match Dir.look s.d r.o.series with
   | none => (r, s, 0)
   | some sl => if sl.there = false then r.refuse s 3 else if s.t.l.length ≥ 8 then r.refuse s 5 else if (s.b.hold [] (sl.snap r.o.F r.o.To).parts).1
    then r.stop { s with b := (s.b.hold [] (sl.snap r.o.F r.o.To).parts).2, t := ⟨s.t.last + 1, mset (s.t.last + 1) ⟨r.o.series, 0, sl.snap r.o.F r.o.To, false, 0⟩ s.t.l⟩ } ⟨0, s.t.last + 1, []⟩ 2
    else r.stop { s with b := (s.b.hold [] (sl.snap r.o.F r.o.To).parts).2 } ⟨7, 0, []⟩ 3 := by
   unfold Run.open_
   cases Dir.look s.d r.o.series with
   | none => rfl
   | some sl =>
    dsimp only
    by_cases h1 : sl.there = false
    ·rw [if_pos h1, if_pos h1]
    ·rw [if_neg h1, if_neg h1]
     by_cases h2 : s.t.l.length ≥ 8
     ·rw [if_pos h2, if_pos h2]
     ·rw [if_neg h2, if_neg h2]
      generalize s.b.hold [] (sl.snap r.o.F r.o.To).parts = z
      obtain ⟨z1, z2⟩ := z
      cases z1 <;> rfl
  rw [key]
  rcases hc with ⟨htk, hc⟩ | ⟨htk, hc, hv, hacc⟩
  ·rw [hc]
   obtain ⟨x, hx, f, hf, he⟩ := hI.blk rfl hp htk
   exact ⟨_, _, G, (hI.set_n hn).2, fun _ _ => rfl, Uu _, h1l, fun _ h1 h2 => absurd h1 (Vj.2 h2), Keeps.refl _ _, rfl, rfl, rfl, rfl, .none rfl h0 (.inl ⟨O_o, O_o, x, hx, f, hf, he.trans e.symm⟩)⟩
  ·rw [hc]
   dsimp only
   obtain ⟨hs, hch, _⟩ := hI.dir.ok i p hp
   have hser : (abs s G).ser r.o.series = p.s.tells G := by show serOf s.d G r.o.series = _; rw [e]; exact serOf_at hp hi
   have hlen : (abs s G).its.length = s.t.l.length := itsOf_len _
   by_cases hth : p.s.there = false
   ·rw [if_pos hth]
    refine ⟨_, _, G, (hI.set_n hn).2, fun _ _ => rfl, Uu _, h1l, fun _ h1 h2 => absurd h1 (Vj.2 h2), Keeps.refl _ _, rfl, rfl, rfl, rfl, .point rfl rfl (holds0 hf hb.using_ hb.held) rfl ?_⟩
    rw [vh hr.bad O0 O0, hser, show p.s.tells G = none from by unfold SlotV.tells; rw [hth]; rfl]
    dsimp only
    rw [if_neg O0]; rfl
   ·rw [if_neg hth]
    have hth : p.s.there = true := by cases h : p.s.there with | true => rfl | false => exact absurd h hth
    have hact : (abs s G).act r.o = if s.t.l.length ≥ 8 then (abs s G).err 5 else ({ abs s G with its := (abs s G).its ++ [((abs s G).next + 1, within (p.s.all G) r.o.F r.o.To)], next := (abs s G).next + 1 }, ⟨0, (abs s G).next + 1, []⟩) := by
     rw [vh hr.bad O0 O0, hser, show p.s.tells G = some (p.s.closed, p.s.all G) from by unfold SlotV.tells; rw [hth]; rfl]
     dsimp only
     rw [if_neg O0, if_neg O0, if_neg O0, if_neg O0, hlen]
    by_cases h8 : s.t.l.length ≥ 8
    ·rw [if_pos h8]
     refine ⟨_, _, G, (hI.set_n hn).2, fun _ _ => rfl, Uu _, h1l, fun _ h1 h2 => absurd h1 (Vj.2 h2), Keeps.refl _ _, rfl, rfl, rfl, rfl, .point rfl rfl (holds0 hf hb.using_ hb.held) rfl ?_⟩
     rw [hact, if_pos h8]; rfl
    ·rw [if_neg h8]
     rw [if_neg h8] at hact
     obtain ⟨X, hX⟩ : ∃ X, p.s.snap r.o.F r.o.To = X := ⟨_, rfl⟩
     have hXok : SnpOk G s.b.last X := by rw [<- hX]; exact qgp hs hch
     have hXm : ∀ q ∈ X.parts, 0 < cntOf acc (Ag.idle r.who :: A) s.t q.blob := fun q hq => ns (Uj hacc) (by rw [<- hX] at hq; exact (Xo.1 hq).1) _
     rw [hX]
     obtain ⟨q1, q2, q3⟩ := hI.hold (ps := X.parts) rfl hXok.prts hXm hXok.few
     rw [q1, if_pos rfl]
     have hbud : (s.b.hold [] X.parts).2.budget = s.b.budget := by
      have hcj : ∀ j, cntOf acc (⟨r.who, none, X.parts, [], none, none⟩ :: A) s.t j = cntOf acc (Ag.idle r.who :: A) s.t j + rc j X.parts := by
       intro j
       unfold cntOf
       rw [sumF, sumF]
       show _ + (rc j X.parts + _) + _ = _ + (0 + _) + _ + _
       omega
      have := hI.sto.hold (cnt' := cntOf acc (⟨r.who, none, X.parts, [], none, none⟩ :: A) s.t) [] (ps := X.parts) hXm hcj fun j => by
       have e1 := hI.cnt_le j
       have e2 := mc j X.parts
       have e3 := hXok.few
       rw [hcj]
       unfold M40
       omega
      exact this.2.2.2.1
     obtain ⟨w1, w2⟩ := q3.opens (series := r.o.series) (x := X) (by (try dsimp only); rw [q2]; exact hXok) rfl hal (by (try dsimp only); omega) O0
     refine ⟨_, acc, G, w2.mono O0 O0, fun _ _ => rfl, by show _ <= (s.b.hold [] X.parts).2.last; omega, by show (s.b.hold [] X.parts).2.last <= _; omega, fun _ h1 h2 => absurd h1 (Vj.2 (Vy h2 (by show (s.b.hold [] X.parts).2.last <= _; omega))), ⟨fun _ _ h _ _ => h, fun id o ho _ _ => ?_⟩, rfl, rfl, rfl, hbud, .point rfl rfl (holds0 hf hb.using_ hb.held) rfl ?_⟩
     ·show mget id (mset (s.t.last + 1) _ s.t.l) = some o
      rw [jq, if_neg]
      ·exact ho
      ·rintro rfl
       rw [hnk] at ho; cases ho
     ·rw [hact]
      have hin : itsOf (mset (s.t.last + 1) (⟨r.o.series, 0, X, false, 0⟩ : On) s.t.l) G = itsOf s.t.l G ++ [(s.t.last + 1, X.all G)] := itsOf_new hnk rfl
      have hXall : X.all G = within (p.s.all G) r.o.F r.o.To := by rw [<- hX]; exact hs.snap _ _
      rw [hXall] at hin
      show _ = ((⟨serOf s.d G, itsOf (mset (s.t.last + 1) (⟨r.o.series, 0, X, false, 0⟩ : On) s.t.l) G, s.t.last + 1⟩ : Mdl), _)
      rw [hin]; rfl
theorem ae (hI : Inv s (a :: A) acc al G n) (hr : RunOk al r) (hk : r.o.kind = 7) (hR : Rel G s r a k) (hn : n + 2 <= 1000000000) : s.t.Fits ∧ ∃ a' acc' G', Out A al s G n r k (r.shut s) a' acc' G' := by
 refine ⟨hI.tfits, ?_⟩
 have hlast := hI.last
 have hadd : r.adds = 0 := if_neg O0
 have h1l : s.b.last <= s.b.last + r.adds := by omega
 cases hR with
 | make hk' => exact absurd hk' O10
 | put hk' => exact absurd hk' O10
 | hard hk' => omega
 | read hk' => omega
 | next hk' => omega
 | idle h0 hf hb =>
  rcases i5 hI with ⟨u1, u2⟩ | ⟨u1, u2⟩ | ⟨o, u1, u2, u3, u4, u5, u6, u7⟩
  ·unfold Run.shut
   rw [u2]
   refine ⟨_, _, G, (hI.set_n hn).2, fun _ _ => rfl, Uu _, h1l, fun _ h1 h2 => absurd h1 (Vj.2 h2), Keeps.refl _ _, rfl, rfl, rfl, rfl, .point rfl rfl (holds0 hf hb.using_ hb.held) rfl ?_⟩
   rw [bz hr.bad (.inr hk) (by show mget r.o.iter (itsOf s.t.l G) = none; rw [itsOf_get, u1]; rfl)]; rfl
  ·unfold Run.shut
   rw [u2]
   exact ⟨_, _, G, (hI.set_n hn).2, fun _ _ => rfl, Uu _, h1l, fun _ h1 h2 => absurd h1 (Vj.2 h2), Keeps.refl _ _, rfl, rfl, rfl, rfl, .none rfl h0 (.inr ⟨.inr hk, u1⟩)⟩
  ·have hm : ({ r with using_ := true } : Run).mine { s with t := ⟨s.t.last, mset r.o.iter { o with used := true, who := r.who } s.t.l⟩ } = some { o with used := true, who := r.who } := by
    unfold Run.mine
    dsimp only
    rw [u5]
    dsimp only
    rw [if_pos ⟨rfl, rfl⟩]
   have key : r.shut s = ({ r with using_ := false, over := true, res := ⟨0, 0, []⟩ }, { s with b := s.b.leave o.x.parts, t := ⟨s.t.last, mdel r.o.iter s.t.l⟩ }, 2) := by
    unfold Run.shut
    rw [u3]
    dsimp only
    rw [hm, yd]
    rfl
   rw [key]
   have h1 := u4.closes rfl rfl u5
   obtain ⟨h2, h3⟩ := h1.unhold (ps := o.x.parts) rfl
   have h4 : Inv { s with b := s.b.leave o.x.parts, t := ⟨s.t.last, mdel r.o.iter s.t.l⟩ } (Ag.idle r.who :: A) acc al G n := by
    rw [yd] at h3
    exact h3
   refine ⟨_, _, G, (h4.set_n hn).2, fun _ _ => rfl, by show _ <= (s.b.leave o.x.parts).last; rw [h2]; exact Uu _, by show (s.b.leave o.x.parts).last <= _; rw [h2]; exact h1l, fun _ h1' h2' => absurd h1' (Vj.2 (Vy h2' (by show (s.b.leave o.x.parts).last <= _; rw [h2]; exact Uu _))), ⟨fun _ _ h _ _ => h, fun id o' ho' hu' _ => ?_⟩, rfl, rfl, rfl, kf _ _, .point rfl rfl (holds0 hf rfl hb.held) rfl ?_⟩
   ·show mget id (mdel r.o.iter s.t.l) = some o'
    rw [j3 _ _ _ hI.tab.nd, if_neg]
    ·exact ho'
    ·rintro rfl
     rw [u1] at ho'
     obtain rfl := Uk ho'
     rw [u2] at hu'; cases hu'
   ·rw [ml hr.bad hk, show mget r.o.iter (abs s G).its = some ((o.x.all G).drop o.told.toNat) from by show mget r.o.iter (itsOf s.t.l G) = _; rw [itsOf_get, u1]; rfl]
    dsimp only
    have hd : itsOf (mdel r.o.iter s.t.l) G = mdel r.o.iter (itsOf s.t.l G) := itsOf_del _
    show _ = ((⟨serOf s.d G, itsOf (mdel r.o.iter s.t.l) G, s.t.last⟩ : Mdl), _)
    rw [hd]; rfl
end
section
variable {s s' s2 : Shd} {a : Ag} {A : List Ag} {acc : List SlotV} {al : Int -> Bool} {G G' : Int -> Blb} {n n' : Nat} {r : Run} {ps pn : List Key3} {b b' : Int} {who series : Int} {k : Nat} {fl se : Option (Int × SlotV)} {held : List Prt}
theorem pre_drop_take {L M : List Smp} (h : L <+: M) {d c : Nat} (hl : d + c <= L.length) : (M.drop d).take c = (L.drop d).take c := by
 obtain ⟨t, rfl⟩ := h
 rw [List.drop_append_of_le_length O0, Wv O22]
theorem qgf (r : Run) : 0 <= r.cap ∧ r.cap <= 1000 := by unfold Run.cap; omega
theorem aa (hI : Inv s (a :: A) acc al G n) (hr : RunOk al r) (hk : r.o.kind = 6) (hR : Rel G s r a k) (hn : n + 2 <= 1000000000) (hTg : ∀ id, 1 <= id -> id <= s.b.last -> CodOk (G id).tag) : r.TellOk s ∧ ∃ a' acc' G', Out A al s G n r k (r.tell s) a' acc' G' := by
 have hlast := hI.last
 have hadd : r.adds = 0 := if_neg O0
 have h1l : s.b.last <= s.b.last + r.adds := by omega
 have hcap := qgf r
 have hcr : min (max r.o.N 0) 1000 = r.cap := rfl
 have hte := Run.tell_eq r s
 rw [hcr] at hte
 cases hR with
 | make hk' => exact absurd hk' O10
 | put hk' => exact absurd hk' O10
 | hard hk' => omega
 | read hk' => omega
 | idle h0 hf hb =>
  refine ⟨⟨hI.tfits, fun h => by omega, by rw [hb.got]; exact Ud _, fun h => absurd h0 h⟩, ?_⟩
  rw [if_pos h0] at hte
  rw [hte]
  rcases i5 hI with ⟨u1, u2⟩ | ⟨u1, u2⟩ | ⟨o, u1, u2, u3, u4, u5, u6, u7⟩
  ·rw [u2, if_neg Vn]
   refine ⟨_, _, G, (hI.set_n hn).2, fun _ _ => rfl, Uu _, h1l, fun _ h1 h2 => absurd h1 (Vj.2 h2), Keeps.refl _ _, rfl, rfl, rfl, rfl, .point rfl rfl (holds0 hf hb.using_ hb.held) rfl ?_⟩
   rw [bz hr.bad (.inl hk) (by show mget r.o.iter (itsOf s.t.l G) = none; rw [itsOf_get, u1]; rfl)]; rfl
  ·rw [u2, if_neg Vn]
   exact ⟨_, _, G, (hI.set_n hn).2, fun _ _ => rfl, Uu _, h1l, fun _ h1 h2 => absurd h1 (Vj.2 h2), Keeps.refl _ _, rfl, rfl, rfl, rfl, .none rfl h0 (.inr ⟨.inl hk, u1⟩)⟩
  ·rw [u3, if_pos rfl]
   have hon : s.t.on r.o.iter = o := by unfold Tb.on; rw [u1]; rfl
   rw [hon]
   by_cases hc : r.cap = 0
   ·rw [if_pos hc]
    obtain ⟨s', h1, h2, h3, h4, h5, h6⟩ := me (r := { r with using_ := true, x := o.x, told := o.told, ph := 2 }) (L := []) u4 u5 rfl rfl hr.bad hk (by show [] = (_ : List Smp).take r.cap.toNat; rw [hc]; rfl)
    rw [h1]
    have h4' : s'.b.last = s.b.last ∧ s'.b.budget = s.b.budget := by rw [h4]; exact ⟨rfl, rfl⟩
    refine ⟨_, acc, G, (h2.set_n hn).2, fun _ _ => rfl, by show _ <= s'.b.last; omega, by show s'.b.last <= _; omega, fun _ h1 h2 => absurd h1 (Vj.2 (Vy h2 O24)), u6.trans h3, rfl, rfl, ?_, h4'.2, .point rfl rfl (holds0 hf rfl hb.held) rfl ?_⟩
    ·show s'.c.clk.most = _; rw [h5]
    ·rw [u7] at h6; exact h6
   ·rw [if_neg hc]
    obtain ⟨o1, o2, o3, o4, _⟩ := hI.tab.on _ _ u1
    have hfew := o1.few
    refine ⟨_, acc, G, (u4.set_n hn).2, fun _ _ => rfl, Uu _, h1l, fun _ h1 h2 => absurd h1 (Vj.2 h2), u6, rfl, rfl, rfl, rfl, .some rfl ⟨hr.over, hr.bad, hr.wf, hr.al, hr.s4, hr.s5, hr.n4, hr.n5, O_t, hr.f0, hr.f3⟩ (6 * o.x.parts.length + 1) ?_ (.inl ⟨by rw [ap hk u1]; omega, rfl, ite3 _⟩) u7 (fun h => absurd h O10)⟩
    refine Rel.next (r := { r with using_ := true, x := o.x, told := o.told, ph := if o.x.parts.length = 0 then 3 else 2 }) hk hf hb.held rfl (o := { o with used := true, who := r.who }) (pn := []) u5 rfl rfl rfl rfl ?_ hc ?_
    ·show PartSt G o.x o.series r.one r.i r.got [] _
     rw [hb.one, hb.i, hb.got]; exact PartSt.new G o.x o.series
    ·show (((if o.x.parts.length = 0 then (3 : Int) else 2) = 2 ∧ r.i ≠ _ ∧ (r.got.length : Int) < o.told + r.cap) ∨ ((if o.x.parts.length = 0 then (3 : Int) else 2) = 3 ∧ r.one = none ∧ _ ∧ (r.i = (o.x.parts.length : Int) ∨ _)))
     rw [hb.i, hb.got, hb.one]
     by_cases h0 : o.x.parts.length = 0
     ·rw [if_pos h0]; exact .inr ⟨rfl, rfl, rfl, .inl O0⟩
     ·rw [if_neg h0]; exact .inl ⟨rfl, by show (0 : Int) ≠ (o.x.parts.length : Int); omega, by show (0 : Int) < o.told + r.cap; omega⟩
 | @next _ hf hh hu o pn k hg hou how hox hot hp hn0 hph =>
  obtain ⟨o', h1, _, _, o1, o2, o3, o4⟩ := hI.mine rfl
  rw [hg] at h1
  obtain rfl := Uk h1
  have hxok : SnpOk G s.b.last r.x := by rw [<- hox]; exact o1
  have hfew := hxok.few
  have htail := hxok.tail
  have hsl := Snp.len hxok
  have hgl := hp.got_len hxok.prts
  have hon : s.t.on r.o.iter = o := by unfold Tb.on; rw [hg]; rfl
  rw [hon] at hte
  rw [hox] at o3
  have ht0 : 0 <= r.told ∧ r.told <= 800007 := by omega
  have hS : ∀ p ∈ r.x.parts, ∃ e, mget p.blob s.b.l = some e ∧ (G p.blob).Ok e.bs := fun p hp => by
   obtain ⟨e, he, ho, _⟩ := hI.sto.alive (qgc hg (show p ∈ o.x.parts by rw [hox]; exact hp))
   exact ⟨e, he, ho⟩
  have hplen := hI.pins_le
  rw [Uh, Ua] at hplen
  rcases hph with ⟨h2, hi, hlt⟩ | ⟨h3, hone, hpn, hfull⟩
  ·obtain ⟨z, hz⟩ : ∃ z, r.part s o.series = z := ⟨_, rfl⟩
   rw [if_neg O0, if_pos h2, hz] at hte
   have hpo := fy hI rfl hp hxok hi o4 hS hTg
   obtain ⟨_, hst⟩ := xo (s := s) hp hxok hlast hi o4 hI.cac_in hS
   rw [hte]
   rcases hst with ⟨one, i, got, pn', k', C, e1, e2, e3, e4, e5⟩ | ⟨y, kk, e1, e2, e3, e4, e5⟩
   ·have hp1 := e2.pins1
    refine ⟨⟨hI.tfits, fun _ => by rw [hon]; exact ⟨hpo, by rw [e1]; exact e4.good.ok O25⟩, O_o, fun _ h => absurd h2 h⟩, ?_⟩
    rw [e1] at hz
    rw [<- hz, if_neg (fun h => h rfl)]
    dsimp only
    have hwt : wI (r.told + r.cap) = r.told + r.cap := jp O0 O0
    rw [hwt, hox]
    have hI' := hI.cache (pn := pn') O0 e4
    have hgl' := e2.got_len hxok.prts
    refine ⟨_, acc, G, hI'.mono O0 O0, fun _ _ => rfl, Uu _, h1l, fun _ h1 h2 => absurd h1 (Vj.2 h2), Keeps.same rfl rfl, rfl, rfl, e5, rfl, .some rfl ⟨hr.over, hr.bad, hr.wf, hr.al, hr.s4, hr.s5, hr.n4, hr.n5, hr.xp, hr.f0, hr.f3⟩ (k' + 1) ?_ (.inl ⟨O_o, rfl, ite3 _⟩) rfl (fun h => absurd h O10)⟩
    refine Rel.next (r := { r with one := one, i := i, got := got, ph := if i = (r.x.parts.length : Int) ∨ (got.length : Int) ≥ r.told + r.cap then 3 else 2 }) hk hf hh hu hg hou how hox hot e2 hn0 ?_
    show ((if i = (r.x.parts.length : Int) ∨ (got.length : Int) ≥ r.told + r.cap then (3 : Int) else 2) = 2 ∧ i ≠ _ ∧ (got.length : Int) < r.told + r.cap) ∨ ((if i = (r.x.parts.length : Int) ∨ (got.length : Int) ≥ r.told + r.cap then (3 : Int) else 2) = 3 ∧ one = none ∧ pn' = [] ∧ (i = (r.x.parts.length : Int) ∨ r.told + r.cap <= (got.length : Int)))
    by_cases h0 : i = (r.x.parts.length : Int) ∨ (got.length : Int) ≥ r.told + r.cap
    ·rw [if_pos h0]
     have hnone : one = none ∧ pn' = [] := by
      rcases h0 with h0 | h0
      ·rw [h0] at e2
       exact ⟨e2.full.2.1, e2.full.2.2⟩
      ·obtain ⟨j, q1, q2, q3, ⟨q4, q5, _⟩ | ⟨y, p, kk, q4, q5, _⟩⟩ := e2
       ·exact ⟨q4, q5⟩
       ·exfalso
        rw [Run.part_eq] at e1
        split at e1
        ·have := congrArg (fun z => z.2.2) e1
         dsimp only at this
         rename_i hne
         exact hne this
        ·split at e1
         ·have := congrArg (fun z : Run × Shd × Int => z.1.one) e1
          dsimp only at this
          rw [<- this] at q4; cases q4
         ·have := congrArg (fun z : Run × Shd × Int => z.1.got) e1
          dsimp only at this
          rw [<- this] at h0
          omega
     exact .inr ⟨rfl, hnone.1, hnone.2, h0⟩
    ·rw [if_neg h0]
     exact .inl ⟨rfl, fun h => h0 (.inl h), O_o⟩
   ·refine ⟨⟨hI.tfits, fun _ => by rw [hon]; exact ⟨hpo, by rw [e1]; exact hI.cacOk⟩, O_o, fun _ h => absurd h2 h⟩, ?_⟩
    rw [e1] at hz
    rw [<- hz, if_pos (show (6 : Int) ≠ 0 by decide)]
    obtain ⟨c1, c2⟩ := e3.leave (ps := A.flatMap Ag.pins) (C := s.c) (by
     have := hI.cac_in
     (try dsimp only at this)
     rw [e2] at this
     exact this)
    have hI1 := hI.cache (pn := []) (Ud _) c1
    have hm : Tb.mine s.t r.o.iter r.who = some o := by
     unfold Tb.mine
     rw [hg]
     dsimp only
     rw [if_pos ⟨hou, how⟩]
    have hI2 := hI1.frees (o := o) (told := o.told) rfl hg o2 (by rw [hox]; exact o3)
    have key : ((({ r with one := some y } : Run).fail s).1.free (({ r with one := some y } : Run).fail s).2) = ({ r with one := some (y.leave s.c).1, using_ := false }, { s with c := (y.leave s.c).2, t := ⟨s.t.last, mset r.o.iter { o with used := false } s.t.l⟩ }) := by
     rw [Run.free_eq]
     unfold Run.fail Tb.free
     dsimp only
     rw [hm]
    dsimp only
    rw [key]
    refine ⟨_, acc, G, (hI2.set_n hn).2, fun _ _ => rfl, Uu _, h1l, fun _ h1 h2 => absurd h1 (Vj.2 h2), Keeps.on hg (.inr how) rfl rfl, rfl, rfl, c2, rfl, .busy rfl rfl (holds0 hf rfl hh) rfl ?_ rfl (allPinned_of (al := al) (G := G) (b := s.b.last) (by
     have hcc := hI.cac_in
     (try dsimp only at hcc)
     rw [e2] at hcc
     exact hcc) e4 e5) (.inr hk)⟩
    show (⟨serOf s.d G, itsOf (mset r.o.iter { o with used := false } s.t.l) G, s.t.last⟩ : Mdl) = _
    rw [show itsOf (mset r.o.iter { o with used := false } s.t.l) G = itsOf s.t.l G from itsOf_same hg rfl rfl]; rfl
  ·rw [if_neg O0, if_neg O0] at hte
   refine ⟨⟨hI.tfits, fun h => by omega, O_o, fun _ _ => ht0.1⟩, ?_⟩
   rw [hte]
   rw [hpn] at hI hp
   have hpre := hp.pre
   have hL : r.told_ o r.cap = ((o.x.all G).drop o.told.toNat).take r.cap.toNat := by
    unfold Run.told_
    dsimp only
    rw [hox, hot]
    by_cases hi : r.i = (r.x.parts.length : Int)
    ·rw [if_pos hi]
     rw [hi] at hp
     rw [hp.full.1]
     rw [show (min r.told ((r.x.all G).length : Int)) = r.told by omega]
     generalize (r.x.all G).drop r.told.toNat = M
     by_cases hm : r.cap <= (M.length : Int)
     ·rw [show min r.cap (M.length : Int) = r.cap by omega]
     ·rw [show min r.cap (M.length : Int) = (M.length : Int) by omega, Uv O0, Uv O0]
    ·rw [if_neg hi]
     have hgc : r.told + r.cap <= (r.got.length : Int) := by
      rcases hfull with h | h
      ·exact absurd h hi
      ·exact h
     rw [show min r.told (r.got.length : Int) = r.told by omega, pre_drop_take hpre (d := r.told.toNat) (c := r.cap.toNat) O0]
     have : ((r.got.drop r.told.toNat).length : Int) = (r.got.length : Int) - r.told := by rw [Uq]; omega
     rw [show min r.cap ((r.got.drop r.told.toNat).length : Int) = r.cap by omega]
   obtain ⟨s', h1, h2, h3, h4, h5, h6⟩ := me hI hg hou how hr.bad hk hL
   rw [h1]
   have h4' : s'.b.last = s.b.last ∧ s'.b.budget = s.b.budget := by rw [h4]; exact ⟨rfl, rfl⟩
   refine ⟨_, acc, G, (h2.set_n hn).2, fun _ _ => rfl, by show _ <= s'.b.last; omega, by show s'.b.last <= _; omega, fun _ h1 h2 => absurd h1 (Vj.2 (Vy h2 O24)), h3, rfl, rfl, ?_, h4'.2, .point rfl rfl (holds0 hf rfl hh) rfl h6⟩
   show s'.c.clk.most = _; rw [h5]
theorem z8 (hI : Inv s (a :: A) acc al G n) (hr : RunOk al r) (hR : Rel G s r a k) (hn : n + 2 <= 1000000000) (hb : s.b.last < 100000) (hTg : ∀ id, 1 <= id -> id <= s.b.last -> CodOk (G id).tag) : r.StepOk s ∧ ∃ a' acc' G', Out A al s G n r k (r.step s) a' acc' G' := by
 have hst : r.step s = if r.o.kind = 2 then r.read s else if r.o.kind = 5 then r.open_ s else if r.o.kind = 6 then r.tell s else if r.o.kind = 7 then r.shut s else r.write s := by
  unfold Run.step
  rw [hr.over, if_neg Vn, hr.bad, if_neg Vn]
 rw [hst]
 by_cases h2 : r.o.kind = 2
 ·rw [if_pos h2]
  obtain ⟨q1, q2⟩ := am hI hr h2 hR hn hTg
  exact ⟨⟨fun _ _ _ => q1, fun _ _ h => by omega, fun _ _ h => by omega, fun _ _ h => by omega, fun _ _ h => absurd h2 h⟩, q2⟩
 rw [if_neg h2]
 by_cases h5 : r.o.kind = 5
 ·rw [if_pos h5]
  obtain ⟨q1, q2⟩ := ai hI hr h5 hR hn
  exact ⟨⟨fun _ _ h => absurd h h2, fun _ _ _ => q1, fun _ _ h => by omega, fun _ _ h => by omega, fun _ _ _ h => absurd h5 h⟩, q2⟩
 rw [if_neg h5]
 by_cases h6 : r.o.kind = 6
 ·rw [if_pos h6]
  obtain ⟨q1, q2⟩ := aa hI hr h6 hR hn hTg
  exact ⟨⟨fun _ _ h => absurd h h2, fun _ _ h => absurd h h5, fun _ _ _ => q1, fun _ _ h => by omega, fun _ _ _ _ h => absurd h6 h⟩, q2⟩
 rw [if_neg h6]
 by_cases h7 : r.o.kind = 7
 ·rw [if_pos h7]
  obtain ⟨q1, q2⟩ := ae hI hr h7 hR hn
  exact ⟨⟨fun _ _ h => absurd h h2, fun _ _ h => absurd h h5, fun _ _ h => absurd h h6, fun _ _ _ => q1, fun _ _ _ _ _ h => absurd h7 h⟩, q2⟩
 rw [if_neg h7]
 have hw : r.wrt := by
  have hb := hr.bad
  unfold Run.bad at hb
  by_cases hk : 1 <= r.o.kind ∧ r.o.kind <= 5
  ·unfold Run.wrt; omega
  ·rw [if_neg hk] at hb
   simp [h6, h7] at hb
 obtain ⟨q1, q2⟩ := th hI hr hw hR hn hb
 exact ⟨⟨fun _ _ h => absurd h h2, fun _ _ h => absurd h h5, fun _ _ h => absurd h h6, fun _ _ h => absurd h h7, fun _ _ _ _ _ _ => q1⟩, q2⟩
end
section
section
variable {w0 w : World} {l : List HProp} {t p : Nat} {r : Run} {s : Shd} {q : RunQ}
theorem bx (h : St w0 (IsRun t r :: l) w) :
  Ret prog 16 [.pz t] w fun v w' => v = .iz r.holds ∧ St w0 (IsRun t r :: l) w' := by
 obtain ⟨P, hP⟩ : ∃ P : Nat -> Int, P = fun k => (if 1 <= k ∧ r.flag = true then 1 else 0) + (if 2 <= k ∧ r.using_ = true then 1 else 0) + (if 3 <= k ∧ r.held = true then 1 else 0) := ⟨_, rfl⟩
 have p0 : P 0 = 0 := by rw [hP]; rfl
 have hPr : ∀ k, 0 <= P k ∧ P k <= 3 := by
  intro k
  rw [hP]
  dsimp only
  split <;> split <;> split <;> omega
 have p3 : P 3 = r.holds := by
  rw [hP]
  unfold Run.holds
  cases r.flag <;> cases r.using_ <;> cases r.held <;> rfl
 have hh := h
 obtain ⟨q, h⟩ := (St.run (r := r)).1 h
 replace h : St w0 (RunPt t r q :: (r.rows q ++ l)) w := h
 generalize hX : r.rows q ++ l = X at h
 refine en func16 results16 ntmps16 ?_
 refine Yr ?_; refine Yr ?_
 refine qf (qf (jh none (fun w => St w0 (RunPt t r q :: X) w) O1 O1 h.drew fun w h => ?_))
 refine Y3 ?_
 refine qj rfl rfl rfl rfl h (fun _ h => qh rfl (qq (v := .bool r.flag) rfl (h.b 0 rfl) rfl)) ?_
 refine Y3 ?_
 refine qj rfl rfl rfl rfl h (fun _ h => qh rfl (qq (v := .bool r.using_) rfl (h.b 0 rfl) rfl)) ?_
 refine Y3 ?_
 refine qj rfl rfl rfl rfl h (fun _ h => qh rfl (qq (v := .bool r.held) rfl (h.b 0 rfl) rfl)) ?_
 refine Yq ?_; refine Y18 ?_
 refine qd 12 rfl rfl rfl rfl ?_
 refine jg (r := [.bool r.flag, .bool r.using_, .bool r.held]) h rfl rfl rfl fun b w h => ⟨fun _ => h.drop, ?_⟩
 have hφ := h.drop
 refine qu rfl rfl rfl rfl (fun _ => hφ) (fun _ => qh rfl (t9 rfl)) ?_
 refine qn ?_
 refine Yh ?_
 refine jx (Γ := Nat) (fun i => [(3, .iz (P i)), (18, .slice (sQ b) 3 3), (19, .iz 3), (20, .iz (i : Int))]) (fun i w => i <= 3 ∧ St w0 (pt b (.cells [.bool r.flag, .bool r.using_, .bool r.held].toArray 4 (0, 0)) :: RunPt t r q :: X) w) (fun i => 3 - i) 0 ⟨by rw [p0]; rfl, rfl, rfl, rfl, trivial⟩ ⟨Ud _, h⟩ ?_
 clear h
 rintro i w e ⟨hi, h⟩
 refine Y3p ?_
 by_cases hlt : i < 3
 ·refine qz (.bool true) O3 ?_
  refine Y42 ?_; refine Yl ?_
  refine qt (Γ := Unit) (fun _ => [(3, .iz (P (i + 1))), (18, .slice (sQ b) 3 3), (19, .iz 3), (20, .iz (i : Int))]) (fun _ w => St w0 (pt b (.cells [.bool r.flag, .bool r.using_, .bool r.held].toArray 4 (0, 0)) :: RunPt t r q :: X) w) (wy ?_) ?_
  rotate_left
  ·rintro _ w e h
   refine Yt ?_
   refine qz (.iz ((i + 1 : Nat) : Int)) O19 ?_
   refine Y0 ?_
   exact qv ⟨i + 1, zz4, ⟨O_o, h⟩, O_o⟩
  obtain rfl | rfl | rfl : i = 0 ∨ i = 1 ∨ i = 2 := by omega
  ·have hp : P 1 = P 0 + (if r.flag = true then 1 else 0) := by
    rw [hP]
    dsimp only
    cases r.flag <;> cases r.using_ <;> cases r.held <;> rfl
   refine Y1 ?_
   refine r_v (jb (j := 0) (o' := 0) rfl rfl rfl O2 rfl) rfl ?_
   refine r_v (qq (v := .bool r.flag) rfl (h.b 0 rfl) rfl) rfl ?_
   refine Ya ?_; refine Y31 ?_
   refine qv (qi r.flag rfl (fun hc => ?_) (fun hc => ?_))
   ·rw [if_pos hc] at hp
    refine Y2z ?_
    refine qz (.iz (P 1)) (by rw [hp, wrap64 (by have := hPr 0; omega) (by have := hPr 0; omega)]) ?_
    refine Y6 ?_
    exact qv ⟨(), zz4, h⟩
   ·rw [if_neg (by rw [hc]; decide), Int.add_zero] at hp
    exact qa ⟨(), ⟨by rw [hp]; rfl, rfl, rfl, rfl, trivial⟩, h⟩
  ·have hp : P 2 = P 1 + (if r.using_ = true then 1 else 0) := by
    rw [hP]
    dsimp only
    cases r.flag <;> cases r.using_ <;> cases r.held <;> rfl
   refine Y1 ?_
   refine r_v (jb (j := 1) (o' := 1) rfl rfl rfl O2 rfl) rfl ?_
   refine r_v (qq (v := .bool r.using_) rfl (h.b 0 rfl) rfl) rfl ?_
   refine Ya ?_; refine Y31 ?_
   refine qv (qi r.using_ rfl (fun hc => ?_) (fun hc => ?_))
   ·rw [if_pos hc] at hp
    refine Y2z ?_
    refine qz (.iz (P 2)) (by rw [hp, wrap64 (by have := hPr 1; omega) (by have := hPr 1; omega)]) ?_
    refine Y6 ?_
    exact qv ⟨(), zz4, h⟩
   ·rw [if_neg (by rw [hc]; decide), Int.add_zero] at hp
    exact qa ⟨(), ⟨by rw [hp]; rfl, rfl, rfl, rfl, trivial⟩, h⟩
  ·have hp : P 3 = P 2 + (if r.held = true then 1 else 0) := by
    rw [hP]
    dsimp only
    cases r.flag <;> cases r.using_ <;> cases r.held <;> rfl
   refine Y1 ?_
   refine r_v (jb (j := 2) (o' := 2) rfl rfl rfl O2 rfl) rfl ?_
   refine r_v (qq (v := .bool r.held) rfl (h.b 0 rfl) rfl) rfl ?_
   refine Ya ?_; refine Y31 ?_
   refine qv (qi r.held rfl (fun hc => ?_) (fun hc => ?_))
   ·rw [if_pos hc] at hp
    refine Y2z ?_
    refine qz (.iz (P 3)) (by rw [hp, wrap64 (by have := hPr 2; omega) (by have := hPr 2; omega)]) ?_
    refine Y6 ?_
    exact qv ⟨(), zz4, h⟩
   ·rw [if_neg (by rw [hc]; decide), Int.add_zero] at hp
    exact qa ⟨(), ⟨by rw [hp]; rfl, rfl, rfl, rfl, trivial⟩, h⟩
 ·refine qz (.bool false) O4 ?_
  refine qv (qf (qe rfl (ju ?_)))
  obtain rfl : i = 3 := by omega
  refine Y8 ?_; refine Y6 ?_
  refine qv (qk (bq1 ⟨by rw [p3]; rfl, ?_⟩))
  rw [<- hX] at h
  exact (St.run (r := r)).2 ⟨q, h.drop⟩
end
end
section
section
variable {w0 w : World} {l : List HProp} {t p : Nat} {r r' : Run} {s s' : Shd} {n : Nat} {d : Int}
inductive Solo : Run -> Shd -> Nat -> Run -> Shd -> Int -> Prop
 | last {r : Run} {s : Shd} {d : Int} (hok : r.StepOk s) (hd : (r.step s).2.2 = d) (h : d = 2 ∨ d = 3) : Solo r s 1 (r.step s).1 (r.step s).2.1 d
 | more {r : Run} {s : Shd} {n : Nat} {r' : Run} {s' : Shd} {d : Int} (hok : r.StepOk s) (hd : (r.step s).2.2 = 1) (h : Solo (r.step s).1 (r.step s).2.1 n r' s' d) : Solo r s (n + 1) r' s' d
theorem law22_whole (h : St w0 (IsSh p s :: l) w) : Ret prog 12 [.pz p] w fun v w' => v = .bool true ∧ St w0 (IsSh p s :: l) w' := by
 refine en func12 results12 ntmps12 ?_
 refine Y12 ?_; refine Ym ?_; refine r_v (ve rfl rfl) rfl ?_; refine Y3f ?_
 refine r_c rfl (qg rfl (qgz h) ?_)
 clear h
 rintro _ w ⟨q, rfl, h⟩
 replace h := St.shd.2 ⟨q, h⟩
 refine Yc ?_; refine r_v (ve rfl rfl) rfl ?_; refine Yf ?_; refine Y3f ?_
 refine r_c rfl (qg rfl (yt h) ?_)
 clear h
 rintro _ w ⟨q, rfl, h⟩
 replace h := St.shd.2 ⟨q, h⟩
 refine Yc ?_; refine r_v (ve rfl rfl) rfl ?_; refine Yf ?_; refine Y3f ?_
 refine r_c rfl (qg rfl (xb h) ?_)
 clear h
 rintro _ w ⟨q, rfl, h⟩
 replace h := St.shd.2 ⟨q, h⟩
 refine Yc ?_; refine r_v (ve rfl rfl) rfl ?_; refine Yf ?_; refine Y3f ?_
 refine r_c rfl (qg rfl (eg h) ?_)
 clear h
 rintro _ w ⟨q, rfl, h⟩
 replace h := St.shd.2 ⟨q, h⟩
 refine Yc ?_; refine r_v (ve rfl rfl) rfl ?_; refine Y2m ?_
 exact qv (qk (bq1 ⟨rfl, h⟩))
theorem law22_alone (hT : Tz w0) {o : Opr} (hs : Solo (Run.new 0 o) s n r' s' d) (hn : n <= 3000) (ho : r'.over = true) (hh : r'.holds = 0) (hl : r'.res.list.length <= 1073741824) (h : St w0 (IsSh p s :: l) w) :
  Ret prog 13 [.pz p, .agg o.C.toArray] w fun v w' => ∃ a c, v = .tuple [.agg (r'.res.C a c).toArray, .iz (n : Int), .bool true].toArray ∧ St w0 (OwnS a c r'.res.list :: IsSh p s' :: l) w' := by
 have hout : r'.out = r'.res := by unfold Run.out; rw [ho]; rfl
 refine en func13 results13 ntmps13 ?_
 refine Y1 ?_
 refine r_c rfl (jv h (show _ = Value.agg o.C.toArray from rfl) fun b3 w h => ?_)
 refine r_c rfl (qp h fun b4 w h => ?_)
 refine Y1n ?_; refine Y1 ?_
 refine r_v (qx (l := o.C) rfl rfl (qw (h.b 1 rfl) rfl)) rfl ?_
 refine r_c rfl (qg rfl (ci 0 o h) ?_)
 clear h
 rintro _ w ⟨t, rfl, h⟩
 obtain ⟨res0, hr0⟩ : ∃ v : List Value, [.iz 0, .iz 0, .slice none 0 0] = v := ⟨_, rfl⟩
 replace h : St w0 (IsRun t (Run.new 0 o) :: pt b4 (.cells [.iz 0, .iz 0, .slice none 0 0].toArray 28 (0, 0)) :: pt b3 (.cells o.C.toArray 33 (0, 0)) :: IsSh p s :: l) w := h
 replace h : St w0 (IsRun t (Run.new 0 o) :: IsSh p s :: pt b4 (.cells [.iz 0, .iz 0, .slice none 0 0].toArray 28 (0, 0)) :: l) w := (h.x [2]).o [0, 2, 1]
 refine Y3d ?_; refine Yb ?_; refine qf ?_; refine Y4d ?_
 refine jx (Γ := Nat × Nat × Run × Shd) (fun g => [(0, .pz p), (4, .pz b4), (7, .pz t), (8, .iz ((g.1 + 1 : Nat) : Int))])
  (fun g w => g.1 + g.2.1 = n ∧ Solo g.2.2.1 g.2.2.2 g.2.1 r' s' d ∧ St w0 (IsRun t g.2.2.1 :: IsSh p g.2.2.2 :: pt b4 (.cells [.iz 0, .iz 0, .slice none 0 0].toArray 28 (0, 0)) :: l) w) (fun g => g.2.1) (0, n, Run.new 0 o, s) zz4 ⟨Uz _, hs, h⟩ ?_
 clear h hs
 rintro ⟨i, m, r, s⟩ w e ⟨him, hs, h⟩
 dsimp only at him hs h ⊢
 have hm1 : 1 <= m := by cases hs <;> omega
 refine Y1w ?_; refine Y3v ?_
 refine qz (.bool true) O3 ?_
 refine Yd ?_; refine Y1z ?_; refine Y10 ?_
 have hok : r.StepOk s := by cases hs with | last hok => exact hok | more hok => exact hok
 refine r_c rfl (qg rfl (ue hT hok h) ?_)
 clear h
 rintro _ w ⟨rfl, h⟩
 obtain ⟨dd, hdd⟩ : ∃ dd, (r.step s).2.2 = dd := ⟨_, rfl⟩
 rw [hdd]
 have hd0 : dd ≠ 0 := by
  rw [<- hdd]
  cases hs with
  | last _ hd h => omega
  | more _ hd => omega
 refine Y4 ?_; refine Y3y ?_
 refine qz (.bool false) (by congr 1; rw [beq_eq_false_iff_ne]; exact hd0) ?_
 refine Yb ?_
 cases hs with
 | last _ hd hdc =>
  rw [hdd] at hd
  subst hd
  generalize hr1 : (r.step s).1 = r1 at h ho hh hl hout
  generalize hs1 : (r.step s).2.1 = s1 at h
  refine qt (Γ := Unit) (fun _ => [(4, .pz b4), (7, .pz t), (8, .iz ((i + 1 : Nat) : Int)), (32, .bool true)]) (fun _ w => St w0 (IsRun t r1 :: IsSh p s1 :: pt b4 (.cells [.iz 0, .iz 0, .slice none 0 0].toArray 28 (0, 0)) :: l) w) ?_ ?_
  ·refine Y2a ?_; refine Yp ?_
   rcases hdc with rfl | rfl
   ·refine qz (.bool true) rfl ?_
    refine Y1v ?_; refine Yf ?_
    exact qv ⟨(), zz4, h⟩
   ·refine qz (.bool false) rfl ?_
    refine Y46 ?_; refine Y9 ?_
    exact qv ⟨(), zz4, h⟩
  clear h
  rintro _ w e h
  refine Y1k ?_; refine Ym ?_
  refine r_c rfl (qg rfl (yu hl h) ?_)
  clear h
  rintro _ w ⟨a, c, rfl, h⟩
  rw [hout, ho]
  rw [hout] at h
  refine Y3e ?_
  refine r_c rfl (qp h fun b10 w h => ?_)
  refine r_c rfl (qy (vs := r1.res.C a c) 0 h rfl rfl rfl rfl rfl rfl rfl fun w h => ?_)
  refine Y7 ?_
  replace h : St w0 (IsRun t r1 :: pt b10 (.cells (r1.res.C a c).toArray 28 (0, 0)) :: OwnS a c r1.res.list :: IsSh p s1 :: pt b4 (.cells [.iz 0, .iz 0, .slice none 0 0].toArray 28 (0, 0)) :: l) w := h.f 2
  refine Y2e ?_
  refine vo [0, 6, 1, 2, 3, 4, 8, 9, 5, 7, 10] (some 8) (fun w => St w0 (IsRun t r1 :: pt b10 (.cells (r1.res.C a c).toArray 28 (0, 0)) :: OwnS a c r1.res.list :: IsSh p s1 :: pt b4 (.cells [.iz 0, .iz 0, .slice none 0 0].toArray 28 (0, 0)) :: l) w) O1 O1 h.drew fun w h => ?_
  refine qj rfl rfl rfl rfl h (fun _ h => qh rfl (qx (l := r1.res.C a c) rfl rfl (qw (h.b 1 rfl) rfl))) ?_
  refine Y18 ?_; refine Yz ?_; refine Yz ?_; refine qu rfl rfl rfl rfl (fun _ => h) (fun _ => ql rfl rfl (jr rfl)) ?_; refine Y2q ?_
  refine qd 5 rfl rfl rfl (vd rfl rfl rfl) ?_
  refine qg rfl (bx h) ?_
  clear h
  rintro _ w ⟨rfl, h⟩
  rw [hh]
  refine ⟨fun _ => h, ?_⟩
  refine qu rfl rfl rfl rfl (fun _ => h) (fun _ => ql rfl rfl (j9 rfl rfl)) (cpv rfl rfl rfl rfl h rfl (ji rfl rfl rfl) ?_); refine Y11 ?_
  refine jy 8 none rfl rfl rfl rfl ?_
  refine qy (vs := r1.res.C a c) 4 h rfl rfl rfl rfl rfl rfl rfl fun w h => ?_
  refine jz h ?_
  refine Y2s ?_; refine Y1d ?_
  exact qn (qk (bqS3 (l := r1.res.C a c) rfl rfl (qw (h.b 4 rfl) rfl) ⟨a, c, by rw [<- him]; rfl, (h.x [0, 1, 4]).o [0, 1]⟩))
 | more _ hd hs =>
  rw [hdd] at hd
  subst hd
  refine Y8 ?_; refine Yp ?_
  refine qz (.bool false) rfl ?_
  refine Y46 ?_; refine Y9 ?_; refine Yb ?_; refine Y2z ?_
  refine qz (.iz ((i + 1 + 1 : Nat) : Int)) O19 ?_
  refine Y6 ?_
  exact qv ⟨(i + 1, _, _, _), zz4, ⟨O_d, hs, h⟩, O_d⟩
end
end
section
variable {s s' s2 : Shd} {a : Ag} {A : List Ag} {acc : List SlotV} {al : Int -> Bool} {G G' : Int -> Blb} {n n' : Nat} {r r' : Run} {who : Int} {k : Nat}
def Quiet (r : Run) (s : Shd) : Prop := r.o.kind = 2 -> r.flag = false -> r.ph ≠ 0 -> ∃ sl, Dir.look s.d r.o.series = some sl ∧ sl.life = r.x.life ∧ sl.ver = r.x.ver
theorem wu {sl : SlotV} (hk : r.o.kind = 2) (hs : r.flag = true ∨ Dir.look s.d r.o.series = some sl) (h : (r.begin_ s sl).2.2 = 1) : Quiet (r.begin_ s sl).1 (r.begin_ s sl).2.1 ∧ (r.begin_ s sl).1.ph ≠ 0 := by
 obtain ⟨z, hz⟩ : ∃ z, r.begin_ s sl = z := ⟨_, rfl⟩
 rw [hz] at h ⊢
 unfold Run.begin_ at hz
 by_cases ht : sl.there = false
 ·rw [if_pos ht] at hz
  subst hz
  cases h
 ·rw [if_neg ht] at hz
  dsimp only at hz
  generalize s.b.hold [] (sl.snap r.o.F r.o.To).parts = q at hz
  obtain ⟨q1, q2⟩ := q
  cases q1 with
  | false => subst hz; cases h
  | true =>
   subst hz
   refine ⟨fun _ hf _ => ?_, ?_⟩
   ·have hf' : r.flag = false := hf
    rcases hs with hs | hs
    ·rw [hs] at hf'; cases hf'
    ·exact ⟨sl, hs, rfl, rfl⟩
   ·show (if (sl.snap r.o.F r.o.To).parts.length = 0 then (3 : Int) else 2) ≠ 0
    split <;> decide
theorem bb (hk : r.o.kind = 2) (hQ : Quiet r s) (h1 : r.ph = 1 -> r.flag = true) (h : (r.read s).2.2 = 1) : Quiet (r.read s).1 (r.read s).2.1 ∧ (r.read s).1.ph ≠ 0 := by
 obtain ⟨z, hz⟩ : ∃ z, r.read s = z := ⟨_, rfl⟩
 rw [hz] at h ⊢
 unfold Run.read at hz
 by_cases p0 : r.ph = 0
 ·rw [if_pos p0] at hz
  unfold Run.look at hz
  by_cases hf : r.fails ≥ 3
  ·rw [if_pos hf] at hz
   unfold Run.take at hz
   cases hl : Dir.look s.d r.o.series with
   | none => rw [hl] at hz; subst hz; cases h
   | some sl =>
    rw [hl] at hz
    dsimp only at hz
    cases ht : Dir.take s.d r.o.series r.who with
    | none => rw [ht] at hz; subst hz; cases h
    | some D =>
     rw [ht] at hz
     subst hz
     exact ⟨fun _ hf _ => (by cases hf), by show (1 : Int) ≠ 0; decide⟩
  ·rw [if_neg hf] at hz
   cases hl : Dir.look s.d r.o.series with
   | none => rw [hl] at hz; subst hz; cases h
   | some sl =>
    rw [hl] at hz
    subst hz
    exact wu hk (.inr hl) h
 ·rw [if_neg p0] at hz
  by_cases p1 : r.ph = 1
  ·rw [if_pos p1] at hz
   subst hz
   exact wu hk (.inl (h1 p1)) h
  ·rw [if_neg p1] at hz
   by_cases p2 : r.ph = 2
   ·rw [if_pos p2, Run.part_eq] at hz
    by_cases c1 : ((r.cur r.o.series).step s.b s.c).2.2 ≠ 0
    ·rw [if_pos c1] at hz
     dsimp only at hz
     rw [if_pos c1] at hz
     subst hz; cases h
    ·rw [if_neg c1] at hz
     by_cases c2 : ((r.cur r.o.series).step s.b s.c).1.done = true
     ·rw [if_pos c2] at hz
      dsimp only at hz
      rw [if_neg (fun h => h rfl)] at hz
      subst hz
      refine ⟨fun _ hf _ => hQ hk hf p0, ?_⟩
      show (if _ then (3 : Int) else 2) ≠ 0
      split <;> decide
     ·rw [if_neg c2] at hz
      dsimp only at hz
      rw [if_neg (fun h => h rfl)] at hz
      subst hz
      refine ⟨fun _ hf _ => hQ hk hf p0, ?_⟩
      show (if _ then (3 : Int) else 2) ≠ 0
      split <;> decide
   ·rw [if_neg p2] at hz
    by_cases hf : r.flag = true
    ·rw [if_pos hf] at hz
     subst hz; cases h
    ·rw [if_neg hf] at hz
     obtain ⟨sl, q1, q2, q3⟩ := hQ hk (by cases hx : r.flag with | false => rfl | true => exact absurd hx hf) p0
     rw [q1] at hz
     dsimp only at hz
     rw [if_pos ⟨q2, q3⟩] at hz
     subst hz; cases h
theorem Rel.pos (h : Rel G s r a k) : 1 <= k := by
 cases h with
 | idle => unfold Run.need; split <;> (try split) <;> (try split) <;> omega
 | _ => omega
theorem Rel.ph1 (h : Rel G s r a k) (h1 : r.ph = 1) : r.flag = true := by
 cases h with
 | idle h0 => omega
 | make _ _ hf => exact hf
 | put _ _ hf => exact hf
 | hard _ _ hf => exact hf
 | read _ _ _ _ _ _ _ _ hph => omega
 | next _ _ _ _ _ _ _ _ _ _ _ hph => omega
inductive End_ (A : List Ag) (s : Shd) (G : Int -> Blb) (r : Run) (s' : Shd) (G' : Int -> Blb) (res : Res) : Int -> Prop
 | point (ha : (abs s G).act r.o = (abs s' G', res)) : End_ A s G r s' G' res 2
 | full (ha : abs s' G' = abs s G) (hr : res = ⟨9, 0, []⟩) (hp : r.ph = 0 ∨ r.ph = 1) (hk : r.wrt) (hb : s'.b = s.b) (hw : (r.o.kind = 1 ∧ (s.b.room < 16 ∨ ∃ sl : SlotV, sl.opn.length = 7 ∧ (r.ph = 1 -> sl = r.slot) ∧ (r.ph = 0 -> Dir.look s.d r.o.series = some sl))) ∨ r.o.kind = 3) (hroom : s.b.room < 300) : End_ A s G r s' G' res 3
 | busy (ha : abs s' G' = abs s G) (hr : res = ⟨6, 0, []⟩) (hk : r.o.kind = 2 ∨ r.o.kind = 6) (hc : AllPinned A s.c) : End_ A s G r s' G' res 3
structure Kpt (who : Int) (s : Shd) (G : Int -> Blb) (s' : Shd) (G' : Int -> Blb) : Prop where
 same : ∀ id, id <= s.b.last -> G' id = G id
 le : s.b.last <= s'.b.last
 tag : ∀ id, s.b.last < id -> id <= s'.b.last -> (G' id).tag = 1 ∧ (G' id).L.length <= 8
 keeps : Keeps who s s'
 most : s'.c.clk.most = s.c.clk.most
 budget : s'.b.budget = s.b.budget
theorem Kpt.refl (who : Int) (s : Shd) (G : Int -> Blb) : Kpt who s G s G := ⟨fun _ _ => rfl, Uu _, fun _ h1 h2 => absurd h1 (Vj.2 h2), Keeps.refl _ _, rfl, rfl⟩
theorem Kpt.trans {G2 : Int -> Blb} (h : Kpt who s G s' G') (h' : Kpt who s' G' s2 G2) : Kpt who s G s2 G2 := by
 refine ⟨fun id hid => (h'.same id (Vy hid h.le)).trans (h.same id hid), Vy h.le h'.le, fun id h1 h2 => ?_, h.keeps.trans h'.keeps, h'.most.trans h.most, h'.budget.trans h.budget⟩
 by_cases hm : id <= s'.b.last
 ·rw [h'.same id hm]; exact h.tag id h1 hm
 ·exact h'.tag id O0 h2
theorem Out.kept {q : Run × Shd × Int} {a' : Ag} {acc' : List SlotV} (h : Out A al s G n r k q a' acc' G') : Kpt r.who s G q.2.1 G' := ⟨h.same, h.le, h.tag, h.keeps, h.most, h.budget⟩
theorem AllPinned.same {C C' : Cac} (h : AllPinned A C) (hm : C'.clk.most = C.clk.most) : AllPinned A C' := by
 obtain ⟨ks, h1, h2, h3⟩ := h
 exact ⟨ks, h1, by rw [hm]; exact h2, h3⟩
theorem vx (ho : r.over = false) (hb : Run.bad r.o = false) (hk : r.o.kind = 2) : r.step s = r.read s := by
 unfold Run.step
 rw [ho, if_neg Vn, hb, if_neg Vn, if_pos hk]
def Run.todo (r : Run) : Int := if (r.o.kind = 1 ∨ r.o.kind = 3 ∨ r.o.kind = 4) ∧ r.ph ≠ 3 then 1 else 0
theorem v6 (r : Run) : 0 <= r.adds ∧ r.adds <= r.todo ∧ r.todo <= 1 := by
 unfold Run.adds Run.todo
 split <;> split <;> omega
theorem i6 : ∀ (N k : Nat) (r : Run) (s : Shd) (a : Ag) (acc : List SlotV) (G : Int -> Blb) (n : Nat), k <= N -> Inv s (a :: A) acc al G n -> RunOk al r -> Rel G s r a k -> Quiet r s -> ¬ Blk A r.o -> n + 2 * k <= 1000000000 -> s.b.last + r.todo < 100000 -> (∀ id, 1 <= id -> id <= s.b.last -> CodOk (G id).tag) ->
  ∃ (m : Nat) (r' : Run) (s' : Shd) (d : Int) (acc' : List SlotV) (G' : Int -> Blb), Solo r s m r' s' d ∧ 1 <= m ∧ m <= k ∧ Inv s' (Ag.idle r.who :: A) acc' al G' (n + 2 * m) ∧ Kpt r.who s G s' G' ∧ s'.b.last <= s.b.last + r.todo ∧ r'.over = true ∧ r'.holds = 0 ∧ r'.who = r.who ∧ r'.o = r.o ∧ End_ A s G r s' G' r'.res d
 | 0, k, r, s, a, acc, G, n, hkN, hI, hr, hR, hQ, hnb, hn, hb1, hTg => by have := hR.pos; omega
 | N + 1, k, r, s, a, acc, G, n, hkN, hI, hr, hR, hQ, hnb, hn, hb1, hTg => by
  have hk1 := hR.pos
  have hadds := v6 r
  obtain ⟨hok, a', acc', G', hO⟩ := z8 hI hr hR O0 O0 hTg
  obtain ⟨q, hq⟩ : ∃ q, r.step s = q := ⟨_, rfl⟩
  rw [hq] at hO
  have hle1 := hO.le1
  have hinv := hO.inv
  cases hO.did with
  | none h hp hB => exact absurd hB hnb
  | point h ho hh ha' ha =>
   subst ha'
   refine ⟨1, q.1, q.2.1, 2, acc', G', ?_, Ug _, hk1, hinv, hO.kept, O_o, ho, hh, hO.who, hO.o, .point ha⟩
   rw [<- hq] at h ⊢
   exact Solo.last hok h (.inl rfl)
  | full h h1 ho hh ha' ha he hs hw hroom =>
   subst ha'
   refine ⟨1, q.1, q.2.1, 3, acc', G', ?_, Ug _, hk1, hinv, hO.kept, O_o, ho, hh, hO.who, hO.o, .full ha he (.inr h1) ?_ hs ?_ hroom⟩
   ·rw [<- hq] at h ⊢
    exact Solo.last hok h (.inr rfl)
   ·unfold Run.wrt; omega
   ·rcases hw with ⟨w1, w2 | w2⟩ | ⟨w1, _⟩
    ·exact .inl ⟨w1, .inl w2⟩
    ·exact .inl ⟨w1, .inr ⟨r.slot, w2, fun _ => rfl, fun h0 => by omega⟩⟩
    ·exact .inr w1
  | busy h ho hh ha' ha he hc hk =>
   subst ha'
   refine ⟨1, q.1, q.2.1, 3, acc', G', ?_, Ug _, hk1, hinv, hO.kept, O_o, ho, hh, hO.who, hO.o, .busy ha he hk hc⟩
   rw [<- hq] at h ⊢
   exact Solo.last hok h (.inr rfl)
  | some h ho k' hr' hkk ha hw =>
   have hQ' : Quiet q.1 q.2.1 ∧ (r.o.kind = 2 -> q.1.ph ≠ 0) := by
    by_cases hk : r.o.kind = 2
    ·have h1 := bb hk hQ hR.ph1 (by rw [<- vx hr.over hr.bad hk, hq]; exact h)
     rw [<- vx hr.over hr.bad hk, hq] at h1
     exact ⟨h1.1, fun _ => h1.2⟩
    ·exact ⟨fun h => absurd (hO.o ▸ h) hk, fun h => absurd h hk⟩
   have hk' : k' < k := by
    rcases hkk with h | ⟨h1, h2, _⟩
    ·exact h.1
    ·exact absurd h2 (hQ'.2 h1)
   have hlt : q.2.1.b.last + q.1.todo <= s.b.last + r.todo := by
    by_cases hwr : r.wrt
    ·have ht : r.ph ≠ 3 -> r.todo = 1 := fun h3 => if_pos ⟨hwr, h3⟩
     rcases hw hwr with ⟨p0, p1, p2, _⟩ | ⟨p0, p1⟩
     ·have := (v6 q.1).2.2
      have h1 := ht O0
      rw [p2]; omega
     ·have h1 := ht O0
      have h2 : q.1.todo = 0 := if_neg (fun h => h.2 p1)
      omega
    ·have h1 : r.todo = 0 := if_neg (fun h => hwr h.1)
     have h2 : q.1.todo = 0 := if_neg (fun h => hwr (by unfold Run.wrt; rw [<- hO.o]; exact h.1))
     omega
   obtain ⟨m, r', s', d, acc2, G2, g1, g2, g3, g4, g5, g6, g7, g8, g9, g10, g11⟩ := i6 N k' q.1 q.2.1 a' acc' G' (n + 2) O0 hinv ho hr' hQ'.1 (by rw [hO.o]; exact hnb) O0 O0 (fun id h1 h2 => by
    by_cases hm : id <= s.b.last
    ·rw [hO.same id hm]; exact hTg id h1 hm
    ·rw [(hO.tag id O0 h2).1]; exact cod_1)
   rw [hO.who] at g4 g5 g9
   rw [hO.o] at g10
   refine ⟨m + 1, r', s', d, acc2, G2, ?_, O_o, O_o, by rw [show n + 2 * (m + 1) = n + 2 + 2 * m by omega]; exact g4, hO.kept.trans g5, ?_, g7, g8, g9, g10, ?_⟩
   ·rw [<- hq] at h g1
    exact Solo.more hok h g1
   ·omega
   ·cases g11 with
    | point e => exact .point (by rw [<- ha, <- hO.o]; exact e)
    | full e1 e2 e3 e4 e5 e6 e7 =>
     have hwr : r.wrt := by unfold Run.wrt at e4 ⊢; rw [hO.o] at e4; exact e4
     rcases hw hwr with ⟨p0, p1, p2, p3⟩ | ⟨p0, p1⟩
     ·refine .full (e1.trans ha) e2 (.inl p0) hwr (e5.trans p2) ?_ (by rw [<- p2]; exact e7)
      rcases e6 with ⟨w1, w2⟩ | w1
      ·refine .inl ⟨by rw [<- hO.o]; exact w1, ?_⟩
       rcases w2 with w2 | ⟨sl, w2, w3, _⟩
       ·exact .inl (by rw [<- p2]; exact w2)
       ·exact .inr ⟨sl, w2, fun h1 => absurd (p0.symm.trans h1) O2, fun _ => by rw [w3 p1]; exact p3⟩
      ·exact .inr (by rw [<- hO.o]; exact w1)
     ·exfalso; clear e6; omega
    | busy e1 e2 e3 e4 => exact .busy (e1.trans ha) e2 (by rw [<- hO.o]; exact e3) (e4.same hO.most.symm)
end
section
variable {s s' s2 : Shd} {a : Ag} {A : List Ag} {acc : List SlotV} {al : Int -> Bool} {G G' : Int -> Blb} {n n' : Nat} {r r' : Run} {who : Int} {k : Nat} {o : Opr}
theorem nn (hI : Inv s A acc al G n) (r : Run) : r.need s <= 3 + 6 * s.b.last.toNat := by
 have hb0 : 0 <= s.b.last := hI.sto.ok.l0
 unfold Run.need
 split
 ·cases ha : Dir.at_ s.d r.o.series with
  | none => dsimp only; omega
  | some p =>
   have hm : ∃ i : Nat, s.d[i]? = some p := by
    unfold Dir.at_ at ha
    split at ha
    ·exact ⟨_, ha⟩
    ·cases ha
   obtain ⟨i, hi⟩ := hm
   have := (hI.dir.ok i p hi).2.1
   dsimp only; omega
 ·split
  ·cases ha : mget r.o.iter s.t.l with
   | none => dsimp only; omega
   | some o =>
    have := (hI.tab.on _ o ha).1.few
    dsimp only; omega
  ·split <;> omega
theorem qjm {sl : SlotV} {b : Int} (hs : SlotOk G b sl) : (sl.all G).length <= 8 * sl.chunks.length + 7 := by
 unfold SlotV.all rowsOf
 rw [Ua]
 have := flat_len (f := fun p => (G p.blob).L) (l := sl.chunks) fun p hp => (hs.prts p hp).len
 have := hs.few
 omega
theorem qgo (hI : Inv s A acc al G n) (o : Opr) : ((abs s G).act o).2.list.length <= 800007 := by
 have hlast := hI.last
 have hits : ∀ L, mget o.iter (abs s G).its = some L -> L.length <= 800007 := by
  intro L hL
  have hL' : mget o.iter (itsOf s.t.l G) = some L := hL
  rw [itsOf_get] at hL'
  cases hg : mget o.iter s.t.l with
  | none => rw [hg] at hL'; cases hL'
  | some x =>
   rw [hg] at hL'
   obtain rfl := Uk hL'
   have h1 := (hI.tab.on _ x hg).1
   have h2 := Snp.len h1
   have h3 := h1.few
   rw [Uq]
   omega
 have hser : ∀ cl L, (abs s G).ser o.series = some (cl, L) -> L.length <= 800007 := by
  intro cl L hL
  have hL' : serOf s.d G o.series = some (cl, L) := hL
  unfold serOf at hL'
  cases ha : Dir.at_ s.d o.series with
  | none => rw [ha] at hL'; cases hL'
  | some p =>
   rw [ha] at hL'
   have hm : ∃ i : Nat, s.d[i]? = some p := by
    unfold Dir.at_ at ha
    split at ha
    ·exact ⟨_, ha⟩
    ·cases ha
   obtain ⟨i, hi⟩ := hm
   obtain ⟨h1, h2, _⟩ := hI.dir.ok i p hi
   have h3 := qjm h1
   have hL2 : p.s.tells G = some (cl, L) := hL'
   unfold SlotV.tells at hL2
   split at hL2
   ·have := congrArg Prod.snd (Uk hL2)
    dsimp only at this
    rw [<- this]; omega
   ·cases hL2
 unfold Mdl.act Mdl.err
 split
 ·exact Ud _
 split
 ·cases hg : mget o.iter (abs s G).its with
  | none => exact Ud _
  | some L =>
   have := hits L hg
   dsimp only
   rw [Us]; omega
 split
 ·cases hg : mget o.iter (abs s G).its with
  | none => exact Ud _
  | some L => exact Ud _
 cases hg : (abs s G).ser o.series with
 | none =>
  dsimp only
  split <;> exact Ud _
 | some x =>
  obtain ⟨cl, L⟩ := x
  have hL := hser cl L hg
  dsimp only
  split
  ·split
   ·exact Ud _
   ·split <;> exact Ud _
  split
  ·exact Uy (zw _ _ _) hL
  split
  ·split <;> exact Ud _
  split
  ·exact Ud _
  split <;> exact Ud _
theorem End_.len (hI : Inv s A acc al G n) (hr : r.o = o) {res : Res} {d : Int} (h : End_ A s G r s' G' res d) : res.list.length <= 800007 := by
 cases h with
 | point ha =>
  have := qgo hI r.o
  rw [ha] at this
  exact this
 | full _ hr => rw [hr]; exact Ud _
 | busy _ hr => rw [hr]; exact Ud _
theorem run_new_ok (hb : Run.bad o = false) (ho : o.Wf) (hal : o.kind <= 5 -> al o.series = false) : RunOk al (Run.new who o) :=
 ⟨rfl, hb, ho, hal, Ud _, Ud _, Ud _, Ud _, Ud _, Uu _, by show (0 : Int) <= 3; decide⟩
theorem run_new_rel (G : Int -> Blb) (s : Shd) : Rel G s (Run.new who o) (Ag.idle who) ((Run.new who o).need s) := Rel.idle (r := Run.new who o) rfl rfl ⟨rfl, rfl, rfl, rfl, rfl⟩
theorem bn (hI : Inv s A acc al G n) (hw : who ∉ A.map Ag.who) (hf : A.length + 1 <= 100) (ho : o.Wf) (hal : o.kind <= 5 -> al o.series = false) (hnb : ¬ Blk A o) (hn : n + 2 * (Run.new who o).need s <= 1000000000) (hb : s.b.last + 1 < 100000) (hTg : ∀ id, 1 <= id -> id <= s.b.last -> CodOk (G id).tag) :
  ∃ (m : Nat) (r' : Run) (s' : Shd) (d : Int) (acc' : List SlotV) (G' : Int -> Blb), Solo (Run.new who o) s m r' s' d ∧ 1 <= m ∧ m <= (Run.new who o).need s ∧ Inv s' A acc' al G' (n + 2 * m) ∧ Kpt who s G s' G' ∧ s'.b.last <= s.b.last + (Run.new who o).todo ∧ r'.over = true ∧ r'.holds = 0 ∧ r'.res.list.length <= 800007 ∧ End_ A s G (Run.new who o) s' G' r'.res d := by
 have hneed : 1 <= (Run.new who o).need s := (run_new_rel G s).pos
 cases hbad : Run.bad o with
 | true =>
  have hstep : (Run.new who o).step s = (Run.new who o).refuse s 4 := by
   unfold Run.step
   have h1 : (Run.new who o).over = false := rfl
   have h2 : (Run.new who o).o = o := rfl
   rw [h1, if_neg Vn, h2, hbad, if_pos rfl]
  have hact : (abs s G).act o = (abs s G, ⟨4, 0, []⟩) := by unfold Mdl.act; rw [hbad, if_pos rfl]; rfl
  have hno : Run.bad (Run.new who o).o = false -> False := fun h => by rw [show (Run.new who o).o = o from rfl, hbad] at h; cases h
  have hok : (Run.new who o).StepOk s := ⟨fun _ h => (hno h).elim, fun _ h => (hno h).elim, fun _ h => (hno h).elim, fun _ h => (hno h).elim, fun _ h => (hno h).elim⟩
  have hsolo := Solo.last hok (d := 2) (by rw [hstep]; rfl) (.inl rfl)
  rw [hstep] at hsolo
  have hadds := v6 (Run.new who o)
  exact ⟨1, _, _, 2, acc, G, hsolo, Ug _, hneed, hI.mono O0 O0, Kpt.refl _ _ _, by show s.b.last <= _; omega, rfl, rfl, Ud _, .point hact⟩
 | false =>
  have hadds := v6 (Run.new who o)
  obtain ⟨m, r', s', d, acc', G', g1, g2, g3, g4, g5, g6, g7, g8, g9, g10, g11⟩ := i6 _ _ (Run.new who o) s (Ag.idle who) acc G n (Ug _) (hI.enter hw hf) (run_new_ok hbad ho hal) (run_new_rel G s) (fun _ _ h => absurd rfl h) hnb hn O0 hTg
  refine ⟨m, r', s', d, acc', G', g1, g2, g3, g4.exit rfl rfl rfl rfl, g5, g6, g7, g8, g11.len hI rfl, g11⟩
end
section
variable {s s' s2 : Shd} {a : Ag} {A : List Ag} {acc : List SlotV} {al : Int -> Bool} {G G' : Int -> Blb} {n n' : Nat} {r r' : Run} {who : Int} {k : Nat} {o : Opr}
def G0 : Int -> Blb := fun _ => ⟨0, []⟩
theorem wd {α : Type} {k i : Nat} {x y : α} (h : (List.replicate k x)[i]? = some y) : y = x := (Km.1 (Uj h)).2
theorem qgt (G : Int -> Blb) (b : Int) : SlotOk G b SlotV.zero := ⟨fun _ => ⟨rfl, rfl⟩, fun h => (by cases h), Ud _, fun _ => rfl, fun x hx => (by cases hx), fun p hp => (by cases hp), List.Pairwise.nil⟩
theorem np (f b : Int) (al : Int -> Bool) : Inv (Shd.new f b) [] (List.replicate 16 SlotV.zero) al G0 0 := by
 have hd : (Shd.new f b).d = List.replicate 16 ⟨SlotV.zero, false, 0⟩ := rfl
 have hz : ∀ id, cntOf (List.replicate 16 SlotV.zero) [] (Shd.new f b).t id = 0 := by
  intro id
  have h1 : sumF (fun x : SlotV => rc id x.chunks) (List.replicate 16 SlotV.zero) <= (List.replicate 16 SlotV.zero).length * 0 := sumF_bound fun x hx => by rw [(Km.1 hx).2]; exact Ug _
  unfold cntOf
  show _ + 0 + 0 = 0
  omega
 have hz2 : chOf (List.replicate 16 SlotV.zero) = 0 := by
  have h1 : chOf (List.replicate 16 SlotV.zero) <= (List.replicate 16 SlotV.zero).length * 0 := sumF_bound fun x hx => by rw [(Km.1 hx).2]; exact Ug _
  omega
 refine ⟨⟨by rw [hd, Xx], Xx, fun i p hp => ?_, fun i p hp ht => ?_, fun i p hp ht => ?_, Zw, fun f hf => (by cases hf), fun x hx => ?_⟩,
  ⟨Zw, fun id hid => (by cases hid), fun id e he => (by cases he), fun id => ?_, fun id => ?_, rfl, ?_, ⟨?_, Uu _, Uu _, ?_, Uu _, (by show (0 : Int) < _; decide)⟩⟩,
  ⟨Cac.new_good f, fun k a h => (by cases h), fun k hk => (by cases hk), fun k L h => (by cases h)⟩,
  ⟨Zw, fun id hid => (by cases hid), Uu _, Uu _, Ud _, fun id o ho => (by cases ho), fun u hu => (by cases hu), Zw⟩,
  fun a ha => (by cases ha), Zw, (by show (0 : Int) <= _; decide), Ud _, Ud _⟩
 ·rw [hd] at hp
  rw [wd hp]
  exact ⟨qgt _ _, Uu _, Uu _, Uu _, Uu _, Uu _⟩
 ·rw [hd] at hp
  have hi := (Uf.1 hp).1
  rw [Xx] at hi
  rw [wd hp]
  exact ⟨rfl, by rw [List.getElem?_replicate, if_pos hi]⟩
 ·rw [hd] at hp
  rw [wd hp] at ht; cases ht
 ·rw [(Km.1 hx).2]; exact ⟨Uu _, Ud _⟩
 ·rw [hz]; exact ⟨fun h => (Nat.lt_irrefl _ h).elim, fun h => (by cases h)⟩
 ·rw [hz]; exact Ud _
 ·rw [hz2]; rfl
 ·show min (max b 0) 1073741824 <= 1073741824; omega
 ·show (0 : Int) + 0 <= min (max b 0) 1073741824; omega
def Tags1 (G : Int -> Blb) (b : Int) : Prop := ∀ id, 1 <= id -> id <= b -> (G id).tag = 1 ∧ (G id).L.length <= 8
theorem Tags1.cod (h : Tags1 G s.b.last) : ∀ id, 1 <= id -> id <= s.b.last -> CodOk (G id).tag := fun id h1 h2 => by rw [(h id h1 h2).1]; exact cod_1
theorem Tags1.step {s s' : Shd} (h : Tags1 G s.b.last) (hk : Kpt who s G s' G') : Tags1 G' s'.b.last := by
 intro id h1 h2
 by_cases hm : id <= s.b.last
 ·rw [hk.same id hm]; exact h id h1 hm
 ·exact hk.tag id O0 h2
theorem sumM_le {κ β : Type} {f : β -> Nat} {B : Nat} : ∀ {m : List (κ × β)}, (∀ p ∈ m, f p.2 <= B) -> sumM f m <= m.length * B := fun {m} h => sumF_bound (l := m) (f := fun p => f p.2) h
theorem qgi (hI : Inv s A acc al G n) (ht : Tags1 G s.b.last) : s.b.bytes <= 2000 * s.b.last ∧ s.b.charged <= 2048 := by
 have hb0 : 0 <= s.b.last := hI.sto.ok.l0
 have h1 := hI.sto.sum
 have h2 : sumM (fun e : Kept => e.bs.length) s.b.l <= s.b.l.length * 2000 := sumM_le fun p hp => by
  obtain ⟨_, hok⟩ := hI.sto.has p.1 p.2 (ur hI.sto.nd hp)
  obtain ⟨i1, i2⟩ := hI.sto.rng p.1 (Vb.2 ⟨p, hp, rfl⟩)
  obtain ⟨t1, t2⟩ := ht p.1 i1 i2
  have hm := hok.make
  rw [t1] at hm
  exact chMake1_len O0 hm
 have h3 : s.b.l.length <= s.b.last.toNat := by
  have := nodup_sub_len (l := keys s.b.l) (m := (List.range s.b.last.toNat).map fun i : Nat => ((i : Int) + 1)) hI.sto.nd fun x hx => by
   obtain ⟨i1, i2⟩ := hI.sto.rng x hx
   exact Vb.2 ⟨(x - 1).toNat, Zg.2 O0, O_t⟩
  rw [Ve, Zc] at this
  unfold keys at this
  rwa [Ve] at this
 have h4 := hI.sto.chg
 have h5 : chOf acc <= acc.length * 8 := sumF_bound fun x hx => (hI.dir.accs x hx).2
 rw [hI.dir.alen] at h5
 constructor
 ·rw [h1]
  have : s.b.l.length * 2000 <= s.b.last.toNat * 2000 := Ut _ h3
  omega
 ·omega
theorem qjn (hI : Inv s A acc al G n) (ht : Tags1 G s.b.last) : s.b.bytes <= 300 * s.b.last ∧ s.b.charged <= 2048 := by
 refine ⟨?_, (qgi hI ht).2⟩
 have hb0 : 0 <= s.b.last := hI.sto.ok.l0
 have h1 := hI.sto.sum
 have h2 : sumM (fun e : Kept => e.bs.length) s.b.l <= s.b.l.length * 300 := sumM_le fun p hp => by
  obtain ⟨_, hok⟩ := hI.sto.has p.1 p.2 (ur hI.sto.nd hp)
  obtain ⟨i1, i2⟩ := hI.sto.rng p.1 (Vb.2 ⟨p, hp, rfl⟩)
  obtain ⟨t1, t2⟩ := ht p.1 i1 i2
  have hm := hok.make
  rw [t1] at hm
  have := chMake1_lenN hm
  omega
 have h3 : s.b.l.length <= s.b.last.toNat := by
  have := nodup_sub_len (l := keys s.b.l) (m := (List.range s.b.last.toNat).map fun i : Nat => ((i : Int) + 1)) hI.sto.nd fun x hx => by
   obtain ⟨i1, i2⟩ := hI.sto.rng x hx
   exact Vb.2 ⟨(x - 1).toNat, Zg.2 O0, O_t⟩
  rw [Ve, Zc] at this
  unfold keys at this
  rwa [Ve] at this
 rw [h1]
 have : s.b.l.length * 300 <= s.b.last.toNat * 300 := Ut _ h3
 omega
theorem ar (hI : Inv s A acc al G n) (hA : ∀ a ∈ A, a.held = []) (hd : ∀ (i : Nat) (p : Plc), s.d[i]? = some p -> p.taken = false ∧ p.s.there = false) (ht : s.t.l = []) : s.b.bytes = 0 ∧ s.b.charged = 0 := by
 have hacc : ∀ x ∈ acc, x.opn = [] ∧ x.chunks = [] := by
  intro x hx
  obtain ⟨i, hi⟩ := Zn.1 hx
  have hlt : i < s.d.length := by
   have := (Uf.1 hi).1
   rw [hI.dir.alen] at this
   rw [hI.dir.len]; exact this
  obtain ⟨p, hp⟩ : ∃ p, s.d[i]? = some p := ⟨_, Uc hlt⟩
  obtain ⟨d1, d2⟩ := hd i p hp
  have h1 := (hI.dir.idle i p hp d1).2
  rw [hi] at h1
  obtain rfl := Uk h1
  exact (hI.dir.ok i p hp).1.no d2
 have hch : chOf acc = 0 := Nat.le_zero.1 (Uy (sumF_bound (B := 0) fun x hx => by rw [(hacc x hx).1]; exact Ug _) (by rw [Nat.mul_zero]; exact Ug _))
 have hcnt : ∀ id, cntOf acc A s.t id = 0 := by
  intro id
  unfold cntOf
  have h1 : sumF (fun x : SlotV => rc id x.chunks) acc <= acc.length * 0 := sumF_bound fun x hx => by rw [(hacc x hx).2]; exact Ug _
  have h2 : sumF (fun a : Ag => rc id a.held) A <= A.length * 0 := sumF_bound fun x hx => by rw [hA x hx]; exact Ug _
  rw [ht]
  show _ + _ + 0 = 0
  omega
 have hl : s.b.l = [] := by
  cases hl : s.b.l with
  | nil => rfl
  | cons p m =>
   exfalso
   have h1 := (hI.sto.pos p.1).2 (by rw [hl, mget, if_pos rfl]; rfl)
   rw [hcnt] at h1
   omega
 refine ⟨?_, ?_⟩
 ·rw [hI.sto.sum, hl]; rfl
 ·rw [hI.sto.chg, hch]; rfl
end
section
def soloN : Nat -> Run -> Shd -> Option (Nat × Run × Shd × Int)
 | 0, _, _ => none
 | n + 1, r, s => if (r.step s).2.2 = 2 ∨ (r.step s).2.2 = 3 then some (1, r.step s) else if (r.step s).2.2 = 1 then (soloN n (r.step s).1 (r.step s).2.1).map fun x => (x.1 + 1, x.2) else none
theorem qjp {r r' : Run} {s s' : Shd} {m : Nat} {d : Int} (h : Solo r s m r' s' d) : ∀ F, m <= F -> soloN F r s = some (m, r', s', d) := by
 induction h with
 | last hok hd hdc =>
  intro F hF
  obtain ⟨F, rfl⟩ : ∃ k, F = k + 1 := ⟨F - 1, O_o⟩
  rw [soloN, hd, if_pos hdc, <- hd]
 | more hok hd h ih =>
  intro F hF
  obtain ⟨F, rfl⟩ : ∃ k, F = k + 1 := ⟨F - 1, O_o⟩
  rw [soloN, hd, if_neg O2, if_pos rfl, ih F O0]; rfl
namespace Aw
def sh (x : Option (Nat × Run × Shd × Int)) : Shd := (x.map (·.2.2.1)).getD (Shd.new 2 1000)
def an (x : Option (Nat × Run × Shd × Int)) : Nat × Int × List Smp := (x.map fun x => (x.1, x.2.1.res.err, x.2.1.res.list)).getD (0, 0, [])
def s0 : Shd := Shd.new 2 1000
def a1 := soloN 40 (Run.new 0 ⟨1, 3, 0, 5, 7, 0, 0, 0⟩) s0
def a2 := soloN 40 (Run.new 0 ⟨2, 3, 0, 0, 0, 0, 9, 0⟩) (sh a1)
def a3 := soloN 40 (Run.new 0 ⟨3, 3, 0, 0, 0, 0, 0, 0⟩) (sh a2)
def a4 := soloN 40 (Run.new 0 ⟨2, 3, 0, 0, 0, 0, 9, 0⟩) (sh a3)
def a5 := soloN 40 (Run.new 0 ⟨99, 0, 0, 0, 0, 0, 0, 0⟩) (sh a4)
def a6 := soloN 40 (Run.new 1 ⟨1, 4, 0, 1, 0, 0, 0, 0⟩) (sh a5)
theorem e1 : an a1 = (3, 0, []) := by kernel_rfl
theorem e2 : (an a2).2 = (0, [⟨5, 7⟩]) := by kernel_rfl
theorem e3 : (an a3).2 = (0, []) := by kernel_rfl
theorem e4 : (an a4).2.2 = [⟨5, 7⟩] := by kernel_rfl
theorem e5 : (an a5).2 = (4, []) := by kernel_rfl
theorem e6 : an a6 = (3, 0, []) := by kernel_rfl
theorem next {s : Shd} {acc : List SlotV} {G : Int -> Blb} {n : Nat} (hI : Inv s [] acc (fun _ => false) G n) (ht : Tags1 G s.b.last) (who : Int) (o : Opr) (ho : o.Wf) (hn : n <= 1000) (hb : s.b.last <= 5) :
  ∃ m r' s' d acc' G', Solo (Run.new who o) s m r' s' d ∧ Inv s' [] acc' (fun _ => false) G' (n + 2 * m) ∧ Tags1 G' s'.b.last ∧ m <= 33 ∧ s'.b.last <= s.b.last + (Run.new who o).todo ∧ r'.over = true ∧ r'.holds = 0 ∧ r'.res.list.length <= 1073741824 ∧ soloN 40 (Run.new who o) s = some (m, r', s', d) ∧ (d = 2 ∨ d = 3) := by
 have hb0 : 0 <= s.b.last := hI.sto.ok.l0
 have hneed := nn hI (Run.new who o)
 obtain ⟨m, r', s', d, acc', G', g1, g2, g3, g4, g5, g6, g7, g8, g9, g10⟩ := bn hI (who := who) (o := o) (by intro h; cases h) O2 ho (fun _ => rfl) (by rintro (⟨_, _, x, hx, _⟩ | ⟨_, x, hx, _⟩) <;> cases hx) O0 O0 ht.cod
 refine ⟨m, r', s', d, acc', G', g1, g4, ht.step g5, O_o, g6, g7, g8, O_o, qjp g1 40 O0, ?_⟩
 cases g10 with
 | point => exact .inl rfl
 | full => exact .inr rfl
 | busy => exact .inr rfl
theorem wf0 {o : Opr} (h : ([o.kind, o.series, o.iter, o.T, o.F, o.To, o.N].all fun x => decide (-4294967296 <= x ∧ x <= 4294967296)) = true) (hv : o.V < 18446744073709551616) : o.Wf := by
 have hi : ∀ x : Int, x ∈ [o.kind, o.series, o.iter, o.T, o.F, o.To, o.N] -> I64 x := fun x hx => by
  have := Xe.1 h x hx
  rw [decide_eq_true_eq] at this
  unfold I64; omega
 exact ⟨hi _ O8, hi _ O8, hi _ O8, hi _ O8, hv, hi _ O8, hi _ O8, hi _ O8⟩
theorem an_of {x : Option (Nat × Run × Shd × Int)} {m : Nat} {r : Run} {s : Shd} {d : Int} (h : x = some (m, r, s, d)) : an x = (m, r.res.err, r.res.list) ∧ sh x = s := by
 subst h; exact ⟨rfl, rfl⟩
theorem l1 : (sh a1).b.last = 0 := by kernel_rfl
theorem l2 : (sh a2).b.last = 0 := by kernel_rfl
theorem l3 : (sh a3).b.last = 1 := by kernel_rfl
theorem l4 : (sh a4).b.last = 1 := by kernel_rfl
theorem l5 : (sh a5).b.last = 1 := by kernel_rfl
def b1 := (Run.new 1 ⟨1, 4, 0, 1, 0, 0, 0, 0⟩).step (sh a5)
def b2 := b1.1.step b1.2.1
def b3 := b2.1.step b2.2.1
def tell (q : Run × Shd × Int) : Int × Bool × Int × List Smp := (q.2.2, q.1.over, q.1.holds, q.1.res.list)
theorem z1 : b1.2.2 = 1 := by kernel_rfl
theorem z2 : tell b2 = (1, false, 1, []) := by kernel_rfl
theorem z3 : tell b3 = (2, true, 0, []) := by kernel_rfl
end Aw
section
variable {w0 w : World} {l : List HProp}
theorem law22_awake (hT : Tz w0) (h : St w0 l w) : Ret prog 22 [] w fun v w' => v = .bool true ∧ St w0 l w' := by
 have hI0 : Inv Aw.s0 [] (List.replicate 16 SlotV.zero) (fun _ => false) G0 0 := np 2 1000 _
 have hT0 : Tags1 G0 Aw.s0.b.last := fun id h1 h2 => by
  have : Aw.s0.b.last = 0 := rfl
  omega
 have hl0 : Aw.s0.b.last <= 5 := by rw [show Aw.s0.b.last = 0 from rfl]; decide
 obtain ⟨m1, r1, s1, d1, acc1, G1, k1, hI1, hT1, hm1, hb1, ho1, hh1, hn1, q1, _⟩ := Aw.next hI0 hT0 0 ⟨1, 3, 0, 5, 7, 0, 0, 0⟩ (Aw.wf0 O2 O2) (Ud _) hl0
 have ha1 : Aw.a1 = some (m1, r1, s1, d1) := q1
 obtain ⟨hv1, hs1⟩ := Aw.an_of ha1
 have hx1 := Aw.e1
 rw [hv1] at hx1
 have hl1 : s1.b.last <= 5 := by rw [<- hs1, Aw.l1]; decide
 obtain ⟨m2, r2, s2, d2, acc2, G2, k2, hI2, hT2, hm2, hb2, ho2, hh2, hn2, q2, _⟩ := Aw.next hI1 hT1 0 ⟨2, 3, 0, 0, 0, 0, 9, 0⟩ (Aw.wf0 O2 O2) O0 hl1
 have ha2 : Aw.a2 = some (m2, r2, s2, d2) := by unfold Aw.a2; rw [hs1]; exact q2
 obtain ⟨hv2, hs2⟩ := Aw.an_of ha2
 have hx2 := Aw.e2
 rw [hv2] at hx2
 have hl2 : s2.b.last <= 5 := by rw [<- hs2, Aw.l2]; decide
 obtain ⟨m3, r3, s3, d3, acc3, G3, k3, hI3, hT3, hm3, hb3, ho3, hh3, hn3, q3, _⟩ := Aw.next hI2 hT2 0 ⟨3, 3, 0, 0, 0, 0, 0, 0⟩ (Aw.wf0 O2 O2) O0 hl2
 have ha3 : Aw.a3 = some (m3, r3, s3, d3) := by unfold Aw.a3; rw [hs2]; exact q3
 obtain ⟨hv3, hs3⟩ := Aw.an_of ha3
 have hx3 := Aw.e3
 rw [hv3] at hx3
 have hl3 : s3.b.last <= 5 := by rw [<- hs3, Aw.l3]; decide
 obtain ⟨m4, r4, s4, d4, acc4, G4, k4, hI4, hT4, hm4, hb4, ho4, hh4, hn4, q4, _⟩ := Aw.next hI3 hT3 0 ⟨2, 3, 0, 0, 0, 0, 9, 0⟩ (Aw.wf0 O2 O2) O0 hl3
 have ha4 : Aw.a4 = some (m4, r4, s4, d4) := by unfold Aw.a4; rw [hs3]; exact q4
 obtain ⟨hv4, hs4⟩ := Aw.an_of ha4
 have hx4 := Aw.e4
 rw [hv4] at hx4
 have hl4 : s4.b.last <= 5 := by rw [<- hs4, Aw.l4]; decide
 obtain ⟨m5, r5, s5, d5, acc5, G5, k5, hI5, hT5, hm5, hb5, ho5, hh5, hn5, q5, _⟩ := Aw.next hI4 hT4 0 ⟨99, 0, 0, 0, 0, 0, 0, 0⟩ (Aw.wf0 O2 O2) O0 hl4
 have ha5 : Aw.a5 = some (m5, r5, s5, d5) := by unfold Aw.a5; rw [hs4]; exact q5
 obtain ⟨hv5, hs5⟩ := Aw.an_of ha5
 have hx5 := Aw.e5
 rw [hv5] at hx5
 have hl5 : s5.b.last <= 5 := by rw [<- hs5, Aw.l5]; decide
 obtain ⟨m6, r6, s6, d6, acc6, G6, k6, hI6, hT6, hm6, hb6, ho6, hh6, hn6, q6, _⟩ := Aw.next hI5 hT5 1 ⟨1, 4, 0, 1, 0, 0, 0, 0⟩ (Aw.wf0 O2 O2) O0 hl5
 have ha6 : Aw.a6 = some (m6, r6, s6, d6) := by unfold Aw.a6; rw [hs5]; exact q6
 obtain ⟨hv6, hs6⟩ := Aw.an_of ha6
 have hx6 := Aw.e6
 rw [hv6] at hx6
 obtain rfl : m6 = 3 := congrArg Prod.fst hx6
 have z1 := Aw.z1
 have z2 := Aw.z2
 have z3 := Aw.z3
 unfold Aw.b3 Aw.b2 Aw.b1 at z3
 unfold Aw.b2 Aw.b1 at z2
 unfold Aw.b1 at z1
 rw [hs5] at z1 z2 z3
 obtain ⟨R0, hR0⟩ : ∃ R0, Run.new 1 ⟨1, 4, 0, 1, 0, 0, 0, 0⟩ = R0 := ⟨_, rfl⟩
 rw [hR0] at k6 z1 z2 z3
 have hx : ∀ i : Nat, True := fun _ => trivial
 obtain ⟨st1, st2, st3⟩ : R0.StepOk s5 ∧ (R0.step s5).1.StepOk (R0.step s5).2.1 ∧ ((R0.step s5).1.step (R0.step s5).2.1).1.StepOk ((R0.step s5).1.step (R0.step s5).2.1).2.1 := by
  cases k6 with
  | more u1 _ k =>
   cases k with
   | more u2 _ k =>
    cases k with
    | last u3 => exact ⟨u1, u2, u3⟩
    | more u3 => exact ⟨u1, u2, u3⟩
 clear k6 q1 q2 q3 q4 q5 q6 hI0 hI1 hI2 hI3 hI4 hI5 hI6 ha1 ha2 ha3 ha4 ha5 ha6 hs1 hs2 hs3 hs4 hs5 hs6
 obtain ⟨rfl, y1, y1'⟩ : m1 = 3 ∧ r1.res.err = 0 ∧ r1.res.list = [] := ⟨congrArg Prod.fst hx1, congrArg (fun z : Nat × Int × List Smp => z.2.1) hx1, congrArg (fun z : Nat × Int × List Smp => z.2.2) hx1⟩
 obtain ⟨y2, y2'⟩ : r2.res.err = 0 ∧ r2.res.list = [⟨5, 7⟩] := ⟨congrArg Prod.fst hx2, congrArg Prod.snd hx2⟩
 obtain ⟨y3, y3'⟩ : r3.res.err = 0 ∧ r3.res.list = [] := ⟨congrArg Prod.fst hx3, congrArg Prod.snd hx3⟩
 have y4' : r4.res.list = [⟨5, 7⟩] := hx4
 obtain ⟨y5, y5'⟩ : r5.res.err = 4 ∧ r5.res.list = [] := ⟨congrArg Prod.fst hx5, congrArg Prod.snd hx5⟩
 obtain ⟨x1, x2⟩ : (R0.step s5).2.2 = 1 ∧ True := ⟨z1, trivial⟩
 obtain ⟨t1, t2, t3, t4⟩ : ((R0.step s5).1.step (R0.step s5).2.1).2.2 = 1 ∧ ((R0.step s5).1.step (R0.step s5).2.1).1.over = false ∧ ((R0.step s5).1.step (R0.step s5).2.1).1.holds = 1 ∧ ((R0.step s5).1.step (R0.step s5).2.1).1.res.list = [] := by
  have e := z2
  unfold Aw.tell at e
  exact ⟨congrArg (·.1) e, congrArg (·.2.1) e, congrArg (·.2.2.1) e, congrArg (·.2.2.2) e⟩
 generalize hR1 : (R0.step s5).1 = R1 at st2 st3 t1 t2 t3 t4 z3
 generalize hS1 : (R0.step s5).2.1 = S1 at st2 st3 t1 t2 t3 t4 z3
 obtain ⟨u1, u2, u3, u4⟩ : ((R1.step S1).1.step (R1.step S1).2.1).2.2 = 2 ∧ ((R1.step S1).1.step (R1.step S1).2.1).1.over = true ∧ ((R1.step S1).1.step (R1.step S1).2.1).1.holds = 0 ∧ ((R1.step S1).1.step (R1.step S1).2.1).1.res.list = [] := by
  have e := z3
  unfold Aw.tell at e
  exact ⟨congrArg (·.1) e, congrArg (·.2.1) e, congrArg (·.2.2.1) e, congrArg (·.2.2.2) e⟩
 clear z1 z2 z3 hx1 hx2 hx3 hx4 hx5 hx6 hv1 hv2 hv3 hv4 hv5 hv6
 generalize hR2 : (R1.step S1).1 = R2 at st3 t2 t3 t4 u1 u2 u3 u4
 generalize hS2 : (R1.step S1).2.1 = S2 at st3 u1 u2 u3 u4
 generalize hR3 : (R2.step S2).1 = R3 at u2 u3 u4
 generalize hS3 : (R2.step S2).2.1 = S3
 have st4 : R3.StepOk S3 := ⟨fun h => (by rw [u2] at h; cases h), fun h => (by rw [u2] at h; cases h), fun h => (by rw [u2] at h; cases h), fun h => (by rw [u2] at h; cases h), fun h => (by rw [u2] at h; cases h)⟩
 have e4 : R3.step S3 = (R3, S3, 0) := by unfold Run.step; rw [u2, if_pos rfl]
 refine en func22 results22 ntmps22 ?_
 refine Y12 ?_; refine Y1 ?_
 refine r_c rfl (qg rfl (yj 2 1000 h) ?_)
 clear h
 rintro _ w ⟨p, rfl, h⟩
 replace h : St w0 (IsSh p Aw.s0 :: l) w := h
 refine Y4y ?_
 refine r_c rfl (qg rfl (law22_whole h) ?_)
 clear h
 rintro _ w ⟨rfl, h⟩
 refine Y41 ?_; refine Ym ?_
 refine r_v (qc (r := (⟨1, 3, 0, 5, 7, 0, 0, 0⟩ : Opr).C) rfl) rfl ?_
 refine r_c rfl (qg rfl (law22_alone hT k1 O0 ho1 hh1 hn1 h) ?_)
 clear h
 rintro _ w ⟨la1, lc1, rfl, h⟩
 refine Y2o ?_
 refine r_c rfl (qp h fun b1 w h => ?_)
 refine r_c rfl (qy (vs := r1.res.C la1 lc1) 0 h rfl rfl rfl rfl rfl rfl rfl fun w h => ?_)
 refine Y6 ?_; refine Y7 ?_
 replace h : St w0 (pt b1 (.cells (r1.res.C la1 lc1).toArray 28 (0, 0)) :: OwnS la1 lc1 r1.res.list :: IsSh p s1 :: l) w := h
 replace h : St w0 (IsSh p s1 :: pt b1 (.cells (r1.res.C la1 lc1).toArray 28 (0, 0)) :: OwnS la1 lc1 r1.res.list :: l) w := h.f 2
 refine Y1a ?_
 refine r_v (qc (r := (⟨2, 3, 0, 0, 0, 0, 9, 0⟩ : Opr).C) rfl) rfl ?_
 refine r_c rfl (qg rfl (law22_alone hT k2 O0 ho2 hh2 hn2 h) ?_)
 clear h
 rintro _ w ⟨la2, lc2, rfl, h⟩
 refine Y2o ?_
 refine r_c rfl (qp h fun b2 w h => ?_)
 refine r_c rfl (qy (vs := r2.res.C la2 lc2) 0 h rfl rfl rfl rfl rfl rfl rfl fun w h => ?_)
 refine Y6 ?_; refine Y7 ?_
 replace h : St w0 (pt b2 (.cells (r2.res.C la2 lc2).toArray 28 (0, 0)) :: OwnS la2 lc2 r2.res.list :: IsSh p s2 :: pt b1 (.cells (r1.res.C la1 lc1).toArray 28 (0, 0)) :: OwnS la1 lc1 r1.res.list :: l) w := h
 replace h : St w0 (IsSh p s2 :: pt b2 (.cells (r2.res.C la2 lc2).toArray 28 (0, 0)) :: OwnS la2 lc2 r2.res.list :: pt b1 (.cells (r1.res.C la1 lc1).toArray 28 (0, 0)) :: OwnS la1 lc1 r1.res.list :: l) w := h.f 2
 refine Y1a ?_
 refine r_v (qc (r := (⟨3, 3, 0, 0, 0, 0, 0, 0⟩ : Opr).C) rfl) rfl ?_
 refine r_c rfl (qg rfl (law22_alone hT k3 O0 ho3 hh3 hn3 h) ?_)
 clear h
 rintro _ w ⟨la3, lc3, rfl, h⟩
 refine Y2o ?_
 refine r_c rfl (qp h fun b3 w h => ?_)
 refine r_c rfl (qy (vs := r3.res.C la3 lc3) 0 h rfl rfl rfl rfl rfl rfl rfl fun w h => ?_)
 refine Y6 ?_; refine Y7 ?_
 replace h : St w0 (pt b3 (.cells (r3.res.C la3 lc3).toArray 28 (0, 0)) :: OwnS la3 lc3 r3.res.list :: IsSh p s3 :: pt b2 (.cells (r2.res.C la2 lc2).toArray 28 (0, 0)) :: OwnS la2 lc2 r2.res.list :: pt b1 (.cells (r1.res.C la1 lc1).toArray 28 (0, 0)) :: OwnS la1 lc1 r1.res.list :: l) w := h
 replace h : St w0 (IsSh p s3 :: pt b3 (.cells (r3.res.C la3 lc3).toArray 28 (0, 0)) :: OwnS la3 lc3 r3.res.list :: pt b2 (.cells (r2.res.C la2 lc2).toArray 28 (0, 0)) :: OwnS la2 lc2 r2.res.list :: pt b1 (.cells (r1.res.C la1 lc1).toArray 28 (0, 0)) :: OwnS la1 lc1 r1.res.list :: l) w := h.f 2
 refine Y1a ?_
 refine r_v (qc (r := (⟨2, 3, 0, 0, 0, 0, 9, 0⟩ : Opr).C) rfl) rfl ?_
 refine r_c rfl (qg rfl (law22_alone hT k4 O0 ho4 hh4 hn4 h) ?_)
 clear h
 rintro _ w ⟨la4, lc4, rfl, h⟩
 refine Y2o ?_
 refine r_c rfl (qp h fun b4 w h => ?_)
 refine r_c rfl (qy (vs := r4.res.C la4 lc4) 0 h rfl rfl rfl rfl rfl rfl rfl fun w h => ?_)
 refine Y6 ?_; refine Y7 ?_
 replace h : St w0 (pt b4 (.cells (r4.res.C la4 lc4).toArray 28 (0, 0)) :: OwnS la4 lc4 r4.res.list :: IsSh p s4 :: pt b3 (.cells (r3.res.C la3 lc3).toArray 28 (0, 0)) :: OwnS la3 lc3 r3.res.list :: pt b2 (.cells (r2.res.C la2 lc2).toArray 28 (0, 0)) :: OwnS la2 lc2 r2.res.list :: pt b1 (.cells (r1.res.C la1 lc1).toArray 28 (0, 0)) :: OwnS la1 lc1 r1.res.list :: l) w := h
 replace h : St w0 (IsSh p s4 :: pt b4 (.cells (r4.res.C la4 lc4).toArray 28 (0, 0)) :: OwnS la4 lc4 r4.res.list :: pt b3 (.cells (r3.res.C la3 lc3).toArray 28 (0, 0)) :: OwnS la3 lc3 r3.res.list :: pt b2 (.cells (r2.res.C la2 lc2).toArray 28 (0, 0)) :: OwnS la2 lc2 r2.res.list :: pt b1 (.cells (r1.res.C la1 lc1).toArray 28 (0, 0)) :: OwnS la1 lc1 r1.res.list :: l) w := h.f 2
 refine Y1a ?_
 refine r_v (qc (r := (⟨99, 0, 0, 0, 0, 0, 0, 0⟩ : Opr).C) rfl) rfl ?_
 refine r_c rfl (qg rfl (law22_alone hT k5 O0 ho5 hh5 hn5 h) ?_)
 clear h
 rintro _ w ⟨la5, lc5, rfl, h⟩
 refine Y2o ?_
 refine r_c rfl (qp h fun b5 w h => ?_)
 refine r_c rfl (qy (vs := r5.res.C la5 lc5) 0 h rfl rfl rfl rfl rfl rfl rfl fun w h => ?_)
 refine Y6 ?_; refine Y7 ?_
 replace h : St w0 (pt b5 (.cells (r5.res.C la5 lc5).toArray 28 (0, 0)) :: OwnS la5 lc5 r5.res.list :: IsSh p s5 :: pt b4 (.cells (r4.res.C la4 lc4).toArray 28 (0, 0)) :: OwnS la4 lc4 r4.res.list :: pt b3 (.cells (r3.res.C la3 lc3).toArray 28 (0, 0)) :: OwnS la3 lc3 r3.res.list :: pt b2 (.cells (r2.res.C la2 lc2).toArray 28 (0, 0)) :: OwnS la2 lc2 r2.res.list :: pt b1 (.cells (r1.res.C la1 lc1).toArray 28 (0, 0)) :: OwnS la1 lc1 r1.res.list :: l) w := h
 replace h : St w0 (IsSh p s5 :: pt b5 (.cells (r5.res.C la5 lc5).toArray 28 (0, 0)) :: OwnS la5 lc5 r5.res.list :: pt b4 (.cells (r4.res.C la4 lc4).toArray 28 (0, 0)) :: OwnS la4 lc4 r4.res.list :: pt b3 (.cells (r3.res.C la3 lc3).toArray 28 (0, 0)) :: OwnS la3 lc3 r3.res.list :: pt b2 (.cells (r2.res.C la2 lc2).toArray 28 (0, 0)) :: OwnS la2 lc2 r2.res.list :: pt b1 (.cells (r1.res.C la1 lc1).toArray 28 (0, 0)) :: OwnS la1 lc1 r1.res.list :: l) w := h.f 2
 refine Yn ?_
 refine r_v (qc (r := (⟨1, 4, 0, 1, 0, 0, 0, 0⟩ : Opr).C) rfl) rfl ?_
 refine r_c rfl (qg rfl (ci 1 ⟨1, 4, 0, 1, 0, 0, 0, 0⟩ h) ?_)
 clear h
 rintro _ w ⟨t, rfl, h⟩
 rw [hR0] at h
 refine Y3d ?_; refine Yb ?_; refine Y10 ?_
 refine r_c rfl (qg rfl (ue hT st1 h) ?_)
 clear h
 rintro _ w ⟨rfl, h⟩
 rw [x1]
 rw [hR1, hS1] at h
 refine Y22 ?_; refine Y22 ?_
 refine r_c rfl (qg rfl (ue hT st2 h) ?_)
 clear h
 rintro _ w ⟨rfl, h⟩
 rw [t1]
 rw [hR2, hS2] at h
 refine Y3q ?_; refine Ym ?_
 refine r_c rfl (qg rfl (yu (by rw [t4]; exact Ud _) h) ?_)
 clear h
 rintro _ w ⟨xa, xc, rfl, h⟩
 rw [t2]
 refine Y3e ?_
 refine r_c rfl (qp h fun b20 w h => ?_)
 refine r_c rfl (qy (vs := R2.out.C xa xc) 0 h rfl rfl rfl rfl rfl rfl rfl fun w h => ?_)
 refine Y7 ?_
 replace h := h.drop.drop
 refine Y2 ?_; refine Y10 ?_
 refine r_c rfl (qg rfl (ue hT st3 h) ?_)
 clear h
 rintro _ w ⟨rfl, h⟩
 rw [u1]
 rw [hR3, hS3] at h
 refine Y4 ?_; refine Ym ?_
 refine r_c rfl (qg rfl (yu (by rw [u4]; exact Ud _) h) ?_)
 clear h
 rintro _ w ⟨ya, yc, rfl, h⟩
 rw [u2]
 refine Y3e ?_
 refine r_c rfl (qp h fun b23 w h => ?_)
 refine r_c rfl (qy (vs := R3.out.C ya yc) 0 h rfl rfl rfl rfl rfl rfl rfl fun w h => ?_)
 refine Y7 ?_
 replace h := h.drop.drop
 refine Yn ?_; refine Y1p ?_; refine Y46 ?_; refine Yf ?_; refine Y1e ?_
 refine r_v (qq (v := .iz r1.res.err) rfl (h.b 10 rfl) rfl) rfl ?_
 rw [y1]
 refine Y3b ?_; refine Yf ?_; refine Y2t ?_; refine Y1p ?_; refine Yf ?_; refine Y1e ?_
 refine r_v (qq (v := .slice la2 r2.res.list.length lc2) rfl (h.b 8 rfl) rfl) rfl ?_
 rw [show r2.res.list.length = 1 from by rw [y2']; rfl]
 refine Yc ?_; refine Y15 ?_; refine Y3b ?_; refine Yf ?_; refine Y2t ?_; refine Y1p ?_; refine Yf ?_; refine Y1e ?_
 refine r_v (qq (v := .iz r3.res.err) rfl (h.b 6 rfl) rfl) rfl ?_
 rw [y3]
 refine Y3b ?_; refine Yf ?_; refine Y2t ?_; refine Y1p ?_; refine Yf ?_; refine Y1e ?_
 refine r_v (qq (v := .slice la2 r2.res.list.length lc2) rfl (h.b 8 rfl) rfl) rfl ?_
 refine Y4m ?_
 refine r_v (qq (v := .slice la4 r4.res.list.length lc4) rfl (h.b 4 rfl) rfl) rfl ?_
 refine Yc ?_
 refine r_c rfl (qg rfl (ref10_Same (L1 := r2.res.list) (L2 := r4.res.list) h (fun w' h' => (h'.f 9).own_rd) (fun w' h' => (h'.f 5).own_rd) (by rw [y2']; decide)) ?_)
 clear h
 rintro _ w ⟨rfl, h⟩
 rw [show decide (r2.res.list = r4.res.list) = true from decide_eq_true (y2'.trans y4'.symm)]
 refine Yf ?_; refine Y2t ?_; refine Y1p ?_; refine Yf ?_; refine Y1e ?_
 refine r_v (qq (v := .iz r5.res.err) rfl (h.b 2 rfl) rfl) rfl ?_
 rw [y5]
 refine Y3b ?_; refine Yf ?_; refine Y46 ?_; refine Yf ?_; refine Y46 ?_; refine Yf ?_; refine Y2t ?_; refine Y2t ?_; refine Yx ?_; refine Yf ?_; refine Y46 ?_; refine Yf ?_; refine Y2t ?_; refine Y1p ?_; refine Yf ?_; refine Y3f ?_
 refine r_c rfl (qg rfl (bx h) ?_)
 clear h
 rintro _ w ⟨rfl, h⟩
 rw [u3]
 refine Y3b ?_; refine Yf ?_; refine Y3f ?_; refine Y4t ?_
 refine r_c rfl (qg rfl (ue hT st4 h) ?_)
 clear h
 rintro _ w ⟨rfl, h⟩
 rw [e4]
 refine Y3b ?_; refine Y2m ?_
 exact qv (qk (bq1 ⟨rfl, h.x [0, 1, 2, 3, 4, 5, 6, 7, 8, 9, 10, 11]⟩))
end
end
section
variable {s s' s2 : Shd} {a : Ag} {A : List Ag} {acc : List SlotV} {al : Int -> Bool} {G G' : Int -> Blb} {n n' i : Nat} {r r' : Run} {who : Int} {k : Nat} {o : Opr}
abbrev noAl : Int -> Bool := fun _ => false
def Rest (s : Shd) (G : Int -> Blb) (i : Nat) : Prop := ∃ acc n, n <= 20000 * i ∧ s.b.last <= (i : Int) ∧ Inv s [] acc noAl G n ∧ Tags1 G s.b.last ∧ 1 <= s.c.clk.most
theorem Rest.new (f b : Int) : Rest (Shd.new f b) G0 0 := ⟨_, 0, Ug _, Uu _, np f b _, fun id h1 h2 => by
 have : (Shd.new f b).b.last = 0 := rfl
 omega, by show 1 <= min (max f 1) 1000; omega⟩
theorem Rest.more (h : Rest s G i) {j : Nat} (hj : i <= j) : Rest s G j := by
 obtain ⟨acc, n, h1, h2, h3⟩ := h
 exact ⟨acc, n, O_o, O_o, h3⟩
theorem qgl : ¬ Blk [] o := by rintro (⟨_, _, x, hx, _⟩ | ⟨_, x, hx, _⟩) <;> cases hx
inductive Done (s : Shd) (G : Int -> Blb) (o : Opr) (s' : Shd) (G' : Int -> Blb) (res : Res) : Int -> Prop
 | point (ha : (abs s G).act o = (abs s' G', res)) : Done s G o s' G' res 2
 | full (ha : abs s' G' = abs s G) (hr : res = ⟨9, 0, []⟩) (hb : s'.b = s.b) (hw : (o.kind = 1 ∧ (s.b.room < 16 ∨ ∃ sl : SlotV, sl.opn.length = 7 ∧ Dir.look s.d o.series = some sl)) ∨ o.kind = 3) (hroom : s.b.room < 300) : Done s G o s' G' res 3
theorem Rest.op (h : Rest s G i) (hi : i <= 1000) (who : Int) (ho : o.Wf) : ∃ m r' s' d G', Solo (Run.new who o) s m r' s' d ∧ 1 <= m ∧ m <= (Run.new who o).need s ∧ m <= 3 + 6 * i ∧ Rest s' G' (i + 1) ∧ Kpt who s G s' G' ∧ r'.over = true ∧ r'.holds = 0 ∧ r'.res.list.length <= 800007 ∧ Done s G o s' G' r'.res d := by
 obtain ⟨acc, n, h1, h2, h3, h4, h5⟩ := h
 have hb0 : 0 <= s.b.last := h3.sto.ok.l0
 have hneed := nn h3 (Run.new who o)
 obtain ⟨m, r', s', d, acc', G', g1, g2, g3, g4, g5, g6, g7, g8, g9, g10⟩ := bn h3 (who := who) (o := o) (by intro h; cases h) O2 ho (fun _ => rfl) qgl O0 O0 h4.cod
 have ht := v6 (Run.new who o)
 refine ⟨m, r', s', d, G', g1, g2, g3, O_o, ⟨acc', _, O_o, O_o, g4, h4.step g5, by rw [g5.most]; exact h5⟩, g5, g7, g8, g9, ?_⟩
 cases g10 with
 | point ha => exact .point ha
 | full ha hr hp hk hb hw hroom =>
  refine .full ha hr hb ?_ hroom
  rcases hw with ⟨w1, w2 | ⟨sl, w2, _, w3⟩⟩ | w1
  ·exact .inl ⟨w1, .inl w2⟩
  ·exact .inl ⟨w1, .inr ⟨sl, w2, w3 rfl⟩⟩
  ·exact .inr w1
 | busy _ _ _ hc =>
  obtain ⟨ks, k1, k2, k3⟩ := hc
  cases ks with
  | nil => exfalso; simp only [Xs] at k2; omega
  | cons x l => have := k3 x (Ub ..); cases this
theorem Rest.zero (h : Rest s G i) (hs : ∀ j, (abs s G).ser j = none) (hi : (abs s G).its = []) : s.b.bytes = 0 ∧ s.b.charged = 0 ∧ ∀ (j : Nat) (p : Plc), s.d[j]? = some p -> p.s.opn = [] := by
 obtain ⟨acc, n, h1, h2, h3, h4, h5⟩ := h
 have hd : ∀ (j : Nat) (p : Plc), s.d[j]? = some p -> p.taken = false ∧ p.s.there = false := by
  intro j p hp
  have ht : p.taken = false := by
   cases ht : p.taken with
   | false => rfl
   | true =>
    obtain ⟨_, f, hf, _⟩ := h3.dir.busy j p hp ht
    cases hf
  refine ⟨ht, ?_⟩
  have h16 := h3.lt16 hp
  have e := hs (j : Int)
  have e' : serOf s.d G (j : Int) = none := e
  rw [serOf_at hp h16] at e'
  unfold SlotV.tells at e'
  cases hth : p.s.there with
  | false => rfl
  | true => rw [hth] at e'; cases e'
 have ht : s.t.l = [] := by
  have e : itsOf s.t.l G = [] := hi
  unfold itsOf at e
  exact List.map_eq_nil_iff.1 e
 obtain ⟨u1, u2⟩ := ar h3 (fun a ha => by cases ha) hd ht
 exact ⟨u1, u2, fun j p hp => ((h3.dir.ok j p hp).1.no (hd j p hp).2).1⟩
theorem Rest.used (h : Rest s G i) : s.b.bytes + s.b.charged <= s.b.budget ∧ 0 <= s.b.bytes ∧ 0 <= s.b.charged ∧ s.b.Ok := by
 obtain ⟨acc, n, h1, h2, h3, h4, h5⟩ := h
 exact ⟨h3.sto.ok.sum, h3.sto.ok.y0, h3.sto.ok.c0, h3.sto.ok⟩
theorem lastT_lt {L : List Smp} {b : Int} (hne : L ≠ []) (h : ∀ x ∈ L, x.T < b) : lastT L < b := by
 have e := List.dropLast_concat_getLast hne
 rw [<- e, lastT_snoc]
 exact h _ (List.getLast_mem hne)
end
section
variable {s s' : Shd} {G G' : Int -> Blb} {k i : Nat} {ser : Int} {V : Nat -> Nat}
def smpN (V : Nat -> Nat) (i : Nat) : List Smp := (List.range i).map fun j : Nat => ⟨(j : Int), (V j : Int)⟩
theorem smpN_len : (smpN V i).length = i := by unfold smpN; rw [Ve, Zc]
theorem smpN_succ : smpN V (i + 1) = smpN V i ++ [⟨(i : Int), (V i : Int)⟩] := by unfold smpN; rw [List.range_succ, Wd]; rfl
theorem smpN_T : ∀ x ∈ smpN V i, 0 <= x.T ∧ x.T < (i : Int) := by
 intro x hx
 unfold smpN at hx
 obtain ⟨j, hj, rfl⟩ := Vb.1 hx
 have := Zg.1 hj
 dsimp only; omega
theorem smpN_get {j : Nat} (hj : j < i) : (smpN V i)[j]? = some ⟨(j : Int), (V j : Int)⟩ := by
 unfold smpN
 rw [Wp, Ze hj]; rfl
def opA (ser : Int) (i v : Nat) : Opr := ⟨1, ser, 0, (i : Int), v, 0, 0, 0⟩
theorem opA_wf {v : Nat} (h0 : 0 <= ser) (h1 : ser < 16) (hi : i <= 100000) (hv : v < 18446744073709551616) : (opA ser i v).Wf :=
 ⟨by show I64 1; unfold I64; omega, by show I64 ser; unfold I64; omega, by show I64 0; unfold I64; omega, by show I64 (i : Int); unfold I64; omega, hv, by show I64 0; unfold I64; omega, by show I64 0; unfold I64; omega, by show I64 0; unfold I64; omega⟩
theorem vw {kd : Int} (hk : 1 <= kd ∧ kd <= 5) (h0 : 0 <= ser) (h1 : ser < 16) {a b c d : Int} {v : Nat} {e : Int} : Run.bad ⟨kd, ser, a, b, v, c, d, e⟩ = false := by
 unfold Run.bad
 rw [if_pos hk, Za, decide_eq_false_iff_not, decide_eq_false_iff_not]
 dsimp only; omega
theorem qge (f b : Int) : ∀ j, (abs (Shd.new f b) G0).ser j = none := by
 intro j
 show serOf (List.replicate 16 ⟨SlotV.zero, false, 0⟩) G0 j = none
 unfold serOf
 cases h : Dir.at_ (List.replicate 16 ⟨SlotV.zero, false, 0⟩) j with
 | none => rfl
 | some p =>
  unfold Dir.at_ at h
  split at h
  ·rw [wd h]; rfl
  ·cases h
theorem upS_at (f : Int -> Option (Bool × List Smp)) (j : Int) (x : Option (Bool × List Smp)) : upS f j x j = x := if_pos rfl
theorem qga {m : Mdl} {T : Int} {v : Nat} {L : List Smp} {e : Bool} (h0 : 0 <= ser) (h1 : ser < 16) (hm : m.ser ser = if e then none else some (false, L)) (he : e = true -> L = []) (hT : e = false -> lastT L < T) :
  m.act ⟨1, ser, 0, T, v, 0, 0, 0⟩ = ({ m with ser := upS m.ser ser (some (false, L ++ [⟨T, (v : Int)⟩])) }, ⟨0, 0, []⟩) := by
 rw [vh (vw ⟨O_c, O_c⟩ h0 h1) (by show (1 : Int) ≠ 6; decide) (by show (1 : Int) ≠ 7; decide)]
 dsimp only
 rw [hm]
 cases e with
 | true => rw [he rfl]; rfl
 | false =>
  have := hT rfl
  rw [if_neg Vn]
  dsimp only
  rw [if_pos rfl, if_neg Vn, if_neg O0]
end
section
variable {s s' : Shd} {a : Ag} {A : List Ag} {acc : List SlotV} {al : Int -> Bool} {G G' : Int -> Blb} {n k i : Nat} {r r' : Run} {who : Int} {o : Opr}
theorem yk (ho : r.over = false) (hb : Run.bad r.o = false) (hk : r.wrt) : r.step s = r.write s := by
 obtain ⟨n2, n5, n6, n7, _⟩ := tw hk
 unfold Run.step
 rw [ho, if_neg Vn, hb, if_neg Vn, if_neg n2, if_neg n5, if_neg n6, if_neg n7]
theorem rq (ho : r.over = false) (hb : Run.bad r.o = false) (hk : r.wrt) (h0 : r.ph = 0) : (r.step s).2.2 = 0 ∨ (r.step s).2.2 = 1 := by
 rw [yk ho hb hk]
 unfold Run.write
 rw [if_pos h0]
 generalize r.take s = z
 obtain ⟨z1, z2, z3⟩ := z
 cases z3
 ·exact .inl rfl
 ·exact .inr rfl
theorem td (ho : r.over = false) (hb : Run.bad r.o = false) (hk : r.wrt) (h1 : r.ph = 1) (hw : r.wrong = 0) : (r.step s).2.2 = 1 ∨ (r.step s).2.2 = 3 := by
 rw [yk ho hb hk]
 unfold Run.write
 rw [if_neg O0, if_pos h1, if_neg (fun h => h hw)]
 generalize r.make s = z
 obtain ⟨z1, z2, z3⟩ := z
 cases z3
 ·exact .inr rfl
 ·exact .inl rfl
theorem FlagAt.look (h : Inv s A acc al G n) (hf : FlagAt s r) : Dir.look s.d r.o.series = none := by
 obtain ⟨i, e, hi, hd⟩ := hf
 obtain ⟨j, p, e2, _, hp, _, ⟨_, hl⟩ | ⟨ht, _⟩⟩ := h.look (id := r.o.series) O0 O0
 ·exact hl
 ·have : j = i := by omega
  rw [this, hd] at hp
  obtain rfl := Uk hp
  cases ht
theorem fx {ser : Int} {T : Int} {V : Nat} {L : List Smp} {e : Bool} (hI : Inv s A acc noAl G n) (ht : Tags1 G s.b.last) (hwho : who ∉ A.map Ag.who) (hA : A.length + 1 <= 100) (h0 : 0 <= ser) (h1 : ser < 16) (ho : o = ⟨1, ser, 0, T, V, 0, 0, 0⟩) (hwf : o.Wf)
  (hser : (abs s G).ser ser = if e then none else some (false, L)) (he : e = true -> L = []) (hT : e = false -> lastT L < T) (hnb : ∀ x ∈ A, x.flag = none) (hn : n <= 900000000) (hl : s.b.last <= 90000) (hb : 300 * s.b.last + 2400 <= s.b.budget) :
  ∃ (r1 r2 r3 : Run) (s1 s2 s3 : Shd) (acc1 acc2 acc3 : List SlotV) (G1 G2 G3 : Int -> Blb) (a1 a2 : Ag),
   ((Run.new who o).StepOk s ∧ (Run.new who o).step s = (r1, s1, 1) ∧ r1.StepOk s1 ∧ r1.step s1 = (r2, s2, 1) ∧ r2.StepOk s2 ∧ r2.step s2 = (r3, s3, 2) ∧ r3.over = true ∧ r3.holds = 0 ∧ r1.over = false ∧ r2.over = false) ∧
   (Inv s1 (a1 :: A) acc1 noAl G1 (n + 2) ∧ a1.who = who ∧ FlagAt s1 r1 ∧ r1.o = o ∧ Tags1 G1 s1.b.last) ∧ (Inv s2 (a2 :: A) acc2 noAl G2 (n + 4) ∧ a2.who = who ∧ FlagAt s2 r2 ∧ r2.o = o ∧ Tags1 G2 s2.b.last) ∧
   Inv s3 A acc3 noAl G3 (n + 6) ∧ Tags1 G3 s3.b.last ∧ Kpt who s G s3 G3 ∧ s3.b.last <= s.b.last + 1 ∧ s1.b.last <= s.b.last + 1 ∧ s2.b.last <= s.b.last + 1 ∧
   abs s3 G3 = { abs s G with ser := upS (abs s G).ser ser (some (false, L ++ [⟨T, (V : Int)⟩])) } := by
 subst ho
 have hbad := vw (kd := 1) (a := 0) (b := T) (c := 0) (d := 0) (v := V) (e := 0) ⟨O_c, O_c⟩ h0 h1
 obtain ⟨r0, hr0⟩ : ∃ r0, Run.new who ⟨1, ser, 0, T, V, 0, 0, 0⟩ = r0 := ⟨_, rfl⟩
 have ho0 : r0.o = ⟨1, ser, 0, T, V, 0, 0, 0⟩ := by rw [<- hr0]; rfl
 have hp0 : r0.ph = 0 := by rw [<- hr0]; rfl
 have hw0 : r0.who = who := by rw [<- hr0]; rfl
 have hk0 : r0.o.kind = 1 := by rw [ho0]
 have hok0 : RunOk noAl r0 := by rw [<- hr0]; exact run_new_ok hbad hwf fun _ => rfl
 have hrel0 : Rel G s r0 (Ag.idle who) (r0.need s) := by rw [<- hr0]; exact run_new_rel G s
 have hact := qga (m := abs s G) (T := T) (v := V) (L := L) (e := e) h0 h1 hser he hT
 rw [hr0]
 clear hr0
 have hnB : ∀ oo : Opr, oo.kind = 1 -> ¬ Blk A oo := by
  rintro oo hk (⟨_, _, x, hx, f, hf, _⟩ | ⟨hk', _⟩)
  ·rw [hnb x hx] at hf; cases hf
  ·omega
 obtain ⟨hst0, a1, acc1, G1, hO1⟩ := z8 (hI.enter hwho hA) hok0 hrel0 O0 O0 ht.cod
 obtain ⟨q1, hq1⟩ : ∃ q, r0.step s = q := ⟨_, rfl⟩
 have hf1 := rq (s := s) hok0.over hok0.bad (.inl hk0) hp0
 rw [hq1] at hO1 hf1
 cases hO1.did with
 | none _ _ hB => exact absurd hB (hnB _ hk0)
 | point h => omega
 | full h => omega
 | busy h => omega
 | some h ho1 k1 hr1 _ hab1 hw1 =>
 obtain ⟨r1, s1, d1⟩ := q1
 obtain rfl : d1 = 1 := h
 dsimp only at ho1 hr1 hab1 hw1
 obtain ⟨_, hph1, hbs1, hlk1⟩ | ⟨hph, _⟩ := hw1 (.inl hk0)
 rotate_left
 ·omega
 have hO1i : Inv s1 (a1 :: A) acc1 noAl G1 (n + 2) := hO1.inv
 have hr1o : r1.o = r0.o := hO1.o
 have hr1w : r1.who = r0.who := hO1.who
 have hlast1 : s1.b.last = s.b.last := by rw [hbs1]
 have hk1 : r1.o.kind = 1 := by rw [hr1o]; exact hk0
 obtain ⟨hfl1, hfa1, ha1⟩ : r1.flag = true ∧ FlagAt s1 r1 ∧ a1 = ⟨r1.who, some (r1.o.series, r1.slot), [], [], none, none⟩ := by
  cases hr1 with
  | idle h => omega
  | make _ _ hf _ hd => exact ⟨hf, hd, rfl⟩
  | put _ h => omega
  | hard hk => omega
  | read hk => omega
  | next hk => omega
 have ht1 : Tags1 G1 s1.b.last := ht.step hO1.kept
 have hab1' : abs s1 G1 = abs s G := hab1
 obtain ⟨hs1, hch1, hl01, hl11, hsr1⟩ := hfa1.ok hO1i
 have hser1 : r1.o.series = ser := by rw [hr1o, ho0]
 have hT1 : r1.o.T = T := by rw [hr1o, ho0]
 have htl : r1.slot.tells G1 = if e then none else some (false, L) := by
  rw [<- hsr1, hser1, <- hser, <- hab1']; rfl
 have hwr1 : r1.wrong = 0 := by
  rcases up r1 with ⟨_, hk, _⟩ | ⟨h1, _, hc, _⟩ | ⟨h1, hc, _, hle, _⟩ | ⟨h, _⟩
  ·exact absurd hk1 hk
  ·rw [vz h1, hc] at htl
   cases e with
   | true => cases htl
   | false => cases htl
  ·rw [vz h1, hc] at htl
   cases e with
   | true => cases htl
   | false =>
    have hall : r1.slot.all G1 = L := congrArg Prod.snd (Uk htl)
    have := (hs1.yes h1).2.2
    have := hT rfl
    rw [hall] at *
    omega
  ·exact h
 obtain ⟨hst1, a2, acc2, G2, hO2⟩ := z8 hO1i ho1 hr1 O0 O0 ht1.cod
 obtain ⟨q2, hq2⟩ : ∃ q, r1.step s1 = q := ⟨_, rfl⟩
 have hf2 := td (s := s1) ho1.over ho1.bad (.inl hk1) hph1 hwr1
 rw [hq2] at hO2 hf2
 cases hO2.did with
 | none _ hp => omega
 | point h => omega
 | busy h _ _ _ _ _ _ hk => omega
 | full h _ _ _ _ _ _ _ _ hroom =>
  exfalso
  have hu := qjn hO1i ht1
  have er : s1.b.room = s1.b.budget - s1.b.bytes - s1.b.charged := rfl
  have eb : s1.b.budget = s.b.budget := by rw [hbs1]
  omega
 | some h ho2 k2 hr2 _ hab2 hw2 =>
 obtain ⟨r2, s2, d2⟩ := q2
 obtain rfl : d2 = 1 := h
 dsimp only at ho2 hr2 hab2 hw2
 obtain ⟨hph, _⟩ | ⟨_, hph2⟩ := hw2 (.inl hk1)
 ·omega
 have hO2i : Inv s2 (a2 :: A) acc2 noAl G2 (n + 4) := hO2.inv
 have hr2o : r2.o = r1.o := hO2.o
 have hr2w : r2.who = r1.who := hO2.who
 have hk2 : r2.o.kind = 1 := by rw [hr2o]; exact hk1
 have ht2 : Tags1 G2 s2.b.last := ht1.step hO2.kept
 have hl2 : s2.b.last <= s1.b.last + r1.adds := hO2.le1
 have ha1le := (v6 r1).2
 obtain ⟨hfa2, ha2⟩ : FlagAt s2 r2 ∧ a2 = ⟨r2.who, some (r2.o.series, r2.next), [], [], none, none⟩ := by
  cases hr2 with
  | idle h => omega
  | make _ h => omega
  | put _ _ _ _ hd => exact ⟨hd, rfl⟩
  | hard hk => omega
  | read hk => omega
  | next hk => omega
 obtain ⟨hst2, a3, acc3, G3, hO3⟩ := z8 hO2i ho2 hr2 O0 O0 ht2.cod
 obtain ⟨q3, hq3⟩ : ∃ q, r2.step s2 = q := ⟨_, rfl⟩
 rw [hq3] at hO3
 cases hO3.did with
 | none _ hp => omega
 | full h h1 => omega
 | busy h _ _ _ _ _ _ hk => omega
 | some _ _ _ _ _ _ hw3 =>
  rcases hw3 (.inl hk2) with ⟨h, _⟩ | ⟨h, _⟩ <;> omega
 | point h3 ho3 hh3 ha3 hact3 =>
 obtain ⟨r3, s3, d3⟩ := q3
 obtain rfl : d3 = 2 := h3
 dsimp only at ho3 hh3 hact3
 have hO3i : Inv s3 (a3 :: A) acc3 noAl G3 (n + 6) := hO3.inv
 rw [ha3] at hO3i
 have hab2' : abs s2 G2 = abs s G := hab2.trans hab1'
 rw [hab2', hr2o, hr1o, ho0, hact] at hact3
 have ht3 : Tags1 G3 s3.b.last := ht2.step hO3.kept
 have hl3 : s3.b.last <= s2.b.last + r2.adds := hO3.le1
 have hadd2 : r2.adds = 0 := if_neg (fun h => by have := h.2; omega)
 have w1 : r1.who = who := hr1w.trans hw0
 have w2 : r2.who = who := hr2w.trans w1
 have K1 := hO1.kept
 have K2 := hO2.kept
 have K3 := hO3.kept
 rw [hw0] at K1
 rw [w1] at K2
 rw [w2] at K3
 exact ⟨r1, r2, r3, s1, s2, s3, acc1, acc2, acc3, G1, G2, G3, a1, a2, ⟨hst0, hq1, hst1, hq2, hst2, hq3, ho3, hh3, ho1.over, ho2.over⟩, ⟨hO1i, by rw [ha1]; exact w1, hfa1, hr1o.trans ho0, ht1⟩, ⟨hO2i, by rw [ha2]; exact w2, hfa2, hr2o.trans (hr1o.trans ho0), ht2⟩,
  hO3i.exit rfl rfl rfl rfl, ht3, (K1.trans K2).trans K3, O_o, O_o, O_o, (congrArg Prod.fst hact3).symm⟩
end
section
variable {s s' : Shd} {a : Ag} {A : List Ag} {acc : List SlotV} {al : Int -> Bool} {G G' : Int -> Blb} {n k i : Nat} {r r' : Run} {who : Int} {o : Opr} {b : Int}
theorem nc {α β : Type} {x y : α} {u v : β} {c d : Int} (h : (x, u, c) = (y, v, d)) (hn : c ≠ d) : False := hn (congrArg (fun q : α × β × Int => q.2.2) h)
theorem qgr (hbad : Run.bad o = false) (hk : o.kind = 1) {sl : SlotV} (hl : Dir.look s.d o.series = some sl) (hs : SlotOk G b sl) {r1 r2 r3 : Run} {s1 s2 s3 : Shd}
  (h1 : (Run.new who o).step s = (r1, s1, 1)) (h2 : r1.step s1 = (r2, s2, 1)) (h3 : r2.step s2 = (r3, s3, 2)) (hf : FlagAt s2 r2) (hb2 : r2.over = false) (ho2 : r2.o = o) :
  r3.res.list = [] ∧ s3.c = s.c ∧ ∃ (j : Nat) (p : Plc), o.series = (j : Int) ∧ j < 16 ∧ s3.d[j]? = some p ∧ p.s.opn.length = (sl.opn.length + 1) % 8 := by
 have hfew := hs.few
 rw [yk rfl hbad (.inl hk)] at h1
 unfold Run.write at h1
 rw [if_pos (show (Run.new who o).ph = 0 from rfl)] at h1
 unfold Run.take at h1
 rw [show Dir.look s.d (Run.new who o).o.series = some sl from hl] at h1
 dsimp only at h1
 cases hD : Dir.take s.d (Run.new who o).o.series (Run.new who o).who with
 | none => rw [hD] at h1; exact (nc h1 O2).elim
 | some D =>
 rw [hD] at h1
 have e1 : r1 = { Run.new who o with slot := sl, flag := true, ph := 1 } := (congrArg (fun q : Run × Shd × Int => q.1) h1).symm
 have e1s : s1.c = s.c := (congrArg (fun q : Run × Shd × Int => q.2.1.c) h1).symm
 have r1k : r1.o.kind = 1 := by rw [e1]; exact hk
 have r1p : r1.ph = 1 := by rw [e1]
 have r1s : r1.slot = sl := by rw [e1]
 rw [yk (by rw [e1]; rfl) (by rw [e1]; exact hbad) (.inl r1k)] at h2
 unfold Run.write at h2
 rw [if_neg O0, if_pos r1p] at h2
 by_cases hw : r1.wrong ≠ 0
 ·rw [if_pos hw] at h2
  exact (nc h2 O2).elim
 rw [if_neg hw] at h2
 have hw0 : r1.wrong = 0 := Wg hw
 have hadd := add_eq r1k (G := G) (b := b) (by rw [r1s]; exact hs) hw0
 have hmore := (SlotOk.opn_more (G := G) (b := b) (by rw [r1s]; exact hs : SlotOk G b r1.slot) ⟨r1.o.T, (r1.o.V : Int)⟩).1
 generalize hm : r1.make s1 = z at h2
 obtain ⟨z1, z2, z3⟩ := z
 cases z3 with
 | false => exact (nc h2 O2).elim
 | true =>
 have e2 : r2 = { z1 with ph := 3 } := (congrArg (fun q : Run × Shd × Int => q.1) h2).symm
 have e2s : s2 = z2 := (congrArg (fun q : Run × Shd × Int => q.2.1) h2).symm
 have key : z2.c = s1.c ∧ z1.next.opn.length = (sl.opn.length + 1) % 8 := by
  unfold Run.make at hm
  dsimp only at hm
  rw [if_pos r1k] at hm
  unfold Run.add at hm
  dsimp only at hm
  rw [hadd.1] at hm
  have hml : (r1.slot.more ⟨r1.o.T, (r1.o.V : Int)⟩).opn.length = sl.opn.length + 1 := by rw [hmore, Ua, r1s]; rfl
  generalize s1.b.chg 16 = c at hm
  obtain ⟨c1, c2⟩ := c
  cases c1 with
  | false => cases hm
  | true =>
   dsimp only at hm
   by_cases hlt : (r1.slot.more ⟨r1.o.T, (r1.o.V : Int)⟩).opn.length < 8
   ·rw [if_pos hlt] at hm
    have q1 := congrArg (fun q : Run × Shd × Bool => q.1.next.opn.length) hm
    have q2 := congrArg (fun q : Run × Shd × Bool => q.2.1.c) hm
    dsimp only at q1 q2
    exact ⟨q2.symm, by rw [<- q1]; omega⟩
   ·rw [if_neg hlt] at hm
    generalize hc : Run.close _ _ = y at hm
    obtain ⟨y1, y2, y3⟩ := y
    cases y3 with
    | false => cases hm
    | true =>
     have q1 := congrArg (fun q : Run × Shd × Bool => q.1) hm
     have q2 := congrArg (fun q : Run × Shd × Bool => q.2.1) hm
     dsimp only at q1 q2
     subst q1 q2
     unfold Run.close at hc
     dsimp only at hc
     generalize Sto.add _ _ = t at hc
     cases t with
     | none => cases hc
     | some u =>
      obtain ⟨u1, u2⟩ := u
      have q3 := congrArg (fun q : Run × Shd × Bool => q.1.next.opn.length) hc
      have q4 := congrArg (fun q : Run × Shd × Bool => q.2.1.c) hc
      dsimp only [List.length] at q3 q4
      exact ⟨q4.symm, by rw [<- q3]; omega⟩
 obtain ⟨key1, key2⟩ := key
 have hk2 : r2.o.kind = 1 := by rw [ho2]; exact hk
 have hp2 : r2.ph = 3 := by rw [e2]
 rw [yk hb2 (by rw [ho2]; exact hbad) (.inl hk2)] at h3
 unfold Run.write at h3
 rw [if_neg O0, if_neg O0] at h3
 obtain ⟨j, f1, f2, f3⟩ := hf
 have hpub : r2.publish s2 r2.next = ({ r2 with flag := false }, { s2 with d := s2.d.set j ⟨{ r2.next with ver := wI (r2.slot.ver + 1 + 1) }, false, 0⟩ }) := by
  unfold Run.publish
  have : Dir.leave s2.d r2.o.series r2.who r2.next = some (s2.d.set j ⟨{ r2.next with ver := wI (r2.slot.ver + 1 + 1) }, false, 0⟩) := by
   unfold Dir.leave
   rw [f1, nm f2, f3]
   dsimp only
   rw [if_pos ⟨rfl, rfl⟩, show ((j : Int)).toNat = j from by omega]
  rw [this]; rfl
 rw [hpub] at h3
 have q3 := congrArg (fun q : Run × Shd × Int => q.2.1) h3
 have q5 := congrArg (fun q : Run × Shd × Int => q.1.res.list) h3
 dsimp only [Run.stop] at q3 q5
 subst q3
 refine ⟨q5.symm, by show s2.c = s.c; rw [e2s, key1, e1s], j, ⟨{ r2.next with ver := wI (r2.slot.ver + 1 + 1) }, false, 0⟩, by rw [<- ho2]; exact f1, f2, uz f3, ?_⟩
 show r2.next.opn.length = _
 rw [e2]; exact key2
end
section
variable {s s' : Shd} {a : Ag} {A : List Ag} {acc acc' : List SlotV} {al : Int -> Bool} {G G' : Int -> Blb} {n n' k i j : Nat} {r r' : Run} {who : Int} {o : Opr} {b : Int} {C : Cac}
def alKey (i : Nat) : Key3 := ⟨7, 0, (i : Int)⟩
def alPins (j : Nat) : List Key3 := (List.range j).map alKey
def al7 : Int -> Bool := fun j => decide (j = 7)
def alAg (ps : List Key3) : Ag := ⟨9, none, [], ps, none, none⟩
theorem alKey_inj {i j : Nat} (h : alKey i = alKey j) : i = j := by
 have := congrArg Key3.blob h
 have : ((i : Nat) : Int) = ((j : Nat) : Int) := this
 omega
theorem alPins_mem {k : Key3} : k ∈ alPins j ↔ ∃ i, i < j ∧ k = alKey i := by
 unfold alPins
 rw [Vb]
 constructor
 ·rintro ⟨i, h1, h2⟩; exact ⟨i, Zg.1 h1, h2.symm⟩
 ·rintro ⟨i, h1, h2⟩; exact ⟨i, Zg.2 h1, h2.symm⟩
theorem alPins_len : (alPins j).length = j := by unfold alPins; rw [Ve, Zc]
theorem alPins_nodup : (alPins j).Nodup := by
 unfold alPins
 refine List.pairwise_map.2 (List.Pairwise.imp (fun h e => h (alKey_inj e)) (List.nodup_range (n := j)))
structure AlC (C : Cac) (f : Int) (j : Nat) : Prop where
 good : C.Good (j : Int)
 most : C.clk.most = f
 iff : ∀ k, (C.pins k).isSome = true ↔ k ∈ alPins j
 one : ∀ k a, C.pins k = some a -> a = 1
theorem AlC.new (f : Int) : AlC (Cac.new f) (min (max f 1) 1000) 0 :=
 ⟨Cac.new_good f, rfl, fun k => ⟨fun h => (by cases h), fun h => (by cases h)⟩, fun k a h => by cases h⟩
theorem AlC.put {f : Int} (h : AlC C f j) (hj : (j : Int) < f) : (C.put (alKey j) []).2 = true ∧ ((C.put (alKey j) []).1.pinN (alKey j) 1).2 = true ∧ (C.put (alKey j) []).1.Good (j : Int) ∧ AlC ((C.put (alKey j) []).1.pinN (alKey j) 1).1 f (j + 1) := by
 have hno : C.pins (alKey j) = none := by
  cases hp : C.pins (alKey j) with
  | none => rfl
  | some a =>
   exfalso
   obtain ⟨i, hi, e⟩ := alPins_mem.1 ((h.iff (alKey j)).1 (by rw [hp]; rfl))
   have := alKey_inj e
   omega
 have hres : C.clk.res.length <= j := by
  have := nodup_sub_len (l := keys C.clk.res) (m := alPins j) h.good.clk.resNodup fun k hk => (h.iff k).1 (by
   cases hp : C.pins k with
   | none => exact absurd hk (mget_none.1 hp)
   | some a => rfl)
  unfold keys at this
  rw [Ve, alPins_len] at this
  exact this
 obtain ⟨p1, p2⟩ := Cac.put_in h.good O0 (L := []) (Ud _) hno (fun hc => by have := hc.1; rw [h.most] at this; omega)
 obtain ⟨q1, q2, q3, q4, q5⟩ := Cac.pin_some p2.good 1 p2.here
 have e := Cac.pin_at p2.good 1 p2.here
 have ho : ∀ k, k ≠ alKey j -> (C.put (alKey j) []).1.pins k = C.pins k := by
  rcases p2.others with ⟨_, _, ho⟩ | ⟨hf, _⟩
  ·exact ho
  ·rw [h.most] at hf; omega
 refine ⟨p1, q1, p2.good, q5.mono O0, q3.trans (p2.most.trans h.most), fun k => ?_, fun k a hk => ?_⟩
 ·rw [e]
  by_cases hk : k = alKey j
  ·rw [if_pos hk]
   exact ⟨fun _ => alPins_mem.2 ⟨j, Wk j, hk⟩, fun _ => rfl⟩
  ·rw [if_neg hk, ho k hk, h.iff k, alPins_mem, alPins_mem]
   constructor
   ·rintro ⟨i, h1, h2⟩; exact ⟨i, O_o, h2⟩
   ·rintro ⟨i, h1, h2⟩
    refine ⟨i, ?_, h2⟩
    rcases Xt i j with h3 | h3
    ·exact h3
    ·obtain rfl : i = j := by omega
     exact absurd h2 hk
 ·rw [e] at hk
  split at hk
  ·have := Uk hk; omega
  ·rename_i hne
   exact h.one k a (by rw [<- ho k hne]; exact hk)
theorem AlC.inv {f : Int} (h : AlC C f j) (G : Int -> Blb) (b : Int) : CacInv C (alPins j) al7 G b := by
 refine ⟨by rw [alPins_len]; exact h.good, fun k a hk => ?_, fun k hk => (h.iff k).2 hk, fun k L hk ha => ?_⟩
 ·have hm := (h.iff k).1 (by rw [hk]; rfl)
  rw [h.one k a hk, List.Nodup.count alPins_nodup, if_pos hm]; rfl
 ·exfalso
  have hs := h.good.same k
  rw [hk] at hs
  obtain ⟨i, _, e⟩ := alPins_mem.1 ((h.iff k).1 hs.symm)
  rw [e] at ha
  cases ha
theorem Inv.aliens (h : Inv s [] acc noAl G n) {ps : List Key3} (hp : ps.length <= 100) (hC : CacInv C ps al G s.b.last) (ht : s.t.l = []) : Inv { s with c := C } [alAg ps] acc al G n := by
 have h9 := h.enter (who := 9) (by intro h; cases h) O2
 refine ⟨h9.dir, h9.sto, ?_, ?_, fun x hx => ?_, h9.whos, h9.last, h9.n30, h9.few⟩
 ·show CacInv C (ps ++ []) al G s.b.last
  rw [Uw]; exact hC
 ·obtain ⟨t1, t2, t3, t4, t5, t6, t7, t8⟩ := h9.tab
  exact ⟨t1, t2, t3, t4, t5, fun id o ho => (by rw [ht] at ho; cases ho), t7, t8⟩
 ·rw [Vc] at hx
  rw [hx]
  exact ⟨fun p hp => (by cases hp), h.b0, hp, fun f hf => by cases hf⟩
theorem qjc {S S' : Sto} {cnt : Int -> Nat} {ch : Nat} (h : StoInv S cnt ch G) (h' : StoInv S' cnt ch G') (hG : ∀ id, id <= S.last -> G' id = G id) : S'.bytes = S.bytes ∧ S'.charged = S.charged := by
 refine ⟨?_, by rw [h'.chg, h.chg]⟩
 have hmap : ∀ l : List (Int × Kept), sumM (fun e : Kept => e.bs.length) l = sumF Prod.snd (l.map fun p : Int × Kept => (p.1, p.2.bs.length)) := by
  intro l
  unfold sumM
  induction l with
  | nil => rfl
  | cons p l ih => rw [Ux, sumF, sumF, ih]
 have hnd : ∀ l : List (Int × Kept), (keys l).Nodup -> (l.map fun p : Int × Kept => (p.1, p.2.bs.length)).Nodup := by
  intro l hl
  unfold keys at hl
  exact List.pairwise_map.2 (List.Pairwise.imp (R := fun a b : Int × Kept => a.1 ≠ b.1) (by intro a b hne e; exact hne (Prod.mk.inj e).1) (List.pairwise_map.1 hl))
 have hperm : ∀ {l m : List (Int × Nat)}, l.Perm m -> sumF Prod.snd l = sumF Prod.snd m := by
  intro l m hp
  induction hp with
  | nil => rfl
  | cons x _ ih => rw [sumF, sumF, ih]
  | swap x y l => rw [sumF, sumF, sumF, sumF]; omega
  | trans _ _ h1 h2 => exact h1.trans h2
 rw [h'.sum, h.sum, hmap, hmap]
 congr 1
 refine hperm ((List.perm_ext_iff_of_nodup (hnd _ h'.nd) (hnd _ h.nd)).2 fun x => ?_)
 have hbs : ∀ id e e', mget id S.l = some e -> mget id S'.l = some e' -> e.bs = e'.bs := by
  intro id e e' he he'
  have h1 := (h.has id e he).2.make
  have h2 := (h'.has id e' he').2.make
  rw [hG id (h.rng id (uk he)).2, h1] at h2
  exact Uk h2
 have hk : ∀ id, (mget id S.l).isSome = (mget id S'.l).isSome := by
  intro id
  rw [Bool.eq_iff_iff, <- h.pos id, <- h'.pos id]
 rw [Vb, Vb]
 constructor
 ·rintro ⟨⟨id, e'⟩, hm, rfl⟩
  have he' := ur h'.nd hm
  have := hk id
  rw [he'] at this
  obtain ⟨e, he⟩ := Vp.1 this
  refine ⟨(id, e), (gh h.nd).1 he, ?_⟩
  dsimp only
  rw [hbs id e e' he he']
 ·rintro ⟨⟨id, e⟩, hm, rfl⟩
  have he := ur h.nd hm
  have := hk id
  rw [he] at this
  obtain ⟨e', he'⟩ := Vp.1 this.symm
  refine ⟨(id, e'), (gh h'.nd).1 he', ?_⟩
  dsimp only
  rw [hbs id e e' he he']
theorem bf (hk : r.o.kind = 2) (hf : r.flag = false) (hfl : r.fails = 0) (hp : r.ph ≠ 1) (hQ : Quiet r s) : (r.read s).2.1.d = s.d ∧ (r.read s).2.1.t = s.t ∧ (r.read s).1.flag = false ∧ (r.read s).1.fails = 0 ∧ ((r.read s).2.2 = 1 -> (r.read s).1.over = r.over ∧ (r.read s).1.o = r.o ∧ (r.read s).1.ph ≠ 1) := by
 have hlv : ∀ (q : Run) (z : Shd), q.flag = false -> q.fails = 0 -> (q.leave z).2.d = z.d ∧ (q.leave z).2.t = z.t ∧ (q.leave z).1.flag = false ∧ (q.leave z).1.fails = 0 := by
  intro q z h1 h2
  unfold Run.leave
  dsimp only
  rw [h1, if_neg Vn]
  refine ⟨?_, ?_, rfl, h2⟩
  ·dsimp only; split <;> rfl
  ·dsimp only; split <;> rfl
 unfold Run.read
 by_cases p0 : r.ph = 0
 ·rw [if_pos p0]
  unfold Run.look
  rw [if_neg O0]
  cases hl : Dir.look s.d r.o.series with
  | none => exact ⟨rfl, rfl, hf, hfl, fun h => absurd h (show (0 : Int) ≠ 1 by decide)⟩
  | some sl =>
   dsimp only
   unfold Run.begin_
   by_cases ht : sl.there = false
   ·rw [if_pos ht]
    obtain ⟨l1, l2, l3, l4⟩ := hlv r s hf hfl
    exact ⟨l1, l2, l3, l4, fun h => absurd h (show (2 : Int) ≠ 1 by decide)⟩
   ·rw [if_neg ht]
    dsimp only
    generalize s.b.hold [] (sl.snap r.o.F r.o.To).parts = q
    obtain ⟨q1, q2⟩ := q
    cases q1 with
    | false =>
     obtain ⟨l1, l2, l3, l4⟩ := hlv { r with x := sl.snap r.o.F r.o.To } { s with b := q2 } hf hfl
     exact ⟨l1, l2, l3, l4, fun h => absurd h (show (3 : Int) ≠ 1 by decide)⟩
    | true => exact ⟨rfl, rfl, hf, hfl, fun _ => ⟨rfl, rfl, by show (if _ then (3 : Int) else 2) ≠ 1; split <;> decide⟩⟩
 ·rw [if_neg p0, if_neg hp]
  by_cases p2 : r.ph = 2
  ·rw [if_pos p2, Run.part_eq]
   by_cases c1 : ((r.cur r.o.series).step s.b s.c).2.2 ≠ 0
   ·rw [if_pos c1]
    dsimp only
    rw [if_pos c1]
    obtain ⟨l1, l2, l3, l4⟩ := hlv { r with one := some ((r.cur r.o.series).step s.b s.c).1 } { s with c := ((r.cur r.o.series).step s.b s.c).2.1 } hf hfl
    exact ⟨l1, l2, l3, l4, fun h => absurd h (show (3 : Int) ≠ 1 by decide)⟩
   ·rw [if_neg c1]
    by_cases c2 : ((r.cur r.o.series).step s.b s.c).1.done = true
    ·rw [if_pos c2]
     dsimp only
     rw [if_neg (fun h => h rfl)]
     exact ⟨rfl, rfl, hf, hfl, fun _ => ⟨rfl, rfl, by show (if _ then (3 : Int) else 2) ≠ 1; split <;> decide⟩⟩
    ·rw [if_neg c2]
     dsimp only
     rw [if_neg (fun h => h rfl)]
     exact ⟨rfl, rfl, hf, hfl, fun _ => ⟨rfl, rfl, by show (if _ then (3 : Int) else 2) ≠ 1; split <;> decide⟩⟩
  ·rw [if_neg p2, if_neg (by rw [hf]; decide)]
   obtain ⟨sl, q1, q2, q3⟩ := hQ hk hf p0
   rw [q1]
   dsimp only
   rw [if_pos ⟨q2, q3⟩]
   obtain ⟨l1, l2, l3, l4⟩ := hlv r s hf hfl
   exact ⟨l1, l2, l3, l4, fun h => absurd h (show (2 : Int) ≠ 1 by decide)⟩
theorem tm {m : Nat} {d : Int} (h : Solo r s m r' s' d) : r.over = false -> Run.bad r.o = false -> r.o.kind = 2 -> r.flag = false -> r.fails = 0 -> r.ph ≠ 1 -> Quiet r s -> s'.d = s.d ∧ s'.t = s.t := by
 induction h with
 | last hok hd h =>
  intro ho hb hk hf hfl hp hQ
  obtain ⟨k1, k2, _⟩ := bf hk hf hfl hp hQ
  rw [vx ho hb hk]
  exact ⟨k1, k2⟩
 | @more r s n r' s' d hok hd h ih =>
  intro ho hb hk hf hfl hp hQ
  obtain ⟨k1, k2, k3, k4, k5⟩ := bf hk hf hfl hp hQ
  have he := vx (s := s) ho hb hk
  rw [he] at hd ih
  obtain ⟨e1, e2, e3⟩ := k5 hd
  obtain ⟨g1, g2⟩ := bb hk hQ (fun h => absurd h hp) hd
  obtain ⟨i1, i2⟩ := ih (e1.trans ho) (by rw [e2]; exact hb) (by rw [e2]; exact hk) k3 k4 e3 g1
  exact ⟨i1.trans k1, i2.trans k2⟩
end
section
variable {s s' : Shd} {a : Ag} {A A' : List Ag} {acc acc' : List SlotV} {al : Int -> Bool} {G G' : Int -> Blb} {n n' k i j m f : Nat} {r r' : Run} {who d b : Int} {o : Opr} {C : Cac} {S : Sto} {sl : SlotV} {V : Nat -> Nat} {ps : List Key3}
structure FullC (C : Cac) : Prop where
 good : ∃ N, C.Good N
 no : ∀ k : Key3, k.series = 0 -> C.pins k = none
 full : C.clk.most <= (C.clk.res.length : Int)
 nz : ∀ j a, C.pins j = some a -> a ≠ 0
theorem AlC.full (h : AlC C (f : Int) f) : FullC C := by
 refine ⟨⟨_, h.good⟩, fun k hk => ?_, ?_, fun j a hj => ?_⟩
 ·cases hp : C.pins k with
  | none => rfl
  | some a =>
   obtain ⟨i, _, e⟩ := alPins_mem.1 ((h.iff k).1 (by rw [hp]; rfl))
   rw [e] at hk
   cases hk
 ·rw [h.most]
  have := nodup_sub_len (l := alPins f) (m := keys C.clk.res) alPins_nodup fun k hk => by
   have h1 := (h.iff k).2 hk
   cases hp : C.pins k with
   | none => rw [hp] at h1; cases h1
   | some a => exact uk hp
  rw [alPins_len] at this
  unfold keys at this
  rw [Ve] at this
  omega
 ·have := h.one j a hj; omega
def Early (x : Tk) : Prop := x.PhA ∨ (∃ c n b, x.PhB c n b) ∨ ∃ o, x.PhC o
theorem rj (hC : FullC C) {x : Tk} (hk : x.key.series = 0) (h : Early x) : (x.step S C).2.2 ≠ 0 ∨ ((x.step S C).2.2 = 0 ∧ (x.step S C).2.1 = C ∧ (x.step S C).1.key = x.key ∧ (x.step S C).1.done = false ∧ Early (x.step S C).1) := by
 obtain ⟨N, hg⟩ := hC.good
 have hn := hC.no _ hk
 rcases h with h | ⟨c, n, b, h⟩ | ⟨o, h⟩
 ·have hget : (C.get x.key).2 = none := by rw [(Cac.get_good hg x.key).2.2.2.1]; exact Cac.Good.norow hg hn
  cases hb : mget x.key.blob S.l with
  | none =>
   refine .inl ?_
   rw [Tk.stepA h]
   unfold Tk.begin_
   rw [hget]
   dsimp only
   rw [hb]
   show (7 : Int) ≠ 0
   decide
  | some e =>
   obtain ⟨e1, e2⟩ := Tk.stepA_miss (S := S) h hget hb
   rw [e1]
   exact .inr ⟨rfl, rfl, rfl, e2.done, .inr (.inl ⟨_, _, _, e2⟩)⟩
 ·obtain ⟨x', e, k1, _, _, c1, c2⟩ := Tk.stepB (S := S) (C := C) h
  rw [e]
  refine .inr ⟨rfl, rfl, k1, ?_⟩
  by_cases hr : 4 < n
  ·exact ⟨(c1 hr).done, .inr (.inl ⟨_, _, _, c1 hr⟩)⟩
  ·exact ⟨(c2 O0).done, .inr (.inr ⟨_, c2 O0⟩)⟩
 ·rw [Tk.stepC h]
  refine .inl ?_
  cases o with
  | none => show (7 : Int) ≠ 0; decide
  | some L =>
   unfold Tk.putRes
   dsimp only
   rw [Cac.put_full hg hn hC.full hC.nz, if_neg Vn]
   show (6 : Int) ≠ 0
   decide
structure BI (C : Cac) (r : Run) (s : Shd) : Prop where
 over : r.over = false
 bad : Run.bad r.o = false
 kind : r.o.kind = 2
 ser : r.o.series = 0
 ph : r.ph = 2
 i : r.i = 0
 parts : r.x.parts ≠ []
 c : s.c = C
 key : (r.cur r.o.series).key.series = 0
 early : Early (r.cur r.o.series)
theorem BI.step (hC : FullC C) (h : BI C r s) : (r.step s).2.2 ≠ 2 ∧ ((r.step s).2.2 = 1 -> BI C (r.step s).1 (r.step s).2.1) := by
 obtain rfl := h.c
 rw [vx h.over h.bad h.kind]
 unfold Run.read
 rw [if_neg (by rw [h.ph]; decide), if_neg (by rw [h.ph]; decide), if_pos h.ph, Run.part_eq]
 rcases rj (S := s.b) hC h.key h.early with hne | ⟨e0, e1, e2, e3, e4⟩
 ·rw [if_pos hne]
  dsimp only
  rw [if_pos hne]
  exact ⟨(show (3 : Int) ≠ 2 by decide), fun hh => absurd hh (show (3 : Int) ≠ 1 by decide)⟩
 ·rw [if_neg (fun hn => hn e0), if_neg (by rw [e3]; decide)]
  dsimp only
  rw [if_neg (fun hn => hn rfl)]
  refine ⟨(show (1 : Int) ≠ 2 by decide), fun _ => ⟨h.over, h.bad, h.kind, h.ser, ?_, h.i, h.parts, e1, e2.symm ▸ h.key, e4⟩⟩
  refine if_neg (fun hz => h.parts ?_)
  rw [h.i] at hz
  exact List.length_eq_zero_iff.1 O0
theorem qg0 (hC : FullC C) (h : Solo r s m r' s' d) : BI C r s -> d ≠ 2 := by
 induction h with
 | last hok hd h =>
  intro hb
  rw [<- hd]
  exact (hb.step hC).1
 | more hok hd h ih => exact fun hb => ih ((hb.step hC).2 hd)
theorem bo (hlk : Dir.look s.d o.series = some sl) (hbad : Run.bad o = false) (hk : o.kind = 2) : (Run.new who o).step s = (Run.new who o).begin_ s sl := by
 rw [vx rfl hbad hk]
 unfold Run.read
 rw [if_pos (show (Run.new who o).ph = 0 from rfl)]
 unfold Run.look
 rw [if_neg (show ¬ (Run.new who o).fails ≥ 3 by show ¬ (0 : Int) ≥ 3; decide), show Dir.look s.d (Run.new who o).o.series = some sl from hlk]
theorem zh (ht : sl.there = true) : (∃ b, r.begin_ s sl = ({ r with x := sl.snap r.o.F r.o.To, held := true, ph := if (sl.snap r.o.F r.o.To).parts.length = 0 then 3 else 2 }, { s with b := b }, 1)) ∨ ((r.begin_ s sl).2.2 = 3 ∧ (sl.snap r.o.F r.o.To).parts ≠ []) := by
 unfold Run.begin_
 rw [if_neg (by rw [ht]; decide)]
 dsimp only
 cases hps : (sl.snap r.o.F r.o.To).parts with
 | nil => exact .inl ⟨_, rfl⟩
 | cons p l =>
  generalize s.b.hold [] (p :: l) = z
  obtain ⟨z1, z2⟩ := z
  cases z1 with
  | true => exact .inl ⟨_, rfl⟩
  | false => exact .inr ⟨rfl, fun h => by cases h⟩
theorem rg (hC : FullC s.c) (hlk : Dir.look s.d o.series = some sl) (ht : sl.there = true) (hp : (sl.snap o.F o.To).parts ≠ []) (hbad : Run.bad o = false) (hk : o.kind = 2) (hs : o.series = 0) (h : Solo (Run.new who o) s m r' s' d) : d ≠ 2 := by
 have e := bo (who := who) hlk hbad hk
 cases h with
 | last hok hd h =>
  rw [e] at hd
  rcases zh (r := Run.new who o) (s := s) ht with ⟨b, e2⟩ | ⟨e2, _⟩
  ·rw [e2] at hd
   rw [<- hd]; show (1 : Int) ≠ 2; decide
  ·rw [e2] at hd
   rw [<- hd]; decide
 | more hok hd h =>
  rw [e] at hd h
  rcases zh (r := Run.new who o) (s := s) ht with ⟨b, e2⟩ | ⟨e2, _⟩
  ·rw [e2] at h
   refine qg0 hC h ⟨rfl, hbad, hk, hs, if_neg (fun hz => hp (List.length_eq_zero_iff.1 hz)), rfl, hp, rfl, ?_, .inl ?_⟩
   ·exact hs
   ·exact Tk.new_A _ _ _ _ _
  ·rw [e2] at hd; cases hd
theorem be (ho : r.over = false) (hbad : Run.bad r.o = false) (hk : r.o.kind = 2) (hp : r.ph = 3) (hf : r.flag = false) (hlk : Dir.look s.d r.o.series = some sl) (h1 : sl.life = r.x.life) (h2 : sl.ver = r.x.ver) : (r.step s).2.2 = 2 := by
 rw [vx ho hbad hk]
 unfold Run.read
 rw [if_neg (by rw [hp]; decide), if_neg (by rw [hp]; decide), if_neg (by rw [hp]; decide), if_neg (by rw [hf]; decide), hlk]
 dsimp only
 rw [if_pos ⟨h1, h2⟩]
 rfl
theorem rv (hlk : Dir.look s.d o.series = some sl) (ht : sl.there = true) (hp : (sl.snap o.F o.To).parts = []) (hbad : Run.bad o = false) (hk : o.kind = 2) (h : Solo (Run.new who o) s m r' s' d) : d = 2 := by
 have e := bo (who := who) hlk hbad hk
 have hp' : (sl.snap (Run.new who o).o.F (Run.new who o).o.To).parts = [] := hp
 obtain ⟨b, e2⟩ : ∃ b, (Run.new who o).begin_ s sl = _ := by
  rcases zh (r := Run.new who o) (s := s) ht with h | ⟨_, h⟩
  ·exact h
  ·exact absurd hp h
 rw [e2] at e
 cases h with
 | last hok hd h =>
  rw [e] at hd
  have : (1 : Int) = d := hd
  omega
 | more hok hd h =>
  rw [e] at h
  have hq := be (r := { Run.new who o with x := sl.snap (Run.new who o).o.F (Run.new who o).o.To, held := true, ph := if (sl.snap (Run.new who o).o.F (Run.new who o).o.To).parts.length = 0 then 3 else 2 }) (s := { s with b := b }) (sl := sl) rfl hbad hk (if_pos (by rw [hp']; rfl)) rfl hlk rfl rfl
  cases h with
  | last hok hd h => exact hd.symm.trans hq
  | more hok hd h => rw [hq] at hd; cases hd
theorem Inv.slot0 (h : Inv s A acc al G n) (hA : A.flatMap Ag.flags = []) (hj : j < 16) : ∃ p, s.d[j]? = some p ∧ Dir.look s.d (j : Int) = some p.s ∧ SlotOk G s.b.last p.s ∧ acc[j]? = some p.s ∧ (abs s G).ser (j : Int) = p.s.tells G := by
 obtain ⟨ix, p, e, hi16, hp, hat, ⟨ht, _⟩ | ⟨ht, hlk, hv, hacc⟩⟩ := h.look (id := (j : Int)) O0 O0
 ·obtain ⟨_, f, hf, _⟩ := h.dir.busy ix p hp ht
  rw [hA] at hf; cases hf
 ·obtain rfl : ix = j := by omega
  refine ⟨p, hp, hlk, (h.dir.ok ix p hp).1, hacc, ?_⟩
  show serOf s.d G _ = _
  unfold serOf
  rw [hat]
theorem Inv.acc_eq (h : Inv s A acc al G n) (h' : Inv s' A' acc' al G' n') (hA : A.flatMap Ag.flags = []) (hA' : A'.flatMap Ag.flags = []) (hd : s'.d = s.d) : acc' = acc := by
 refine List.ext_getElem? fun j => ?_
 by_cases hj : j < 16
 ·obtain ⟨p, hp, _, _, ha, _⟩ := h.slot0 hA hj
  obtain ⟨q, hq, _, _, hb, _⟩ := h'.slot0 hA' hj
  rw [hd, hp] at hq
  rw [ha, hb, Uk hq]
 ·rw [Vk (by rw [h'.dir.alen]; omega), Vk (by rw [h.dir.alen]; omega)]
theorem fw {L : List Smp} {c : Bool} (h : sl.tells G = some (c, L)) : sl.there = true ∧ sl.all G = L := by
 unfold SlotV.tells at h
 cases hx : sl.there with
 | false => rw [hx] at h; cases h
 | true =>
  rw [hx, if_pos rfl] at h
  exact ⟨rfl, congrArg Prod.snd (Uk h)⟩
theorem ma (hall : sl.all G = smpN V 20) (h4 : sl.opn.length = 4) : rowsOf G sl.chunks = smpN V 16 := by
 have hl := congrArg List.length hall
 unfold SlotV.all at hl hall
 rw [Ua, smpN_len, h4] at hl
 have h1 := congrArg (List.take 16) hall
 rw [Wv O0, Uv O0] at h1
 rw [h1]
 unfold smpN
 rw [<- List.map_take, List.take_range]
 rfl
theorem tp (hs : SlotOk G b sl) (hall : sl.all G = smpN V 20) (h4 : sl.opn.length = 4) {q : Int} (h0 : 0 <= q) (hq : q <= 15) : (sl.snap q 100).parts ≠ [] := by
 have hr := ma hall h4
 have hm : (⟨15, (V 15 : Int)⟩ : Smp) ∈ rowsOf G sl.chunks := by rw [hr]; exact Uj (smpN_get (V := V) (i := 16) (j := 15) O0)
 unfold rowsOf at hm
 obtain ⟨p, hp, hx⟩ := Xf.1 hm
 have hok := hs.prts p hp
 obtain ⟨e1, e2⟩ := xn hok.rise _ hx
 rw [<- hok.frm] at e1
 rw [<- hok.upto] at e2
 dsimp only at e1 e2
 intro e
 have hin : p ∈ (sl.snap q 100).parts := Xo.2 ⟨hp, by rw [decide_eq_true_eq]; omega⟩
 rw [e] at hin
 cases hin
theorem tf (hs : SlotOk G b sl) (hall : sl.all G = smpN V 20) (h4 : sl.opn.length = 4) : (sl.snap 16 100).parts = [] := by
 have hr := ma hall h4
 refine List.filter_eq_nil_iff.2 fun p hp hc => ?_
 rw [decide_eq_true_eq] at hc
 have hok := hs.prts p hp
 have : lastT (G p.blob).L < 16 := lastT_lt hok.ne fun x hx => by
  have hm : x ∈ smpN V 16 := by rw [<- hr]; exact Xf.2 ⟨p, hp, hx⟩
  exact (smpN_T x hm).2
 have := hok.upto
 omega
def ones : Nat -> Nat := fun _ => 1
def opBy (q : Int) : Opr := ⟨2, 0, 0, 0, 0, q, 100, 0⟩
theorem i7 : ∀ q : Fin 17, (within (smpN ones 20) ((q : Nat) : Int) 100).length = 20 - (q : Nat) := by decide
structure BusI (s : Shd) (G : Int -> Blb) (i : Nat) : Prop where
 inv : ∃ acc n, n <= 6 * i ∧ Inv s [] acc noAl G n
 tags : Tags1 G s.b.last
 last : s.b.last <= (i : Int)
 ser : (abs s G).ser 0 = if i = 0 then none else some (false, smpN ones i)
 its : (abs s G).its = []
 opn : ∃ p, s.d[0]? = some p ∧ p.s.opn.length = i % 8
 bud : s.b.budget = 1048576
theorem BusI.new (f : Int) : BusI (Shd.new f 1048576) G0 0 :=
 ⟨⟨_, 0, Ug _, np f _ _⟩, fun id h1 h2 => (by have : id <= 0 := h2; omega), Uu _, qge f _ 0, rfl, ⟨⟨SlotV.zero, false, 0⟩, rfl, rfl⟩, rfl⟩
theorem BusI.step (h : BusI s G i) (hi : i < 20) : ∃ r' s' G', Solo (Run.new 0 (opA 0 i 1)) s 3 r' s' 2 ∧ r'.over = true ∧ r'.holds = 0 ∧ r'.res.list.length <= 1073741824 ∧ s'.c = s.c ∧ BusI s' G' (i + 1) := by
 obtain ⟨acc, n, hn, hI⟩ := h.inv
 have hlast := h.last
 have hbud := h.bud
 obtain ⟨r1, r2, r3, s1, s2, s3, acc1, acc2, acc3, G1, G2, G3, a1, a2, ⟨k1, h1, k2, h2, k3, h3, hov, hho, ho1, ho2⟩, _, ⟨_, _, hf2, hr2, _⟩, hI3, ht3, hk3, hl3, _, _, hab⟩ :=
  fx (who := 0) (o := opA 0 i 1) (ser := 0) (T := (i : Int)) (V := 1) (L := smpN ones i) (e := decide (i = 0)) hI h.tags (by intro h; cases h) O2 O2 O2 rfl (opA_wf O2 O2 O0 O2)
   (by rw [h.ser]; simp only [decide_eq_true_eq]) (fun he => by rw [decide_eq_true_eq] at he; rw [he]; rfl)
   (fun he => by
    rw [decide_eq_false_iff_not] at he
    exact lastT_lt (fun e => he (by have := smpN_len (V := ones) (i := i); rw [e] at this; simpa using this.symm)) fun x hx => (smpN_T x hx).2)
   (fun x hx => by cases hx) O0 O0 O0
 obtain ⟨p, hp, hop⟩ := h.opn
 obtain ⟨p', hp', hlk, hsok, _, _⟩ := hI.slot0 rfl (j := 0) O2
 obtain rfl : p' = p := by rw [hp] at hp'; exact (Uk hp').symm
 obtain ⟨hres, hc, j, q, hj, _, hq, hql⟩ := qgr (o := opA 0 i 1) (who := 0) (vw ⟨O_c, O_c⟩ O2 O2) rfl hlk hsok h1 h2 h3 hf2 ho2 hr2
 have hj0 : ((0 : Nat) : Int) = (j : Int) := hj
 obtain rfl : j = 0 := by omega
 refine ⟨r3, s3, G3, .more k1 (by rw [h1]) (by rw [h1]; exact .more k2 (by rw [h2]) (by rw [h2]; have := Solo.last k3 (d := 2) (by rw [h3]) (.inl rfl); rw [h3] at this; exact this)), hov, hho, by rw [hres]; decide, hc, ⟨acc3, n + 6, O_o, hI3⟩, ht3, O_o, ?_, ?_, ⟨q, hq, by rw [hql, hop]; omega⟩, hk3.budget.trans hbud⟩
 ·rw [hab, if_neg O0, smpN_succ]
  show upS (abs s G).ser 0 (some (false, smpN ones i ++ [⟨(i : Int), ((1 : Nat) : Int)⟩])) 0 = _
  exact upS_at _ _ _
 ·rw [hab]; exact h.its
structure BusR (s : Shd) (G : Int -> Blb) (ps : List Key3) (f k : Nat) : Prop where
 inv : ∃ acc n, n <= 1000 * k ∧ Inv s [alAg ps] acc al7 G n
 tags : Tags1 G s.b.last
 last : s.b.last <= 20
 ser : (abs s G).ser 0 = some (false, smpN ones 20)
 opn : ∃ p, s.d[0]? = some p ∧ p.s.opn.length = 4
 most : s.c.clk.most = (f : Int)
theorem BusR.of (h : BusI s G 20) (hC : AlC C (f : Int) f) (hf : f <= 4) : BusR { s with c := C } G (alPins f) f 1 := by
 obtain ⟨acc, n, hn, hI⟩ := h.inv
 have hits : itsOf s.t.l G = [] := h.its
 exact ⟨⟨acc, n, O_o, hI.aliens (by rw [alPins_len]; omega) (hC.inv G _) (List.map_eq_nil_iff.1 hits)⟩, h.tags, h.last, h.ser, h.opn, hC.most⟩
theorem BusR.unpin (h : BusR s G (alKey 0 :: ps) f k) : BusR { s with c := (s.c.unpin (alKey 0)).1 } G ps f k := by
 obtain ⟨acc, n, hn, hI⟩ := h.inv
 have hc : CacInv s.c (alKey 0 :: (ps ++ [])) al7 G s.b.last := hI.cac
 obtain ⟨c1, c2⟩ := hc.unpin1
 have ha := hI.ags _ (Vc.2 rfl)
 have hp := ha.pins
 refine ⟨⟨acc, n, hn, hI.dir, hI.sto, c1, hI.tab, fun x hx => ?_, hI.whos, hI.last, hI.n30, hI.few⟩, h.tags, h.last, h.ser, h.opn, c2.trans h.most⟩
 rw [Vc] at hx
 rw [hx]
 exact ⟨fun p hp => (by cases hp), ha.few, by have : (alKey 0 :: ps).length <= 100 := hp; rw [Ui] at this; show ps.length <= 100; omega, fun f hf => by cases hf⟩
theorem opBy_wf {q : Int} (h0 : 0 <= q) (h1 : q <= 16) : (opBy q).Wf :=
 ⟨by show I64 2; unfold I64; omega, by show I64 0; unfold I64; omega, by show I64 0; unfold I64; omega, by show I64 0; unfold I64; omega, by show (0 : Nat) < 18446744073709551616; decide, by show I64 q; unfold I64; omega, by show I64 100; unfold I64; omega, by show I64 0; unfold I64; omega⟩
theorem BusR.go (h : BusR s G ps f k) (hk : k <= 100) {q : Int} (h0 : 0 <= q) (h1 : q <= 16) : ∃ m r' s' d G', Solo (Run.new 0 (opBy q)) s m r' s' d ∧ m <= 200 ∧ r'.over = true ∧ r'.holds = 0 ∧ r'.res.list.length <= 1073741824 ∧ BusR s' G' ps f (k + 1) ∧ s'.b.bytes = s.b.bytes ∧ s'.b.charged = s.b.charged ∧
  ((d = 2 ∧ r'.res = ⟨0, 0, within (smpN ones 20) q 100⟩) ∨ (d = 3 ∧ r'.res = ⟨6, 0, []⟩ ∧ AllPinned [alAg ps] s.c)) := by
 obtain ⟨acc, n, hn, hI⟩ := h.inv
 have hlast := h.last
 have hneed := nn hI (Run.new 0 (opBy q))
 have hb0 : 0 <= s.b.last := hI.sto.ok.l0
 have hbad : Run.bad (opBy q) = false := vw ⟨O_c, O_c⟩ O2 O2
 have hnb : ¬ Blk [alAg ps] (opBy q) := by
  rintro (⟨_, _, x, hx, g, hg, _⟩ | ⟨hk, _⟩)
  ·rw [Vc] at hx
   rw [hx] at hg; cases hg
  ·rcases hk with hk | hk <;> exact absurd hk (by show ¬ (2 : Int) = _; decide)
 obtain ⟨m, r', s', d, acc', G', g1, g2, g3, g4, g5, g6, g7, g8, g9, g10⟩ := bn hI (who := 0) (o := opBy q) (by
  intro hm
  have : (0 : Int) = 9 := Vc.1 hm
  omega) (by show 1 + 1 <= 100; decide) (opBy_wf h0 h1) (fun _ => by show al7 0 = false; rfl) hnb O0 O0 h.tags.cod
 obtain ⟨e1, e2⟩ := tm g1 rfl hbad rfl rfl rfl (by show (0 : Int) ≠ 1; decide) (fun _ _ hp => absurd rfl hp)
 have hacc := hI.acc_eq g4 rfl rfl e1
 have hsto := g4.sto
 rw [hacc, e2] at hsto
 obtain ⟨b1, b2⟩ := qjc hI.sto hsto g5.same
 have htodo : (Run.new 0 (opBy q)).todo = 0 := rfl
 have hact : (abs s G).act (opBy q) = (abs s G, ⟨0, 0, within (smpN ones 20) q 100⟩) := by
  rw [vh hbad (by show ¬ (2 : Int) = 6; decide) (by show ¬ (2 : Int) = 7; decide), show (opBy q).series = 0 from rfl, h.ser]
  rfl
 have habs : abs s' G' = abs s G := by
  cases g10 with
  | point ha =>
   have ha' : (abs s G).act (opBy q) = (abs s' G', r'.res) := ha
   rw [hact] at ha'
   exact (congrArg Prod.fst ha').symm
  | full _ _ _ hk =>
   exfalso
   rcases hk with hk | hk | hk <;> exact absurd hk (by show ¬ (2 : Int) = _; decide)
  | busy ha => exact ha
 refine ⟨m, r', s', d, G', g1, O_o, g7, g8, O_o, ⟨⟨acc', n + 2 * m, O_o, g4⟩, h.tags.step g5, O_o, by rw [habs]; exact h.ser, by rw [e1]; exact h.opn, g5.most.trans h.most⟩, b1, b2, ?_⟩
 cases g10 with
 | point ha =>
  have ha' : (abs s G).act (opBy q) = (abs s' G', r'.res) := ha
  rw [hact] at ha'
  exact .inl ⟨rfl, (congrArg Prod.snd ha').symm⟩
 | full _ _ _ hk =>
  exfalso
  rcases hk with hk | hk | hk <;> exact absurd hk (by show ¬ (2 : Int) = _; decide)
 | busy _ hr _ hc => exact .inr ⟨rfl, hr, hc⟩
theorem BusR.slot (h : BusR s G ps f k) : ∃ sl : SlotV, Dir.look s.d 0 = some sl ∧ SlotOk G s.b.last sl ∧ sl.there = true ∧ sl.all G = smpN ones 20 ∧ sl.opn.length = 4 := by
 obtain ⟨acc, n, hn, hI⟩ := h.inv
 obtain ⟨p, hp, hop⟩ := h.opn
 obtain ⟨p', hp', hlk, hsok, _, htl⟩ := hI.slot0 rfl (j := 0) O2
 obtain rfl : p' = p := by rw [hp] at hp'; exact (Uk hp').symm
 obtain ⟨t1, t2⟩ := fw (htl.symm.trans h.ser)
 exact ⟨_, hlk, hsok, t1, t2, hop⟩
theorem BusR.busy (h : BusR s G ps f k) (hC : FullC s.c) {q : Int} (h0 : 0 <= q) (h1 : q <= 15) (hS : Solo (Run.new 0 (opBy q)) s m r' s' d) : d ≠ 2 := by
 obtain ⟨sl, h2, h3, h4, h5, h6⟩ := h.slot
 exact rg hC h2 h4 (tp h3 h5 h6 h0 h1) (vw ⟨O_c, O_c⟩ O2 O2) rfl rfl hS
theorem BusR.ans (h : BusR s G ps f k) (hS : Solo (Run.new 0 (opBy 16)) s m r' s' d) : d = 2 := by
 obtain ⟨sl, h2, h3, h4, h5, h6⟩ := h.slot
 exact rv h2 h4 (tf h3 h5 h6) (vw ⟨O_c, O_c⟩ O2 O2) rfl hS
theorem BusR.free (h : BusR s G ps f k) (hp : ps.length < f) : ¬ AllPinned [alAg ps] s.c := by
 rintro ⟨ks, k1, k2, k3⟩
 have := nodup_sub_len (l := ks) (m := ps) k1 fun x hx => by
  have hx : x ∈ ps ++ [] := k3 x hx
  rw [Uw] at hx
  exact hx
 have := h.most
 omega
theorem alPins_cons (hf : 1 <= f) : ∃ ps, alPins f = alKey 0 :: ps ∧ ps.length < f := by
 cases f with
 | zero => omega
 | succ f =>
  unfold alPins
  rw [List.range_succ_eq_map]
  exact ⟨_, rfl, by rw [Ve, Ve, Zc]; omega⟩
end
section
section
variable {w0 w : World} {l : List HProp}
theorem law22_ProgBusy (hT : Tz w0) (fr fq : Int) (h : St w0 l w) :
  Ret prog 4 [.iz fr, .iz fq] w fun v w' => v = .bool true ∧ St w0 l w' := by
 obtain ⟨fm, hfm⟩ := Int.eq_ofNat_of_zero_le (show 0 <= fr % 2 ^ 2 by omega)
 obtain ⟨ff, hff⟩ : ∃ ff, fm + 1 = ff := ⟨_, rfl⟩
 obtain ⟨qm, hqm⟩ := Int.eq_ofNat_of_zero_le (show 0 <= fq % 2 ^ 4 by omega)
 have hf4 : 1 <= ff ∧ ff <= 4 := by omega
 have hq15 : qm <= 15 := by omega
 refine en func4 results4 ntmps4 ?_
 refine Y12 ?_; refine Y8 ?_
 refine r_v (qr (v' := .iz (fm : Int)) (zb rfl rfl) (congrArg Value.iz ((w7 2 O2 O2).trans hfm))) rfl ?_
 refine Y1f ?_
 refine qz (.iz (ff : Int)) O19 ?_
 refine Y3t ?_
 refine r_c rfl (qg rfl (yj (ff : Int) 1048576 h) ?_)
 clear h
 rintro _ w ⟨p, rfl, h⟩
 refine Y4y ?_
 refine r_c rfl (qg rfl (law22_whole h) ?_)
 clear h
 rintro _ w ⟨rfl, h⟩
 refine Y41 ?_
 refine qt (Γ := Shd) (fun _ => [(0, .iz (ff : Int)), (1, .iz fq), (5, .pz p)]) (fun s w => (∃ G, BusI s G 20) ∧ s.c = Cac.new (ff : Int) ∧ St w0 (IsSh p s :: l) w) ?_ ?_
 ·refine Y4d ?_
  refine jx (Γ := Nat × Shd) (fun g => [(0, .iz (ff : Int)), (1, .iz fq), (5, .pz p), (6, .iz (g.1 : Int))])
   (fun g w => g.1 <= 20 ∧ (∃ G, BusI g.2 G g.1) ∧ g.2.c = Cac.new (ff : Int) ∧ St w0 (IsSh p g.2 :: l) w) (fun g => 20 - g.1) (0, Shd.new (ff : Int) 1048576) zz4 ⟨Ud _, ⟨_, BusI.new _⟩, rfl, h⟩ ?_
  clear h
  rintro ⟨i, s⟩ w e ⟨hi1, ⟨G, hF⟩, hc, h⟩
  dsimp only at hi1 hF hc h ⊢
  refine Y1w ?_; refine Y1u ?_
  by_cases hlt : i < 20
  rotate_left
  ·refine qz (.bool false) O4 ?_
   refine qv (qe rfl (ju ?_))
   obtain rfl : i = 20 := by omega
   exact Eq.mpr (if_pos rfl) ⟨s, zz3, ⟨G, hF⟩, hc, h⟩
  refine qz (.bool true) O3 ?_
  refine Yd ?_; refine Yl ?_
  obtain ⟨r', s', G', k1, k3, k4, k5, k6, k7⟩ := hF.step hlt
  refine qt (Γ := Unit) (fun _ => [(0, .iz (ff : Int)), (1, .iz fq), (5, .pz p), (6, .iz (i : Int))]) (fun _ w => St w0 (IsSh p s' :: l) w) (wy ?_) ?_
  rotate_left
  ·clear h
   rintro _ w e h
   refine Y2z ?_
   refine qz (.iz ((i + 1 : Nat) : Int)) O19 ?_
   refine Y6 ?_
   exact qv ⟨(i + 1, s'), zz4, ⟨O_d, ⟨G', k7⟩, k6.trans hc, h⟩, O_d⟩
  refine Y40 ?_
  refine r_v (qc (r := (opA 0 i 1).C) rfl) rfl ?_
  refine r_c rfl (qg rfl (law22_alone hT k1 O0 k3 k4 k5 h) ?_)
  clear h
  rintro _ w ⟨la, lc, rfl, h⟩
  refine Y2o ?_
  refine r_c rfl (qp h fun b w h => ?_)
  refine r_c rfl (qy (vs := r'.res.C la lc) 0 h rfl rfl rfl rfl rfl rfl rfl fun w h => ?_)
  refine Y1n ?_; refine Y1 ?_; refine Y1g ?_
  exact qv (qe rfl (qa ⟨(), zz4, h.drop.drop⟩))
 clear h
 rintro s w e ⟨⟨G, hF⟩, hc, h⟩
 have hA0 : AlC s.c (ff : Int) 0 := by
  rw [hc]
  have := AlC.new (ff : Int)
  rw [show min (max (ff : Int) 1) 1000 = (ff : Int) from by omega] at this
  exact this
 refine qt (Γ := Cac) (fun _ => [(1, .iz fq), (5, .pz p)]) (fun C w => AlC C (ff : Int) ff ∧ St w0 (IsSh p { s with c := C } :: l) w) ?_ ?_
 ·refine Y4d ?_
  refine jx (Γ := Nat × Cac) (fun g => [(0, .iz (ff : Int)), (1, .iz fq), (5, .pz p), (10, .iz (g.1 : Int))])
   (fun g w => g.1 <= ff ∧ AlC g.2 (ff : Int) g.1 ∧ St w0 (IsSh p { s with c := g.2 } :: l) w) (fun g => ff - g.1) (0, s.c) zz4 ⟨Ud _, hA0, h⟩ ?_
  clear h hA0
  rintro ⟨j, C⟩ w e ⟨hj1, hA, h⟩
  dsimp only at hj1 hA h ⊢
  refine Y1w ?_; refine Y0 ?_; refine Y1u ?_
  by_cases hlt : j < ff
  rotate_left
  ·refine qz (.bool false) O4 ?_
   refine qv (qe rfl (ju ?_))
   obtain rfl : j = ff := by omega
   exact Eq.mpr (if_pos rfl) ⟨C, zz2, hA, h⟩
  refine qz (.bool true) O3 ?_
  refine Yd ?_; refine Yl ?_
  obtain ⟨q1, q2, q3, q4⟩ := hA.put O0
  refine qt (Γ := Unit) (fun _ => [(0, .iz (ff : Int)), (1, .iz fq), (5, .pz p), (10, .iz (j : Int))]) (fun _ w => St w0 (IsSh p { s with c := ((C.put (alKey j) []).1.pinN (alKey j) 1).1 } :: l) w) (wy ?_) ?_
  rotate_left
  ·clear h
   rintro _ w e h
   refine Y2z ?_
   refine qz (.iz ((j + 1 : Nat) : Int)) O19 ?_
   refine Y6 ?_
   exact qv ⟨(j + 1, _), zz4, ⟨O_d, q4, h⟩, O_d⟩
  refine Ym ?_
  refine r_c rfl (qg rfl (yt h) ?_)
  clear h
  rintro _ w ⟨q, rfl, h⟩
  replace h : St w0 (IsCache q.c C :: ShPt p q :: IsDir q.d s.d :: IsStore q.b s.b :: IsTab q.t s.t.V :: l) w := h.f 2
  refine Y0 ?_
  refine r_v (qc (r := (alKey j).C) rfl) rfl ?_
  refine r_c rfl (qg rfl (cn (k := alKey j) (sl := none) (c0 := 0) (L := []) (hA.good.ok O0) Reads.nil O2 h) ?_)
  clear h
  rintro _ w ⟨rfl, h⟩
  rw [q1]
  replace h : St w0 (IsSh p { s with c := (C.put (alKey j) []).1 } :: l) w := St.shd.2 ⟨q, h.o [1, 2, 0, 3, 4]⟩
  refine Yx ?_; refine Y3f ?_
  refine r_c rfl (qg rfl (yt h) ?_)
  clear h
  rintro _ w ⟨q, rfl, h⟩
  replace h : St w0 (IsCache q.c (C.put (alKey j) []).1 :: ShPt p q :: IsDir q.d s.d :: IsStore q.b s.b :: IsTab q.t s.t.V :: l) w := h.f 2
  refine Y33 ?_
  refine r_v (qc (r := (alKey j).C) rfl) rfl ?_
  refine Yc ?_
  refine r_c rfl (qg rfl (cm (k := alKey j) (q3.ok O0) h) ?_)
  clear h
  rintro _ w ⟨rfl, h⟩
  rw [q2]
  replace h : St w0 (IsSh p { s with c := ((C.put (alKey j) []).1.pinN (alKey j) 1).1 } :: l) w := St.shd.2 ⟨q, h.o [1, 2, 0, 3, 4]⟩
  refine Y3u ?_
  exact qv (qe rfl (qa ⟨(), zz4, h⟩))
 clear h hA0
 rintro C w e ⟨hA, h⟩
 have hB := BusR.of hF hA O0
 have hfull : FullC { s with c := C }.c := hA.full
 generalize { s with c := C } = s at h hB hfull
 clear hF hA hc
 obtain ⟨m1, r1, s1, d1, G1, a1, a2, a3, a4, a5, a6, a7, a8, a9⟩ := hB.go O2 (q := (qm : Int)) O0 O0
 have ha : r1.res = ⟨6, 0, []⟩ := by
  rcases a9 with ⟨h1, _⟩ | ⟨_, h2, _⟩
  ·exact absurd h1 (hB.busy hfull O0 O0 a1)
  ·exact h2
 obtain ⟨m2, r2, s2, d2, G2, b1, b2, b3, b4, b5, b6, b7, b8, b9⟩ := a6.go O2 (q := 16) O2 O2
 have hb : r2.res = ⟨0, 0, within (smpN ones 20) 16 100⟩ := by
  rcases b9 with ⟨_, h2⟩ | ⟨h1, _⟩
  ·exact h2
  ·have := a6.ans b1; omega
 obtain ⟨ps, hps, hpl⟩ := alPins_cons hf4.1
 rw [hps] at b6
 have hC2 : s2.c.Ok := by
  obtain ⟨_, _, _, hI⟩ := b6.inv
  have hp := (hI.ags _ (Vc.2 rfl)).pins
  exact hI.cac.good.ok (by
   have : (([alAg (alKey 0 :: ps)] : List Ag).flatMap Ag.pins).length = (alKey 0 :: ps).length := by show ((alKey 0 :: ps) ++ []).length = _; rw [Uw]
   have hp' : (alKey 0 :: ps).length <= 100 := hp
   omega)
 have hU := b6.unpin
 obtain ⟨m3, r3, s3, d3, G3, c1, c2, c3, c4, c5, c6, c7, c8, c9⟩ := hU.go O2 (q := (qm : Int)) O0 O0
 have hz : r3.res = ⟨0, 0, within (smpN ones 20) (qm : Int) 100⟩ := by
  rcases c9 with ⟨_, h2⟩ | ⟨_, _, h1⟩
  ·exact h2
  ·exact absurd h1 (hU.free hpl)
 have hlz : (within (smpN ones 20) (qm : Int) 100).length = 20 - qm := i7 ⟨qm, O_o⟩
 have hly : (within (smpN ones 20) 16 100).length = 4 := i7 ⟨16, O_o⟩
 have hok : s.b.Ok := by obtain ⟨_, _, _, hI⟩ := hB.inv; exact hI.sto.ok
 have hok2 : s2.b.Ok := by obtain ⟨_, _, _, hI⟩ := b6.inv; exact hI.sto.ok
 refine Y8 ?_
 refine r_v (qr (v' := .iz (qm : Int)) (zb rfl rfl) (congrArg Value.iz ((w7 4 O2 O2).trans hqm))) rfl ?_
 refine r_v (qc (r := (opBy (qm : Int)).C) rfl) rfl ?_
 refine r_c rfl (qp h fun b11 w h => ?_)
 refine r_c rfl (qy (vs := (opBy (qm : Int)).C) 0 h rfl rfl rfl rfl rfl rfl rfl fun w h => ?_)
 replace h : St w0 (pt b11 (.cells (opBy (qm : Int)).C.toArray 33 (0, 0)) :: IsSh p s :: l) w := h
 replace h : St w0 (IsSh p s :: pt b11 (.cells (opBy (qm : Int)).C.toArray 33 (0, 0)) :: l) w := h.o [1, 0]
 refine Y1a ?_
 refine r_c rfl (qg rfl (xb h) ?_)
 clear h
 rintro _ w ⟨q, rfl, h⟩
 replace h : St w0 (IsStore q.b s.b :: ShPt p q :: IsDir q.d s.d :: IsCache q.c s.c :: IsTab q.t s.t.V :: pt b11 (.cells (opBy (qm : Int)).C.toArray 33 (0, 0)) :: l) w := h.f 3
 refine r_c rfl (qg rfl (wv hok h) ?_)
 clear h
 rintro _ w ⟨rfl, h⟩
 replace h : St w0 (IsSh p s :: pt b11 (.cells (opBy (qm : Int)).C.toArray 33 (0, 0)) :: l) w := St.shd.2 ⟨q, h.o [1, 2, 3, 0]⟩
 refine Y4 ?_; refine Ym ?_
 refine r_v (qx (l := (opBy (qm : Int)).C) rfl rfl (qw (h.b 1 rfl) rfl)) rfl ?_
 refine r_c rfl (qg rfl (law22_alone hT a1 O0 a3 a4 a5 h) ?_)
 clear h
 rintro _ w ⟨la, lc, rfl, h⟩
 rw [ha] at h ⊢
 refine Y2o ?_
 refine r_c rfl (qp h fun b13 w h => ?_)
 refine r_c rfl (qy (vs := (⟨6, 0, []⟩ : Res).C la lc) 0 h rfl rfl rfl rfl rfl rfl rfl fun w h => ?_)
 replace h : St w0 (IsSh p s1 :: pt b13 (.cells ((⟨6, 0, []⟩ : Res).C la lc).toArray 28 (0, 0)) :: pt b11 (.cells (opBy (qm : Int)).C.toArray 33 (0, 0)) :: l) w := (h.x [1]).o [1, 0]
 refine Y1n ?_; refine Ym ?_
 refine r_v (qc (r := (opBy 16).C) rfl) rfl ?_
 refine r_c rfl (qg rfl (law22_alone hT b1 O0 b3 b4 b5 h) ?_)
 clear h
 rintro _ w ⟨ya, yc, rfl, h⟩
 rw [hb] at h ⊢
 obtain ⟨Y, hY⟩ : ∃ Y, within (smpN ones 20) 16 100 = Y := ⟨_, rfl⟩
 rw [hY] at h hly ⊢
 refine Y2o ?_
 refine r_c rfl (qp h fun b16 w h => ?_)
 refine r_c rfl (qy (vs := (⟨0, 0, Y⟩ : Res).C ya yc) 0 h rfl rfl rfl rfl rfl rfl rfl fun w h => ?_)
 replace h : St w0 (IsSh p s2 :: pt b16 (.cells ((⟨0, 0, Y⟩ : Res).C ya yc).toArray 28 (0, 0)) :: pt b13 (.cells ((⟨6, 0, []⟩ : Res).C la lc).toArray 28 (0, 0)) :: pt b11 (.cells (opBy (qm : Int)).C.toArray 33 (0, 0)) :: l) w := (h.x [1]).o [1, 0]
 refine Y1n ?_; refine Y1h ?_; refine Y1e ?_
 refine r_v (qq (v := .iz 6) rfl (h.b 2 rfl) rfl) rfl ?_
 refine Yc ?_; refine Y1q ?_
 refine qz (.bool false) rfl ?_
 refine Y9 ?_; refine Y2t ?_; refine Y2t ?_; refine Yx ?_; refine Y9 ?_; refine Y1e ?_
 refine r_v (qq (v := .iz 0) rfl (h.b 1 rfl) rfl) rfl ?_
 refine Yc ?_; refine Y1q ?_
 refine qz (.bool false) rfl ?_
 refine Y9 ?_; refine Y1e ?_
 refine r_v (qq (v := .slice ya Y.length yc) rfl (h.b 1 rfl) rfl) rfl ?_
 rw [hly]
 refine Yc ?_; refine Y15 ?_; refine Yc ?_; refine Y1q ?_
 refine qz (.bool false) rfl ?_
 refine Y9 ?_; refine Y3f ?_
 refine r_c rfl (qg rfl (xb h) ?_)
 clear h
 rintro _ w ⟨q, rfl, h⟩
 replace h : St w0 (IsStore q.b s2.b :: ShPt p q :: IsDir q.d s2.d :: IsCache q.c s2.c :: IsTab q.t s2.t.V :: pt b16 (.cells ((⟨0, 0, Y⟩ : Res).C ya yc).toArray 28 (0, 0)) :: pt b13 (.cells ((⟨6, 0, []⟩ : Res).C la lc).toArray 28 (0, 0)) :: pt b11 (.cells (opBy (qm : Int)).C.toArray 33 (0, 0)) :: l) w := h.f 3
 refine Yc ?_
 refine r_c rfl (qg rfl (wv hok2 h) ?_)
 clear h
 rintro _ w ⟨rfl, h⟩
 replace h : St w0 (IsSh p s2 :: pt b11 (.cells (opBy (qm : Int)).C.toArray 33 (0, 0)) :: l) w := St.shd.2 ⟨q, (h.x [5, 6]).o [1, 2, 3, 0]⟩
 refine Y33 ?_; refine Y1q ?_
 refine qz (.bool false) (by congr 1; rw [b7, b8, a7, a8]; simp) ?_
 refine Y9 ?_; refine Yb ?_; refine Ym ?_
 refine r_c rfl (qg rfl (yt h) ?_)
 clear h
 rintro _ w ⟨q, rfl, h⟩
 replace h : St w0 (IsCache q.c s2.c :: ShPt p q :: IsDir q.d s2.d :: IsStore q.b s2.b :: IsTab q.t s2.t.V :: pt b11 (.cells (opBy (qm : Int)).C.toArray 33 (0, 0)) :: l) w := h.f 2
 refine r_v (qc (r := (alKey 0).C) rfl) rfl ?_
 refine r_c rfl (qg rfl (zu (k := alKey 0) hC2 h) ?_)
 clear h
 rintro _ w ⟨rfl, h⟩
 replace h : St w0 (IsSh p { s2 with c := (s2.c.unpin (alKey 0)).1 } :: pt b11 (.cells (opBy (qm : Int)).C.toArray 33 (0, 0)) :: l) w := St.shd.2 ⟨q, h.o [1, 2, 0, 3, 4]⟩
 refine Y1a ?_
 refine r_v (qx (l := (opBy (qm : Int)).C) rfl rfl (qw (h.b 1 rfl) rfl)) rfl ?_
 refine r_c rfl (qg rfl (law22_alone hT c1 O0 c3 c4 c5 h) ?_)
 clear h
 rintro _ w ⟨za, zc, rfl, h⟩
 rw [hz] at h ⊢
 obtain ⟨Z, hZ⟩ : ∃ Z, within (smpN ones 20) (qm : Int) 100 = Z := ⟨_, rfl⟩
 rw [hZ] at h hlz ⊢
 refine Y2o ?_
 refine r_c rfl (qp h fun b19 w h => ?_)
 refine r_c rfl (qy (vs := (⟨0, 0, Z⟩ : Res).C za zc) 0 h rfl rfl rfl rfl rfl rfl rfl fun w h => ?_)
 replace h : St w0 (pt b19 (.cells ((⟨0, 0, Z⟩ : Res).C za zc).toArray 28 (0, 0)) :: l) w := h.x [1, 2, 3]
 refine Y1n ?_; refine Y31 ?_; refine Y1e ?_
 refine r_v (qq (v := .iz 0) rfl (h.b 0 rfl) rfl) rfl ?_
 refine Y3b ?_
 refine qz (.bool true) rfl ?_
 refine Yf ?_; refine Y1e ?_
 refine r_v (qq (v := .slice za Z.length zc) rfl (h.b 0 rfl) rfl) rfl ?_
 rw [hlz]
 refine Yc ?_; refine Y15 ?_; refine Y33 ?_
 refine r_v (qr (v' := .iz (qm : Int)) (zb rfl rfl) (congrArg Value.iz ((w7 4 O2 O2).trans hqm))) rfl ?_
 refine Yc ?_; refine Y1l ?_
 refine qz (.iz ((20 - qm : Nat) : Int)) O19 ?_
 refine Y3b ?_
 refine qz (.bool true) (by congr 1; rw [beq_iff_eq]) ?_
 refine Yf ?_; refine Y2t ?_
 refine r_c rfl (qg rfl (law22_awake hT h.drop) ?_)
 clear h
 rintro _ w ⟨rfl, h⟩
 refine Y2m ?_
 exact qv (qk (bq1 ⟨rfl, h⟩))
end
end
end Go.Proofs.YtngdfdangkdgcaaGreatDoor
