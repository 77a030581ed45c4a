/- What the proof of ProgBusy needs, part 4: plain lemmas, and what each function does. -/
import Derived.Test.YtngdfdangkdgcaaGreatDoorQProgBusyc
set_option linter.unusedVariables false
set_option linter.unusedSimpArgs false
set_option linter.unnecessarySimpa false
set_option maxRecDepth 100000
set_option maxHeartbeats 4000000
namespace Go.Proofs.YtngdfdangkdgcaaGreatDoor
open Go.Hw _root_.Go.Proofs.Tryz
section
structure Tk where
 key : Key3
 fr : Int
 to : Int
 d : Option Dcd
 dec : Bool
 pin : Bool
 done : Bool
 row : List Smp
 i : Nat
 out : List Smp
namespace Tk
def new (s f blob fr to : Int) : Tk := ⟨⟨s, f, blob⟩, fr, to, none, false, false, false, [], 0, []⟩
def rest (x : Tk) : List Smp := x.row.drop x.i
def pinned (x : Tk) (L : List Smp) : Tk := { x with pin := true, d := none, row := within L x.fr x.to, i := 0 }
def begin_ (x : Tk) (S : Sto) (C : Cac) : Tk × Cac × Int := match (C.get x.key).2 with
 | some L => (x.pinned L, ((C.get x.key).1.pinN x.key 1).1, 0)
 | none => match mget x.key.blob S.l with
  | none => (x, (C.get x.key).1, 7)
  | some e => ({ x with d := some (Dcd.new e.bs) }, (C.get x.key).1, 0)
def put (x : Tk) (d : Dcd) (C : Cac) : Tk × Cac × Int := match d.told with
 | none => (x, C, 7)
 | some L => if (C.put x.key L).2 then (x.pinned L, ((C.put x.key L).1.pinN x.key 1).1, 0) else (x, (C.put x.key L).1, 6)
def take4 (x : Tk) : Tk := { x with out := x.out ++ x.rest.take (min 4 x.rest.length), i := x.i + min 4 x.rest.length }
def step (x : Tk) (S : Sto) (C : Cac) : Tk × Cac × Int :=
 if x.done then (x, C, 0)
 else if x.pin then (if x.take4.rest.length = 0 then ({ x.take4 with pin := false, done := true }, (C.unpin x.key).1, 0) else (x.take4, C, 0))
 else match x.d with
  | none => x.begin_ S C
  | some d => if x.dec then x.put d C else ({ x with d := some (d.step 4), dec := !(d.more 4) }, C, 0)
def leave (x : Tk) (C : Cac) : Tk × Cac := if x.pin then ({ x with pin := false }, (C.unpin x.key).1) else (x, C)
end Tk
abbrev Tk.C (x : Tk) (dp ra : Option Addr) (rc : Nat) (oa : Option Addr) (oc : Nat) : List Value :=
 [.iz x.key.series, .iz x.key.life, .iz x.key.blob, .iz x.fr, .iz x.to, .pointer dp, .bool x.dec, .bool x.pin, .bool x.done, .slice ra x.rest.length rc, .slice oa x.out.length oc]
abbrev TkPt (t : Nat) (x : Tk) (dp ra : Option Addr) (rc : Nat) (oa : Option Addr) (oc : Nat) : HProp := pt t (.cells (x.C dp ra rc oa oc).toArray 187 (0, 0))
def DecH (dp : Option Addr) : Option Dcd -> HProp
 | none => lift (dp = none)
 | some d => ex fun q : Nat => all [lift (dp = some ⟨q, 0, none⟩), IsDec q d]
def Tail (wa : Option Addr) (wc : Nat) (W : List Smp) (i : Nat) (ra : Option Addr) (rc : Nat) : Prop := i <= W.length ∧ W.length <= wc ∧ rc = wc - i ∧ (i < W.length -> ra = adv wa (i * 2) (Nat.beq wc i))
structure TkS where
 dp : Option Addr
 ra : Option Addr
 rc : Nat
 oa : Option Addr
 oc : Nat
 wa : Option Addr
 wc : Nat
def IsTk (t : Nat) (x : Tk) : HProp := ex fun y : TkS => all [lift (Tail y.wa y.wc x.row x.i y.ra y.rc), TkPt t x y.dp y.ra y.rc y.oa y.oc, DecH y.dp x.d, OwnS y.wa y.wc x.row, OwnS y.oa y.oc x.out]
section
variable {w0 w : World} {l : List HProp} {t p b : Nat} {x : Tk} {C : Cac} {S : Sto}
theorem St.tk : St w0 (IsTk t x :: l) w ↔ ∃ dp ra rc oa oc wa wc, Tail wa wc x.row x.i ra rc ∧ St w0 (TkPt t x dp ra rc oa oc :: DecH dp x.d :: OwnS wa wc x.row :: OwnS oa oc x.out :: l) w := by
 unfold IsTk
 rw [St.ex]
 constructor
 ·rintro ⟨y, h⟩
  have h := St.lift.1 h.join
  exact ⟨_, _, _, _, _, _, _, h.1, h.2⟩
 ·rintro ⟨dp, ra, rc, oa, oc, wa, wc, h1, h⟩
  exact ⟨⟨dp, ra, rc, oa, oc, wa, wc⟩, St.fold [_, _, _, _, _] (St.lift.2 ⟨h1, h⟩)⟩
theorem St.dech0 {dp : Option Addr} : St w0 (DecH dp none :: l) w ↔ dp = none ∧ St w0 l w := St.lift
theorem St.dech1 {dp : Option Addr} {d : Dcd} : St w0 (DecH dp (some d) :: l) w ↔ ∃ q, dp = some ⟨q, 0, none⟩ ∧ St w0 (IsDec q d :: l) w := by
 unfold DecH
 rw [St.ex]
 exact ⟨fun ⟨q, h⟩ => ⟨q, (St.lift.1 h.join).1, (St.lift.1 h.join).2⟩, fun ⟨q, h1, h⟩ => ⟨q, St.fold [_, _] (St.lift.2 ⟨h1, h⟩)⟩⟩
theorem tail0 {wa : Option Addr} {wc : Nat} {W : List Smp} (hc : W.length <= wc) : Tail wa wc W 0 wa wc := ⟨Ud _, hc, rfl, fun _ => by
 unfold adv
 cases Nat.beq wc 0 <;> cases wa <;> simp [Addr.add]⟩
theorem qgk {wa ra : Option Addr} {wc rc i n : Nat} {W : List Smp} (ht : Tail wa wc W i ra rc) (h : Rd w 2 wa W.length (smpsV W)) (hn : n <= W.length - i) : Rd w 2 ra n (smpsV ((W.drop i).take n)) := by
 obtain ⟨h1, h2, h3, h4⟩ := ht
 rcases Wq n with rfl | hpos
 ·exact ⟨by simp, .inl rfl⟩
 ·rw [h4 O0]
  have := h.cut (i := i) (j := i + n) O0 O0 h2
  rw [mj, Xr, mq] at this
  exact this
theorem qgy {wa ra : Option Addr} {wc rc i n : Nat} {W : List Smp} (ht : Tail wa wc W i ra rc) (hn : n <= W.length - i) : Tail wa wc W (i + n) (adv ra (n * 2) (Nat.beq rc n)) (rc - n) := by
 obtain ⟨h1, h2, h3, h4⟩ := ht
 refine ⟨O_o, h2, O_o, fun hlt => ?_⟩
 rw [h4 O0]
 have e1 : Nat.beq wc i = false := by rw [<- Ke, Nat.beq_eq]; omega
 have e2 : Nat.beq wc (i + n) = false := by rw [<- Ke, Nat.beq_eq]; omega
 have e3 : Nat.beq rc n = false := by rw [<- Ke, Nat.beq_eq]; omega
 rw [e1, e2, e3]
 unfold adv
 cases wa with
 | none => rfl
 | some a =>
  simp only [cond_false, Xa, Addr.add]
  by_cases h5 : n = 0
  ·subst h5; simp
  ·by_cases h6 : i = 0
   ·subst h6; simp
   ·have h7 : ¬ n * 2 = 0 := by omega
    have h8 : ¬ i * 2 = 0 := by omega
    have h9 : ¬ (i + n) * 2 = 0 := by omega
    rw [if_neg h7, if_neg h8, if_neg h9, Vi, Kf]
theorem qq4 (s f : Int) (q : Prt) (fr to : Int) (h : St w0 l w) : Ret prog 90 [.iz s, .iz f, .agg q.cells.toArray, .iz fr, .iz to] w fun v w' => ∃ t, v = .pz t ∧ St w0 (IsTk t (Tk.new s f q.blob fr to) :: l) w' := by
 refine en func90 results90 ntmps90 ?_
 refine Y1 ?_
 refine r_c rfl (jv h (show _ = Value.agg q.cells.toArray from rfl) fun b7 w h => ?_)
 refine Y3g ?_; refine Y35 ?_; refine Yk ?_
 refine r_v (qq (v := .iz q.blob) rfl (h.b 0 rfl) rfl) rfl ?_
 refine r_v (qc (r := (Key3.mk s f q.blob).C) rfl) rfl ?_
 refine Y30 ?_
 refine r_v (qc (r := (Tk.new s f q.blob fr to).C none none 0 none 0) rfl) rfl ?_
 refine r_c rfl (jv h (show _ = Value.agg ((Tk.new s f q.blob fr to).C none none 0 none 0).toArray from rfl) fun t w h => ?_)
 refine Y1i ?_
 refine qv (qk (bq1 ⟨t, rfl, St.tk.2 ⟨none, none, 0, none, 0, none, 0, tail0 (Ug _), ?_⟩⟩))
 have h1 := (St.ownNil 57 2 (St.ownNil 57 2 (St.dech0.2 ⟨rfl, h.x [1]⟩)))
 exact h1.o [3, 2, 0, 1]
theorem Cac.get_len (hC : C.Ok) {k : Key3} {L : List Smp} (h : (C.get k).2 = some L) : L.length <= 1073741824 := by
 unfold Cac.get at h
 split at h
 ·simp only [Vq] at h
  subst h
  cases hg : mget k C.rows with
  | none => simp
  | some M => exact hC.rows k M hg
 ·cases h
theorem ct {L : List Smp} {sl : Option Addr} {c : Nat} (hC : C.Ok) (hn : L.length <= 1073741824) (hr : Reads w0 l 2 sl L.length (smpsV L)) (h : St w0 (IsTk t x :: IsCache p C :: l) w) :
  Ret prog 138 [.pz t, .pz p, .slice sl L.length c] w fun v w' => St w0 (IsTk t (x.pinned L) :: IsCache p (C.pinN x.key 1).1 :: l) w' := by
 obtain ⟨dp, ra, rc, oa, oc, wa, wc, ht, h⟩ := St.tk.1 h
 refine en func138 results138 ntmps138 ?_
 refine Y2p ?_
 refine r_v (qx (l := x.key.C) rfl rfl (qw (h.b 0 rfl) rfl)) rfl ?_
 refine r_c rfl (qg rfl (cm hC (h.f 4)) ?_)
 clear h
 rintro _ w ⟨rfl, h⟩
 refine Y2 ?_
 refine vo [0, 14, 18, 1, 2, 3, 4, 5, 6, 7, 8, 9, 10, 11, 12, 13, 15, 16, 17, 19, 20, 21] (some 15) (fun w => St w0 (IsCache p (C.pinN x.key 1).1 :: TkPt t x dp ra rc oa oc :: DecH dp x.d :: OwnS wa wc x.row :: OwnS oa oc x.out :: l) w) O1 O1 h.drew fun w h => ?_
 refine Y1j ?_; refine Y1j ?_; refine Y1j ?_; refine Y1x ?_; refine Y3 ?_
 refine qj rfl rfl rfl rfl h (fun _ h => qh rfl (qq (v := .iz x.fr) rfl (h.b 1 rfl) rfl)) ?_
 refine Y3 ?_
 refine qj rfl rfl rfl rfl h (fun _ h => qh rfl (qq (v := .iz x.to) rfl (h.b 1 rfl) rfl)) ?_
 refine Y16 ?_; refine Y2q ?_
 refine qd 12 rfl rfl rfl rfl ?_
 refine qg rfl (cf x.fr x.to hn (hr.more [_, _, _, _, _]) h) ?_
 clear h
 rintro _ w ⟨a9, rfl, h1⟩
 have h := h1.drop
 refine ⟨fun _ => h, ?_⟩
 refine Y2y ?_; refine Y4i ?_
 refine jy 15 (some 18) rfl rfl rfl rfl ?_
 refine qb 2 h1 rfl (show _ = Value.bool true from rfl) rfl rfl rfl rfl fun w h => ?_
 refine jz h ?_
 clear h1
 refine Y2y ?_; refine Y16 ?_
 refine jy 18 (some 21) rfl rfl rfl rfl ?_
 refine qb 2 h rfl (show _ = Value.pointer none from rfl) rfl rfl rfl rfl fun w h => ?_
 refine jz h ?_
 refine Y2y ?_; refine Yg ?_
 refine jk 21 rfl rfl rfl ?_
 refine qb 2 h rfl (show _ = Value.slice a9 (within L x.fr x.to).length (within L x.fr x.to).length from rfl) rfl rfl rfl rfl fun w h => ?_
 refine bq0n (St.tk.2 ⟨none, a9, _, oa, oc, a9, _, tail0 (Ug _), ?_⟩)
 replace h : St w0 (OwnS a9 (within L x.fr x.to).length (within L x.fr x.to) :: IsCache p (C.pinN x.key 1).1 :: TkPt t (x.pinned L) none a9 (within L x.fr x.to).length oa oc :: DecH dp x.d :: OwnS wa wc x.row :: OwnS oa oc x.out :: l) w := h
 have h1 := St.dech0.2 ⟨rfl, h.x [3, 4]⟩
 exact h1.o [3, 0, 1, 4, 2]
theorem oe (hC : C.Ok) (hG : (C.get x.key).1.Ok) (hS : ∀ id e, mget id S.l = some e -> e.bs.length <= 140737488355328) (h : St w0 (IsTk t x :: IsStore b S :: IsCache p C :: l) w) :
  Ret prog 122 [.pz t, .pz b, .pz p] w fun v w' => v = .iz (x.begin_ S C).2.2 ∧ St w0 (IsTk t (x.begin_ S C).1 :: IsStore b S :: IsCache p (x.begin_ S C).2.1 :: l) w' := by
 obtain ⟨dp, ra, rc, oa, oc, wa, wc, ht, h⟩ := St.tk.1 h
 refine en func122 results122 ntmps122 ?_
 refine Yr ?_; refine qf ?_; refine Y2p ?_
 refine r_v (qx (l := x.key.C) rfl rfl (qw (h.b 0 rfl) rfl)) rfl ?_
 have hget := qq2 (k := x.key) hC (h.f 5)
 clear h
 cases hg : (C.get x.key).2 with
 | some L =>
  have hL := Cac.get_len hC hg
  rw [hg] at hget
  have e1 : x.begin_ S C = (x.pinned L, ((C.get x.key).1.pinN x.key 1).1, 0) := by unfold Tk.begin_; rw [hg]
  refine r_c rfl (qg rfl hget ?_)
  rintro _ w ⟨a', c', rfl, h⟩
  refine Y28 ?_; refine Y31 ?_; refine Yd ?_; refine Y10 ?_; refine Yj ?_
  have h := St.tk.2 ⟨dp, ra, rc, oa, oc, wa, wc, ht, h.o [2, 3, 4, 5, 1, 0]⟩
  refine r_c rfl (qg rfl (ct (L := L) hG hL Reads.own h) ?_)
  clear h
  rintro _ w h
  refine Yn ?_; refine Y6 ?_
  rw [e1]
  exact qv (qk (bq1 ⟨rfl, (h.x [2]).o [0, 2, 1]⟩))
 | none =>
  rw [hg] at hget
  refine r_c rfl (qg rfl hget ?_)
  rintro _ w ⟨a', c', rfl, h⟩
  replace h := h.drop
  refine Y28 ?_; refine Y31 ?_; refine Yb ?_; refine Y2p ?_; refine Yk ?_
  refine r_v (qq (v := .iz x.key.blob) rfl (h.b 1 rfl) rfl) rfl ?_
  cases hb : mget x.key.blob S.l with
  | none =>
   have e1 : x.begin_ S C = (x, (C.get x.key).1, 7) := by unfold Tk.begin_; rw [hg]; dsimp only; rw [hb]
   refine r_c rfl (qg rfl (lu _ (h.f 5) hb) ?_)
   clear h
   rintro _ w ⟨rfl, h⟩
   refine Y28 ?_; refine Y1h ?_; refine Yd ?_; refine Y13 ?_
   rw [e1]
   exact qv (qk (bq1 ⟨rfl, St.tk.2 ⟨dp, ra, rc, oa, oc, wa, wc, ht, h.o [2, 3, 4, 5, 0, 1]⟩⟩))
  | some e =>
   have e1 : x.begin_ S C = ({ x with d := some (Dcd.new e.bs) }, (C.get x.key).1, 0) := by unfold Tk.begin_; rw [hg]; dsimp only; rw [hb]
   refine r_c rfl (qg rfl (lk _ (h.f 5) hb (hS _ _ hb)) ?_)
   clear h
   rintro _ w ⟨a2, c2, rfl, h⟩
   refine Y28 ?_; refine Y1h ?_; refine Yb ?_; refine Ym ?_; refine Yj ?_
   refine r_c rfl (qg rfl (qgu (hS _ _ hb) Reads.own h) ?_)
   clear h
   rintro _ w ⟨q, rfl, h⟩
   refine Yi ?_
   refine r_c rfl (qb 4 h rfl (show _ = Value.pz q from rfl) rfl rfl rfl rfl fun w h => ?_)
   replace h : St w0 (IsDec q (Dcd.new e.bs) :: OwnB a2 c2 e.bs :: IsStore b S :: IsCache p (C.get x.key).1 :: TkPt t { x with d := some (Dcd.new e.bs) } (sQ q) ra rc oa oc :: DecH dp x.d :: OwnS wa wc x.row :: OwnS oa oc x.out :: l) w := h
   refine Yn ?_; refine Y6 ?_
   rw [e1]
   have h1 := St.dech1.2 ⟨q, rfl, h.x [1, 5]⟩
   exact qv (qk (bq1 ⟨rfl, St.tk.2 ⟨_, ra, rc, oa, oc, wa, wc, ht, h1.o [3, 0, 4, 5, 1, 2]⟩⟩))
end
end
section
section
variable {w0 w : World} {l : List HProp} {t p b : Nat} {x : Tk} {C : Cac} {S : Sto}
theorem Dcd.told_len {d : Dcd} {L : List Smp} (hr : d.rows.length <= 65535) (h : d.told = some L) : L.length <= 65535 := by
 unfold Dcd.told at h
 split at h
 ·simp only [Vq] at h; subst h; exact hr
 ·cases h
theorem qq5 {d : Dcd} (hd : x.d = some d) (hC : C.Ok) (hP : ∀ L, L.length <= 65535 -> (C.put x.key L).1.Ok) (h : St w0 (IsTk t x :: IsCache p C :: l) w) :
  Ret prog 124 [.pz t, .pz p] w fun v w' => v = .iz (x.put d C).2.2 ∧ St w0 (IsTk t (x.put d C).1 :: IsCache p (x.put d C).2.1 :: l) w' := by
 obtain ⟨dp, ra, rc, oa, oc, wa, wc, ht, h⟩ := St.tk.1 h
 have h1 := h.f 1
 rw [hd] at h1
 obtain ⟨q, rfl, h⟩ := St.dech1.1 h1
 clear h1
 have hrows : d.rows.length <= 65535 := by
  obtain ⟨_, _, _, _, ⟨h9, _⟩, _⟩ := St.dec.1 h
  exact h9.rows
 refine en func124 results124 ntmps124 ?_
 refine Yr ?_; refine Y5 ?_
 refine r_v (qq (v := .pz q) rfl (h.b 1 rfl) rfl) rfl ?_
 have hdn := qq3 h
 clear h
 cases ho : d.told with
 | none =>
  rw [ho] at hdn
  have e1 : x.put d C = (x, C, 7) := by unfold Tk.put; rw [ho]
  refine r_c rfl (qg rfl hdn ?_)
  rintro _ w ⟨a5, c5, rfl, h⟩
  refine Y28 ?_; refine Y38 ?_; refine Y1 ?_; refine Y1g ?_; refine Y2k ?_; refine Y13 ?_
  rw [e1]
  refine qv (qk (bq1 ⟨rfl, ?_⟩))
  refine St.tk.2 ⟨some ⟨q, 0, none⟩, ra, rc, oa, oc, wa, wc, ht, ?_⟩
  rw [hd]
  exact (St.dech1.2 ⟨q, rfl, h.drop⟩).f 1
 | some L =>
  rw [ho] at hdn
  have hL := Dcd.told_len hrows ho
  refine r_c rfl (qg rfl hdn ?_)
  rintro _ w ⟨a5, c5, rfl, h⟩
  replace h : St w0 (OwnS a5 c5 L :: IsDec q d :: TkPt t x (sQ q) ra rc oa oc :: OwnS wa wc x.row :: OwnS oa oc x.out :: IsCache p C :: l) w := h
  refine Y28 ?_
  refine qt (Γ := Unit) (fun _ => [(0, .pz t), (1, .pz p), (5, .slice a5 L.length c5)])
   (fun _ w => (C.put x.key L).2 = true ∧ St w0 (OwnS a5 c5 L :: IsDec q d :: TkPt t x (sQ q) ra rc oa oc :: OwnS wa wc x.row :: OwnS oa oc x.out :: IsCache p (C.put x.key L).1 :: l) w) ?_ ?_
  ·refine Yh ?_; refine Y1 ?_; refine Y1g ?_; refine Y39 ?_; refine Y2p ?_
   refine r_v (qx (l := x.key.C) rfl rfl (qw (h.b 2 rfl) rfl)) rfl ?_
   refine Yj ?_
   refine r_c rfl (qg rfl (cn (k := x.key) (L := L) hC (Reads.own.more []) O0 (h.f 5)) ?_)
   clear h
   rintro _ w ⟨rfl, h⟩
   refine Yx ?_; refine Ya ?_
   cases hk : (C.put x.key L).2 with
   | false =>
    have e1 : x.put d C = (x, (C.put x.key L).1, 6) := by unfold Tk.put; rw [ho]; dsimp only; rw [hk]; rfl
    refine Y1k ?_; refine Y13 ?_
    rw [e1]
    refine qv (qk (bq1 ⟨rfl, ?_⟩))
    refine St.tk.2 ⟨some ⟨q, 0, none⟩, ra, rc, oa, oc, wa, wc, ht, ?_⟩
    rw [hd]
    have h1 := St.dech1.2 ⟨q, rfl, (h.x [1]).f 1⟩
    exact h1.o [2, 0, 3, 4, 1]
   | true =>
    refine Y1r ?_
    exact ⟨(), zz3, rfl, h.o [1, 2, 3, 4, 5, 0]⟩
  rintro - w e ⟨hk, h⟩
  have e1 : x.put d C = (x.pinned L, ((C.put x.key L).1.pinN x.key 1).1, 0) := by unfold Tk.put; rw [ho]; dsimp only; rw [hk]; rfl
  refine Y10 ?_; refine Yj ?_
  have h1 := St.dech1.2 ⟨q, rfl, h.f 1⟩
  rw [<- hd] at h1
  have h2 := St.tk.2 ⟨_, ra, rc, oa, oc, wa, wc, ht, h1.o [2, 0, 3, 4, 5, 1]⟩
  refine r_c rfl (qg rfl (ct (L := L) (hP L hL) O0 Reads.own h2) ?_)
  clear h h1 h2
  rintro _ w h
  refine Yn ?_; refine Y6 ?_
  rw [e1]
  exact qv (qk (bq1 ⟨rfl, h.x [2]⟩))
theorem eq (hx : x.out.length <= 1073741824) (h : St w0 (IsTk t x :: l) w) :
  Ret prog 92 [.pz t] w fun v w' => ∃ a c, v = .tuple [.slice a (if x.done then x.out else []).length c, .bool x.done].toArray ∧ St w0 (OwnS a c (if x.done then x.out else []) :: IsTk t x :: l) w' := by
 obtain ⟨dp, ra, rc, oa, oc, wa, wc, ht, h⟩ := St.tk.1 h
 refine en func92 results92 ntmps92 ?_
 refine Yu ?_; refine Y2n ?_
 refine r_v (qq (v := .bool x.done) rfl (h.b 0 rfl) rfl) rfl ?_
 refine Yx ?_; refine Y2 ?_
 cases hd : x.done with
 | false =>
  refine Y1k ?_; refine Y3r ?_
  exact qv (qk (bq2 ⟨none, 0, rfl, St.ownNil 57 2 (St.tk.2 ⟨_, _, _, _, _, _, _, ht, h⟩)⟩))
 | true =>
  refine Y1r ?_; refine Y5 ?_
  refine r_v (qq (v := .slice oa x.out.length oc) rfl (h.b 0 rfl) rfl) rfl ?_
  refine r_c rfl (qg rfl (uj (L := x.out) h (Reads.own.more [_, _, _]) hx) ?_)
  clear h
  rintro _ w ⟨a, c, rfl, h⟩
  refine Yo ?_; refine Y7 ?_
  refine qv (qk (bq2 ⟨a, c, rfl, ?_⟩))
  exact (St.tk.2 ⟨dp, ra, rc, oa, oc, wa, wc, ht, h.o [1, 2, 3, 4, 0]⟩).f 1
theorem dl (hC : C.Ok) (h : St w0 (IsTk t x :: IsCache p C :: l) w) :
  Ret prog 68 [.pz t, .pz p] w fun v w' => St w0 (IsTk t (x.leave C).1 :: IsCache p (x.leave C).2 :: l) w' := by
 obtain ⟨dp, ra, rc, oa, oc, wa, wc, ht, h⟩ := St.tk.1 h
 refine en func68 results68 ntmps68 ?_
 refine Y5 ?_
 refine r_v (qq (v := .bool x.pin) rfl (h.b 0 rfl) rfl) rfl ?_
 refine Y2 ?_
 cases hp : x.pin with
 | false =>
  have e1 : x.leave C = (x, C) := by unfold Tk.leave; rw [hp]; rfl
  refine qe rfl (qa (bq0n ?_))
  rw [e1]
  exact St.tk.2 ⟨_, _, _, _, _, _, _, ht, h⟩
 | true =>
  have e1 : x.leave C = ({ x with pin := false }, (C.unpin x.key).1) := by unfold Tk.leave; rw [hp]; rfl
  refine Y1k ?_; refine Y2p ?_
  refine r_v (qx (l := x.key.C) rfl rfl (qw (h.b 0 rfl) rfl)) rfl ?_
  refine r_c rfl (qg rfl (zu (k := x.key) hC (h.f 4)) ?_)
  clear h
  rintro _ w ⟨rfl, h⟩
  refine Y2 ?_; refine Y2l ?_
  refine r_c rfl (qb 1 h rfl (show _ = Value.bool false from rfl) rfl rfl rfl rfl fun w h => ?_)
  refine qv (bq0n ?_)
  rw [e1]
  exact St.tk.2 ⟨dp, ra, rc, oa, oc, wa, wc, ht, h.o [1, 2, 3, 4, 0]⟩
end
end
section
def Tk.takeN (x : Tk) (n : Nat) : Tk := { x with out := x.out ++ x.rest.take n, i := x.i + n }
section
variable {w0 w : World} {l : List HProp} {t p b : Nat} {x : Tk} {C : Cac} {S : Sto}
theorem o0 (hT : Tz w0) (hV : ∀ d, x.d = some d -> x.pin = false -> x.dec = false -> TagOk d.bs) (hx : x.row.length + x.out.length <= 1000000000) (hC : C.Ok) (hG : (C.get x.key).1.Ok) (hP : ∀ L, L.length <= 65535 -> (C.put x.key L).1.Ok) (hS : ∀ id e, mget id S.l = some e -> e.bs.length <= 140737488355328) (h : St w0 (IsTk t x :: IsStore b S :: IsCache p C :: l) w) :
  Ret prog 91 [.pz t, .pz b, .pz p] w fun v w' => v = .iz (x.step S C).2.2 ∧ St w0 (IsTk t (x.step S C).1 :: IsStore b S :: IsCache p (x.step S C).2.1 :: l) w' := by
 obtain ⟨dp, ra, rc, oa, oc, wa, wc, ht, h⟩ := St.tk.1 h
 refine en func91 results91 ntmps91 ?_
 refine Yr ?_
 refine qt (Γ := Unit) (fun _ => []) (fun _ w => (x.step S C).2.2 = 0 ∧ St w0 (IsTk t (x.step S C).1 :: IsStore b S :: IsCache p (x.step S C).2.1 :: l) w) ?_ ?_
 rotate_left
 ·rintro - w e ⟨h0, h⟩
  refine Y13 ?_
  exact qv (qk (bq1 ⟨by rw [h0]; rfl, h⟩))
 refine Yh ?_; refine Y5 ?_
 refine r_v (qq (v := .bool x.done) rfl (h.b 0 rfl) rfl) rfl ?_
 refine Ya ?_
 cases hd : x.done with
 | true =>
  have e1 : x.step S C = (x, C, 0) := by unfold Tk.step; rw [hd]; rfl
  refine vq rfl (qa ⟨(), trivial, ?_⟩)
  rw [e1]
  exact ⟨rfl, St.tk.2 ⟨dp, ra, rc, oa, oc, wa, wc, ht, h⟩⟩
 | false =>
  refine qe rfl ?_; refine Y5 ?_
  refine r_v (qq (v := .bool x.pin) rfl (h.b 0 rfl) rfl) rfl ?_
  refine Ya ?_
  cases hp : x.pin with
  | true =>
   have e1 : x.step S C = if x.take4.rest.length = 0 then ({ x.take4 with pin := false, done := true }, (C.unpin x.key).1, 0) else (x.take4, C, 0) := by unfold Tk.step; rw [hd, hp]; rfl
   obtain ⟨n, hn⟩ : ∃ n, n = min 4 x.rest.length := ⟨_, rfl⟩
   have e2 : x.take4 = x.takeN n := by rw [hn]; rfl
   rw [e2] at e1
   have hrl : x.rest.length = x.row.length - x.i := Uq
   have hnr : n <= x.rest.length := by omega
   have hn4 : n <= 4 := by omega
   have hrc : n <= rc := by have := ht.2.1; have := ht.2.2.1; omega
   have htl : x.rest.length - n = (x.takeN n).rest.length := by
    show x.rest.length - n = (x.row.drop (x.i + n)).length
    rw [Uq]; omega
   have hol : (x.takeN n).out.length = x.out.length + n := by
    show (x.out ++ x.rest.take n).length = _
    rw [Ua, Us]; omega
   refine Y1k ?_; refine Y5 ?_
   refine r_v (qq (v := .slice ra x.rest.length rc) rfl (h.b 0 rfl) rfl) rfl ?_
   refine Y15 ?_; refine Y4j ?_
   refine qz (.iz (n : Nat)) (by congr 1; omega) ?_
   refine Y4 ?_
   refine qf (jm [0, 21, 1, 2, 3, 4, 5, 6, 7, 8, 9, 10, 11, 12, 13, 14, 15, 16, 17, 18, 19, 20, 22, 23, 24] (some 21) (fun w => St w0 (TkPt t x dp ra rc oa oc :: DecH dp x.d :: OwnS wa wc x.row :: IsStore b S :: IsCache p C :: l) w) O1 O1 ?_)
   have hw := h.drew
   clear h
   generalize w.drew = w1 at hw ⊢
   have h := hw.x [3]
   refine Y1j ?_; refine Y1j ?_; refine Y3 ?_
   refine qj rfl rfl rfl rfl h (fun _ h => qh rfl (qq (v := .slice oa x.out.length oc) rfl (h.b 0 rfl) rfl)) ?_
   refine Y3 ?_
   refine qj rfl rfl rfl rfl h (fun _ h => qh rfl (qq (v := .slice ra x.rest.length rc) rfl (h.b 0 rfl) rfl)) ?_
   refine Y18 ?_
   refine cpv rfl rfl rfl rfl h rfl (kz (h := n) rfl rfl hrc) ?_
   refine Yg ?_; refine Y3 ?_
   refine qj rfl rfl rfl rfl h (fun _ h => qh rfl (qq (v := .slice ra x.rest.length rc) rfl (h.b 0 rfl) rfl)) ?_
   refine Y18 ?_
   refine qu (v := .slice (adv ra (n * 2) (Nat.beq rc n)) (x.takeN n).rest.length (rc - n)) rfl rfl rfl rfl (fun _ => h) (fun _ => qh rfl (qr (gl (i := n) rfl rfl hnr) (congrArg (fun m => Value.slice (adv ra (n * 2) (Nat.beq rc n)) m (rc - n)) htl))) ?_
   refine Y2q ?_
   refine qd 12 rfl rfl rfl rfl ?_
   have hrow : Rd w1 2 wa x.row.length (smpsV x.row) := (hw.f 2).own_rd
   refine q9 (ys := smpsV (x.rest.take n)) (zs := smpsV (x.takeN n).out) (m3 := (x.takeN n).out.length) (hw.f 3) rfl rfl (qgk ht hrow O0) (jt _) hol.symm (by show _ = smpsV (x.out ++ x.rest.take n); simp [smpsV]) (by rw [hol]; omega) (by rw [hol]; omega) rfl fun a2 c2 w _ hw => ?_
   have h := hw.drop
   refine ⟨fun _ => h, ?_⟩
   refine Y2y ?_; refine Y16 ?_
   refine jy 21 (some 24) rfl rfl rfl rfl ?_
   refine qb 1 hw rfl (show _ = Value.slice a2 (x.takeN n).out.length c2 from rfl) rfl rfl rfl rfl fun w h => ?_
   refine jz h ?_
   refine Y2y ?_; refine Yg ?_
   refine jk 24 rfl rfl rfl ?_
   refine qb 1 h rfl (show _ = Value.slice (adv ra (n * 2) (Nat.beq rc n)) (x.takeN n).rest.length (rc - n) from rfl) rfl rfl rfl rfl fun w h => ?_
   replace h : St w0 (OwnS a2 c2 (x.takeN n).out :: TkPt t (x.takeN n) dp (adv ra (n * 2) (Nat.beq rc n)) (rc - n) a2 c2 :: DecH dp x.d :: OwnS wa wc x.row :: IsStore b S :: IsCache p C :: l) w := h
   have ht2 := qgy ht (n := n) O0
   refine Y5 ?_
   refine r_v (qq (v := .slice (adv ra (n * 2) (Nat.beq rc n)) (x.takeN n).rest.length (rc - n)) rfl (h.b 1 rfl) rfl) rfl ?_
   refine Y15 ?_; refine Yp ?_
   by_cases h0 : (x.takeN n).rest.length = 0
   ·rw [if_pos h0] at e1
    refine qz (.bool true) O13 ?_
    refine Yd ?_; refine Y2p ?_
    refine r_v (qx (l := x.key.C) rfl rfl (qw (h.b 1 rfl) rfl)) rfl ?_
    refine r_c rfl (qg rfl (zu (k := x.key) hC (h.f 5)) ?_)
    clear h
    rintro _ w ⟨rfl, h⟩
    refine Y49 ?_; refine Y1t ?_
    refine r_c rfl (qb 2 h rfl (show _ = Value.bool false from rfl) rfl rfl rfl rfl fun w h => ?_)
    refine Yi ?_
    refine r_c rfl (qb 2 h rfl (show _ = Value.bool true from rfl) rfl rfl rfl rfl fun w h => ?_)
    refine qv ⟨(), trivial, ?_⟩
    rw [e1]
    exact ⟨rfl, St.tk.2 ⟨dp, _, _, a2, c2, wa, wc, ht2, h.o [2, 3, 4, 1, 5, 0]⟩⟩
   ·rw [if_neg h0] at e1
    refine qz (.bool false) O5 ?_
    refine qv (qe rfl (qa ⟨(), trivial, ?_⟩))
    rw [e1]
    exact ⟨rfl, St.tk.2 ⟨dp, _, _, a2, c2, wa, wc, ht2, h.o [1, 2, 3, 0, 4, 5]⟩⟩
  | false =>
   have e0 : x.step S C = match x.d with
    | none => x.begin_ S C
    | some d => if x.dec then x.put d C else ({ x with d := some (d.step 4), dec := !(d.more 4) }, C, 0) := by unfold Tk.step; rw [hd, hp]; rfl
   refine qe rfl ?_; refine Y5 ?_
   refine r_v (qq (v := .pointer dp) rfl (h.b 0 rfl) rfl) rfl ?_
   cases hxd : x.d with
   | none =>
    rw [hxd] at e0
    have h1 := h.f 1
    rw [hxd] at h1
    obtain ⟨rfl, h2⟩ := St.dech0.1 h1
    clear h1 h2
    refine r_v (zm rfl rfl) rfl ?_; refine Y43 ?_; refine Y22 ?_
    refine r_c rfl (qg rfl (oe hC hG hS (St.tk.2 ⟨none, ra, rc, oa, oc, wa, wc, ht, h⟩)) ?_)
    clear h
    rintro _ w ⟨rfl, h⟩
    refine Y6 ?_
    rw [e0]
    exact qv (qk (bq1 ⟨rfl, h⟩))
   | some d =>
    rw [hxd] at e0
    have h1 := h.f 1
    rw [hxd] at h1
    obtain ⟨q, rfl, h2⟩ := St.dech1.1 h1
    clear h1
    refine r_v (zm rfl rfl) rfl ?_; refine Y39 ?_; refine Y5 ?_
    refine r_v (qq (v := .bool x.dec) rfl (h.b 0 rfl) rfl) rfl ?_
    refine Yx ?_; refine Ya ?_
    cases hde : x.dec with
    | true =>
     rw [hde] at e0
     refine qe rfl ?_; refine Y10 ?_
     refine r_c rfl (qg rfl (qq5 hxd hC hP ((St.tk.2 ⟨_, ra, rc, oa, oc, wa, wc, ht, h⟩).o [0, 2, 1])) ?_)
     clear h h2
     rintro _ w ⟨rfl, h⟩
     refine Y6 ?_
     rw [show x.step S C = x.put d C from e0]
     exact qv (qk (bq1 ⟨rfl, h.o [0, 2, 1]⟩))
    | false =>
     rw [hde] at e0
     refine Y1k ?_; refine Y2u ?_; refine Y1t ?_
     refine r_v (qq (v := .pz q) rfl (h.b 0 rfl) rfl) rfl ?_
     refine r_c rfl (qg rfl (l9 hT 4 (fun _ => hV _ hxd hp hde) h2) ?_)
     clear h h2
     rintro _ w ⟨rfl, h⟩
     refine Yx ?_; refine Yi ?_
     refine r_c rfl (qb 1 h rfl (show _ = Value.bool (!(d.more 4)) from rfl) rfl rfl rfl rfl fun w h => ?_)
     refine qv ⟨(), trivial, ?_⟩
     rw [show x.step S C = ({ x with d := some (d.step 4), dec := !(d.more 4) }, C, 0) from e0]
     have h1 := St.dech1.2 ⟨q, rfl, h⟩
     exact ⟨rfl, St.tk.2 ⟨some ⟨q, 0, none⟩, ra, rc, oa, oc, wa, wc, ht, h1.f 1⟩⟩
end
end
end Go.Proofs.YtngdfdangkdgcaaGreatDoor
namespace Go.Hw
section
structure Opr where
 kind : Int
 series : Int
 iter : Int
 T : Int
 V : Nat
 F : Int
 To : Int
 N : Int
def Opr.Wf (o : Opr) : Prop := I64 o.kind ∧ I64 o.series ∧ I64 o.iter ∧ I64 o.T ∧ o.V < 18446744073709551616 ∧ I64 o.F ∧ I64 o.To ∧ I64 o.N
def Opr.zero : Opr := ⟨0, 0, 0, 0, 0, 0, 0, 0⟩
def Opr.C (o : Opr) : List Value := [.iz o.kind, .iz o.series, .iz o.iter, .iz o.T, .int .u64 o.V, .iz o.F, .iz o.To, .iz o.N]
structure Res where
 err : Int
 iter : Int
 list : List Smp
def Res.C (a : Option Addr) (c : Nat) (r : Res) : List Value := [.iz r.err, .iz r.iter, .slice a r.list.length c]
end
end Go.Hw
namespace Go.Proofs.YtngdfdangkdgcaaGreatDoor
open Go.Hw _root_.Go.Proofs.Tryz
section
abbrev wI : Int -> Int := IntKind.i64.wrap
def SlotV.zero : SlotV := ⟨false, false, 0, 0, false, 0, [], []⟩
structure Plc where
 s : SlotV
 taken : Bool
 who : Int
structure Snp where
 life : Int
 ver : Int
 frm : Int
 upto : Int
 parts : List Prt
 tail : List Smp
def Snp.V (x : Snp) : SnapV := ⟨x.life, x.ver, x.frm, x.upto, x.parts.length, prtsV x.parts, x.tail.length, smpsV x.tail⟩
def Snp.zero : Snp := ⟨0, 0, 0, 0, [], []⟩
def SlotV.snap (s : SlotV) (f t : Int) : Snp := ⟨s.life, s.ver, f, t, partsIn f t s.chunks, tailIn f t s.opn⟩
structure On where
 series : Int
 told : Int
 x : Snp
 used : Bool
 who : Int
def On.V (o : On) : One := ⟨o.series, o.told, o.x.V, o.used, o.who⟩
structure Tb where
 last : Int
 l : List (Int × On)
def Tb.V (T : Tb) : Tab := ⟨T.last, T.l.map fun p => (p.1, p.2.V)⟩
namespace Dir
def at_ (D : List Plc) (id : Int) : Option Plc := if 0 <= id ∧ id < 16 then D[id.toNat]? else none
def look (D : List Plc) (id : Int) : Option SlotV := match at_ D id with
 | some p => if p.s.ver.tmod 2 = 1 then none else some p.s
 | none => none
def take (D : List Plc) (id who : Int) : Option (List Plc) := match at_ D id with
 | some p => if p.taken then none else some (D.set id.toNat ⟨{ p.s with ver := wI (p.s.ver + 1) }, true, who⟩)
 | none => none
def leave (D : List Plc) (id who : Int) (s : SlotV) : Option (List Plc) := match at_ D id with
 | some p => if p.taken = true ∧ p.who = who then some (D.set id.toNat ⟨{ s with ver := wI (p.s.ver + 1) }, false, 0⟩) else none
 | none => none
end Dir
def SlotV.add (s : SlotV) (x : Smp) : SlotV := if s.any = true ∧ x.T <= s.last then s else { s with any := true, last := x.T, opn := s.opn ++ [x] }
def SlotV.size (s : SlotV) : Int := wI (16 * (s.opn.length : Int))
def Sto.chg (S : Sto) (n : Int) : Bool × Sto := if n > 0 ∧ n > wI (S.budget - wI (S.bytes + S.charged)) then (false, S) else (true, S.charge n)
def Sto.add (S : Sto) (bs : List UInt8) : Option (Sto × Int) :=
 if wI (S.budget - wI (S.bytes + S.charged)) < bs.length then none
 else some (⟨S.budget, wI (S.last + 1), wI (S.bytes + bs.length), S.charged, mset (wI (S.last + 1)) ⟨bs, 1⟩ S.l⟩, wI (S.last + 1))
structure Shd where
 d : List Plc
 c : Cac
 b : Sto
 t : Tb
structure Run where
 who : Int
 o : Opr
 ph : Int
 slot : SlotV
 next : SlotV
 flag : Bool
 using_ : Bool
 held : Bool
 x : Snp
 told : Int
 one : Option Tk
 i : Int
 got : List Smp
 fails : Int
 over : Bool
 res : Res
namespace Run
def new (who : Int) (o : Opr) : Run := ⟨who, o, 0, SlotV.zero, SlotV.zero, false, false, false, Snp.zero, 0, none, 0, [], 0, false, ⟨0, 0, []⟩⟩
def stop (r : Run) (s : Shd) (res : Res) (did : Int) : Run × Shd × Int := ({ r with over := true, res := res }, s, did)
def refuse (r : Run) (s : Shd) (e : Int) : Run × Shd × Int := r.stop s ⟨e, 0, []⟩ 2
def take (r : Run) (s : Shd) : Run × Shd × Bool := match Dir.look s.d r.o.series with
 | none => (r, s, false)
 | some sl => match Dir.take s.d r.o.series r.who with
  | none => (r, s, false)
  | some D => ({ r with slot := sl, flag := true, ph := 1 }, { s with d := D }, true)
def publish (r : Run) (s : Shd) (sl : SlotV) : Run × Shd := ({ r with flag := false }, { s with d := (Dir.leave s.d r.o.series r.who sl).getD s.d })
def wrong (r : Run) : Int :=
 if r.o.kind ≠ 1 ∧ r.slot.there = false then 3
 else if r.o.kind ≠ 4 ∧ r.slot.there = true ∧ r.slot.closed = true then 2
 else if r.o.kind = 1 ∧ r.slot.there = true ∧ r.slot.any = true ∧ r.o.T <= r.slot.last then 1
 else 0
def close (r : Run) (s : Shd) : Run × Shd × Bool :=
 let size := r.next.size
 let bs := (chMake 1 r.next.opn).getD []
 let b1 := (s.b.chg (wI (0 - size))).2
 match b1.add bs with
 | none => (r, { s with b := (b1.chg size).2 }, false)
 | some (b2, id) =>
  let h := ((headDec bs).map (·.1)).getD ⟨0, 0, 0, 0⟩
  ({ r with next := { r.next with chunks := r.next.chunks ++ [⟨id, h.tag, h.count, h.f, h.t⟩], opn := [] } }, { s with b := b2 }, true)
def add (r : Run) (s : Shd) : Run × Shd × Bool :=
 let n0 := if r.next.there then r.next else { SlotV.zero with there := true, life := r.slot.life }
 let r := { r with next := n0.add ⟨r.o.T, (r.o.V : Int)⟩ }
 match s.b.chg 16 with
 | (false, _) => (r, s, false)
 | (true, b) =>
  if r.next.opn.length < 8 then (r, { s with b := b }, true)
  else match r.close { s with b := b } with
   | (r, s, true) => (r, s, true)
   | (r, s, false) => (r, { s with b := (s.b.chg (-16)).2 }, false)
def drop (r : Run) (s : Shd) : Run × Shd × Bool :=
 ({ r with next := { SlotV.zero with life := wI (r.slot.life + 1) } }, { s with b := ((s.b.chg (wI (0 - r.slot.size))).2).leave r.slot.chunks }, true)
def seal_ (r : Run) (s : Shd) : Run × Shd × Bool :=
 let r := { r with next := { r.next with closed := true } }
 if r.next.opn.length = 0 then (r, s, true) else r.close s
def make (r : Run) (s : Shd) : Run × Shd × Bool :=
 let r := { r with next := r.slot }
 if r.o.kind = 1 then r.add s else if r.o.kind = 3 then r.seal_ s else r.drop s
def write (r : Run) (s : Shd) : Run × Shd × Int :=
 if r.ph = 0 then match r.take s with
  | (r, s, true) => (r, s, 1)
  | (r, s, false) => (r, s, 0)
 else if r.ph = 1 then
  if r.wrong ≠ 0 then let q := r.publish s r.slot; q.1.refuse q.2 r.wrong
  else match r.make s with
   | (r, s, false) => let q := r.publish s r.slot; q.1.stop q.2 ⟨9, 0, []⟩ 3
   | (r, s, true) => ({ r with ph := 3 }, s, 1)
 else let q := r.publish s r.next; q.1.stop q.2 ⟨0, 0, []⟩ 2
def leave (r : Run) (s : Shd) : Run × Shd :=
 let C := match r.one with | none => s.c | some x => (x.leave s.c).2
 let s := { s with c := C }
 let s := if r.held then { s with b := s.b.leave r.x.parts } else s
 let r := { r with held := false }
 let q := if r.flag then r.publish s r.slot else (r, s)
 ({ q.1 with one := none, i := 0, got := [] }, q.2)
def part (r : Run) (s : Shd) (series : Int) : Run × Shd × Int :=
 let x := match r.one with
  | some x => x
  | none => let p := r.x.parts.getD r.i.toNat ⟨0, 0, 0, 0, 0⟩; Tk.new series r.x.life p.blob r.x.frm r.x.upto
 let q := x.step s.b s.c
 let s := { s with c := q.2.1 }
 if q.2.2 ≠ 0 then ({ r with one := some q.1 }, s, q.2.2)
 else if q.1.done then ({ r with one := none, got := r.got ++ q.1.out, i := wI (r.i + 1) }, s, 0)
 else ({ r with one := some q.1 }, s, 0)
def begin_ (r : Run) (s : Shd) (sl : SlotV) : Run × Shd × Int :=
 if sl.there = false then let q := r.leave s; q.1.refuse q.2 3
 else
  let r := { r with x := sl.snap r.o.F r.o.To }
  match s.b.hold [] r.x.parts with
  | (false, b) => let q := r.leave { s with b := b }; q.1.stop q.2 ⟨7, 0, []⟩ 3
  | (true, b) => ({ r with held := true, ph := if r.x.parts.length = 0 then 3 else 2 }, { s with b := b }, 1)
def answer (r : Run) (s : Shd) : Run × Shd × Int :=
 let L := r.got ++ r.x.tail
 let q := r.leave s
 q.1.stop q.2 ⟨0, 0, L⟩ 2
def look (r : Run) (s : Shd) : Run × Shd × Int :=
 if r.fails ≥ 3 then match r.take s with
  | (r, s, true) => (r, s, 1)
  | (r, s, false) => (r, s, 0)
 else match Dir.look s.d r.o.series with
  | none => (r, s, 0)
  | some sl => r.begin_ s sl
def read (r : Run) (s : Shd) : Run × Shd × Int :=
 if r.ph = 0 then r.look s
 else if r.ph = 1 then r.begin_ s r.slot
 else if r.ph = 2 then match r.part s r.o.series with
  | (r, s, e) => if e ≠ 0 then let q := r.leave s; q.1.stop q.2 ⟨e, 0, []⟩ 3
   else ({ r with ph := if r.i = (r.x.parts.length : Int) then 3 else 2 }, s, 1)
 else if r.flag then r.answer s
 else match Dir.look s.d r.o.series with
  | some sl => if sl.life = r.x.life ∧ sl.ver = r.x.ver then r.answer s else let q := r.leave s; ({ q.1 with fails := wI (q.1.fails + 1), ph := 0 }, q.2, 1)
  | none => let q := r.leave s; ({ q.1 with fails := wI (q.1.fails + 1), ph := 0 }, q.2, 1)
def open_ (r : Run) (s : Shd) : Run × Shd × Int := match Dir.look s.d r.o.series with
 | none => (r, s, 0)
 | some sl =>
  if sl.there = false then r.refuse s 3
  else if s.t.l.length ≥ 8 then r.refuse s 5
  else
   let x := sl.snap r.o.F r.o.To
   match s.b.hold [] x.parts with
   | (false, b) => r.stop { s with b := b } ⟨7, 0, []⟩ 3
   | (true, b) => r.stop { s with b := b, t := ⟨s.t.last + 1, mset (s.t.last + 1) ⟨r.o.series, 0, x, false, 0⟩ s.t.l⟩ } ⟨0, s.t.last + 1, []⟩ 2
def use (r : Run) (s : Shd) : Run × Shd × Int × Bool := match mget r.o.iter s.t.l with
 | none => let q := r.refuse s 3; (q.1, q.2.1, q.2.2, false)
 | some o => if o.used = true ∧ o.who ≠ r.who then (r, s, 0, false)
  else ({ r with using_ := true }, { s with t := ⟨s.t.last, mset r.o.iter { o with used := true, who := r.who } s.t.l⟩ }, 1, true)
def mine (r : Run) (s : Shd) : Option On := match mget r.o.iter s.t.l with
 | none => none
 | some o => if o.used = true ∧ o.who = r.who then some o else none
def free (r : Run) (s : Shd) : Run × Shd :=
 ({ r with using_ := false }, match r.mine s with | none => s | some o => { s with t := ⟨s.t.last, mset r.o.iter { o with used := false } s.t.l⟩ })
def hand (r : Run) (s : Shd) (L : List Smp) : Run × Shd × Int :=
 let s := match r.mine s with | none => s | some o => { s with t := ⟨s.t.last, mset r.o.iter { o with told := wI (o.told + max (L.length : Int) 0) } s.t.l⟩ }
 let q := r.free s
 q.1.stop q.2 ⟨0, 0, L⟩ 2
def tell (r : Run) (s : Shd) : Run × Shd × Int :=
 let n := min (max r.o.N 0) 1000
 let on := (mget r.o.iter s.t.l).getD ⟨0, 0, Snp.zero, false, 0⟩
 if r.ph = 0 then match r.use s with
  | (r, s, did, false) => (r, s, did)
  | (r, s, _, true) =>
   let r := { r with x := on.x, told := on.told, ph := 2 }
   if n = 0 then r.hand s [] else ({ r with ph := if on.x.parts.length = 0 then 3 else 2 }, s, 1)
 else if r.ph = 2 then match r.part s on.series with
  | (r, s, e) => if e ≠ 0 then
    let s := match r.one with | none => s | some x => { s with c := (x.leave s.c).2 }
    let r := match r.one with | none => r | some x => { r with one := some (x.leave s.c).1 }
    let q := r.free s; q.1.stop q.2 ⟨e, 0, []⟩ 3
   else ({ r with ph := if r.i = (on.x.parts.length : Int) ∨ (r.got.length : Int) ≥ wI (r.told + n) then 3 else 2 }, s, 1)
 else
  let L := if r.i = (on.x.parts.length : Int) then r.got ++ on.x.tail else r.got
  let L := L.drop (min r.told (L.length : Int)).toNat
  r.hand s (L.take (min n (L.length : Int)).toNat)
def shut (r : Run) (s : Shd) : Run × Shd × Int := match r.use s with
 | (r, s, did, false) => (r, s, did)
 | (r, s, _, true) =>
  let x := ((r.mine s).map (·.x)).getD Snp.zero
  let s := { s with t := ⟨s.t.last, mdel r.o.iter s.t.l⟩ }
  ({ r with using_ := false }).stop { s with b := s.b.leave x.parts } ⟨0, 0, []⟩ 2
def bad (o : Opr) : Bool := if 1 <= o.kind ∧ o.kind <= 5 then decide (o.series < 0) || decide (o.series ≥ 16) else !(o.kind == 6) && !(o.kind == 7)
def step (r : Run) (s : Shd) : Run × Shd × Int :=
 if r.over then (r, s, 0)
 else if bad r.o then r.refuse s 4
 else if r.o.kind = 2 then r.read s
 else if r.o.kind = 5 then r.open_ s
 else if r.o.kind = 6 then r.tell s
 else if r.o.kind = 7 then r.shut s
 else r.write s
def holds (r : Run) : Int := (if r.flag then 1 else 0) + (if r.using_ then 1 else 0) + (if r.held then 1 else 0)
end Run
end
end Go.Proofs.YtngdfdangkdgcaaGreatDoor
