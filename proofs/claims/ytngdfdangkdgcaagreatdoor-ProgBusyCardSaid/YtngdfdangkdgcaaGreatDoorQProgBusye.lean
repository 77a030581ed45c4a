/- What the proof of ProgBusy needs, part 5: plain lemmas, and what each function does. -/
import Derived.Test.YtngdfdangkdgcaaGreatDoorQProgBusyd
set_option linter.unusedVariables false
set_option linter.unusedSimpArgs false
set_option linter.unnecessarySimpa false
set_option maxRecDepth 100000
set_option maxHeartbeats 4000000
namespace Go.Hw
section
theorem wq {α : Type} {f : α -> List Value} {sz : Nat} (hf : ∀ x, (f x).length = sz) (y : α) : ∀ (L : List α) (k : Nat), k < L.length -> (L.flatMap f).take (k * sz) ++ f y ++ (L.flatMap f).drop (k * sz + (f y).length) = (L.set k y).flatMap f
 | [], k, h => by simp at h
 | a :: L, 0, h => by
  rw [Nat.zero_mul, Xk, Up, Uz, Vf, Uh, Uh, hf y, <- hf a, Zu]
 | a :: L, k + 1, h => by
  rw [Vm, Uh, Uh, <- wq hf y L k O15]
  have e1 : (k + 1) * sz = (f a).length + k * sz := by rw [hf, Vi]; omega
  rw [e1, List.take_length_add_append, Kf, List.drop_length_add_append]
  simp only [Um]
section
variable {P : Program} {e : Env} {w w0 : World} {K : Env -> World -> Prop} {l : List HProp}
variable {ty : TypeId} {pos : String} {af : Array Edge} {g : Option (Nat × Bool)}
end
end
end Go.Hw
namespace Go.Proofs.YtngdfdangkdgcaaGreatDoor
open Go.Hw _root_.Go.Proofs.Tryz
section
structure Q4 where
 a4 : Option Addr
 c4 : Nat
 a5 : Option Addr
 c5 : Nat
abbrev OwnPr (a : Option Addr) (c : Nat) (Ps : List Prt) : HProp := Own 168 5 a Ps.length c (prtsV Ps)
def plC (e : Plc × Q4) : List Value := e.1.s.cells e.2.a4 e.2.c4 e.2.a5 e.2.c5 ++ [.bool e.1.taken, .iz e.1.who]
theorem plC_len (e : Plc × Q4) : (plC e).length = 10 := rfl
def plO (e : Plc × Q4) : HProp := all [OwnS e.2.a4 e.2.c4 e.1.s.opn, OwnPr e.2.a5 e.2.c5 e.1.s.chunks]
abbrev DirPt (d : Nat) (E : List (Plc × Q4)) : HProp := pt d (.cells (E.flatMap plC).toArray 129 (0, 0))
def IsDir (d : Nat) (D : List Plc) : HProp := ex fun E : List (Plc × Q4) => all [lift (E.map (·.1) = D ∧ E.length = 16), DirPt d E, all (E.map plO)]
section
variable {w0 w : World} {l : List HProp} {d : Nat} {D : List Plc} {E : List (Plc × Q4)} {k : Nat} {e e' : Plc × Q4}
theorem St.dir : St w0 (IsDir d D :: l) w ↔ ∃ E : List (Plc × Q4), (E.map (·.1) = D ∧ E.length = 16) ∧ St w0 (DirPt d E :: all (E.map plO) :: l) w := by
 unfold IsDir
 rw [St.ex]
 constructor
 ·rintro ⟨E, h⟩
  obtain ⟨hl, h⟩ := St.lift.1 h.join
  exact ⟨E, hl, h⟩
 ·rintro ⟨E, hl, h⟩
  exact ⟨E, St.fold [_, _, _] (St.lift.2 ⟨hl, h⟩)⟩
theorem plO_get (he : E[k]? = some e) : all (E.map plO) = star (plO e) (all ((E.map plO).eraseIdx k)) := by
 have h1 : (E.map plO)[k]? = some (plO e) := by rw [Wp, he]; rfl
 rw [<- yy k, uf k _ h1]; rfl
theorem plO_set (he : E[k]? = some e) : all ((E.set k e').map plO) = star (plO e') (all ((E.map plO).eraseIdx k)) := by
 have hk := (Uf.1 he).1
 have h1 : (E.set k e')[k]? = some e' := by rw [Wi hk]
 rw [plO_get h1, List.map_set, List.eraseIdx_set_eq]
theorem star3 (A B R T : HProp) : star (star (all [A, B]) R) T = star A (star B (star R T)) := by
 show star (star (star A (star B emp)) R) T = _
 rw [jf, jf, jf, ko]
theorem St.place (he : E[k]? = some e) (h : St w0 (all (E.map plO) :: l) w) : St w0 (OwnS e.2.a4 e.2.c4 e.1.s.opn :: OwnPr e.2.a5 e.2.c5 e.1.s.chunks :: all ((E.map plO).eraseIdx k) :: l) w := by
 refine h.of_all ?_
 rw [jn, plO_get he]
 exact star3 _ _ _ _
theorem St.unplace (he : E[k]? = some e) (h : St w0 (OwnS e'.2.a4 e'.2.c4 e'.1.s.opn :: OwnPr e'.2.a5 e'.2.c5 e'.1.s.chunks :: all ((E.map plO).eraseIdx k) :: l) w) : St w0 (all ((E.set k e').map plO) :: l) w := by
 refine h.of_all ?_
 rw [jn (all ((E.set k e').map plO)), plO_set he]
 exact (star3 _ _ _ _).symm
theorem St.placed (he : E[k]? = some e) (h : St w0 (OwnS e.2.a4 e.2.c4 e.1.s.opn :: OwnPr e.2.a5 e.2.c5 e.1.s.chunks :: all ((E.map plO).eraseIdx k) :: l) w) : St w0 (all (E.map plO) :: l) w := by
 refine h.of_all ?_
 rw [jn (all (E.map plO)), plO_get he]
 exact (star3 _ _ _ _).symm
theorem plO_same (he : E[k]? = some e) (h : plO e' = plO e) : all ((E.set k e').map plO) = all (E.map plO) := by rw [plO_set he, plO_get he, h]
def plZ : Plc × Q4 := (⟨SlotV.zero, false, 0⟩, ⟨none, 0, none, 0⟩)
theorem St.plNil : ∀ (n : Nat), St w0 l w -> St w0 (all ((List.replicate n plZ).map plO) :: l) w
 | 0, h => St.fold [] h
 | n + 1, h => ((St.plNil n h).ownNil 168 5).ownNil 57 2 |>.of_all (by
   rw [Zf, Ux]
   show _ = star (star (plO plZ) _) _
   exact (star3 _ _ _ _).symm)
theorem de {α : Type} {f : α -> List Value} {sz b : Nat} {T : TypeId} {fr : Nat × Nat} {E : List α} {x : α} (hf : ∀ x, (f x).length = sz) (hb : w.heap[b]? = some (.cells (E.flatMap f).toArray T fr)) (hk : E[k]? = some x) : At w b (k * sz) (f x) :=
 fun j v hj => yz hb (zp hf E k x hk j v hj)
theorem At.left {b o : Nat} {A B : List Value} (h : At w b o (A ++ B)) : At w b o A := fun j v hj => h j v (by rw [Wa (Uf.1 hj).1]; exact hj)
theorem o7 {id : Int} (hE : E.map (·.1) = D ∧ E.length = 16) : (∃ (k : Nat) (e : Plc × Q4), id = (k : Int) ∧ k < 16 ∧ E[k]? = some e ∧ Dir.at_ D id = some e.1) ∨ ((id < 0 ∨ id ≥ 16) ∧ Dir.at_ D id = none) := by
 by_cases h : 0 <= id ∧ id < 16
 ·have hlt : id.toNat < E.length := by omega
  obtain ⟨e, he⟩ : ∃ e, E[id.toNat]? = some e := ⟨_, Uc hlt⟩
  refine .inl ⟨id.toNat, e, O_o, O_o, he, ?_⟩
  obtain ⟨rfl, _⟩ := hE
  unfold Dir.at_
  rw [if_pos h, Wp, he]; rfl
 ·refine .inr ⟨O_o, ?_⟩
  unfold Dir.at_
  rw [if_neg h]
end
end
section
def opC (any : Bool) (last : Int) (a : Option Addr) (n c : Nat) : List Value := [.bool any, .iz last, .slice a n c]
abbrev openZ : List Value := opC false 0 none 0 0
section
variable {w0 w : World} {l : List HProp} {d : Nat} {D : List Plc}
theorem xd {a : Option Addr} {c n : Nat} {xs : List Value} (h : St w0 (Own 168 5 a n c xs :: l) w) : Ret prog 95 [.slice a n c] w fun v w' => v = .slice a n n ∧ St w0 (Own 168 5 a n n xs :: l) w' := by
 have hc := h.own_cases.2.1
 refine en func95 results95 ntmps95 ?_
 refine Y2c ?_; refine Ye ?_; refine Y17 ?_; refine Y17 ?_
 refine r_v (xv (h := n) (h' := n) rfl rfl rfl (Ug _) hc) rfl ?_
 refine Yw ?_
 exact qk (bq1 ⟨rfl, h.own_clip⟩)
theorem zk {any : Bool} {last : Int} {a4 : Option Addr} {c4 : Nat} {L : List Smp} (hn : L.length <= 1073741824) (hr : Reads w0 l 2 a4 L.length (smpsV L)) (h : St w0 l w) :
  Ret prog 125 [.agg (opC any last a4 L.length c4).toArray] w fun v w' => ∃ a, v = .agg (opC any last a L.length L.length).toArray ∧ St w0 (OwnS a L.length L :: l) w' := by
 refine en func125 results125 ntmps125 ?_
 refine Y1 ?_
 refine r_c rfl (jv h (show _ = Value.agg (opC any last a4 L.length c4).toArray from rfl) fun b1 w h => ?_)
 refine r_c rfl (qp h fun b2 w h => ?_)
 replace h : St w0 (pt b2 (.cells openZ.toArray 82 (0, 0)) :: pt b1 (.cells (opC any last a4 L.length c4).toArray 82 (0, 0)) :: l) w := h
 refine Y3n ?_
 refine r_v (qq (v := .slice a4 L.length c4) rfl (h.b 1 rfl) rfl) rfl ?_
 refine r_c rfl (qg rfl (uq (n := L.length) h (fun w' h' => (hr.more [_, _]).rd w' h') (jt _) O0) ?_)
 clear h
 rintro _ w ⟨a, c, rfl, _, h⟩
 refine r_c rfl (qg rfl (mg h) ?_)
 clear h
 rintro _ w ⟨rfl, h⟩
 refine Yk ?_
 refine r_c rfl (qb 2 h rfl (show _ = Value.slice a L.length L.length from rfl) rfl rfl rfl rfl fun w h => ?_)
 replace h : St w0 (OwnS a L.length L :: pt b2 (.cells openZ.toArray 82 (0, 0)) :: pt b1 (.cells (opC any last a L.length L.length).toArray 82 (0, 0)) :: l) w := h
 refine Yn ?_
 refine r_v (qx (l := opC any last a L.length L.length) rfl rfl (qw (h.b 2 rfl) rfl)) rfl ?_
 refine r_c rfl (qy (vs := opC any last a L.length L.length) 1 h rfl rfl rfl rfl rfl rfl rfl fun w h => ?_)
 replace h : St w0 (OwnS a L.length L :: pt b2 (.cells (opC any last a L.length L.length).toArray 82 (0, 0)) :: pt b1 (.cells (opC any last a L.length L.length).toArray 82 (0, 0)) :: l) w := h
 exact qv (qk (bqS1 (l := opC any last a L.length L.length) rfl rfl (qw (h.b 1 rfl) rfl) ⟨a, rfl, h.x [1, 2]⟩))
theorem zy {s : SlotV} {a4 a5 : Option Addr} {c4 c5 : Nat} (hn4 : s.opn.length <= 1073741824) (hn5 : s.chunks.length <= 1073741824) (hr4 : Reads w0 l 2 a4 s.opn.length (smpsV s.opn)) (hr5 : Reads w0 l 5 a5 s.chunks.length (prtsV s.chunks)) (h : St w0 l w) :
  Ret prog 94 [.agg (s.cells a4 c4 a5 c5).toArray] w fun v w' => ∃ a b, v = .agg (s.cells a s.opn.length b s.chunks.length).toArray ∧ St w0 (OwnS a s.opn.length s.opn :: OwnPr b s.chunks.length s.chunks :: l) w' := by
 refine en func94 results94 ntmps94 ?_
 refine Y1 ?_
 refine r_c rfl (jv h (show _ = Value.agg (s.cells a4 c4 a5 c5).toArray from rfl) fun b1 w h => ?_)
 refine r_c rfl (qp h fun b2 w h => ?_)
 replace h : St w0 (pt b2 (.cells (SlotV.zero.cells none 0 none 0).toArray 85 (0, 0)) :: pt b1 (.cells (s.cells a4 c4 a5 c5).toArray 85 (0, 0)) :: l) w := h
 refine Y3n ?_
 refine r_v (qx (l := opC s.any s.last a4 s.opn.length c4) rfl rfl (qw (h.b 1 rfl) rfl)) rfl ?_
 refine r_c rfl (qg rfl (zk hn4 (hr4.more [_, _]) h) ?_)
 clear h
 rintro _ w ⟨a, rfl, h⟩
 refine Yk ?_
 refine r_c rfl (qy (vs := opC s.any s.last a s.opn.length s.opn.length) 2 h rfl rfl rfl rfl rfl rfl rfl fun w h => ?_)
 replace h : St w0 (OwnS a s.opn.length s.opn :: pt b2 (.cells (SlotV.zero.cells none 0 none 0).toArray 85 (0, 0)) :: pt b1 (.cells (s.cells a s.opn.length a5 c5).toArray 85 (0, 0)) :: l) w := h
 refine Y3n ?_
 refine r_v (qq (v := .slice a5 s.chunks.length c5) rfl (h.b 2 rfl) rfl) rfl ?_
 refine r_c rfl (qg rfl (x8 (n := s.chunks.length) h (fun w' h' => (hr5.more [_, _, _]).rd w' h') (v9 _) O0) ?_)
 clear h
 rintro _ w ⟨b, c, rfl, _, h⟩
 refine r_c rfl (qg rfl (xd h) ?_)
 clear h
 rintro _ w ⟨rfl, h⟩
 refine Yk ?_
 refine r_c rfl (qb 3 h rfl (show _ = Value.slice b s.chunks.length s.chunks.length from rfl) rfl rfl rfl rfl fun w h => ?_)
 replace h : St w0 (OwnPr b s.chunks.length s.chunks :: OwnS a s.opn.length s.opn :: pt b2 (.cells (SlotV.zero.cells none 0 none 0).toArray 85 (0, 0)) :: pt b1 (.cells (s.cells a s.opn.length b s.chunks.length).toArray 85 (0, 0)) :: l) w := h
 refine Yn ?_
 refine r_v (qx (l := s.cells a s.opn.length b s.chunks.length) rfl rfl (qw (h.b 3 rfl) rfl)) rfl ?_
 refine r_c rfl (qy (vs := s.cells a s.opn.length b s.chunks.length) 2 h rfl rfl rfl rfl rfl rfl rfl fun w h => ?_)
 replace h : St w0 (OwnPr b s.chunks.length s.chunks :: OwnS a s.opn.length s.opn :: pt b2 (.cells (s.cells a s.opn.length b s.chunks.length).toArray 85 (0, 0)) :: pt b1 (.cells (s.cells a s.opn.length b s.chunks.length).toArray 85 (0, 0)) :: l) w := h
 exact qv (qk (bqS1 (l := s.cells a s.opn.length b s.chunks.length) rfl rfl (qw (h.b 2 rfl) rfl) ⟨a, b, rfl, (h.x [2, 3]).f 1⟩))
instance undPlaces : Und prog 127 (.array 16 126) := ⟨underlying127⟩
theorem nw (id : Int) (h : St w0 l w) : Ret prog 93 [.pz d, .iz id] w fun v w' => v = .pointer (if 0 <= id ∧ id < 16 then some ⟨d, id.toNat * 10, none⟩ else none) ∧ St w0 l w' := by
 refine en func93 results93 ntmps93 ?_
 refine Y1 ?_; refine Y4u ?_; refine Y8 ?_; refine Y1u ?_
 by_cases h0 : id < 0
 ·refine qz (.bool true) O3 ?_
  refine Y1v ?_; refine Y1s ?_; refine Y1 ?_; refine Y1i ?_
  exact qv (qk (bq1 ⟨by rw [if_neg O0]; rfl, h⟩))
 refine qz (.bool false) O4 ?_
 refine Y23 ?_; refine Y1m ?_
 by_cases h1 : id ≥ 16
 ·refine qz (.bool true) O3 ?_
  refine Y9 ?_; refine Y27 ?_; refine Y1i ?_
  exact qv (qk (bq1 ⟨by rw [if_neg O0]; rfl, h⟩))
 refine qz (.bool false) O4 ?_
 refine Y9 ?_; refine Yb ?_; refine Y40 ?_; refine Yi ?_
 refine r_v (k9 (j := id.toNat) (o' := id.toNat * 10) rfl rfl O0 O0 (Uz _)) rfl ?_
 refine Y1i ?_
 exact qv (qk (bq1 ⟨by rw [if_pos O0]; rfl, h⟩))
theorem mv (id : Int) (hsz : ∀ p ∈ D, p.s.opn.length <= 1073741824 ∧ p.s.chunks.length <= 1073741824) (h : St w0 (IsDir d D :: l) w) :
  Ret prog 61 [.pz d, .iz id] w fun v w' => match Dir.look D id with
   | some s => ∃ a b, v = .tuple [.agg (s.cells a s.opn.length b s.chunks.length).toArray, .bool true].toArray ∧ St w0 (OwnS a s.opn.length s.opn :: OwnPr b s.chunks.length s.chunks :: IsDir d D :: l) w'
   | none => v = .tuple [.agg (SlotV.zero.cells none 0 none 0).toArray, .bool false].toArray ∧ St w0 (IsDir d D :: l) w' := by
 refine en func61 results61 ntmps61 ?_
 refine Y1 ?_
 refine r_c rfl (qp h fun b1 w h => ?_)
 replace h : St w0 (pt b1 (.cells (SlotV.zero.cells none 0 none 0).toArray 85 (0, 0)) :: IsDir d D :: l) w := h
 refine Ya ?_; refine Y40 ?_
 refine r_c rfl (qg rfl (nw (d := d) id h) ?_)
 clear h
 rintro _ w ⟨rfl, h⟩
 obtain ⟨E, hE, h⟩ := St.dir.1 (h.f 1)
 rcases o7 (id := id) hE with ⟨k, e, rfl, hk, hke, hat⟩ | ⟨hid, hat⟩
 ·rw [if_pos O0]
  have hkt : ((k : Nat) : Int).toNat = k := by omega
  rw [hkt]
  have hrow := de plC_len (h.b 0 rfl) hke
  have hver := hrow 3 (.iz e.1.s.ver) rfl
  refine Y3d ?_; refine Y32 ?_; refine Y4w ?_
  refine r_v (jj (v := .iz e.1.s.ver) rfl hver) rfl ?_
  refine Yc ?_
  refine r_v (nl rfl rfl O2) rfl ?_
  refine Y3b ?_
  by_cases hv : e.1.s.ver.tmod 2 = 1
  ·refine qz (.bool true) (by congr 1; rw [beq_iff_eq]; exact hv) ?_
   refine Y9 ?_
   have hl : Dir.look D (k : Int) = none := by unfold Dir.look; rw [hat]; exact if_pos hv
   rw [hl]
   refine Y27 ?_
   refine r_v (qc (r := SlotV.zero.cells none 0 none 0) rfl) rfl ?_
   refine r_c rfl (qy (vs := SlotV.zero.cells none 0 none 0) 2 h rfl rfl rfl rfl rfl rfl rfl fun w h => ?_)
   refine Y7 ?_
   exact qv (qk (bqS2 (l := SlotV.zero.cells none 0 none 0) rfl rfl (qw (h.b 2 rfl) rfl) ⟨rfl, (St.dir.2 ⟨E, hE, h.x [2]⟩)⟩))
  ·refine qz (.bool false) (by congr 1; rw [beq_eq_false_iff_ne]; exact hv) ?_
   refine Y9 ?_
   have hl : Dir.look D (k : Int) = some e.1.s := by unfold Dir.look; rw [hat]; exact if_neg hv
   have hmem : e.1 ∈ D := by rw [<- hE.1]; exact List.mem_map_of_mem (Uj hke)
   obtain ⟨n4, n5⟩ := hsz e.1 hmem
   rw [hl]
   refine Yb ?_; refine Y5 ?_
   refine r_v (qx (l := e.1.s.cells e.2.a4 e.2.c4 e.2.a5 e.2.c5) rfl rfl (At.left (B := [.bool e.1.taken, .iz e.1.who]) hrow)) rfl ?_
   have h := St.place hke (h.f 1)
   refine r_c rfl (qg rfl (zy n4 n5 Reads.own (Reads.own.cons) h) ?_)
   clear h
   rintro _ w ⟨a, b, rfl, h⟩
   refine r_c rfl (qy (vs := e.1.s.cells a e.1.s.opn.length b e.1.s.chunks.length) 6 h rfl rfl rfl rfl rfl rfl rfl fun w h => ?_)
   replace h : St w0 (OwnS a e.1.s.opn.length e.1.s.opn :: OwnPr b e.1.s.chunks.length e.1.s.chunks :: OwnS e.2.a4 e.2.c4 e.1.s.opn :: OwnPr e.2.a5 e.2.c5 e.1.s.chunks :: all ((E.map plO).eraseIdx k) :: DirPt d E :: pt b1 (.cells (e.1.s.cells a e.1.s.opn.length b e.1.s.chunks.length).toArray 85 (0, 0)) :: l) w := h
   refine Y7 ?_
   refine qv (qk (bqS2 (l := e.1.s.cells a e.1.s.opn.length b e.1.s.chunks.length) rfl rfl (qw (h.b 6 rfl) rfl) ⟨a, b, rfl, ?_⟩))
   exact (St.dir.2 ⟨E, hE, (St.placed hke ((h.x [6]).o [2, 3, 4])).o [3, 0]⟩).o [1, 2]
 ·rw [if_neg O0]
  refine Y3d ?_; refine Y37 ?_; refine Y2d ?_; refine Yf ?_
  have hl : Dir.look D id = none := by unfold Dir.look; rw [hat]
  rw [hl]
  refine Y27 ?_
  refine r_v (qc (r := SlotV.zero.cells none 0 none 0) rfl) rfl ?_
  refine r_c rfl (qy (vs := SlotV.zero.cells none 0 none 0) 2 h rfl rfl rfl rfl rfl rfl rfl fun w h => ?_)
  replace h : St w0 (DirPt d E :: all (E.map plO) :: pt b1 (.cells (SlotV.zero.cells none 0 none 0).toArray 85 (0, 0)) :: l) w := h
  refine Y7 ?_
  exact qv (qk (bqS2 (l := SlotV.zero.cells none 0 none 0) rfl rfl (qw (h.b 2 rfl) rfl) ⟨rfl, (St.dir.2 ⟨E, hE, h.x [2]⟩)⟩))
theorem mu (id who : Int) (h : St w0 (IsDir d D :: l) w) :
  Ret prog 105 [.pz d, .iz id, .iz who] w fun v w' => v = .bool (Dir.take D id who).isSome ∧ St w0 (IsDir d ((Dir.take D id who).getD D) :: l) w' := by
 refine en func105 results105 ntmps105 ?_
 refine Y12 ?_; refine Y40 ?_
 refine r_c rfl (qg rfl (nw (d := d) id h) ?_)
 clear h
 rintro _ w ⟨rfl, h⟩
 obtain ⟨E, hE, h⟩ := St.dir.1 h
 rcases o7 (id := id) hE with ⟨k, e, rfl, hk, hke, hat⟩ | ⟨hid, hat⟩
 ·rw [if_pos O0]
  have hkt : ((k : Nat) : Int).toNat = k := by omega
  rw [hkt]
  have hkl := (Uf.1 hke).1
  have hrow := de plC_len (h.b 0 rfl) hke
  refine Y3d ?_; refine Y32 ?_
  refine r_v (jj (v := .bool e.1.taken) rfl (hrow 8 (.bool e.1.taken) rfl)) rfl ?_
  cases ht : e.1.taken with
  | true =>
   refine Y9 ?_
   have hl : Dir.take D (k : Int) who = none := by unfold Dir.take; rw [hat]; exact if_pos ht
   rw [hl]
   refine Y27 ?_; refine Y7 ?_
   exact qv (qk (bq1 ⟨rfl, St.dir.2 ⟨E, hE, h⟩⟩))
  | false =>
   refine Y9 ?_
   have hl : Dir.take D (k : Int) who = some (D.set k ⟨{ e.1.s with ver := wI (e.1.s.ver + 1) }, true, who⟩) := by unfold Dir.take; rw [hat, hkt]; dsimp only; rw [ht]; rfl
   rw [hl]
   refine Yb ?_; refine Y10 ?_; refine Y0 ?_; refine Yi ?_
   refine r_c rfl (qb 0 h rfl (show _ = Value.bool true from rfl) rfl (by rw [Xq, flat_len plC_len]; omega) rfl rfl fun w h => ?_)
   replace h : St w0 (pt d (.cells ((E.flatMap plC).set (k * 10 + 8) (.bool true)).toArray 129 (0, 0)) :: all (E.map plO) :: l) w := h
   rw [ka plC_len E k e (⟨e.1.s, true, e.1.who⟩, e.2) 8 (.bool true) hke O2 rfl] at h
   have hk1 : (E.set k (⟨e.1.s, true, e.1.who⟩, e.2))[k]? = some (⟨e.1.s, true, e.1.who⟩, e.2) := Wi hkl
   refine Yi ?_
   refine r_c rfl (qb 0 h rfl (show _ = Value.iz who from rfl) rfl (by rw [Xq, flat_len plC_len, Vd]; omega) rfl rfl fun w h => ?_)
   replace h : St w0 (pt d (.cells (((E.set k (⟨e.1.s, true, e.1.who⟩, e.2)).flatMap plC).set (k * 10 + 9) (.iz who)).toArray 129 (0, 0)) :: all (E.map plO) :: l) w := h
   rw [ka plC_len _ k _ (⟨e.1.s, true, who⟩, e.2) 9 (.iz who) hk1 O2 rfl, Kd] at h
   have hk2 : (E.set k (⟨e.1.s, true, who⟩, e.2))[k]? = some (⟨e.1.s, true, who⟩, e.2) := Wi hkl
   have hrow := de plC_len (h.b 0 rfl) hk2
   refine Y2 ?_; refine Y3o ?_
   refine r_v (jj (v := .iz e.1.s.ver) rfl (hrow 3 (.iz e.1.s.ver) rfl)) rfl ?_
   refine Y1f ?_; refine Yi ?_; refine Yk ?_
   refine r_c rfl (qb 0 h rfl (show _ = Value.iz (wI (e.1.s.ver + 1)) from rfl) rfl (by rw [Xq, flat_len plC_len, Vd]; omega) rfl rfl fun w h => ?_)
   replace h : St w0 (pt d (.cells (((E.set k (⟨e.1.s, true, who⟩, e.2)).flatMap plC).set (k * 10 + 3) (.iz (wI (e.1.s.ver + 1)))).toArray 129 (0, 0)) :: all (E.map plO) :: l) w := h
   rw [ka plC_len _ k _ (⟨{ e.1.s with ver := wI (e.1.s.ver + 1) }, true, who⟩, e.2) 3 (.iz (wI (e.1.s.ver + 1))) hk2 O2 rfl, Kd] at h
   refine Yn ?_; refine Y7 ?_
   refine qv (qk (bq1 ⟨rfl, St.dir.2 ⟨E.set k (⟨{ e.1.s with ver := wI (e.1.s.ver + 1) }, true, who⟩, e.2), ⟨by rw [List.map_set, hE.1]; rfl, by rw [Vd]; exact hE.2⟩, h.of_all ?_⟩⟩))
   rw [plO_same (e' := (⟨{ e.1.s with ver := wI (e.1.s.ver + 1) }, true, who⟩, e.2)) hke rfl]
 ·rw [if_neg O0]
  refine Y3d ?_; refine Y19 ?_; refine Yf ?_
  have hl : Dir.take D id who = none := by unfold Dir.take; rw [hat]
  rw [hl]
  refine Y27 ?_; refine Y7 ?_
  exact qv (qk (bq1 ⟨rfl, St.dir.2 ⟨E, hE, h⟩⟩))
theorem o8 (id who : Int) {s : SlotV} {a4 a5 : Option Addr} {c4 c5 : Nat} (hn4 : s.opn.length <= 1073741824) (hn5 : s.chunks.length <= 1073741824) (hr4 : Reads w0 l 2 a4 s.opn.length (smpsV s.opn)) (hr5 : Reads w0 l 5 a5 s.chunks.length (prtsV s.chunks)) (h : St w0 (IsDir d D :: l) w) :
  Ret prog 106 [.pz d, .iz id, .iz who, .agg (s.cells a4 c4 a5 c5).toArray] w fun v w' => v = .bool (Dir.leave D id who s).isSome ∧ St w0 (IsDir d ((Dir.leave D id who s).getD D) :: l) w' := by
 refine en func106 results106 ntmps106 ?_
 refine Y1 ?_
 refine r_c rfl (jv h (show _ = Value.agg (s.cells a4 c4 a5 c5).toArray from rfl) fun b7 w h => ?_)
 replace h : St w0 (pt b7 (.cells (s.cells a4 c4 a5 c5).toArray 85 (0, 0)) :: IsDir d D :: l) w := h
 refine Ya ?_; refine Y40 ?_
 refine r_c rfl (qg rfl (nw (d := d) id h) ?_)
 clear h
 rintro _ w ⟨rfl, h⟩
 obtain ⟨E, hE, h⟩ := St.dir.1 (h.f 1)
 rcases o7 (id := id) hE with ⟨k, e, rfl, hk, hke, hat⟩ | ⟨hid, hat⟩
 ·rw [if_pos O0]
  have hkt : ((k : Nat) : Int).toNat = k := by omega
  rw [hkt]
  have hkl := (Uf.1 hke).1
  have hrow := de plC_len (h.b 0 rfl) hke
  refine Y3d ?_; refine Y32 ?_
  refine r_v (jj (v := .bool e.1.taken) rfl (hrow 8 (.bool e.1.taken) rfl)) rfl ?_
  by_cases hok : e.1.taken = true ∧ e.1.who = who
  ·rw [hok.1]
   refine Y3u ?_; refine Y32 ?_
   refine r_v (jj (v := .iz e.1.who) rfl (hrow 9 (.iz e.1.who) rfl)) rfl ?_
   refine Y33 ?_; refine Y1q ?_
   refine qz (.bool false) (by congr 1; rw [bne_eq_false_iff_eq]; exact hok.2) ?_
   refine Y9 ?_
   have hl : Dir.leave D (k : Int) who s = some (D.set k ⟨{ s with ver := wI (e.1.s.ver + 1) }, false, 0⟩) := by unfold Dir.leave; rw [hat, hkt]; dsimp only; rw [if_pos hok]
   rw [hl]
   refine Yb ?_; refine Y1 ?_
   refine r_v (qx (l := s.cells a4 c4 a5 c5) rfl rfl (qw (h.b 2 rfl) rfl)) rfl ?_
   refine r_c rfl (qg rfl (zy hn4 hn5 (hr4.more [_, _, _]) (hr5.more [_, _, _]) h) ?_)
   clear h
   rintro _ w ⟨a, b, rfl, h⟩
   refine r_c rfl (qy (vs := s.cells a s.opn.length b s.chunks.length) 4 h rfl rfl rfl rfl rfl rfl rfl fun w h => ?_)
   replace h : St w0 (OwnS a s.opn.length s.opn :: OwnPr b s.chunks.length s.chunks :: DirPt d E :: all (E.map plO) :: pt b7 (.cells (s.cells a s.opn.length b s.chunks.length).toArray 85 (0, 0)) :: l) w := h
   refine Yn ?_
   have hrow := de plC_len (h.b 2 rfl) hke
   refine Y1t ?_; refine Yk ?_
   refine r_v (jj (v := .iz e.1.s.ver) rfl (hrow 3 (.iz e.1.s.ver) rfl)) rfl ?_
   refine Y1f ?_; refine Yk ?_
   refine r_c rfl (qb 4 h rfl (show _ = Value.iz (wI (e.1.s.ver + 1)) from rfl) rfl rfl rfl rfl fun w h => ?_)
   obtain ⟨s', hs'⟩ : ∃ s' : SlotV, s' = { s with ver := wI (e.1.s.ver + 1) } := ⟨_, rfl⟩
   replace h : St w0 (OwnS a s'.opn.length s'.opn :: OwnPr b s'.chunks.length s'.chunks :: DirPt d E :: all (E.map plO) :: pt b7 (.cells (s'.cells a s'.opn.length b s'.chunks.length).toArray 85 (0, 0)) :: l) w := by rw [hs']; exact h
   rw [<- hs']
   refine Y1a ?_
   refine r_v (qx (l := s'.cells a s'.opn.length b s'.chunks.length) rfl rfl (qw (h.b 4 rfl) rfl)) rfl ?_
   refine r_v (qc (r := plC (⟨s', false, 0⟩, ⟨a, s'.opn.length, b, s'.chunks.length⟩)) rfl) rfl ?_
   refine Y1c ?_
   refine r_c rfl (qy (vs := plC (⟨s', false, 0⟩, ⟨a, s'.opn.length, b, s'.chunks.length⟩)) 2 h rfl rfl rfl rfl (by rw [Nat.ble_eq, flat_len plC_len]; show k * 10 + 10 <= _; omega) rfl rfl fun w h => ?_)
   replace h : St w0 (OwnS a s'.opn.length s'.opn :: OwnPr b s'.chunks.length s'.chunks :: pt d (.cells ((E.flatMap plC).take (k * 10) ++ plC (⟨s', false, 0⟩, ⟨a, s'.opn.length, b, s'.chunks.length⟩) ++ (E.flatMap plC).drop (k * 10 + (plC (⟨s', false, 0⟩, ⟨a, s'.opn.length, b, s'.chunks.length⟩)).length)).toArray 129 (0, 0)) :: all (E.map plO) :: pt b7 (.cells (s'.cells a s'.opn.length b s'.chunks.length).toArray 85 (0, 0)) :: l) w := h
   rw [wq plC_len _ E k hkl] at h
   refine Yn ?_; refine Y7 ?_
   refine qv (qk (bq1 ⟨rfl, St.dir.2 ⟨E.set k (⟨s', false, 0⟩, ⟨a, s'.opn.length, b, s'.chunks.length⟩), ⟨by rw [List.map_set, hE.1]; rfl, by rw [Vd]; exact hE.2⟩, ?_⟩⟩))
   have h := (h.x [4]).o [3, 2, 0, 1]
   have h1 := (St.place hke h).x [0, 1]
   replace h1 : St w0 (all ((E.map plO).eraseIdx k) :: DirPt d (E.set k (⟨s', false, 0⟩, ⟨a, s'.opn.length, b, s'.chunks.length⟩)) :: OwnS a s'.opn.length s'.opn :: OwnPr b s'.chunks.length s'.chunks :: l) w := h1
   exact (St.unplace (e' := (⟨s', false, 0⟩, ⟨a, s'.opn.length, b, s'.chunks.length⟩)) hke (h1.o [2, 3, 0])).f 1
  ·have hl : Dir.leave D (k : Int) who s = none := by unfold Dir.leave; rw [hat]; dsimp only; rw [if_neg hok]
   rw [hl]
   cases ht : e.1.taken with
   | false =>
    refine Y3u ?_; refine Y37 ?_; refine Y1s ?_; refine Y4f ?_
    exact qv (qk (bq1 ⟨rfl, St.dir.2 ⟨E, hE, h.x [2]⟩⟩))
   | true =>
    refine Y3u ?_; refine Y32 ?_
    refine r_v (jj (v := .iz e.1.who) rfl (hrow 9 (.iz e.1.who) rfl)) rfl ?_
    refine Y33 ?_; refine Y1q ?_
    refine qz (.bool true) (by congr 1; rw [bne_iff_ne]; exact fun hh => hok ⟨ht, hh⟩) ?_
    refine Y9 ?_; refine Y27 ?_; refine Y7 ?_
    exact qv (qk (bq1 ⟨rfl, St.dir.2 ⟨E, hE, h.x [2]⟩⟩))
 ·rw [if_neg O0]
  refine Y3d ?_; refine Y19 ?_; refine Y2d ?_; refine Yf ?_; refine Y37 ?_; refine Yf ?_
  have hl : Dir.leave D id who s = none := by unfold Dir.leave; rw [hat]
  rw [hl]
  refine Y27 ?_; refine Y7 ?_
  exact qv (qk (bq1 ⟨rfl, St.dir.2 ⟨E, hE, h.x [2]⟩⟩))
theorem qq6 (h : St w0 l w) : Ret prog 31 [] w fun v w' => ∃ p, v = .pz p ∧ St w0 (IsDir p (List.replicate 16 ⟨SlotV.zero, false, 0⟩) :: l) w' := by
 refine en func31 results31 ntmps31 ?_
 refine Y1 ?_; refine Y1i ?_; refine Yn ?_
 refine r_v (qc rfl) rfl ?_
 refine r_c rfl (jv h rfl fun p w h => ?_)
 replace h : St w0 (DirPt p (List.replicate 16 plZ) :: l) w := h
 refine Y1i ?_
 exact qv (qk (bq1 ⟨p, rfl, St.dir.2 ⟨List.replicate 16 plZ, ⟨rfl, rfl⟩, (St.plNil 16 h).f 1⟩⟩))
end
end
section
structure RunQ where
 s : Q4
 n : Q4
 pa : Option Addr
 pc : Nat
 ta : Option Addr
 tc : Nat
 one : Option Addr
 ga : Option Addr
 gc : Nat
 ra : Option Addr
 rc : Nat
abbrev Q4.cells (q : Q4) (s : SlotV) : List Value := s.cells q.a4 q.c4 q.a5 q.c5
def Snp.C (x : Snp) (a1 : Option Addr) (c1 : Nat) (a2 : Option Addr) (c2 : Nat) : List Value := [.iz x.life, .iz x.ver, .iz x.frm, .iz x.upto, .slice a1 x.parts.length c1, .slice a2 x.tail.length c2]
def Run.C (r : Run) (q : RunQ) : List Value :=
 .iz r.who :: r.o.C ++ (.iz r.ph :: q.s.cells r.slot ++ q.n.cells r.next ++ [.bool r.flag, .bool r.using_, .bool r.held] ++ r.x.C q.pa q.pc q.ta q.tc ++
  [.iz r.told, .pointer q.one, .iz r.i, .slice q.ga r.got.length q.gc, .iz r.fails, .bool r.over, .iz r.res.err, .iz r.res.iter, .slice q.ra r.res.list.length q.rc])
def OneH (dp : Option Addr) : Option Tk -> HProp
 | none => lift (dp = none)
 | some x => ex fun t : Nat => all [lift (dp = some ⟨t, 0, none⟩), IsTk t x]
abbrev RunPt (t : Nat) (r : Run) (q : RunQ) : HProp := pt t (.cells (r.C q).toArray 90 (0, 0))
def Run.rows (r : Run) (q : RunQ) : List HProp :=
 [OneH q.one r.one, OwnS q.s.a4 q.s.c4 r.slot.opn, OwnPr q.s.a5 q.s.c5 r.slot.chunks, OwnS q.n.a4 q.n.c4 r.next.opn, OwnPr q.n.a5 q.n.c5 r.next.chunks, OwnPr q.pa q.pc r.x.parts, OwnS q.ta q.tc r.x.tail, OwnS q.ga q.gc r.got, OwnS q.ra q.rc r.res.list]
def IsRun (t : Nat) (r : Run) : HProp := ex fun q : RunQ => all (RunPt t r q :: r.rows q)
structure ShQ where
 d : Nat
 c : Nat
 b : Nat
 t : Nat
abbrev ShPt (p : Nat) (q : ShQ) : HProp := pt p (.cells [.pointer (some ⟨q.d, 0, none⟩), .pointer (some ⟨q.c, 0, none⟩), .pointer (some ⟨q.b, 0, none⟩), .pointer (some ⟨q.t, 0, none⟩)].toArray 79 (0, 0))
def IsSh (p : Nat) (s : Shd) : HProp := ex fun q : ShQ => all [ShPt p q, IsDir q.d s.d, IsCache q.c s.c, IsStore q.b s.b, IsTab q.t s.t.V]
section
variable {w0 w : World} {l : List HProp} {t p : Nat} {r : Run} {s : Shd}
theorem St.run : St w0 (IsRun t r :: l) w ↔ ∃ q : RunQ, St w0 (RunPt t r q :: OneH q.one r.one :: OwnS q.s.a4 q.s.c4 r.slot.opn :: OwnPr q.s.a5 q.s.c5 r.slot.chunks :: OwnS q.n.a4 q.n.c4 r.next.opn :: OwnPr q.n.a5 q.n.c5 r.next.chunks :: OwnPr q.pa q.pc r.x.parts :: OwnS q.ta q.tc r.x.tail :: OwnS q.ga q.gc r.got :: OwnS q.ra q.rc r.res.list :: l) w := by
 unfold IsRun
 rw [St.ex]
 exact ⟨fun ⟨q, h⟩ => ⟨q, h.join⟩, fun ⟨q, h⟩ => ⟨q, St.fold (_ :: r.rows q) h⟩⟩
theorem St.shd : St w0 (IsSh p s :: l) w ↔ ∃ q : ShQ, St w0 (ShPt p q :: IsDir q.d s.d :: IsCache q.c s.c :: IsStore q.b s.b :: IsTab q.t s.t.V :: l) w := by
 unfold IsSh
 rw [St.ex]
 exact ⟨fun ⟨q, h⟩ => ⟨q, h.join⟩, fun ⟨q, h⟩ => ⟨q, St.fold [_, _, _, _, _] h⟩⟩
theorem St.one0 {dp : Option Addr} : St w0 (OneH dp none :: l) w ↔ dp = none ∧ St w0 l w := St.lift
theorem St.one1 {dp : Option Addr} {x : Tk} : St w0 (OneH dp (some x) :: l) w ↔ ∃ t, dp = some ⟨t, 0, none⟩ ∧ St w0 (IsTk t x :: l) w := by
 unfold OneH
 rw [St.ex]
 constructor
 ·rintro ⟨t, h⟩
  obtain ⟨h1, h2⟩ := St.lift.1 h.join
  exact ⟨t, h1, h2⟩
 ·rintro ⟨t, h1, h2⟩
  exact ⟨t, St.fold [_, _] (St.lift.2 ⟨h1, h2⟩)⟩
end
end
section
def opAdd (any : Bool) (last : Int) (L : List Smp) (s : Smp) : Bool × Int × List Smp × Int := if any = true ∧ s.T <= last then (any, last, L, 1) else (true, s.T, L ++ [s], 0)
theorem SlotV.add_eq (x : SlotV) (s : Smp) : x.add s = { x with any := (opAdd x.any x.last x.opn s).1, last := (opAdd x.any x.last x.opn s).2.1, opn := (opAdd x.any x.last x.opn s).2.2.1 } := by
 unfold SlotV.add opAdd
 split <;> rfl
theorem bqtS {P : Program} {φ : Value -> World -> Prop} {e : Env} {w : World} {a b : Tmp} {t : TypeId} {z : List Value} {bytes : Nat} [hi : Inf P t z true bytes] {p o : Nat} {l : List Value} (hx : e b = .pointer (some ⟨p, o, none⟩)) (hz : Nat.beq z.length l.length = true) (hl : At w p o l) (h : φ (.tuple [e a, .agg l.toArray].toArray) w) :
  bq P [.tmp a, .cell b t] φ .ret e w :=
 ⟨_, gi hx (Vh hz) hl, h⟩
section
variable {w0 w : World} {l : List HProp}
theorem ej {any : Bool} {last : Int} {a : Option Addr} {n c : Nat} (h : St w0 l w) : Ret prog 130 [.agg (opC any last a n c).toArray] w fun v w' => v = .bool (decide ((n : Int) ≥ 8)) ∧ St w0 l w' := by
 refine en func130 results130 ntmps130 ?_
 refine Y1 ?_
 refine r_c rfl (jv h (show _ = Value.agg (opC any last a n c).toArray from rfl) fun b1 w h => ?_)
 refine Ya ?_; refine Y26 ?_
 refine r_v (qq (v := .slice a n c) rfl (h.b 0 rfl) rfl) rfl ?_
 refine Y15 ?_; refine Y1m ?_; refine Y7 ?_
 exact qv (qk (bq1 ⟨rfl, h.drop⟩))
theorem my {any : Bool} {last : Int} {a : Option Addr} {n c : Nat} (h : St w0 l w) : Ret prog 132 [.agg (opC any last a n c).toArray] w fun v w' => v = .iz (wI (16 * (n : Int))) ∧ St w0 l w' := by
 refine en func132 results132 ntmps132 ?_
 refine Y1 ?_
 refine r_c rfl (jv h (show _ = Value.agg (opC any last a n c).toArray from rfl) fun b1 w h => ?_)
 refine Y4 ?_; refine Y26 ?_
 refine r_v (qq (v := .slice a n c) rfl (h.b 0 rfl) rfl) rfl ?_
 refine Y15 ?_; refine Y4n ?_; refine Y6 ?_
 exact qv (qk (bq1 ⟨rfl, h.drop⟩))
theorem o9 (hT : Tz w0) {any : Bool} {last : Int} {a4 : Option Addr} {c4 : Nat} {L : List Smp} (hw : ∀ s ∈ L, s.Wf) (hn : L.length <= 1073741824) (hr : Reads w0 l 2 a4 L.length (smpsV L)) (h : St w0 l w) :
  Ret prog 144 [.agg (opC any last a4 L.length c4).toArray] w fun v w' => ∃ a c, v = .tuple [.slice a ((chMake 1 L).getD []).length c, .agg (opC any last none 0 0).toArray].toArray ∧ St w0 (OwnB a c ((chMake 1 L).getD []) :: l) w' := by
 refine en func144 results144 ntmps144 ?_
 refine Y1 ?_
 refine r_c rfl (jv h (show _ = Value.agg (opC any last a4 L.length c4).toArray from rfl) fun b1 w h => ?_)
 refine Yo ?_
 refine r_c rfl (qp h fun b3 w h => ?_)
 replace h : St w0 (pt b3 (.cells openZ.toArray 82 (0, 0)) :: pt b1 (.cells (opC any last a4 L.length c4).toArray 82 (0, 0)) :: l) w := h
 refine Y3n ?_
 refine r_v (qq (v := .slice a4 L.length c4) rfl (h.b 1 rfl) rfl) rfl ?_
 refine r_c rfl (qg rfl (di hT val_1 hw hn (hr.more [_, _]) h) ?_)
 clear h
 rintro _ w ⟨a, c, rfl, h⟩
 refine Y28 ?_; refine Y26 ?_
 refine r_c rfl (qb 2 h rfl (show _ = Value.slice none 0 0 from rfl) rfl rfl rfl rfl fun w h => ?_)
 replace h : St w0 (OwnB a c ((chMake 1 L).getD []) :: pt b3 (.cells openZ.toArray 82 (0, 0)) :: pt b1 (.cells (opC any last none 0 0).toArray 82 (0, 0)) :: l) w := h
 refine Y2e ?_
 refine vo [0, 2, 1, 3] (some 3) (fun w => St w0 (OwnB a c ((chMake 1 L).getD []) :: pt b3 (.cells openZ.toArray 82 (0, 0)) :: pt b1 (.cells (opC any last none 0 0).toArray 82 (0, 0)) :: l) w) O1 O1 h.drew fun w h => ?_
 refine Y1x ?_
 refine qj rfl rfl rfl rfl h (fun _ h => qh rfl (qx (l := opC any last none 0 0) rfl rfl (qw (h.b 2 rfl) rfl))) ?_
 refine Y1y ?_; refine Yg ?_
 refine jk 3 rfl rfl rfl ?_
 refine qy (vs := opC any last none 0 0) 1 h rfl rfl rfl rfl rfl rfl rfl fun w h => ?_
 replace h : St w0 (OwnB a c ((chMake 1 L).getD []) :: pt b3 (.cells (opC any last none 0 0).toArray 82 (0, 0)) :: pt b1 (.cells (opC any last none 0 0).toArray 82 (0, 0)) :: l) w := h
 exact qk (bqtS (l := opC any last none 0 0) rfl rfl (qw (h.b 1 rfl) rfl) ⟨a, c, rfl, h.x [1, 2]⟩)
theorem qq7 {any : Bool} {last : Int} {a4 : Option Addr} {c4 : Nat} {L : List Smp} {s : Smp} (hn : L.length <= 1048576) (hr : Reads w0 l 2 a4 L.length (smpsV L)) (h : St w0 l w) :
  Ret prog 128 [.agg (opC any last a4 L.length c4).toArray, .agg s.cells.toArray] w fun v w' => ∃ a c, v = .tuple [.agg (opC (opAdd any last L s).1 (opAdd any last L s).2.1 a (opAdd any last L s).2.2.1.length c).toArray, .iz (opAdd any last L s).2.2.2].toArray ∧ St w0 (OwnS a c (opAdd any last L s).2.2.1 :: l) w' := by
 refine en func128 results128 ntmps128 ?_
 refine Y1 ?_
 refine r_c rfl (jv h (show _ = Value.agg (opC any last a4 L.length c4).toArray from rfl) fun b2 w h => ?_)
 refine r_c rfl (jv h (show _ = Value.agg s.cells.toArray from rfl) fun b3 w h => ?_)
 refine r_c rfl (qp h fun b4 w h => ?_)
 replace h : St w0 (pt b4 (.cells openZ.toArray 82 (0, 0)) :: pt b3 (.cells s.cells.toArray 57 (0, 0)) :: pt b2 (.cells (opC any last a4 L.length c4).toArray 82 (0, 0)) :: l) w := h
 refine Y4 ?_
 by_cases hc : any = true ∧ s.T <= last
 ·have e : opAdd any last L s = (any, last, L, 1) := if_pos hc
  rw [e]
  obtain ⟨rfl, hle⟩ := hc
  refine Y2v ?_; refine Yk ?_
  refine r_v (qq (v := .bool true) rfl (h.b 2 rfl) rfl) rfl ?_
  refine Y1e ?_
  refine r_v (qq (v := .iz s.T) rfl (h.b 1 rfl) rfl) rfl ?_
  refine Y4m ?_
  refine r_v (qq (v := .iz last) rfl (h.b 2 rfl) rfl) rfl ?_
  refine Yc ?_; refine Y3v ?_
  refine qz (.bool true) (by congr 1; rw [decide_eq_true_eq]; exact hle) ?_
  refine Y1s ?_; refine Y1 ?_
  refine r_v (qx (l := opC true last a4 L.length c4) rfl rfl (qw (h.b 2 rfl) rfl)) rfl ?_
  refine r_c rfl (qg rfl (zk O0 (hr.more [_, _, _]) h) ?_)
  clear h
  rintro _ w ⟨a, rfl, h⟩
  refine r_c rfl (qy (vs := opC true last a L.length L.length) 1 h rfl rfl rfl rfl rfl rfl rfl fun w h => ?_)
  replace h : St w0 (OwnS a L.length L :: pt b4 (.cells (opC true last a L.length L.length).toArray 82 (0, 0)) :: pt b3 (.cells s.cells.toArray 57 (0, 0)) :: pt b2 (.cells (opC true last a4 L.length c4).toArray 82 (0, 0)) :: l) w := h
  refine Y6 ?_
  exact qv (qk (bqS2 (l := opC true last a L.length L.length) rfl rfl (qw (h.b 1 rfl) rfl) ⟨a, L.length, rfl, h.x [1, 2, 3]⟩))
 ·have e : opAdd any last L s = (true, s.T, L ++ [s], 0) := if_neg hc
  rw [e]
  refine qt (Γ := Unit) (fun _ => [(2, .pz b2), (3, .pz b3), (4, .pz b4)]) (fun _ w => St w0 (pt b4 (.cells openZ.toArray 82 (0, 0)) :: pt b3 (.cells s.cells.toArray 57 (0, 0)) :: pt b2 (.cells (opC any last a4 L.length c4).toArray 82 (0, 0)) :: l) w) ?_ ?_
  ·refine Y26 ?_
   refine r_v (qq (v := .bool any) rfl (h.b 2 rfl) rfl) rfl ?_
   cases any with
   | false =>
    refine Y19 ?_; refine Y2d ?_; refine Y9 ?_
    exact qv (qe rfl (qa ⟨(), zz3, h⟩))
   | true =>
    refine Y1e ?_
    refine r_v (qq (v := .iz s.T) rfl (h.b 1 rfl) rfl) rfl ?_
    refine Y4m ?_
    refine r_v (qq (v := .iz last) rfl (h.b 2 rfl) rfl) rfl ?_
    refine Yc ?_; refine Y3v ?_
    refine qz (.bool false) (by congr 1; rw [decide_eq_false_iff_not]; exact fun hh => hc ⟨rfl, hh⟩) ?_
    refine Yf ?_
    exact qv (qe rfl (qa ⟨(), zz3, h⟩))
  clear h
  rintro _ w e h
  refine Y1 ?_
  refine r_v (qx (l := opC any last a4 L.length c4) rfl rfl (qw (h.b 2 rfl) rfl)) rfl ?_
  refine r_c rfl (qg rfl (zk O0 (hr.more [_, _, _]) h) ?_)
  clear h
  rintro _ w ⟨a, rfl, h⟩
  refine r_c rfl (qy (vs := opC any last a L.length L.length) 3 h rfl rfl rfl rfl rfl rfl rfl fun w h => ?_)
  replace h : St w0 (OwnS a L.length L :: pt b4 (.cells openZ.toArray 82 (0, 0)) :: pt b3 (.cells s.cells.toArray 57 (0, 0)) :: pt b2 (.cells (opC any last a L.length L.length).toArray 82 (0, 0)) :: l) w := h
  refine Y2e ?_
  refine jm [0, 1, 2, 3, 4, 5, 6, 7, 8, 9] (some 8) (fun w => St w0 (pt b4 (.cells openZ.toArray 82 (0, 0)) :: pt b3 (.cells s.cells.toArray 57 (0, 0)) :: pt b2 (.cells (opC any last a L.length L.length).toArray 82 (0, 0)) :: l) w) O1 O1 ?_
  have hs := h.drew
  clear h
  generalize w.drew = w1 at hs ⊢
  have h := hs.drop
  refine Yv ?_
  refine qj rfl rfl rfl rfl h (fun _ h => qh rfl (qq (v := .iz s.T) rfl (h.b 1 rfl) rfl)) ?_
  refine Yv ?_
  refine qj rfl rfl rfl rfl h (fun _ h => qh rfl (qq (v := .slice a L.length L.length) rfl (h.b 2 rfl) rfl)) ?_
  refine qj rfl rfl rfl rfl h (fun _ h => qh rfl (qx (l := s.cells) rfl rfl (qw (h.b 1 rfl) rfl))) ?_
  refine Y3m ?_
  refine qd 5 rfl rfl rfl rfl ?_
  refine jg (r := smpsV [s]) hs rfl rfl rfl fun b5 w hs => ?_
  clear h
  have h := hs.drop.drop
  refine ⟨fun _ => h, ?_⟩
  refine Y16 ?_
  refine qd 6 rfl rfl rfl rfl ?_
  refine q9 (ys := smpsV [s]) (zs := smpsV (L ++ [s])) (m3 := (L ++ [s]).length) (hs.f 1) rfl rfl ⟨rfl, .inr ⟨b5, 0, rfl, qw (hs.b 0 rfl) rfl⟩⟩ (jt _) O8 (by simp [smpsV]) O6 O6 rfl fun a2 c2 w _ hs => ?_
  clear h
  have h := hs.drop.drop
  refine ⟨fun _ => h, ?_⟩
  refine cpv rfl rfl rfl rfl h rfl (qc (r := opC true s.T a2 (L ++ [s]).length c2) rfl) ?_
  refine Yq ?_
  refine jy 8 none rfl rfl rfl rfl ?_
  refine qy (vs := opC true s.T a2 (L ++ [s]).length c2) 2 hs rfl rfl rfl rfl rfl rfl rfl fun w h => ?_
  replace h : St w0 (OwnS a2 c2 (L ++ [s]) :: pt b5 (.cells (smpsV [s]).toArray 57 (0, 0)) :: pt b4 (.cells (opC true s.T a2 (L ++ [s]).length c2).toArray 82 (0, 0)) :: pt b3 (.cells s.cells.toArray 57 (0, 0)) :: pt b2 (.cells (opC any last a L.length L.length).toArray 82 (0, 0)) :: l) w := h
  refine jz h ?_
  refine Y2s ?_
  exact qn (qk (bqS2 (l := opC true s.T a2 (L ++ [s]).length c2) rfl rfl (qw (h.b 2 rfl) rfl) ⟨a2, c2, rfl, h.x [1, 2, 3, 4]⟩))
end
end
section
section
variable {w0 w : World} {l : List HProp} {t p : Nat} {r : Run} {s : Shd} {q : RunQ}
theorem St.run' : St w0 (IsRun t r :: l) w ↔ ∃ q : RunQ, St w0 (RunPt t r q :: (r.rows q ++ l)) w := by
 unfold IsRun
 rw [St.ex]
 exact ⟨fun ⟨q, h⟩ => ⟨q, h.join⟩, fun ⟨q, h⟩ => ⟨q, St.fold (_ :: r.rows q) h⟩⟩
def Shd.new (n b : Int) : Shd := ⟨List.replicate 16 ⟨SlotV.zero, false, 0⟩, Cac.new n, ⟨min (max b 0) 1073741824, 0, 0, 0, []⟩, ⟨0, []⟩⟩
theorem yj (n b : Int) (h : St w0 l w) : Ret prog 11 [.iz n, .iz b] w fun v w' => ∃ p, v = .pz p ∧ St w0 (IsSh p (Shd.new n b) :: l) w' := by
 refine en func11 results11 ntmps11 ?_
 refine Y1 ?_; refine Y1i ?_; refine Yn ?_
 refine r_c rfl (qg rfl (qq6 h) ?_)
 clear h
 rintro _ w ⟨d, rfl, h⟩
 refine Y0 ?_
 refine r_c rfl (qg rfl (qq1 n h) ?_)
 clear h
 rintro _ w ⟨c, rfl, h⟩
 refine Y0 ?_
 refine r_c rfl (qg rfl (qqw b h) ?_)
 clear h
 rintro _ w ⟨b', rfl, h⟩
 refine r_c rfl (qg rfl (qqd h) ?_)
 clear h
 rintro _ w ⟨i, rfl, h⟩
 refine r_v (qc (r := [.pz d, .pz c, .pz b', .pz i]) rfl) rfl ?_
 refine r_c rfl (jv h (show _ = Value.agg [.pz d, .pz c, .pz b', .pz i].toArray from rfl) fun p w h => ?_)
 refine Y1i ?_
 exact qv (qk (bq1 ⟨p, rfl, St.shd.2 ⟨⟨d, c, b', i⟩, h.o [0, 4, 3, 2, 1]⟩⟩))
theorem qgz (h : St w0 (IsSh p s :: l) w) : Ret prog 35 [.pz p] w fun v w' => ∃ q : ShQ, v = .pointer (some ⟨q.d, 0, none⟩) ∧ St w0 (ShPt p q :: IsDir q.d s.d :: IsCache q.c s.c :: IsStore q.b s.b :: IsTab q.t s.t.V :: l) w' := by
 obtain ⟨q, h⟩ := St.shd.1 h
 refine en func35 results35 ntmps35 ?_
 refine Y3k ?_; refine Y5 ?_
 refine r_v (qq (v := .pointer (some ⟨q.d, 0, none⟩)) rfl (h.b 0 rfl) rfl) rfl ?_
 refine Y1i ?_
 exact qv (qk (bq1 ⟨q, rfl, h⟩))
theorem yt (h : St w0 (IsSh p s :: l) w) : Ret prog 23 [.pz p] w fun v w' => ∃ q : ShQ, v = .pointer (some ⟨q.c, 0, none⟩) ∧ St w0 (ShPt p q :: IsDir q.d s.d :: IsCache q.c s.c :: IsStore q.b s.b :: IsTab q.t s.t.V :: l) w' := by
 obtain ⟨q, h⟩ := St.shd.1 h
 refine en func23 results23 ntmps23 ?_
 refine Y3k ?_; refine Y5 ?_
 refine r_v (qq (v := .pointer (some ⟨q.c, 0, none⟩)) rfl (h.b 0 rfl) rfl) rfl ?_
 refine Y1i ?_
 exact qv (qk (bq1 ⟨q, rfl, h⟩))
theorem xb (h : St w0 (IsSh p s :: l) w) : Ret prog 17 [.pz p] w fun v w' => ∃ q : ShQ, v = .pointer (some ⟨q.b, 0, none⟩) ∧ St w0 (ShPt p q :: IsDir q.d s.d :: IsCache q.c s.c :: IsStore q.b s.b :: IsTab q.t s.t.V :: l) w' := by
 obtain ⟨q, h⟩ := St.shd.1 h
 refine en func17 results17 ntmps17 ?_
 refine Y3k ?_; refine Y5 ?_
 refine r_v (qq (v := .pointer (some ⟨q.b, 0, none⟩)) rfl (h.b 0 rfl) rfl) rfl ?_
 refine Y1i ?_
 exact qv (qk (bq1 ⟨q, rfl, h⟩))
theorem eg (h : St w0 (IsSh p s :: l) w) : Ret prog 20 [.pz p] w fun v w' => ∃ q : ShQ, v = .pointer (some ⟨q.t, 0, none⟩) ∧ St w0 (ShPt p q :: IsDir q.d s.d :: IsCache q.c s.c :: IsStore q.b s.b :: IsTab q.t s.t.V :: l) w' := by
 obtain ⟨q, h⟩ := St.shd.1 h
 refine en func20 results20 ntmps20 ?_
 refine Y3k ?_; refine Y5 ?_
 refine r_v (qq (v := .pointer (some ⟨q.t, 0, none⟩)) rfl (h.b 0 rfl) rfl) rfl ?_
 refine Y1i ?_
 exact qv (qk (bq1 ⟨q, rfl, h⟩))
abbrev runQ0 : RunQ := ⟨⟨none, 0, none, 0⟩, ⟨none, 0, none, 0⟩, none, 0, none, 0, none, none, 0, none, 0⟩
theorem ci (who : Int) (o : Opr) (h : St w0 l w) : Ret prog 14 [.iz who, .agg o.C.toArray] w fun v w' => ∃ t, v = .pz t ∧ St w0 (IsRun t (Run.new who o) :: l) w' := by
 refine en func14 results14 ntmps14 ?_
 refine Y1 ?_
 refine r_c rfl (jv h (show _ = Value.agg o.C.toArray from rfl) fun b1 w h => ?_)
 refine Y3g ?_; refine Y8 ?_
 refine r_v (qx (l := o.C) rfl rfl (qw (h.b 0 rfl) rfl)) rfl ?_
 refine r_v (qc (r := (Run.new who o).C runQ0) rfl) rfl ?_
 refine r_c rfl (jv h (show _ = Value.agg ((Run.new who o).C runQ0).toArray from rfl) fun t w h => ?_)
 replace h : St w0 (RunPt t (Run.new who o) runQ0 :: pt b1 (.cells o.C.toArray 33 (0, 0)) :: l) w := h
 refine Y1i ?_
 refine qv (qk (bq1 ⟨t, rfl, St.run.2 ⟨runQ0, ?_⟩⟩))
 have h := ((((((((h.x [1]).ownNil 57 2).ownNil 57 2).ownNil 57 2).ownNil 168 5).ownNil 168 5).ownNil 57 2).ownNil 168 5).ownNil 57 2
 exact (St.one0.2 ⟨rfl, h⟩).f 9
theorem gw {res : Res} {a : Option Addr} {c : Nat} (did : Int) (h : St w0 (IsRun t r :: OwnS a c res.list :: l) w) :
  Ret prog 55 [.pz t, .agg (res.C a c).toArray, .iz did] w fun v w' => v = .iz did ∧ St w0 (IsRun t { r with over := true, res := res } :: l) w' := by
 obtain ⟨q, h⟩ := St.run.1 h
 refine en func55 results55 ntmps55 ?_
 refine Y1 ?_
 refine r_c rfl (jv h (show _ = Value.agg (res.C a c).toArray from rfl) fun b4 w h => ?_)
 refine Y4 ?_; refine qf ?_
 generalize hN : (OneH q.one r.one :: OwnS q.s.a4 q.s.c4 r.slot.opn :: OwnPr q.s.a5 q.s.c5 r.slot.chunks :: OwnS q.n.a4 q.n.c4 r.next.opn :: OwnPr q.n.a5 q.n.c5 r.next.chunks :: OwnPr q.pa q.pc r.x.parts :: OwnS q.ta q.tc r.x.tail :: OwnS q.ga q.gc r.got :: OwnS q.ra q.rc r.res.list :: OwnS a c res.list :: l) = N at h
 replace h : St w0 (pt b4 (.cells (res.C a c).toArray 28 (0, 0)) :: RunPt t r q :: N) w := h
 refine jm [0, 4, 5, 1, 2, 3, 6, 7, 8] (some 8) (fun w => ∃ M, St w0 (pt b4 (.cells (res.C a c).toArray 28 (0, 0)) :: M) w) O1 O1 ?_
 have hs := h.drew
 clear h
 generalize w.drew = w1 at hs ⊢
 have h : ∃ M, St w0 (pt b4 (.cells (res.C a c).toArray 28 (0, 0)) :: M) w1 := ⟨_, hs⟩
 refine Y1j ?_; refine Y1j ?_
 refine qj rfl rfl rfl rfl h (fun _ h => qh rfl (qx (l := res.C a c) rfl rfl (qw (h.choose_spec.b 0 rfl) rfl))) ?_
 refine Y2y ?_; refine Y16 ?_
 refine qd 5 rfl rfl rfl rfl ?_
 refine qb 1 hs rfl (show _ = Value.bool true from rfl) rfl rfl rfl rfl fun w hs => ?_
 replace hs : St w0 (pt b4 (.cells (res.C a c).toArray 28 (0, 0)) :: RunPt t { r with over := true } q :: N) w := hs
 clear h
 have h : ∃ M, St w0 (pt b4 (.cells (res.C a c).toArray 28 (0, 0)) :: M) w := ⟨_, hs⟩
 refine ⟨fun _ => h, ?_⟩
 refine Y2y ?_; refine Yg ?_
 refine jk 8 rfl rfl rfl ?_
 refine qy (vs := res.C a c) 1 hs rfl rfl rfl rfl rfl rfl rfl fun w h => ?_
 replace h : St w0 (pt b4 (.cells (res.C a c).toArray 28 (0, 0)) :: RunPt t { r with over := true, res := res } { q with ra := a, rc := c } :: N) w := h
 subst hN
 refine Y8 ?_; refine Y6 ?_
 exact qv (qk (bq1 ⟨rfl, St.run.2 ⟨{ q with ra := a, rc := c }, h.x [0, 10]⟩⟩))
theorem gf (e : Int) (h : St w0 (IsRun t r :: l) w) :
  Ret prog 37 [.pz t, .iz e] w fun v w' => v = .iz 2 ∧ St w0 (IsRun t { r with over := true, res := ⟨e, 0, []⟩ } :: l) w' := by
 refine en func37 results37 ntmps37 ?_
 refine Yr ?_; refine Y40 ?_
 refine r_v (qc (r := (⟨e, 0, []⟩ : Res).C none 0) rfl) rfl ?_
 refine r_c rfl (qg rfl (gw (res := ⟨e, 0, []⟩) 2 ((h.ownNil 57 2).f 1)) ?_)
 clear h
 rintro _ w ⟨rfl, h⟩
 refine Y6 ?_
 exact qv (qk (bq1 ⟨rfl, h⟩))
theorem kp {sl : SlotV} {a4 a5 : Option Addr} {c4 c5 : Nat} (hn4 : sl.opn.length <= 1073741824) (hn5 : sl.chunks.length <= 1073741824) (hr4 : Reads w0 l 2 a4 sl.opn.length (smpsV sl.opn)) (hr5 : Reads w0 l 5 a5 sl.chunks.length (prtsV sl.chunks)) (h : St w0 (RunPt t r q :: IsSh p s :: l) w) :
  Ret prog 76 [.pz t, .pz p, .agg (sl.cells a4 c4 a5 c5).toArray] w fun v w' => v = .tuple #[] ∧ St w0 (RunPt t (r.publish s sl).1 q :: IsSh p (r.publish s sl).2 :: l) w' := by
 obtain ⟨k, h⟩ := St.shd.1 (h.f 1)
 refine en func76 results76 ntmps76 ?_
 refine Y1 ?_
 refine r_c rfl (jv h (show _ = Value.agg (sl.cells a4 c4 a5 c5).toArray from rfl) fun b5 w h => ?_)
 replace h : St w0 (pt b5 (.cells (sl.cells a4 c4 a5 c5).toArray 85 (0, 0)) :: ShPt p k :: IsDir k.d s.d :: IsCache k.c s.c :: IsStore k.b s.b :: IsTab k.t s.t.V :: RunPt t r q :: l) w := h
 refine Y2e ?_
 refine jm [0, 1, 2, 3, 4, 5, 6, 7, 8, 9, 10, 11, 12, 13, 14] none (fun w => St w0 (pt b5 (.cells (sl.cells a4 c4 a5 c5).toArray 85 (0, 0)) :: ShPt p k :: IsCache k.c s.c :: IsStore k.b s.b :: IsTab k.t s.t.V :: RunPt t r q :: l) w) O1 O1 ?_
 have hs := h.drew
 clear h
 generalize w.drew = w1 at hs ⊢
 have h := hs.x [2]
 refine Y3 ?_
 refine qj rfl rfl rfl rfl h (fun _ h => qh rfl (qq (v := .pointer (some ⟨k.d, 0, none⟩)) rfl (h.b 1 rfl) rfl)) ?_
 refine Y1o ?_
 refine qj rfl rfl rfl rfl h (fun _ h => qh rfl (qq (v := .iz r.o.series) rfl (h.b 5 rfl) rfl)) ?_
 refine Y3 ?_
 refine qj rfl rfl rfl rfl h (fun _ h => qh rfl (qq (v := .iz r.who) rfl (h.b 5 rfl) rfl)) ?_
 refine qj rfl rfl rfl rfl h (fun _ h => qh rfl (qx (l := sl.cells a4 c4 a5 c5) rfl rfl (qw (h.b 0 rfl) rfl))) ?_
 refine Yg ?_
 refine qd 14 rfl rfl rfl rfl ?_
 refine qg rfl (o8 r.o.series r.who hn4 hn5 (hr4.more [_, _, _, _, _, _]) (hr5.more [_, _, _, _, _, _]) (hs.f 2)) ?_
 clear h hs
 rintro _ w ⟨rfl, h1⟩
 have h := h1.drop
 refine ⟨fun _ => h, ?_⟩
 refine qn ?_
 refine Y2l ?_
 refine r_c rfl (qb 6 h1 rfl (show _ = Value.bool false from rfl) rfl rfl rfl rfl fun w h => ?_)
 replace h : St w0 (IsDir k.d ((Dir.leave s.d r.o.series r.who sl).getD s.d) :: pt b5 (.cells (sl.cells a4 c4 a5 c5).toArray 85 (0, 0)) :: ShPt p k :: IsCache k.c s.c :: IsStore k.b s.b :: IsTab k.t s.t.V :: RunPt t { r with flag := false } q :: l) w := h
 refine qv (bq0n ⟨rfl, ?_⟩)
 exact ((St.shd (s := (r.publish s sl).2)).2 ⟨k, (h.x [1]).o [1, 0, 2, 3, 4]⟩).f 1
end
end
section
def Dir.Fits (D : List Plc) : Prop := ∀ p ∈ D, p.s.opn.length <= 1048576 ∧ p.s.chunks.length <= 1048576
section
variable {w0 w : World} {l : List HProp} {t p : Nat} {r : Run} {s : Shd} {q : RunQ}
theorem Dir.Fits.big {D : List Plc} (h : Dir.Fits D) : ∀ p ∈ D, p.s.opn.length <= 1073741824 ∧ p.s.chunks.length <= 1073741824 := fun p hp => ⟨by have := (h p hp).1; omega, by have := (h p hp).2; omega⟩
theorem mz (hD : Dir.Fits s.d) (h : St w0 (IsRun t r :: IsSh p s :: l) w) :
  Ret prog 74 [.pz t, .pz p] w fun v w' => v = .bool (r.take s).2.2 ∧ St w0 (IsRun t (r.take s).1 :: IsSh p (r.take s).2.1 :: l) w' := by
 obtain ⟨q, h⟩ := St.run.1 h
 generalize hN : (OneH q.one r.one :: OwnS q.s.a4 q.s.c4 r.slot.opn :: OwnPr q.s.a5 q.s.c5 r.slot.chunks :: OwnS q.n.a4 q.n.c4 r.next.opn :: OwnPr q.n.a5 q.n.c5 r.next.chunks :: OwnPr q.pa q.pc r.x.parts :: OwnS q.ta q.tc r.x.tail :: OwnS q.ga q.gc r.got :: OwnS q.ra q.rc r.res.list :: IsSh p s :: l) = N at h
 subst hN
 replace h : St w0 (IsSh p s :: RunPt t r q :: OneH q.one r.one :: OwnS q.s.a4 q.s.c4 r.slot.opn :: OwnPr q.s.a5 q.s.c5 r.slot.chunks :: OwnS q.n.a4 q.n.c4 r.next.opn :: OwnPr q.n.a5 q.n.c5 r.next.chunks :: OwnPr q.pa q.pc r.x.parts :: OwnS q.ta q.tc r.x.tail :: OwnS q.ga q.gc r.got :: OwnS q.ra q.rc r.res.list :: l) w := h.f 10
 obtain ⟨k, h⟩ := St.shd.1 h
 generalize hN : (OneH q.one r.one :: OwnS q.s.a4 q.s.c4 r.slot.opn :: OwnPr q.s.a5 q.s.c5 r.slot.chunks :: OwnS q.n.a4 q.n.c4 r.next.opn :: OwnPr q.n.a5 q.n.c5 r.next.chunks :: OwnPr q.pa q.pc r.x.parts :: OwnS q.ta q.tc r.x.tail :: OwnS q.ga q.gc r.got :: OwnS q.ra q.rc r.res.list :: l) = N at h
 replace h : St w0 (IsDir k.d s.d :: ShPt p k :: RunPt t r q :: IsCache k.c s.c :: IsStore k.b s.b :: IsTab k.t s.t.V :: N) w := h.o [1, 0, 5]
 have hlook : ∀ {w : World} {M : List HProp}, St w0 (IsDir k.d s.d :: M) w -> Ret prog 61 [.pointer (some ⟨k.d, 0, none⟩), .iz r.o.series] w fun v w' => ∃ (q4 : Q4), v = .tuple [.agg (q4.cells ((Dir.look s.d r.o.series).getD SlotV.zero)).toArray, .bool (Dir.look s.d r.o.series).isSome].toArray ∧ St w0 (OwnS q4.a4 q4.c4 ((Dir.look s.d r.o.series).getD SlotV.zero).opn :: OwnPr q4.a5 q4.c5 ((Dir.look s.d r.o.series).getD SlotV.zero).chunks :: IsDir k.d s.d :: M) w' := by
  intro w M h
  have h1 := mv r.o.series hD.big h
  cases hl : Dir.look s.d r.o.series with
  | none =>
   rw [hl] at h1
   refine h1.mono ?_
   rintro v w ⟨rfl, h⟩
   exact ⟨⟨none, 0, none, 0⟩, rfl, (h.ownNil 168 5).ownNil 57 2⟩
  | some sl =>
   rw [hl] at h1
   refine h1.mono ?_
   rintro v w ⟨a, b, rfl, h⟩
   exact ⟨⟨a, sl.opn.length, b, sl.chunks.length⟩, rfl, h⟩
 refine en func74 results74 ntmps74 ?_
 refine Y12 ?_
 obtain ⟨X, hX⟩ : ∃ X, (Dir.look s.d r.o.series).getD SlotV.zero = X := ⟨_, rfl⟩
 refine qt (Γ := Q4 × Nat) (fun g => [(0, .pz t), (1, .pz p), (5, .pointer (some ⟨g.2, 0, none⟩)), (6, .bool (Dir.look s.d r.o.series).isSome)])
  (fun g w => St w0 (OwnS g.1.a4 g.1.c4 X.opn :: OwnPr g.1.a5 g.1.c5 X.chunks :: pt g.2 (.cells (g.1.cells X).toArray 85 (0, 0)) :: IsDir k.d s.d :: ShPt p k :: RunPt t r q :: IsCache k.c s.c :: IsStore k.b s.b :: IsTab k.t s.t.V :: N) w) ?_ ?_
 ·refine vo [0, 1, 2, 3, 4, 5, 6, 7, 8, 9, 10, 11, 14, 12, 13, 15] (some 14) (fun w => St w0 (IsDir k.d s.d :: ShPt p k :: RunPt t r q :: IsCache k.c s.c :: IsStore k.b s.b :: IsTab k.t s.t.V :: N) w) O1 O1 h.drew fun w h => ?_
  refine Y3 ?_
  refine qj rfl rfl rfl rfl h (fun _ h => qh rfl (qq (v := .pointer (some ⟨k.d, 0, none⟩)) rfl (h.b 1 rfl) rfl)) ?_
  refine Y1o ?_
  refine qj rfl rfl rfl rfl h (fun _ h => qh rfl (qq (v := .iz r.o.series) rfl (h.b 2 rfl) rfl)) ?_
  refine Y4i ?_
  refine j4 9 13 rfl rfl rfl rfl rfl rfl ?_ ?_
  ·refine qg rfl (hlook h) ?_
   clear h
   rintro _ w ⟨g, rfl, h1⟩
   rw [hX] at h1 ⊢
   have h := h1.drop.drop
   refine ⟨fun _ => h, ?_⟩
   refine Y29 ?_; refine Y11 ?_
   refine qd 13 rfl rfl rfl rfl ?_
   refine qp h1 fun b5 w h1 => ?_
   clear h
   have h := h1.drop.drop.drop
   refine ⟨fun _ => h, ?_⟩
   refine Yq ?_
   refine jy 14 none rfl rfl rfl rfl ?_
   refine qy (vs := g.cells X) 0 h1 rfl rfl rfl rfl rfl rfl rfl fun w h => ?_
   refine jz h ?_
   refine Y1d ?_
   exact qn ⟨(g, b5), zz4, h.o [1, 2, 0]⟩
  ·refine qp h fun b5 w h1 => ?_
   clear h
   have h := h1.drop
   refine ⟨fun _ => h, ?_⟩
   refine Y2q ?_
   refine qd 9 rfl rfl rfl rfl ?_
   refine qg rfl (hlook (h1.f 1)) ?_
   clear h h1
   rintro _ w ⟨g, rfl, h1⟩
   rw [hX] at h1 ⊢
   have h := (h1.x [3]).drop.drop
   refine ⟨fun _ => h, ?_⟩
   refine Y29 ?_; refine Yq ?_
   refine jy 14 none rfl rfl rfl rfl ?_
   refine qy (vs := g.cells X) 3 h1 rfl rfl rfl rfl rfl rfl rfl fun w h => ?_
   refine jz h ?_
   refine Y1d ?_
   exact qn ⟨(g, b5), zz4, h.o [0, 1, 3, 2]⟩
 clear h
 rintro ⟨g, b5⟩ w e h
 dsimp only at h
 have key : (r.take s) = match Dir.look s.d r.o.series with
  | none => (r, s, false)
  | some sl => match Dir.take s.d r.o.series r.who with
   | none => (r, s, false)
   | some D => ({ r with slot := sl, flag := true, ph := 1 }, { s with d := D }, true) := rfl
 have back : ∀ {w : World}, St w0 (OwnS g.a4 g.c4 X.opn :: OwnPr g.a5 g.c5 X.chunks :: pt b5 (.cells (g.cells X).toArray 85 (0, 0)) :: IsDir k.d s.d :: ShPt p k :: RunPt t r q :: IsCache k.c s.c :: IsStore k.b s.b :: IsTab k.t s.t.V :: N) w -> St w0 (IsRun t r :: IsSh p s :: l) w := by
  intro w h
  have h1 : St w0 (ShPt p k :: IsDir k.d s.d :: IsCache k.c s.c :: IsStore k.b s.b :: IsTab k.t s.t.V :: RunPt t r q :: N) w := (h.x [0, 1, 2]).o [1, 0, 3, 4, 5]
  have h2 : St w0 (RunPt t r q :: IsSh p s :: N) w := ((St.shd (s := s)).2 ⟨k, h1⟩).f 1
  subst hN
  have h3 : St w0 (RunPt t r q :: OneH q.one r.one :: OwnS q.s.a4 q.s.c4 r.slot.opn :: OwnPr q.s.a5 q.s.c5 r.slot.chunks :: OwnS q.n.a4 q.n.c4 r.next.opn :: OwnPr q.n.a5 q.n.c5 r.next.chunks :: OwnPr q.pa q.pc r.x.parts :: OwnS q.ta q.tc r.x.tail :: OwnS q.ga q.gc r.got :: OwnS q.ra q.rc r.res.list :: IsSh p s :: l) w := h2.o [0, 2, 3, 4, 5, 6, 7, 8, 9, 10]
  exact (St.run (r := r)).2 ⟨q, h3⟩
 cases hl : Dir.look s.d r.o.series with
 | none =>
  replace key : r.take s = (r, s, false) := by rw [key, hl]
  rw [key]
  refine qf (qf ?_)
  refine jh none (fun w => St w0 (OwnS g.a4 g.c4 X.opn :: OwnPr g.a5 g.c5 X.chunks :: pt b5 (.cells (g.cells X).toArray 85 (0, 0)) :: IsDir k.d s.d :: ShPt p k :: RunPt t r q :: IsCache k.c s.c :: IsStore k.b s.b :: IsTab k.t s.t.V :: N) w) O1 O1 h.drew fun w h => ?_
  refine Yz ?_; refine cpv rfl rfl rfl rfl h rfl (y8 rfl) ?_; refine Yz ?_; refine qu rfl rfl rfl rfl (fun _ => h) (fun _ => qo rfl rfl) (qu rfl rfl rfl rfl (fun _ => h) (fun _ => qo rfl rfl) (qu rfl rfl rfl rfl (fun _ => h) (fun _ => qo rfl rfl) (qu rfl rfl rfl rfl (fun _ => h) (fun _ => qo rfl rfl) (qu rfl rfl rfl rfl (fun _ => h) (fun _ => qo rfl rfl) (qu rfl rfl rfl rfl (fun _ => h) (fun _ => qo rfl rfl) ?_))))); refine qu rfl rfl rfl rfl (fun _ => h) (fun _ => qo rfl rfl) (qu rfl rfl rfl rfl (fun _ => h) (fun _ => qo rfl rfl) (qu rfl rfl rfl rfl (fun _ => h) (fun _ => qo rfl rfl) (qu rfl rfl rfl rfl (fun _ => h) (fun _ => qo rfl rfl) (qu rfl rfl rfl rfl (fun _ => h) (fun _ => qo rfl rfl) (qu rfl rfl rfl rfl (fun _ => h) (fun _ => qo rfl rfl) ?_))))); refine qu rfl rfl rfl rfl (fun _ => h) (fun _ => qo rfl rfl) (qu rfl rfl rfl rfl (fun _ => h) (fun _ => qo rfl rfl) (qu rfl rfl rfl rfl (fun _ => h) (fun _ => qo rfl rfl) (cpv rfl rfl rfl rfl h rfl (ji rfl rfl rfl) ?_)))
  refine qn ?_
  refine Y1k ?_; refine Y4f ?_
  exact qv (qk (bq1 ⟨rfl, back h⟩))
 | some sl =>
  rw [hl] at hX key
  obtain rfl : sl = X := hX
  cases ht : Dir.take s.d r.o.series r.who with
  | none =>
   replace key : r.take s = (r, s, false) := by rw [key, ht]
   rw [key]
   refine qf (qf ?_)
   refine jh none (fun w => St w0 (OwnS g.a4 g.c4 sl.opn :: OwnPr g.a5 g.c5 sl.chunks :: pt b5 (.cells (g.cells sl).toArray 85 (0, 0)) :: IsDir k.d s.d :: ShPt p k :: RunPt t r q :: IsCache k.c s.c :: IsStore k.b s.b :: IsTab k.t s.t.V :: N) w) O1 O1 h.drew fun w h => ?_
   refine Yz ?_; refine cpv rfl rfl rfl rfl h rfl (y8 rfl) ?_; refine Yz ?_; refine qu rfl rfl rfl rfl (fun _ => h) (fun _ => ql rfl rfl (jr rfl)) (qu rfl rfl rfl rfl (fun _ => h) (fun _ => ql rfl rfl (v7 rfl)) (qu rfl rfl rfl rfl (fun _ => h) (fun _ => ql rfl rfl (vm rfl)) ?_))
   refine qj rfl rfl rfl rfl h (fun _ h => ql rfl rfl (qq (v := .pointer (some ⟨k.d, 0, none⟩)) rfl (h.b 4 rfl) rfl)) ?_
   refine qu rfl rfl rfl rfl (fun _ => h) (fun _ => ql rfl rfl (jr rfl)) (qu rfl rfl rfl rfl (fun _ => h) (fun _ => ql rfl rfl (v7 rfl)) (qu rfl rfl rfl rfl (fun _ => h) (fun _ => ql rfl rfl (vm rfl)) (qu rfl rfl rfl rfl (fun _ => h) (fun _ => ql rfl rfl (vm rfl)) ?_)))
   refine qj rfl rfl rfl rfl h (fun _ h => ql rfl rfl (qq (v := .iz r.o.series) rfl (h.b 5 rfl) rfl)) ?_
   refine qu rfl rfl rfl rfl (fun _ => h) (fun _ => ql rfl rfl (jr rfl)) (qu rfl rfl rfl rfl (fun _ => h) (fun _ => ql rfl rfl (v7 rfl)) (qu rfl rfl rfl rfl (fun _ => h) (fun _ => ql rfl rfl (vm rfl)) ?_))
   refine qj rfl rfl rfl rfl h (fun _ h => ql rfl rfl (qq (v := .iz r.who) rfl (h.b 5 rfl) rfl)) ?_
   refine Y11 ?_
   refine qd 16 rfl rfl rfl (vd rfl rfl rfl) ?_
   have htk := mu r.o.series r.who (h.f 3)
   rw [ht] at htk
   refine qg rfl htk ?_
   clear h htk
   rintro _ w ⟨rfl, h⟩
   replace h : St w0 (OwnS g.a4 g.c4 sl.opn :: OwnPr g.a5 g.c5 sl.chunks :: pt b5 (.cells (g.cells sl).toArray 85 (0, 0)) :: IsDir k.d s.d :: ShPt p k :: RunPt t r q :: IsCache k.c s.c :: IsStore k.b s.b :: IsTab k.t s.t.V :: N) w := h.o [1, 2, 3]
   refine ⟨fun _ => h, ?_⟩
   refine qu rfl rfl rfl rfl (fun _ => h) (fun _ => ql rfl rfl (y8 rfl)) (cpv rfl rfl rfl rfl h rfl (jl rfl rfl rfl) ?_)
   refine qn ?_
   refine Y1k ?_; refine Y4f ?_
   exact qv (qk (bq1 ⟨rfl, back h⟩))
  | some D =>
   replace key : r.take s = ({ r with slot := sl, flag := true, ph := 1 }, { s with d := D }, true) := by rw [key, ht]
   rw [key]
   refine qf (qf ?_)
   refine jm [0, 1, 2, 3, 4, 5, 6, 7, 8, 9, 10, 11, 12, 13, 14, 15, 16, 17, 18] none (fun w => St w0 (OwnS g.a4 g.c4 sl.opn :: OwnPr g.a5 g.c5 sl.chunks :: pt b5 (.cells (g.cells sl).toArray 85 (0, 0)) :: ShPt p k :: RunPt t r q :: IsCache k.c s.c :: IsStore k.b s.b :: IsTab k.t s.t.V :: N) w) O1 O1 ?_
   have hs := h.drew
   clear h
   generalize w.drew = w1 at hs ⊢
   have h := hs.x [3]
   refine Yz ?_; refine cpv rfl rfl rfl rfl h rfl (y8 rfl) ?_; refine Yz ?_; refine qu rfl rfl rfl rfl (fun _ => h) (fun _ => ql rfl rfl (jr rfl)) (qu rfl rfl rfl rfl (fun _ => h) (fun _ => ql rfl rfl (v7 rfl)) (qu rfl rfl rfl rfl (fun _ => h) (fun _ => ql rfl rfl (vm rfl)) ?_))
   refine qj rfl rfl rfl rfl h (fun _ h => ql rfl rfl (qq (v := .pointer (some ⟨k.d, 0, none⟩)) rfl (h.b 3 rfl) rfl)) ?_
   refine qu rfl rfl rfl rfl (fun _ => h) (fun _ => ql rfl rfl (jr rfl)) (qu rfl rfl rfl rfl (fun _ => h) (fun _ => ql rfl rfl (v7 rfl)) (qu rfl rfl rfl rfl (fun _ => h) (fun _ => ql rfl rfl (vm rfl)) (qu rfl rfl rfl rfl (fun _ => h) (fun _ => ql rfl rfl (vm rfl)) ?_)))
   refine qj rfl rfl rfl rfl h (fun _ h => ql rfl rfl (qq (v := .iz r.o.series) rfl (h.b 4 rfl) rfl)) ?_
   refine qu rfl rfl rfl rfl (fun _ => h) (fun _ => ql rfl rfl (jr rfl)) (qu rfl rfl rfl rfl (fun _ => h) (fun _ => ql rfl rfl (v7 rfl)) (qu rfl rfl rfl rfl (fun _ => h) (fun _ => ql rfl rfl (vm rfl)) ?_))
   refine qj rfl rfl rfl rfl h (fun _ h => ql rfl rfl (qq (v := .iz r.who) rfl (h.b 4 rfl) rfl)) ?_
   refine Y11 ?_
   refine qd 16 rfl rfl rfl (vd rfl rfl rfl) ?_
   have htk := mu r.o.series r.who (hs.f 3)
   rw [ht] at htk
   refine qg rfl htk ?_
   clear h hs htk
   rintro _ w ⟨rfl, hs⟩
   replace hs : St w0 (IsDir k.d D :: OwnS g.a4 g.c4 sl.opn :: OwnPr g.a5 g.c5 sl.chunks :: pt b5 (.cells (g.cells sl).toArray 85 (0, 0)) :: ShPt p k :: RunPt t r q :: IsCache k.c s.c :: IsStore k.b s.b :: IsTab k.t s.t.V :: N) w := hs
   have h := hs.drop
   refine ⟨fun _ => h, ?_⟩
   refine qu rfl rfl rfl rfl (fun _ => h) (fun _ => ql rfl rfl (y8 rfl)) (cpv rfl rfl rfl rfl h rfl (jl rfl rfl rfl) ?_)
   refine qn ?_
   refine Y1r ?_
   clear h
   have h := hs
   clear hs
   refine Y10 ?_; refine Y22 ?_
   refine r_v (qx (l := g.cells sl) rfl rfl (qw (h.b 3 rfl) rfl)) rfl ?_
   refine Yi ?_
   refine r_c rfl (qy (vs := g.cells sl) 5 h rfl rfl rfl rfl rfl rfl rfl fun w h => ?_)
   replace h : St w0 (IsDir k.d D :: OwnS g.a4 g.c4 sl.opn :: OwnPr g.a5 g.c5 sl.chunks :: pt b5 (.cells (g.cells sl).toArray 85 (0, 0)) :: ShPt p k :: RunPt t { r with slot := sl } { q with s := g } :: IsCache k.c s.c :: IsStore k.b s.b :: IsTab k.t s.t.V :: N) w := h
   refine Yi ?_
   refine r_c rfl (qb 5 h rfl (show _ = Value.bool true from rfl) rfl rfl rfl rfl fun w h => ?_)
   replace h : St w0 (IsDir k.d D :: OwnS g.a4 g.c4 sl.opn :: OwnPr g.a5 g.c5 sl.chunks :: pt b5 (.cells (g.cells sl).toArray 85 (0, 0)) :: ShPt p k :: RunPt t { r with slot := sl, flag := true } { q with s := g } :: IsCache k.c s.c :: IsStore k.b s.b :: IsTab k.t s.t.V :: N) w := h
   refine Yi ?_
   refine r_c rfl (qb 5 h rfl (show _ = Value.iz 1 from rfl) rfl rfl rfl rfl fun w h => ?_)
   replace h : St w0 (IsDir k.d D :: OwnS g.a4 g.c4 sl.opn :: OwnPr g.a5 g.c5 sl.chunks :: pt b5 (.cells (g.cells sl).toArray 85 (0, 0)) :: ShPt p k :: RunPt t { r with slot := sl, flag := true, ph := 1 } { q with s := g } :: IsCache k.c s.c :: IsStore k.b s.b :: IsTab k.t s.t.V :: N) w := h
   refine Yn ?_; refine Y7 ?_
   have h1 : St w0 (ShPt p k :: IsDir k.d D :: IsCache k.c s.c :: IsStore k.b s.b :: IsTab k.t s.t.V :: OwnS g.a4 g.c4 sl.opn :: OwnPr g.a5 g.c5 sl.chunks :: RunPt t { r with slot := sl, flag := true, ph := 1 } { q with s := g } :: N) w := (h.x [3]).o [3, 0, 5, 6, 7]
   have h2 : St w0 (IsSh p { s with d := D } :: OwnS g.a4 g.c4 sl.opn :: OwnPr g.a5 g.c5 sl.chunks :: RunPt t { r with slot := sl, flag := true, ph := 1 } { q with s := g } :: N) w := (St.shd (s := { s with d := D })).2 ⟨k, h1⟩
   subst hN
   have h3 : St w0 (RunPt t { r with slot := sl, flag := true, ph := 1 } { q with s := g } :: OneH q.one r.one :: OwnS g.a4 g.c4 sl.opn :: OwnPr g.a5 g.c5 sl.chunks :: OwnS q.n.a4 q.n.c4 r.next.opn :: OwnPr q.n.a5 q.n.c5 r.next.chunks :: OwnPr q.pa q.pc r.x.parts :: OwnS q.ta q.tc r.x.tail :: OwnS q.ga q.gc r.got :: OwnS q.ra q.rc r.res.list :: IsSh p { s with d := D } :: l) w := (h2.x [5, 6]).o [3, 4, 1, 2, 5, 6, 7, 8, 9, 10]
   have h4 : St w0 (IsRun t { r with slot := sl, flag := true, ph := 1 } :: IsSh p { s with d := D } :: l) w := (St.run (r := { r with slot := sl, flag := true, ph := 1 })).2 ⟨{ q with s := g }, h3⟩
   exact qv (qk (bq1 ⟨rfl, h4⟩))
theorem tq (h : St w0 (RunPt t r q :: l) w) : Ret prog 75 [.pz t] w fun v w' => v = .iz r.wrong ∧ St w0 (RunPt t r q :: l) w' := by
 obtain ⟨who, ⟨kind, series, iter, T, V, F, To, N⟩, ph, ⟨there, closed, life, ver, any, last, opn, chunks⟩, next, flag, us, held, x, told, one, i, got, fails, over, res⟩ := r
 obtain ⟨r, hr⟩ : ∃ r, r = (⟨who, ⟨kind, series, iter, T, V, F, To, N⟩, ph, ⟨there, closed, life, ver, any, last, opn, chunks⟩, next, flag, us, held, x, told, one, i, got, fails, over, res⟩ : Run) := ⟨_, rfl⟩
 have key : r.wrong = if kind ≠ 1 ∧ there = false then 3 else if kind ≠ 4 ∧ there = true ∧ closed = true then 2 else if kind = 1 ∧ there = true ∧ any = true ∧ T <= last then 1 else 0 := by rw [hr]; rfl
 rw [<- hr] at h ⊢
 obtain ⟨S, hS⟩ : ∃ S, S = q.s.cells ⟨there, closed, life, ver, any, last, opn, chunks⟩ := ⟨_, rfl⟩
 have hk : (r.C q)[1]? = some (.iz kind) := by rw [hr]; rfl
 have hT : (r.C q)[4]? = some (.iz T) := by rw [hr]; rfl
 have s0 : S[0]? = some (.bool there) := by rw [hS]; rfl
 have s1 : S[1]? = some (.bool closed) := by rw [hS]; rfl
 have s4 : S[4]? = some (.bool any) := by rw [hS]; rfl
 have s5 : S[5]? = some (.iz last) := by rw [hS]; rfl
 refine en func75 results75 ntmps75 ?_
 refine Yr ?_; refine Y5 ?_
 refine r_v (qx (l := S) rfl (by rw [hS]; rfl) (qw (h.b 0 rfl) (by rw [hS, hr]; rfl))) rfl ?_
 refine r_c rfl (qp h fun b3 w h => ?_)
 refine r_c rfl (qy (vs := S) 0 h rfl rfl rfl (by rw [hS]; rfl) (by rw [hS]; rfl) rfl (by rw [hS]; rfl) fun w h => ?_)
 replace h : St w0 (pt b3 (.cells S.toArray 85 (0, 0)) :: RunPt t r q :: l) w := by rw [hS] at h ⊢; exact h
 refine Y2 ?_
 refine qt (Γ := Unit) (fun _ => []) (fun _ w => r.wrong = 0 ∧ St w0 (RunPt t r q :: l) w) ?_ ?_
 rotate_left
 ·rintro _ w e ⟨hz, h⟩
  refine Y13 ?_
  exact qv (qk (bq1 ⟨by rw [hz]; rfl, h⟩))
 refine Yh ?_
 refine qt (Γ := Unit) (fun _ => [(0, .pz t), (3, .pz b3), (8, .bool (!(kind == 1) && !there))]) (fun _ w => St w0 (pt b3 (.cells S.toArray 85 (0, 0)) :: RunPt t r q :: l) w) ?_ ?_
 ·refine Y2l ?_; refine Yk ?_
  refine r_v (qq (v := .iz kind) rfl (h.b 1 rfl) hk) rfl ?_
  refine Y1q ?_
  by_cases h1 : kind = 1
  ·refine qz (.bool false) (by rw [h1]; rfl) ?_
   refine Y2f ?_; refine Y2h ?_
   exact qv ⟨(), ⟨rfl, rfl, by rw [h1]; rfl, trivial⟩, h⟩
  ·have e1 : (kind == 1) = false := by rw [beq_eq_false_iff_ne]; exact h1
   refine qz (.bool true) (by congr 1; rw [bne_iff_ne]; exact h1) ?_
   refine Y1e ?_
   refine r_v (qq (v := .bool there) rfl (h.b 0 rfl) s0) rfl ?_
   refine Y4v ?_; refine Y2m ?_
   exact qv ⟨(), ⟨rfl, rfl, by rw [e1]; rfl, trivial⟩, h⟩
 clear h
 rintro _ w e h
 refine qi (!(kind == 1) && !there) rfl (fun hb => ?_) (fun hb => ?_)
 ·rw [Ur, Wo, Wo, beq_eq_false_iff_ne] at hb
  refine Y13 ?_
  exact qv (qk (bq1 ⟨by rw [key, if_pos hb]; rfl, h.drop⟩))
 have n1 : ¬ (kind ≠ 1 ∧ there = false) := fun hh => by
  rw [Bool.and_eq_false_iff] at hb
  rcases hb with hb | hb
  ·exact hh.1 (by simpa using hb)
  ·rw [hh.2] at hb; cases hb
 refine qt (Γ := Unit) (fun _ => [(0, .pz t), (3, .pz b3), (20, .bool (!(kind == 4) && there && closed))]) (fun _ w => St w0 (pt b3 (.cells S.toArray 85 (0, 0)) :: RunPt t r q :: l) w) ?_ ?_
 ·refine Y2l ?_; refine Yk ?_
  refine r_v (qq (v := .iz kind) rfl (h.b 1 rfl) hk) rfl ?_
  refine Y1q ?_
  by_cases h1 : kind = 4
  ·refine qz (.bool false) (by rw [h1]; rfl) ?_
   refine Y1v ?_; refine Y9 ?_; refine Y1v ?_; refine Y2h ?_
   exact qv ⟨(), ⟨rfl, rfl, by rw [h1]; rfl, trivial⟩, h⟩
  ·have e1 : (kind == 4) = false := by rw [beq_eq_false_iff_ne]; exact h1
   refine qz (.bool true) (by congr 1; rw [bne_iff_ne]; exact h1) ?_
   refine Y1e ?_
   refine r_v (qq (v := .bool there) rfl (h.b 0 rfl) s0) rfl ?_
   cases there with
   | false =>
    refine Yf ?_; refine Y1v ?_; refine Y2h ?_
    exact qv ⟨(), ⟨rfl, rfl, by rw [e1]; rfl, trivial⟩, h⟩
   | true =>
    refine Yf ?_; refine Y1e ?_
    refine r_v (qq (v := .bool closed) rfl (h.b 0 rfl) s1) rfl ?_
    refine Y2m ?_
    exact qv ⟨(), ⟨rfl, rfl, by rw [e1]; rfl, trivial⟩, h⟩
 clear h
 rintro _ w e h
 refine qi (!(kind == 4) && there && closed) rfl (fun hb => ?_) (fun hb => ?_)
 ·rw [Ur, Ur, Wo, beq_eq_false_iff_ne] at hb
  refine Y13 ?_
  exact qv (qk (bq1 ⟨by rw [key, if_neg n1, if_pos ⟨hb.1.1, hb.1.2, hb.2⟩]; rfl, h.drop⟩))
 have n2 : ¬ (kind ≠ 4 ∧ there = true ∧ closed = true) := fun hh => by
  rw [hh.2.1, hh.2.2, show (kind == 4) = false by rw [beq_eq_false_iff_ne]; exact hh.1] at hb
  cases hb
 refine qt (Γ := Unit) (fun _ => [(0, .pz t), (3, .pz b3), (35, .bool ((kind == 1) && there && any && decide (T <= last)))]) (fun _ w => St w0 (pt b3 (.cells S.toArray 85 (0, 0)) :: RunPt t r q :: l) w) ?_ ?_
 ·refine jh none (fun w => St w0 (pt b3 (.cells S.toArray 85 (0, 0)) :: RunPt t r q :: l) w) O1 O1 h.drew fun w h => ?_
  refine Y1o ?_
  refine qj rfl rfl rfl rfl h (fun _ h => qh rfl (qq (v := .iz kind) rfl (h.b 1 rfl) hk)) ?_
  by_cases h1 : kind = 1
  ·have e1 : (kind == 1) = true := by rw [beq_iff_eq]; exact h1
   refine cpv rfl rfl rfl rfl h rfl (qr (v' := .bool true) (j9 rfl rfl) (congrArg Value.bool e1)) ?_
   refine Yz ?_; refine qu rfl rfl rfl rfl (fun _ => h) (fun _ => ql rfl rfl (vm rfl)) ?_
   refine qj rfl rfl rfl rfl h (fun _ h => ql rfl rfl (qq (v := .bool there) rfl (h.b 0 rfl) s0)) ?_
   cases there with
   | false =>
    refine cpv rfl rfl rfl rfl h rfl (ji rfl rfl rfl) ?_; refine Yz ?_; refine qu rfl rfl rfl rfl (fun _ => h) (fun _ => qo rfl rfl) (qu rfl rfl rfl rfl (fun _ => h) (fun _ => qo rfl rfl) (qu rfl rfl rfl rfl (fun _ => h) (fun _ => qo rfl rfl) (cpv rfl rfl rfl rfl h rfl (jl rfl rfl rfl) ?_))); refine Yz ?_; refine qu rfl rfl rfl rfl (fun _ => h) (fun _ => qo rfl rfl) (qu rfl rfl rfl rfl (fun _ => h) (fun _ => qo rfl rfl) (qu rfl rfl rfl rfl (fun _ => h) (fun _ => qo rfl rfl) (qu rfl rfl rfl rfl (fun _ => h) (fun _ => qo rfl rfl) (qu rfl rfl rfl rfl (fun _ => h) (fun _ => qo rfl rfl) (qu rfl rfl rfl rfl (fun _ => h) (fun _ => qo rfl rfl) ?_))))); refine qu rfl rfl rfl rfl (fun _ => h) (fun _ => qo rfl rfl) (qu rfl rfl rfl rfl (fun _ => h) (fun _ => qo rfl rfl) (qu rfl rfl rfl rfl (fun _ => h) (fun _ => qo rfl rfl) (cpv rfl rfl rfl rfl h rfl (jl rfl rfl rfl) ?_))); refine Y1d ?_
    exact qn ⟨(), ⟨rfl, rfl, by rw [e1]; rfl, trivial⟩, h⟩
   | true =>
    refine cpv rfl rfl rfl rfl h rfl (ji rfl rfl rfl) ?_; refine Yz ?_; refine qu rfl rfl rfl rfl (fun _ => h) (fun _ => ql rfl rfl (vm rfl)) (qu rfl rfl rfl rfl (fun _ => h) (fun _ => ql rfl rfl (vm rfl)) ?_)
    refine qj rfl rfl rfl rfl h (fun _ h => ql rfl rfl (qq (v := .bool any) rfl (h.b 0 rfl) s4)) ?_
    cases any with
    | false =>
     refine cpv rfl rfl rfl rfl h rfl (ji rfl rfl rfl) ?_; refine Yz ?_; refine qu rfl rfl rfl rfl (fun _ => h) (fun _ => qo rfl rfl) (qu rfl rfl rfl rfl (fun _ => h) (fun _ => qo rfl rfl) (qu rfl rfl rfl rfl (fun _ => h) (fun _ => qo rfl rfl) (qu rfl rfl rfl rfl (fun _ => h) (fun _ => qo rfl rfl) (qu rfl rfl rfl rfl (fun _ => h) (fun _ => qo rfl rfl) (qu rfl rfl rfl rfl (fun _ => h) (fun _ => qo rfl rfl) ?_))))); refine qu rfl rfl rfl rfl (fun _ => h) (fun _ => qo rfl rfl) (qu rfl rfl rfl rfl (fun _ => h) (fun _ => qo rfl rfl) (qu rfl rfl rfl rfl (fun _ => h) (fun _ => qo rfl rfl) (cpv rfl rfl rfl rfl h rfl (jl rfl rfl rfl) ?_))); refine Y1d ?_
     exact qn ⟨(), ⟨rfl, rfl, by rw [e1]; rfl, trivial⟩, h⟩
    | true =>
     refine cpv rfl rfl rfl rfl h rfl (ji rfl rfl rfl) ?_; refine Yz ?_; refine qu rfl rfl rfl rfl (fun _ => h) (fun _ => ql rfl rfl (jr rfl)) (qu rfl rfl rfl rfl (fun _ => h) (fun _ => ql rfl rfl (v7 rfl)) (qu rfl rfl rfl rfl (fun _ => h) (fun _ => ql rfl rfl (vm rfl)) (qu rfl rfl rfl rfl (fun _ => h) (fun _ => ql rfl rfl (vm rfl)) ?_)))
     refine qj rfl rfl rfl rfl h (fun _ h => ql rfl rfl (qq (v := .iz T) rfl (h.b 1 rfl) hT)) ?_
     refine qu rfl rfl rfl rfl (fun _ => h) (fun _ => ql rfl rfl (vm rfl)) (qu rfl rfl rfl rfl (fun _ => h) (fun _ => ql rfl rfl (vm rfl)) ?_)
     refine qj rfl rfl rfl rfl h (fun _ h => ql rfl rfl (qq (v := .iz last) rfl (h.b 0 rfl) s5)) ?_
     refine qu rfl rfl rfl rfl (fun _ => h) (fun _ => ql rfl rfl (ni rfl rfl)) ?_
     refine cpv rfl rfl rfl rfl h rfl (ji rfl rfl rfl) ?_
     refine Y1d ?_
     exact qn ⟨(), ⟨rfl, rfl, by rw [e1]; rfl, trivial⟩, h⟩
  ·have e1 : (kind == 1) = false := by rw [beq_eq_false_iff_ne]; exact h1
   refine cpv rfl rfl rfl rfl h rfl (qr (v' := .bool false) (j9 rfl rfl) (congrArg Value.bool e1)) ?_
   refine Yz ?_; refine qu rfl rfl rfl rfl (fun _ => h) (fun _ => qo rfl rfl) (qu rfl rfl rfl rfl (fun _ => h) (fun _ => qo rfl rfl) (cpv rfl rfl rfl rfl h rfl (jl rfl rfl rfl) ?_)); refine Yz ?_; refine qu rfl rfl rfl rfl (fun _ => h) (fun _ => qo rfl rfl) (qu rfl rfl rfl rfl (fun _ => h) (fun _ => qo rfl rfl) (qu rfl rfl rfl rfl (fun _ => h) (fun _ => qo rfl rfl) (cpv rfl rfl rfl rfl h rfl (jl rfl rfl rfl) ?_))); refine Yz ?_; refine qu rfl rfl rfl rfl (fun _ => h) (fun _ => qo rfl rfl) (qu rfl rfl rfl rfl (fun _ => h) (fun _ => qo rfl rfl) (qu rfl rfl rfl rfl (fun _ => h) (fun _ => qo rfl rfl) (qu rfl rfl rfl rfl (fun _ => h) (fun _ => qo rfl rfl) (qu rfl rfl rfl rfl (fun _ => h) (fun _ => qo rfl rfl) (qu rfl rfl rfl rfl (fun _ => h) (fun _ => qo rfl rfl) ?_))))); refine qu rfl rfl rfl rfl (fun _ => h) (fun _ => qo rfl rfl) (qu rfl rfl rfl rfl (fun _ => h) (fun _ => qo rfl rfl) (qu rfl rfl rfl rfl (fun _ => h) (fun _ => qo rfl rfl) (cpv rfl rfl rfl rfl h rfl (jl rfl rfl rfl) ?_))); refine Y1d ?_
   exact qn ⟨(), ⟨rfl, rfl, by rw [e1]; rfl, trivial⟩, h⟩
 clear h
 rintro _ w e h
 refine qi ((kind == 1) && there && any && decide (T <= last)) rfl (fun hb => ?_) (fun hb => ?_)
 ·rw [Ur, Ur, Ur, beq_iff_eq, decide_eq_true_eq] at hb
  refine Y13 ?_
  exact qv (qk (bq1 ⟨by rw [key, if_neg n1, if_neg n2, if_pos ⟨hb.1.1.1, hb.1.1.2, hb.1.2, hb.2⟩]; rfl, h.drop⟩))
 have n3 : ¬ (kind = 1 ∧ there = true ∧ any = true ∧ T <= last) := fun hh => by
  rw [hh.2.1, hh.2.2.1, show (kind == 1) = true by rw [beq_iff_eq]; exact hh.1, decide_eq_true hh.2.2.2] at hb
  cases hb
 exact qa ⟨(), trivial, by rw [key, if_neg n1, if_neg n2, if_neg n3], h.drop⟩
end
end
section
theorem chMake1_lenN {L : List Smp} {c : List UInt8} (h : chMake 1 L = some c) : c.length <= 70 + 20 * L.length := by
 obtain ⟨x, hx, _, he⟩ := chMake_some h
 have hb := chBody_len 1 L x
 rw [he, Ua, be4_len]
 unfold suitEnc at hx
 split at hx
 ·have h1 : valuesEnc 1 (valsOf L) = some (pack (xorBits (valsOf L))) := by unfold valuesEnc; rw [if_pos rfl]
  rw [h1] at hx
  have hx' : suitBytes L (pack (xorBits (valsOf L))) = x := Uk hx
  have h2 := timesBits_len (timesOf L)
  have h3 := j6 (timesBits (timesOf L))
  have h4 := jd (pack (timesBits (timesOf L))).length
  have h5 : (timesOf L).length = L.length := by simp [timesOf]
  have h6 := xorBits_len (valsOf L)
  have h7 := j6 (xorBits (valsOf L))
  have h8 : (valsOf L).length = L.length := by simp [valsOf]
  have h9 : x.length <= 30 + 20 * L.length := by
   rw [<- hx']
   unfold suitBytes
   rw [Ua, Ua]
   omega
  omega
 ·cases hx
theorem chMake1_len {L : List Smp} {c : List UInt8} (hn : L.length <= 60) (h : chMake 1 L = some c) : c.length <= 2000 := by
 have := chMake1_lenN h
 omega
end
section
section
variable {w0 w : World} {l : List HProp} {t p : Nat} {r : Run} {s : Shd} {q : RunQ}
def rstN (r : Run) (q : RunQ) (k : ShQ) (s : Shd) (l : List HProp) : List HProp :=
 OneH q.one r.one :: OwnS q.s.a4 q.s.c4 r.slot.opn :: OwnPr q.s.a5 q.s.c5 r.slot.chunks :: OwnPr q.pa q.pc r.x.parts :: OwnS q.ta q.tc r.x.tail :: OwnS q.ga q.gc r.got :: OwnS q.ra q.rc r.res.list :: IsDir k.d s.d :: IsCache k.c s.c :: IsTab k.t s.t.V :: l
theorem St.nx : St w0 (IsRun t r :: IsSh p s :: l) w ↔ ∃ q k, St w0 (RunPt t r q :: OwnS q.n.a4 q.n.c4 r.next.opn :: OwnPr q.n.a5 q.n.c5 r.next.chunks :: ShPt p k :: IsStore k.b s.b :: rstN r q k s l) w := by
 constructor
 ·intro h
  obtain ⟨q, h⟩ := (St.run (r := r)).1 h
  obtain ⟨k, h⟩ := (St.shd (s := s)).1 (h.f 10)
  exact ⟨q, k, h.o [5, 9, 10, 0, 3, 6, 7, 8, 11, 12, 13, 14, 1, 2, 4]⟩
 ·rintro ⟨q, k, h⟩
  have h1 : St w0 (ShPt p k :: IsDir k.d s.d :: IsCache k.c s.c :: IsStore k.b s.b :: IsTab k.t s.t.V :: RunPt t r q :: OneH q.one r.one :: OwnS q.s.a4 q.s.c4 r.slot.opn :: OwnPr q.s.a5 q.s.c5 r.slot.chunks :: OwnS q.n.a4 q.n.c4 r.next.opn :: OwnPr q.n.a5 q.n.c5 r.next.chunks :: OwnPr q.pa q.pc r.x.parts :: OwnS q.ta q.tc r.x.tail :: OwnS q.ga q.gc r.got :: OwnS q.ra q.rc r.res.list :: l) w := h.o [3, 12, 13, 4, 14, 0, 5, 6, 7, 1, 2, 8, 9, 10, 11]
  have h2 : St w0 (IsSh p s :: RunPt t r q :: OneH q.one r.one :: OwnS q.s.a4 q.s.c4 r.slot.opn :: OwnPr q.s.a5 q.s.c5 r.slot.chunks :: OwnS q.n.a4 q.n.c4 r.next.opn :: OwnPr q.n.a5 q.n.c5 r.next.chunks :: OwnPr q.pa q.pc r.x.parts :: OwnS q.ta q.tc r.x.tail :: OwnS q.ga q.gc r.got :: OwnS q.ra q.rc r.res.list :: l) w := (St.shd (s := s)).2 ⟨k, h1⟩
  exact (St.run (r := r)).2 ⟨q, h2.o [1, 2, 3, 4, 5, 6, 7, 8, 9, 10]⟩
theorem yg {b : Nat} {S : Sto} (n : Int) (h : St w0 (IsStore b S :: l) w) : Ret prog 129 [.pz b, .iz n] w fun v w' => v = .bool (S.chg n).1 ∧ St w0 (IsStore b (S.chg n).2 :: l) w' := by
 refine (pe n h).mono fun v w hh => ?_
 by_cases hc : n > 0 ∧ n > IntKind.i64.wrap (S.budget - IntKind.i64.wrap (S.bytes + S.charged))
 ·have e : S.chg n = (false, S) := if_pos hc
  rw [if_pos hc] at hh
  rw [e]; exact hh
 ·have e : S.chg n = (true, S.charge n) := if_neg hc
  rw [if_neg hc] at hh
  rw [e]; exact hh
theorem eu {b : Nat} {S : Sto} {sl : Option Addr} {c : Nat} {bs : List UInt8} (h : St w0 (IsStore b S :: l) w) (hr : ∀ w', St w0 l w' -> Rd w' 1 sl bs.length (bytesV bs)) (hn : bs.length <= 140737488355328) (hfree : mget (wI (S.last + 1)) S.l = none) :
  Ret prog 145 [.pz b, .slice sl bs.length c] w fun v w' => v = .tuple [.iz (((S.add bs).map (·.2)).getD 0), .bool (S.add bs).isSome].toArray ∧ St w0 (IsStore b (((S.add bs).map (·.1)).getD S) :: l) w' := by
 refine (qqh (n := bs.length) (c := c) h hr hn hfree).mono fun v w hh => ?_
 by_cases hc : IntKind.i64.wrap (S.budget - IntKind.i64.wrap (S.bytes + S.charged)) < bs.length
 ·have e : S.add bs = none := if_pos hc
  rw [if_pos hc] at hh
  rw [e]; exact hh
 ·have e : S.add bs = some (⟨S.budget, wI (S.last + 1), wI (S.bytes + bs.length), S.charged, mset (wI (S.last + 1)) ⟨bs, 1⟩ S.l⟩, wI (S.last + 1)) := if_neg hc
  rw [if_neg hc] at hh
  rw [e]; exact hh
theorem mx {S : Sto} (n : Int) : (S.chg n).2.last = S.last ∧ (S.chg n).2.l = S.l ∧ (S.chg n).2.budget = S.budget ∧ (S.chg n).2.bytes = S.bytes := by
 unfold Sto.chg
 split <;> exact ⟨rfl, rfl, rfl, rfl⟩
structure Run.CloseOk (r : Run) (s : Shd) : Prop where
 wf : ∀ x ∈ r.next.opn, x.Wf
 few : r.next.opn.length <= 60
 chunks : r.next.chunks.length <= 1048576
 free : mget (wI (s.b.last + 1)) s.b.l = none
theorem dr (hT : Tz w0) (hok : r.CloseOk s) (h : St w0 (IsRun t r :: IsSh p s :: l) w) :
  Ret prog 131 [.pz t, .pz p] w fun v w' => v = .bool (r.close s).2.2 ∧ St w0 (IsRun t (r.close s).1 :: IsSh p (r.close s).2.1 :: l) w' := by
 obtain ⟨hwf, hfew, hch, hfree⟩ := hok
 obtain ⟨q, k, h⟩ := St.nx.1 h
 obtain ⟨bs, hbs⟩ : ∃ bs, (chMake 1 r.next.opn).getD [] = bs := ⟨_, rfl⟩
 have hbl : bs.length <= 2000 := by
  rw [<- hbs]
  cases hm : chMake 1 r.next.opn with
  | none => exact Ud _
  | some c => exact chMake1_len hfew hm
 obtain ⟨size, hsize⟩ : ∃ x, wI (16 * (r.next.opn.length : Int)) = x := ⟨_, rfl⟩
 obtain ⟨b1, hb1⟩ : ∃ b1, (s.b.chg (wI (0 - size))).2 = b1 := ⟨_, rfl⟩
 have hkeep := mx (S := s.b) (wI (0 - size))
 rw [hb1] at hkeep
 have hfree1 : mget (wI (b1.last + 1)) b1.l = none := by rw [hkeep.1, hkeep.2.1]; exact hfree
 obtain ⟨hd, hhd⟩ : ∃ hd : Hd, ((headDec bs).map (fun q => q.1)).getD ⟨0, 0, 0, 0⟩ = hd := ⟨_, rfl⟩
 have key : r.close s = match b1.add bs with
  | none => (r, { s with b := (b1.chg size).2 }, false)
  | some (b2, id) => ({ r with next := { r.next with chunks := r.next.chunks ++ [⟨id, hd.tag, hd.count, hd.f, hd.t⟩], opn := [] } }, { s with b := b2 }, true) := by
  unfold Run.close SlotV.size
  dsimp only
  rw [hsize, hbs, hb1, hhd]
  all_goals
   cases b1.add bs with
   | none => rfl
   | some g => rfl
 obtain ⟨R, hR⟩ : ∃ R, rstN r q k s l = R := ⟨_, rfl⟩
 rw [hR] at h
 refine en func131 results131 ntmps131 ?_
 refine Y12 ?_; refine Y3o ?_
 refine r_v (qx (l := opC r.next.any r.next.last q.n.a4 r.next.opn.length q.n.c4) rfl rfl (qw (h.b 0 rfl) rfl)) rfl ?_
 refine r_c rfl (qg rfl (my h) ?_)
 clear h
 rintro _ w ⟨rfl, h⟩
 rw [hsize]
 refine Y4 ?_; refine Y3o ?_
 refine r_v (qx (l := opC r.next.any r.next.last q.n.a4 r.next.opn.length q.n.c4) rfl rfl (qw (h.b 0 rfl) rfl)) rfl ?_
 refine r_c rfl (qg rfl (o9 hT hwf O0 (Reads.own.more [_]) h) ?_)
 clear h
 rintro _ w ⟨ba, bc, rfl, h⟩
 rw [hbs] at h ⊢
 refine Y3e ?_
 refine r_c rfl (qp h fun b7 w h => ?_)
 refine Yo ?_
 refine r_c rfl (qy (vs := opC r.next.any r.next.last none 0 0) 0 h rfl rfl rfl rfl rfl rfl rfl fun w h => ?_)
 replace h : St w0 (pt b7 (.cells (opC r.next.any r.next.last none 0 0).toArray 82 (0, 0)) :: OwnB ba bc bs :: RunPt t r q :: OwnS q.n.a4 q.n.c4 r.next.opn :: OwnPr q.n.a5 q.n.c5 r.next.chunks :: ShPt p k :: IsStore k.b s.b :: R) w := h
 refine Y2 ?_; refine Y5 ?_
 refine r_v (qq (v := .pointer (some ⟨k.b, 0, none⟩)) rfl (h.b 5 rfl) rfl) rfl ?_
 refine Y0 ?_; refine r_v (sx rfl) rfl ?_
 refine qz (.iz (wI (0 - size))) (by congr 1) ?_
 refine r_c rfl (qg rfl (yg (wI (0 - size)) (h.f 6)) ?_)
 clear h
 rintro _ w ⟨rfl, h⟩
 rw [hb1] at h
 refine Y2 ?_; refine Y5 ?_
 refine r_v (qq (v := .pointer (some ⟨k.b, 0, none⟩)) rfl (h.b 6 rfl) rfl) rfl ?_
 refine Yj ?_
 refine r_c rfl (qg rfl (eu (bs := bs) h (fun w' h' => (h'.f 1).own_rd) O0 hfree1) ?_)
 clear h
 rintro _ w ⟨rfl, h⟩
 cases hadd : b1.add bs with
 | none =>
  rw [hadd] at h key
  replace key : r.close s = (r, { s with b := (b1.chg size).2 }, false) := key
  rw [key]
  replace h : St w0 (IsStore k.b b1 :: pt b7 (.cells (opC r.next.any r.next.last none 0 0).toArray 82 (0, 0)) :: OwnB ba bc bs :: RunPt t r q :: OwnS q.n.a4 q.n.c4 r.next.opn :: OwnPr q.n.a5 q.n.c5 r.next.chunks :: ShPt p k :: R) w := h
  refine Y48 ?_; refine Y1h ?_; refine Yd ?_; refine Y5 ?_
  refine r_v (qq (v := .pointer (some ⟨k.b, 0, none⟩)) rfl (h.b 6 rfl) rfl) rfl ?_
  refine Y0 ?_
  refine r_c rfl (qg rfl (yg size h) ?_)
  clear h
  rintro _ w ⟨rfl, h⟩
  refine Yn ?_; refine Y7 ?_
  have h1 : St w0 (RunPt t r q :: OwnS q.n.a4 q.n.c4 r.next.opn :: OwnPr q.n.a5 q.n.c5 r.next.chunks :: ShPt p k :: IsStore k.b (b1.chg size).2 :: R) w := (h.x [1, 2]).o [1, 2, 3, 4, 0]
  rw [<- hR] at h1
  have h2 : St w0 (IsRun t r :: IsSh p { s with b := (b1.chg size).2 } :: l) w := (St.nx (s := { s with b := (b1.chg size).2 })).2 ⟨q, k, h1⟩
  exact qv (qk (bq1 ⟨rfl, h2⟩))
 | some g =>
  obtain ⟨b2, id⟩ := g
  rw [hadd] at h key
  obtain ⟨P, hP⟩ : ∃ P : Prt, P = ⟨id, hd.tag, hd.count, hd.f, hd.t⟩ := ⟨_, rfl⟩
  replace key : r.close s = ({ r with next := { r.next with chunks := r.next.chunks ++ [P], opn := [] } }, { s with b := b2 }, true) := by rw [key, hP]
  rw [key]
  replace h : St w0 (IsStore k.b b2 :: pt b7 (.cells (opC r.next.any r.next.last none 0 0).toArray 82 (0, 0)) :: OwnB ba bc bs :: RunPt t r q :: OwnS q.n.a4 q.n.c4 r.next.opn :: OwnPr q.n.a5 q.n.c5 r.next.chunks :: ShPt p k :: R) w := h
  refine Y48 ?_; refine Y1h ?_; refine Yb ?_; refine Ye ?_
  have hcap := (h.f 2).own_cases.2.1
  have hhead := ll (bs := bs) (c := bc) O0 hcap (Reads.own.more [_, _]) h
  have hhc : ((headDec bs).map fun q => hdC q.1).getD hdZ = hdC hd := by
   rw [<- hhd]
   cases headDec bs <;> rfl
  rw [hhc] at hhead
  refine r_c rfl (qg rfl hhead ?_)
  clear h hhead
  rintro _ w ⟨rfl, h⟩
  refine Y3e ?_
  refine r_c rfl (qp h fun b10 w h => ?_)
  refine r_c rfl (qy (vs := hdC hd) 0 h rfl rfl rfl rfl rfl rfl rfl fun w h => ?_)
  replace h : St w0 (pt b10 (.cells (hdC hd).toArray 229 (0, 0)) :: IsStore k.b b2 :: pt b7 (.cells (opC r.next.any r.next.last none 0 0).toArray 82 (0, 0)) :: OwnB ba bc bs :: RunPt t r q :: OwnS q.n.a4 q.n.c4 r.next.opn :: OwnPr q.n.a5 q.n.c5 r.next.chunks :: ShPt p k :: R) w := h
  refine Ya ?_
  refine qt (Γ := Option Addr × Nat) (fun _ => [(0, .pz t), (7, .pz b7)])
   (fun g w => St w0 (OwnPr g.1 g.2 (r.next.chunks ++ [P]) :: RunPt t { r with next := { r.next with chunks := r.next.chunks ++ [P] } } { q with n := { q.n with a5 := g.1, c5 := g.2 } } :: IsStore k.b b2 :: pt b7 (.cells (opC r.next.any r.next.last none 0 0).toArray 82 (0, 0)) :: ShPt p k :: R) w) ?_ ?_
  ·refine jm [0, 1, 2, 3, 4, 5, 6, 7, 8, 9, 10, 11, 12, 13, 14, 15, 16, 17, 18, 19, 20, 21, 22] (some 22) (fun w => St w0 (pt b10 (.cells (hdC hd).toArray 229 (0, 0)) :: RunPt t r q :: IsStore k.b b2 :: pt b7 (.cells (opC r.next.any r.next.last none 0 0).toArray 82 (0, 0)) :: ShPt p k :: R) w) O1 O1 ?_
   have hs : St w0 (OwnPr q.n.a5 q.n.c5 r.next.chunks :: pt b10 (.cells (hdC hd).toArray 229 (0, 0)) :: RunPt t r q :: IsStore k.b b2 :: pt b7 (.cells (opC r.next.any r.next.last none 0 0).toArray 82 (0, 0)) :: ShPt p k :: R) w.drew := (h.drew.x [3, 5]).o [4, 0, 3]
   clear h
   generalize w.drew = w1 at hs ⊢
   have h := hs.drop
   refine Y1j ?_; refine Y1o ?_
   refine qj rfl rfl rfl rfl h (fun _ h => qh rfl (qq (v := .slice q.n.a5 r.next.chunks.length q.n.c5) rfl (h.b 1 rfl) rfl)) ?_
   refine Yg ?_; refine Y18 ?_; refine Yv ?_
   refine qj rfl rfl rfl rfl h (fun _ h => qh rfl (qq (v := .iz hd.tag) rfl (h.b 0 rfl) rfl)) ?_
   refine Yv ?_
   refine qj rfl rfl rfl rfl h (fun _ h => qh rfl (qq (v := .iz hd.count) rfl (h.b 0 rfl) rfl)) ?_
   refine Yv ?_
   refine qj rfl rfl rfl rfl h (fun _ h => qh rfl (qq (v := .iz hd.f) rfl (h.b 0 rfl) rfl)) ?_
   refine Yv ?_
   refine qj rfl rfl rfl rfl h (fun _ h => qh rfl (qq (v := .iz hd.t) rfl (h.b 0 rfl) rfl)) ?_
   refine cpv rfl rfl rfl rfl h rfl (qc (r := P.cells) (by rw [hP]; rfl)) ?_
   refine Y2q ?_
   refine j4 6 17 rfl rfl rfl rfl rfl rfl ?_ ?_
   ·refine qg rfl (xd hs) ?_
    clear h hs
    rintro _ w ⟨rfl, hs⟩
    have h := hs.drop
    refine ⟨fun _ => h, ?_⟩
    refine Y2q ?_
    refine qd 17 rfl rfl rfl rfl ?_
    refine jg (r := prtsV [P]) hs rfl rfl rfl fun b5 w hs => ?_
    clear h
    have h := hs.drop.drop
    refine ⟨fun _ => h, ?_⟩
    refine Y3m ?_
    refine qd 18 rfl rfl rfl rfl ?_
    refine q9 (ys := prtsV [P]) (zs := prtsV (r.next.chunks ++ [P])) (m3 := (r.next.chunks ++ [P]).length) (hs.f 1) rfl rfl ⟨rfl, .inr ⟨b5, 0, rfl, qw (hs.b 0 rfl) rfl⟩⟩ (v9 _) O8 (by simp [prtsV]) O6 O6 rfl fun a2 c2 w _ hs => ?_
    clear h
    have h := hs.drop.drop
    refine ⟨fun _ => h, ?_⟩
    refine Y2y ?_; refine Yv ?_; refine Yg ?_
    refine jk 22 rfl rfl rfl ?_
    refine qb 3 hs rfl (show _ = Value.slice a2 (r.next.chunks ++ [P]).length c2 from rfl) rfl rfl rfl rfl fun w h => ?_
    exact ⟨(a2, c2), zz2, h.x [1, 2]⟩
   ·refine jg (r := prtsV [P]) hs rfl rfl rfl fun b5 w hs => ?_
    clear h
    have h := hs.drop.drop
    refine ⟨fun _ => h, ?_⟩
    refine Y2q ?_
    refine qd 6 rfl rfl rfl rfl ?_
    refine qg rfl (xd (hs.f 1)) ?_
    clear h hs
    rintro _ w ⟨rfl, hs⟩
    have h := hs.drop.drop
    refine ⟨fun _ => h, ?_⟩
    refine Y3m ?_
    refine qd 18 rfl rfl rfl rfl ?_
    refine q9 (ys := prtsV [P]) (zs := prtsV (r.next.chunks ++ [P])) (m3 := (r.next.chunks ++ [P]).length) hs rfl rfl ⟨rfl, .inr ⟨b5, 0, rfl, qw (hs.b 1 rfl) rfl⟩⟩ (v9 _) O8 (by simp [prtsV]) O6 O6 rfl fun a2 c2 w _ hs => ?_
    clear h
    have h := hs.drop.drop
    refine ⟨fun _ => h, ?_⟩
    refine Y2y ?_; refine Yv ?_; refine Yg ?_
    refine jk 22 rfl rfl rfl ?_
    refine qb 3 hs rfl (show _ = Value.slice a2 (r.next.chunks ++ [P]).length c2 from rfl) rfl rfl rfl rfl fun w h => ?_
    exact ⟨(a2, c2), zz2, h.x [1, 2]⟩
  clear h
  rintro ⟨a2, c2⟩ w e h
  dsimp only at h
  refine Ym ?_
  refine r_v (qx (l := opC r.next.any r.next.last none 0 0) rfl rfl (qw (h.b 3 rfl) rfl)) rfl ?_
  refine Yi ?_; refine Yk ?_
  refine r_c rfl (qy (vs := opC r.next.any r.next.last none 0 0) 1 h rfl rfl rfl rfl rfl rfl rfl fun w h => ?_)
  replace h : St w0 (OwnPr a2 c2 (r.next.chunks ++ [P]) :: RunPt t { r with next := { r.next with chunks := r.next.chunks ++ [P], opn := [] } } { q with n := ⟨none, 0, a2, c2⟩ } :: IsStore k.b b2 :: pt b7 (.cells (opC r.next.any r.next.last none 0 0).toArray 82 (0, 0)) :: ShPt p k :: R) w := h
  refine Yn ?_; refine Y7 ?_
  have h1 : St w0 (RunPt t { r with next := { r.next with chunks := r.next.chunks ++ [P], opn := [] } } { q with n := ⟨none, 0, a2, c2⟩ } :: OwnS none 0 [] :: OwnPr a2 c2 (r.next.chunks ++ [P]) :: ShPt p k :: IsStore k.b b2 :: R) w := ((h.x [3]).ownNil 57 2).o [2, 0, 1, 4, 3]
  rw [<- hR] at h1
  have h2 : St w0 (IsRun t { r with next := { r.next with chunks := r.next.chunks ++ [P], opn := [] } } :: IsSh p { s with b := b2 } :: l) w := (St.nx (r := { r with next := { r.next with chunks := r.next.chunks ++ [P], opn := [] } }) (s := { s with b := b2 })).2 ⟨{ q with n := ⟨none, 0, a2, c2⟩ }, k, h1⟩
  exact qv (qk (bq1 ⟨rfl, h2⟩))
end
end
section
section
variable {w0 w : World} {l : List HProp} {t p : Nat} {r : Run} {s : Shd} {q : RunQ}
theorem chg_no {S : Sto} {n : Int} (h : (S.chg n).1 = false) : S.chg n = (false, S) := by
 unfold Sto.chg at h ⊢
 split
 ·rfl
 ·rename_i hc; rw [if_neg hc] at h; cases h
structure Run.AddOk (r : Run) (s : Shd) : Prop where
 wf : ∀ x ∈ r.next.opn, x.Wf
 op : r.o.Wf
 few : r.next.opn.length <= 50
 chunks : r.next.chunks.length <= 1048576
 free : mget (wI (s.b.last + 1)) s.b.l = none
def Run.n0 (r : Run) : SlotV := if r.next.there then r.next else { SlotV.zero with there := true, life := r.slot.life }
theorem qq8 (hT : Tz w0) (hok : r.AddOk s) (h : St w0 (IsRun t r :: IsSh p s :: l) w) :
  Ret prog 107 [.pz t, .pz p] w fun v w' => v = .bool (r.add s).2.2 ∧ St w0 (IsRun t (r.add s).1 :: IsSh p (r.add s).2.1 :: l) w' := by
 obtain ⟨hwf, hop, hfew, hch, hfree⟩ := hok
 obtain ⟨q, k, h⟩ := St.nx.1 h
 obtain ⟨n0, hn0⟩ : ∃ n0, r.n0 = n0 := ⟨_, rfl⟩
 have hwf0 : ∀ x ∈ n0.opn, x.Wf := by
  rw [<- hn0]; unfold Run.n0; split
  ·exact hwf
  ·intro x hx; cases hx
 have hfew0 : n0.opn.length <= 50 ∧ n0.chunks.length <= 1048576 := by
  rw [<- hn0]; unfold Run.n0; split
  ·exact ⟨hfew, hch⟩
  ·exact ⟨Ud _, Ud _⟩
 obtain ⟨x, hx⟩ : ∃ x : Smp, x = ⟨r.o.T, (r.o.V : Int)⟩ := ⟨_, rfl⟩
 have hxw : x.Wf := by rw [hx]; exact ⟨hop.2.2.2.1, ⟨O_d, by have := hop.2.2.2.2.1; dsimp only; omega⟩⟩
 obtain ⟨n1, hn1⟩ : ∃ n1, n0.add x = n1 := ⟨_, rfl⟩
 have hn1' : n1 = { n0 with any := (opAdd n0.any n0.last n0.opn x).1, last := (opAdd n0.any n0.last n0.opn x).2.1, opn := (opAdd n0.any n0.last n0.opn x).2.2.1 } := by rw [<- hn1]; exact SlotV.add_eq n0 x
 have h1len : n1.opn.length <= 51 ∧ n1.chunks = n0.chunks ∧ ∀ y ∈ n1.opn, y.Wf := by
  rw [<- hn1]; unfold SlotV.add; split
  ·exact ⟨O_o, rfl, hwf0⟩
  ·refine ⟨by dsimp only; simp; omega, rfl, fun y hy => ?_⟩
   rcases Ws.1 hy with hy | hy
   ·exact hwf0 y hy
   ·rw [Vc.1 hy]; exact hxw
 obtain ⟨r1, hr1⟩ : ∃ r1, r1 = { r with next := n1 } := ⟨_, rfl⟩
 have key : r.add s = match s.b.chg 16 with
   | (false, _) => (r1, s, false)
   | (true, b) => if n1.opn.length < 8 then (r1, { s with b := b }, true) else match r1.close { s with b := b } with
    | (r, s, true) => (r, s, true)
    | (r, s, false) => (r, { s with b := (s.b.chg (-16)).2 }, false) := by
  unfold Run.add
  dsimp only
  rw [show (if r.next.there = true then r.next else { SlotV.zero with there := true, life := r.slot.life }) = n0 from hn0, <- hx, hn1, hr1]
  all_goals
   cases s.b.chg 16 with
   | mk g b =>
    cases g with
    | false => rfl
    | true =>
     dsimp only
     by_cases h8 : n1.opn.length < 8
     ·rw [if_pos h8, if_pos h8]
     ·rw [if_neg h8, if_neg h8]
      cases Run.close { r with next := n1 } { s with b := b } with
      | mk a c => obtain ⟨c, d⟩ := c; cases d <;> rfl
 obtain ⟨R, hR⟩ : ∃ R, rstN r q k s l = R := ⟨_, rfl⟩
 rw [hR] at h
 refine en func107 results107 ntmps107 ?_
 refine Y12 ?_
 refine qt (Γ := Q4) (fun _ => [(0, .pz t), (1, .pz p)])
  (fun g w => St w0 (RunPt t { r with next := n0 } { q with n := g } :: OwnS g.a4 g.c4 n0.opn :: OwnPr g.a5 g.c5 n0.chunks :: ShPt p k :: IsStore k.b s.b :: R) w) ?_ ?_
 ·refine Y3o ?_
  refine r_v (qq (v := .bool r.next.there) rfl (h.b 0 rfl) rfl) rfl ?_
  cases ht : r.next.there with
  | true =>
   refine Yx ?_
   have e0 : n0 = r.next := by rw [<- hn0]; exact if_pos ht
   refine qv (qe rfl (qa ⟨q.n, zz2, ?_⟩))
   rw [e0]; exact h
  | false =>
   refine Yx ?_
   have e0 : n0 = { SlotV.zero with there := true, life := r.slot.life } := by rw [<- hn0]; exact if_neg (by rw [ht]; decide)
   refine Y3s ?_; refine Y1t ?_; refine Yk ?_
   refine r_v (qq (v := .iz r.slot.life) rfl (h.b 0 rfl) rfl) rfl ?_
   refine r_v (qc (r := ({ SlotV.zero with there := true, life := r.slot.life } : SlotV).cells none 0 none 0) rfl) rfl ?_
   refine Yi ?_
   refine r_c rfl (qy (vs := ({ SlotV.zero with there := true, life := r.slot.life } : SlotV).cells none 0 none 0) 0 h rfl rfl rfl rfl rfl rfl rfl fun w h => ?_)
   refine qv ⟨⟨none, 0, none, 0⟩, zz2, ?_⟩
   rw [e0]
   exact (((h.x [1, 2]).ownNil 168 5).ownNil 57 2).o [2]
 clear h
 rintro g w e h
 refine qt (Γ := Option Addr × Nat) (fun _ => [(0, .pz t), (1, .pz p)])
  (fun u w => St w0 (RunPt t r1 { q with n := ⟨u.1, u.2, g.a5, g.c5⟩ } :: OwnS u.1 u.2 n1.opn :: OwnPr g.a5 g.c5 n1.chunks :: ShPt p k :: IsStore k.b s.b :: R) w) ?_ ?_
 ·refine vo [0, 1, 2, 3, 4, 5, 6, 7, 8, 9, 10, 11, 12, 13, 14, 15, 16, 17, 18, 19, 24, 20, 21, 22, 23] (some 24) (fun w => St w0 (RunPt t { r with next := n0 } { q with n := g } :: OwnS g.a4 g.c4 n0.opn :: OwnPr g.a5 g.c5 n0.chunks :: ShPt p k :: IsStore k.b s.b :: R) w) O1 O1 h.drew fun w h => ?_
  refine Y1j ?_; refine Y1o ?_
  refine qj rfl rfl rfl rfl h (fun _ h => qh rfl (qx (l := opC n0.any n0.last g.a4 n0.opn.length g.c4) rfl rfl (qw (h.b 0 rfl) rfl))) ?_
  refine Y1o ?_
  refine qj rfl rfl rfl rfl h (fun _ h => qh rfl (qq (v := .iz r.o.T) rfl (h.b 0 rfl) rfl)) ?_
  refine Y1o ?_
  refine qj rfl rfl rfl rfl h (fun _ h => qh rfl (qq (v := .int .u64 (r.o.V : Int)) rfl (h.b 0 rfl) rfl)) ?_
  refine cpv rfl rfl rfl rfl h rfl (qc (r := x.cells) (by rw [hx]; rfl)) ?_
  refine Y16 ?_; refine Y16 ?_
  refine qd 17 rfl rfl rfl rfl ?_
  refine qg rfl (qq7 (s := x) O0 (Reads.own.more [_]) h) ?_
  clear h
  rintro _ w ⟨ua, uc, rfl, h1⟩
  have h := h1.drop
  refine ⟨fun _ => h, ?_⟩
  refine Y29 ?_; refine Y2y ?_; refine Yv ?_; refine Yg ?_
  refine jk 24 rfl rfl rfl ?_
  refine qy (vs := opC (opAdd n0.any n0.last n0.opn x).1 (opAdd n0.any n0.last n0.opn x).2.1 ua (opAdd n0.any n0.last n0.opn x).2.2.1.length uc) 1 h1 rfl rfl rfl rfl rfl rfl rfl fun w h => ?_
  refine ⟨(ua, uc), zz2, ?_⟩
  rw [hr1, hn1']
  exact (h.x [2]).o [1, 0]
 clear h
 rintro ⟨ua, uc⟩ w e h
 dsimp only at h
 obtain ⟨Q, hQ⟩ : ∃ Q : RunQ, { q with n := ⟨ua, uc, g.a5, g.c5⟩ } = Q := ⟨_, rfl⟩
 have hRQ : ∀ b, rstN r1 Q k { s with b := b } l = R := fun b => by rw [<- hQ, hr1, <- hR]; rfl
 have hback : ∀ {w : World} {b : Sto}, St w0 (RunPt t r1 Q :: OwnS ua uc n1.opn :: OwnPr g.a5 g.c5 n1.chunks :: ShPt p k :: IsStore k.b b :: R) w -> St w0 (IsRun t r1 :: IsSh p { s with b := b } :: l) w := by
  intro w b h
  rw [<- hRQ b] at h
  refine (St.nx (r := r1) (s := { s with b := b })).2 ⟨Q, k, ?_⟩
  rw [<- hQ] at h ⊢
  rw [hr1] at h ⊢
  exact h
 rw [hQ] at h
 refine Y2n ?_
 refine r_v (qq (v := .pointer (some ⟨k.b, 0, none⟩)) rfl (h.b 3 rfl) rfl) rfl ?_
 refine r_c rfl (qg rfl (yg 16 (h.f 4)) ?_)
 clear h
 rintro _ w ⟨rfl, h⟩
 replace h : St w0 (RunPt t r1 Q :: OwnS ua uc n1.opn :: OwnPr g.a5 g.c5 n1.chunks :: ShPt p k :: IsStore k.b (s.b.chg 16).2 :: R) w := h.o [1, 2, 3, 4]
 cases hc : s.b.chg 16 with
 | mk ok b =>
 cases ok with
 | false =>
  rw [hc] at key h
  have hs : b = s.b := by have := chg_no (S := s.b) (n := 16) (by rw [hc]); rw [hc] at this; exact (Prod.mk.inj this).2
  subst hs
  refine Yx ?_; refine Y27 ?_; refine Y7 ?_
  rw [key]
  exact qv (qk (bq1 ⟨rfl, hback h⟩))
 | true =>
  rw [hc] at key h
  dsimp only at key h
  refine Y41 ?_; refine Y2n ?_; refine Yk ?_
  refine r_v (qx (l := opC n1.any n1.last ua n1.opn.length uc) rfl rfl (qw (h.b 0 rfl) (by rw [<- hQ, hr1]; rfl))) rfl ?_
  refine r_c rfl (qg rfl (ej h) ?_)
  clear h
  rintro _ w ⟨rfl, h⟩
  by_cases hf : n1.opn.length < 8
  ·rw [if_pos hf] at key
   refine qz (.bool false) O4 ?_
   refine Yx ?_; refine Y2f ?_; refine Y1s ?_; refine Y4f ?_
   rw [key]
   exact qv (qk (bq1 ⟨rfl, hback h⟩))
  ·rw [if_neg hf] at key
   refine qz (.bool true) O3 ?_
   refine Yx ?_; refine Y3f ?_; refine Y4t ?_
   have hcl := dr (r := r1) (s := { s with b := b }) hT ⟨by rw [hr1]; exact h1len.2.2, by rw [hr1]; dsimp only; omega, by rw [hr1]; dsimp only; rw [h1len.2.1]; exact hfew0.2, by
    have hk := mx (S := s.b) 16
    rw [hc] at hk
    dsimp only at hk ⊢
    rw [hk.1, hk.2.1]; exact hfree⟩ (hback h)
   refine r_c rfl (qg rfl hcl ?_)
   clear h hcl
   rintro _ w ⟨rfl, h⟩
   cases hcr : r1.close { s with b := b } with
   | mk r2 c =>
   obtain ⟨s2, ok⟩ := c
   rw [hcr] at key h
   dsimp only at h
   cases ok with
   | true =>
    replace key : r.add s = (r2, s2, true) := key
    rw [key]
    refine Y9 ?_; refine Y27 ?_; refine Y7 ?_
    exact qv (qk (bq1 ⟨rfl, h⟩))
   | false =>
    replace key : r.add s = (r2, { s2 with b := (s2.b.chg (-16)).2 }, false) := key
    rw [key]
    refine Y9 ?_; refine Yb ?_
    obtain ⟨k2, h⟩ := (St.shd (s := s2)).1 (h.f 1)
    refine Y5 ?_
    refine r_v (qq (v := .pointer (some ⟨k2.b, 0, none⟩)) rfl (h.b 0 rfl) rfl) rfl ?_
    refine r_c rfl (qg rfl (yg (-16) (h.f 3)) ?_)
    clear h
    rintro _ w ⟨rfl, h⟩
    refine Yn ?_; refine Y7 ?_
    have h1 : St w0 (ShPt p k2 :: IsDir k2.d s2.d :: IsCache k2.c s2.c :: IsStore k2.b (s2.b.chg (-16)).2 :: IsTab k2.t s2.t.V :: IsRun t r2 :: l) w := h.o [1, 2, 3]
    exact qv (qk (bq1 ⟨rfl, ((St.shd (s := { s2 with b := (s2.b.chg (-16)).2 })).2 ⟨k2, h1⟩).f 1⟩))
theorem ek (hT : Tz w0) (hok : r.CloseOk s) (h : St w0 (IsRun t r :: IsSh p s :: l) w) :
  Ret prog 108 [.pz t, .pz p] w fun v w' => v = .bool (r.seal_ s).2.2 ∧ St w0 (IsRun t (r.seal_ s).1 :: IsSh p (r.seal_ s).2.1 :: l) w' := by
 obtain ⟨r1, hr1⟩ : ∃ r1, r1 = { r with next := { r.next with closed := true } } := ⟨_, rfl⟩
 have key : r.seal_ s = if r.next.opn.length = 0 then (r1, s, true) else r1.close s := by rw [hr1]; rfl
 have hok1 : r1.CloseOk s := by rw [hr1]; exact ⟨hok.wf, hok.few, hok.chunks, hok.free⟩
 obtain ⟨q, h⟩ := (St.run' (r := r)).1 h
 refine en func108 results108 ntmps108 ?_
 refine Y12 ?_; refine Y3o ?_
 refine r_c rfl (qb 0 h rfl (show _ = Value.bool true from rfl) rfl rfl rfl rfl fun w h => ?_)
 replace h : St w0 (RunPt t r1 q :: (r1.rows q ++ (IsSh p s :: l))) w := by rw [hr1]; exact h
 refine Y2 ?_; refine Y3o ?_; refine Yk ?_
 refine r_v (qq (v := .slice q.n.a4 r.next.opn.length q.n.c4) rfl (h.b 0 rfl) (by rw [hr1]; rfl)) rfl ?_
 refine Y15 ?_; refine Yp ?_
 have hf : St w0 (IsRun t r1 :: IsSh p s :: l) w := (St.run' (r := r1)).2 ⟨q, h⟩
 by_cases h0 : r.next.opn.length = 0
 ·rw [if_pos h0] at key
  refine qz (.bool true) O13 ?_
  refine Y2f ?_; refine Y2m ?_
  rw [key]
  exact qv (qk (bq1 ⟨rfl, hf⟩))
 ·rw [if_neg h0] at key
  refine qz (.bool false) O5 ?_
  refine Y3f ?_; refine Y4t ?_
  refine r_c rfl (qg rfl (dr hT hok1 hf) ?_)
  clear h hf
  rintro _ w ⟨rfl, h⟩
  refine Y2h ?_
  rw [key]
  exact qv (qk (bq1 ⟨rfl, h⟩))
end
end
section
section
variable {w0 w : World} {l : List HProp} {t p : Nat} {r : Run} {s : Shd} {q : RunQ}
def rstS (r : Run) (q : RunQ) (k : ShQ) (s : Shd) (l : List HProp) : List HProp :=
 OneH q.one r.one :: OwnPr q.pa q.pc r.x.parts :: OwnS q.ta q.tc r.x.tail :: OwnS q.ga q.gc r.got :: OwnS q.ra q.rc r.res.list :: IsDir k.d s.d :: IsCache k.c s.c :: IsTab k.t s.t.V :: l
theorem St.sl : St w0 (IsRun t r :: IsSh p s :: l) w ↔ ∃ q k, St w0 (RunPt t r q :: OwnS q.s.a4 q.s.c4 r.slot.opn :: OwnPr q.s.a5 q.s.c5 r.slot.chunks :: OwnS q.n.a4 q.n.c4 r.next.opn :: OwnPr q.n.a5 q.n.c5 r.next.chunks :: ShPt p k :: IsStore k.b s.b :: rstS r q k s l) w := by
 rw [St.nx]
 constructor
 ·rintro ⟨q, k, h⟩
  exact ⟨q, k, h.o [0, 6, 7, 1, 2, 3, 4]⟩
 ·rintro ⟨q, k, h⟩
  exact ⟨q, k, h.o [0, 3, 4, 5, 6, 7, 1, 2]⟩
theorem ey (hch : r.slot.chunks.length <= 1048576) (h : St w0 (IsRun t r :: IsSh p s :: l) w) :
  Ret prog 109 [.pz t, .pz p] w fun v w' => v = .bool (r.drop s).2.2 ∧ St w0 (IsRun t (r.drop s).1 :: IsSh p (r.drop s).2.1 :: l) w' := by
 obtain ⟨q, k, h⟩ := St.sl.1 h
 obtain ⟨R, hR⟩ : ∃ R, rstS r q k s l = R := ⟨_, rfl⟩
 rw [hR] at h
 obtain ⟨b1, hb1⟩ : ∃ b1, (s.b.chg (wI (0 - r.slot.size))).2 = b1 := ⟨_, rfl⟩
 have key : r.drop s = ({ r with next := { SlotV.zero with life := wI (r.slot.life + 1) } }, { s with b := b1.leave r.slot.chunks }, true) := by rw [<- hb1]; rfl
 rw [key]
 refine en func109 results109 ntmps109 ?_
 refine Y12 ?_; refine qf ?_
 refine jm [0, 1, 2, 3, 4, 5, 6, 7, 8, 9, 10, 11] none (fun w => St w0 (RunPt t r q :: OwnS q.s.a4 q.s.c4 r.slot.opn :: OwnPr q.s.a5 q.s.c5 r.slot.chunks :: OwnS q.n.a4 q.n.c4 r.next.opn :: OwnPr q.n.a5 q.n.c5 r.next.chunks :: ShPt p k :: R) w) O1 O1 ?_
 have hs := h.drew
 clear h
 generalize w.drew = w1 at hs ⊢
 have h := hs.x [6]
 refine Y3 ?_
 refine qj rfl rfl rfl rfl h (fun _ h => qh rfl (qq (v := .pointer (some ⟨k.b, 0, none⟩)) rfl (h.b 5 rfl) rfl)) ?_
 refine Y1o ?_
 refine qj rfl rfl rfl rfl h (fun _ h => qh rfl (qx (l := opC r.slot.any r.slot.last q.s.a4 r.slot.opn.length q.s.c4) rfl rfl (qw (h.b 0 rfl) rfl))) ?_
 refine Y11 ?_
 refine qd 9 rfl rfl rfl rfl ?_
 refine qg rfl (my hs) ?_
 clear h hs
 rintro _ w ⟨rfl, hs⟩
 have h := hs.x [6]
 refine ⟨fun _ => h, ?_⟩
 refine cpv rfl rfl rfl rfl h rfl (qr (v' := .iz (wI (0 - r.slot.size))) (sx rfl) (by congr 1)) ?_
 refine Yg ?_
 refine qd 11 rfl rfl rfl rfl ?_
 refine qg rfl (yg (wI (0 - r.slot.size)) (hs.f 6)) ?_
 clear h hs
 rintro _ w ⟨rfl, hs⟩
 rw [hb1] at hs
 have h := hs.drop
 refine ⟨fun _ => h, ?_⟩
 refine qn ?_
 clear h
 have h : St w0 (IsStore k.b b1 :: RunPt t r q :: OwnS q.s.a4 q.s.c4 r.slot.opn :: OwnPr q.s.a5 q.s.c5 r.slot.chunks :: OwnS q.n.a4 q.n.c4 r.next.opn :: OwnPr q.n.a5 q.n.c5 r.next.chunks :: ShPt p k :: R) w := hs
 clear hs
 refine qt (Γ := Unit) (fun _ => [(0, .pz t)])
  (fun _ w => St w0 (IsStore k.b (b1.leave r.slot.chunks) :: RunPt t r q :: OwnS q.s.a4 q.s.c4 r.slot.opn :: OwnPr q.s.a5 q.s.c5 r.slot.chunks :: OwnS q.n.a4 q.n.c4 r.next.opn :: OwnPr q.n.a5 q.n.c5 r.next.chunks :: ShPt p k :: R) w) ?_ ?_
 ·refine Y3o ?_
  refine r_v (qq (v := .slice q.s.a5 r.slot.chunks.length q.s.c5) rfl (h.b 1 rfl) rfl) rfl ?_
  refine Y15 ?_; refine Y20 ?_
  refine jx (Γ := Nat) (fun i => [(0, .pz t), (1, .pz p), (23, .slice q.s.a5 r.slot.chunks.length q.s.c5), (24, .iz (r.slot.chunks.length : Int)), (25, .iz (i : Int))])
   (fun i w => i <= r.slot.chunks.length ∧ St w0 (IsStore k.b (b1.leave (r.slot.chunks.take i)) :: RunPt t r q :: OwnS q.s.a4 q.s.c4 r.slot.opn :: OwnPr q.s.a5 q.s.c5 r.slot.chunks :: OwnS q.n.a4 q.n.c4 r.next.opn :: OwnPr q.n.a5 q.n.c5 r.next.chunks :: ShPt p k :: R) w) (fun i => r.slot.chunks.length - i) 0 zz5 ⟨Ud _, h⟩ ?_
  clear h
  rintro i w e ⟨hi, h⟩
  refine Y3p ?_
  by_cases hlt : i < r.slot.chunks.length
  ·refine qz (.bool true) O3 ?_
   refine Y42 ?_; refine Yl ?_
   obtain ⟨g, hg⟩ := (h.f 3).own_some O0
   obtain ⟨y, hy⟩ : ∃ y, r.slot.chunks[i]? = some y := ⟨_, Uc hlt⟩
   have hel : At w g (0 + i * 5) y.cells := by
    have := (h.f 3).own_rd
    rw [hg] at this
    exact this.elem v4 hy
   refine Y38 ?_; refine Y1 ?_
   refine r_v (jb (b := g) (o := 0) (m := r.slot.chunks.length) (c := q.s.c5) (j := i) (o' := 0 + i * 5) (by rw [<- hg]; rfl) rfl rfl hlt rfl) rfl ?_
   refine r_v (qx (l := y.cells) rfl rfl hel) rfl ?_
   refine r_c rfl (qp h fun b6 w h => ?_)
   refine r_c rfl (qy (vs := y.cells) 0 h rfl rfl rfl rfl rfl rfl rfl fun w h => ?_)
   replace h : St w0 (pt b6 (.cells y.cells.toArray 168 (0, 0)) :: IsStore k.b (b1.leave (r.slot.chunks.take i)) :: RunPt t r q :: OwnS q.s.a4 q.s.c4 r.slot.opn :: OwnPr q.s.a5 q.s.c5 r.slot.chunks :: OwnS q.n.a4 q.n.c4 r.next.opn :: OwnPr q.n.a5 q.n.c5 r.next.chunks :: ShPt p k :: R) w := h
   refine Y2 ?_
   refine jm [0, 1, 2, 3, 4, 5, 6] none (fun w => St w0 (pt b6 (.cells y.cells.toArray 168 (0, 0)) :: RunPt t r q :: OwnS q.s.a4 q.s.c4 r.slot.opn :: OwnPr q.s.a5 q.s.c5 r.slot.chunks :: OwnS q.n.a4 q.n.c4 r.next.opn :: OwnPr q.n.a5 q.n.c5 r.next.chunks :: ShPt p k :: R) w) O1 O1 ?_
   have hs := h.drew
   clear h hel
   generalize w.drew = w1 at hs ⊢
   have h := hs.x [1]
   refine Y3 ?_
   refine qj rfl rfl rfl rfl h (fun _ h => qh rfl (qq (v := .pointer (some ⟨k.b, 0, none⟩)) rfl (h.b 6 rfl) rfl)) ?_
   refine Yv ?_
   refine qj rfl rfl rfl rfl h (fun _ h => qh rfl (qq (v := .iz y.blob) rfl (h.b 0 rfl) rfl)) ?_
   refine Yg ?_
   refine qd 6 rfl rfl rfl rfl ?_
   refine qg rfl (y9 y.blob (hs.f 1)) ?_
   clear h hs
   intro _ w hs
   have h := hs.drop
   refine ⟨fun _ => h, ?_⟩
   refine qn ?_
   refine Yt ?_
   refine qz (.iz ((i + 1 : Nat) : Int)) O7 ?_
   refine Y0 ?_
   refine qv ⟨i + 1, zz5, ⟨O_o, ?_⟩, O_o⟩
   have e1 : b1.leave (r.slot.chunks.take (i + 1)) = (match mget y.blob (b1.leave (r.slot.chunks.take i)).l with | none => b1.leave (r.slot.chunks.take i) | some x => (b1.leave (r.slot.chunks.take i)).left y.blob x) := by
    rw [Vl, hy, Sto.leave_append]; rfl
   rw [e1]
   exact hs.x [1]
  ·refine qz (.bool false) O4 ?_
   refine qv (qf (qe rfl (ju ?_)))
   rw [Uv O0] at h
   exact Eq.mpr (if_pos rfl) ⟨(), ⟨rfl, trivial⟩, h⟩
 clear h
 rintro _ w e h
 refine Y2p ?_; refine Yk ?_
 refine r_v (qq (v := .iz r.slot.life) rfl (h.b 1 rfl) rfl) rfl ?_
 refine Y1f ?_
 refine r_v (qc (r := ({ SlotV.zero with life := wI (r.slot.life + 1) } : SlotV).cells none 0 none 0) rfl) rfl ?_
 refine Yi ?_
 refine r_c rfl (qy (vs := ({ SlotV.zero with life := wI (r.slot.life + 1) } : SlotV).cells none 0 none 0) 1 h rfl rfl rfl rfl rfl rfl rfl fun w h => ?_)
 replace h : St w0 (IsStore k.b (b1.leave r.slot.chunks) :: RunPt t { r with next := { SlotV.zero with life := wI (r.slot.life + 1) } } { q with n := ⟨none, 0, none, 0⟩ } :: OwnS q.s.a4 q.s.c4 r.slot.opn :: OwnPr q.s.a5 q.s.c5 r.slot.chunks :: OwnS q.n.a4 q.n.c4 r.next.opn :: OwnPr q.n.a5 q.n.c5 r.next.chunks :: ShPt p k :: R) w := h
 refine Yn ?_; refine Y7 ?_
 have h1 : St w0 (RunPt t { r with next := { SlotV.zero with life := wI (r.slot.life + 1) } } { q with n := ⟨none, 0, none, 0⟩ } :: OwnS q.s.a4 q.s.c4 r.slot.opn :: OwnPr q.s.a5 q.s.c5 r.slot.chunks :: OwnS none 0 [] :: OwnPr none 0 [] :: ShPt p k :: IsStore k.b (b1.leave r.slot.chunks) :: R) w := (((h.x [4, 5]).ownNil 168 5).ownNil 57 2).o [3, 4, 5, 0, 1, 6, 2]
 rw [<- hR] at h1
 exact qv (qk (bq1 ⟨rfl, (St.sl (r := { r with next := { SlotV.zero with life := wI (r.slot.life + 1) } }) (s := { s with b := b1.leave r.slot.chunks })).2 ⟨{ q with n := ⟨none, 0, none, 0⟩ }, k, h1⟩⟩))
structure Run.MakeOk (r : Run) (s : Shd) : Prop where
 wf : ∀ x ∈ r.slot.opn, x.Wf
 op : r.o.Wf
 few : r.slot.opn.length <= 50
 chunks : r.slot.chunks.length <= 1048576
 free : mget (wI (s.b.last + 1)) s.b.l = none
theorem ez (hT : Tz w0) (hok : r.MakeOk s) (h : St w0 (IsRun t r :: IsSh p s :: l) w) :
  Ret prog 77 [.pz t, .pz p] w fun v w' => v = .bool (r.make s).2.2 ∧ St w0 (IsRun t (r.make s).1 :: IsSh p (r.make s).2.1 :: l) w' := by
 obtain ⟨hwf, hop, hfew, hch, hfree⟩ := hok
 obtain ⟨r1, hr1⟩ : ∃ r1, r1 = { r with next := r.slot } := ⟨_, rfl⟩
 have key : r.make s = if r.o.kind = 1 then r1.add s else if r.o.kind = 3 then r1.seal_ s else r1.drop s := by rw [hr1]; rfl
 obtain ⟨q, k, h⟩ := St.sl.1 h
 obtain ⟨R, hR⟩ : ∃ R, rstS r q k s l = R := ⟨_, rfl⟩
 rw [hR] at h
 refine en func77 results77 ntmps77 ?_
 refine Y12 ?_; refine Y2p ?_
 refine r_v (qx (l := q.s.cells r.slot) rfl rfl (qw (h.b 0 rfl) rfl)) rfl ?_
 refine r_c rfl (qg rfl (zy (s := r.slot) O0 O0 (Reads.own.more [_]) (Reads.own.more [_, _]) h) ?_)
 clear h
 rintro _ w ⟨a, b, rfl, h⟩
 refine Yi ?_
 refine r_c rfl (qy (vs := r.slot.cells a r.slot.opn.length b r.slot.chunks.length) 2 h rfl rfl rfl rfl rfl rfl rfl fun w h => ?_)
 replace h : St w0 (OwnS a r.slot.opn.length r.slot.opn :: OwnPr b r.slot.chunks.length r.slot.chunks :: RunPt t r1 { q with n := ⟨a, r.slot.opn.length, b, r.slot.chunks.length⟩ } :: OwnS q.s.a4 q.s.c4 r.slot.opn :: OwnPr q.s.a5 q.s.c5 r.slot.chunks :: OwnS q.n.a4 q.n.c4 r.next.opn :: OwnPr q.n.a5 q.n.c5 r.next.chunks :: ShPt p k :: IsStore k.b s.b :: R) w := by rw [hr1]; exact h
 have hk : (r1.C { q with n := ⟨a, r.slot.opn.length, b, r.slot.chunks.length⟩ })[1]? = some (.iz r.o.kind) := by rw [hr1]; rfl
 refine Y2e ?_; refine Y3o ?_
 refine r_v (qq (v := .iz r.o.kind) rfl (h.b 2 rfl) hk) rfl ?_
 have hf : St w0 (IsRun t r1 :: IsSh p s :: l) w := by
  have h1 : St w0 (RunPt t r1 { q with n := ⟨a, r.slot.opn.length, b, r.slot.chunks.length⟩ } :: OwnS q.s.a4 q.s.c4 r.slot.opn :: OwnPr q.s.a5 q.s.c5 r.slot.chunks :: OwnS a r.slot.opn.length r.slot.opn :: OwnPr b r.slot.chunks.length r.slot.chunks :: ShPt p k :: IsStore k.b s.b :: R) w := (h.x [5, 6]).o [2, 3, 4, 0, 1]
  rw [<- hR] at h1
  refine (St.sl (r := r1)).2 ⟨{ q with n := ⟨a, r.slot.opn.length, b, r.slot.chunks.length⟩ }, k, ?_⟩
  rw [hr1] at h1 ⊢
  exact h1
 clear h
 refine Y2 ?_
 by_cases k1 : r.o.kind = 1
 ·rw [if_pos k1] at key
  refine Yh ?_; refine Y2w ?_
  refine qz (.bool true) (by congr 1; rw [beq_iff_eq]; exact k1) ?_
  refine Y43 ?_
  refine r_c rfl (qg rfl (qq8 (r := r1) hT (by rw [hr1]; exact ⟨hwf, hop, hfew, hch, hfree⟩) hf) ?_)
  clear hf
  rintro _ w ⟨rfl, h⟩
  refine Y7 ?_
  rw [key]
  exact qv (qk (bq1 ⟨rfl, h⟩))
 rw [if_neg k1] at key
 by_cases k3 : r.o.kind = 3
 ·rw [if_pos k3] at key
  refine Yh ?_; refine Y2w ?_
  refine qz (.bool false) (by congr 1; rw [beq_eq_false_iff_ne]; exact k1) ?_
  refine Y2r ?_
  refine qz (.bool true) (by congr 1; rw [beq_iff_eq]; exact k3) ?_
  refine Y43 ?_
  refine r_c rfl (qg rfl (ek (r := r1) hT (by rw [hr1]; exact ⟨hwf, O_d, hch, hfree⟩) hf) ?_)
  clear hf
  rintro _ w ⟨rfl, h⟩
  refine Y7 ?_
  rw [key]
  exact qv (qk (bq1 ⟨rfl, h⟩))
 rw [if_neg k3] at key
 refine Yh ?_; refine Y2w ?_
 refine qz (.bool false) (by congr 1; rw [beq_eq_false_iff_ne]; exact k1) ?_
 refine Y2r ?_
 refine qz (.bool false) (by congr 1; rw [beq_eq_false_iff_ne]; exact k3) ?_
 refine Ya ?_; refine Y1r ?_; refine Y10 ?_
 refine r_c rfl (qg rfl (ey (r := r1) (by rw [hr1]; exact hch) hf) ?_)
 clear hf
 rintro _ w ⟨rfl, h⟩
 refine Y7 ?_
 rw [key]
 exact qv (qk (bq1 ⟨rfl, h⟩))
end
end
section
section
variable {w0 w : World} {l : List HProp} {t p : Nat} {r : Run} {s : Shd} {q : RunQ}
abbrev runL (t : Nat) (r : Run) (q : RunQ) (l : List HProp) : List HProp := RunPt t r q :: OneH q.one r.one :: OwnS q.s.a4 q.s.c4 r.slot.opn :: OwnPr q.s.a5 q.s.c5 r.slot.chunks :: OwnS q.n.a4 q.n.c4 r.next.opn :: OwnPr q.n.a5 q.n.c5 r.next.chunks :: OwnPr q.pa q.pc r.x.parts :: OwnS q.ta q.tc r.x.tail :: OwnS q.ga q.gc r.got :: OwnS q.ra q.rc r.res.list :: l
theorem mw (h4 : r.slot.opn.length <= 1048576) (h5 : r.slot.chunks.length <= 1048576) (h : St w0 (runL t r q (IsSh p s :: l)) w) :
  Ret prog 76 [.pz t, .pz p, .agg (q.s.cells r.slot).toArray] w fun v w' => v = .tuple #[] ∧ St w0 (IsRun t (r.publish s r.slot).1 :: IsSh p (r.publish s r.slot).2 :: l) w' := by
 have h1 : St w0 (RunPt t r q :: IsSh p s :: OneH q.one r.one :: OwnS q.s.a4 q.s.c4 r.slot.opn :: OwnPr q.s.a5 q.s.c5 r.slot.chunks :: OwnS q.n.a4 q.n.c4 r.next.opn :: OwnPr q.n.a5 q.n.c5 r.next.chunks :: OwnPr q.pa q.pc r.x.parts :: OwnS q.ta q.tc r.x.tail :: OwnS q.ga q.gc r.got :: OwnS q.ra q.rc r.res.list :: l) w := h.o [0, 10]
 refine (kp (sl := r.slot) O0 O0 (Reads.own.more [_]) (Reads.own.more [_, _]) h1).mono ?_
 rintro v w ⟨rfl, h⟩
 refine ⟨rfl, (St.run (r := (r.publish s r.slot).1)).2 ⟨q, ?_⟩⟩
 exact h.o [0, 2, 3, 4, 5, 6, 7, 8, 9, 10]
theorem ew (h4 : r.next.opn.length <= 1048576) (h5 : r.next.chunks.length <= 1048576) (h : St w0 (runL t r q (IsSh p s :: l)) w) :
  Ret prog 76 [.pz t, .pz p, .agg (q.n.cells r.next).toArray] w fun v w' => v = .tuple #[] ∧ St w0 (IsRun t (r.publish s r.next).1 :: IsSh p (r.publish s r.next).2 :: l) w' := by
 have h1 : St w0 (RunPt t r q :: IsSh p s :: OneH q.one r.one :: OwnS q.s.a4 q.s.c4 r.slot.opn :: OwnPr q.s.a5 q.s.c5 r.slot.chunks :: OwnS q.n.a4 q.n.c4 r.next.opn :: OwnPr q.n.a5 q.n.c5 r.next.chunks :: OwnPr q.pa q.pc r.x.parts :: OwnS q.ta q.tc r.x.tail :: OwnS q.ga q.gc r.got :: OwnS q.ra q.rc r.res.list :: l) w := h.o [0, 10]
 refine (kp (sl := r.next) O0 O0 (Reads.own.more [_, _, _]) (Reads.own.more [_, _, _, _]) h1).mono ?_
 rintro v w ⟨rfl, h⟩
 refine ⟨rfl, (St.run (r := (r.publish s r.next).1)).2 ⟨q, ?_⟩⟩
 exact h.o [0, 2, 3, 4, 5, 6, 7, 8, 9, 10]
structure Run.WriteOk (r : Run) (s : Shd) : Prop where
 fits : Dir.Fits s.d
 make : r.ph = 1 -> r.wrong = 0 -> r.MakeOk s
 s4 : r.slot.opn.length <= 1048576
 s5 : r.slot.chunks.length <= 1048576
 n4 : r.next.opn.length <= 1048576
 n5 : r.next.chunks.length <= 1048576
theorem d7 (r : Run) (s : Shd) : (r.close s).1.slot = r.slot := by
 unfold Run.close
 dsimp only
 split <;> rfl
theorem qq9 (r : Run) (s : Shd) : (r.add s).1.slot = r.slot := by
 unfold Run.add
 dsimp only
 generalize (if r.next.there = true then r.next else { SlotV.zero with there := true, life := r.slot.life }) = n0
 cases s.b.chg 16 with
 | mk g b =>
  cases g with
  | false => rfl
  | true =>
   dsimp only
   by_cases h8 : (n0.add ⟨r.o.T, (r.o.V : Int)⟩).opn.length < 8
   ·rw [if_pos h8]
   ·rw [if_neg h8]
    generalize hz : Run.close _ _ = z
    have hs : z.1.slot = r.slot := by rw [<- hz]; exact d7 _ _
    obtain ⟨a, b, c⟩ := z
    cases c <;> exact hs
theorem eh (r : Run) (s : Shd) : (r.make s).1.slot = r.slot := by
 unfold Run.make
 dsimp only
 split
 ·exact qq9 _ _
 ·split
  ·unfold Run.seal_
   dsimp only
   split
   ·rfl
   ·exact d7 _ _
  ·rfl
theorem tj (hT : Tz w0) (hok : r.WriteOk s) (h : St w0 (IsRun t r :: IsSh p s :: l) w) :
  Ret prog 42 [.pz t, .pz p] w fun v w' => v = .iz (r.write s).2.2 ∧ St w0 (IsRun t (r.write s).1 :: IsSh p (r.write s).2.1 :: l) w' := by
 obtain ⟨hfits, hmake, hs4, hs5, hn4, hn5⟩ := hok
 have key : r.write s = if r.ph = 0 then match r.take s with
  | (r, s, true) => (r, s, 1)
  | (r, s, false) => (r, s, 0)
  else if r.ph = 1 then if r.wrong ≠ 0 then (r.publish s r.slot).1.refuse (r.publish s r.slot).2 r.wrong else match r.make s with
   | (r, s, false) => (r.publish s r.slot).1.stop (r.publish s r.slot).2 ⟨9, 0, []⟩ 3
   | (r, s, true) => ({ r with ph := 3 }, s, 1)
  else (r.publish s r.next).1.stop (r.publish s r.next).2 ⟨0, 0, []⟩ 2 := by
  unfold Run.write
  split
  ·cases r.take s with | mk a b => obtain ⟨b, c⟩ := b; cases c <;> rfl
  ·split
   ·split
    ·rfl
    ·cases r.make s with | mk a b => obtain ⟨b, c⟩ := b; cases c <;> rfl
   ·rfl
 obtain ⟨q, h⟩ := (St.run (r := r)).1 h
 refine en func42 results42 ntmps42 ?_
 refine Yr ?_; refine Y2n ?_
 refine r_v (qq (v := .iz r.ph) rfl (h.b 0 rfl) rfl) rfl ?_
 refine Y4e ?_
 by_cases p0 : r.ph = 0
 ·rw [if_pos p0] at key
  refine qz (.bool true) (by congr 1; rw [beq_iff_eq]; exact p0) ?_
  refine Y2k ?_; refine qf ?_; refine Y10 ?_
  have h1 : St w0 (IsRun t r :: IsSh p s :: l) w := (St.run (r := r)).2 ⟨q, h⟩
  refine r_c rfl (qg rfl (mz hfits h1) ?_)
  clear h h1
  rintro _ w ⟨rfl, h⟩
  cases htk : r.take s with
  | mk a b =>
  obtain ⟨b, c⟩ := b
  rw [htk] at key h
  dsimp only at h
  cases c with
  | true =>
   replace key : r.write s = (a, b, 1) := key
   rw [key]
   refine Y41 ?_; refine Y13 ?_
   exact qv (qk (bq1 ⟨rfl, h⟩))
  | false =>
   replace key : r.write s = (a, b, 0) := key
   rw [key]
   refine Yx ?_; refine Yd ?_; refine Y13 ?_
   exact qv (qk (bq1 ⟨rfl, h⟩))
 rw [if_neg p0] at key
 refine qz (.bool false) (by congr 1; rw [beq_eq_false_iff_ne]; exact p0) ?_
 refine Y2r ?_
 by_cases p1 : r.ph = 1
 ·rw [if_pos p1] at key
  refine qz (.bool true) (by congr 1; rw [beq_iff_eq]; exact p1) ?_
  refine Y2k ?_; refine Y4g ?_
  refine r_c rfl (qg rfl (tq h) ?_)
  clear h
  rintro _ w ⟨rfl, h⟩
  refine Y3t ?_; refine Y1q ?_
  by_cases hw : r.wrong = 0
  ·rw [if_neg (fun hh => hh hw)] at key
   refine qz (.bool false) (by rw [hw]; rfl) ?_
   refine Yb ?_; refine qf ?_; refine Y10 ?_
   have h1 : St w0 (IsRun t r :: IsSh p s :: l) w := (St.run (r := r)).2 ⟨q, h⟩
   refine r_c rfl (qg rfl (ez hT (hmake p1 hw) h1) ?_)
   clear h h1
   rintro _ w ⟨rfl, h⟩
   have hsl := eh r s
   cases hmk : r.make s with
   | mk a b =>
   obtain ⟨b, c⟩ := b
   rw [hmk] at key h hsl
   dsimp only at h hsl
   cases c with
   | true =>
    replace key : r.write s = ({ a with ph := 3 }, b, 1) := key
    rw [key]
    refine Y41 ?_
    obtain ⟨q2, h⟩ := (St.run' (r := a)).1 h
    refine Y5 ?_
    refine r_c rfl (qb 0 h rfl (show _ = Value.iz 3 from rfl) rfl rfl rfl rfl fun w h => ?_)
    refine Yn ?_; refine Y6 ?_
    exact qv (qk (bq1 ⟨rfl, (St.run' (r := { a with ph := 3 })).2 ⟨q2, h⟩⟩))
   | false =>
    replace key : r.write s = (a.publish b a.slot).1.stop (a.publish b a.slot).2 ⟨9, 0, []⟩ 3 := key
    rw [key]
    refine Yx ?_; refine Yd ?_
    obtain ⟨q2, h⟩ := (St.run (r := a)).1 h
    refine Y10 ?_; refine Y1t ?_
    refine r_v (qx (l := q2.s.cells a.slot) rfl rfl (qw (h.b 0 rfl) rfl)) rfl ?_
    refine r_c rfl (qg rfl (mw (by rw [hsl]; exact hs4) (by rw [hsl]; exact hs5) h) ?_)
    clear h
    rintro _ w ⟨rfl, h⟩
    refine Y1a ?_
    refine r_v (qc (r := (⟨9, 0, []⟩ : Res).C none 0) rfl) rfl ?_
    refine r_c rfl (qg rfl (gw (res := ⟨9, 0, []⟩) 3 ((h.ownNil 57 2).f 1)) ?_)
    clear h
    rintro _ w ⟨rfl, h⟩
    refine Y6 ?_
    exact qv (qk (bq1 ⟨rfl, h⟩))
  ·rw [if_pos hw] at key
   rw [key]
   refine qz (.bool true) (by congr 1; rw [bne_iff_ne]; exact hw) ?_
   refine Yd ?_; refine Y10 ?_; refine Y1t ?_
   refine r_v (qx (l := q.s.cells r.slot) rfl rfl (qw (h.b 0 rfl) rfl)) rfl ?_
   refine r_c rfl (qg rfl (mw hs4 hs5 h) ?_)
   clear h
   rintro _ w ⟨rfl, h⟩
   refine Y1a ?_; refine Y0 ?_
   refine r_c rfl (qg rfl (gf r.wrong h) ?_)
   clear h
   rintro _ w ⟨rfl, h⟩
   refine Y6 ?_
   exact qv (qk (bq1 ⟨rfl, h⟩))
 rw [if_neg p1] at key
 rw [key]
 refine qz (.bool false) (by congr 1; rw [beq_eq_false_iff_ne]; exact p1) ?_
 refine Ya ?_; refine Y1r ?_; refine Y10 ?_; refine Y1t ?_
 refine r_v (qx (l := q.n.cells r.next) rfl rfl (qw (h.b 0 rfl) rfl)) rfl ?_
 refine r_c rfl (qg rfl (ew hn4 hn5 h) ?_)
 clear h
 rintro _ w ⟨rfl, h⟩
 refine Y1a ?_
 refine r_v (qc (r := (⟨0, 0, []⟩ : Res).C none 0) rfl) rfl ?_
 refine r_c rfl (qg rfl (gw (res := ⟨0, 0, []⟩) 2 ((h.ownNil 57 2).f 1)) ?_)
 clear h
 rintro _ w ⟨rfl, h⟩
 refine Y6 ?_
 exact qv (qk (bq1 ⟨rfl, h⟩))
end
end
section
section
variable {w0 w : World} {l : List HProp} {t p : Nat} {r : Run} {s : Shd} {q : RunQ}
structure Run.LeaveOk (r : Run) (s : Shd) : Prop where
 cac : s.c.Ok
 parts : r.x.parts.length <= 1048576
 s4 : r.slot.opn.length <= 1048576
 s5 : r.slot.chunks.length <= 1048576
abbrev rowL (r : Run) (q : RunQ) (l : List HProp) : List HProp := OwnS q.s.a4 q.s.c4 r.slot.opn :: OwnPr q.s.a5 q.s.c5 r.slot.chunks :: OwnS q.n.a4 q.n.c4 r.next.opn :: OwnPr q.n.a5 q.n.c5 r.next.chunks :: OwnPr q.pa q.pc r.x.parts :: OwnS q.ta q.tc r.x.tail :: OwnS q.ga q.gc r.got :: OwnS q.ra q.rc r.res.list :: l
theorem ug (hok : r.LeaveOk s) (h : St w0 (IsRun t r :: IsSh p s :: l) w) :
  Ret prog 59 [.pz t, .pz p] w fun v w' => v = .tuple #[] ∧ St w0 (IsRun t (r.leave s).1 :: IsSh p (r.leave s).2 :: l) w' := by
 obtain ⟨hcac, hparts, hs4, hs5⟩ := hok
 obtain ⟨C, hC⟩ : ∃ C, (match r.one with | none => s.c | some x => (x.leave s.c).2) = C := ⟨_, rfl⟩
 obtain ⟨s1, hs1⟩ : ∃ s1 : Shd, s1 = { s with c := C } := ⟨_, rfl⟩
 obtain ⟨s2, hs2⟩ : ∃ s2 : Shd, s2 = if r.held then { s1 with b := s1.b.leave r.x.parts } else s1 := ⟨_, rfl⟩
 obtain ⟨r1, hr1⟩ : ∃ r1 : Run, r1 = { r with held := false } := ⟨_, rfl⟩
 have key : r.leave s = ({ (if r.flag then r1.publish s2 r.slot else (r1, s2)).1 with one := none, i := 0, got := [] }, (if r.flag then r1.publish s2 r.slot else (r1, s2)).2) := by
  rw [hr1, hs2, hs1, <- hC]; rfl
 obtain ⟨q, h⟩ := (St.run (r := r)).1 h
 refine en func59 results59 ntmps59 ?_
 refine qt (Γ := Unit) (fun _ => [(0, .pz t), (1, .pz p)]) (fun _ w => St w0 (RunPt t r q :: IsSh p s1 :: rowL r q l) w) ?_ ?_
 ·refine Y5 ?_
  refine r_v (qq (v := .pointer q.one) rfl (h.b 0 rfl) rfl) rfl ?_
  cases ho : r.one with
  | none =>
   rw [ho] at h hC
   obtain ⟨h1, h⟩ := St.one0.1 (h.f 1)
   rw [h1]
   refine r_v (ve rfl rfl) rfl ?_
   refine qv (qe rfl (qa ⟨(), zz2, ?_⟩))
   have e : s1 = s := by rw [hs1, <- hC]
   rw [e]
   exact h.o [0, 9]
  | some x =>
   rw [ho] at h hC
   obtain ⟨tk, h1, h⟩ := St.one1.1 (h.f 1)
   have hone : (r.C q)[36]? = some (.pz tk) := congrArg (fun o => some (Value.pointer o)) h1
   rw [h1]
   refine r_v (ve rfl rfl) rfl ?_
   refine Yd ?_
   obtain ⟨k, h⟩ := (St.shd (s := s)).1 (h.f 10)
   replace h : St w0 (IsTk tk x :: IsCache k.c s.c :: RunPt t r q :: ShPt p k :: IsDir k.d s.d :: IsStore k.b s.b :: IsTab k.t s.t.V :: rowL r q l) w := h.o [5, 2, 6, 0, 1, 3, 4]
   refine jm [0, 1, 2, 3, 4, 5, 6, 7, 8] none (fun w => St w0 (RunPt t r q :: ShPt p k :: IsDir k.d s.d :: IsStore k.b s.b :: IsTab k.t s.t.V :: rowL r q l) w) O1 O1 ?_
   have hs := h.drew
   clear h
   generalize w.drew = w1 at hs ⊢
   have h := hs.drop.drop
   refine Y3 ?_
   refine qj rfl rfl rfl rfl h (fun _ h => qh rfl (qq (v := .pz tk) rfl (h.b 0 rfl) hone)) ?_
   refine Y3 ?_
   refine qj rfl rfl rfl rfl h (fun _ h => qh rfl (qq (v := .pointer (some ⟨k.c, 0, none⟩)) rfl (h.b 1 rfl) rfl)) ?_
   refine Yg ?_
   refine qd 8 rfl rfl rfl rfl ?_
   refine qg rfl (dl hcac hs) ?_
   clear h hs
   intro _ w hs
   have h := hs.drop.drop
   refine ⟨fun _ => h, ?_⟩
   refine qn ⟨(), zz2, ?_⟩
   have h1 : St w0 (ShPt p k :: IsDir k.d s1.d :: IsCache k.c s1.c :: IsStore k.b s1.b :: IsTab k.t s1.t.V :: RunPt t r q :: rowL r q l) w := by
    rw [hs1, <- hC]; exact (hs.drop).o [2, 3, 0, 4, 5, 1]
   exact ((St.shd (s := s1)).2 ⟨k, h1⟩).f 1
 clear h
 rintro _ w e h
 refine qt (Γ := Unit) (fun _ => [(0, .pz t), (1, .pz p)]) (fun _ w => St w0 (RunPt t r1 q :: IsSh p s2 :: rowL r q l) w) ?_ ?_
 ·refine Y5 ?_
  refine r_v (qq (v := .bool r.held) rfl (h.b 0 rfl) rfl) rfl ?_
  cases hh : r.held with
  | false =>
   refine qv (qe rfl (qa ⟨(), zz2, ?_⟩))
   have e : s2 = s1 := by rw [hs2, hh]; rfl
   have e1 : r1 = r := by
    rw [hr1]
    obtain ⟨_, _, _, _, _, _, _, held, _, _, _, _, _, _, _, _⟩ := r
    dsimp only at hh; subst hh; rfl
   rw [e, e1]; exact h
  | true =>
   refine Yd ?_
   obtain ⟨k, h⟩ := (St.shd (s := s1)).1 (h.f 1)
   replace h : St w0 (IsStore k.b s1.b :: OwnPr q.pa q.pc r.x.parts :: RunPt t r q :: ShPt p k :: IsDir k.d s1.d :: IsCache k.c s1.c :: IsTab k.t s1.t.V :: OwnS q.s.a4 q.s.c4 r.slot.opn :: OwnPr q.s.a5 q.s.c5 r.slot.chunks :: OwnS q.n.a4 q.n.c4 r.next.opn :: OwnPr q.n.a5 q.n.c5 r.next.chunks :: OwnS q.ta q.tc r.x.tail :: OwnS q.ga q.gc r.got :: OwnS q.ra q.rc r.res.list :: l) w := h.o [3, 10, 5, 0, 1, 2, 4]
   refine qf ?_
   refine jm [0, 1, 2, 3, 4, 5, 6, 7, 8] none (fun w => St w0 (OwnPr q.pa q.pc r.x.parts :: RunPt t r q :: ShPt p k :: IsDir k.d s1.d :: IsCache k.c s1.c :: IsTab k.t s1.t.V :: OwnS q.s.a4 q.s.c4 r.slot.opn :: OwnPr q.s.a5 q.s.c5 r.slot.chunks :: OwnS q.n.a4 q.n.c4 r.next.opn :: OwnPr q.n.a5 q.n.c5 r.next.chunks :: OwnS q.ta q.tc r.x.tail :: OwnS q.ga q.gc r.got :: OwnS q.ra q.rc r.res.list :: l) w) O1 O1 ?_
   have hs := h.drew
   clear h
   generalize w.drew = w1 at hs ⊢
   have h := hs.drop
   refine Y3 ?_
   refine qj rfl rfl rfl rfl h (fun _ h => qh rfl (qq (v := .pointer (some ⟨k.b, 0, none⟩)) rfl (h.b 2 rfl) rfl)) ?_
   refine Y3 ?_
   refine qj rfl rfl rfl rfl h (fun _ h => qh rfl (qx (l := r.x.V.cells q.pa q.pc q.ta q.tc) rfl rfl (qw (h.b 1 rfl) rfl))) ?_
   refine Yg ?_
   refine qd 8 rfl rfl rfl rfl ?_
   refine qg rfl (dz (x := r.x.V) (Ps := r.x.parts) rfl (by show r.x.parts.length < _; omega) hs (fun w' h' => h'.own_rd)) ?_
   clear h hs
   rintro _ w ⟨rfl, hs⟩
   have h := hs.drop
   refine ⟨fun _ => h, ?_⟩
   refine qn ?_
   clear h
   refine Y2l ?_
   refine r_c rfl (qb 2 hs rfl (show _ = Value.bool false from rfl) rfl rfl rfl rfl fun w h => ?_)
   refine qv ⟨(), zz2, ?_⟩
   have h1 : St w0 (ShPt p k :: IsDir k.d s2.d :: IsCache k.c s2.c :: IsStore k.b s2.b :: IsTab k.t s2.t.V :: RunPt t r1 q :: rowL r q l) w := by
    rw [hs2, if_pos hh, hr1]; exact h.o [3, 4, 5, 0, 6, 2, 7, 8, 9, 10, 1]
   exact ((St.shd (s := s2)).2 ⟨k, h1⟩).f 1
 clear h
 rintro _ w e h
 have hr1f : r1.flag = r.flag := by rw [hr1]
 have hrow : rowL r q l = rowL r1 q l := by rw [hr1]
 refine qt (Γ := Unit) (fun _ => [(0, .pz t)]) (fun _ w => St w0 (RunPt t (if r.flag then r1.publish s2 r.slot else (r1, s2)).1 q :: IsSh p (if r.flag then r1.publish s2 r.slot else (r1, s2)).2 :: rowL r q l) w) ?_ ?_
 ·refine Y5 ?_
  refine r_v (qq (v := .bool r.flag) rfl (h.b 0 rfl) (by rw [hr1]; rfl)) rfl ?_
  cases hfl : r.flag with
  | false =>
   exact qv (qe rfl (qa ⟨(), ⟨rfl, trivial⟩, h⟩))
  | true =>
   refine Y3s ?_; refine Y22 ?_; refine Y1t ?_
   refine r_v (qx (l := q.s.cells r.slot) rfl rfl (qw (h.b 0 rfl) (by rw [hr1]; rfl))) rfl ?_
   refine r_c rfl (qg rfl (kp (sl := r.slot) O0 O0 Reads.own (Reads.own.more [_]) h) ?_)
   clear h
   rintro _ w ⟨rfl, h⟩
   exact qv ⟨(), ⟨rfl, trivial⟩, h⟩
 clear h
 rintro _ w e h
 rw [key]
 obtain ⟨z, hz⟩ : ∃ z, (if r.flag then r1.publish s2 r.slot else (r1, s2)) = z := ⟨_, rfl⟩
 have hz1 : z.1.slot = r.slot ∧ z.1.next = r.next ∧ z.1.x = r.x ∧ z.1.res = r.res := by
  rw [<- hz, hr1]
  split <;> exact ⟨rfl, rfl, rfl, rfl⟩
 rw [hz] at h ⊢
 obtain ⟨r2, s3⟩ := z
 dsimp only at h hz1 ⊢
 refine Y2u ?_; refine Y22 ?_; refine Y1t ?_
 refine r_c rfl (qb 0 h rfl (show _ = Value.pointer none from rfl) rfl rfl rfl rfl fun w h => ?_)
 replace h : St w0 (RunPt t { r2 with one := none } { q with one := none } :: IsSh p s3 :: rowL r q l) w := h
 refine Yi ?_
 refine r_c rfl (qb 0 h rfl (show _ = Value.iz 0 from rfl) rfl rfl rfl rfl fun w h => ?_)
 replace h : St w0 (RunPt t { r2 with one := none, i := 0 } { q with one := none } :: IsSh p s3 :: rowL r q l) w := h
 refine Yi ?_
 refine r_c rfl (qb 0 h rfl (show _ = Value.slice none 0 0 from rfl) rfl rfl rfl rfl fun w h => ?_)
 replace h : St w0 (RunPt t { r2 with one := none, i := 0, got := [] } { q with one := none, ga := none, gc := 0 } :: IsSh p s3 :: rowL r q l) w := h
 refine qv (bq0n ⟨rfl, (St.run (r := { r2 with one := none, i := 0, got := [] })).2 ⟨{ q with one := none, ga := none, gc := 0 }, ?_⟩⟩)
 obtain ⟨z1, z2, z3, z4⟩ := hz1
 show St w0 (RunPt t { r2 with one := none, i := 0, got := [] } { q with one := none, ga := none, gc := 0 } :: OneH none none :: OwnS q.s.a4 q.s.c4 r2.slot.opn :: OwnPr q.s.a5 q.s.c5 r2.slot.chunks :: OwnS q.n.a4 q.n.c4 r2.next.opn :: OwnPr q.n.a5 q.n.c5 r2.next.chunks :: OwnPr q.pa q.pc r2.x.parts :: OwnS q.ta q.tc r2.x.tail :: OwnS none 0 [] :: OwnS q.ra q.rc r2.res.list :: IsSh p s3 :: l) w
 have h1 := (St.one0.2 ⟨rfl, (h.x [8]).ownNil 57 2⟩ : St w0 (OneH none none :: OwnS none 0 [] :: RunPt t { r2 with one := none, i := 0, got := [] } { q with one := none, ga := none, gc := 0 } :: IsSh p s3 :: OwnS q.s.a4 q.s.c4 r.slot.opn :: OwnPr q.s.a5 q.s.c5 r.slot.chunks :: OwnS q.n.a4 q.n.c4 r.next.opn :: OwnPr q.n.a5 q.n.c5 r.next.chunks :: OwnPr q.pa q.pc r.x.parts :: OwnS q.ta q.tc r.x.tail :: OwnS q.ra q.rc r.res.list :: l) w)
 rw [<- z1, <- z2, <- z3, <- z4] at h1
 exact h1.o [2, 0, 4, 5, 6, 7, 8, 9, 1, 10, 3]
end
end
section
section
variable {w0 w : World} {l : List HProp} {t p : Nat} {r : Run} {s : Shd} {q : RunQ}
structure Run.BeginOk (r : Run) (s : Shd) (sl : SlotV) : Prop where
 leave : r.LeaveOk s
 l4 : sl.opn.length <= 1048576
 l5 : sl.chunks.length <= 1048576
theorem d8 {sl : SlotV} {a4 a5 : Option Addr} {c4 c5 : Nat} (hok : r.BeginOk s sl) (hr4 : Reads w0 (runL t r q (IsSh p s :: l)) 2 a4 sl.opn.length (smpsV sl.opn)) (hr5 : Reads w0 (runL t r q (IsSh p s :: l)) 5 a5 sl.chunks.length (prtsV sl.chunks)) (h : St w0 (runL t r q (IsSh p s :: l)) w) :
  Ret prog 57 [.pz t, .pz p, .agg (sl.cells a4 c4 a5 c5).toArray] w fun v w' => v = .iz (r.begin_ s sl).2.2 ∧ St w0 (IsRun t (r.begin_ s sl).1 :: IsSh p (r.begin_ s sl).2.1 :: l) w' := by
 obtain ⟨hlv, h4, h5⟩ := hok
 obtain ⟨X, hX⟩ : ∃ X, sl.snap r.o.F r.o.To = X := ⟨_, rfl⟩
 have hXp : X.parts.length <= 1048576 := by rw [<- hX]; exact Uy (partsIn_le _ _ _) h5
 obtain ⟨r1, hr1⟩ : ∃ r1 : Run, r1 = { r with x := X } := ⟨_, rfl⟩
 have key : r.begin_ s sl = if sl.there = false then (r.leave s).1.refuse (r.leave s).2 3 else match s.b.hold [] X.parts with
  | (false, b) => (r1.leave { s with b := b }).1.stop (r1.leave { s with b := b }).2 ⟨7, 0, []⟩ 3
  | (true, b) => ({ r1 with held := true, ph := if X.parts.length = 0 then 3 else 2 }, { s with b := b }, 1) := by
  unfold Run.begin_
  dsimp only
  rw [hX, hr1]
  all_goals
   by_cases ht : sl.there = false
   ·rw [if_pos ht, if_pos ht]
   ·rw [if_neg ht, if_neg ht]
    cases s.b.hold [] X.parts with | mk g b => cases g <;> rfl
 refine en func57 results57 ntmps57 ?_
 refine Y1 ?_
 refine r_c rfl (jv h (show _ = Value.agg (sl.cells a4 c4 a5 c5).toArray from rfl) fun b5 w h => ?_)
 replace h : St w0 (pt b5 (.cells (sl.cells a4 c4 a5 c5).toArray 85 (0, 0)) :: runL t r q (IsSh p s :: l)) w := h
 refine Y4 ?_; refine Y2v ?_; refine Yk ?_
 refine r_v (qq (v := .bool sl.there) rfl (h.b 0 rfl) rfl) rfl ?_
 cases ht : sl.there with
 | false =>
  rw [if_pos ht] at key
  rw [key]
  refine Yx ?_; refine Yd ?_; refine Y10 ?_
  have h1 : St w0 (IsRun t r :: IsSh p s :: l) w := (St.run (r := r)).2 ⟨q, h.drop⟩
  refine r_c rfl (qg rfl (ug hlv h1) ?_)
  clear h h1
  rintro _ w ⟨rfl, h⟩
  refine Y1a ?_
  refine r_c rfl (qg rfl (gf 3 h) ?_)
  clear h
  rintro _ w ⟨rfl, h⟩
  refine Y6 ?_
  exact qv (qk (bq1 ⟨rfl, h⟩))
 | true =>
  rw [if_neg (by rw [ht]; decide)] at key
  refine Y41 ?_
  refine qt (Γ := Option Addr × Option Addr) (fun _ => [(0, .pz t), (1, .pz p)])
   (fun g w => St w0 (runL t r1 { q with pa := g.1, pc := X.parts.length, ta := g.2, tc := X.tail.length } (IsSh p s :: l)) w) ?_ ?_
  ·refine jh (some 15) (fun w => St w0 (pt b5 (.cells (sl.cells a4 c4 a5 c5).toArray 85 (0, 0)) :: runL t r q (IsSh p s :: l)) w) O1 O1 h.drew fun w h => ?_
   refine Y1j ?_
   refine qj rfl rfl rfl rfl h (fun _ h => qh rfl (qx (l := sl.cells a4 c4 a5 c5) rfl rfl (qw (h.b 0 rfl) rfl))) ?_
   refine Y1o ?_
   refine qj rfl rfl rfl rfl h (fun _ h => qh rfl (qq (v := .iz r.o.F) rfl (h.b 1 rfl) rfl)) ?_
   refine Y1o ?_
   refine qj rfl rfl rfl rfl h (fun _ h => qh rfl (qq (v := .iz r.o.To) rfl (h.b 1 rfl) rfl)) ?_
   refine Y16 ?_
   refine qd 12 rfl rfl rfl rfl ?_
   refine qg rfl (ip r.o.F r.o.To h (fun w' h' => (hr4.more [_]).rd w' h') (fun w' h' => (hr5.more [_]).rd w' h') O0 O0) ?_
   clear h
   rintro _ w ⟨a1, a2, rfl, h1⟩
   have h := h1.drop.drop
   refine ⟨fun _ => h, ?_⟩
   refine Y2y ?_; refine Yg ?_
   refine jk 15 rfl rfl rfl ?_
   refine qy (vs := (ofX sl r.o.F r.o.To (partsIn r.o.F r.o.To sl.chunks) (tailIn r.o.F r.o.To sl.opn)).cells a1 (partsIn r.o.F r.o.To sl.chunks).length a2 (tailIn r.o.F r.o.To sl.opn).length) 3 h1 rfl rfl rfl rfl rfl rfl rfl fun w h => ?_
   refine ⟨(a1, a2), zz2, ?_⟩
   rw [hr1, <- hX]
   exact (h.x [2, 9, 10]).o [2, 3, 4, 5, 6, 7, 0, 1]
  clear h
  rintro ⟨a1, a2⟩ w e h
  dsimp only at h
  obtain ⟨Q, hQ⟩ : ∃ Q : RunQ, { q with pa := a1, pc := X.parts.length, ta := a2, tc := X.tail.length } = Q := ⟨_, rfl⟩
  have hQc : X.parts.length = Q.pc := by rw [<- hQ]
  have hr1x : r1.x = X := by rw [hr1]
  rw [hQ] at h
  have hback : ∀ {w : World} {s : Shd}, St w0 (runL t r1 Q (IsSh p s :: l)) w -> St w0 (IsRun t r1 :: IsSh p s :: l) w := fun h => (St.run (r := r1)).2 ⟨Q, h⟩
  obtain ⟨k, h⟩ := (St.shd (s := s)).1 (h.f 10)
  replace h : St w0 (IsStore k.b s.b :: ShPt p k :: IsDir k.d s.d :: IsCache k.c s.c :: IsTab k.t s.t.V :: runL t r1 Q l) w := h.o [3, 0, 1, 2, 4]
  have hfold : ∀ {w : World} {b : Sto}, St w0 (IsStore k.b b :: ShPt p k :: IsDir k.d s.d :: IsCache k.c s.c :: IsTab k.t s.t.V :: runL t r1 Q l) w -> St w0 (runL t r1 Q (IsSh p { s with b := b } :: l)) w := by
   intro w b h
   have h1 : St w0 (IsSh p { s with b := b } :: runL t r1 Q l) w := (St.shd (s := { s with b := b })).2 ⟨k, h.o [1, 2, 3, 0, 4]⟩
   exact h1.o [1, 2, 3, 4, 5, 6, 7, 8, 9, 10]
  refine qf (qf ?_)
  refine jm [0, 1, 2, 3, 4, 5, 6, 7, 8, 9] none (fun w => St w0 (ShPt p k :: IsDir k.d s.d :: IsCache k.c s.c :: IsTab k.t s.t.V :: runL t r1 Q l) w) O1 O1 ?_
  have hs := h.drew
  clear h
  generalize w.drew = w1 at hs ⊢
  have h := hs.drop
  refine Y3 ?_
  refine qj rfl rfl rfl rfl h (fun _ h => qh rfl (qq (v := .pointer (some ⟨k.b, 0, none⟩)) rfl (h.b 0 rfl) rfl)) ?_
  refine Y3 ?_
  refine qj rfl rfl rfl rfl h (fun _ h => qh rfl (qx (l := r1.x.V.cells Q.pa Q.pc Q.ta Q.tc) rfl rfl (qw (h.b 4 rfl) rfl))) ?_
  refine Yq ?_
  refine qd 8 rfl rfl rfl rfl ?_
  refine qg rfl (sa (x := r1.x.V) (Ps := r1.x.parts) rfl (by show r1.x.parts.length < _; rw [hr1x]; omega) (by show r1.x.parts.length <= _; rw [hr1x, hQc]; exact Ug _) hs (fun w' h' => (h'.f 10).own_rd)) ?_
  clear h hs
  rw [hr1x]
  rintro _ w ⟨rfl, hs⟩
  have h := hs.drop
  refine ⟨fun _ => h, ?_⟩
  cases hh : s.b.hold [] X.parts with
  | mk g b =>
  rw [hh] at key hs
  dsimp only at hs
  cases g with
  | false =>
   replace key : r.begin_ s sl = (r1.leave { s with b := b }).1.stop (r1.leave { s with b := b }).2 ⟨7, 0, []⟩ 3 := key
   rw [key]
   refine cpv rfl rfl rfl rfl h rfl (y8 rfl) ?_
   refine qn ?_
   clear h
   have h := hback (hfold hs)
   clear hs
   refine Y1k ?_; refine Y10 ?_
   refine r_c rfl (qg rfl (ug (s := { s with b := b }) ⟨hlv.cac, by rw [hr1x]; exact hXp, by rw [hr1]; exact hlv.s4, by rw [hr1]; exact hlv.s5⟩ h) ?_)
   clear h
   rintro _ w ⟨rfl, h⟩
   refine Y1a ?_
   refine r_v (qc (r := (⟨7, 0, []⟩ : Res).C none 0) rfl) rfl ?_
   refine r_c rfl (qg rfl (gw (res := ⟨7, 0, []⟩) 3 ((h.ownNil 57 2).f 1)) ?_)
   clear h
   rintro _ w ⟨rfl, h⟩
   refine Y6 ?_
   exact qv (qk (bq1 ⟨rfl, h⟩))
  | true =>
   replace key : r.begin_ s sl = ({ r1 with held := true, ph := if X.parts.length = 0 then 3 else 2 }, { s with b := b }, 1) := key
   rw [key]
   refine cpv rfl rfl rfl rfl h rfl (y8 rfl) ?_
   refine qn ?_
   clear h
   have h := hfold hs
   clear hs
   refine Y1r ?_; refine Y2p ?_
   refine r_c rfl (qb 0 h rfl (show _ = Value.bool true from rfl) rfl rfl rfl rfl fun w h => ?_)
   replace h : St w0 (runL t { r1 with held := true } Q (IsSh p { s with b := b } :: l)) w := h
   refine Yi ?_
   refine r_c rfl (qb 0 h rfl (show _ = Value.iz 2 from rfl) rfl rfl rfl rfl fun w h => ?_)
   replace h : St w0 (runL t { r1 with held := true, ph := 2 } Q (IsSh p { s with b := b } :: l)) w := h
   refine Y2 ?_
   refine qt (Γ := Unit) (fun _ => []) (fun _ w => St w0 (runL t { r1 with held := true, ph := if X.parts.length = 0 then 3 else 2 } Q (IsSh p { s with b := b } :: l)) w) ?_ ?_
   ·refine Y3o ?_
    refine r_v (qq (v := .slice Q.pa X.parts.length Q.pc) rfl (h.b 0 rfl) (by rw [<- hr1x]; rfl)) rfl ?_
    refine Y15 ?_; refine Yp ?_
    by_cases h0 : X.parts.length = 0
    ·refine qz (.bool true) O13 ?_
     refine Yd ?_; refine Y2l ?_
     refine r_c rfl (qb 0 h rfl (show _ = Value.iz 3 from rfl) rfl rfl rfl rfl fun w h => ?_)
     refine qv ⟨(), trivial, ?_⟩
     rw [if_pos h0]; exact h
    ·refine qz (.bool false) O5 ?_
     refine qv (qe rfl (qa ⟨(), trivial, ?_⟩))
     rw [if_neg h0]; exact h
   clear h
   rintro _ w e h
   refine Y13 ?_
   exact qv (qk (bq1 ⟨rfl, (St.run (r := { r1 with held := true, ph := if X.parts.length = 0 then 3 else 2 })).2 ⟨Q, h⟩⟩))
end
end
end Go.Proofs.YtngdfdangkdgcaaGreatDoor
namespace Go.Hw
section
section
variable {P : Program} {e : Env} {w w0 : World} {K : Env -> World -> Prop} {l : List HProp}
variable {ty : TypeId} {pos : String} {af : Array Edge} {g : Option (Nat × Bool)}
theorem em {c : Nat} {t T it : TypeId} [ht : Und P t (.slice T)] [hit : Und P it (.int .i64)] {z : List Value} {agg : Bool} {bytes : Nat} [hi : Inf P T z agg bytes] {x y : Operand} {n : Nat}
  (h : St w0 l w) (hx : ev e x = .slice none 0 0) (hy : ev e y = .iz (n : Int)) (hn : 0 < n) (hz : 0 < z.length) (hb : n * bytes <= 140737488355328) (h63 : n <= 9223372036854775807)
  (k : ∀ a' c' w', n <= c' -> St w0 (Own T z.length a' 0 c' [] :: l) w' -> K (upd e c (.slice a' n c')) w') :
  Ex P ⟨some c, .call ⟨.builtin .append, [x, y].toArray, [t, it].toArray⟩, ty, pos, af, g⟩ e w K := by
 obtain ⟨i, h1, h2, h3, h4⟩ := hi.get
 subst h4
 have hge : n <= grownCap w n 0 T := by simp [grownCap, Question.cut]
 have hfit := growslice_fits (need := n) (old := 0) hn hb
 have hzc := hi.cells
 have hw1 : IntKind.i64.wrap (n : Int) = n := by
  unfold IntKind.wrap
  simp [IntKind.signed, IntKind.bits]
  omega
 have hrun : ∃ cells : List Value, cells.length = grownCap w n 0 T * z.length ∧ (Builtin.append_ #[t, it] ty #[.slice none 0 0, .iz (n : Int)]).run P w = .ok (.slice (some ⟨w.heap.size, 0, none⟩) n (grownCap w n 0 T)) (w.drew.alloc (.cells cells.toArray T)) := by
  have hn3 : ¬ (281474976710656 < Builtin.nextslicecap n 0 * i.bytes) := by omega
  have hn0 : ¬ ((n : Int) < 0) := by omega
  have hn4 : ¬ (281474976710656 < (n : Int) * (i.bytes : Int)) := by
   rw [<- Int.natCast_mul]; omega
  have hn5 : ¬ ((9223372036854775807 : Int) < (n : Int)) := by omega
  have hn6 : ¬ (n <= 0) := by omega
  have hn7 : n ≠ 0 := by omega
  have hz7 : ¬ (n = 0 ∨ z = []) := by
   rintro (h | h)
   ·omega
   ·rw [h] at hz; cases hz
  refine ⟨((Builtin.zeroCells z.toArray n).toList ++ (Builtin.zeroCells z.toArray (grownCap w n 0 T - n)).toList), ?_, ?_⟩
  ·rw [Ua, zeroCells_len, zeroCells_len, <- Vi]
   simp only [Wu]
   rw [Nat.add_sub_cancel' hge]
  ·generalize (if agg then Value.agg z.toArray else z.getD 0 undef) = zz at h2 hzc
   simp [Builtin.append_, run_underlying ht.h, run_underlying hit.h, sizeOf, typeInfo, zeroValue, h1, h2, h3, asInt, asIntOf, hw1, hn0, hn3, hn4, hn5, hn6, hn7, hz7, Builtin.firstCells, Question.forced, newRow, grownCap, hzc]
   rw [if_neg (Nat.mul_ne_zero hn7 O0)]
   congr 3
   apply Array.ext'
   simp
 obtain ⟨cells, hc, hrun⟩ := hrun
 refine x_w (v := .slice (some ⟨w.heap.size, 0, none⟩) n (grownCap w n 0 T)) (w' := w.drew.alloc (.cells cells.toArray T)) ?_ (k _ _ _ hge ?_)
 ·simp [execOp, resolve, hx, hy, invoke, builtin, hrun]
 ·refine St.own_mk (cur := cells) ((h.drew).alloc _) hc O8 (Ud _)
end
end
end Go.Hw
namespace Go.Proofs.YtngdfdangkdgcaaGreatDoor
open Go.Hw _root_.Go.Proofs.Tryz
section
section
variable {w0 w : World} {l : List HProp}
theorem ep (n : Nat) (hn : n <= 1073741824) (h : St w0 l w) : Ret prog 103 [.slice none 0 0, .iz (n : Int)] w fun v w' => ∃ a c, v = .slice a 0 c ∧ n <= c ∧ St w0 (OwnS a c [] :: l) w' := by
 refine en func103 results103 ntmps103 ?_
 refine Y2b ?_; refine Y8 ?_; refine Y1u ?_
 refine qz (.bool false) O12 ?_
 refine Yb ?_
 refine qt (Γ := Option Addr × Nat) (fun g => [(0, .slice g.1 0 g.2)]) (fun g w => n <= g.2 ∧ St w0 (OwnS g.1 g.2 [] :: l) w) ?_ ?_
 ·refine Y8 ?_; refine Yj ?_
  refine r_v (qqn rfl) rfl ?_
  refine Y17 ?_; refine Y1l ?_; refine Y1l ?_
  refine qz (.iz (n : Int)) (by rw [wrap64 (x := ((0 : Nat) : Int) - ((0 : Nat) : Int)) O0 O0, wrap64 O0 O0] <;> (congr 1 <;> omega)) ?_
  refine Y3t ?_; refine Y2j ?_
  by_cases h0 : 0 < n
  ·refine qz (.bool true) O3 ?_
   refine Yd ?_; refine Y3j ?_; refine Yj ?_
   refine r_v (qqn rfl) rfl ?_
   refine r_v (kz (h := 0) rfl rfl (Ug _)) rfl ?_
   refine Y0 ?_
   refine r_c rfl (em (n := n) h rfl rfl h0 O2 O0 O0 fun a c w hc h => ?_)
   refine Y17 ?_
   refine r_v (kz (h := 0) rfl rfl (Ud _)) rfl ?_
   refine Yo ?_
   exact qv ⟨(a, c), ⟨rfl, trivial⟩, hc, h⟩
  ·refine qz (.bool false) O12 ?_
   exact qv (qe rfl (qa ⟨(none, 0), ⟨rfl, trivial⟩, O_o, h.ownNil 57 2⟩))
 clear h
 rintro ⟨a, c⟩ w e ⟨hc, h⟩
 refine Ye ?_; refine Yo ?_
 exact qv (qk (bq1 ⟨a, c, rfl, hc, h⟩))
theorem wj {A B : List Smp} {a b : Option Addr} {ca cb : Nat} {p : Nat} (hA : A.length <= 268435456) (hB : B.length <= 268435456) (hra : Reads w0 l 2 a A.length (smpsV A)) (hrb : Reads w0 l 2 b B.length (smpsV B)) (h : St w0 (pt p (.cells [.slice a A.length ca, .slice b B.length cb].toArray 26 (0, 0)) :: l) w) :
  Ret prog 70 [.slice (sQ p) 2 2] w fun v w' => ∃ o c, v = .slice o (A ++ B).length c ∧ St w0 (OwnS o c (A ++ B) :: l) w' := by
 obtain ⟨X, hX⟩ : ∃ X : HProp, X = pt p (.cells [.slice a A.length ca, .slice b B.length cb].toArray 26 (0, 0)) := ⟨_, rfl⟩
 have hcell : ∀ {M : List HProp} {w : World}, St w0 (X :: M) w -> ∀ i, i < 2 -> w.cell? ⟨p, i, none⟩ = some (if i = 0 then .slice a A.length ca else .slice b B.length cb) := by
  intro M w h i hi
  rw [hX] at h
  have h01 : i = 0 ∨ i = 1 := by omega
  rcases h01 with rfl | rfl
  ·exact yz (h.b 0 rfl) rfl
  ·exact yz (h.b 0 rfl) rfl
 obtain ⟨P, hP⟩ : ∃ P : Nat -> List Smp, P = fun i => if i = 0 then [] else if i = 1 then A else A ++ B := ⟨_, rfl⟩
 have p0 : P 0 = [] := by rw [hP]; rfl
 have p1 : P 1 = A := by rw [hP]; rfl
 have p2 : P 2 = A ++ B := by rw [hP]; rfl
 rw [<- hX] at h
 refine en func70 results70 ntmps70 ?_
 refine Y1b ?_; refine Yn ?_; refine Y4 ?_
 refine qt (Γ := Unit) (fun _ => [(0, .slice (sQ p) 2 2), (3, .iz ((A ++ B).length : Int))]) (fun _ w => St w0 (X :: l) w) ?_ ?_
 ·refine Y3l ?_
  refine jx (Γ := Nat) (fun i => [(0, .slice (sQ p) 2 2), (3, .iz ((P i).length : Int)), (9, .slice (sQ p) 2 2), (10, .iz 2), (11, .iz (i : Int))]) (fun i w => i <= 2 ∧ St w0 (X :: l) w) (fun i => 2 - i) 0 ⟨rfl, by rw [p0]; rfl, rfl, rfl, rfl, trivial⟩ ⟨Ud _, h⟩ ?_
  clear h
  rintro i w e ⟨hi, h⟩
  refine Y3p ?_
  by_cases hlt : i < 2
  ·refine qz (.bool true) O3 ?_
   refine Y42 ?_; refine Y36 ?_
   refine r_v (jb (j := i) (o' := i) rfl rfl rfl hlt O8) rfl ?_
   have hc := hcell h i hlt
   have h01 : i = 0 ∨ i = 1 := by omega
   rcases h01 with rfl | rfl
   ·refine r_v (jj (v := .slice a A.length ca) rfl hc) rfl ?_
    refine Yw ?_; refine Y8 ?_; refine Y17 ?_; refine Y1f ?_
    refine qz (.iz ((P 1).length : Int)) (by rw [p0, p1, wrap64 (by simp <;> omega) (by simp <;> omega)]; simp) ?_
    refine Y3t ?_; refine Y1u ?_
    refine qz (.bool false) O12 ?_
    refine Yb ?_; refine Yt ?_
    refine qz (.iz ((1 : Nat) : Int)) rfl ?_
    refine Y0 ?_
    exact qv ⟨1, zz5, ⟨O_o, h⟩, O_o⟩
   ·refine r_v (jj (v := .slice b B.length cb) rfl hc) rfl ?_
    refine Yw ?_; refine Y8 ?_; refine Y17 ?_; refine Y1f ?_
    refine qz (.iz ((P 2).length : Int)) (by rw [p1, p2, wrap64 O0 O0]; simp) ?_
    refine Y3t ?_; refine Y1u ?_
    refine qz (.bool false) O12 ?_
    refine Yb ?_; refine Yt ?_
    refine qz (.iz ((2 : Nat) : Int)) rfl ?_
    refine Y0 ?_
    exact qv ⟨2, zz5, ⟨O_o, h⟩, O_o⟩
  ·refine qz (.bool false) O12 ?_
   refine qv (qf (qe rfl (ju ?_)))
   obtain rfl : i = 2 := by omega
   refine Eq.mpr (if_pos rfl) ⟨(), ⟨rfl, ?_, trivial⟩, h⟩
   show Value.iz ((P 2).length : Int) = _
   rw [p2]
 clear h
 rintro _ w e h
 refine Y8 ?_
 refine r_c rfl (qg rfl (ep (A ++ B).length O25 h) ?_)
 clear h
 rintro _ w ⟨oa, oc, rfl, hoc, h⟩
 refine Yw ?_
 refine qt (Γ := Option Addr × Nat) (fun g => [(6, .slice g.1 (A ++ B).length g.2)]) (fun g w => St w0 (OwnS g.1 g.2 (A ++ B) :: X :: l) w) ?_ ?_
 ·refine Y3l ?_
  refine jx (Γ := Nat × Option Addr × Nat) (fun g => [(6, .slice g.2.1 (P g.1).length g.2.2), (25, .slice (sQ p) 2 2), (26, .iz 2), (27, .iz (g.1 : Int))]) (fun g w => g.1 <= 2 ∧ St w0 (OwnS g.2.1 g.2.2 (P g.1) :: X :: l) w) (fun g => 2 - g.1) (0, oa, oc) ⟨by rw [p0]; rfl, rfl, rfl, rfl, trivial⟩ ⟨Ud _, by rw [p0]; exact h⟩ ?_
  clear h
  rintro ⟨i, ga, gc⟩ w e ⟨hi, h⟩
  dsimp only at hi h
  refine Y3p ?_
  by_cases hlt : i < 2
  ·refine qz (.bool true) O3 ?_
   refine Y42 ?_; refine Y36 ?_
   refine r_v (jb (j := i) (o' := i) rfl rfl rfl hlt O8) rfl ?_
   have hc := hcell (h.f 1) i hlt
   have h01 : i = 0 ∨ i = 1 := by omega
   rcases h01 with rfl | rfl
   ·refine r_v (jj (v := .slice a A.length ca) rfl hc) rfl ?_
    refine Yw ?_; refine Y3j ?_; refine Yj ?_
    refine r_c rfl (q9 (ys := smpsV A) (zs := smpsV (P 1)) (m3 := (P 1).length) h rfl rfl ((hra.more [_, _]).at_ h) (jt _) (by rw [p0, p1]; simp) (by rw [p0, p1]; simp [smpsV]) (by rw [p1]; omega) (by rw [p1]; omega) rfl fun a2 c2 w _ h => ?_)
    refine Yw ?_; refine Yt ?_
    refine qz (.iz ((1 : Nat) : Int)) rfl ?_
    refine Y0 ?_
    exact qv ⟨(1, a2, c2), zz4, ⟨O_d, h⟩, O_d⟩
   ·refine r_v (jj (v := .slice b B.length cb) rfl hc) rfl ?_
    refine Yw ?_; refine Y3j ?_; refine Yj ?_
    refine r_c rfl (q9 (ys := smpsV B) (zs := smpsV (P 2)) (m3 := (P 2).length) h rfl rfl ((hrb.more [_, _]).at_ h) (jt _) (by rw [p1, p2]; simp) (by rw [p1, p2]; simp [smpsV]) (by rw [p2]; simp; omega) (by rw [p2]; simp; omega) rfl fun a2 c2 w _ h => ?_)
    refine Yw ?_; refine Yt ?_
    refine qz (.iz ((2 : Nat) : Int)) rfl ?_
    refine Y0 ?_
    exact qv ⟨(2, a2, c2), zz4, ⟨O_d, h⟩, O_d⟩
  ·refine qz (.bool false) O12 ?_
   refine qv (qf (qe rfl (ju ?_)))
   obtain rfl : i = 2 := by omega
   rw [p2] at h
   refine Eq.mpr (if_pos rfl) ⟨(ga, gc), ⟨?_, trivial⟩, h⟩
   show Value.slice ga (P 2).length gc = _
   rw [p2]
 clear h
 rintro ⟨ga, gc⟩ w e h
 refine Ye ?_; refine Yo ?_
 exact qv (qk (bq1 ⟨ga, gc, rfl, h.x [1]⟩))
end
end
end Go.Proofs.YtngdfdangkdgcaaGreatDoor
namespace Go.Hw
section
section
variable {κ β : Type} [DecidableEq κ]
theorem gh {k : κ} {v : β} : ∀ {m : List (κ × β)}, (keys m).Nodup -> (mget k m = some v ↔ (k, v) ∈ m)
 | [], _ => by simp [mget]
 | (k', v') :: m, hn => by
  have hn' : k' ∉ keys m ∧ (keys m).Nodup := by simpa [keys] using hn
  unfold mget
  by_cases h : k' = k
  ·subst h
   simp only [if_true, Uo, Prod.mk.injEq, true_and, Vq]
   refine ⟨fun h => .inl h.symm, fun h => h.elim Eq.symm fun h => ?_⟩
   exact absurd (Vb.2 ⟨_, h, rfl⟩) hn'.1
  ·rw [if_neg h, gh hn'.2]
   simp only [Uo, Prod.mk.injEq]
   exact ⟨.inr, fun h' => h'.elim (fun e => absurd e.1.symm h) id⟩
theorem xm {m m' : List (κ × β)} (hp : m.Perm m') (hn : (keys m).Nodup) (k : κ) : mget k m' = mget k m := by
 have hn' : (keys m').Nodup := (hp.map _).nodup_iff.1 hn
 apply Option.ext
 intro v
 rw [gh hn', gh hn, hp.mem_iff]
end
theorem ie {α κ : Type} {f : α -> κ} : ∀ {l : List α} {a b : α}, (l.map f).Nodup -> a ∈ l -> b ∈ l -> f a = f b -> a = b
 | [], _, _, _, h, _, _ => by cases h
 | x :: l, a, b, hn, ha, hb, he => by
  have hn' : f x ∉ l.map f ∧ (l.map f).Nodup := by simpa using hn
  rcases Uo.1 ha with e1 | h1 <;> rcases Uo.1 hb with e2 | h2
  ·rw [e1, e2]
  ·exact absurd (Vb.2 ⟨b, h2, he.symm.trans (congrArg f e1)⟩) hn'.1
  ·exact absurd (Vb.2 ⟨a, h1, he.trans (congrArg f e2)⟩) hn'.1
  ·exact ie hn'.2 h1 h2 he
namespace Clk
structure Good (q : Clk) : Prop where
 wf : q.Wf
 res : (q.res.length : Int) <= q.most
 tests : (q.count Pg.test : Int) <= q.most
 nodup : q.keys.Nodup
theorem zr (q : Clk) : List.Sublist (Go.Hw.keys q.res) q.keys := by
 unfold res Go.Hw.keys keys
 rw [List.map_map]
 exact (List.filter_sublist (l := q.pages)).map _
theorem Good.resNodup {q : Clk} (h : q.Good) : (Go.Hw.keys q.res).Nodup := h.nodup.sublist (zr q)
theorem new_good (n : Int) : (new n).Good := ⟨⟨by unfold new; dsimp only; omega, by unfold new; dsimp only; omega, fun p hp => (by cases hp), by simp [new], by simp [new], by simp [new]⟩, by simp [new, res]; omega, by simp [new, count]; omega, by simp [new, keys]⟩
theorem ef {l : List Pg} (h : ∀ p ∈ l, p.Ok) : l.length = l.countP Pg.resident + l.countP Pg.test := by
 induction l with
 | nil => rfl
 | cons p l ih =>
  have h1 := ih fun x hx => h x (Ue _ hx)
  rw [Ui, Wl, Wl, h1]
  rcases (h p (Ub ..)).1 with e | e | e
  ·simp [Pg.resident, Pg.test, e]; omega
  ·simp [Pg.resident, Pg.test, e]; omega
  ·simp [Pg.resident, Pg.test, e]; omega
theorem Good.len {q : Clk} (h : q.Good) : q.pages.length <= 2000 := by
 have h1 := ef h.wf.kinds
 have h2 := h.res
 have h3 := h.tests
 have h4 := h.wf.most
 rw [res_len] at h2
 unfold count at h2 h3
 omega
theorem Good.count {q : Clk} (h : q.Good) : (q.count Pg.resident : Int) <= q.most := by rw [<- res_len]; exact h.res
theorem uv {q : Clk} {k : Key3} {i : Nat} (h : q.find k = some i) : ∃ p, q.pages[i]? = some p ∧ p.key = k := by
 unfold find at h
 obtain ⟨h1, h2, _⟩ := Xz.1 h
 exact ⟨_, Uc h1, by simpa using h2⟩
theorem ia {q : Clk} {k : Key3} (h : q.find k = none) : k ∉ q.keys := by
 unfold find at h
 rw [List.findIdx?_eq_none_iff] at h
 intro hk
 obtain ⟨p, hp, rfl⟩ := Vb.1 hk
 have := h p hp
 simp at this
theorem mem_res {q : Clk} {k : Key3} {n : Int} : (k, n) ∈ q.res ↔ ∃ p ∈ q.pages, p.resident = true ∧ p.key = k ∧ p.pins = n := by
 unfold res
 simp only [Vb, Xo, Prod.mk.injEq]
 exact ⟨fun ⟨p, ⟨a, b⟩, c, d⟩ => ⟨p, a, b, c, d⟩, fun ⟨p, a, b, c, d⟩ => ⟨p, ⟨a, b⟩, c, d⟩⟩
theorem ul {q : Clk} (h : q.Good) {k : Key3} {i : Nat} {p : Pg} (hf : q.find k = some i) (hp : q.pages[i]? = some p) : mget k q.res = if p.resident then some p.pins else none := by
 obtain ⟨p', hp', hk⟩ := uv hf
 rw [hp] at hp'
 cases hp'
 have hm : p ∈ q.pages := Uj hp
 by_cases hr : p.resident = true
 ·rw [if_pos hr, gh h.resNodup, mem_res]
  exact ⟨p, hm, hr, hk, rfl⟩
 ·rw [if_neg hr, mget_none]
  intro hx
  obtain ⟨⟨k', n⟩, hy, e⟩ := Vb.1 hx
  dsimp only at e
  subst e
  obtain ⟨p2, h2, h3, h4, _⟩ := mem_res.1 hy
  have := ie h.nodup h2 hm (h4.trans hk.symm)
  subst this
  exact hr h3
theorem uu {q : Clk} {k : Key3} (hf : q.find k = none) : mget k q.res = none := by
 rw [mget_none]
 exact fun hx => ia hf ((zr q).subset hx)
theorem Good.setP {q : Clk} (h : q.Good) {i : Nat} {p p' : Pg} (hp : q.pages[i]? = some p) (hk : p'.key = p.key) (hr : p'.resident = p.resident) (ht : p'.test = p.test) (ho : p'.Ok) : (q.setP i p').Good := by
 refine ⟨h.wf.setP ho, ?_, ?_, ?_⟩
 ·rw [res_len]
  have h1 := ja Pg.resident hp p'
  have h2 := h.count
  rw [hr] at h1
  unfold Clk.setP Clk.count at *
  dsimp only at *
  omega
 ·have h1 := ja Pg.test hp p'
  have h2 := h.tests
  rw [ht] at h1
  unfold Clk.setP Clk.count at *
  dsimp only at *
  omega
 ·show ((q.pages.set i p').map (·.key)).Nodup
  rw [keys_set hp hk]
  exact h.nodup
theorem touch_good {q : Clk} (h : q.Good) (k : Key3) : (q.touch k).1.Good ∧ (q.touch k).1.res = q.res ∧ (q.touch k).2 = (mget k q.res).isSome ∧ (q.touch k).1.most = q.most := by
 unfold touch
 cases hf : q.find k with
 | none => exact ⟨h, rfl, by rw [uu hf]; rfl, rfl⟩
 | some i =>
  obtain ⟨p, hp, hk⟩ := uv hf
  have hg := ul h hf hp
  dsimp only
  rw [hp]
  dsimp only
  by_cases hr : p.resident = true
  ·rw [if_pos hr] at hg ⊢
   have hpm := h.wf.kinds p (Uj hp)
   refine ⟨h.setP hp rfl rfl rfl hpm, ?_, by rw [hg]; rfl, rfl⟩
   exact ic hp rfl rfl rfl
  ·rw [if_neg hr] at hg ⊢
   exact ⟨h, rfl, by rw [hg]; rfl, rfl⟩
theorem qjq {l : List Pg} {i : Nat} {p : Pg} (n : Int) (hn : (l.map (·.key)).Nodup) (hp : l[i]? = some p) (hr : p.resident = true) :
  ((l.set i { p with pins := n }).filter Pg.resident).map (fun p => (p.key, p.pins)) = mset p.key n ((l.filter Pg.resident).map fun p => (p.key, p.pins)) := by
 induction l generalizing i with
 | nil => cases hp
 | cons a l ih =>
  have hn' : a.key ∉ l.map (·.key) ∧ (l.map (·.key)).Nodup := by simpa using hn
  cases i with
  | zero =>
   cases hp
   have hr' : Pg.resident { p with pins := n } = true := hr
   rw [Vf, Vv, if_pos hr', Vv, if_pos hr, Ux, Ux, mset, if_pos rfl]
  | succ i =>
   have hp' : l[i]? = some p := by simpa using hp
   have := ih hn'.2 hp'
   have hne : ¬ a.key = p.key := fun e => hn'.1 (Vb.2 ⟨p, Uj hp', e.symm⟩)
   rw [Vm, Vv, Vv]
   by_cases ha : a.resident = true
   ·rw [if_pos ha, if_pos ha, Ux, Ux, this, mset, if_neg hne]
   ·rw [if_neg ha, if_neg ha, this]
theorem pin_good {q : Clk} (h : q.Good) (k : Key3) (n : Int) : (q.pin k n).1.Good ∧ (q.pin k n).1.most = q.most ∧ (q.pin k n).2 = (mget k q.res).isSome ∧
  (q.pin k n).1.res = match mget k q.res with | some a => mset k (max (a + n) 0) q.res | none => q.res := by
 unfold pin
 cases hf : q.find k with
 | none => exact ⟨h, rfl, by rw [uu hf]; rfl, by rw [uu hf]⟩
 | some i =>
  obtain ⟨p, hp, hk⟩ := uv hf
  have hg := ul h hf hp
  dsimp only
  rw [hp]
  dsimp only
  by_cases hr : p.resident = true
  ·rw [if_pos hr] at hg ⊢
   have hpm := h.wf.kinds p (Uj hp)
   have ho : Pg.Ok { p with pins := max (p.pins + n) 0 } := ⟨hpm.1, O_d, fun h3 => by
    dsimp only at h3
    unfold Pg.resident at hr
    rw [h3] at hr
    cases hr⟩
   refine ⟨h.setP hp rfl rfl rfl ho, rfl, by rw [hg]; rfl, ?_⟩
   rw [hg]
   dsimp only
   rw [<- hk]
   exact qjq _ h.nodup hp hr
  ·rw [if_neg hr] at hg ⊢
   exact ⟨h, rfl, by rw [hg]; rfl, by rw [hg]⟩
theorem page_good {q : Clk} (h : q.Good) (k : Key3) : (∀ a, mget k q.res = some a -> ∃ i p, q.find k = some i ∧ q.pages[i]? = some p ∧ p.pins = a) ∧ (∀ i p, q.find k = some i -> q.pages[i]? = some p -> mget k q.res = none -> p.pins = 0) := by
 constructor
 ·intro a ha
  cases hf : q.find k with
  | none => rw [uu hf] at ha; cases ha
  | some i =>
   obtain ⟨p, hp, hk⟩ := uv hf
   have hg := ul h hf hp
   rw [ha] at hg
   refine ⟨i, p, rfl, hp, ?_⟩
   split at hg
   ·exact (Uk hg).symm
   ·cases hg
 ·intro i p hf hp hn
  have hg := ul h hf hp
  have hpm := h.wf.kinds p (Uj hp)
  rw [hn] at hg
  split at hg
  ·cases hg
  ·rename_i hr
   refine hpm.2.2 ?_
   rcases hpm.1 with e | e | e
   ·exact absurd (by simp [Pg.resident, e]) hr
   ·exact absurd (by simp [Pg.resident, e]) hr
   ·exact e
theorem Good.goes {q : Clk} (h : q.Good) {i : Nat} {p : Pg} (hp : q.pages[i]? = some p) : (q.goes i).Good := by
 have hlt := (Uf.1 hp).1
 refine ⟨h.wf.goes hlt, ?_, ?_, ?_⟩
 ·rw [res_len]
  have h1 := gk Pg.resident hp
  have h2 := h.count
  unfold Clk.goes Clk.count at *
  dsimp only at *
  omega
 ·have h1 := gk Pg.test hp
  have h2 := h.tests
  unfold Clk.goes Clk.count at *
  dsimp only at *
  omega
 ·exact h.nodup.sublist ((Zm ..).map _)
theorem qjj {q : Clk} (h : q.Good) {k : Key3} {i : Nat} (hf : q.find k = some i) (j : Key3) : mget j (q.goes i).res = if j = k then none else mget j q.res := by
 obtain ⟨p, hp, hk⟩ := uv hf
 have hg := ul h hf hp
 by_cases hr : p.resident = true
 ·have h1 := (res_out_erase hp hr).1
  have h2 := xm h1 h.resNodup
  have hn := h.resNodup
  have hn2 : (Go.Hw.keys ((p.key, p.pins) :: (q.goes i).res)).Nodup := (h1.map _).nodup_iff.1 hn
  have hn3 : p.key ∉ Go.Hw.keys (q.goes i).res := (Vw.1 hn2).1
  have h3 := h2 j
  show mget j (q.goes i).res = _
  rw [hk] at hn3
  by_cases hj : j = k
  ·subst hj; rw [if_pos rfl]; exact mget_none.2 hn3
  ·rw [if_neg hj]
   have h4 : mget j ((p.key, p.pins) :: (q.goes i).res) = mget j (q.goes i).res := by rw [mget, if_neg (by rw [hk]; exact fun e => hj e.symm)]
   rw [<- h4]
   exact h3
 ·have h1 : (q.goes i).res = q.res := xx hp (by simpa using hr)
  rw [h1]
  rw [if_neg hr] at hg
  by_cases hj : j = k
  ·subst hj; rw [if_pos rfl]; exact hg
  ·rw [if_neg hj]
theorem drop_good {q : Clk} (h : q.Good) (k : Key3) : (q.drop k).1.Good ∧ (q.drop k).1.most = q.most ∧ ∀ j, mget j (q.drop k).1.res = if j = k then none else mget j q.res := by
 unfold Clk.drop
 cases hf : q.find k with
 | none =>
  refine ⟨h, rfl, fun j => ?_⟩
  by_cases hj : j = k
  ·subst hj; rw [if_pos rfl]; exact uu hf
  ·rw [if_neg hj]
 | some i =>
  obtain ⟨p, hp, hk⟩ := uv hf
  exact ⟨h.goes hp, rfl, qjj h hf⟩
theorem zx {q : Clk} (p : Pg) : (q.comes p).pages.Perm (p :: q.pages) := by
 unfold comes
 split
 ·rename_i h; rw [h]
 ·have : (q.pages.take q.hot ++ p :: q.pages.drop q.hot).Perm (p :: (q.pages.take q.hot ++ q.pages.drop q.hot)) := List.perm_middle
  rwa [Zl] at this
theorem eo {q : Clk} {p : Pg} (hr : p.resident = true) : (q.comes p).res.Perm ((p.key, p.pins) :: q.res) := by
 have h1 := ((zx (q := q) p).filter Pg.resident).map fun p => (p.key, p.pins)
 rw [Vv, if_pos hr, Ux] at h1
 exact h1
theorem tg (q : Clk) (p : Pg) : (q.comes p).most = q.most := by unfold comes; split <;> rfl
structure Came (q : Clk) (k : Key3) (q' : Clk) (out : List Key3) : Prop where
 good : q'.Good
 most : q'.most = q.most
 here : mget k q'.res = some 0
 others : ((q.res.length : Int) < q.most ∧ out = [] ∧ ∀ j, j ≠ k -> mget j q'.res = mget j q.res) ∨ (q.most <= (q.res.length : Int) ∧ ∃ k0, out = [k0] ∧ k0 ≠ k ∧ mget k0 q.res = some 0 ∧ ∀ j, j ≠ k -> mget j q'.res = if j = k0 then none else mget j q.res)
theorem ei {l : List Pg} {i : Nat} {p : Pg} (hn : (l.map (·.key)).Nodup) (hp : l[i]? = some p) : p.key ∉ (l.eraseIdx i).map (·.key) := by
 induction l generalizing i with
 | nil => cases hp
 | cons a l ih =>
  have hn' : a.key ∉ l.map (·.key) ∧ (l.map (·.key)).Nodup := by simpa using hn
  cases i with
  | zero => cases hp; exact hn'.1
  | succ i =>
   have hp' : l[i]? = some p := by simpa using hp
   have := ih hn'.2 hp'
   rw [Xh, Ux, Uo]
   rintro (e | e)
   ·exact hn'.1 (e ▸ Vb.2 ⟨p, Uj hp', rfl⟩)
   ·exact this e
theorem qjg {q : Clk} (h : q.Good) : q.count Pg.free = 0 ↔ ∀ j a, mget j q.res = some a -> a ≠ 0 := by
 rw [<- yq, List.countP_eq_zero]
 constructor
 ·intro hx j a hj e
  have := hx _ ((gh h.resNodup).1 hj)
  simp [e] at this
 ·rintro hx ⟨j, a⟩ hj
  have := hx j a ((gh h.resNodup).2 hj)
  simpa using this
theorem ir {q1 : Clk} {k : Key3} (h : q1.Good) (hk : k ∉ q1.keys) (hf : ¬ ((q1.count Pg.resident : Int) ≥ q1.most ∧ q1.count Pg.free = 0)) {p : Pg} (hpk : p.key = k) (hpr : p.resident = true) (hpp : p.pins = 0) (hpo : p.Ok) :
  Came q1 k ((q1.room.1.comes p).cool) q1.room.2 := by
 have hpt : p.test = false := by
  unfold Pg.resident at hpr
  unfold Pg.test
  rcases hpo.1 with e | e | e <;> simp [e] at hpr ⊢
 have gen : ∀ q2 : Clk, q2.Wf -> q2.most = q1.most -> (q2.res.length : Int) + 1 <= q2.most -> (q2.count Pg.test : Int) <= q2.most -> List.Sublist q2.keys q1.keys ->
   ((q2.comes p).cool).Good ∧ ((q2.comes p).cool).most = q1.most ∧ mget k ((q2.comes p).cool).res = some 0 ∧ ∀ j, j ≠ k -> mget j ((q2.comes p).cool).res = mget j q2.res := by
  intro q2 hw hm hl ht hs
  obtain ⟨hw3, _⟩ := comes_wf hw hpo
  obtain ⟨hw4, hle, _⟩ := nv hw3
  have hcm := tg q2 p
  have hperm := eo (q := q2) hpr
  rw [hpk, hpp] at hperm
  have hkp : (q2.comes p).keys.Perm (k :: q2.keys) := by
   have := (zx (q := q2) p).map (·.key)
   rw [Ux, hpk] at this
   exact this
  have hn2 : q2.keys.Nodup := h.nodup.sublist hs
  have hk2 : k ∉ q2.keys := fun hx => hk (hs.subset hx)
  have hn3 : (q2.comes p).keys.Nodup := hkp.nodup_iff.2 (Vw.2 ⟨hk2, hn2⟩)
  have hn4 := hn3.sublist hle.keys
  have hr4 : ((q2.comes p).cool).res = (q2.comes p).res := hle.res
  have htc : (q2.comes p).count Pg.test = q2.count Pg.test := by
   unfold Clk.count
   rw [(zx (q := q2) p).countP_eq, Wl, hpt]; rfl
  have hg : ((q2.comes p).cool).Good := by
   refine ⟨hw4, ?_, ?_, hn4⟩
   ·rw [hr4, hperm.length_eq, hle.most, hcm, Ui]; omega
   ·have := hle.tests
    rw [hle.most, hcm]
    omega
  have hrn : (Go.Hw.keys ((k, (0 : Int)) :: q2.res)).Nodup := Vw.2 ⟨fun hx => hk2 ((zr q2).subset hx), hn2.sublist (zr q2)⟩
  have hmg := xm hperm.symm hrn
  refine ⟨hg, by rw [hle.most, hcm, hm], ?_, fun j hj => ?_⟩
  ·rw [hr4, hmg, mget, if_pos rfl]
  ·rw [hr4, hmg, mget, if_neg (fun e => hj e.symm)]
 have hlen : q1.count Pg.resident = q1.res.length := (res_len q1).symm
 unfold room
 by_cases hfull : (q1.count Pg.resident : Int) ≥ q1.most
 ·rw [if_pos hfull]
  have hfr : 1 <= q1.count Pg.free := Nat.one_le_iff_ne_zero.2 fun e => hf ⟨hfull, e⟩
  obtain ⟨k0, hk0, hw, ho⟩ := coldTurns_ok h.wf hfr
  rw [hk0]
  have hl := ho.res.length_eq
  rw [Ui] at hl
  have hres := h.res
  obtain ⟨g1, g2, g3, g4⟩ := gen _ hw ho.most (by rw [ho.most]; omega) (by have := ho.tests; omega) ho.keys
  have hn1 := h.resNodup
  have hn2 : (Go.Hw.keys ((k0, (0 : Int)) :: q1.coldTurns.1.res)).Nodup := (ho.res.map _).nodup_iff.1 hn1
  have hm := xm ho.res.symm hn2
  have hk00 : mget k0 q1.res = some 0 := by rw [hm, mget, if_pos rfl]
  have hnk : k0 ≠ k := by
   rintro rfl
   have : mget k0 q1.res = none := mget_none.2 fun hx => hk ((zr q1).subset hx)
   rw [this] at hk00; cases hk00
  refine ⟨g1, g2, g3, .inr ⟨by rw [<- hlen]; exact hfull, k0, rfl, hnk, hk00, fun j hj => ?_⟩⟩
  rw [g4 j hj, hm, mget]
  by_cases e : j = k0
  ·rw [if_pos e, e]
   exact mget_none.2 (Vw.1 hn2).1
  ·rw [if_neg e, if_neg (fun e' => e e'.symm)]
 ·rw [if_neg hfull]
  obtain ⟨g1, g2, g3, g4⟩ := gen q1 h.wf rfl O0 h.tests (List.Sublist.refl _)
  exact ⟨g1, g2, g3, .inl ⟨O_o, rfl, g4⟩⟩
theorem admit_cases {q : Clk} (h : q.Good) (k : Key3) :
  ((mget k q.res).isSome = true ∧ q.lets k = ((q.touch k).1, [], true)) ∨
  (mget k q.res = none ∧ q.most <= (q.res.length : Int) ∧ (∀ j a, mget j q.res = some a -> a ≠ 0) ∧ q.lets k = (q, [], false)) ∨
  (mget k q.res = none ∧ ¬ (q.most <= (q.res.length : Int) ∧ ∀ j a, mget j q.res = some a -> a ≠ 0) ∧ (q.lets k).2.2 = true ∧ Came q k (q.lets k).1 (q.lets k).2.1) := by
 obtain ⟨t1, t2, t3, t4⟩ := touch_good h k
 by_cases ht : (q.touch k).2 = true
 ·refine .inl ⟨by rw [<- t3]; exact ht, ?_⟩
  unfold lets; rw [if_pos ht]
 ·have hno : mget k q.res = none := by
   rw [t3] at ht
   cases hg : mget k q.res with
   | none => rfl
   | some a => rw [hg] at ht; exact absurd rfl ht
  right
  have hlen : q.count Pg.resident = q.res.length := (res_len q).symm
  have hfi := qjg h
  by_cases hc : (q.count Pg.resident : Int) ≥ q.most ∧ q.count Pg.free = 0
  ·refine .inl ⟨hno, by rw [<- hlen]; exact hc.1, hfi.1 hc.2, ?_⟩
   unfold lets; rw [if_neg ht, if_pos hc]
  ·refine .inr ⟨hno, fun hh => hc ⟨by rw [hlen]; exact hh.1, hfi.2 hh.2⟩, ?_⟩
   unfold lets
   rw [if_neg ht, if_neg hc]
   refine ⟨rfl, ?_⟩
   dsimp only
   cases hf : q.find k with
   | none => exact ir h (ia hf) hc (p := ⟨k, 2, false, true, 0⟩) rfl rfl rfl ⟨.inr (.inl rfl), Uu 0, fun e => by cases e⟩
   | some i =>
    obtain ⟨p, hp, hk⟩ := uv hf
    have hg := ul h hf hp
    rw [hno] at hg
    have hr : p.resident = false := by
     cases hr : p.resident with
     | false => rfl
     | true => rw [hr] at hg; cases hg
    have hgo := h.goes hp
    have hres : ((q.goes i).aim 1).res = q.res := xx hp hr
    have hq1 : ((q.goes i).aim 1).Good := ⟨hgo.wf.aim 1, hgo.res, hgo.tests, hgo.nodup⟩
    have hfr : ((q.goes i).aim 1).count Pg.free = q.count Pg.free := by rw [<- yq, <- yq, hres]
    have hct : ((q.goes i).aim 1).count Pg.resident = q.count Pg.resident := by rw [<- res_len, <- res_len, hres]
    have hcm := ir hq1 (k := k) (by rw [<- hk]; exact ei h.nodup hp) (by rw [hfr, hct]; exact hc) (p := ⟨k, 1, false, false, 0⟩) rfl rfl rfl ⟨.inl rfl, Uu 0, fun e => by cases e⟩
    have ho := hcm.others
    rw [hres] at ho
    exact ⟨hcm.good, hcm.most, hcm.here, ho⟩
end Clk
end
section
theorem nodup_sub_len {α : Type} [DecidableEq α] : ∀ {l m : List α}, l.Nodup -> (∀ x ∈ l, x ∈ m) -> l.length <= m.length
 | [], _, _, _ => Ud _
 | a :: l, m, hn, hs => by
  have hn' := Vw.1 hn
  have ha := hs a (Ub ..)
  have := nodup_sub_len (m := m.erase a) hn'.2 fun x hx => (List.mem_erase_of_ne (by rintro rfl; exact hn'.1 hx)).2 (hs x (Ue _ hx))
  rw [Wy ha] at this
  have hp := List.length_pos_of_mem ha
  rw [Ui]; omega
namespace Cac
abbrev pins (C : Cac) (k : Key3) : Option Int := mget k C.clk.res
structure Good (C : Cac) (N : Int) : Prop where
 clk : C.clk.Good
 big : ∀ k a, C.pins k = some a -> a <= N
 nodup : (keys C.rows).Nodup
 same : ∀ k, (mget k C.rows).isSome = (C.pins k).isSome
 rows : ∀ k L, mget k C.rows = some L -> L.length <= 1073741824
variable {C : Cac} {N : Int}
theorem Good.ge (h : C.Good N) {k : Key3} {a : Int} (hk : C.pins k = some a) : 0 <= a := by
 obtain ⟨p, hp, _, _, rfl⟩ := Clk.mem_res.1 ((gh h.clk.resNodup).1 hk)
 exact (h.clk.wf.kinds p hp).2.1
theorem Good.mono (h : C.Good N) {M : Int} (hM : N <= M) : C.Good M := ⟨h.clk, fun k a hk => by have := h.big k a hk; omega, h.nodup, h.same, h.rows⟩
theorem Good.ok (h : C.Good N) (hN : N <= 1099511627776) : C.Ok := by
 refine ⟨h.clk.wf, by have := h.clk.len; omega, h.clk.count, fun p hp => ?_, h.rows⟩
 have ho := h.clk.wf.kinds p hp
 refine ⟨ho.2.1, ?_⟩
 by_cases hr : p.resident = true
 ·have := h.big p.key p.pins ((gh h.clk.resNodup).2 (Clk.mem_res.2 ⟨p, hp, hr, rfl, rfl⟩))
  omega
 ·have h3 : p.kind = 3 := by
   rcases ho.1 with e | e | e
   ·exact absurd (by simp [Pg.resident, e]) hr
   ·exact absurd (by simp [Pg.resident, e]) hr
   ·exact e
  rw [ho.2.2 h3]; decide
theorem Good.row (h : C.Good N) {k : Key3} {a : Int} (hk : C.pins k = some a) : ∃ L, mget k C.rows = some L := by
 have := h.same k
 rw [hk] at this
 exact Vp.1 this
theorem Good.norow (h : C.Good N) {k : Key3} (hk : C.pins k = none) : mget k C.rows = none := by
 have := h.same k
 rw [hk] at this
 simpa using this
theorem Good.frames (h : C.Good N) : C.rows.length = C.clk.res.length := by
 have key : ∀ k, k ∈ keys C.rows ↔ k ∈ keys C.clk.res := fun k => by
  have := h.same k
  have h1 := mget_none (k := k) (m := C.rows)
  have h2 := mget_none (k := k) (m := C.clk.res)
  cases ha : mget k C.rows with
  | none =>
   rw [ha] at this
   have hb : C.pins k = none := by simpa using this.symm
   exact ⟨fun hx => absurd hx (h1.1 ha), fun hx => absurd hx (h2.1 hb)⟩
  | some L =>
   rw [ha] at this
   have hb : mget k C.clk.res ≠ none := fun e => by rw [show C.pins k = none from e] at this; cases this
   refine ⟨fun _ => ?_, fun _ => ?_⟩
   ·by_cases hx : k ∈ keys C.clk.res
    ·exact hx
    ·exact absurd (h2.2 hx) hb
   ·by_cases hx : k ∈ keys C.rows
    ·exact hx
    ·rw [h1.2 hx] at ha; cases ha
 have e1 := nodup_sub_len h.nodup fun k hk => (key k).1 hk
 have e2 := nodup_sub_len h.clk.resNodup fun k hk => (key k).2 hk
 unfold keys at e1 e2
 simp only [Ve] at e1 e2
 omega
theorem new_good (n : Int) : (Cac.new n).Good 0 := ⟨Clk.new_good n, fun k a h => (by cases h), Zw, fun k => rfl, fun k L h => (by cases h)⟩
theorem get_good (h : C.Good N) (k : Key3) : (C.get k).1.Good N ∧ (C.get k).1.clk.res = C.clk.res ∧ (C.get k).1.rows = C.rows ∧ (C.get k).2 = mget k C.rows ∧ (C.get k).1.clk.most = C.clk.most := by
 obtain ⟨t1, t2, t3, t4⟩ := Clk.touch_good h.clk k
 unfold get
 by_cases ht : (C.clk.touch k).2 = true
 ·rw [if_pos ht]
  rw [t3] at ht
  obtain ⟨a, ha⟩ := Vp.1 ht
  obtain ⟨L, hL⟩ := h.row ha
  refine ⟨⟨t1, fun j b hj => h.big j b (by unfold pins at hj ⊢; rw [<- t2]; exact hj), h.nodup, fun j => by show _ = (mget j (C.clk.touch k).1.res).isSome; rw [t2]; exact h.same j, h.rows⟩, t2, rfl, by dsimp only; rw [hL]; rfl, t4⟩
 ·rw [if_neg ht]
  rw [t3] at ht
  refine ⟨h, rfl, rfl, ?_, rfl⟩
  exact (h.norow (by cases hx : C.pins k with | none => rfl | some a => exact absurd (by unfold pins at hx; rw [hx]; rfl) ht)).symm
theorem get_pins (h : C.Good N) (k j : Key3) : (C.get k).1.pins j = C.pins j := by unfold pins; rw [(get_good h k).2.1]
theorem pin_some (h : C.Good N) {k : Key3} {a : Int} (n : Int) (hk : C.pins k = some a) : (C.pinN k n).2 = true ∧ (C.pinN k n).1.rows = C.rows ∧ (C.pinN k n).1.clk.most = C.clk.most ∧ (C.pinN k n).1.clk.res = mset k (max (a + n) 0) C.clk.res ∧ (C.pinN k n).1.Good (max N (a + n)) := by
 obtain ⟨p1, p2, p3, p4⟩ := Clk.pin_good h.clk k n
 have hk' : mget k C.clk.res = some a := hk
 rw [hk'] at p3 p4
 have e : C.pinN k n = (⟨(C.clk.pin k n).1, C.rows⟩, true) := by unfold pinN; rw [p3]; rfl
 rw [e]
 have hge := h.ge hk
 have hle := h.big k a hk
 refine ⟨rfl, rfl, p2, p4, p1, fun j b hj => ?_, h.nodup, fun j => ?_, h.rows⟩
 ·have hj' : mget j (C.clk.pin k n).1.res = some b := hj
  rw [p4] at hj'
  dsimp only at hj'
  rw [jq] at hj'
  split at hj'
  ·have := Uk hj'; omega
  ·have := h.big j b hj'; omega
 ·show _ = (mget j (C.clk.pin k n).1.res).isSome
  rw [p4]
  dsimp only
  rw [jq]
  split
  ·rename_i hj; subst hj; rw [h.same j]; unfold pins; rw [hk']; rfl
  ·exact h.same j
theorem pin_at (h : C.Good N) {k : Key3} {a : Int} (n : Int) (hk : C.pins k = some a) (j : Key3) : (C.pinN k n).1.pins j = if j = k then some (max (a + n) 0) else C.pins j := by
 unfold pins; rw [(pin_some h n hk).2.2.2.1, jq]
theorem mh (h : C.Good N) {k : Key3} {a : Int} (hk : C.pins k = some a) : ∃ p, C.clk.page k = some p ∧ p.pins = a := by
 obtain ⟨i, p, h1, h2, h3⟩ := (Clk.page_good h.clk k).1 a hk
 exact ⟨p, by unfold Clk.page; rw [h1]; exact h2, h3⟩
theorem unpin_pos (h : C.Good N) {k : Key3} {a : Int} (hk : C.pins k = some a) (ha : 0 < a) : C.unpin k = C.pinN k (-1) := by
 obtain ⟨p, hp, he⟩ := mh h hk
 unfold unpin; rw [hp]; dsimp only; rw [if_pos O0]
theorem drop_zero (h : C.Good N) {k : Key3} (hk : C.pins k = some 0) : (C.drop k).2 = true ∧ (C.drop k).1.clk.most = C.clk.most ∧ (C.drop k).1.rows = mdel k C.rows ∧ (∀ j, (C.drop k).1.pins j = if j = k then none else C.pins j) ∧ (C.drop k).1.Good N := by
 obtain ⟨p, hp, he⟩ := mh h hk
 obtain ⟨d1, d2, d3⟩ := Clk.drop_good h.clk k
 have e : C.drop k = (⟨(C.clk.drop k).1, mdel k C.rows⟩, true) := by unfold drop; rw [hp]; dsimp only; rw [if_neg O0]
 rw [e]
 refine ⟨rfl, d2, rfl, d3, d1, fun j b hj => ?_, ky h.nodup, fun j => ?_, fun j L hj => ?_⟩
 ·have hj' := d3 j
  rw [show mget j (C.clk.drop k).1.res = some b from hj] at hj'
  split at hj'
  ·cases hj'
  ·exact h.big j b hj'.symm
 ·show (mget j (mdel k C.rows)).isSome = (mget j (C.clk.drop k).1.res).isSome
  rw [d3, j3 _ _ _ h.nodup]
  split
  ·rfl
  ·exact h.same j
 ·dsimp only at hj
  rw [j3 _ _ _ h.nodup] at hj
  split at hj
  ·cases hj
  ·exact h.rows j L hj
theorem put_same (h : C.Good N) {k : Key3} {a : Int} {L : List Smp} (hL : L.length <= 1073741824) (hk : C.pins k = some a) : (C.put k L).2 = true ∧ (C.put k L).1.clk.res = C.clk.res ∧ (C.put k L).1.rows = mset k L C.rows ∧ (C.put k L).1.clk.most = C.clk.most ∧ (C.put k L).1.Good N := by
 obtain ⟨t1, t2, t3, t4⟩ := Clk.touch_good h.clk k
 have hk' : mget k C.clk.res = some a := hk
 have ha : C.clk.lets k = ((C.clk.touch k).1, [], true) := by
  rcases Clk.admit_cases h.clk k with ⟨_, e⟩ | ⟨e, _⟩ | ⟨e, _⟩
  ·exact e
  ·rw [hk'] at e; cases e
  ·rw [hk'] at e; cases e
 have e : C.put k L = (⟨(C.clk.touch k).1, mset k L C.rows⟩, true) := by unfold put; rw [ha]; rfl
 rw [e]
 refine ⟨rfl, t2, rfl, t4, t1, fun j b hj => h.big j b (by unfold pins at hj ⊢; rw [<- t2]; exact hj), gn h.nodup, fun j => ?_, fun j M hj => ?_⟩
 ·show (mget j (mset k L C.rows)).isSome = (mget j (C.clk.touch k).1.res).isSome
  rw [t2, jq]
  split
  ·rename_i hj; subst hj; rw [hk']; rfl
  ·exact h.same j
 ·dsimp only at hj
  rw [jq] at hj
  split at hj
  ·cases hj; exact hL
  ·exact h.rows j M hj
theorem put_full (h : C.Good N) {k : Key3} {L : List Smp} (hk : C.pins k = none) (h1 : C.clk.most <= (C.clk.res.length : Int)) (h2 : ∀ j a, C.pins j = some a -> a ≠ 0) : C.put k L = (C, false) := by
 have ha : C.clk.lets k = (C.clk, [], false) := by
  rcases Clk.admit_cases h.clk k with ⟨e, _⟩ | ⟨_, _, _, e⟩ | ⟨_, e, _⟩
  ·rw [show mget k C.clk.res = none from hk] at e; cases e
  ·exact e
  ·exact absurd ⟨h1, h2⟩ e
 unfold put; rw [ha]; rfl
structure PutIn (C : Cac) (k : Key3) (L : List Smp) (C' : Cac) (N : Int) : Prop where
 good : C'.Good N
 most : C'.clk.most = C.clk.most
 here : C'.pins k = some 0
 row : mget k C'.rows = some L
 others : ((C.clk.res.length : Int) < C.clk.most ∧ C'.rows = mset k L C.rows ∧ ∀ j, j ≠ k -> C'.pins j = C.pins j) ∨ (C.clk.most <= (C.clk.res.length : Int) ∧ ∃ k0, k0 ≠ k ∧ C.pins k0 = some 0 ∧ C'.rows = mset k L (mdel k0 C.rows) ∧ ∀ j, j ≠ k -> C'.pins j = if j = k0 then none else C.pins j)
theorem PutIn.pinned {k : Key3} {L : List Smp} {C' : Cac} (h : PutIn C k L C' N) {j : Key3} {a : Int} (hj : j ≠ k) (hp : C.pins j = some a) (ha : a ≠ 0) : C'.pins j = some a := by
 rcases h.others with ⟨_, _, h1⟩ | ⟨_, k0, h0, h2, _, h1⟩
 ·rw [h1 j hj, hp]
 ·rw [h1 j hj]
  split
  ·rename_i e; subst e; rw [hp] at h2; exact absurd (Uk h2) ha
  ·exact hp
theorem PutIn.from_ {k : Key3} {L : List Smp} {C' : Cac} (h : PutIn C k L C' N) {j : Key3} {a : Int} (hj : j ≠ k) (hp : C'.pins j = some a) : C.pins j = some a := by
 rcases h.others with ⟨_, _, h1⟩ | ⟨_, k0, h0, h2, _, h1⟩
 ·rw [<- h1 j hj, hp]
 ·rw [h1 j hj] at hp
  split at hp
  ·cases hp
  ·exact hp
theorem PutIn.rowOf {k : Key3} {L : List Smp} {C' : Cac} (hC : C.Good N) (h : PutIn C k L C' N) {j : Key3} {a : Int} (hj : j ≠ k) (hp : C'.pins j = some a) : mget j C'.rows = mget j C.rows := by
 rcases h.others with ⟨_, e, h1⟩ | ⟨_, k0, h0, h2, e, h1⟩
 ·rw [e, jq, if_neg hj]
 ·rw [e, jq, if_neg hj, j3 _ _ _ hC.nodup, if_neg]
  rintro rfl
  rw [h1 j hj, if_pos rfl] at hp; cases hp
theorem put_in (h : C.Good N) (hN : 0 <= N) {k : Key3} {L : List Smp} (hL : L.length <= 1073741824) (hk : C.pins k = none) (h1 : ¬ (C.clk.most <= (C.clk.res.length : Int) ∧ ∀ j a, C.pins j = some a -> a ≠ 0)) : (C.put k L).2 = true ∧ PutIn C k L (C.put k L).1 N := by
 obtain ⟨a2, hc⟩ : (C.clk.lets k).2.2 = true ∧ Clk.Came C.clk k (C.clk.lets k).1 (C.clk.lets k).2.1 := by
  rcases Clk.admit_cases h.clk k with ⟨e, _⟩ | ⟨_, e1, e2, _⟩ | ⟨_, _, e⟩
  ·rw [show mget k C.clk.res = none from hk] at e; cases e
  ·exact absurd ⟨e1, e2⟩ h1
  ·exact e
 have e : C.put k L = (⟨(C.clk.lets k).1, mset k L (dels C.rows (C.clk.lets k).2.1)⟩, true) := by unfold put; rw [a2]; rfl
 rw [e]
 refine ⟨rfl, ?_⟩
 have hrow := h.norow hk
 have key : ∀ R : List (Key3 × List Smp), (keys R).Nodup -> (∀ j, j ≠ k -> (mget j R).isSome = (mget j (C.clk.lets k).1.res).isSome) -> (∀ j M, mget j R = some M -> M.length <= 1073741824) -> Good ⟨(C.clk.lets k).1, mset k L R⟩ N := by
  intro R hR hs hl
  refine ⟨hc.good, fun j b hj => ?_, gn hR, fun j => ?_, fun j M hj => ?_⟩
  ·have hj' : mget j (C.clk.lets k).1.res = some b := hj
   by_cases e : j = k
   ·subst e; rw [hc.here] at hj'; cases hj'; exact hN
   ·rcases hc.others with ⟨_, _, ho⟩ | ⟨_, k0, _, _, _, ho⟩
    ·exact h.big j b ((ho j e).symm.trans hj')
    ·rw [ho j e] at hj'
     split at hj'
     ·cases hj'
     ·exact h.big j b hj'
  ·show (mget j (mset k L R)).isSome = (mget j (C.clk.lets k).1.res).isSome
   rw [jq]
   split
   ·rename_i e; subst e; rw [hc.here]; rfl
   ·rename_i e; exact hs j e
  ·dsimp only at hj
   rw [jq] at hj
   split at hj
   ·cases hj; exact hL
   ·exact hl j M hj
 rcases hc.others with ⟨o1, o2, o3⟩ | ⟨o1, k0, o2, o3, o4, o5⟩
 ·rw [o2]
  refine ⟨key C.rows h.nodup (fun j hj => by rw [o3 j hj]; exact h.same j) h.rows, hc.most, hc.here, ?_, .inl ⟨o1, rfl, o3⟩⟩
  show mget k (mset k L C.rows) = some L
  rw [jq, if_pos rfl]
 ·rw [o2]
  have hd : dels C.rows [k0] = mdel k0 C.rows := rfl
  rw [hd]
  refine ⟨key _ (ky h.nodup) (fun j hj => ?_) (fun j M hj => ?_), hc.most, hc.here, ?_, .inr ⟨o1, k0, o3, o4, rfl, o5⟩⟩
  ·rw [o5 j hj, j3 _ _ _ h.nodup]
   split
   ·rfl
   ·exact h.same j
  ·rw [j3 _ _ _ h.nodup] at hj
   split at hj
   ·cases hj
   ·exact h.rows j M hj
  ·show mget k (mset k L (mdel k0 C.rows)) = some L
   rw [jq, if_pos rfl]
theorem put_good (h : C.Good N) (hN : 0 <= N) {k : Key3} {L : List Smp} (hL : L.length <= 1073741824) : (C.put k L).1.Good N := by
 cases hk : C.pins k with
 | some a => exact (put_same h hL hk).2.2.2.2
 | none =>
  by_cases hc : C.clk.most <= (C.clk.res.length : Int) ∧ ∀ j a, C.pins j = some a -> a ≠ 0
  ·rw [put_full h hk hc.1 hc.2]; exact h
  ·exact (put_in h hN hL hk hc).2.good
end Cac
end
end Go.Hw
namespace Go.Proofs.YtngdfdangkdgcaaGreatDoor
open Go.Hw _root_.Go.Proofs.Tryz
section
def m4 (n : Nat) : Nat := max 1 ((n + 3) / 4)
theorem m4_le (n : Nat) (h : n <= 4) : m4 n = 1 := by unfold m4; omega
theorem m4_gt (n : Nat) (h : 4 < n) : m4 n = m4 (n - 4) + 1 := by unfold m4; omega
namespace Tk
structure PhA (x : Tk) : Prop where
 d : x.d = none
 dec : x.dec = false
 pin : x.pin = false
 done : x.done = false
 row : x.row = []
 out : x.out = []
structure PhB (c : List UInt8) (r : Nat) (bad : Bool) (x : Tk) : Prop where
 d : ∃ d, x.d = some d ∧ d.bs = c ∧ d.on = ⟨true, false, r, bad⟩
 dec : x.dec = false
 pin : x.pin = false
 done : x.done = false
 row : x.row = []
 out : x.out = []
structure PhC (o : Option (List Smp)) (x : Tk) : Prop where
 d : ∃ d, x.d = some d ∧ d.told = o
 dec : x.dec = true
 pin : x.pin = false
 done : x.done = false
 row : x.row = []
 out : x.out = []
structure PhD (w : List Smp) (x : Tk) : Prop where
 pin : x.pin = true
 done : x.done = false
 row : x.row = w
 out : x.out = w.take x.i
 i : x.i <= w.length
structure PhE (w : List Smp) (x : Tk) : Prop where
 pin : x.pin = false
 done : x.done = true
 row : x.row = w
 out : x.out = w
variable {x : Tk} {S : Sto} {C : Cac}
theorem new_A (s f b fr to : Int) : (Tk.new s f b fr to).PhA := ⟨rfl, rfl, rfl, rfl, rfl, rfl⟩
theorem qjv {k : Key3} (h : (C.get k).2 = none) : (C.get k).1 = C := by
 unfold Cac.get at h ⊢
 split at h
 ·cases h
 ·rename_i h1; rw [if_neg h1]
theorem stepA (h : x.PhA) : x.step S C = x.begin_ S C := by unfold step; rw [h.done, h.pin, h.d]; rfl
theorem pinned_D (L : List Smp) (hd : x.done = false) (ho : x.out = []) : (x.pinned L).PhD (within L x.fr x.to) := ⟨rfl, hd, rfl, by show x.out = (within L x.fr x.to).take 0; rw [ho]; rfl, Ud _⟩
theorem stepA_hit (h : x.PhA) {L : List Smp} (hg : (C.get x.key).2 = some L) : x.step S C = (x.pinned L, ((C.get x.key).1.pinN x.key 1).1, 0) := by rw [stepA h]; unfold begin_; rw [hg]
theorem stepA_miss (h : x.PhA) (hg : (C.get x.key).2 = none) {e : Kept} (hb : mget x.key.blob S.l = some e) : x.step S C = ({ x with d := some (Dcd.new e.bs) }, C, 0) ∧ Tk.PhB e.bs (decL e.bs).length (!(chOpen e.bs).isSome) { x with d := some (Dcd.new e.bs) } := by
 refine ⟨?_, ⟨_, rfl, rfl, rfl⟩, h.dec, h.pin, h.done, h.row, h.out⟩
 rw [stepA h]; unfold begin_; rw [hg]; dsimp only; rw [hb, qjv hg]
theorem stepB {c : List UInt8} {r : Nat} {bad : Bool} (h : x.PhB c r bad) : ∃ x', x.step S C = (x', C, 0) ∧ x'.key = x.key ∧ x'.fr = x.fr ∧ x'.to = x.to ∧ (4 < r -> x'.PhB c (r - 4) bad) ∧ (r <= 4 -> x'.PhC (if bad then none else some (decL c))) := by
 obtain ⟨d, h1, h2, h3⟩ := h.d
 have e : x.step S C = ({ x with d := some (d.step 4), dec := !(d.more 4) }, C, 0) := by unfold step; rw [h.done, h.pin, h1]; dsimp only; rw [h.dec]; rfl
 have c4 : clampN 4 = 4 := by decide
 have hs : (d.step 4).s = ⟨true, decide ((r : Int) - 4 <= 0), (r : Int) - 4, bad⟩ := by unfold Dcd.step; rw [h3]; unfold WkS.step; rw [c4]; rfl
 have hm : d.more 4 = !decide ((r : Int) - 4 <= 0) := by unfold Dcd.more; rw [h3]; unfold WkS.more; rw [c4]; rfl
 refine ⟨_, e, rfl, rfl, rfl, fun hr => ?_, fun hr => ?_⟩
 ·have hd : decide ((r : Int) - 4 <= 0) = false := decide_eq_false O0
  rw [hd] at hs hm
  refine ⟨⟨_, rfl, h2, ?_⟩, by rw [hm]; rfl, h.pin, h.done, h.row, h.out⟩
  unfold Dcd.on
  rw [hs]
  show (⟨true, false, (r : Int) - 4, bad⟩ : WkS) = _
  congr 1
  omega
 ·have hd : decide ((r : Int) - 4 <= 0) = true := decide_eq_true O0
  rw [hd] at hs hm
  refine ⟨⟨_, rfl, ?_⟩, by rw [hm]; rfl, h.pin, h.done, h.row, h.out⟩
  have hb : (d.step 4).bs = c := h2
  unfold Dcd.told Dcd.rows
  rw [hs, hb]
  cases bad <;> rfl
def putRes (x : Tk) (C : Cac) : Option (List Smp) -> Tk × Cac × Int
 | none => (x, C, 7)
 | some L => if (C.put x.key L).2 then (x.pinned L, ((C.put x.key L).1.pinN x.key 1).1, 0) else (x, (C.put x.key L).1, 6)
theorem stepC {o : Option (List Smp)} (h : x.PhC o) : x.step S C = putRes x C o := by
 obtain ⟨d, h1, h2⟩ := h.d
 unfold step; rw [h.done, h.pin, h1]; dsimp only; rw [h.dec]
 show x.put d C = _
 unfold put
 rw [h2]
 cases o <;> rfl
theorem stepD {w : List Smp} (h : x.PhD w) : ∃ x', x'.key = x.key ∧ x'.fr = x.fr ∧ x'.to = x.to ∧ x'.d = x.d ∧ (4 < w.length - x.i -> x'.PhD w ∧ x'.i = x.i + 4 ∧ x.step S C = (x', C, 0)) ∧ (w.length - x.i <= 4 -> x'.PhE w ∧ x.step S C = (x', (C.unpin x.key).1, 0)) := by
 have e0 : x.step S C = if x.take4.rest.length = 0 then ({ x.take4 with pin := false, done := true }, (C.unpin x.key).1, 0) else (x.take4, C, 0) := by unfold step; rw [h.done, h.pin]; rfl
 have hrl : x.rest.length = w.length - x.i := by unfold rest; rw [Uq, h.row]
 have hi := h.i
 have hti : x.take4.i = x.i + min 4 x.rest.length := rfl
 have htl : x.take4.rest.length = w.length - (x.i + min 4 x.rest.length) := by show (x.row.drop (x.i + min 4 x.rest.length)).length = _; rw [Uq, h.row]
 have hto : x.take4.out = w.take (x.i + min 4 x.rest.length) := by
  show x.out ++ x.rest.take (min 4 x.rest.length) = _
  rw [h.out, List.take_add]
  unfold rest
  rw [h.row]
 by_cases hc : 4 < w.length - x.i
 ·rw [if_neg O0] at e0
  have hmin : min 4 x.rest.length = 4 := by omega
  rw [hmin] at hti hto
  refine ⟨x.take4, rfl, rfl, rfl, rfl, fun _ => ⟨⟨h.pin, h.done, h.row, by rw [hto, hti], by rw [hti]; omega⟩, hti, e0⟩, fun hh => by omega⟩
 ·rw [if_pos O0] at e0
  refine ⟨{ x.take4 with pin := false, done := true }, rfl, rfl, rfl, rfl, fun hh => absurd hh hc, fun _ => ⟨⟨rfl, rfl, h.row, ?_⟩, e0⟩⟩
  show x.take4.out = w
  rw [hto, Uv O0]
theorem stepE {w : List Smp} (h : x.PhE w) : x.step S C = (x, C, 0) := by unfold step; rw [h.done]; rfl
end Tk
structure Rn0 where
 key : Key3
 fr : Int
 to : Int
 c : List UInt8
 L : List Smp
 C0 : Cac
namespace Rn0
def hit (R : Rn0) : Bool := (R.C0.get R.key).2.isSome
def land (R : Rn0) : Cac := if R.hit then ((R.C0.get R.key).1.pinN R.key 1).1 else ((R.C0.put R.key R.L).1.pinN R.key 1).1
def fin (R : Rn0) : Cac := (R.land.unpin R.key).1
def w (R : Rn0) : List Smp := within R.L R.fr R.to
structure Ok (R : Rn0) (S : Sto) : Prop where
 opens : (chOpen R.c).map Prod.fst = some R.L
 blob : ∃ e, mget R.key.blob S.l = some e ∧ e.bs = R.c
 was : ∀ M, (R.C0.get R.key).2 = some M -> M = R.L
 room : R.hit = false -> (R.C0.put R.key R.L).2 = true
 len : R.L.length <= 65535
def Ph (R : Rn0) (k : Nat) (x : Tk) (C : Cac) : Prop := x.key = R.key ∧ x.fr = R.fr ∧ x.to = R.to ∧
 ((x.PhA ∧ C = R.C0 ∧ k = if R.hit then 1 + m4 R.w.length else 1 + m4 R.L.length + 1 + m4 R.w.length) ∨
  (∃ r, x.PhB R.c r false ∧ C = R.C0 ∧ R.hit = false ∧ k = m4 r + 1 + m4 R.w.length) ∨
  (x.PhC (some R.L) ∧ C = R.C0 ∧ R.hit = false ∧ k = 1 + m4 R.w.length) ∨
  (x.PhD R.w ∧ C = R.land ∧ k = m4 (R.w.length - x.i)) ∨
  (x.PhE R.w ∧ C = R.fin ∧ k = 0))
variable {R : Rn0} {S : Sto} {x : Tk} {C : Cac}
theorem m4_pos (n : Nat) : 1 <= m4 n := by unfold m4; omega
theorem Ph.zero {k : Nat} (h : R.Ph k x C) : (k = 0 ↔ x.done = true) ∧ (k = 0 -> x.PhE R.w ∧ C = R.fin) := by
 have h1 := m4_pos R.w.length
 have h2 := m4_pos (R.w.length - x.i)
 rcases h.2.2.2 with ⟨a, b, c⟩ | ⟨r, a, b, c, d⟩ | ⟨a, b, c, d⟩ | ⟨a, b, c⟩ | ⟨a, b, c⟩
 ·have hk : k ≠ 0 := by split at c <;> omega
  exact ⟨⟨fun e => absurd e hk, fun e => by rw [a.done] at e; cases e⟩, fun e => absurd e hk⟩
 ·have hk : k ≠ 0 := by omega
  exact ⟨⟨fun e => absurd e hk, fun e => by rw [a.done] at e; cases e⟩, fun e => absurd e hk⟩
 ·have hk : k ≠ 0 := by omega
  exact ⟨⟨fun e => absurd e hk, fun e => by rw [a.done] at e; cases e⟩, fun e => absurd e hk⟩
 ·have hk : k ≠ 0 := by omega
  exact ⟨⟨fun e => absurd e hk, fun e => by rw [a.done] at e; cases e⟩, fun e => absurd e hk⟩
 ·exact ⟨⟨fun _ => a.done, fun _ => c⟩, fun _ => ⟨a, b⟩⟩
theorem Ph.step {k : Nat} (hR : R.Ok S) (h : R.Ph k x C) : (x.step S C).2.2 = 0 ∧ R.Ph (k - 1) (x.step S C).1 (x.step S C).2.1 := by
 obtain ⟨k1, k2, k3, h⟩ := h
 obtain ⟨e, he, heb⟩ := hR.blob
 have hdl : decL R.c = R.L := by unfold decL; rw [hR.opens]; rfl
 have hsome : (chOpen R.c).isSome = true := by have := hR.opens; cases hx : chOpen R.c with | none => rw [hx] at this; cases this | some y => rfl
 rcases h with ⟨a, b, c⟩ | ⟨r, a, b, c, d⟩ | ⟨a, b, c, d⟩ | ⟨a, b, c⟩ | ⟨a, b, c⟩
 ·subst b
  cases hg : (R.C0.get R.key).2 with
  | some M =>
   obtain rfl := hR.was M hg
   have hh : R.hit = true := by unfold hit; rw [hg]; rfl
   rw [if_pos hh] at c
   rw [Tk.stepA_hit a (by rw [k1]; exact hg)]
   refine ⟨rfl, k1, k2, k3, .inr (.inr (.inr (.inl ⟨?_, ?_, ?_⟩)))⟩
   ·have := Tk.pinned_D (x := x) R.L a.done a.out
    rw [k2, k3] at this; exact this
   ·show _ = R.land; unfold land; rw [if_pos hh, k1]
   ·show _ = m4 (R.w.length - 0); rw [Nat.sub_zero]; omega
  | none =>
   have hh : R.hit = false := by unfold hit; rw [hg]; rfl
   rw [hh, if_neg O8] at c
   obtain ⟨e1, e2⟩ := Tk.stepA_miss (S := S) a (by rw [k1]; exact hg) (by rw [k1]; exact he)
   rw [e1]
   rw [heb, hdl, hsome] at e2
   refine ⟨rfl, k1, k2, k3, .inr (.inl ⟨R.L.length, ?_, rfl, hh, O_o⟩)⟩
   rw [heb]; exact e2
 ·subst b
  obtain ⟨x', e1, e2, e3, e4, e5, e6⟩ := Tk.stepB (S := S) (C := R.C0) a
  rw [e1]
  refine ⟨rfl, e2.trans k1, e3.trans k2, e4.trans k3, ?_⟩
  by_cases hr : 4 < r
  ·have := m4_gt r hr
   exact .inr (.inl ⟨r - 4, e5 hr, rfl, c, O_o⟩)
  ·have := m4_le r O0
   have h6 := e6 O0
   rw [hdl] at h6
   exact .inr (.inr (.inl ⟨h6, rfl, c, O_o⟩))
 ·subst b
  have hp := hR.room c
  have e1 : x.step S R.C0 = if (R.C0.put x.key R.L).2 then (x.pinned R.L, ((R.C0.put x.key R.L).1.pinN x.key 1).1, 0) else (x, (R.C0.put x.key R.L).1, 6) := Tk.stepC a
  rw [k1, if_pos hp] at e1
  rw [e1]
  refine ⟨rfl, k1, k2, k3, .inr (.inr (.inr (.inl ⟨?_, ?_, ?_⟩)))⟩
  ·have := Tk.pinned_D (x := x) R.L a.done a.out
   rw [k2, k3] at this; exact this
  ·show _ = R.land; unfold land; rw [c]; rfl
  ·show _ = m4 (R.w.length - 0); rw [Nat.sub_zero]; omega
 ·subst b
  obtain ⟨x', e1, e2, e3, _, e4, e5⟩ := Tk.stepD (S := S) (C := R.land) a
  by_cases hr : 4 < R.w.length - x.i
  ·obtain ⟨f1, f2, f3⟩ := e4 hr
   have := m4_gt _ hr
   rw [f3]
   exact ⟨rfl, e1.trans k1, e2.trans k2, e3.trans k3, .inr (.inr (.inr (.inl ⟨f1, rfl, by show _ = m4 (R.w.length - x'.i); rw [f2, show R.w.length - (x.i + 4) = R.w.length - x.i - 4 by omega]; omega⟩)))⟩
  ·obtain ⟨f1, f3⟩ := e5 O0
   have := m4_le _ (show R.w.length - x.i <= 4 by omega)
   rw [f3]
   exact ⟨rfl, e1.trans k1, e2.trans k2, e3.trans k3, .inr (.inr (.inr (.inr ⟨f1, by show _ = R.fin; unfold fin; rw [k1], O_o⟩)))⟩
 ·rw [Tk.stepE a]
  exact ⟨rfl, k1, k2, k3, .inr (.inr (.inr (.inr ⟨a, b, O_o⟩)))⟩
theorem w_len : R.w.length <= R.L.length := Wx _ _
theorem Ph.size {k : Nat} (hR : R.Ok S) (h : R.Ph k x C) : x.row.length + x.out.length <= 200000 := by
 have h1 := hR.len
 have h2 : R.w.length <= R.L.length := w_len
 rcases h.2.2.2 with ⟨a, _⟩ | ⟨r, a, _⟩ | ⟨a, _⟩ | ⟨a, _⟩ | ⟨a, _⟩
 ·rw [a.row, a.out]; exact Ud _
 ·rw [a.row, a.out]; exact Ud _
 ·rw [a.row, a.out]; exact Ud _
 ·rw [a.row, a.out, Us]; omega
 ·rw [a.row, a.out]; omega
end Rn0
end
end Go.Proofs.YtngdfdangkdgcaaGreatDoor
namespace Go.Hw.Cac
variable {C : Cac} {N : Int}
theorem Good.tight {M : Int} (h : C.Good M) (hb : ∀ k a, C.pins k = some a -> a <= N) : C.Good N := ⟨h.clk, hb, h.nodup, h.same, h.rows⟩
theorem pin_unpin (h : C.Good N) {k : Key3} {a : Int} (hk : C.pins k = some a) : (C.pinN k 1).1.Good (N + 1) ∧ (C.pinN k 1).1.pins k = some (a + 1) ∧ (C.pinN k 1).1.rows = C.rows ∧ (C.pinN k 1).1.clk.most = C.clk.most ∧ (∀ j, j ≠ k -> (C.pinN k 1).1.pins j = C.pins j) ∧
  ((C.pinN k 1).1.unpin k).1.Good N ∧ ((C.pinN k 1).1.unpin k).1.rows = C.rows ∧ ((C.pinN k 1).1.unpin k).1.clk.most = C.clk.most ∧ ∀ j, ((C.pinN k 1).1.unpin k).1.pins j = C.pins j := by
 have hge := h.ge hk
 have hle := h.big k a hk
 obtain ⟨p1, p2, p3, p4, p5⟩ := pin_some h 1 hk
 have g1 : (C.pinN k 1).1.Good (N + 1) := p5.mono O0
 have e1 := pin_at h 1 hk
 have e1k : (C.pinN k 1).1.pins k = some (a + 1) := by rw [e1, if_pos rfl]; congr 1; omega
 have hu := unpin_pos g1 e1k O0
 obtain ⟨u1, u2, u3, u4, u5⟩ := pin_some g1 (-1) e1k
 have e2 := pin_at g1 (-1) e1k
 rw [hu]
 have hall : ∀ j, ((C.pinN k 1).1.pinN k (-1)).1.pins j = C.pins j := by
  intro j
  rw [e2]
  split
  ·rename_i hj; subst hj; rw [hk]; congr 1; omega
  ·rename_i hj; rw [e1, if_neg hj]
 refine ⟨g1, e1k, p2, p3, fun j hj => by rw [e1, if_neg hj], u5.tight fun j b hj => ?_, by rw [u2, p2], by rw [u3, p3], hall⟩
 rw [hall] at hj
 exact h.big j b hj
end Go.Hw.Cac
namespace Go.Proofs.YtngdfdangkdgcaaGreatDoor
open Go.Hw _root_.Go.Proofs.Tryz
section
namespace Rn0
def base (R : Rn0) : Cac := if R.hit then (R.C0.get R.key).1 else (R.C0.put R.key R.L).1
variable {R : Rn0} {S : Sto} {x : Tk} {C : Cac} {N : Int}
theorem qgx (hG : R.C0.Good N) : R.hit = (R.C0.pins R.key).isSome := by unfold hit; rw [(Cac.get_good hG _).2.2.2.1]; exact hG.same _
theorem ee (hG : R.C0.Good N) (hN : 0 <= N) (hR : R.Ok S) : R.base.Good N ∧ (∃ a, R.base.pins R.key = some a) ∧ (R.hit = true -> R.base.rows = R.C0.rows ∧ R.base.clk.most = R.C0.clk.most ∧ ∀ j, R.base.pins j = R.C0.pins j) ∧ (R.hit = false -> Cac.PutIn R.C0 R.key R.L R.base N) := by
 have hi := qgx hG
 have hl := hR.len
 unfold base
 cases hh : R.hit with
 | true =>
  rw [hh] at hi
  obtain ⟨g1, g2, g3, g4, g5⟩ := Cac.get_good hG R.key
  have gp := Cac.get_pins hG R.key
  obtain ⟨a, ha⟩ := Vp.1 hi.symm
  exact ⟨g1, ⟨a, by rw [if_pos rfl, gp]; exact ha⟩, fun _ => ⟨g3, g5, fun j => gp j⟩, fun h => by cases h⟩
 | false =>
  rw [hh] at hi
  have hno : R.C0.pins R.key = none := by simpa using hi.symm
  have hroom := hR.room hh
  have hp : (R.C0.put R.key R.L).2 = true ∧ Cac.PutIn R.C0 R.key R.L (R.C0.put R.key R.L).1 N := by
   refine Cac.put_in hG hN O0 hno fun hc => ?_
   rw [Cac.put_full hG hno hc.1 hc.2] at hroom
   cases hroom
  exact ⟨hp.2.good, ⟨0, hp.2.here⟩, fun h => (by cases h), fun _ => hp.2⟩
theorem qgw : R.land = (R.base.pinN R.key 1).1 := by
 unfold land base
 cases R.hit <;> rfl
structure Fin (R : Rn0) (N : Int) : Prop where
 good : R.fin.Good N
 landed : R.land.Good (N + 1)
 rows : R.fin.rows = R.base.rows
 most : R.fin.clk.most = R.base.clk.most
 pins : ∀ j, R.fin.pins j = R.base.pins j
theorem fin_ok (hG : R.C0.Good N) (hN : 0 <= N) (hR : R.Ok S) : R.Fin N := by
 obtain ⟨b1, ⟨a, b2⟩, _, _⟩ := ee hG hN hR
 have h := Cac.pin_unpin b1 b2
 have he := qgw (R := R)
 have hf : R.fin = ((R.base.pinN R.key 1).1.unpin R.key).1 := by unfold fin; rw [he]
 exact ⟨by rw [hf]; exact h.2.2.2.2.2.1, by rw [he]; exact h.1, by rw [hf]; exact h.2.2.2.2.2.2.1, by rw [hf]; exact h.2.2.2.2.2.2.2.1, fun j => by rw [hf]; exact h.2.2.2.2.2.2.2.2 j⟩
theorem Ph.good {k : Nat} (hG : R.C0.Good N) (hN : 0 <= N) (hR : R.Ok S) (h : R.Ph k x C) : C.Good (N + 1) := by
 have hf := fin_ok hG hN hR
 rcases h.2.2.2 with ⟨_, b, _⟩ | ⟨r, _, b, _⟩ | ⟨_, b, _⟩ | ⟨_, b, _⟩ | ⟨_, b, _⟩
 ·rw [b]; exact hG.mono O0
 ·rw [b]; exact hG.mono O0
 ·rw [b]; exact hG.mono O0
 ·rw [b]; exact hf.landed
 ·rw [b]; exact hf.good.mono O0
end Rn0
section
variable {w0 w : World} {l : List HProp} {t p b : Nat} {x : Tk} {C : Cac} {S : Sto} {N : Int}
theorem tv (hT : Tz w0) (hV : ∀ d, x.d = some d -> x.pin = false -> x.dec = false -> TagOk d.bs) (hx : x.row.length + x.out.length <= 200000) (hC : C.Good N) (hN : 0 <= N ∧ N <= 1099511627776) (hS : ∀ id e, mget id S.l = some e -> e.bs.length <= 140737488355328) (h : St w0 (IsTk t x :: IsStore b S :: IsCache p C :: l) w) :
  Ret prog 91 [.pz t, .pz b, .pz p] w fun v w' => v = .iz (x.step S C).2.2 ∧ St w0 (IsTk t (x.step S C).1 :: IsStore b S :: IsCache p (x.step S C).2.1 :: l) w' :=
 o0 hT hV O0 (hC.ok hN.2) ((Cac.get_good hC _).1.ok hN.2) (fun L hL => (Cac.put_good hC hN.1 O0).ok hN.2) hS h
end
end
section
section
variable {w0 w : World} {l : List HProp} {t p : Nat} {r : Run} {s : Shd} {q : RunQ}
structure Run.AnswerOk (r : Run) (s : Shd) : Prop where
 leave : r.LeaveOk s
 got : r.got.length <= 67108864
 tail : r.x.tail.length <= 67108864
theorem wg (hok : r.AnswerOk s) (h : St w0 (IsRun t r :: IsSh p s :: l) w) :
  Ret prog 60 [.pz t, .pz p] w fun v w' => v = .iz (r.answer s).2.2 ∧ St w0 (IsRun t (r.answer s).1 :: IsSh p (r.answer s).2.1 :: l) w' := by
 obtain ⟨hlv, hgot, htail⟩ := hok
 have hxp := hlv.parts
 obtain ⟨L, hL⟩ : ∃ L, r.got ++ r.x.tail = L := ⟨_, rfl⟩
 have key : r.answer s = (r.leave s).1.stop (r.leave s).2 ⟨0, 0, L⟩ 2 := by rw [<- hL]; rfl
 rw [key]
 have hwf : r.x.V.Wf := ⟨v9 _, jt _, by show r.x.parts.length * 40 <= _; omega, by show r.x.tail.length * 16 <= _; omega⟩
 obtain ⟨q, h⟩ := (St.run (r := r)).1 h
 refine en func60 results60 ntmps60 ?_
 refine Yr ?_
 refine qt (Γ := Option Addr × Nat) (fun g => [(0, .pz t), (1, .pz p), (5, .slice g.1 L.length g.2)]) (fun g w => St w0 (IsRun t r :: IsSh p s :: OwnS g.1 g.2 L :: l) w) ?_ ?_
 ·refine jh none (fun w => St w0 (runL t r q (IsSh p s :: l)) w) O1 O1 h.drew fun w h => ?_
  refine Y3 ?_
  refine qj rfl rfl rfl rfl h (fun _ h => qh rfl (qq (v := .slice q.ga r.got.length q.gc) rfl (h.b 0 rfl) rfl)) ?_
  refine Y3 ?_
  refine qj rfl rfl rfl rfl h (fun _ h => qh rfl (qx (l := r.x.V.cells q.pa q.pc q.ta q.tc) rfl rfl (qw (h.b 0 rfl) rfl))) ?_
  refine Y16 ?_
  refine qd 8 rfl rfl rfl rfl ?_
  refine qg rfl (si hwf h (fun w' h' => (h'.f 7).own_rd)) ?_
  clear h
  rintro _ w ⟨a, c, rfl, h1⟩
  replace h1 : St w0 (OwnS a c r.x.tail :: runL t r q (IsSh p s :: l)) w := h1
  have h := h1.drop
  refine ⟨fun _ => h, ?_⟩
  refine Y11 ?_
  refine qd 9 rfl rfl rfl rfl ?_
  refine jg (r := [.slice q.ga r.got.length q.gc, .slice a r.x.tail.length c]) h1 rfl rfl rfl fun b w h1 => ?_
  clear h
  have h := h1.drop.drop
  refine ⟨fun _ => h, ?_⟩
  refine Yq ?_
  refine qd 10 rfl rfl rfl rfl ?_
  refine qg rfl (wj (A := r.got) (B := r.x.tail) O0 O0 (Reads.own.more [_, _, _, _, _, _, _, _, _]) Reads.own h1) ?_
  clear h h1
  rintro _ w ⟨o, oc, rfl, h1⟩
  rw [hL] at h1 ⊢
  have h := h1.drop.drop
  refine ⟨fun _ => h, ?_⟩
  refine Y1y ?_
  refine qn ⟨(o, oc), zz3, ?_⟩
  exact (St.run (r := r)).2 ⟨q, (h1.x [1]).o [1, 2, 3, 4, 5, 6, 7, 8, 9, 10, 11]⟩
 clear h
 rintro ⟨o, oc⟩ w e h
 refine Y10 ?_
 refine r_c rfl (qg rfl (ug hlv h) ?_)
 clear h
 rintro _ w ⟨rfl, h⟩
 refine Y1a ?_; refine Yj ?_
 refine r_v (qc (r := (⟨0, 0, L⟩ : Res).C o oc) rfl) rfl ?_
 refine r_c rfl (qg rfl (gw (res := ⟨0, 0, L⟩) 2 (h.o [0, 2, 1])) ?_)
 clear h
 rintro _ w ⟨rfl, h⟩
 refine Y6 ?_
 exact qv (qk (bq1 ⟨rfl, h⟩))
def Run.cur (r : Run) (series : Int) : Tk := match r.one with
 | some x => x
 | none => Tk.new series r.x.life (r.x.parts.getD r.i.toNat ⟨0, 0, 0, 0, 0⟩).blob r.x.frm r.x.upto
theorem Run.part_eq (r : Run) (s : Shd) (series : Int) : r.part s series = if ((r.cur series).step s.b s.c).2.2 ≠ 0 then ({ r with one := some ((r.cur series).step s.b s.c).1 }, { s with c := ((r.cur series).step s.b s.c).2.1 }, ((r.cur series).step s.b s.c).2.2)
  else if ((r.cur series).step s.b s.c).1.done then ({ r with one := none, got := r.got ++ ((r.cur series).step s.b s.c).1.out, i := wI (r.i + 1) }, { s with c := ((r.cur series).step s.b s.c).2.1 }, 0) else ({ r with one := some ((r.cur series).step s.b s.c).1 }, { s with c := ((r.cur series).step s.b s.c).2.1 }, 0) := by
 unfold Run.part Run.cur
 cases r.one <;> rfl
structure Run.PartOk (r : Run) (s : Shd) (series : Int) : Prop where
 cac : ∃ N, s.c.Good N ∧ 0 <= N ∧ N <= 1099511627776
 sto : ∀ id e, mget id s.b.l = some e -> e.bs.length <= 140737488355328
 idx : r.one = none -> 0 <= r.i ∧ r.i < (r.x.parts.length : Int)
 size : (r.cur series).row.length + (r.cur series).out.length <= 200000
 after : ((r.cur series).step s.b s.c).1.out.length <= 400000
 got : r.got.length <= 1000000
 dec : ∀ d, (r.cur series).d = some d -> (r.cur series).pin = false -> (r.cur series).dec = false -> TagOk d.bs
theorem mb (hT : Tz w0) (series : Int) (hok : r.PartOk s series) (h : St w0 (IsRun t r :: IsSh p s :: l) w) :
  Ret prog 58 [.pz t, .pz p, .iz series] w fun v w' => v = .iz (r.part s series).2.2 ∧ St w0 (IsRun t (r.part s series).1 :: IsSh p (r.part s series).2.1 :: l) w' := by
 obtain ⟨⟨N, hG, hN⟩, hsto, hidx, hsize, hafter, hgot, hdec⟩ := hok
 obtain ⟨x, hx⟩ : ∃ x, r.cur series = x := ⟨_, rfl⟩
 rw [hx] at hsize hafter hdec
 obtain ⟨⟨x', C', e'⟩, hst⟩ : ∃ z, x.step s.b s.c = z := ⟨_, rfl⟩
 rw [hst] at hafter
 dsimp only at hafter
 obtain ⟨s1, hs1⟩ : ∃ s1 : Shd, s1 = { s with c := C' } := ⟨_, rfl⟩
 have key : r.part s series = if e' ≠ 0 then ({ r with one := some x' }, s1, e') else if x'.done then ({ r with one := none, got := r.got ++ x'.out, i := wI (r.i + 1) }, s1, 0) else ({ r with one := some x' }, s1, 0) := by
  rw [Run.part_eq, hx, hst, hs1]
 obtain ⟨q, h⟩ := (St.run (r := r)).1 h
 refine en func58 results58 ntmps58 ?_
 refine Yr ?_
 refine qt (Γ := Nat) (fun _ => [(0, .pz t), (1, .pz p)]) (fun k w => St w0 (RunPt t r { q with one := some ⟨k, 0, none⟩ } :: IsTk k x :: rowL r q (IsSh p s :: l)) w) ?_ ?_
 ·refine Y5 ?_
  refine r_v (qq (v := .pointer q.one) rfl (h.b 0 rfl) rfl) rfl ?_
  cases ho : r.one with
  | some y =>
   rw [ho] at h
   obtain ⟨k, h1, h⟩ := St.one1.1 (h.f 1)
   have hxy : x = y := by rw [<- hx]; unfold Run.cur; rw [ho]
   rw [h1]
   refine r_v (zm rfl rfl) rfl ?_
   refine qv (qe rfl (qa ⟨k, zz2, ?_⟩))
   have e : ({ q with one := some ⟨k, 0, none⟩ } : RunQ) = q := by rw [<- h1]
   rw [e, hxy]
   exact h.f 1
  | none =>
   rw [ho] at h
   obtain ⟨h1, h⟩ := St.one0.1 (h.f 1)
   obtain ⟨hi0, hi1⟩ := hidx ho
   obtain ⟨g, hg⟩ := (h.f 5).own_some O0
   obtain ⟨y, hy⟩ : ∃ y, r.x.parts[r.i.toNat]? = some y := ⟨_, Uc O0⟩
   have hxy : x = Tk.new series r.x.life y.blob r.x.frm r.x.upto := by rw [<- hx]; unfold Run.cur; rw [ho]; dsimp only; rw [Zq, hy]; rfl
   have hel : ∀ {w}, St w0 (RunPt t r q :: rowL r q (IsSh p s :: l)) w -> At w g (0 + r.i.toNat * 5) y.cells := fun h => by
    have := (h.f 5).own_rd
    rw [hg] at this
    exact this.elem v4 hy
   rw [h1]
   refine r_v (zm rfl rfl) rfl ?_; refine Yd ?_
   refine jh (some 31) (fun w => St w0 (RunPt t r q :: rowL r q (IsSh p s :: l)) w) O1 O1 h.drew fun w h => ?_
   refine Y1j ?_; refine Y18 ?_; refine Y1o ?_
   refine qj rfl rfl rfl rfl h (fun _ h => qh rfl (qq (v := .iz r.x.life) rfl (h.b 0 rfl) rfl)) ?_
   refine Y1o ?_
   refine qj rfl rfl rfl rfl h (fun _ h => qh rfl (qq (v := .slice q.pa r.x.parts.length q.pc) rfl (h.b 0 rfl) rfl)) ?_
   refine Y3 ?_
   refine qj rfl rfl rfl rfl h (fun _ h => qh rfl (qq (v := .iz r.i) rfl (h.b 0 rfl) rfl)) ?_
   refine cpv rfl rfl rfl rfl h rfl (jb (b := g) (o := 0) (m := r.x.parts.length) (c := q.pc) (j := r.i.toNat) (o' := 0 + r.i.toNat * 5) (by rw [<- hg]; rfl) rfl O0 O0 rfl) ?_
   refine qj rfl rfl rfl rfl h (fun _ h => qh rfl (qx (l := y.cells) rfl rfl (hel h))) ?_
   refine Y1o ?_
   refine qj rfl rfl rfl rfl h (fun _ h => qh rfl (qq (v := .iz r.x.frm) rfl (h.b 0 rfl) rfl)) ?_
   refine Y1o ?_
   refine qj rfl rfl rfl rfl h (fun _ h => qh rfl (qq (v := .iz r.x.upto) rfl (h.b 0 rfl) rfl)) ?_
   refine Y16 ?_
   refine qd 28 rfl rfl rfl rfl ?_
   refine qg rfl (qq4 series r.x.life y r.x.frm r.x.upto h) ?_
   clear h
   rintro _ w ⟨k, rfl, hs⟩
   have h := hs.drop
   refine ⟨fun _ => h, ?_⟩
   refine Y2y ?_; refine Yg ?_
   refine jk 31 rfl rfl rfl ?_
   refine qb 1 hs rfl (show _ = Value.pz k from rfl) rfl rfl rfl rfl fun w h => ?_
   refine ⟨k, zz2, ?_⟩
   rw [hxy]
   exact h.f 1
 clear h
 rintro k w e h
 obtain ⟨u, h⟩ := (St.shd (s := s)).1 (h.f 10)
 replace h : St w0 (IsTk k x :: IsStore u.b s.b :: IsCache u.c s.c :: RunPt t r { q with one := some ⟨k, 0, none⟩ } :: ShPt p u :: IsDir u.d s.d :: IsTab u.t s.t.V :: rowL r q l) w := h.o [6, 3, 2, 5, 0, 1, 4]
 refine qf ?_
 refine qt (Γ := Unit) (fun _ => [(0, .pz t), (7, .iz e')]) (fun _ w => St w0 (IsTk k x' :: RunPt t r { q with one := some ⟨k, 0, none⟩ } :: rowL r q (IsSh p s1 :: l)) w) ?_ ?_
 ·refine jm [0, 1, 2, 3, 4, 5, 6, 7, 8, 9, 10, 11, 12, 13] none (fun w => St w0 (RunPt t r { q with one := some ⟨k, 0, none⟩ } :: ShPt p u :: IsDir u.d s.d :: IsTab u.t s.t.V :: rowL r q l) w) O1 O1 ?_
  have hs := h.drew
  clear h
  generalize w.drew = w1 at hs ⊢
  have h := hs.drop.drop.drop
  refine Y3 ?_
  refine qj rfl rfl rfl rfl h (fun _ h => qh rfl (qq (v := .pz k) rfl (h.b 0 rfl) rfl)) ?_
  refine Y3 ?_
  refine qj rfl rfl rfl rfl h (fun _ h => qh rfl (qq (v := .pointer (some ⟨u.b, 0, none⟩)) rfl (h.b 1 rfl) rfl)) ?_
  refine Y3 ?_
  refine qj rfl rfl rfl rfl h (fun _ h => qh rfl (qq (v := .pointer (some ⟨u.c, 0, none⟩)) rfl (h.b 1 rfl) rfl)) ?_
  refine Yq ?_
  refine qd 12 rfl rfl rfl rfl ?_
  have hstep := tv (x := x) hT hdec hsize hG hN hsto hs
  rw [hst] at hstep
  refine qg rfl hstep ?_
  clear h hs hstep
  rintro _ w ⟨rfl, hs⟩
  dsimp only at hs
  have h := hs.drop.drop.drop
  refine ⟨fun _ => h, ?_⟩
  refine Y2s ?_
  refine qn ⟨(), zz2, ?_⟩
  have h1 : St w0 (ShPt p u :: IsDir u.d s1.d :: IsCache u.c s1.c :: IsStore u.b s1.b :: IsTab u.t s1.t.V :: IsTk k x' :: RunPt t r { q with one := some ⟨k, 0, none⟩ } :: rowL r q l) w := by
   rw [hs1]; exact hs.o [4, 5, 2, 1, 6, 0, 3]
  exact ((St.shd (s := s1)).2 ⟨u, h1⟩).o [1, 2, 3, 4, 5, 6, 7, 8, 9, 10]
 clear h
 rintro _ w e h
 have hfold : ∀ {w : World}, St w0 (IsTk k x' :: RunPt t r { q with one := some ⟨k, 0, none⟩ } :: rowL r q (IsSh p s1 :: l)) w -> St w0 (IsRun t { r with one := some x' } :: IsSh p s1 :: l) w := by
  intro w h
  have h1 : St w0 (OneH (sQ k) (some x') :: RunPt t r { q with one := some ⟨k, 0, none⟩ } :: rowL r q (IsSh p s1 :: l)) w := St.one1.2 ⟨k, rfl, h⟩
  exact (St.run (r := { r with one := some x' })).2 ⟨{ q with one := some ⟨k, 0, none⟩ }, h1.f 1⟩
 refine Y8 ?_; refine Y1q ?_
 by_cases he : e' = 0
 ·rw [if_neg (fun hh => hh he)] at key
  refine qz (.bool false) (by rw [he]; rfl) ?_
  refine Yb ?_; refine Y2n ?_
  refine r_v (qq (v := .pz k) rfl (h.b 1 rfl) rfl) rfl ?_
  have hd := eq (x := x') O0 h
  refine r_c rfl (qg rfl hd ?_)
  clear h hd
  rintro _ w ⟨da, dc, rfl, h⟩
  cases hdn : x'.done with
  | true =>
   rw [hdn] at key h
   rw [if_pos rfl] at key h
   rw [key]
   refine Y28 ?_; refine Y31 ?_; refine Yd ?_; refine Y2p ?_
   refine r_v (qq (v := .slice q.ga r.got.length q.gc) rfl (h.b 2 rfl) rfl) rfl ?_
   refine Yj ?_
   refine r_c rfl (q9 (ys := smpsV x'.out) (zs := smpsV (r.got ++ x'.out)) (m3 := (r.got ++ x'.out).length) (h.f 9) rfl rfl (h.own_rd) (jt _) O8 (by simp [smpsV]) O6 O6 rfl fun a2 c2 w _ h => ?_)
   refine Yi ?_
   refine r_c rfl (qb 3 h rfl (show _ = Value.slice a2 (r.got ++ x'.out).length c2 from rfl) rfl rfl rfl rfl fun w h => ?_)
   replace h : St w0 (OwnS a2 c2 (r.got ++ x'.out) :: OwnS da dc x'.out :: IsTk k x' :: RunPt t { r with got := r.got ++ x'.out } { q with one := some ⟨k, 0, none⟩, ga := a2, gc := c2 } :: OwnS q.s.a4 q.s.c4 r.slot.opn :: OwnPr q.s.a5 q.s.c5 r.slot.chunks :: OwnS q.n.a4 q.n.c4 r.next.opn :: OwnPr q.n.a5 q.n.c5 r.next.chunks :: OwnPr q.pa q.pc r.x.parts :: OwnS q.ta q.tc r.x.tail :: OwnS q.ra q.rc r.res.list :: IsSh p s1 :: l) w := h
   refine Y49 ?_; refine Y22 ?_; refine Y1t ?_
   refine r_v (qq (v := .iz r.i) rfl (h.b 3 rfl) rfl) rfl ?_
   refine Y1f ?_; refine Yi ?_
   refine r_c rfl (qb 3 h rfl (show _ = Value.pointer none from rfl) rfl rfl rfl rfl fun w h => ?_)
   replace h : St w0 (OwnS a2 c2 (r.got ++ x'.out) :: OwnS da dc x'.out :: IsTk k x' :: RunPt t { r with got := r.got ++ x'.out } { q with one := none, ga := a2, gc := c2 } :: OwnS q.s.a4 q.s.c4 r.slot.opn :: OwnPr q.s.a5 q.s.c5 r.slot.chunks :: OwnS q.n.a4 q.n.c4 r.next.opn :: OwnPr q.n.a5 q.n.c5 r.next.chunks :: OwnPr q.pa q.pc r.x.parts :: OwnS q.ta q.tc r.x.tail :: OwnS q.ra q.rc r.res.list :: IsSh p s1 :: l) w := h
   refine Yi ?_
   refine r_c rfl (qb 3 h rfl (show _ = Value.iz (wI (r.i + 1)) from rfl) rfl rfl rfl rfl fun w h => ?_)
   replace h : St w0 (OwnS a2 c2 (r.got ++ x'.out) :: OwnS da dc x'.out :: IsTk k x' :: RunPt t { r with one := none, got := r.got ++ x'.out, i := wI (r.i + 1) } { q with one := none, ga := a2, gc := c2 } :: OwnS q.s.a4 q.s.c4 r.slot.opn :: OwnPr q.s.a5 q.s.c5 r.slot.chunks :: OwnS q.n.a4 q.n.c4 r.next.opn :: OwnPr q.n.a5 q.n.c5 r.next.chunks :: OwnPr q.pa q.pc r.x.parts :: OwnS q.ta q.tc r.x.tail :: OwnS q.ra q.rc r.res.list :: IsSh p s1 :: l) w := h
   refine Y2 ?_
   have h1 : St w0 (OneH none none :: OwnS a2 c2 (r.got ++ x'.out) :: RunPt t { r with one := none, got := r.got ++ x'.out, i := wI (r.i + 1) } { q with one := none, ga := a2, gc := c2 } :: OwnS q.s.a4 q.s.c4 r.slot.opn :: OwnPr q.s.a5 q.s.c5 r.slot.chunks :: OwnS q.n.a4 q.n.c4 r.next.opn :: OwnPr q.n.a5 q.n.c5 r.next.chunks :: OwnPr q.pa q.pc r.x.parts :: OwnS q.ta q.tc r.x.tail :: OwnS q.ra q.rc r.res.list :: IsSh p s1 :: l) w := St.one0.2 ⟨rfl, h.x [1, 2]⟩
   have h2 : St w0 (IsRun t { r with one := none, got := r.got ++ x'.out, i := wI (r.i + 1) } :: IsSh p s1 :: l) w := (St.run (r := { r with one := none, got := r.got ++ x'.out, i := wI (r.i + 1) })).2 ⟨{ q with one := none, ga := a2, gc := c2 }, h1.o [2, 0, 3, 4, 5, 6, 7, 8, 1]⟩
   refine Y13 ?_
   exact qv (qk (bq1 ⟨rfl, h2⟩))
  | false =>
   rw [hdn] at key h
   rw [if_neg O2] at key h
   rw [key]
   refine Y28 ?_; refine Y31 ?_; refine Yb ?_; refine Y13 ?_
   exact qv (qk (bq1 ⟨rfl, hfold h.drop⟩))
 ·rw [if_pos he] at key
  rw [key]
  refine qz (.bool true) (by congr 1; rw [bne_iff_ne]; exact he) ?_
  refine Yd ?_; refine Y8 ?_; refine Y6 ?_
  exact qv (qk (bq1 ⟨rfl, hfold h⟩))
end
end
section
section
variable {w0 w : World} {l : List HProp} {t p : Nat} {r : Run} {s : Shd} {q : RunQ}
theorem vy {d : Nat} {D : List Plc} (hD : Dir.Fits D) (id : Int) (h : St w0 (IsDir d D :: l) w) : Ret prog 61 [.pz d, .iz id] w fun v w' => ∃ q4 : Q4, v = .tuple [.agg (q4.cells ((Dir.look D id).getD SlotV.zero)).toArray, .bool (Dir.look D id).isSome].toArray ∧ St w0 (OwnS q4.a4 q4.c4 ((Dir.look D id).getD SlotV.zero).opn :: OwnPr q4.a5 q4.c5 ((Dir.look D id).getD SlotV.zero).chunks :: IsDir d D :: l) w' := by
 have h1 := mv id hD.big h
 cases hl : Dir.look D id with
 | none =>
  rw [hl] at h1
  refine h1.mono ?_
  rintro v w ⟨rfl, h⟩
  exact ⟨⟨none, 0, none, 0⟩, rfl, (h.ownNil 168 5).ownNil 57 2⟩
 | some sl =>
  rw [hl] at h1
  refine h1.mono ?_
  rintro v w ⟨a, b, rfl, h⟩
  exact ⟨⟨a, sl.opn.length, b, sl.chunks.length⟩, rfl, h⟩
theorem e8 (hfits : Dir.Fits s.d) (hbeg : ∀ sl, Dir.look s.d r.o.series = some sl -> r.BeginOk s sl) (h : St w0 (IsRun t r :: IsSh p s :: l) w) :
  Ret prog 56 [.pz t, .pz p] w fun v w' => v = .iz (r.look s).2.2 ∧ St w0 (IsRun t (r.look s).1 :: IsSh p (r.look s).2.1 :: l) w' := by
 have key : r.look s = if r.fails ≥ 3 then ((r.take s).1, (r.take s).2.1, if (r.take s).2.2 then 1 else 0) else match Dir.look s.d r.o.series with
  | none => (r, s, 0)
  | some sl => r.begin_ s sl := by
  unfold Run.look
  by_cases hf : r.fails ≥ 3
  ·rw [if_pos hf, if_pos hf]
   generalize r.take s = z
   obtain ⟨a, b, c⟩ := z
   cases c <;> rfl
  ·refine (if_neg hf).trans (Eq.trans ?_ (if_neg hf).symm)
   cases Dir.look s.d r.o.series <;> rfl
 obtain ⟨q, h⟩ := (St.run (r := r)).1 h
 refine en func56 results56 ntmps56 ?_
 refine Yr ?_; refine Y2n ?_
 refine r_v (qq (v := .iz r.fails) rfl (h.b 0 rfl) rfl) rfl ?_
 refine Y1m ?_
 by_cases hf : r.fails ≥ 3
 ·rw [if_pos hf] at key
  refine qz (.bool true) (by congr 1; rw [decide_eq_true_eq]; exact hf) ?_
  refine Yd ?_; refine qf ?_; refine Y10 ?_
  have h1 : St w0 (IsRun t r :: IsSh p s :: l) w := (St.run (r := r)).2 ⟨q, h⟩
  refine r_c rfl (qg rfl (mz hfits h1) ?_)
  clear h h1
  rintro _ w ⟨rfl, h⟩
  rw [key]
  dsimp only
  cases htk : (r.take s).2.2 with
  | true =>
   refine Y41 ?_; refine Y13 ?_
   exact qv (qk (bq1 ⟨rfl, h⟩))
  | false =>
   refine Yx ?_; refine Yd ?_; refine Y13 ?_
   exact qv (qk (bq1 ⟨rfl, h⟩))
 rw [if_neg hf] at key
 refine qz (.bool false) (by congr 1; rw [decide_eq_false_iff_not]; exact hf) ?_
 refine Yb ?_
 obtain ⟨k, h⟩ := (St.shd (s := s)).1 (h.f 10)
 obtain ⟨N, hN⟩ : ∃ N, (OneH q.one r.one :: OwnS q.s.a4 q.s.c4 r.slot.opn :: OwnPr q.s.a5 q.s.c5 r.slot.chunks :: OwnS q.n.a4 q.n.c4 r.next.opn :: OwnPr q.n.a5 q.n.c5 r.next.chunks :: OwnPr q.pa q.pc r.x.parts :: OwnS q.ta q.tc r.x.tail :: OwnS q.ga q.gc r.got :: OwnS q.ra q.rc r.res.list :: l) = N := ⟨_, rfl⟩
 replace h : St w0 (IsDir k.d s.d :: ShPt p k :: RunPt t r q :: IsCache k.c s.c :: IsStore k.b s.b :: IsTab k.t s.t.V :: N) w := by rw [<- hN]; exact h.o [1, 0, 5, 2, 3, 4]
 obtain ⟨X, hX⟩ : ∃ X, (Dir.look s.d r.o.series).getD SlotV.zero = X := ⟨_, rfl⟩
 refine qt (Γ := Q4 × Nat) (fun g => [(0, .pz t), (1, .pz p), (5, .pointer (some ⟨g.2, 0, none⟩)), (6, .bool (Dir.look s.d r.o.series).isSome)])
  (fun g w => St w0 (OwnS g.1.a4 g.1.c4 X.opn :: OwnPr g.1.a5 g.1.c5 X.chunks :: pt g.2 (.cells (g.1.cells X).toArray 85 (0, 0)) :: IsDir k.d s.d :: ShPt p k :: RunPt t r q :: IsCache k.c s.c :: IsStore k.b s.b :: IsTab k.t s.t.V :: N) w) ?_ ?_
 ·refine vo [0, 1, 2, 3, 4, 5, 6, 7, 8, 9, 10, 11, 14, 12, 13, 15] (some 14) (fun w => St w0 (IsDir k.d s.d :: ShPt p k :: RunPt t r q :: IsCache k.c s.c :: IsStore k.b s.b :: IsTab k.t s.t.V :: N) w) O1 O1 h.drew fun w h => ?_
  refine Y3 ?_
  refine qj rfl rfl rfl rfl h (fun _ h => qh rfl (qq (v := .pointer (some ⟨k.d, 0, none⟩)) rfl (h.b 1 rfl) rfl)) ?_
  refine Y1o ?_
  refine qj rfl rfl rfl rfl h (fun _ h => qh rfl (qq (v := .iz r.o.series) rfl (h.b 2 rfl) rfl)) ?_
  refine Y4i ?_
  refine j4 9 13 rfl rfl rfl rfl rfl rfl ?_ ?_
  ·refine qg rfl (vy hfits r.o.series h) ?_
   clear h
   rintro _ w ⟨g, rfl, h1⟩
   rw [hX] at h1 ⊢
   have h := h1.drop.drop
   refine ⟨fun _ => h, ?_⟩
   refine Y29 ?_; refine Y11 ?_
   refine qd 13 rfl rfl rfl rfl ?_
   refine qp h1 fun b5 w h1 => ?_
   clear h
   have h := h1.drop.drop.drop
   refine ⟨fun _ => h, ?_⟩
   refine Yq ?_
   refine jy 14 none rfl rfl rfl rfl ?_
   refine qy (vs := g.cells X) 0 h1 rfl rfl rfl rfl rfl rfl rfl fun w h => ?_
   refine jz h ?_
   refine Y1d ?_
   exact qn ⟨(g, b5), zz4, h.o [1, 2, 0]⟩
  ·refine qp h fun b5 w h1 => ?_
   clear h
   have h := h1.drop
   refine ⟨fun _ => h, ?_⟩
   refine Y2q ?_
   refine qd 9 rfl rfl rfl rfl ?_
   refine qg rfl (vy hfits r.o.series (h1.f 1)) ?_
   clear h h1
   rintro _ w ⟨g, rfl, h1⟩
   rw [hX] at h1 ⊢
   have h := (h1.x [3]).drop.drop
   refine ⟨fun _ => h, ?_⟩
   refine Y29 ?_; refine Yq ?_
   refine jy 14 none rfl rfl rfl rfl ?_
   refine qy (vs := g.cells X) 3 h1 rfl rfl rfl rfl rfl rfl rfl fun w h => ?_
   refine jz h ?_
   refine Y1d ?_
   exact qn ⟨(g, b5), zz4, h.o [0, 1, 3, 2]⟩
 clear h
 rintro ⟨g, b5⟩ w e h
 dsimp only at h
 replace h : St w0 (runL t r q (IsSh p s :: OwnS g.a4 g.c4 X.opn :: OwnPr g.a5 g.c5 X.chunks :: pt b5 (.cells (g.cells X).toArray 85 (0, 0)) :: l)) w := by
  have h1 : St w0 (ShPt p k :: IsDir k.d s.d :: IsCache k.c s.c :: IsStore k.b s.b :: IsTab k.t s.t.V :: OwnS g.a4 g.c4 X.opn :: OwnPr g.a5 g.c5 X.chunks :: pt b5 (.cells (g.cells X).toArray 85 (0, 0)) :: RunPt t r q :: N) w := h.o [4, 3, 6, 7, 8]
  have h2 : St w0 (IsSh p s :: OwnS g.a4 g.c4 X.opn :: OwnPr g.a5 g.c5 X.chunks :: pt b5 (.cells (g.cells X).toArray 85 (0, 0)) :: RunPt t r q :: N) w := (St.shd (s := s)).2 ⟨k, h1⟩
  rw [<- hN] at h2
  exact h2.o [4, 5, 6, 7, 8, 9, 10, 11, 12, 13]
 refine Y2v ?_
 cases hl : Dir.look s.d r.o.series with
 | none =>
  rw [hl] at key
  replace key : r.look s = (r, s, 0) := key
  rw [key]
  refine Y1g ?_; refine Yd ?_; refine Y13 ?_
  have h1 : St w0 (IsRun t r :: IsSh p s :: OwnS g.a4 g.c4 X.opn :: OwnPr g.a5 g.c5 X.chunks :: pt b5 (.cells (g.cells X).toArray 85 (0, 0)) :: l) w := (St.run (r := r)).2 ⟨q, h⟩
  exact qv (qk (bq1 ⟨rfl, h1.x [2, 3, 4]⟩))
 | some sl =>
  rw [hl] at key hX
  replace key : r.look s = r.begin_ s sl := key
  obtain rfl : sl = X := hX
  rw [key]
  refine Y1g ?_; refine Yb ?_; refine Y10 ?_
  refine r_v (qx (l := g.cells sl) rfl rfl (qw (h.b 13 rfl) rfl)) rfl ?_
  refine r_c rfl (qg rfl (d8 (hbeg sl hl) (Reads.own.more [_, _, _, _, _, _, _, _, _, _, _]) (Reads.own.more [_, _, _, _, _, _, _, _, _, _, _, _]) h) ?_)
  clear h
  rintro _ w ⟨rfl, h⟩
  refine Y6 ?_
  exact qv (qk (bq1 ⟨rfl, h.x [2, 3, 4]⟩))
structure Run.ReadOk (r : Run) (s : Shd) : Prop where
 fits : Dir.Fits s.d
 look : r.ph = 0 -> ∀ sl, Dir.look s.d r.o.series = some sl -> r.BeginOk s sl
 flagged : r.ph = 1 -> r.BeginOk s r.slot
 part : r.ph = 2 -> r.PartOk s r.o.series ∧ (r.part s r.o.series).1.LeaveOk (r.part s r.o.series).2.1
 last : r.ph ≠ 0 -> r.ph ≠ 1 -> r.ph ≠ 2 -> r.AnswerOk s
theorem i0 (r : Run) (s : Shd) (series : Int) : (r.part s series).1.ph = r.ph := by
 rw [Run.part_eq]
 split
 ·rfl
 ·split <;> rfl
theorem aq (hT : Tz w0) (hok : r.ReadOk s) (h : St w0 (IsRun t r :: IsSh p s :: l) w) :
  Ret prog 38 [.pz t, .pz p] w fun v w' => v = .iz (r.read s).2.2 ∧ St w0 (IsRun t (r.read s).1 :: IsSh p (r.read s).2.1 :: l) w' := by
 obtain ⟨hfits, hlook, hflag, hpart, hlast⟩ := hok
 obtain ⟨z, hz⟩ : ∃ z, r.part s r.o.series = z := ⟨_, rfl⟩
 obtain ⟨v, hv⟩ : ∃ v, r.leave s = v := ⟨_, rfl⟩
 have key : r.read s = if r.ph = 0 then r.look s else if r.ph = 1 then r.begin_ s r.slot else if r.ph = 2 then
   if z.2.2 ≠ 0 then (z.1.leave z.2.1).1.stop (z.1.leave z.2.1).2 ⟨z.2.2, 0, []⟩ 3 else ({ z.1 with ph := if z.1.i = (z.1.x.parts.length : Int) then 3 else 2 }, z.2.1, 1)
  else if r.flag then r.answer s else match Dir.look s.d r.o.series with
   | some sl => if sl.life = r.x.life ∧ sl.ver = r.x.ver then r.answer s else ({ v.1 with fails := wI (v.1.fails + 1), ph := 0 }, v.2, 1)
   | none => ({ v.1 with fails := wI (v.1.fails + 1), ph := 0 }, v.2, 1) := by
  rw [<- hz, <- hv]
  unfold Run.read
  by_cases p0 : r.ph = 0
  ·exact (if_pos p0).trans (if_pos p0).symm
  refine (if_neg p0).trans (Eq.trans ?_ (if_neg p0).symm)
  by_cases p1 : r.ph = 1
  ·exact (if_pos p1).trans (if_pos p1).symm
  refine (if_neg p1).trans (Eq.trans ?_ (if_neg p1).symm)
  by_cases p2 : r.ph = 2
  ·exact (if_pos p2).trans (if_pos p2).symm
  refine (if_neg p2).trans (Eq.trans ?_ (if_neg p2).symm)
  cases r.flag with
  | true => rfl
  | false =>
   cases Dir.look s.d r.o.series <;> rfl
 obtain ⟨q, h⟩ := (St.run (r := r)).1 h
 refine en func38 results38 ntmps38 ?_
 refine Yr ?_; refine Y2n ?_
 refine r_v (qq (v := .iz r.ph) rfl (h.b 0 rfl) rfl) rfl ?_
 refine Y4e ?_
 by_cases p0 : r.ph = 0
 ·rw [if_pos p0] at key
  rw [key]
  refine qz (.bool true) (by congr 1; rw [beq_iff_eq]; exact p0) ?_
  refine Y43 ?_
  have h1 : St w0 (IsRun t r :: IsSh p s :: l) w := (St.run (r := r)).2 ⟨q, h⟩
  refine r_c rfl (qg rfl (e8 hfits (hlook p0) h1) ?_)
  clear h h1
  rintro _ w ⟨rfl, h⟩
  refine Y6 ?_
  exact qv (qk (bq1 ⟨rfl, h⟩))
 rw [if_neg p0] at key
 refine qz (.bool false) (by congr 1; rw [beq_eq_false_iff_ne]; exact p0) ?_
 refine Y2r ?_
 by_cases p1 : r.ph = 1
 ·rw [if_pos p1] at key
  rw [key]
  refine qz (.bool true) (by congr 1; rw [beq_iff_eq]; exact p1) ?_
  refine Y43 ?_; refine Y1t ?_
  refine r_v (qx (l := q.s.cells r.slot) rfl rfl (qw (h.b 0 rfl) rfl)) rfl ?_
  refine r_c rfl (qg rfl (d8 (hflag p1) (Reads.own.more [_, _]) (Reads.own.more [_, _, _]) h) ?_)
  clear h
  rintro _ w ⟨rfl, h⟩
  refine Y6 ?_
  exact qv (qk (bq1 ⟨rfl, h⟩))
 rw [if_neg p1] at key
 refine qz (.bool false) (by congr 1; rw [beq_eq_false_iff_ne]; exact p1) ?_
 refine Y2r ?_
 by_cases p2 : r.ph = 2
 ·rw [if_pos p2] at key
  obtain ⟨hp1, hp2⟩ := hpart p2
  have hph := i0 r s r.o.series
  rw [hz] at hp2 hph
  refine qz (.bool true) (by congr 1; rw [beq_iff_eq]; exact p2) ?_
  refine Y2k ?_; refine qf ?_; refine Y10 ?_; refine Y1t ?_; refine Yk ?_
  refine r_v (qq (v := .iz r.o.series) rfl (h.b 0 rfl) rfl) rfl ?_
  have h1 : St w0 (IsRun t r :: IsSh p s :: l) w := (St.run (r := r)).2 ⟨q, h⟩
  refine r_c rfl (qg rfl (mb hT r.o.series hp1 h1) ?_)
  clear h h1
  rintro _ w ⟨rfl, h⟩
  rw [hz] at h ⊢
  obtain ⟨r2, s2, e2⟩ := z
  dsimp only at h hp2 hph key ⊢
  refine Y3t ?_; refine Y1q ?_
  by_cases he : e2 = 0
  ·rw [if_neg (fun hh => hh he)] at key
   rw [key]
   refine qz (.bool false) (by rw [he]; rfl) ?_
   refine Yb ?_
   obtain ⟨q2, h⟩ := (St.run (r := r2)).1 h
   refine qt (Γ := Unit) (fun _ => []) (fun _ w => St w0 (runL t { r2 with ph := if r2.i = (r2.x.parts.length : Int) then 3 else 2 } q2 (IsSh p s2 :: l)) w) ?_ ?_
   ·refine qf ?_
    refine jh none (fun w => St w0 (runL t r2 q2 (IsSh p s2 :: l)) w) O1 O1 h.drew fun w h => ?_
    refine Y3 ?_
    refine qj rfl rfl rfl rfl h (fun _ h => qh rfl (qq (v := .iz r2.i) rfl (h.b 0 rfl) rfl)) ?_
    refine Y1o ?_
    refine qj rfl rfl rfl rfl h (fun _ h => qh rfl (qq (v := .slice q2.pa r2.x.parts.length q2.pc) rfl (h.b 0 rfl) rfl)) ?_
    refine Y2x ?_
    by_cases hi : r2.i = (r2.x.parts.length : Int)
    ·refine cpv rfl rfl rfl rfl h rfl (qr (v' := .bool true) (j9 rfl rfl) (by congr 1; rw [beq_iff_eq]; exact hi)) ?_
     refine qn ?_
     refine Y1k ?_; refine Y2l ?_
     refine r_c rfl (qb 0 h rfl (show _ = Value.iz 3 from rfl) rfl rfl rfl rfl fun w h => ?_)
     refine qv ⟨(), trivial, ?_⟩
     rw [if_pos hi]; exact h
    ·refine cpv rfl rfl rfl rfl h rfl (qr (v' := .bool false) (j9 rfl rfl) (by congr 1; rw [beq_eq_false_iff_ne]; exact hi)) ?_
     refine qn ?_
     refine qe rfl (qa ⟨(), trivial, ?_⟩)
     rw [if_neg hi]
     have e2 : ({ r2 with ph := 2 } : Run) = r2 := by
      rw [p2] at hph
      obtain ⟨_, _, ph, _, _, _, _, _, _, _, _, _, _, _, _, _⟩ := r2
      dsimp only at hph; subst hph; rfl
     rw [e2]; exact h
   clear h
   rintro _ w e h
   refine Y13 ?_
   exact qv (qk (bq1 ⟨rfl, (St.run (r := { r2 with ph := if r2.i = (r2.x.parts.length : Int) then 3 else 2 })).2 ⟨q2, h⟩⟩))
  ·rw [if_pos he] at key
   rw [key]
   refine qz (.bool true) (by congr 1; rw [bne_iff_ne]; exact he) ?_
   refine Yd ?_; refine Y10 ?_
   refine r_c rfl (qg rfl (ug hp2 h) ?_)
   clear h
   rintro _ w ⟨rfl, h⟩
   refine Y1a ?_; refine Y0 ?_
   refine r_v (qc (r := (⟨e2, 0, []⟩ : Res).C none 0) rfl) rfl ?_
   refine r_c rfl (qg rfl (gw (res := ⟨e2, 0, []⟩) 3 ((h.ownNil 57 2).f 1)) ?_)
   clear h
   rintro _ w ⟨rfl, h⟩
   refine Y6 ?_
   exact qv (qk (bq1 ⟨rfl, h⟩))
 rw [if_neg p2] at key
 have hans := hlast p0 p1 p2
 refine qz (.bool false) (by congr 1; rw [beq_eq_false_iff_ne]; exact p2) ?_
 refine Ya ?_; refine Y1r ?_; refine Y2n ?_
 refine r_v (qq (v := .bool r.flag) rfl (h.b 0 rfl) rfl) rfl ?_
 cases hfl : r.flag with
 | true =>
  rw [hfl] at key
  replace key : r.read s = r.answer s := key
  rw [key]
  refine Yd ?_; refine Y10 ?_
  have h1 : St w0 (IsRun t r :: IsSh p s :: l) w := (St.run (r := r)).2 ⟨q, h⟩
  refine r_c rfl (qg rfl (wg hans h1) ?_)
  clear h h1
  rintro _ w ⟨rfl, h⟩
  refine Y6 ?_
  exact qv (qk (bq1 ⟨rfl, h⟩))
 | false =>
 rw [hfl] at key
 refine Yb ?_
 obtain ⟨same, hsame⟩ : ∃ same : Bool, (match Dir.look s.d r.o.series with | some sl => decide (sl.life = r.x.life ∧ sl.ver = r.x.ver) | none => false) = same := ⟨_, rfl⟩
 replace key : r.read s = if same then r.answer s else ({ v.1 with fails := wI (v.1.fails + 1), ph := 0 }, v.2, 1) := by
  rw [key, <- hsame]
  cases Dir.look s.d r.o.series with
  | none => rfl
  | some sl =>
   dsimp only
   by_cases hc : sl.life = r.x.life ∧ sl.ver = r.x.ver
   ·simp [hc]
   ·simp [hc]
 obtain ⟨k, h⟩ := (St.shd (s := s)).1 (h.f 10)
 obtain ⟨N, hN⟩ : ∃ N, (OneH q.one r.one :: OwnS q.s.a4 q.s.c4 r.slot.opn :: OwnPr q.s.a5 q.s.c5 r.slot.chunks :: OwnS q.n.a4 q.n.c4 r.next.opn :: OwnPr q.n.a5 q.n.c5 r.next.chunks :: OwnPr q.pa q.pc r.x.parts :: OwnS q.ta q.tc r.x.tail :: OwnS q.ga q.gc r.got :: OwnS q.ra q.rc r.res.list :: l) = N := ⟨_, rfl⟩
 replace h : St w0 (IsDir k.d s.d :: ShPt p k :: RunPt t r q :: IsCache k.c s.c :: IsStore k.b s.b :: IsTab k.t s.t.V :: N) w := by rw [<- hN]; exact h.o [1, 0, 5, 2, 3, 4]
 obtain ⟨X, hX⟩ : ∃ X, (Dir.look s.d r.o.series).getD SlotV.zero = X := ⟨_, rfl⟩
 refine qf ?_
 refine qt (Γ := Q4 × Nat) (fun g => [(0, .pz t), (1, .pz p), (6, .pointer (some ⟨g.2, 0, none⟩)), (7, .bool (Dir.look s.d r.o.series).isSome)])
  (fun g w => St w0 (OwnS g.1.a4 g.1.c4 X.opn :: OwnPr g.1.a5 g.1.c5 X.chunks :: pt g.2 (.cells (g.1.cells X).toArray 85 (0, 0)) :: IsDir k.d s.d :: ShPt p k :: RunPt t r q :: IsCache k.c s.c :: IsStore k.b s.b :: IsTab k.t s.t.V :: N) w) ?_ ?_
 ·refine vo [0, 1, 2, 3, 4, 5, 6, 7, 8, 9, 10, 11, 14, 12, 13, 15] (some 14) (fun w => St w0 (IsDir k.d s.d :: ShPt p k :: RunPt t r q :: IsCache k.c s.c :: IsStore k.b s.b :: IsTab k.t s.t.V :: N) w) O1 O1 h.drew fun w h => ?_
  refine Y3 ?_
  refine qj rfl rfl rfl rfl h (fun _ h => qh rfl (qq (v := .pointer (some ⟨k.d, 0, none⟩)) rfl (h.b 1 rfl) rfl)) ?_
  refine Y1o ?_
  refine qj rfl rfl rfl rfl h (fun _ h => qh rfl (qq (v := .iz r.o.series) rfl (h.b 2 rfl) rfl)) ?_
  refine Y4i ?_
  refine j4 9 13 rfl rfl rfl rfl rfl rfl ?_ ?_
  ·refine qg rfl (vy hfits r.o.series h) ?_
   clear h
   rintro _ w ⟨g, rfl, h1⟩
   rw [hX] at h1 ⊢
   have h := h1.drop.drop
   refine ⟨fun _ => h, ?_⟩
   refine Y29 ?_; refine Y11 ?_
   refine qd 13 rfl rfl rfl rfl ?_
   refine qp h1 fun b5 w h1 => ?_
   clear h
   have h := h1.drop.drop.drop
   refine ⟨fun _ => h, ?_⟩
   refine Yq ?_
   refine jy 14 none rfl rfl rfl rfl ?_
   refine qy (vs := g.cells X) 0 h1 rfl rfl rfl rfl rfl rfl rfl fun w h => ?_
   refine jz h ?_
   refine Y1d ?_
   exact qn ⟨(g, b5), zz4, h.o [1, 2, 0]⟩
  ·refine qp h fun b5 w h1 => ?_
   clear h
   have h := h1.drop
   refine ⟨fun _ => h, ?_⟩
   refine Y2q ?_
   refine qd 9 rfl rfl rfl rfl ?_
   refine qg rfl (vy hfits r.o.series (h1.f 1)) ?_
   clear h h1
   rintro _ w ⟨g, rfl, h1⟩
   rw [hX] at h1 ⊢
   have h := (h1.x [3]).drop.drop
   refine ⟨fun _ => h, ?_⟩
   refine Y29 ?_; refine Yq ?_
   refine jy 14 none rfl rfl rfl rfl ?_
   refine qy (vs := g.cells X) 3 h1 rfl rfl rfl rfl rfl rfl rfl fun w h => ?_
   refine jz h ?_
   refine Y1d ?_
   exact qn ⟨(g, b5), zz4, h.o [0, 1, 3, 2]⟩
 clear h
 rintro ⟨g, b5⟩ w e h
 dsimp only at h
 replace h : St w0 (runL t r q (IsSh p s :: OwnS g.a4 g.c4 X.opn :: OwnPr g.a5 g.c5 X.chunks :: pt b5 (.cells (g.cells X).toArray 85 (0, 0)) :: l)) w := by
  have h1 : St w0 (ShPt p k :: IsDir k.d s.d :: IsCache k.c s.c :: IsStore k.b s.b :: IsTab k.t s.t.V :: OwnS g.a4 g.c4 X.opn :: OwnPr g.a5 g.c5 X.chunks :: pt b5 (.cells (g.cells X).toArray 85 (0, 0)) :: RunPt t r q :: N) w := h.o [4, 3, 6, 7, 8]
  have h2 : St w0 (IsSh p s :: OwnS g.a4 g.c4 X.opn :: OwnPr g.a5 g.c5 X.chunks :: pt b5 (.cells (g.cells X).toArray 85 (0, 0)) :: RunPt t r q :: N) w := (St.shd (s := s)).2 ⟨k, h1⟩
  rw [<- hN] at h2
  exact h2.o [4, 5, 6, 7, 8, 9, 10, 11, 12, 13]
 refine qt (Γ := Unit) (fun _ => [(0, .pz t), (1, .pz p), (99, .bool same)]) (fun _ w => St w0 (runL t r q (IsSh p s :: OwnS g.a4 g.c4 X.opn :: OwnPr g.a5 g.c5 X.chunks :: pt b5 (.cells (g.cells X).toArray 85 (0, 0)) :: l)) w) ?_ ?_
 ·refine jh none (fun w => St w0 (runL t r q (IsSh p s :: OwnS g.a4 g.c4 X.opn :: OwnPr g.a5 g.c5 X.chunks :: pt b5 (.cells (g.cells X).toArray 85 (0, 0)) :: l)) w) O1 O1 h.drew fun w h => ?_
  cases hl : Dir.look s.d r.o.series with
  | none =>
   rw [hl] at hsame
   replace hsame : same = false := hsame.symm
   subst hsame
   refine Yz ?_; refine Yz ?_; refine qu rfl rfl rfl rfl (fun _ => h) (fun _ => qo rfl rfl) (qu rfl rfl rfl rfl (fun _ => h) (fun _ => qo rfl rfl) (qu rfl rfl rfl rfl (fun _ => h) (fun _ => qo rfl rfl) (qu rfl rfl rfl rfl (fun _ => h) (fun _ => qo rfl rfl) (qu rfl rfl rfl rfl (fun _ => h) (fun _ => qo rfl rfl) (qu rfl rfl rfl rfl (fun _ => h) (fun _ => qo rfl rfl) ?_))))); refine qu rfl rfl rfl rfl (fun _ => h) (fun _ => qo rfl rfl) (qu rfl rfl rfl rfl (fun _ => h) (fun _ => qo rfl rfl) (cpv rfl rfl rfl rfl h rfl (jl rfl rfl rfl) ?_)); refine Yz ?_; refine qu rfl rfl rfl rfl (fun _ => h) (fun _ => qo rfl rfl) (qu rfl rfl rfl rfl (fun _ => h) (fun _ => qo rfl rfl) (qu rfl rfl rfl rfl (fun _ => h) (fun _ => qo rfl rfl) (qu rfl rfl rfl rfl (fun _ => h) (fun _ => qo rfl rfl) (qu rfl rfl rfl rfl (fun _ => h) (fun _ => qo rfl rfl) (qu rfl rfl rfl rfl (fun _ => h) (fun _ => qo rfl rfl) ?_))))); refine qu rfl rfl rfl rfl (fun _ => h) (fun _ => qo rfl rfl) (qu rfl rfl rfl rfl (fun _ => h) (fun _ => qo rfl rfl) (cpv rfl rfl rfl rfl h rfl (jl rfl rfl rfl) ?_))
   exact qn ⟨(), zz3, h⟩
  | some sl =>
   rw [hl] at hsame hX
   replace hsame : decide (sl.life = r.x.life ∧ sl.ver = r.x.ver) = same := hsame
   obtain rfl : sl = X := hX
   refine Yz ?_; refine Yz ?_; refine qu rfl rfl rfl rfl (fun _ => h) (fun _ => ql rfl rfl (vm rfl)) ?_
   refine qj rfl rfl rfl rfl h (fun _ h => ql rfl rfl (qq (v := .iz sl.life) rfl (h.b 13 rfl) rfl)) ?_
   refine qu rfl rfl rfl rfl (fun _ => h) (fun _ => ql rfl rfl (jr rfl)) (qu rfl rfl rfl rfl (fun _ => h) (fun _ => ql rfl rfl (v7 rfl)) (qu rfl rfl rfl rfl (fun _ => h) (fun _ => ql rfl rfl (vm rfl)) (qu rfl rfl rfl rfl (fun _ => h) (fun _ => ql rfl rfl (vm rfl)) ?_)))
   refine qj rfl rfl rfl rfl h (fun _ h => ql rfl rfl (qq (v := .iz r.x.life) rfl (h.b 0 rfl) rfl)) ?_
   by_cases h1 : sl.life = r.x.life
   ·refine qu rfl rfl rfl rfl (fun _ => h) (fun _ => ql rfl rfl (qr (v' := .bool true) (j9 rfl rfl) (by congr 1; rw [beq_iff_eq]; exact h1))) ?_
    refine cpv rfl rfl rfl rfl h rfl (ji rfl rfl rfl) ?_; refine Yz ?_; refine qu rfl rfl rfl rfl (fun _ => h) (fun _ => ql rfl rfl (vm rfl)) ?_
    refine qj rfl rfl rfl rfl h (fun _ h => ql rfl rfl (qq (v := .iz sl.ver) rfl (h.b 13 rfl) rfl)) ?_
    refine qu rfl rfl rfl rfl (fun _ => h) (fun _ => ql rfl rfl (jr rfl)) (qu rfl rfl rfl rfl (fun _ => h) (fun _ => ql rfl rfl (v7 rfl)) (qu rfl rfl rfl rfl (fun _ => h) (fun _ => ql rfl rfl (vm rfl)) (qu rfl rfl rfl rfl (fun _ => h) (fun _ => ql rfl rfl (vm rfl)) ?_)))
    refine qj rfl rfl rfl rfl h (fun _ h => ql rfl rfl (qq (v := .iz r.x.ver) rfl (h.b 0 rfl) rfl)) ?_
    have e9 : (sl.ver == r.x.ver) = same := by
     rw [<- hsame]
     by_cases h2 : sl.ver = r.x.ver
     ·simp [h1, h2]
     ·simp [h1, h2]
    refine qu rfl rfl rfl rfl (fun _ => h) (fun _ => ql rfl rfl (qr (v' := .bool same) (j9 rfl rfl) (congrArg Value.bool e9))) ?_
    refine cpv rfl rfl rfl rfl h rfl (ji rfl rfl rfl) ?_
    exact qn ⟨(), zz3, h⟩
   ·refine qu rfl rfl rfl rfl (fun _ => h) (fun _ => ql rfl rfl (qr (v' := .bool false) (j9 rfl rfl) (by congr 1; rw [beq_eq_false_iff_ne]; exact h1))) ?_
    have e9 : same = false := by rw [<- hsame]; simp [h1]
    subst e9
    refine cpv rfl rfl rfl rfl h rfl (ji rfl rfl rfl) ?_; refine Yz ?_; refine qu rfl rfl rfl rfl (fun _ => h) (fun _ => qo rfl rfl) (qu rfl rfl rfl rfl (fun _ => h) (fun _ => qo rfl rfl) (qu rfl rfl rfl rfl (fun _ => h) (fun _ => qo rfl rfl) (qu rfl rfl rfl rfl (fun _ => h) (fun _ => qo rfl rfl) (qu rfl rfl rfl rfl (fun _ => h) (fun _ => qo rfl rfl) (qu rfl rfl rfl rfl (fun _ => h) (fun _ => qo rfl rfl) ?_))))); refine qu rfl rfl rfl rfl (fun _ => h) (fun _ => qo rfl rfl) (qu rfl rfl rfl rfl (fun _ => h) (fun _ => qo rfl rfl) (cpv rfl rfl rfl rfl h rfl (jl rfl rfl rfl) ?_))
    exact qn ⟨(), zz3, h⟩
 clear h
 rintro _ w e h
 have h1 : St w0 (IsRun t r :: IsSh p s :: OwnS g.a4 g.c4 X.opn :: OwnPr g.a5 g.c5 X.chunks :: pt b5 (.cells (g.cells X).toArray 85 (0, 0)) :: l) w := (St.run (r := r)).2 ⟨q, h⟩
 replace h : St w0 (IsRun t r :: IsSh p s :: l) w := h1.x [2, 3, 4]
 refine qi same rfl (fun hs => ?_) (fun hs => ?_)
 ·rw [if_pos hs] at key
  rw [key]
  refine Y10 ?_
  refine r_c rfl (qg rfl (wg hans h) ?_)
  clear h h1
  rintro _ w ⟨rfl, h⟩
  refine Y6 ?_
  exact qv (qk (bq1 ⟨rfl, h⟩))
 ·rw [if_neg (by rw [hs]; decide)] at key
  rw [key]
  refine Yl ?_; refine Y10 ?_
  refine r_c rfl (qg rfl (ug hans.leave h) ?_)
  clear h h1
  rintro _ w ⟨rfl, h⟩
  rw [hv] at h
  obtain ⟨r2, s2⟩ := v
  dsimp only at h ⊢
  obtain ⟨q2, h⟩ := (St.run' (r := r2)).1 h
  refine Y2 ?_; refine Y5 ?_
  refine r_v (qq (v := .iz r2.fails) rfl (h.b 0 rfl) rfl) rfl ?_
  refine Y1f ?_; refine Yi ?_
  refine r_c rfl (qb 0 h rfl (show _ = Value.iz (wI (r2.fails + 1)) from rfl) rfl rfl rfl rfl fun w h => ?_)
  replace h : St w0 (RunPt t { r2 with fails := wI (r2.fails + 1) } q2 :: (r2.rows q2 ++ (IsSh p s2 :: l))) w := h
  refine Y2 ?_; refine Y5 ?_
  refine r_c rfl (qb 0 h rfl (show _ = Value.iz 0 from rfl) rfl rfl rfl rfl fun w h => ?_)
  refine Yn ?_; refine Y6 ?_
  exact qv (qk (bq1 ⟨rfl, (St.run' (r := { r2 with fails := wI (r2.fails + 1), ph := 0 })).2 ⟨q2, h⟩⟩))
end
end
section
section
variable {w0 w : World} {l : List HProp} {p t : Nat} {T : Tb} {r : Run} {s : Shd} {q : RunQ}
def On.zero : On := ⟨0, 0, Snp.zero, false, 0⟩
namespace Tb
def on (T : Tb) (id : Int) : On := (mget id T.l).getD ⟨0, 0, Snp.zero, false, 0⟩
def mine (T : Tb) (id who : Int) : Option On := match mget id T.l with
 | none => none
 | some o => if o.used = true ∧ o.who = who then some o else none
def use (T : Tb) (id who : Int) : Int × Tb := match mget id T.l with
 | none => (3, T)
 | some o => if o.used = true ∧ o.who ≠ who then (8, T) else (0, ⟨T.last, mset id { o with used := true, who := who } T.l⟩)
def free (T : Tb) (id who : Int) : Tb := match T.mine id who with
 | none => T
 | some o => ⟨T.last, mset id { o with used := false } T.l⟩
def move (T : Tb) (id who n : Int) : Tb := match T.mine id who with
 | none => T
 | some o => ⟨T.last, mset id { o with told := wI (o.told + max n 0) } T.l⟩
end Tb
theorem yv (id : Int) : mget id T.V.l = (mget id T.l).map On.V := gj On.V id T.l
theorem nh (id : Int) (o : On) : mset id o.V T.V.l = (Tb.V ⟨T.last, mset id o T.l⟩).l := gt On.V id o T.l
theorem tb_no {id who : Int} (hm : T.mine id who = none) : ∀ o, mget id T.V.l = some o -> ¬ o.by who := by
 intro o ho hb
 rw [yv] at ho
 unfold Tb.mine at hm
 cases hg : mget id T.l with
 | none => rw [hg] at ho; cases ho
 | some x =>
  rw [hg] at ho hm
  obtain rfl : x.V = o := Uk ho
  dsimp only at hm
  rw [if_pos (show x.used = true ∧ x.who = who from hb)] at hm
  cases hm
theorem tu {id who : Int} {o : On} (hm : T.mine id who = some o) : mget id T.l = some o ∧ mget id T.V.l = some o.V ∧ o.V.by who := by
 rw [yv]
 unfold Tb.mine at hm
 cases hg : mget id T.l with
 | none => rw [hg] at hm; cases hm
 | some x =>
  rw [hg] at hm
  dsimp only at hm
  split at hm
  ·rename_i hc
   obtain rfl : x = o := Uk hm
   exact ⟨rfl, rfl, hc⟩
  ·cases hm
theorem tb_At (id : Int) (h : St w0 (IsTab p T.V :: l) w) : Ret prog 65 [.pz p, .iz id] w fun v w' =>
  ∃ a1 c1 a2 c2, v = .tuple [.iz (T.on id).series, .agg ((T.on id).x.V.cells a1 c1 a2 c2).toArray, .iz (T.on id).told, .bool (mget id T.l).isSome].toArray ∧ St w0 (OwnPr a1 c1 (T.on id).x.parts :: OwnS a2 c2 (T.on id).x.tail :: IsTab p T.V :: l) w' := by
 unfold Tb.on
 cases hg : mget id T.l with
 | none =>
  refine (qqb id h (by rw [yv, hg]; rfl)).mono ?_
  rintro v w ⟨rfl, h⟩
  exact ⟨none, 0, none, 0, rfl, (h.ownNil 57 2).ownNil 168 5⟩
 | some o =>
  refine (qqs id (o := o.V) h (by rw [yv, hg]; rfl)).mono ?_
  rintro v w ⟨a1, c1, a2, c2, rfl, h⟩
  exact ⟨a1, c1, a2, c2, rfl, h⟩
theorem tb_Use (id who : Int) (h : St w0 (IsTab p T.V :: l) w) : Ret prog 100 [.pz p, .iz id, .iz who] w fun v w' =>
  v = .iz (T.use id who).1 ∧ St w0 (IsTab p (T.use id who).2.V :: l) w' := by
 unfold Tb.use
 cases hg : mget id T.l with
 | none => exact ly id who h (by rw [yv, hg]; rfl)
 | some o =>
  dsimp only
  by_cases hc : o.used = true ∧ o.who ≠ who
  ·rw [if_pos hc]
   exact lz id who (o := o.V) h (by rw [yv, hg]; rfl) hc.1 hc.2
  ·rw [if_neg hc]
   refine (lx id who (o := o.V) h (by rw [yv, hg]; rfl) (fun hu => Wg fun hw => hc ⟨hu, hw⟩)).mono ?_
   rintro v w ⟨rfl, h⟩
   have e := nh (T := T) id { o with used := true, who := who }
   refine ⟨rfl, ?_⟩
   show St w0 (IsTab p ⟨T.last, (Tb.V ⟨T.last, mset id { o with used := true, who := who } T.l⟩).l⟩ :: l) w
   rw [<- e]; exact h
theorem qgh (id who : Int) (h : St w0 (IsTab p T.V :: l) w) : Ret prog 102 [.pz p, .iz id, .iz who] w fun v w' =>
  v = .bool (T.mine id who).isSome ∧ St w0 (IsTab p (T.free id who).V :: l) w' := by
 unfold Tb.free
 cases hm : T.mine id who with
 | none => exact f8 id who h (tb_no hm)
 | some o =>
  obtain ⟨_, h1, h2⟩ := tu hm
  refine (f9 id who h h1 h2).mono ?_
  rintro v w ⟨rfl, h⟩
  have e := nh (T := T) id { o with used := false }
  refine ⟨rfl, ?_⟩
  show St w0 (IsTab p ⟨T.last, (Tb.V ⟨T.last, mset id { o with used := false } T.l⟩).l⟩ :: l) w
  rw [<- e]; exact h
theorem qgd (id who n : Int) (h : St w0 (IsTab p T.V :: l) w) : Ret prog 101 [.pz p, .iz id, .iz who, .iz n] w fun v w' =>
  v = .bool (T.mine id who).isSome ∧ St w0 (IsTab p (T.move id who n).V :: l) w' := by
 unfold Tb.move
 cases hm : T.mine id who with
 | none => exact oq id who n h (tb_no hm)
 | some o =>
  obtain ⟨_, h1, h2⟩ := tu hm
  refine (og id who n h h1 h2).mono ?_
  rintro v w ⟨rfl, h⟩
  have e := nh (T := T) id { o with told := wI (o.told + max n 0) }
  refine ⟨rfl, ?_⟩
  show St w0 (IsTab p ⟨T.last, (Tb.V ⟨T.last, mset id { o with told := wI (o.told + max n 0) } T.l⟩).l⟩ :: l) w
  rw [<- e]; exact h
theorem qju (id who : Int) {o : On} (hm : T.mine id who = some o) (h : St w0 (IsTab p T.V :: l) w) : Ret prog 72 [.pz p, .iz id, .iz who] w fun v w' =>
  ∃ a1 c1 a2 c2, v = .tuple [.agg (o.x.V.cells a1 c1 a2 c2).toArray, .bool true].toArray ∧ St w0 (OwnPr a1 c1 o.x.parts :: OwnS a2 c2 o.x.tail :: IsTab p (Tb.V ⟨T.last, mdel id T.l⟩) :: l) w' := by
 obtain ⟨_, h1, h2⟩ := tu hm
 refine (p7 id who h h1 h2).mono ?_
 rintro v w ⟨a1, c1, a2, c2, rfl, h⟩
 refine ⟨a1, c1, a2, c2, rfl, ?_⟩
 have e : (Tb.V ⟨T.last, mdel id T.l⟩).l = mdel id T.V.l := (v8 On.V id T.l).symm
 show St w0 (_ :: _ :: IsTab p ⟨T.last, (Tb.V ⟨T.last, mdel id T.l⟩).l⟩ :: l) w
 rw [e]; exact h
theorem qjk (h : St w0 (IsTab p T.V :: l) w) : Ret prog 21 [.pz p] w fun v w' => v = .iz (T.l.length : Int) ∧ St w0 (IsTab p T.V :: l) w' := by
 refine (fa h).mono ?_
 rintro v w ⟨rfl, h⟩
 exact ⟨by show Value.iz ((T.l.map fun p => (p.1, p.2.V)).length : Int) = _; rw [Ve], h⟩
theorem qgb {x : Snp} {a1 a2 : Option Addr} {c1 c2 : Nat} (series : Int) (h : St w0 (IsTab p T.V :: l) w) (h8 : T.l.length < 8) (hfree : mget (T.last + 1) T.l = none) (hl0 : 0 <= T.last) (hl1 : T.last < 4611686018427387904)
  (hp : x.parts.length * 40 <= 140737488355328) (ht : x.tail.length * 16 <= 140737488355328) (hr1 : Reads w0 l 5 a1 x.parts.length (prtsV x.parts)) (hr2 : Reads w0 l 2 a2 x.tail.length (smpsV x.tail)) :
  Ret prog 64 [.pz p, .iz series, .agg (x.V.cells a1 c1 a2 c2).toArray] w fun v w' =>
  v = .tuple [.iz (T.last + 1), .bool true].toArray ∧ St w0 (IsTab p (Tb.V ⟨T.last + 1, mset (T.last + 1) ⟨series, 0, x, false, 0⟩ T.l⟩) :: l) w' := by
 have hw : x.V.Wf := ⟨v9 _, jt _, hp, ht⟩
 refine (f7 hw series h (by show (T.l.map fun p => (p.1, p.2.V)).length < 8; rw [Ve]; exact h8) (by show mget (T.last + 1) T.V.l = none; rw [yv, hfree]; rfl) hl0 hl1 (fun w' h' => hr1.at_ h') (fun w' h' => hr2.at_ h')).mono ?_
 rintro v w ⟨rfl, h⟩
 refine ⟨rfl, ?_⟩
 have e := nh (T := T) (T.last + 1) ⟨series, 0, x, false, 0⟩
 show St w0 (IsTab p ⟨T.last + 1, (Tb.V ⟨T.last, mset (T.last + 1) ⟨series, 0, x, false, 0⟩ T.l⟩).l⟩ :: l) w
 rw [<- e]; exact h
end
end
end Go.Proofs.YtngdfdangkdgcaaGreatDoor
