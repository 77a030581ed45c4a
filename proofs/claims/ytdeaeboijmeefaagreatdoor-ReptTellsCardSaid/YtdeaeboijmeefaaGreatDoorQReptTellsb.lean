/- What the proof of ReptTells needs, part 2: plain lemmas, and what each function does. -/
import Derived.Test.YtdeaeboijmeefaaGreatDoorQReptTellsa
import Derived.Lib.UnsafeStr
import Derived.LaidEql
import Derived.Lib.ConvBytes
import Derived.Lib.ParseIntBTie
import Derived.Lib.SplitLaws
import Derived.Test.YtdeaeboijmeefaaGreatDoorRows
import Derived.ProofKit
import Derived.LaidMore
import Derived.OpenShut
import Derived.Stop.Joined
import Derived.Stop.LaidErr
import Derived.Shelf.Vars
import Derived.LaidSub
import Derived.SizedLaws
import Derived.Handed
import Derived.KernelRfl
set_option linter.unusedVariables false
set_option linter.unusedSimpArgs false
set_option linter.unnecessarySimpa false
set_option maxRecDepth 100000
set_option maxHeartbeats 4000000
namespace Go.Hw
section
open Go.Lib
theorem St.freezes {w0 w : World} {l : List HProp} {g n o : Nat} {cs : Array Value} {T : TypeId} {fr : Nat × Nat} (h : St w0 (pt g (.cells cs T fr) :: l) w) (hn : n ≠ 0) : ∃ o', St w0 (pt g o' :: l) (w.freeze ⟨g, o, none⟩ n) := by
 have hb := h.hd.1
 have e1 : ∀ k, k ≠ g -> (w.freeze ⟨g, o, none⟩ n).heap[k]? = w.heap[k]? := fun k hk => by
  simp only [World.freeze]
  rw [if_neg hn]
  simp only [Array.getElem?_modify]
  rw [if_neg O3]
 obtain ⟨o', e2⟩ : ∃ o', (w.freeze ⟨g, o, none⟩ n).heap[g]? = some o' := by
  simp only [World.freeze]
  rw [if_neg hn]
  simp only [Array.getElem?_modify, if_true, hb, Uv]
  exact ⟨_, rfl⟩
 have e3 : (w.freeze ⟨g, o, none⟩ n).os = w.os ∧ (w.freeze ⟨g, o, none⟩ n).tape = w.tape ∧ (w.freeze ⟨g, o, none⟩ n).output = w.output ∧ w.heap.size = (w.freeze ⟨g, o, none⟩ n).heap.size := by
  simp only [World.freeze]
  rw [if_neg hn]
  simp
 exact ⟨o', h.put e3.1 e3.2.1 e3.2.2.1 e3.2.2.2 e1 e2⟩
section
variable {P : Program} {e : Env} {w : World} {d : Option Nat} {ty : TypeId} {pos : String} {af : Array Edge} {g : Option (Nat × Bool)}
theorem q_toU {s t T : TypeId} [hs : Und P s (.pointer T)] (hd : P.underlying t = some .unsafePointer) {z : List Value} {agg : Bool} {bytes : Nat} [hi : Inf P T z agg bytes] (hz : Vi 0 z.length = true) {x : Operand} {b : Nat} {cs : Array Value} {T' : TypeId} {fr : Nat × Nat}
  (hx : ev e x = .pz b) (hb : w.heap[b]? = some (.cells cs T' fr)) (hp : Vi 0 cs.size = true) : Qv P e ⟨d, .convert s t x, ty, pos, af, g⟩ w (.pz b) := by
 unfold Qv
 obtain ⟨i, h1, h2, h3, h4⟩ := hi.get
 have hz' : 0 < z.length := by simpa [Uy] using hz
 have hp' : 0 < cs.size := by simpa [Uy] using hp
 have key := Lib.run_to_unsafe (P := P) w (cells := cs.size) (e := T') ⟨b, 0, none⟩ hs.h hd h1 O3 (by simp [World.shape?, hb]) hp'
 simp only [execOp, hx, Sem.run_bind, key, Result.andThen_ok]; rfl
theorem xl {s t T : TypeId} (hs : P.underlying s = some .unsafePointer) [hd : Und P t (.pointer T)] {z : List Value} {agg : Bool} {bytes : Nat} [hi : Inf P T z agg bytes] {x : Operand} {b : Nat} {cs : Array Value} {T' : TypeId} {fr : Nat × Nat}
  (hx : ev e x = .pz b) (hb : w.heap[b]? = some (.cells cs T' fr)) (hl : liesAt P P.depth T' (cs.size / P.cellsOf T') 0 T 1 = true) : Qv P e ⟨d, .convert s t x, ty, pos, af, g⟩ w (.pz b) := by
 unfold Qv
 obtain ⟨i, h1, h2, h3, h4⟩ := hi.get
 have key := Lib.run_from_unsafe (P := P) w (cells := cs.size) (e := T') ⟨b, 0, none⟩ hs hd.h h1 (by simp [World.shape?, hb]) hl
 simp only [execOp, hx, Sem.run_bind, key, Result.andThen_ok]; rfl
theorem q_pne {t t2 el : TypeId} [hu : Und P t (.pointer el)] {z : List Value} {agg : Bool} {bytes : Nat} [hi : Inf P el z agg bytes] {x y : Operand} {a : Addr} (hx : ev e x = .pointer (some a)) (hy : ev e y = .pointer (some a)) :
  Qv P e ⟨d, .binOp .neq t x y t2, ty, pos, af, g⟩ w (.bool (!true)) := by
 obtain ⟨i, h1, h2, h3, h4⟩ := hi.get
 exact q_ne_of hx hy (fun k => by simp [Op.equalIn, run_underlying hu.h, sizeOf, typeInfo, h1, run_sameAddr_same]) rfl (fun _ _ => rfl)
theorem q_usd {t : TypeId} {x : Operand} {a : Addr} {n c : Nat} (hx : ev e x = .slice (some a) n c) (hc : c ≠ 0) : Qv P e ⟨d, .call ⟨.builtin .unsafeSliceData, [x].toArray, [t].toArray⟩, ty, pos, af, g⟩ w (.pointer (some a)) := by
 unfold Qv
 have key := Lib.run_unsafeSliceData_row (P := P) (w := w) [t].toArray ty a n c hc
 simp [execOp, resolve, hx, invoke, builtin, key]
theorem x_ustr {K : Env -> World -> Prop} {k : Nat} {t u T : TypeId} [ht : Und P t (.pointer T)] {x y : Operand} {b : Nat} {cs : Array Value} {fr : Nat × Nat} {bs : List UInt8} (hb : w.heap[b]? = some (.cells cs T fr)) (hx : ev e x = .pz b) (hy : ev e y = .iz bs.length) (hne : bs ≠ [])
  (h1 : P.cellsOf T = 1) (hn : bs.length <= cs.size) (h63 : bs.length <= 9223372036854775807) (hc : ∀ (j : Nat) (x : UInt8), bs[j]? = some x -> cs[j]? = some (Value.int .u8 x.toNat)) (h : K (upd e k (.string (strB bs))) (w.freeze ⟨b, 0, none⟩ bs.length)) :
  Ex P ⟨some k, .call ⟨.builtin .unsafeString, [x, y].toArray, [t, u].toArray⟩, ty, pos, af, g⟩ e w K := by
 have key := Lib.run_unsafeString_row (P := P) (w := w) t u ty T ht.h h1 b cs.size (by simp [World.shape?, hb]) bs hne hn h63 (fun j x hj => by
  have := hc j x hj
  have e1 : ((⟨b, 0, none⟩ : Addr).add j).block = b ∧ ((⟨b, 0, none⟩ : Addr).add j).off = j ∧ ((⟨b, 0, none⟩ : Addr).add j).spot = none := by
   simp only [Addr.add]
   split <;> simp_all
  simp [World.cell?, e1, hb, this])
 refine x_w (v := .string (strB bs)) (w' := w.freeze ⟨b, 0, none⟩ bs.length) ?_ h
 simp [execOp, resolve, hx, hy, invoke, builtin, key, strB]
end
end
end Go.Hw
namespace Go.Proofs.YtdeaeboijmeefaaGreatDoor
open Go.Hw _root_.Go.Proofs.Tryz
section
open Go.Hw Go.Lib
abbrev BldPt (b : Nat) (ad a : Option Addr) (m c : Nat) : HProp := pt b (.cells [.pointer ad, .slice a m c].toArray 97 (0, 0))
section
variable {w0 w : World} {l : List HProp}
theorem uu {b : Nat} {ad a : Option Addr} {m c : Nat} (had : ad = none ∨ ad = some ⟨b, 0, none⟩) (h : St w0 (BldPt b ad a m c :: l) w) :
  Ret prog 88 [.pz b] w fun _ w' => St w0 (BldPt b (sQ b) a m c :: l) w' := by
 refine en func88 results88 ntmps88 ?_
 refine Y8 ?_
 refine r_v (qk (v := .pointer ad) rfl (h.b 0 rfl) rfl) rfl ?_
 refine Y2t ?_; refine Y2 ?_
 rcases had with rfl | rfl
 ·refine qr rfl ?_; refine Y1h ?_; refine Y1e ?_
  refine r_v (q_toU underlying249 rfl rfl (h.b 0 rfl) rfl) rfl ?_
  refine r_v (z6 (v := .pz b) func149 O1 O1 O1 (E := Extern.AbiNoEscape.same) O1 rfl rfl) rfl ?_
  refine r_v (xl underlying249 rfl (h.b 0 rfl) O1) rfl ?_
  refine Yp ?_
  refine r_c rfl (qd 0 h rfl (show _ = Value.pz b from rfl) rfl rfl rfl rfl fun w h => ?_)
  exact qj (bq0n h)
 ·refine qn rfl ?_; refine Y8 ?_
  refine r_v (qk (v := .pz b) rfl (h.b 0 rfl) rfl) rfl ?_
  refine Y1e ?_
  refine r_v (q_pne rfl rfl) rfl ?_
  exact qj (qn rfl (q6 (bq0n h)))
theorem jm {b : Nat} {ad a : Option Addr} {c : Nat} {bs s : List UInt8} (had : ad = none ∨ ad = some ⟨b, 0, none⟩) (hlen : bs.length + s.length <= 140737488355328) (h : St w0 (BldPt b ad a bs.length c :: OwnB a c bs :: l) w) :
  Ret prog 43 [.pz b, .string (strB s)] w fun v w' => ∃ a' c', St w0 (BldPt b (sQ b) a' (bs ++ s).length c' :: OwnB a' c' (bs ++ s) :: l) w' := by
 refine en func43 results43 ntmps43 ?_
 refine Y1c ?_
 refine r_v (jv rfl) rfl ?_
 refine Y2b ?_
 refine r_c rfl (qq rfl (uu had h) ?_)
 clear h
 rintro _ w h
 refine Y2b ?_; refine Y1e ?_; refine Yp ?_
 refine r_v (qk (v := .slice a bs.length c) rfl (h.b 0 rfl) rfl) rfl ?_
 refine r_v (qf rfl) rfl ?_
 refine r_c rfl (yt (s := s) (h.f 1) rfl rfl rfl rfl O3 O3 fun a2 c2 w h => ?_)
 refine Yp ?_
 refine r_c rfl (qd 1 h rfl (show _ = Value.slice a2 (bs ++ s).length c2 from rfl) rfl rfl rfl rfl fun w h => ?_)
 refine Y9 ?_
 refine r_v (qf rfl) rfl (r_v (zb rfl) rfl ?_); refine Y7 ?_
 refine r_v (jv rfl) rfl ?_
 exact qj (qy (bq2 ⟨a2, c2, h.f 1⟩))
theorem va {b : Nat} {ad a : Option Addr} {c : Nat} {bs : List UInt8} (hne : bs ≠ []) (hlen : bs.length <= 140737488355328) (h : St w0 (BldPt b ad a bs.length c :: OwnB a c bs :: l) w) :
  Ret prog 46 [.pz b] w fun v w' => v = .string (strB bs) ∧ St w0 l w' := by
 have hpos := Vd.2 hne
 obtain ⟨h1, h2, ⟨_, _, h3, _⟩ | ⟨g, cur, rfl, h5, h6, h7⟩⟩ := (h.f 1).own_cases
 ·omega
 rw [Nat.mul_one] at h5 h6
 refine en func46 results46 ntmps46 ?_
 refine Y0 ?_
 refine r_v (qg rfl) rfl ?_
 refine Y2 ?_
 have h := (h7.f 1).drew
 have hφ : ∃ o', St w0 (BldPt b ad (sQ g) bs.length c :: pt g o' :: l) w.drew := ⟨_, h⟩
 refine ql (gf [0, 1, 2, 3, 4, 5, 6, 7, 8, 9, 10, 11] none (fun w => ∃ o', St w0 (BldPt b ad (sQ g) bs.length c :: pt g o' :: l) w) O1 O1 ?_)
 refine qv rfl rfl rfl rfl (fun _ => hφ) (fun _ => qx rfl (vh rfl)) ?_
 refine qv rfl rfl rfl rfl (fun _ => hφ) (fun _ => qx rfl (k6 rfl)) ?_
 refine qv rfl rfl rfl rfl (fun _ => hφ) (fun _ => qx rfl (jx rfl)) ?_
 refine qu rfl rfl rfl rfl hφ (fun _ h => h.elim fun _ h => qx rfl (qk (v := .slice (sQ g) bs.length c) rfl (h.b 0 rfl) rfl)) ?_
 refine qv rfl rfl rfl rfl (fun _ => hφ) (fun _ => qx rfl (q_usd rfl O3)) ?_
 refine qv rfl rfl rfl rfl (fun _ => hφ) (fun _ => qx rfl (vh rfl)) ?_
 refine qv rfl rfl rfl rfl (fun _ => hφ) (fun _ => qx rfl (k6 rfl)) ?_
 refine qv rfl rfl rfl rfl (fun _ => hφ) (fun _ => qx rfl (jx rfl)) ?_
 refine qu rfl rfl rfl rfl hφ (fun _ h => h.elim fun _ h => qx rfl (qk (v := .slice (sQ g) bs.length c) rfl (h.b 0 rfl) rfl)) ?_
 refine qv rfl rfl rfl rfl (fun _ => hφ) (fun _ => qx rfl (zd rfl)) ?_
 refine Y1g ?_
 have hc : ∀ (j : Nat) (x : UInt8), bs[j]? = some x -> cur.toArray[j]? = some (Value.int .u8 x.toNat) := fun j x hj => by
  have hj2 : j < bs.length := (Ue.1 hj).1
  have e1 : (bytesV bs)[j]? = some (Value.int .u8 x.toNat) := by simp [bytesV, hj]
  rw [<- h6, List.getElem?_take_of_lt hj2] at e1
  simpa using e1
 obtain ⟨o', h'⟩ := (h.f 1).freezes (n := bs.length) O3
 have hφ' := h'.f 1
 refine qh 10 rfl rfl rfl rfl (x_ustr (bs := bs) (h.f 1).hd.1 rfl rfl hne rfl (by simpa using Vf h2 h5) O3 hc ⟨fun _ => ⟨o', hφ'⟩, ?_⟩)
 refine qv rfl rfl rfl rfl (fun _ => ⟨o', hφ'⟩) (fun _ => qx rfl (qg rfl)) ?_
 exact qi (qy (bq1 ⟨rfl, hφ'.drop.drop⟩))
end
end
end Go.Proofs.YtdeaeboijmeefaaGreatDoor
namespace Go.Hw
section
open Go.Lib
theorem St.bytes {w0 w : World} {l : List HProp} (h : St w0 l w) (e : TypeId) (s : ByteArray) : ∃ fr, St w0 (pt w.heap.size (.cells (bytesCells w e s) e fr) :: l) (bytesWorld w e s) := by
 have h1 := h.drew.alloc (.cells (bytesCells w e s) e (0, 0))
 obtain ⟨o', h2⟩ := h1.freezes (o := (bytesCells w e s).size) (n := 1) O4
 have h3 := bytesWorld_at_new w e s
 have h4 := h2.hd.1
 have e1 : (w.drew.alloc (.cells (bytesCells w e s) e)).freeze ⟨w.heap.size, (bytesCells w e s).size, none⟩ 1 = bytesWorld w e s := rfl
 have e2 : w.drew.heap.size = w.heap.size := rfl
 rw [e2, e1] at h2 h4
 rw [h3] at h4
 obtain rfl := Option.some.inj h4
 exact ⟨_, h2⟩
section
variable {P : Program} {e : Env} {w w0 : World} {l : List HProp} {K : Env -> World -> Prop} {d : Option Nat} {ty : TypeId} {pos : String} {af : Array Edge} {g : Option (Nat × Bool)}
theorem x_ztob {c : Nat} {s t T : TypeId} [hs : Und P s .string] [ht : Und P t (.slice T)] [hT : Und P T (.int .u8)] {x : Operand} {l0 : List UInt8} (h : St w0 l w) (hx : ev e x = .string (strB l0))
  (k : ∀ (b cc : Nat) (cs : List Value) (fr : Nat × Nat) (w' : World), l0.length <= cc -> (∀ (j : Nat) (c : UInt8), l0[j]? = some c -> cs[j]? = some (Value.int .u8 c.toNat)) -> St w0 (pt b (.cells cs.toArray T fr) :: l) w' -> K (upd e c (.slice (sQ b) l0.length cc)) w') :
  Ex P ⟨some c, .convert s t x, ty, pos, af, g⟩ e w K := by
 have key := Lib.run_convert_string_bytes (P := P) w s t T (strB l0) hs.h ht.h hT.h
 rw [strB_size] at key
 obtain ⟨fr, h1⟩ := h.bytes T (strB l0)
 refine x_w (v := .slice (some ⟨w.heap.size, 0, none⟩) l0.length (grownCap w l0.length 0 T)) (w' := bytesWorld w T (strB l0)) ?_ (k _ _ (bytesCells w T (strB l0)).toList fr _ ?_ ?_ (by rw [Array.toArray_toList]; exact h1))
 ·simp only [execOp, hx, Sem.run_bind, key, Result.andThen_ok]; rfl
 ·simp [grownCap, Question.cut]
 ·intro j c hj
  have hj2 := (Ue.1 hj).1
  have e3 : (strB l0).data.toList = l0 := by simp [strB]
  rw [Array.getElem?_toList, bytesCells, Array.getElem?_append]
  have : j < ((strB l0).data.map fun b => Value.int .u8 b.toNat).size := by rw [Array.size_map]; show j < l0.toArray.size; simpa using hj2
  rw [if_pos this, Array.getElem?_map]
  have e4 : (strB l0).data[j]? = some c := by show l0.toArray[j]? = some c; simpa using hj
  rw [e4]; rfl
theorem z7 {t t2 : TypeId} (hu : ∃ m, P.underlying t = some (.interface m)) {x : Operand} {v : Value} (hx : ev e x = v) (hv : v = .nilIface ∨ ∃ a b, v = .iface a b) :
  Qv P e ⟨d, .binOp .neq t x (.const .nilIface) t2, ty, pos, af, g⟩ w (.bool (match v with | .nilIface => false | _ => true)) := by
 obtain ⟨m, hu⟩ := hu
 rcases hv with rfl | ⟨a, b, rfl⟩
 ·have h : ∀ k, (Op.equalIn (k + 1) t .nilIface .nilIface).run P w = .ok true w := fun k => by unfold Op.equalIn; rw [Sem.run_bind, run_underlying hu]; rfl
  have h2 := vu h
  have hb : binOp .neq t .nilIface .nilIface = (do pure (.bool (!(<- Op.equal t .nilIface .nilIface)))) := rfl
  have hy : ev e (.const .nilIface) = .nilIface := rfl
  unfold Qv
  simp [execOp, hx, hy, eqGuard, hb, h2]
 ·exact q_ne_of (b := false) hx (show ev e (.const .nilIface) = .nilIface from rfl) (fun k => by unfold Op.equalIn; rw [Sem.run_bind, run_underlying hu]; rfl) rfl (fun _ _ => rfl)
theorem vm {x : Operand} {v : Value} (hx : ev e x = v) (hv : v = .nilIface ∨ ∃ a b, v = .iface a b) : Qv P e ⟨d, .move x, ty, pos, af, g⟩ w v := by
 rcases hv with rfl | ⟨a, b, rfl⟩ <;> (unfold Qv; simp [execOp, hx])
theorem q9 {x : Operand} {v : Value} (hx : ev e x = v) (hv : v = .nilIface ∨ ∃ a b, v = .iface a b) : Qv P e ⟨d, .assign x, ty, pos, af, g⟩ w v := by
 rcases hv with rfl | ⟨a, b, rfl⟩ <;> (unfold Qv; simp [execOp, hx])
theorem yy {t : TypeId} {k : IntKind} [hu : Und P t (.int k)] {x : Operand} {v : Value} (hx : ev e x = v) : Qv P e ⟨d, .makeInterface t x, ty, pos, af, g⟩ w (.iface t v) := by
 unfold Qv
 simp [execOp, hx, Instr.makeInterface, run_underlying hu.h]
end
end
end Go.Hw
namespace Go.Proofs.YtdeaeboijmeefaaGreatDoor
open Go.Hw _root_.Go.Proofs.Tryz
section
open Go.Hw Go.Lib
def ErrOk (v : Value) : Prop := v = .nilIface ∨ v = .iface 305 (.iz 2) ∨ v = .iface 305 (.iz 1)
theorem ErrOk.any {v : Value} (h : ErrOk v) : v = .nilIface ∨ ∃ a b, v = .iface a b := by
 rcases h with rfl | rfl | rfl
 ·exact .inl rfl
 ·exact .inr ⟨_, _, rfl⟩
 ·exact .inr ⟨_, _, rfl⟩
instance undErr : Und prog 305 (.int .i64) := ⟨underlying305⟩
theorem un : ∃ m, prog.underlying 99 = some (.interface m) := ⟨_, underlying99⟩
structure Rn1 (W : World) : Prop where
 sx : 2 < W.heap.size ∧ ∃ ev, W.cell? ⟨2, 0, none⟩ = some ev ∧ (ev = .nilIface ∨ ∃ te pe, ev = .iface te pe)
 rg : 3 < W.heap.size ∧ ∃ ev, W.cell? ⟨3, 0, none⟩ = some ev ∧ (ev = .nilIface ∨ ∃ te pe, ev = .iface te pe)
theorem St.under {w0 w w' : World} {l : List HProp} (h : St w0 l w) (hb : RowKit.Below w.heap.size w w') : St w0 l w' :=
 h.grow hb.os hb.tape hb.output hb.size (fun k hk => hb.block k hk)
section
variable {w0 w : World} {l : List HProp}
theorem vr (hE : Rn1 w0) {fn s : List UInt8} {base bits : Int} {ev : Value} (hs : s.length <= 281474976710656) (hev : ErrOk ev) (hne : ev ≠ .nilIface) (h : St w0 l w) :
  Ret prog 156 [.string (strB fn), .string (strB s), .iz base, .iz bits, ev] w fun v w' => (v = .nilIface ∨ ∃ a b, v = .iface a b) ∧ St w0 l w' := by
 rcases hev with rfl | rfl | rfl
 ·exact absurd rfl hne
 ·obtain ⟨hlt, x, h1, h2⟩ := hE.sx
  exact Ret.of (Tryz.strconv_toError_syntax (strB fn) (strB s) base bits x w (by rw [strB_size]; exact hs) ((h.cell_old hlt).trans h1) h2) fun e w' ⟨N, e1, _, _, e4⟩ => ⟨_, e1, .inr ⟨_, _, rfl⟩, St.under h e4⟩
 ·obtain ⟨hlt, x, h1, h2⟩ := hE.rg
  exact Ret.of (Tryz.strconv_toError_range (strB fn) (strB s) base bits x w (by rw [strB_size]; exact hs) ((h.cell_old hlt).trans h1) h2) fun e w' ⟨N, e1, _, _, e4⟩ => ⟨_, e1, .inr ⟨_, _, rfl⟩, St.under h e4⟩
end
end
end Go.Proofs.YtdeaeboijmeefaaGreatDoor
namespace Go.Hw
section
open Go.Lib
def Hx (s : List UInt8) (k n : Nat) : Prop := ∀ u, u < 18446744073709551616 -> s = hexS u -> n = hexN 0 (s.take k)
theorem hexDig_of {u : Nat} {k : Nat} {c : UInt8} (h : (hexS u)[k]? = some c) : ∃ d, d < 16 ∧ c = hexDig d := hexS_mem u c (Vc h)
theorem Hx.step {s : List UInt8} {k n d : Nat} {c : UInt8} (h : Hx s k n) (hc : s[k]? = some c) (hd : ∀ d', d' < 16 -> c = hexDig d' -> d = d') : Hx s (k + 1) (n * 16 + d) := by
 intro u hu hs
 obtain ⟨d', h1, h2⟩ := hexDig_of (hs ▸ hc)
 rw [List.take_add_one, hc, hexN_append, <- h u hu hs, hd d' h1 h2]
 show n * 16 + d' = n * 16 + hexV c
 rw [h2, hexV_dig h1]
theorem Hx.small {s : List UInt8} {k n : Nat} {c : UInt8} (h : Hx s k n) (hc : s[k]? = some c) {u : Nat} (hu : u < 18446744073709551616) (hs : s = hexS u) : n < 1152921504606846976 := by
 have h1 := h u hu hs
 have h2 : hexN 0 s = u := by rw [hs]; exact hexN_S u
 have h3 : s = s.take k ++ c :: s.drop (k + 1) := by
  have hk := (Ue.1 hc).1
  have e := (Ue.1 hc).2
  have e2 := List.drop_eq_getElem_cons hk
  rw [e] at e2
  rw [<- e2, List.take_append_drop]
 rw [h3, hexN_append, <- h1] at h2
 have h4 := hexN_le (s.drop (k + 1)) (n * 16 + hexV c)
 have h5 : hexN n (c :: s.drop (k + 1)) = hexN (n * 16 + hexV c) (s.drop (k + 1)) := rfl
 omega
theorem lowV : ∀ d, d < 16 -> 10 <= d -> ((hexDig d).toNat ||| 32) = 87 + d ∧ (hexDig d).toNat = 87 + d := by decide
theorem digV : ∀ d, d < 10 -> (hexDig d).toNat = 48 + d := by decide
theorem or_lt {a : Nat} (h : a < 256) : a ||| 32 < 256 := Nat.or_lt_two_pow (n := 8) h O4
end
end Go.Hw
namespace Go.Proofs.YtdeaeboijmeefaaGreatDoor
open Go.Hw _root_.Go.Proofs.Tryz
section
open Go.Hw Go.Lib
section
variable {w0 w : World} {l : List HProp}
theorem gw {c : Nat} (hc : c < 256) (h : St w0 l w) : Ret prog 213 [.int .u8 c] w fun v w' => v = .int .u8 ((c ||| 32 : Nat) : Int) ∧ St w0 l w' := by
 refine en func213 results213 ntmps213 ?_
 refine Yi ?_; refine Y5 ?_; refine r_v (q_or rfl rfl) rfl ?_
 refine qw (.int .u8 ((c ||| 32 : Nat) : Int)) (by rw [show bitOp .or .u8 (c : Int) 32 = ((c ||| 32 : Nat) : Int) from (bit_u8 hc O4).2.1]) ?_
 refine Y7 ?_
 exact qj (qy (bq1 ⟨rfl, h⟩))
abbrev Reads16 (w0 : World) (l : List HProp) (s : List UInt8) (v : Value) (w' : World) : Prop := ∃ (x : Nat) (ev : Value), v = .tuple [.int .u64 x, ev].toArray ∧ x < 18446744073709551616 ∧ ErrOk ev ∧ (∀ u, u < 18446744073709551616 -> s = hexS u -> x = u) ∧ St w0 l w'
theorem v6 {s : List UInt8} (hn : s.length <= 281474976710656) (h : St w0 l w) :
  Ret prog 157 [.string (strB s), .iz 16, .iz 64] w (Reads16 w0 l s) := by
 refine en func157 results157 ntmps157 ?_
 refine Y1c ?_
 refine r_v (jv rfl) rfl ?_
 refine Y27 ?_
 refine r_v (qf rfl) rfl (r_v (q7 rfl rfl) rfl ?_)
 refine qw (.bool (decide (s = []))) (congrArg Value.bool (strB_same s [])) ?_
 by_cases hs : s = []
 ·refine qw (.bool true) (congrArg Value.bool (decide_eq_true hs)) ?_
  refine Y1n ?_
  refine r_v (yy rfl) rfl ?_
  refine Y7 ?_
  refine r_v (q9 rfl (.inr ⟨_, _, rfl⟩)) rfl ?_
  exact qj (qy (bq2 ⟨0, _, rfl, O_c, .inr (.inl rfl), fun u _ hu => absurd (hu.symm.trans hs) (hexS_ne u), h⟩))
 refine qw (.bool false) (congrArg Value.bool (decide_eq_false hs)) ?_
 refine Yh ?_; refine Y5 ?_; refine Yc ?_; refine Y6 ?_; refine Y0 ?_
 refine r_v (qf rfl) rfl (r_v (qg rfl) rfl ?_)
 refine Y2 ?_; refine Y1x ?_; refine Y5 ?_; refine Y1w ?_; refine Y1d ?_; refine Y1w ?_; refine Yb ?_; refine Y20 ?_; refine Yg ?_; refine Ys ?_; refine Yc ?_; refine Y2y ?_; refine Y2o ?_; refine Y1d ?_; refine Y1q ?_; refine Y2j ?_; refine Yi ?_; refine Ys ?_; refine Y2l ?_; refine Y1k ?_; refine Y22 ?_; refine Y1k ?_; refine Y20 ?_; refine jj ?_; refine Y3 ?_; refine Y2p ?_
 refine r_v (qa (v' := .int .u64 0) (q_shl rfl rfl O4) rfl) rfl ?_
 refine Y10 ?_
 refine qw (.int .u64 18446744073709551615) rfl ?_
 refine Y3 ?_; refine Yz ?_; refine Yi ?_; refine Y15 ?_
 refine r_v (qf rfl) rfl ?_
 refine r_c rfl (x_ztob h rfl fun b cc cs fr w hcc hcs h => ?_)
 refine Y25 ?_; refine Y1s ?_
 refine gu (Γ := Nat × Nat) (fun k => [(1, .iz 16), (8, .bool false), (9, .string (strB s)), (10, .int .u64 1152921504606846976), (11, .int .u64 18446744073709551615), (12, .bool false), (13, .int .u64 k.2), (99, .slice (sQ b) s.length cc), (100, .iz s.length), (101, .iz k.1)])
  (fun k w => k.1 <= s.length ∧ k.2 < 18446744073709551616 ∧ Hx s k.1 k.2 ∧ St w0 (pt b (.cells cs.toArray 5 fr) :: l) w) (fun k => s.length - k.1) (0, 0) zz10 ⟨Vl _, O_c, fun _ _ _ => rfl, h⟩ ?_
 clear h
 rintro ⟨k, n⟩ w e ⟨hk, hn64, hx, h⟩
 dsimp only at hk hn64 hx h ⊢
 refine Y32 ?_
 by_cases hlt : k < s.length
 ·refine qw (.bool true) O6 ?_
  refine qj (ql (qr rfl (q6 ?_)))
  have hget : s[k]? = some s[k] := Ub hlt
  generalize s[k] = c at hget
  refine Y1x ?_; refine Y0 ?_
  refine r_v (vy (j := k) (o' := k) rfl rfl rfl hlt O8) rfl ?_
  refine r_v (qk (v := .int .u8 c.toNat) rfl (h.b 0 rfl) (hcs k c hget)) rfl ?_
  refine Y3 ?_; refine Yi ?_
  have hc256 : c.toNat < 256 := c.toNat_lt
  refine jp (Γ := Nat) (fun d => [(1, .iz 16), (8, .bool false), (9, .string (strB s)), (10, .int .u64 1152921504606846976), (11, .int .u64 18446744073709551615), (12, .bool false), (13, .int .u64 n), (16, .int .u8 d), (99, .slice (sQ b) s.length cc), (100, .iz s.length), (101, .iz k)])
   (fun d w => d < 256 ∧ (∀ d', d' < 16 -> c = hexDig d' -> d = d') ∧ St w0 (pt b (.cells cs.toArray 5 fr) :: l) w) ?_ ?_
  ·refine Yl ?_
   refine jp (Γ := Unit) (fun _ => [(1, .iz 16), (8, .bool false), (9, .string (strB s)), (10, .int .u64 1152921504606846976), (11, .int .u64 18446744073709551615), (12, .bool false), (13, .int .u64 n), (15, .int .u8 c.toNat), (99, .slice (sQ b) s.length cc), (100, .iz s.length), (101, .iz k), (106, .bool false)])
    (fun _ w => St w0 (pt b (.cells cs.toArray 5 fr) :: l) w) ?_ ?_
   ·refine Yj ?_; refine Yc ?_
    by_cases h95 : c.toNat = 95
    ·refine qw (.bool true) (by congr 1; rw [beq_iff_eq]; omega) ?_
     refine Ym ?_; refine Y13 ?_; refine Y2h ?_
     exact qj ⟨(), zz12, h⟩
    ·refine qw (.bool false) (by congr 1; rw [beq_eq_false_iff_ne]; omega) ?_
     refine Y13 ?_; refine Y1b ?_; refine Y2d ?_
     exact qj ⟨(), zz12, h⟩
   clear h
   rintro ⟨⟩ w e h
   refine qn rfl ?_
   by_cases hdg : 48 <= c.toNat ∧ c.toNat <= 57
   ·refine Y5 ?_; refine Y1w ?_
    refine qw (.bool true) O6 ?_
    refine Y1d ?_; refine Y1w ?_
    refine qw (.bool true) O6 ?_
    refine Yb ?_; refine Y20 ?_; refine Yj ?_; refine Y10 ?_
    refine qw (.int .u8 ((c.toNat - 48 : Nat) : Int)) (by rw [show (c.toNat : Int) - 48 = ((c.toNat - 48 : Nat) : Int) by omega, vb, Ud O3]) ?_
    refine Y7 ?_
    refine qj ⟨c.toNat - 48, zz11, O_o, fun d' h1 h2 => ?_, h⟩
    rcases Nat.lt_or_ge d' 10 with h3 | h3
    ·have := digV d' h3; rw [h2]; omega
    ·have := (lowV d' h1 h3).2; rw [h2] at hdg; omega
   refine jp (Γ := Unit) (fun _ => [(1, .iz 16), (8, .bool false), (9, .string (strB s)), (10, .int .u64 1152921504606846976), (11, .int .u64 18446744073709551615), (12, .bool false), (13, .int .u64 n), (15, .int .u8 c.toNat), (99, .slice (sQ b) s.length cc), (100, .iz s.length), (101, .iz k), (112, .bool false)])
    (fun _ w => St w0 (pt b (.cells cs.toArray 5 fr) :: l) w) ?_ ?_
   ·refine Yj ?_; refine Y1w ?_
    by_cases h48 : 48 <= c.toNat
    ·refine qw (.bool true) O6 ?_
     refine Y1d ?_; refine Y1w ?_
     refine qw (.bool false) O5 ?_
     refine Y2h ?_
     exact qj ⟨(), zz12, h⟩
    ·refine qw (.bool false) O5 ?_
     refine Y1l ?_; refine Y2d ?_
     exact qj ⟨(), zz12, h⟩
   clear h
   rintro ⟨⟩ w e h
   refine qn rfl ?_
   have hlw := or_lt hc256
   have hge : ∀ d', d' < 16 -> c = hexDig d' -> 10 <= d' := fun d' _ h2 => by
    rcases Nat.lt_or_ge d' 10 with h3 | h3
    ·have := digV d' h3; rw [h2] at hdg; omega
    ·exact h3
   by_cases hlo : 97 <= (c.toNat ||| 32) ∧ (c.toNat ||| 32) <= 122
   ·refine Y5 ?_
    refine r_c rfl (qq rfl (gw hc256 h) ?_)
    clear h
    rintro _ w ⟨rfl, h⟩
    refine Y1w ?_
    refine qw (.bool true) O6 ?_
    refine Y1d ?_
    refine r_c rfl (qq rfl (gw hc256 h) ?_)
    clear h
    rintro _ w ⟨rfl, h⟩
    refine Y4 ?_; refine Y1w ?_
    refine qw (.bool true) O6 ?_
    refine Yb ?_; refine Y20 ?_; refine Yj ?_
    refine r_c rfl (qq rfl (gw hc256 h) ?_)
    clear h
    rintro _ w ⟨rfl, h⟩
    refine Y10 ?_
    refine qw (.int .u8 (((c.toNat ||| 32) - 97 : Nat) : Int)) (by rw [show ((c.toNat ||| 32 : Nat) : Int) - 97 = (((c.toNat ||| 32) - 97 : Nat) : Int) by omega, vb, Ud O3]) ?_
    refine Yv ?_
    refine qw (.int .u8 (((c.toNat ||| 32) - 97 + 10 : Nat) : Int)) (by rw [show (((c.toNat ||| 32) - 97 : Nat) : Int) + 10 = (((c.toNat ||| 32) - 97 + 10 : Nat) : Int) by omega, vb, Ud O3]) ?_
    refine Y7 ?_
    refine qj ⟨(c.toNat ||| 32) - 97 + 10, zz11, O_o, fun d' h1 h2 => ?_, h⟩
    have := (lowV d' h1 (hge d' h1 h2)).1
    rw [<- h2] at this
    omega
   refine jp (Γ := Unit) (fun _ => [(121, .bool false)]) (fun _ w => St w0 (pt b (.cells cs.toArray 5 fr) :: l) w) ?_ ?_
   ·refine Yj ?_
    refine r_c rfl (qq rfl (gw hc256 h) ?_)
    clear h
    rintro _ w ⟨rfl, h⟩
    refine Y1w ?_
    by_cases h97 : 97 <= (c.toNat ||| 32)
    ·refine qw (.bool true) O6 ?_
     refine Y1d ?_
     refine r_c rfl (qq rfl (gw hc256 h) ?_)
     clear h
     rintro _ w ⟨rfl, h⟩
     refine Y4 ?_; refine Y1w ?_
     refine qw (.bool false) O5 ?_
     refine Y2h ?_
     exact qj ⟨(), ⟨rfl, trivial⟩, h⟩
    ·refine qw (.bool false) O5 ?_
     refine Y1l ?_; refine Y1b ?_; refine Y2d ?_
     exact qj ⟨(), ⟨rfl, trivial⟩, h⟩
   clear h
   rintro ⟨⟩ w e h
   refine qn rfl ?_; refine Y0 ?_
   refine r_v (yy rfl) rfl ?_
   refine Y7 ?_
   refine r_v (q9 rfl (.inr ⟨_, _, rfl⟩)) rfl ?_
   refine qj (qy (bq2 ⟨0, _, rfl, O_c, .inr (.inl rfl), fun u _ hu => ?_, h.drop⟩))
   obtain ⟨d', h1, h2⟩ := hexDig_of (hu ▸ hget)
   have hh := hge d' h1 h2
   have := (lowV d' h1 hh).1
   rw [<- h2] at this
   omega
  clear h
  rintro d w e ⟨hd, hdh, h⟩
  refine Ys ?_; refine Y1 ?_; refine Yw ?_
  refine qw (.int .u8 16) rfl ?_
  refine Y1i ?_
  by_cases h16 : 16 <= d
  ·refine qw (.bool true) O6 ?_
   refine Y1n ?_
   refine r_v (yy rfl) rfl ?_
   refine Y7 ?_
   refine r_v (q9 rfl (.inr ⟨_, _, rfl⟩)) rfl ?_
   refine qj (qy (bq2 ⟨0, _, rfl, O_c, .inr (.inl rfl), fun u _ hu => ?_, h.drop⟩))
   obtain ⟨d', h1, h2⟩ := hexDig_of (hu ▸ hget)
   have := hdh d' h1 h2
   omega
  refine qw (.bool false) O5 ?_
  refine Yh ?_; refine Ys ?_; refine Y1 ?_; refine Y1i ?_
  by_cases h60 : 1152921504606846976 <= n
  ·refine qw (.bool true) O6 ?_
   refine Yk ?_; refine Y5 ?_
   refine r_v (yy rfl) rfl ?_
   refine Y7 ?_
   refine r_v (q9 rfl (.inr ⟨_, _, rfl⟩)) rfl ?_
   refine qj (qy (bq2 ⟨18446744073709551615, _, rfl, O_c, .inr (.inr rfl), fun u hu64 hu => ?_, h.drop⟩))
   have := hx.small hget hu64 hu
   omega
  refine qw (.bool false) O5 ?_
  refine Yh ?_; refine Y24 ?_; refine Yw ?_
  refine qw (.int .u64 16) rfl ?_
  refine Y2u ?_
  refine qw (.int .u64 ((n * 16 : Nat) : Int)) (by rw [show (n : Int) * 16 = ((n * 16 : Nat) : Int) by omega, jz, Ud O3]) ?_
  refine Y3 ?_; refine Y24 ?_; refine Yw ?_
  refine qw (.int .u64 (d : Int)) (by rw [jz, Ud O3]) ?_
  refine Yv ?_
  refine qw (.int .u64 ((n * 16 + d : Nat) : Int)) (by rw [show ((n * 16 : Nat) : Int) + (d : Int) = ((n * 16 + d : Nat) : Int) by omega, jz, Ud O3]) ?_
  refine Y3 ?_; refine Ys ?_; refine Y1 ?_; refine Y1o ?_
  refine qw (.bool false) O5 ?_
  refine Y1d ?_; refine Y31 ?_; refine Y1q ?_
  refine qw (.bool false) O5 ?_
  refine Y2j ?_; refine Yj ?_; refine Y3 ?_; refine Y19 ?_
  refine qw (.iz (k + 1 : Nat)) O10 ?_
  refine Y1 ?_
  exact qj ⟨(k + 1, n * 16 + d), zz10, ⟨hlt, O_d, hx.step hget hdh, h⟩, O_d⟩
 ·refine qw (.bool false) O5 ?_
  refine qj (ql (qn rfl (gg ?_)))
  refine Y33 ?_; refine Y1l ?_; refine Y1b ?_; refine Y2j ?_; refine Y5 ?_; refine Y7 ?_
  refine r_v (jv rfl) rfl ?_
  refine qj (qy (bq2 ⟨n, _, rfl, hn64, .inl rfl, fun u hu64 hu => ?_, h.drop⟩))
  obtain rfl : k = s.length := by omega
  rw [hx u hu64 hu, List.take_length, hu, hexN_S]
end
end
end Go.Proofs.YtdeaeboijmeefaaGreatDoor
namespace Go.Hw
section
open Go.Lib
theorem joinW_flat (w : List UInt8) (r : List (List UInt8)) : joinW (w :: r) = w ++ r.flatMap (fun x => 32 :: x) := by
 induction r generalizing w with
 | nil => simp [joinW]
 | cons a r ih => rw [joinW_cons _ O8, ih a]; simp
def Res.txt (r : Res) (k : Nat) : List UInt8 := [111, 107, 32] ++ itoa r.iter ++ (r.list.take k).flatMap fun s => 32 :: smpW s
theorem Res.txt_ok (r : Res) (h : r.err = 0) : resS r = r.txt r.list.length := by
 unfold resS resW Res.txt
 rw [if_neg (by simp [h]), joinW_flat, List.take_length]
 simp [wOk, List.flatMap_map]
theorem Res.txt_err (r : Res) (h : r.err ≠ 0) : resS r = [101, 114, 114, 111, 114, 32] ++ itoa r.err := by
 unfold resS resW
 rw [if_pos h]
 simp [joinW, wErr]
theorem Res.txt_step (r : Res) {k : Nat} {s : Smp} (hs : r.list[k]? = some s) : r.txt (k + 1) = r.txt k ++ 32 :: smpW s := by
 unfold Res.txt
 rw [List.take_add_one, hs]
 simp
theorem smpW_len {s : Smp} (h : s.Wf) : (smpW s).length <= 38 := by
 have h1 := qs h.1
 have h2 := hexS_len s.V.toNat 16 O4 (by have := h.2; omega)
 unfold smpW
 rw [Ua, Ur]
 omega
theorem Res.txt_len (r : Res) (hi : I64 r.iter) (hw : ∀ s ∈ r.list, s.Wf) (k : Nat) (hk : k <= r.list.length) : (r.txt k).length <= 24 + 39 * k := by
 induction k with
 | zero =>
  have := qs hi
  simp [Res.txt]; omega
 | succ k ih =>
  have hget : r.list[k]? = some r.list[k] := Ub O3
  have := smpW_len (hw _ (Vc hget))
  rw [Res.txt_step r hget, Ua, Ur]
  have := ih O3
  omega
end
end Go.Hw
namespace Go.Proofs.YtdeaeboijmeefaaGreatDoor
open Go.Hw _root_.Go.Proofs.Tryz
section
open Go.Hw Go.Lib
section
variable {w0 w : World} {l : List HProp}
theorem ref27_Result {a : Option Addr} {c : Nat} {r : Res} (he : I64 r.err) (hi : I64 r.iter) (hw : ∀ s ∈ r.list, s.Wf) (hn : r.list.length <= 4294967296) (hr : Reads w0 l 2 a r.list.length (smpsV r.list)) (h : St w0 l w) :
  Ret prog 12 [.agg (r.C a c).toArray] w fun v w' => v = .string (strB (resS r)) ∧ St w0 l w' := by
 have m1 := qs he
 have m2 := qs hi
 have htl := r.txt_len hi hw
 refine en func12 results12 ntmps12 ?_
 refine Y0 ?_
 refine r_c rfl (js h (show _ = Value.agg (r.C a c).toArray from rfl) fun b w h => ?_)
 refine r_v (qg rfl) rfl ?_
 refine Y27 ?_; refine Ya ?_; refine r_v (qk rfl (h.b 0) rfl) rfl ?_; refine Y2s ?_
 refine qj (qo (!(r.err == 0)) rfl (fun hk => ?_) (fun hk => ?_))
 ·have hk : r.err ≠ 0 := by simpa using hk
  refine Y1y ?_; refine r_v (qk rfl (h.b 0) rfl) rfl ?_
  refine r_c rfl (qq rfl (ref27_Num he h) ?_)
  clear h
  rintro _ w ⟨rfl, h⟩
  refine r_v (qz rfl rfl O0) rfl ?_
  refine r_v (qg rfl) rfl ?_
  exact qj (qy (bq1 ⟨congrArg (fun x => Value.string (strB x)) (Res.txt_err r hk).symm, h.drop⟩))
 have hk : r.err = 0 := by simpa using hk
 refine Yg ?_; refine Y1y ?_; refine r_v (qk rfl (h.b 0) rfl) rfl ?_
 refine r_c rfl (qq rfl (ref27_Num hi h) ?_)
 clear h
 rintro _ w ⟨rfl, h⟩
 refine r_v (qz rfl rfl O0) rfl ?_
 refine r_v (qg rfl) rfl ?_
 refine Y27 ?_; refine Y3 ?_; refine Yl ?_
 refine gu (Γ := Nat) (fun k => [(1, .pz b), (3, .string (strB (r.txt k))), (4, .iz k)])
  (fun k w => k <= r.list.length ∧ St w0 (pt b (.cells (r.C a c).toArray 28 (0, 0)) :: l) w) (fun k => r.list.length - k) 0 ⟨rfl, congrArg (fun x => Value.string (strB x)) (show [111, 107, 32] ++ itoa r.iter = r.txt 0 by simp [Res.txt]), rfl, trivial⟩ ⟨Vl _, h⟩ ?_
 clear h
 rintro k w e ⟨hkn, h⟩
 have hkl := htl k hkn
 refine Ys ?_; refine Ya ?_; refine r_v (qk rfl (h.b 0) rfl) rfl ?_; refine Y25 ?_; refine Y1o ?_
 by_cases hlt : k < r.list.length
 ·refine qw (.bool true) O6 ?_
  refine Yk ?_; refine Yg ?_
  have hget : r.list[k]? = some r.list[k] := Ub hlt
  generalize r.list[k] = s at hget
  have hsw := hw s (Vc hget)
  have m3 := qs hsw.1
  have e1 : s.V = ((s.V.toNat : Nat) : Int) := by have := hsw.2; omega
  have m4 := hexS_len s.V.toNat 16 O4 (by have := hsw.2; omega)
  obtain ⟨b2, o2, rfl⟩ : ∃ b2 o2, a = some ⟨b2, o2, none⟩ := by
   rcases (hr [_] w h).2 with h0 | ⟨b2, o2, h1, _⟩
   ·omega
   ·exact ⟨b2, o2, h1⟩
  refine Y1x ?_
  refine gk none (fun w => St w0 _ w) O1 O1 h.drew fun w h => ?_
  refine cpv rfl rfl rfl rfl h rfl (qf rfl) ?_
  refine cpv rfl rfl rfl rfl h rfl (qz rfl rfl O0) ?_
  refine Y11 ?_; refine qu rfl rfl rfl rfl h (fun _ h => qx rfl (qk rfl (h.b 0) rfl)) ?_; refine Y14 ?_
  refine cpv rfl rfl rfl rfl h rfl (vy (j := k) (o' := o2 + k * 2) rfl rfl rfl hlt rfl) ?_
  refine Y11 ?_
  refine qu rfl rfl rfl rfl h (fun _ h => qx rfl (vd (v := .iz s.T) rfl ((hr [_] _ h).elem g7 hget 0 _ rfl))) ?_
  refine Y2f ?_; refine qu rfl rfl rfl rfl h (fun _ h => qx rfl (qk rfl (h.b 0) rfl)) ?_; refine Y14 ?_
  refine cpv rfl rfl rfl rfl h rfl (vy (j := k) (o' := o2 + k * 2) rfl rfl rfl hlt rfl) ?_
  refine Y11 ?_
  refine qu rfl rfl rfl rfl h (fun _ h => qx rfl (vd (v := .int .u64 ((s.V.toNat : Nat) : Int)) rfl (((hr [_] _ h).elem g7 hget 1 _ rfl).trans (congrArg (fun x => some (Value.int .u64 x)) e1)))) ?_
  refine Ye ?_
  refine qh 8 rfl rfl rfl rfl (qq rfl (ref27_Num hsw.1 h) ?_)
  clear h
  rintro _ w ⟨rfl, h⟩
  refine ⟨fun _ => h, ?_⟩
  refine cpv rfl rfl rfl rfl h rfl (qz rfl rfl O0) ?_
  refine cpv rfl rfl rfl rfl h rfl (qz rfl rfl O0) ?_
  refine Ye ?_
  refine qh 17 rfl rfl rfl rfl (qq rfl (ref27_Hex (u := s.V.toNat) (by have := hsw.2; omega) h) ?_)
  clear h
  rintro _ w ⟨rfl, h⟩
  refine ⟨fun _ => h, ?_⟩
  refine cpv rfl rfl rfl rfl h rfl (qz rfl rfl O0) ?_
  refine cpv rfl rfl rfl rfl h rfl (qg rfl) ?_
  refine qi ?_
  refine Yj ?_; refine Yv ?_
  refine qw (.iz (k + 1 : Nat)) O10 ?_
  refine Y7 ?_
  refine qj ⟨k + 1, ⟨rfl, ?_, rfl, trivial⟩, ⟨hlt, h⟩, O_o⟩
  exact congrArg (fun x => Value.string (strB x)) (by rw [Res.txt_step r hget, smpW]; simp)
 ·refine qw (.bool false) O5 ?_
  refine qj (qn rfl (gg ?_))
  refine Y0 ?_
  refine r_v (qf rfl) rfl (r_v (qg rfl) rfl ?_)
  obtain rfl : k = r.list.length := by omega
  exact qj (qy (bq1 ⟨congrArg (fun x => Value.string (strB x)) (Res.txt_ok r hk).symm, h.drop⟩))
theorem gh (hN : Nm w0) {a : Option Addr} {c : Nat} {r : Res} (he : I64 r.err) (hi : I64 r.iter) (hw : ∀ s ∈ r.list, s.Wf) (hn : r.list.length <= 4294967296) (hr : Reads w0 l 2 a r.list.length (smpsV r.list)) (h : St w0 l w) :
  Ret prog 11 [.agg (r.C a c).toArray] w fun v w' => v = .string (strB (resS r)) ∧ St w0 l w' := by
 have m1 := qs he
 have m2 := qs hi
 have htl := r.txt_len hi hw
 refine en func11 results11 ntmps11 ?_
 refine Y0 ?_
 refine r_c rfl (js h (show _ = Value.agg (r.C a c).toArray from rfl) fun b w h => ?_)
 refine r_v (qg rfl) rfl ?_
 refine Y27 ?_; refine Ya ?_; refine r_v (qk rfl (h.b 0) rfl) rfl ?_; refine Y2s ?_
 refine qj (qo (!(r.err == 0)) rfl (fun hk => ?_) (fun hk => ?_))
 ·have hk : r.err ≠ 0 := by simpa using hk
  refine Y1y ?_; refine r_v (qk rfl (h.b 0) rfl) rfl ?_
  refine r_c rfl (qq rfl (qe hN he h) ?_)
  clear h
  rintro _ w ⟨rfl, h⟩
  refine r_v (qz rfl rfl O0) rfl ?_
  refine r_v (qg rfl) rfl ?_
  exact qj (qy (bq1 ⟨congrArg (fun x => Value.string (strB x)) (Res.txt_err r hk).symm, h.drop⟩))
 have hk : r.err = 0 := by simpa using hk
 refine Y2n ?_
 refine r_c rfl (qt h fun bb w h => ?_)
 refine Y9 ?_; refine Ya ?_; refine r_v (qk rfl (h.b 1) rfl) rfl ?_
 refine r_c rfl (qq rfl (qe hN hi h) ?_)
 clear h
 rintro _ w ⟨rfl, h⟩
 refine r_v (qz rfl rfl O0) rfl ?_
 refine r_c rfl (qq rfl (jm (bs := []) (.inl rfl) O0 ((St.ownNil 5 1 h).f 1)) ?_)
 clear h
 rintro _ w ⟨a1, c1, h⟩
 replace h := (h.f 2)
 refine Y27 ?_; refine Ya ?_; refine r_v (qk rfl (h.b 0) rfl) rfl ?_; refine Y25 ?_; refine Y1 ?_; refine Y2 ?_
 replace h := h.drop
 refine Yl ?_
 refine gu (Γ := Nat) (fun k => [(3, .pz bb), (19, .slice a r.list.length c), (20, .iz r.list.length), (21, .iz k)])
  (fun k w => k <= r.list.length ∧ ∃ a1 c1, St w0 (BldPt bb (sQ bb) a1 (r.txt k).length c1 :: OwnB a1 c1 (r.txt k) :: l) w) (fun k => r.list.length - k) 0 zz4 ⟨Vl _, a1, c1, by
   rw [show ([] : List UInt8) ++ ([111, 107, 32] ++ itoa r.iter) = r.txt 0 by simp [Res.txt]] at h; exact h⟩ ?_
 clear h
 rintro k w e ⟨hkn, a1, c1, h⟩
 have hkl := htl k hkn
 refine Y32 ?_
 by_cases hlt : k < r.list.length
 ·refine qw (.bool true) O6 ?_
  refine qj (ql (qr rfl (q6 ?_)))
  have hget : r.list[k]? = some r.list[k] := Ub hlt
  generalize r.list[k] = s at hget
  have hsw := hw s (Vc hget)
  have m3 := qs hsw.1
  have e1 : s.V = ((s.V.toNat : Nat) : Int) := by have := hsw.2; omega
  have m4 := hexS_len s.V.toNat 16 O4 (by have := hsw.2; omega)
  have hcur := h
  obtain ⟨b2, o2, rfl⟩ : ∃ b2 o2, a = some ⟨b2, o2, none⟩ := by
   rcases (hr [_, _] w h).2 with h0 | ⟨b2, o2, h1, _⟩
   ·omega
   ·exact ⟨b2, o2, h1⟩
  have h := hcur
  refine Y1x ?_; refine Y0 ?_
  refine r_v (vy (j := k) (o' := o2 + k * 2) rfl rfl rfl hlt rfl) rfl ?_
  refine r_v (qm (l := s.cells) rfl rfl ((hr [_, _] _ h).elem g7 hget)) rfl ?_
  refine r_c rfl (qt h fun b5 w h => ?_)
  refine r_c rfl (qb (vs := s.cells) 0 h rfl rfl rfl rfl rfl rfl rfl fun w h => ?_)
  refine Y2 ?_
  replace h : St w0 (pt b5 (.cells [.iz s.T, .int .u64 ((s.V.toNat : Nat) : Int)].toArray 91 (0, 0)) :: BldPt bb (sQ bb) a1 (r.txt k).length c1 :: OwnB a1 c1 (r.txt k) :: l) w := e1 ▸ h
  replace h := h.drew
  have hφ : ∃ M, St w0 (pt b5 (.cells [.iz s.T, .int .u64 ((s.V.toNat : Nat) : Int)].toArray 91 (0, 0)) :: M) w.drew := ⟨_, h⟩
  refine gf [0, 1, 2, 3, 4, 5, 6, 7, 8, 9] none (fun w => ∃ M, St w0 (pt b5 (.cells [.iz s.T, .int .u64 ((s.V.toNat : Nat) : Int)].toArray 91 (0, 0)) :: M) w) O1 O1 ?_
  refine qv rfl rfl rfl rfl (fun _ => hφ) (fun _ => qx rfl (jx rfl)) ?_
  refine qu rfl rfl rfl rfl hφ (fun _ h => h.elim fun _ h => qx rfl (qk (v := .iz s.T) rfl (h.b 0 rfl) rfl)) ?_
  refine Ye ?_
  refine qv rfl rfl rfl rfl (fun _ => hφ) (fun _ => qx rfl (jx rfl)) ?_
  refine qu rfl rfl rfl rfl hφ (fun _ h => h.elim fun _ h => qx rfl (qk (v := .int .u64 ((s.V.toNat : Nat) : Int)) rfl (h.b 0 rfl) rfl)) ?_
  refine Ye ?_
  refine qh 2 rfl rfl rfl rfl (qq rfl (jf hN hsw.1 h) ?_)
  clear hφ h
  rintro _ w ⟨rfl, h⟩
  have hφ : ∃ M, St w0 (pt b5 (.cells [.iz s.T, .int .u64 ((s.V.toNat : Nat) : Int)].toArray 91 (0, 0)) :: M) w := ⟨_, h⟩
  refine ⟨fun _ => hφ, ?_⟩
  refine qv rfl rfl rfl rfl (fun _ => hφ) (fun _ => qx rfl (qz rfl rfl O0)) ?_
  refine qv rfl rfl rfl rfl (fun _ => hφ) (fun _ => qx rfl (qz rfl rfl O0)) ?_
  refine Ye ?_
  refine qh 7 rfl rfl rfl rfl (qq rfl (ve hN (u := s.V.toNat) (by have := hsw.2; omega) h) ?_)
  clear hφ h
  rintro _ w ⟨rfl, h⟩
  have hφ : ∃ M, St w0 (pt b5 (.cells [.iz s.T, .int .u64 ((s.V.toNat : Nat) : Int)].toArray 91 (0, 0)) :: M) w := ⟨_, h⟩
  refine ⟨fun _ => hφ, ?_⟩
  refine qv rfl rfl rfl rfl (fun _ => hφ) (fun _ => qx rfl (qz rfl rfl O0)) ?_
  refine Yo ?_
  refine qh 9 rfl rfl rfl rfl (qq rfl (jm (.inr rfl) O0 ((h.f 2).f 2)) ?_)
  clear hφ h
  rintro _ w ⟨a2, c2, h⟩
  have hφ : ∃ M, St w0 (pt b5 (.cells [.iz s.T, .int .u64 ((s.V.toNat : Nat) : Int)].toArray 91 (0, 0)) :: M) w := ⟨_, h.f 2⟩
  refine ⟨fun _ => hφ, ?_⟩
  refine qi ?_
  replace h := (h.f 2).drop
  rw [show r.txt k ++ ([32] ++ itoa s.T ++ [58] ++ hexS s.V.toNat) = r.txt (k + 1) by rw [Res.txt_step r hget, smpW]; simp] at h
  refine Y19 ?_
  refine qw (.iz (k + 1 : Nat)) O10 ?_
  refine Y1 ?_
  exact qj ⟨k + 1, zz4, ⟨hlt, a2, c2, h⟩, O_o⟩
 ·refine qw (.bool false) O5 ?_
  refine qj (ql (qn rfl (gg ?_)))
  refine Y0 ?_
  obtain rfl : k = r.list.length := by omega
  refine r_c rfl (qq rfl (va (by unfold Res.txt; simp) O3 h) ?_)
  clear h
  rintro _ w ⟨rfl, h⟩
  refine r_v (qg rfl) rfl ?_
  exact qj (qy (bq1 ⟨congrArg (fun x => Value.string (strB x)) (Res.txt_ok r hk).symm, h⟩))
end
end
end Go.Proofs.YtdeaeboijmeefaaGreatDoor
namespace Go.Hw
section
open Go.Lib
theorem parseIntB_I64 {s : List UInt8} {v : Int} (h : parseIntB 64 s = .ok v) : I64 v := by
 have := parseIntB_bounds h
 exact ⟨by have := this.1; simpa using this, by have := this.2; simpa using this⟩
theorem intSat_I64 (s : List UInt8) : I64 (intSat 64 s) := by
 unfold intSat
 split <;> exact ⟨O_c, O_c⟩
theorem St.bytesW {w0 w : World} {l : List HProp} (h : St w0 l w) (e : TypeId) (s : ByteArray) : St w0 l (bytesWorld w e s) := (h.bytes e s).elim fun _ h => h.drop
section
variable {P : Program} {e : Env} {w : World} {d : Option Nat} {ty : TypeId} {pos : String} {af : Array Edge} {g : Option (Nat × Bool)}
theorem q_rest {t T : TypeId} [ht : Und P t (.slice T)] {z : List Value} {agg : Bool} {bytes : Nat} [hi : Inf P T z agg bytes] {x y : Operand} {b o m : Nat} {k : IntKind}
  (hx : ev e x = .slice (some ⟨b, o, none⟩) (m + 1) (m + 1)) (hy : ev e y = .int k 1) (hz1 : z.length = 1) : Qv P e ⟨d, .slice t x (some y) none none, ty, pos, af, g⟩ w (.slice (some ⟨b, if m = 0 then o else o + 1, none⟩) m m) := by
 unfold Qv
 have hz := hi.sizeOf w
 rw [hz1] at hz
 have e2 : (Instr.sliceBound (.int k 1) (m + 1) .sliceB).run P w = .ok 1 w := by
  have : (1 : Int) <= (m : Int) + 1 := by omega
  simp [Instr.sliceBound, asIntOf, this]
 have e3 : (Instr.sliceBounds true (m + 1) (m + 1) (some (.int k 1)) none none).run P w = .ok (1, m + 1, m + 1) w := by
  simp [Instr.sliceBounds, e2]
 have key : (Instr.sliceAt t (.slice (some ⟨b, o, none⟩) (m + 1) (m + 1)) (some (.int k 1)) none none).run P w = .ok (.slice (some ⟨b, if m = 0 then o else o + 1, none⟩) m m) w := by
  simp [Instr.sliceAt, Instr.slice, run_underlying ht.h, e3, hz, Addr.add]
  split <;> simp
 simp only [execOp, hx, hy, Option.map_none, Uv, Sem.run_bind, key, Result.andThen_ok]; rfl
end
end
end Go.Hw
namespace Go.Proofs.YtdeaeboijmeefaaGreatDoor
open Go.Hw _root_.Go.Proofs.Tryz
section
open Go.Hw Go.Lib
section
variable {w0 w : World} {l : List HProp}
abbrev Any16 (w0 : World) (l : List HProp) (s : List UInt8) (v : Value) (w' : World) : Prop := ∃ (x : Nat) (ev : Value), v = .tuple [.int .u64 x, ev].toArray ∧ x < 18446744073709551616 ∧ (ev = .nilIface ∨ ∃ a b, ev = .iface a b) ∧ (∀ u, u < 18446744073709551616 -> s = hexS u -> x = u) ∧ St w0 l w'
theorem gm (hE : Rn1 w0) {s : List UInt8} (hn : s.length <= 281474976710656) (h : St w0 l w) :
  Ret prog 94 [.string (strB s), .iz 16, .iz 64] w (Any16 w0 l s) := by
 refine en func94 results94 ntmps94 ?_
 refine Y1c ?_
 refine r_v (jv rfl) rfl ?_
 refine Y9 ?_
 refine r_v (qf rfl) rfl ?_; refine Y1a ?_
 refine r_c rfl (qq rfl (v6 hn h) ?_)
 clear h
 rintro _ w ⟨x, ev, rfl, hx, hev, ht, h⟩
 refine Y18 ?_; refine Y7 ?_
 refine r_v (q9 rfl hev.any) rfl ?_
 refine Y27 ?_
 refine r_v (vm rfl hev.any) rfl ?_
 refine r_v (z7 (v := ev) un rfl hev.any) rfl ?_
 by_cases hne : ev = .nilIface
 ·subst hne
  refine Yh ?_; refine Y5 ?_; refine Y7 ?_
  refine r_v (jv rfl) rfl ?_
  exact qj (qy (bq2 ⟨x, _, rfl, hx, .inl rfl, ht, h⟩))
 ·refine qw (.bool true) (by rcases hev with rfl | rfl | rfl <;> first | rfl | exact absurd rfl hne) ?_
  refine Yk ?_; refine Y5 ?_; refine r_v (qf rfl) rfl ?_; refine Y1a ?_
  refine r_v (vm rfl hev.any) rfl ?_
  refine r_c rfl (qq rfl (vr hE (fn := [80, 97, 114, 115, 101, 85, 105, 110, 116]) hn hev hne h) ?_)
  clear h
  rintro v2 w ⟨hv2, h⟩
  refine Y7 ?_
  refine r_v (q9 rfl hv2) rfl ?_
  exact qj (qy (bq2 ⟨x, _, rfl, hx, hv2, ht, h⟩))
abbrev Any10 (w0 : World) (l : List HProp) (s : List UInt8) (v : Value) (w' : World) : Prop := ∃ (x : Int) (ev : Value), v = .tuple [.iz x, ev].toArray ∧ I64 x ∧ (ev = .nilIface ∨ ∃ a b, ev = .iface a b) ∧ (∀ n, I64 n -> s = itoa n -> x = n) ∧ St w0 l w'
theorem uk {s : List UInt8} (hn : s.length <= 281474976710656) (h : St w0 l w) :
  Ret prog 155 [.string (strB s), .iz 10, .iz 64] w fun v w' => ∃ (x : Int) (ev : Value), v = .tuple [.iz x, ev].toArray ∧ I64 x ∧ ErrOk ev ∧ (∀ n, I64 n -> s = itoa n -> x = n) ∧ St w0 l w' := by
 by_cases hs : s = []
 ·subst hs
  refine Ret.of (Tryz.internal_strconv_ParseInt_empty 10 64 w) fun e w' ⟨e1, e2⟩ => ⟨_, e1, 0, _, rfl, ⟨O_c, O_c⟩, .inr (.inl rfl), fun n hn hh => ?_, e2 ▸ h⟩
  exact absurd hh.symm (by unfold itoa; split <;> simp [decDigits_ne])
 ·refine Ret.of (Tryz.internal_strconv_ParseInt_10_at64 (strB s) (by rw [strB_size]; simpa using hs) (by rw [strB_size]; omega) w) fun e w' ⟨e1, e2⟩ => ?_
  have e3 : (strB s).data.toList = s := by simp [strB]
  rw [e3] at e1
  have h' : St w0 l w' := by
   rcases e2 with rfl | ⟨t, rfl⟩
   ·exact h
   ·exact h.bytesW _ _
  cases hp : parseIntB 64 s with
  | ok v =>
   rw [hp] at e1
   refine ⟨_, e1, v, _, rfl, parseIntB_I64 hp, .inl rfl, fun n hn hh => ?_, h'⟩
   have := gi hn
   rw [<- hh, hp] at this
   exact NumEnd.ok.inj this
  | «syntax» =>
   rw [hp] at e1
   refine ⟨_, e1, 0, _, rfl, ⟨O_c, O_c⟩, .inr (.inl rfl), fun n hn hh => ?_, h'⟩
   have := gi hn
   rw [<- hh, hp] at this; cases this
  | range =>
   rw [hp] at e1
   refine ⟨_, e1, _, _, rfl, intSat_I64 s, .inr (.inr rfl), fun n hn hh => ?_, h'⟩
   have := gi hn
   rw [<- hh, hp] at this; cases this
theorem gl (hE : Rn1 w0) {s : List UInt8} (hn : s.length <= 281474976710656) (h : St w0 l w) :
  Ret prog 93 [.string (strB s), .iz 10, .iz 64] w (Any10 w0 l s) := by
 refine en func93 results93 ntmps93 ?_
 refine Y1c ?_
 refine r_v (jv rfl) rfl ?_
 refine Y9 ?_
 refine r_v (qf rfl) rfl ?_; refine Y1a ?_
 refine r_c rfl (qq rfl (uk hn h) ?_)
 clear h
 rintro _ w ⟨x, ev, rfl, hx, hev, ht, h⟩
 refine Y18 ?_; refine Y7 ?_
 refine r_v (q9 rfl hev.any) rfl ?_
 refine Y27 ?_
 refine r_v (vm rfl hev.any) rfl ?_
 refine r_v (z7 (v := ev) un rfl hev.any) rfl ?_
 by_cases hne : ev = .nilIface
 ·subst hne
  refine Yh ?_; refine Y5 ?_; refine Y7 ?_
  refine r_v (jv rfl) rfl ?_
  exact qj (qy (bq2 ⟨x, _, rfl, hx, .inl rfl, ht, h⟩))
 ·refine qw (.bool true) (by rcases hev with rfl | rfl | rfl <;> first | rfl | exact absurd rfl hne) ?_
  refine Yk ?_; refine Y5 ?_; refine r_v (qf rfl) rfl ?_; refine Y1a ?_
  refine r_v (vm rfl hev.any) rfl ?_
  refine r_c rfl (qq rfl (vr hE (fn := [80, 97, 114, 115, 101, 73, 110, 116]) hn hev hne h) ?_)
  clear h
  rintro v2 w ⟨hv2, h⟩
  refine Y7 ?_
  refine r_v (q9 rfl hv2) rfl ?_
  exact qj (qy (bq2 ⟨x, _, rfl, hx, hv2, ht, h⟩))
abbrev RdPt (p bw o n : Nat) : HProp := pt p (.cells [.slice (some ⟨bw, o, none⟩) n n].toArray 108 (0, 0))
abbrev WdPt (bw : Nat) (all : List (List UInt8)) : HProp := pt bw (.cells (all.map fun x => Value.string (strB x)).toArray 9 (0, 0))
abbrev Left (all ws : List (List UInt8)) (o : Nat) : Prop := ws = [] ∨ ws = all.drop o
theorem u5 {p bw o : Nat} {all ws : List (List UInt8)} (ho : Left all ws o) (h : St w0 (RdPt p bw o ws.length :: WdPt bw all :: l) w) :
  Ret prog 50 [.pz p] w fun v w' => v = .string (strB (ws.headD [])) ∧ ∃ o', Left all ws.tail o' ∧ St w0 (RdPt p bw o' ws.tail.length :: WdPt bw all :: l) w' := by
 refine en func50 results50 ntmps50 ?_
 refine Y0 ?_
 refine r_v (qg rfl) rfl ?_
 refine Y2 ?_; refine ql ?_; refine Y8 ?_
 refine r_v (qk (v := .slice (some ⟨bw, o, none⟩) ws.length ws.length) rfl (h.b 0 rfl) rfl) rfl ?_
 refine Y25 ?_; refine Yc ?_
 cases ws with
 | nil =>
  refine Y1n ?_
  refine r_v (qg rfl) rfl ?_
  exact qj (qy (bq1 ⟨rfl, o, .inl rfl, h⟩))
 | cons x ws =>
  have ho : x :: ws = all.drop o := by rcases ho with h1 | h1; cases h1; exact h1
  have hget : all[o]? = some x := by
   have : (all.drop o)[0]? = some x := by rw [<- ho]; rfl
   simpa using this
  refine qw (.bool false) rfl ?_
  refine Yh ?_; refine Y8 ?_
  refine r_v (qk (v := .slice (some ⟨bw, o, none⟩) (ws.length + 1) (ws.length + 1)) rfl (h.b 0 rfl) rfl) rfl ?_
  refine r_v (vy (j := 0) (o' := o) rfl rfl rfl (Nat.succ_pos _) O8) rfl ?_
  refine r_v (qk (v := .string (strB x)) rfl (h.b 1 rfl) (by simp [hget])) rfl ?_
  refine r_v (qg rfl) rfl ?_
  refine Y2b ?_; refine Y1e ?_; refine Yp ?_
  refine r_v (qk (v := .slice (some ⟨bw, o, none⟩) (ws.length + 1) (ws.length + 1)) rfl (h.b 0 rfl) rfl) rfl ?_
  refine r_v (q_rest (m := ws.length) rfl rfl rfl) rfl ?_
  refine Yp ?_
  refine r_c rfl (qd 0 h rfl (show _ = Value.slice (some ⟨bw, if ws.length = 0 then o else o + 1, none⟩) ws.length ws.length from rfl) rfl rfl rfl rfl fun w h => ?_)
  refine Y9 ?_
  refine r_v (qf rfl) rfl (r_v (qg rfl) rfl ?_)
  refine qj (qy (bq1 ⟨rfl, _, ?_, h⟩))
  by_cases h0 : ws.length = 0
  ·exact .inl (Uf h0)
  ·rw [if_neg h0]
   refine .inr ?_
   have : (all.drop o).tail = all.drop (o + 1) := by simp
   rw [<- this, <- ho]
theorem jd (hE : Rn1 w0) {p bw o : Nat} {all ws : List (List UInt8)} (hn : ∀ x ∈ all, x.length <= 281474976710656) (ho : Left all ws o) (h : St w0 (RdPt p bw o ws.length :: WdPt bw all :: l) w) :
  Ret prog 51 [.pz p] w fun v w' => ∃ x o', v = .iz x ∧ I64 x ∧ (∀ n, I64 n -> ws.headD [] = itoa n -> x = n) ∧ Left all ws.tail o' ∧ St w0 (RdPt p bw o' ws.tail.length :: WdPt bw all :: l) w' := by
 have hw : (ws.headD []).length <= 281474976710656 := by
  rcases ho with rfl | h1
  ·simp
  ·cases ws with
   | nil => simp
   | cons x ws => exact hn x (List.mem_of_mem_drop (h1 ▸ Uk ..))
 refine en func51 results51 ntmps51 ?_
 refine Yi ?_; refine Yd ?_
 refine r_c rfl (qq rfl (u5 ho h) ?_)
 clear h
 rintro _ w ⟨rfl, o', ho', h⟩
 refine r_c rfl (qq rfl (gl hE hw h) ?_)
 clear h
 rintro _ w ⟨x, ev, rfl, hx, hev, ht, h⟩
 refine Y18 ?_; refine Y7 ?_
 refine r_v (q9 rfl hev) rfl ?_
 refine Y2a ?_; refine Y7 ?_
 exact qj (qy (bq1 ⟨x, o', rfl, hx, ht, ho', h⟩))
theorem z8 (hE : Rn1 w0) {p bw o : Nat} {all ws : List (List UInt8)} (hn : ∀ x ∈ all, x.length <= 281474976710656) (ho : Left all ws o) (h : St w0 (RdPt p bw o ws.length :: WdPt bw all :: l) w) :
  Ret prog 52 [.pz p] w fun v w' => ∃ (x : Nat) (o' : Nat), v = .int .u64 x ∧ x < 18446744073709551616 ∧ (∀ u, u < 18446744073709551616 -> ws.headD [] = hexS u -> x = u) ∧ Left all ws.tail o' ∧ St w0 (RdPt p bw o' ws.tail.length :: WdPt bw all :: l) w' := by
 have hw : (ws.headD []).length <= 281474976710656 := by
  rcases ho with rfl | h1
  ·simp
  ·cases ws with
   | nil => simp
   | cons x ws => exact hn x (List.mem_of_mem_drop (h1 ▸ Uk ..))
 refine en func52 results52 ntmps52 ?_
 refine Yi ?_; refine Yd ?_
 refine r_c rfl (qq rfl (u5 ho h) ?_)
 clear h
 rintro _ w ⟨rfl, o', ho', h⟩
 refine r_c rfl (qq rfl (gm hE hw h) ?_)
 clear h
 rintro _ w ⟨x, ev, rfl, hx, hev, ht, h⟩
 refine Y18 ?_; refine Y7 ?_
 refine r_v (q9 rfl hev) rfl ?_
 refine Y2a ?_; refine Y7 ?_
 exact qj (qy (bq1 ⟨x, o', rfl, hx, ht, ho', h⟩))
end
end
end Go.Proofs.YtdeaeboijmeefaaGreatDoor
namespace Go.Hw
section
open Go.Lib
def wordOf (k : Int) : List UInt8 := if k = 1 then wAppend else if k = 2 then wRead else if k = 3 then wSeal else if k = 4 then wDelete else if k = 5 then wOpen else if k = 6 then wNext else if k = 7 then wClose else []
theorem opW_first (o : Opr) : (opW o).headD [] = wordOf o.kind := by
 unfold opW wordOf
 repeat' split
 all_goals rfl
theorem kinds {k : Int} (h1 : 1 <= k) (h2 : k <= 7) : k = 1 ∨ k = 2 ∨ k = 3 ∨ k = 4 ∨ k = 5 ∨ k = 6 ∨ k = 7 := by omega
theorem ju {k : Int} (h1 : 1 <= k) (h2 : k <= 7) : ∀ j, 1 <= j -> j <= 7 -> wordOf k = wordOf j -> k = j := by
 intro j j1 j2
 rcases kinds h1 h2 with rfl | rfl | rfl | rfl | rfl | rfl | rfl <;> rcases kinds j1 j2 with rfl | rfl | rfl | rfl | rfl | rfl | rfl <;> decide
def Opr.Told (s : List UInt8) (o : Opr) : Prop := ∀ o' : Opr, o'.Wf -> 1 <= o'.kind -> o'.kind <= 7 -> opS o' = s -> o = o'.only
theorem jg {s : List UInt8} {all : List (List UInt8)} (hsp : all = split s [32]) {o' : Opr} (k1 : 1 <= o'.kind) (k2 : o'.kind <= 7) (hs : opS o' = s) : all = opW o' := by
 rw [hsp, <- hs]; exact gz (opW_kind.2 ⟨k1, k2⟩) (opW_words o')
theorem Opr.only_told {o o' : Opr} (h : o = o'.only) (k1 : 1 <= o'.kind) (k2 : o'.kind <= 7) : opS o = opS o' := by
 subst h
 unfold opS
 congr 1
 rcases kinds k1 k2 with hk | hk | hk | hk | hk | hk | hk <;> simp [Opr.only, opW, hk]
theorem splitB_small (sep : ByteArray) (save : Nat) : ∀ (k : Nat) (s x : ByteArray), x ∈ splitB sep save k s -> x.size <= s.size
 | 0, s, x, h => by rw [splitB_zero] at h; rw [Us.1 h]; exact Ui _
 | k + 1, s, x, h => by
  unfold splitB at h
  split at h
  ·rw [Us.1 h]; exact Ui _
  ·rcases Vh.1 h with rfl | h
   ·rw [ByteArray.size_extract]; omega
   ·have := splitB_small sep save k _ x h
    rw [ByteArray.size_extract] at this; omega
end
end Go.Hw
namespace Go.Proofs.YtdeaeboijmeefaaGreatDoor
open Go.Hw _root_.Go.Proofs.Tryz
section
open Go.Hw Go.Lib
structure Rp (W : World) : Prop where
 nm : Nm W
 rn : Rn1 W
 mx : 1 < W.heap.size ∧ ∃ m, W.cell? ⟨1, 0, none⟩ = some (.iz m)
section
variable {w0 w : World} {l : List HProp}
theorem xq (hR : Rp w0) {s : List UInt8} (hn : s.length <= 65536) (h : St w0 l w) :
  Ret prog 49 [.string (strB s), .string (strB [32])] w fun v w' => ∃ bw all, v = .slice (sQ bw) all.length all.length ∧ all = split s [32] ∧ (∀ x ∈ all, x.length <= 281474976710656) ∧ St w0 (WdPt bw all :: l) w' := by
 obtain ⟨hlt, m, hm⟩ := hR.mx
 refine Ret.of (Tryz.strings_Split (strB s) (strB [32]) m w (by rw [strB_size]; omega) ((h.cell_old hlt).trans hm) O4) fun e w' ⟨e1, e2⟩ => ⟨_, e1, w.heap.size, (splitB (strB [32]) 0 (countB (strB s) (strB [32])) (strB s)).map (·.data.toList), ?_, ?_, ?_, ?_⟩
 ·rw [List.length_map, splitB_all (strB [32]) O4 0 _ (strB s) rfl]
 ·rw [splitB_data]
  have e3 : (strB s).data.toList = s := by simp [strB]
  rw [e3]
  show splitK _ 0 (count _ _) s = splitK [32] 0 (count s [32]) s
  rw [e3]
  rfl
 ·intro x hx
  obtain ⟨y, hy, rfl⟩ := List.mem_map.1 hx
  have := splitB_small _ _ _ _ _ hy
  rw [strB_size] at this
  have e4 : y.data.toList.length = y.size := Array.length_toList
  omega
 ·rw [e2]
  have := h.alloc (.cells ((splitB (strB [32]) 0 (countB (strB s) (strB [32])) (strB s)).map Value.string).toArray 9)
  have e5 : ((splitB (strB [32]) 0 (countB (strB s) (strB [32])) (strB s)).map (·.data.toList)).map (fun x => Value.string (strB x)) = (splitB (strB [32]) 0 (countB (strB s) (strB [32])) (strB s)).map Value.string := by
   rw [List.map_map]
   refine List.map_congr_left fun y _ => ?_
   show Value.string ⟨y.data.toList.toArray⟩ = Value.string y
   rw [Array.toArray_toList]
  unfold WdPt
  rw [e5]
  exact this
abbrev OpPt (b : Nat) (o : Opr) : HProp := pt b (.cells o.C.toArray 24 (0, 0))
abbrev Parsed (w0 : World) (l : List HProp) (s : List UInt8) (v : Value) (w' : World) : Prop := ∃ (o : Opr) (ok : Bool), v = .tuple [.agg o.C.toArray, .bool ok].toArray ∧ o.Wf ∧ (ok = true -> opS o = s ∧ s ≠ [] ∧ o = o.only ∧ o.Told s) ∧ (ok = false -> o = Opr.zero ∧ ∀ o' : Opr, o'.Wf -> 1 <= o'.kind -> o'.kind <= 7 -> opS o' ≠ s) ∧ St w0 l w'
theorem gq (hR : Rp w0) {s : List UInt8} (hn : s.length <= 65536) (h : St w0 l w) : Ret prog 15 [.string (strB s)] w (Parsed w0 l s) := by
 have hE := hR.rn
 refine en func15 results15 ntmps15 ?_
 refine Y0 ?_
 refine r_c rfl (qt h fun bz w h => ?_)
 replace h : St w0 (OpPt bz Opr.zero :: l) w := h
 refine Y6 ?_; refine Y0 ?_
 refine r_v (qf rfl) rfl ?_
 refine r_c rfl (qq rfl (xq hR hn h) ?_)
 clear h
 rintro _ w ⟨bw, all, rfl, hsp, hall, h⟩
 refine r_v (qc rfl) rfl ?_
 refine r_c rfl (js h (show _ = Value.agg [.slice (sQ bw) all.length all.length].toArray from rfl) fun p w h => ?_)
 replace h : St w0 (RdPt p bw 0 all.length :: WdPt bw all :: OpPt bz Opr.zero :: l) w := h
 refine Yx ?_; refine Y9 ?_
 refine r_c rfl (qt h fun b5 w h => ?_)
 replace h : St w0 (RdPt p bw 0 all.length :: WdPt bw all :: OpPt b5 Opr.zero :: OpPt bz Opr.zero :: l) w := ((St.f 1 h).f 2).f 1
 refine Y2 ?_
 refine jp (Γ := Opr) (fun _ => [(0, .string (strB s)), (2, .pz bz), (5, .pz b5)]) (fun o w => o.Wf ∧ o.Told s ∧ St w0 (OpPt b5 o :: OpPt bz Opr.zero :: l) w) ?_ ?_
 ·refine Yd ?_
  refine r_c rfl (qq rfl (u5 (ws := all) (.inr rfl) h) ?_)
  clear h
  rintro _ w ⟨rfl, o1, ho1, h⟩
  refine Y2l ?_
  generalize hfw : all.headD [] = fw
  refine Y0 ?_
  refine r_v (q7 rfl rfl) rfl ?_
  refine qw (.bool (decide (fw = wAppend))) (congrArg Value.bool (strB_same fw wAppend)) ?_
  refine Y6 ?_
  by_cases h1 : fw = wAppend
  ·refine qr (congrArg Value.bool (decide_eq_true h1)) ?_
   refine Yd ?_
   refine r_c rfl (qq rfl (jd (ws := all.tail) hE hall ho1 h) ?_)
   clear h
   rintro _ w ⟨x1, o2, rfl, i1, t1, ho2, h⟩
   refine r_v (qc (r := (Opr.mk 1 x1 0 0 0 0 0 0).C) rfl) rfl ?_
   refine r_c rfl (qb (vs := (Opr.mk 1 x1 0 0 0 0 0 0).C) 2 h rfl rfl rfl rfl rfl rfl rfl fun w h => ?_)
   replace h : St w0 (RdPt p bw o2 all.tail.tail.length :: WdPt bw all :: OpPt b5 (Opr.mk 1 x1 0 0 0 0 0 0) :: OpPt bz Opr.zero :: l) w := h
   refine Y2 ?_; refine Y1h ?_
   refine r_c rfl (qq rfl (jd (ws := all.tail.tail) hE hall ho2 h) ?_)
   clear h
   rintro _ w ⟨x2, o3, rfl, i2, t2, ho3, h⟩
   refine Y1e ?_
   refine r_c rfl (qq rfl (z8 (ws := all.tail.tail.tail) hE hall ho3 h) ?_)
   clear h
   rintro _ w ⟨x3, o4, rfl, i3, t3, ho4, h⟩
   refine Ya ?_
   refine r_c rfl (qd 2 h rfl (show _ = Value.iz x2 from rfl) rfl rfl rfl rfl fun w h => ?_)
   replace h : St w0 (RdPt p bw o4 all.tail.tail.tail.tail.length :: WdPt bw all :: OpPt b5 (Opr.mk 1 x1 0 x2 0 0 0 0) :: OpPt bz Opr.zero :: l) w := h
   refine Ya ?_
   refine r_c rfl (qd 2 h rfl (show _ = Value.int .u64 x3 from rfl) rfl rfl rfl rfl fun w h => ?_)
   replace h : St w0 (RdPt p bw o4 all.tail.tail.tail.tail.length :: WdPt bw all :: OpPt b5 (Opr.mk 1 x1 0 x2 x3 0 0 0) :: OpPt bz Opr.zero :: l) w := h
   refine qj ⟨Opr.mk 1 x1 0 x2 x3 0 0 0, zz3, ⟨(show I64 1 from ⟨O_c, O_c⟩), i1, (show I64 0 from ⟨O_c, O_c⟩), i2, i3, (show I64 0 from ⟨O_c, O_c⟩), (show I64 0 from ⟨O_c, O_c⟩), (show I64 0 from ⟨O_c, O_c⟩)⟩, fun o' wf' k1 k2 hs => ?_, h.drop.drop⟩
   have ha := jg hsp k1 k2 hs
   have hk : o'.kind = 1 := ju k1 k2 1 O4 O4 (by rw [<- opW_first, <- ha, hfw, h1]; rfl)
   obtain ⟨j0, j1, j2, j3, j4, j5, j6, j7⟩ := wf'
   have e1 := t1 o'.series j1 O7
   have e2 := t2 o'.T j3 O7
   have e3 := t3 o'.V j4 O7
   simp only [Opr.only, hk]
   subst e1 e2 e3
   rfl
  refine qn (congrArg Value.bool (decide_eq_false h1)) ?_
  refine Y0 ?_
  refine r_v (q7 rfl rfl) rfl ?_
  refine qw (.bool (decide (fw = wRead))) (congrArg Value.bool (strB_same fw wRead)) ?_
  refine Y6 ?_
  by_cases h2 : fw = wRead
  ·refine qr (congrArg Value.bool (decide_eq_true h2)) ?_
   refine Yd ?_
   refine r_c rfl (qq rfl (jd (ws := all.tail) hE hall ho1 h) ?_)
   clear h
   rintro _ w ⟨x1, o2, rfl, i1, t1, ho2, h⟩
   refine r_v (qc (r := (Opr.mk 2 x1 0 0 0 0 0 0).C) rfl) rfl ?_
   refine r_c rfl (qb (vs := (Opr.mk 2 x1 0 0 0 0 0 0).C) 2 h rfl rfl rfl rfl rfl rfl rfl fun w h => ?_)
   replace h : St w0 (RdPt p bw o2 all.tail.tail.length :: WdPt bw all :: OpPt b5 (Opr.mk 2 x1 0 0 0 0 0 0) :: OpPt bz Opr.zero :: l) w := h
   refine Y2 ?_; refine Y1h ?_
   refine r_c rfl (qq rfl (jd (ws := all.tail.tail) hE hall ho2 h) ?_)
   clear h
   rintro _ w ⟨x2, o3, rfl, i2, t2, ho3, h⟩
   refine Y1e ?_
   refine r_c rfl (qq rfl (jd (ws := all.tail.tail.tail) hE hall ho3 h) ?_)
   clear h
   rintro _ w ⟨x3, o4, rfl, i3, t3, ho4, h⟩
   refine Ya ?_
   refine r_c rfl (qd 2 h rfl (show _ = Value.iz x2 from rfl) rfl rfl rfl rfl fun w h => ?_)
   replace h : St w0 (RdPt p bw o4 all.tail.tail.tail.tail.length :: WdPt bw all :: OpPt b5 (Opr.mk 2 x1 0 0 0 x2 0 0) :: OpPt bz Opr.zero :: l) w := h
   refine Ya ?_
   refine r_c rfl (qd 2 h rfl (show _ = Value.iz x3 from rfl) rfl rfl rfl rfl fun w h => ?_)
   replace h : St w0 (RdPt p bw o4 all.tail.tail.tail.tail.length :: WdPt bw all :: OpPt b5 (Opr.mk 2 x1 0 0 0 x2 x3 0) :: OpPt bz Opr.zero :: l) w := h
   refine qj ⟨Opr.mk 2 x1 0 0 0 x2 x3 0, zz3, ⟨(show I64 2 from ⟨O_c, O_c⟩), i1, (show I64 0 from ⟨O_c, O_c⟩), (show I64 0 from ⟨O_c, O_c⟩), (show 0 < 18446744073709551616 by decide), i2, i3, (show I64 0 from ⟨O_c, O_c⟩)⟩, fun o' wf' k1 k2 hs => ?_, h.drop.drop⟩
   have ha := jg hsp k1 k2 hs
   have hk : o'.kind = 2 := ju k1 k2 2 O4 O4 (by rw [<- opW_first, <- ha, hfw, h2]; rfl)
   obtain ⟨j0, j1, j2, j3, j4, j5, j6, j7⟩ := wf'
   have e1 := t1 o'.series j1 O7
   have e2 := t2 o'.F j5 O7
   have e3 := t3 o'.To j6 O7
   simp only [Opr.only, hk]
   subst e1 e2 e3
   rfl
  refine qn (congrArg Value.bool (decide_eq_false h2)) ?_
  refine Y0 ?_
  refine r_v (q7 rfl rfl) rfl ?_
  refine qw (.bool (decide (fw = wSeal))) (congrArg Value.bool (strB_same fw wSeal)) ?_
  refine Y6 ?_
  by_cases h3 : fw = wSeal
  ·refine qr (congrArg Value.bool (decide_eq_true h3)) ?_
   refine Y1h ?_
   refine r_c rfl (qq rfl (jd (ws := all.tail) hE hall ho1 h) ?_)
   clear h
   rintro _ w ⟨x1, o2, rfl, i1, t1, ho2, h⟩
   refine r_v (qc (r := (Opr.mk 3 x1 0 0 0 0 0 0).C) rfl) rfl ?_
   refine r_c rfl (qb (vs := (Opr.mk 3 x1 0 0 0 0 0 0).C) 2 h rfl rfl rfl rfl rfl rfl rfl fun w h => ?_)
   replace h : St w0 (RdPt p bw o2 all.tail.tail.length :: WdPt bw all :: OpPt b5 (Opr.mk 3 x1 0 0 0 0 0 0) :: OpPt bz Opr.zero :: l) w := h
   refine qj ⟨Opr.mk 3 x1 0 0 0 0 0 0, zz3, ⟨(show I64 3 from ⟨O_c, O_c⟩), i1, (show I64 0 from ⟨O_c, O_c⟩), (show I64 0 from ⟨O_c, O_c⟩), (show 0 < 18446744073709551616 by decide), (show I64 0 from ⟨O_c, O_c⟩), (show I64 0 from ⟨O_c, O_c⟩), (show I64 0 from ⟨O_c, O_c⟩)⟩, fun o' wf' k1 k2 hs => ?_, h.drop.drop⟩
   have ha := jg hsp k1 k2 hs
   have hk : o'.kind = 3 := ju k1 k2 3 O4 O4 (by rw [<- opW_first, <- ha, hfw, h3]; rfl)
   obtain ⟨j0, j1, j2, j3, j4, j5, j6, j7⟩ := wf'
   have e1 := t1 o'.series j1 O7
   simp only [Opr.only, hk]
   subst e1
   rfl
  refine qn (congrArg Value.bool (decide_eq_false h3)) ?_
  refine Y0 ?_
  refine r_v (q7 rfl rfl) rfl ?_
  refine qw (.bool (decide (fw = wDelete))) (congrArg Value.bool (strB_same fw wDelete)) ?_
  refine Y6 ?_
  by_cases h4 : fw = wDelete
  ·refine qr (congrArg Value.bool (decide_eq_true h4)) ?_
   refine Y1h ?_
   refine r_c rfl (qq rfl (jd (ws := all.tail) hE hall ho1 h) ?_)
   clear h
   rintro _ w ⟨x1, o2, rfl, i1, t1, ho2, h⟩
   refine r_v (qc (r := (Opr.mk 4 x1 0 0 0 0 0 0).C) rfl) rfl ?_
   refine r_c rfl (qb (vs := (Opr.mk 4 x1 0 0 0 0 0 0).C) 2 h rfl rfl rfl rfl rfl rfl rfl fun w h => ?_)
   replace h : St w0 (RdPt p bw o2 all.tail.tail.length :: WdPt bw all :: OpPt b5 (Opr.mk 4 x1 0 0 0 0 0 0) :: OpPt bz Opr.zero :: l) w := h
   refine qj ⟨Opr.mk 4 x1 0 0 0 0 0 0, zz3, ⟨(show I64 4 from ⟨O_c, O_c⟩), i1, (show I64 0 from ⟨O_c, O_c⟩), (show I64 0 from ⟨O_c, O_c⟩), (show 0 < 18446744073709551616 by decide), (show I64 0 from ⟨O_c, O_c⟩), (show I64 0 from ⟨O_c, O_c⟩), (show I64 0 from ⟨O_c, O_c⟩)⟩, fun o' wf' k1 k2 hs => ?_, h.drop.drop⟩
   have ha := jg hsp k1 k2 hs
   have hk : o'.kind = 4 := ju k1 k2 4 O4 O4 (by rw [<- opW_first, <- ha, hfw, h4]; rfl)
   obtain ⟨j0, j1, j2, j3, j4, j5, j6, j7⟩ := wf'
   have e1 := t1 o'.series j1 O7
   simp only [Opr.only, hk]
   subst e1
   rfl
  refine qn (congrArg Value.bool (decide_eq_false h4)) ?_
  refine Y0 ?_
  refine r_v (q7 rfl rfl) rfl ?_
  refine qw (.bool (decide (fw = wOpen))) (congrArg Value.bool (strB_same fw wOpen)) ?_
  refine Y6 ?_
  by_cases h5 : fw = wOpen
  ·refine qr (congrArg Value.bool (decide_eq_true h5)) ?_
   refine Yd ?_
   refine r_c rfl (qq rfl (jd (ws := all.tail) hE hall ho1 h) ?_)
   clear h
   rintro _ w ⟨x1, o2, rfl, i1, t1, ho2, h⟩
   refine r_v (qc (r := (Opr.mk 5 x1 0 0 0 0 0 0).C) rfl) rfl ?_
   refine r_c rfl (qb (vs := (Opr.mk 5 x1 0 0 0 0 0 0).C) 2 h rfl rfl rfl rfl rfl rfl rfl fun w h => ?_)
   replace h : St w0 (RdPt p bw o2 all.tail.tail.length :: WdPt bw all :: OpPt b5 (Opr.mk 5 x1 0 0 0 0 0 0) :: OpPt bz Opr.zero :: l) w := h
   refine Y2 ?_; refine Y1h ?_
   refine r_c rfl (qq rfl (jd (ws := all.tail.tail) hE hall ho2 h) ?_)
   clear h
   rintro _ w ⟨x2, o3, rfl, i2, t2, ho3, h⟩
   refine Y1e ?_
   refine r_c rfl (qq rfl (jd (ws := all.tail.tail.tail) hE hall ho3 h) ?_)
   clear h
   rintro _ w ⟨x3, o4, rfl, i3, t3, ho4, h⟩
   refine Ya ?_
   refine r_c rfl (qd 2 h rfl (show _ = Value.iz x2 from rfl) rfl rfl rfl rfl fun w h => ?_)
   replace h : St w0 (RdPt p bw o4 all.tail.tail.tail.tail.length :: WdPt bw all :: OpPt b5 (Opr.mk 5 x1 0 0 0 x2 0 0) :: OpPt bz Opr.zero :: l) w := h
   refine Ya ?_
   refine r_c rfl (qd 2 h rfl (show _ = Value.iz x3 from rfl) rfl rfl rfl rfl fun w h => ?_)
   replace h : St w0 (RdPt p bw o4 all.tail.tail.tail.tail.length :: WdPt bw all :: OpPt b5 (Opr.mk 5 x1 0 0 0 x2 x3 0) :: OpPt bz Opr.zero :: l) w := h
   refine qj ⟨Opr.mk 5 x1 0 0 0 x2 x3 0, zz3, ⟨(show I64 5 from ⟨O_c, O_c⟩), i1, (show I64 0 from ⟨O_c, O_c⟩), (show I64 0 from ⟨O_c, O_c⟩), (show 0 < 18446744073709551616 by decide), i2, i3, (show I64 0 from ⟨O_c, O_c⟩)⟩, fun o' wf' k1 k2 hs => ?_, h.drop.drop⟩
   have ha := jg hsp k1 k2 hs
   have hk : o'.kind = 5 := ju k1 k2 5 O4 O4 (by rw [<- opW_first, <- ha, hfw, h5]; rfl)
   obtain ⟨j0, j1, j2, j3, j4, j5, j6, j7⟩ := wf'
   have e1 := t1 o'.series j1 O7
   have e2 := t2 o'.F j5 O7
   have e3 := t3 o'.To j6 O7
   simp only [Opr.only, hk]
   subst e1 e2 e3
   rfl
  refine qn (congrArg Value.bool (decide_eq_false h5)) ?_
  refine Y0 ?_
  refine r_v (q7 rfl rfl) rfl ?_
  refine qw (.bool (decide (fw = wNext))) (congrArg Value.bool (strB_same fw wNext)) ?_
  refine Y6 ?_
  by_cases h6 : fw = wNext
  ·refine qr (congrArg Value.bool (decide_eq_true h6)) ?_
   refine Yd ?_
   refine r_c rfl (qq rfl (jd (ws := all.tail) hE hall ho1 h) ?_)
   clear h
   rintro _ w ⟨x1, o2, rfl, i1, t1, ho2, h⟩
   refine r_v (qc (r := (Opr.mk 6 0 x1 0 0 0 0 0).C) rfl) rfl ?_
   refine r_c rfl (qb (vs := (Opr.mk 6 0 x1 0 0 0 0 0).C) 2 h rfl rfl rfl rfl rfl rfl rfl fun w h => ?_)
   replace h : St w0 (RdPt p bw o2 all.tail.tail.length :: WdPt bw all :: OpPt b5 (Opr.mk 6 0 x1 0 0 0 0 0) :: OpPt bz Opr.zero :: l) w := h
   refine Y2 ?_; refine Y1h ?_
   refine r_c rfl (qq rfl (jd (ws := all.tail.tail) hE hall ho2 h) ?_)
   clear h
   rintro _ w ⟨x2, o3, rfl, i2, t2, ho3, h⟩
   refine Ya ?_
   refine r_c rfl (qd 2 h rfl (show _ = Value.iz x2 from rfl) rfl rfl rfl rfl fun w h => ?_)
   replace h : St w0 (RdPt p bw o3 all.tail.tail.tail.length :: WdPt bw all :: OpPt b5 (Opr.mk 6 0 x1 0 0 0 0 x2) :: OpPt bz Opr.zero :: l) w := h
   refine qj ⟨Opr.mk 6 0 x1 0 0 0 0 x2, zz3, ⟨(show I64 6 from ⟨O_c, O_c⟩), (show I64 0 from ⟨O_c, O_c⟩), i1, (show I64 0 from ⟨O_c, O_c⟩), (show 0 < 18446744073709551616 by decide), (show I64 0 from ⟨O_c, O_c⟩), (show I64 0 from ⟨O_c, O_c⟩), i2⟩, fun o' wf' k1 k2 hs => ?_, h.drop.drop⟩
   have ha := jg hsp k1 k2 hs
   have hk : o'.kind = 6 := ju k1 k2 6 O4 O4 (by rw [<- opW_first, <- ha, hfw, h6]; rfl)
   obtain ⟨j0, j1, j2, j3, j4, j5, j6, j7⟩ := wf'
   have e1 := t1 o'.iter j2 O7
   have e2 := t2 o'.N j7 O7
   simp only [Opr.only, hk]
   subst e1 e2
   rfl
  refine qn (congrArg Value.bool (decide_eq_false h6)) ?_
  refine Y0 ?_
  refine r_v (q7 rfl rfl) rfl ?_
  refine qw (.bool (decide (fw = wClose))) (congrArg Value.bool (strB_same fw wClose)) ?_
  refine Y6 ?_
  by_cases h7 : fw = wClose
  ·refine qr (congrArg Value.bool (decide_eq_true h7)) ?_
   refine Y1h ?_
   refine r_c rfl (qq rfl (jd (ws := all.tail) hE hall ho1 h) ?_)
   clear h
   rintro _ w ⟨x1, o2, rfl, i1, t1, ho2, h⟩
   refine r_v (qc (r := (Opr.mk 7 0 x1 0 0 0 0 0).C) rfl) rfl ?_
   refine r_c rfl (qb (vs := (Opr.mk 7 0 x1 0 0 0 0 0).C) 2 h rfl rfl rfl rfl rfl rfl rfl fun w h => ?_)
   replace h : St w0 (RdPt p bw o2 all.tail.tail.length :: WdPt bw all :: OpPt b5 (Opr.mk 7 0 x1 0 0 0 0 0) :: OpPt bz Opr.zero :: l) w := h
   refine qj ⟨Opr.mk 7 0 x1 0 0 0 0 0, zz3, ⟨(show I64 7 from ⟨O_c, O_c⟩), (show I64 0 from ⟨O_c, O_c⟩), i1, (show I64 0 from ⟨O_c, O_c⟩), (show 0 < 18446744073709551616 by decide), (show I64 0 from ⟨O_c, O_c⟩), (show I64 0 from ⟨O_c, O_c⟩), (show I64 0 from ⟨O_c, O_c⟩)⟩, fun o' wf' k1 k2 hs => ?_, h.drop.drop⟩
   have ha := jg hsp k1 k2 hs
   have hk : o'.kind = 7 := ju k1 k2 7 O4 O4 (by rw [<- opW_first, <- ha, hfw, h7]; rfl)
   obtain ⟨j0, j1, j2, j3, j4, j5, j6, j7⟩ := wf'
   have e1 := t1 o'.iter j2 O7
   simp only [Opr.only, hk]
   subst e1
   rfl
  refine qn (congrArg Value.bool (decide_eq_false h7)) ?_
  refine q6 ⟨Opr.zero, zz3, ⟨⟨O_c, O_c⟩, ⟨O_c, O_c⟩, ⟨O_c, O_c⟩, ⟨O_c, O_c⟩, O_c, ⟨O_c, O_c⟩, ⟨O_c, O_c⟩, ⟨O_c, O_c⟩⟩, fun o' wf' k1 k2 hs => ?_, h.drop.drop⟩
  have ha := jg hsp k1 k2 hs
  have hw := opW_first o'
  rw [<- ha, hfw] at hw
  rcases kinds k1 k2 with hk | hk | hk | hk | hk | hk | hk
  ·exact absurd (hw.trans (by rw [hk]; rfl)) h1
  ·exact absurd (hw.trans (by rw [hk]; rfl)) h2
  ·exact absurd (hw.trans (by rw [hk]; rfl)) h3
  ·exact absurd (hw.trans (by rw [hk]; rfl)) h4
  ·exact absurd (hw.trans (by rw [hk]; rfl)) h5
  ·exact absurd (hw.trans (by rw [hk]; rfl)) h6
  ·exact absurd (hw.trans (by rw [hk]; rfl)) h7
 clear h
 rintro o w e ⟨ho, ht, h⟩
 have hz : Opr.zero.Wf := ⟨⟨O_c, O_c⟩, ⟨O_c, O_c⟩, ⟨O_c, O_c⟩, ⟨O_c, O_c⟩, O_c, ⟨O_c, O_c⟩, ⟨O_c, O_c⟩, ⟨O_c, O_c⟩⟩
 refine Y15 ?_
 refine r_v (qf rfl) rfl (r_v (q7 rfl rfl) rfl ?_)
 refine qw (.bool (decide (s = []))) (congrArg Value.bool (strB_same s [])) ?_
 by_cases hs0 : s = []
 ·refine qw (.bool true) (congrArg Value.bool (decide_eq_true hs0)) ?_
  refine Y2i ?_; refine Yb ?_; refine Y1n ?_
  refine r_v (qc (r := Opr.zero.C) rfl) rfl ?_
  refine r_c rfl (qb (vs := Opr.zero.C) 1 h rfl rfl rfl rfl rfl rfl rfl fun w h => ?_)
  replace h : St w0 (OpPt b5 o :: OpPt bz Opr.zero :: l) w := h
  refine Yt ?_
  refine qj (qy (bqS2 (l := Opr.zero.C) rfl rfl (qp (h.b 1 rfl) rfl) ⟨Opr.zero, false, rfl, hz, fun hh => (by cases hh), fun _ => ⟨rfl, fun o' wf' k1 k2 hs => ?_⟩, h.drop.drop⟩))
  rw [hs0] at hs
  exact opS_ne.2 ⟨k1, k2⟩ hs
 refine qw (.bool false) (congrArg Value.bool (decide_eq_false hs0)) ?_
 refine Ym ?_
 refine r_v (qm (l := o.C) rfl rfl (qp (h.b 0 rfl) rfl)) rfl ?_
 refine Y4 ?_
 refine r_c rfl (qq rfl (vq hR.nm ho h) ?_)
 clear h
 rintro _ w ⟨rfl, h⟩
 refine Y4 ?_; refine r_v (qf rfl) rfl ?_; refine Y4 ?_; refine r_v (gd rfl rfl) rfl ?_
 refine qw (.bool (!decide (opS o = s))) (congrArg (fun x => Value.bool (!x)) (strB_same (opS o) s)) ?_
 by_cases hop : opS o = s
 ·refine qw (.bool false) (by rw [decide_eq_true hop]; rfl) ?_
  refine Y2j ?_; refine Y0 ?_
  refine r_v (qm (l := o.C) rfl rfl (qp (h.b 0 rfl) rfl)) rfl ?_
  refine r_c rfl (qb (vs := o.C) 1 h rfl rfl rfl rfl rfl rfl rfl fun w h => ?_)
  replace h : St w0 (OpPt b5 o :: OpPt bz o :: l) w := h
  refine Yt ?_
  have hk := opS_ne.1 (fun hh => hs0 (hop.symm.trans hh))
  exact qj (qy (bqS2 (l := o.C) rfl rfl (qp (h.b 1 rfl) rfl) ⟨o, true, rfl, ho, fun _ => ⟨hop, hs0, ht o ho hk.1 hk.2 hop, ht⟩, fun hh => (by cases hh), h.drop.drop⟩))
 ·refine qw (.bool true) (by rw [decide_eq_false hop]; rfl) ?_
  refine Yn ?_; refine Y1n ?_
  refine r_v (qc (r := Opr.zero.C) rfl) rfl ?_
  refine r_c rfl (qb (vs := Opr.zero.C) 1 h rfl rfl rfl rfl rfl rfl rfl fun w h => ?_)
  replace h : St w0 (OpPt b5 o :: OpPt bz Opr.zero :: l) w := h
  refine Yt ?_
  refine qj (qy (bqS2 (l := Opr.zero.C) rfl rfl (qp (h.b 1 rfl) rfl) ⟨Opr.zero, false, rfl, hz, fun hh => (by cases hh), fun _ => ⟨rfl, fun o' wf' k1 k2 hs => ?_⟩, h.drop.drop⟩))
  exact hop ((Opr.only_told (ht o' wf' k1 k2 hs) k1 k2).trans hs)
end
end
section
open Go.Hw Go.ChangeShapes Go.WideShapes Go.ChangeAt Go.RowKit Go.Lib
abbrev laid7 : List (String × DataW Unit) := [("math/bits.deBruijn32tab", Rows.laid_math_bits_deBruijn32tab), ("math/bits.deBruijn64tab", Rows.laid_math_bits_deBruijn64tab), ("internal/strconv.uint64pow10", Rows.laid_internal_strconv_uint64pow10), ("unicode/utf8.acceptRanges", Rows.laid_unicode_utf8_acceptRanges), ("strconv.ErrRange", Rows.laid_strconv_ErrRange), ("strconv.ErrSyntax", Rows.laid_strconv_ErrSyntax), ("unicode/utf8.first", Rows.laid_unicode_utf8_first)]
theorem deB_data {H : Type} : (Rows.laid_math_bits_deBruijn64tab : DataW H) = tabData .u8 (deB.map fun (v : Nat) => (v : Int)) := rfl
theorem xj {H : Type} : (Rows.laid_internal_strconv_uint64pow10 : DataW H) = tabData .u64 pow10Tab := by
 unfold tabData pow10Tab
 rfl
theorem vn {W : World} {g i : Nat} {v : Value} (h : W.cell? ⟨g, i, none⟩ = some v) : g < W.heap.size := by
 unfold World.cell? at h
 split at h
 ·rename_i hh
  exact (Array.getElem?_eq_some_iff.1 hh).1
 ·cases h
theorem gj (u : TypeId) (h : prog.typeName? 3 u = some "*errors.errorString") : u = 384 :=
 typeName_ptr_named (nm := "errors.errorString") (by rw [show "*" ++ "errors.errorString" = "*errors.errorString" by decide]; kernel_rfl) O1 O4 u (by rw [show "*" ++ "errors.errorString" = "*errors.errorString" by decide]; exact h)
theorem rp_of_laid {W : World} (h : laidMetH prog laid7 W) (hsh : W.ShapedOpen prog) : Rp W := by
 rw [MakeChecks.laidMetH_plain _ _ _ O1] at h
 have h1 := h.tail
 have h2 := h1.tail
 have h3 := h2.tail.tail
 have h4 := h3.tail
 rw [deB_data] at h1
 rw [xj] at h2
 have t1 : TabIs prog W "math/bits.deBruijn64tab" .u8 (deB.map fun (v : Nat) => (v : Int)) := tabIs_of_head (g := 7) (t := 400) (e := 5) (n := 64) O1 O1 underlying400 underlying5 O1 O1 h1
 have t2 : TabIs prog W "internal/strconv.uint64pow10" .u64 pow10Tab := tabIs_of_head (g := 0) (t := 341) (e := 22) (n := 20) O1 O1 underlying341 underlying22 O1 O1 h2
 have c1 : ∀ i v : Nat, deB[i]? = some v -> W.cell? ⟨7, i, none⟩ = some (.int .u8 v) := fun i v hi => by
  have hlt : i < (deB.map fun (v : Nat) => (v : Int)).length := by simpa using (Ue.1 hi).1
  have := t1.cell (g := 7) O1 i hlt
  rw [this, List.getD_eq_getElem?_getD, List.getElem?_map, hi]
  rfl
 obtain ⟨a3, s3, v3, _, _, _⟩ := laid_sentinel h3 (g := 3) (ti := 99) O1 O1 underlying99 gj underlying384 underlying386 rfl rfl underlying9 O1 O1
 obtain ⟨a4, s4, v4, _, _, _⟩ := laid_sentinel h4 (g := 2) (ti := 99) O1 O1 underlying99 gj underlying384 underlying386 rfl rfl underlying9 O1 O1
 have d3 := World.var?_cell (show prog.globalNamed "strconv.ErrRange" = some 3 by kernel_rfl) v3 0
 have d4 := World.var?_cell (show prog.globalNamed "strconv.ErrSyntax" = some 2 by kernel_rfl) v4 0
 obtain ⟨m, hm⟩ := cell_of_shapedOpen_int (P := prog) (g := 1) (t := 3) (zero := #[.iz 0]) hsh (of_decide_eq_true O1) O1 rfl O1 O1 underlying3
 exact ⟨⟨⟨vn (c1 0 0 rfl), c1⟩, t2⟩, ⟨⟨vn (d4.trans rfl), _, d4.trans rfl, .inr ⟨_, _, rfl⟩⟩, ⟨vn (d3.trans rfl), _, d3.trans rfl, .inr ⟨_, _, rfl⟩⟩⟩, ⟨vn hm, m, hm⟩⟩
end
end Go.Proofs.YtdeaeboijmeefaaGreatDoor
namespace Go.Hw
section
open Go.ChangeShapes Go.WideShapes Go.ChangeAt Go.RowKit
section
variable {H : Type} {enc : TypeId × Value -> H} {P : Program} {W : World} {r : Reach} {b0 : Nat}
theorem up {e : TypeId} {ks : List IntKind} [he : EqI P e ks] (hC : P.cellsOf e = ks.length) (h1 : ((P.fieldsOf e).toList.all fun f => P.cellsOf f.type == 1) = true) {base n : Nat} {spare : Nat -> Bool} {held : Bool} {cs : List Value} {y : DataW H × List MemPlace}
  (h : DataW.trod enc P W base spare held n e cs = some y) : ∃ aL : List Int, aL.length = ks.length ∧ cs = ints ks aL ∧ ∀ (j : Nat) k a, ks[j]? = some k -> aL[j]? = some a -> (Lit.int k a).wf = true := by
 obtain ⟨fl, hu, hf⟩ := he.u
 obtain ⟨xs, m, _, _, hlen, hxl, hg⟩ := DataW.trod_struct hu h
 rw [hC] at hlen
 have hfl : fl.length = ks.length := by have := congrArg List.length hf; simpa using this
 have hfo : P.fieldsOf e = fl.toArray := by unfold Program.fieldsOf; rw [hu]
 rw [hfo] at h1
 have each : ∀ j, j < ks.length -> ∃ a : Int, ∀ k, ks[j]? = some k -> cs[j]? = some (.int k a) ∧ (Lit.int k a).wf = true := by
  intro j hj
  have hfj : fl[j]? = some (fl[j]'O3) := Ub O3
  have hff := congrArg (fun l => l[j]?) hf
  simp only [List.getElem?_map, hfj, Uv, List.getElem?_zipIdx, Ub hj, Vo, Up, Prod.mk.injEq] at hff
  obtain ⟨_, ho, ht⟩ := hff
  have hc1 : P.cellsOf (fl[j]'O3).type = 1 := by
   have := Un.1 h1 _ (List.getElem_mem (show j < fl.length by omega))
   simpa using this
  have h2 := hg j (fl[j]'O3) (by rw [List.getElem?_toArray]; exact hfj)
  rw [ho, hc1] at h2
  have hxj : xs[j]? = some (xs[j]'(by rw [hxl]; simpa using by omega)) := Ub _
  rw [hxj] at h2
  obtain ⟨a, h3, _, h4⟩ := DataW.trod_int ht h2
  refine ⟨a, fun k hk => ?_⟩
  rw [Ub hj] at hk
  cases hk
  refine ⟨?_, h4⟩
  have hcj : j < cs.length := by omega
  rw [Ub hcj]
  have h5 : List.take 1 (List.drop j cs) = [cs[j]] := by rw [List.drop_eq_getElem_cons hcj]; rfl
  rw [h5] at h3
  simpa using h3
 obtain ⟨f, hf'⟩ := Go.Deep.choose_lt each
 refine ⟨(List.range ks.length).map f, by simp, ?_, ?_⟩
 ·apply List.ext_getElem?
  intro j
  rw [zr]
  by_cases hj : j < ks.length
  ·rw [(hf' j hj _ (Ub hj)).1]
   simp [hj]
  ·rw [Uq O3, Uq (show ks.length <= j by omega)]
   rfl
 ·intro j k a hk ha
  have hj : j < ks.length := (Ue.1 hk).1
  simp [hj] at ha
  subst ha
  exact (hf' j hj k hk).2
end
end
section
open Go.ChangeShapes Go.WideShapes Go.ChangeAt Go.RowKit
section
variable {P : Program} {W : World} {H : Type} {enc : TypeId × Value -> H} {r : Reach} {b0 : Nat}
theorem xe {t e : TypeId} {k : IntKind} {a : Option Addr} {n c : Nat} {d : DataW H} {p : List MemPlace} (ht : P.underlying t = some (.slice e)) (he : P.underlying e = some (.int k)) (hc : P.cellsOf e = 1)
  (h : DataW.Trod enc P W 0 (fun _ => true) true t (.slice a n c) d p) : n <= c := by
 obtain ⟨fuel, hf⟩ := h
 rcases open_ints ht he hc hf with ⟨hcs, _⟩ | ⟨a', len', cap', zs, hcs, _, hl, _⟩
 ·simp [Value.cells] at hcs
  omega
 ·simp [Value.cells] at hcs
  obtain ⟨_, rfl, rfl⟩ := hcs
  exact hl
theorem arg_bytesC {t e : TypeId} {v : Value} {d : DataW H} {p : List MemPlace} (ht : P.underlying t = some (.slice e)) (he : P.underlying e = some (.int .u8)) (hc : P.cellsOf e = 1)
  (hval : Value.okWide P W r b0 t v) (h : DataW.Trod enc P W 0 (fun _ => true) true t v d p) (hlt : ∀ x ∈ p, x.block < W.heap.size) :
  ∃ (a : Option Addr) (c : Nat) (bs : List UInt8), v = .slice a bs.length c ∧ bs.length <= 9223372036854775807 ∧ bs.length <= c ∧ Reads W [] 1 a bs.length (bytesV bs) := by
 obtain ⟨a, n, c, bs, rfl, h2, h3, h4⟩ := yf ht he hc hval h hlt
 have hcap := xe ht he hc h
 have hl : bs.length = n := by have := h3.1; rw [bytesV_len] at this; omega
 subst hl
 exact ⟨a, c, bs, rfl, maxLen_le h2, hcap, Reads.old h3 h4⟩
theorem byte_of {z : Int} (h : (Lit.int .u8 z).wf = true) : ∃ y : UInt8, z = (y.toNat : Int) := by
 have hz : 0 <= z ∧ z <= 255 := by simpa [Lit.wf, IntKind.min, IntKind.max, IntKind.signed, IntKind.bits] using h
 refine ⟨UInt8.ofNat z.toNat, ?_⟩
 rw [UInt8.toNat_ofNat']
 omega
end
end
section
open Go.ChangeShapes Go.WideShapes Go.ChangeAt Go.RowKit
section
variable {H : Type} {enc : TypeId × Value -> H} {P : Program} {W : World} {r : Reach} {b0 : Nat}
theorem u6 {α : Type} [Inhabited α] {t e : TypeId} {ks : List IntKind} [he : EqI P e ks] {fuel : Nat} {cs : List Value} {d : DataW H} {p : List MemPlace} (cf : α -> List Value) (good : α -> Prop) (hcf : ∀ x, (cf x).length = ks.length)
  (hmk : ∀ aL : List Int, aL.length = ks.length -> (∀ (j : Nat) k a, ks[j]? = some k -> aL[j]? = some a -> (Lit.int k a).wf = true) -> ∃ x, cf x = ints ks aL ∧ good x)
  (ht : P.underlying t = some (.slice e)) (hC : P.cellsOf e = ks.length) (hks : 0 < ks.length) (h1 : ((P.fieldsOf e).toList.all fun f => P.cellsOf f.type == 1) = true)
  (hf : DataW.trod enc P W 0 (fun _ => true) true fuel t cs = some (d, p)) (hlt : ∀ x ∈ p, x.block < W.heap.size) :
  ∃ (a : Option Addr) (n c : Nat) (xs : List α), cs = [.slice a n c] ∧ n <= c ∧ (∀ x ∈ xs, good x) ∧ Rd W ks.length a n (xs.flatMap cf) ∧ (∀ b o, a = some ⟨b, o, none⟩ -> 0 < n -> b < W.heap.size) ∧ (∀ B, (d.weights P t).all (· <= B) = true -> n * P.bytesOf e <= B) := by
 rcases Go.Deep.open_slice ht hf with ⟨hcs, hx⟩ | ⟨a, len, cap, m, n, D, Pl, hcs, _, hl, hm, hmm, hx, hel⟩
 ·exact ⟨none, 0, 0, [], hcs, Ui _, (fun _ h => by cases h), ⟨by simp, .inl rfl⟩, (fun _ _ h => by cases h), fun _ _ => by simp⟩
 ·simp only [Prod.mk.injEq] at hx
  obtain ⟨rfl, rfl⟩ := hx
  simp only [if_true] at hmm
  subst hmm
  have each : ∀ i, i < len -> ∃ x : α, good x ∧ ∀ j v, (cf x)[j]? = some v -> W.cell? ((a.add (i * ks.length)).add j) = some v := by
   intro i hi
   obtain ⟨cs', hc, htr⟩ := hel i O3
   rw [hC] at hc
   obtain ⟨aL, h2, h3, h4⟩ := up hC h1 htr
   obtain ⟨x, h5, h6⟩ := hmk aL h2 h4
   refine ⟨x, h6, fun j v hj => ?_⟩
   obtain ⟨_, hcl, hat⟩ := World.cells?_some hc
   have hj' : j < ks.length := by have := (Ue.1 hj).1; rwa [hcf] at this
   rw [hat j hj', h3, <- h5]
   exact hj
  obtain ⟨f, hf'⟩ := Go.Deep.choose_lt each
  refine ⟨some a, len, _, (List.range len).map f, hcs, hl, ?_, ⟨by rw [g6 hcf]; simp, ?_⟩, ?_, ?_⟩
  ·intro x hx
   simp only [List.mem_map, List.mem_range] at hx
   obtain ⟨i, hi, rfl⟩ := hx
   exact (hf' i hi).1
  ·rcases Uz len with h0 | h0
   ·exact .inl h0
   ·obtain ⟨b, off, spot⟩ := a
    have hc0 := (hf' 0 h0).2 0 _ (Ub (show 0 < (cf (f 0)).length by rw [hcf]; exact hks))
    have hspot : spot = none := by simpa [Addr.add] using World.cell?_spot hc0
    subst hspot
    refine .inr ⟨b, off, rfl, fun j v hj => ?_⟩
    have hjl : j < len * ks.length := by
     have := (Ue.1 hj).1
     rw [g6 hcf] at this
     simpa using this
    have hi : j / ks.length < len := (Nat.div_lt_iff_lt_mul hks).2 hjl
    have hjj : j = j / ks.length * ks.length + j % ks.length := by rw [Nat.mul_comm]; exact (Nat.div_add_mod _ _).symm
    have hmod : j % ks.length < (cf (f (j / ks.length))).length := by rw [hcf]; exact Vk _ hks
    have hv := vi hcf ((List.range len).map f) (j / ks.length) (f (j / ks.length)) (by simp [hi]) (j % ks.length) _ (Ub hmod)
    rw [<- hjj, hj] at hv
    cases hv
    have := (hf' _ hi).2 _ _ (Ub hmod)
    rw [Go.Deep.add_add, <- hjj, Addr.add_mid] at this
    exact this
  ·intro b o hb hn
   cases hb
   exact hlt (.cell b o) (List.mem_append_left _ (MemPlace.mem_row.2 ⟨0, by rw [hC]; exact Nat.mul_pos O3 hks, by simp⟩))
  ·intro B hB
   have := Un.1 hB ((((List.range len).map D).length + ((List.range (_ - len)).map fun j => D (len + j)).length) * P.bytesOf e) (by rw [DataW.weights]; simp only [ht]; exact Uk ..)
   simp only [List.length_map, List.length_range, decide_eq_true_eq] at this
   exact Vf (Uo _ O3) this
structure RowS where
 a : Option Addr
 n : Nat
 c : Nat
 xs : List Smp
instance : Inhabited RowS := ⟨⟨none, 0, 0, []⟩⟩
end
end
section
open Go.ChangeShapes Go.WideShapes Go.ChangeAt Go.RowKit
theorem returns_shape {H : Type} {enc : TypeId × Value -> H} {a : Assume} {C : Checked} {os : Os} {f : FuncId} {fn : Func} {s : ChangeSpec} {conds : List PathCond} {apart fresh handsOn again : Bool} {X : World -> Array Value -> Prop}
  (hX : ∀ (w w' : World) (args : Array Value), w.heap = w'.heap -> X w args -> X w' args)
  (own : ownKnob C.prog.godebug = none) (started : os.Started) (noInit : C.prog.inits.idxOf? f = none) (hfn : C.prog.funcs[f]? = some fn)
  (witness : ∃ (w : World) (tape : Tape) (i : Input), w.os = os ∧ (w.forCall tape i).Shaped C.prog ∧ i.vars = [] ∧ Input.okWide C.prog (w.forCall tape i) .any w.heap.size f i ∧
   ((s.pre enc C.prog fn conds apart (w.forCall tape i).memory i.args ∧ X (w.forCall tape i).memory i.args) ∧ sizedMet enc C.prog fn (OpenSpec.ofChange s) apart (w.forCall tape i).memory i.args) ∧ a.holds C.prog (lone (Frame.enter C.prog f i.args .normal) [] (w.forCall tape i)))
  (main : ∀ (W : World) (base : Nat) (args : Array Value) (ds gs : List (DataW H)) (before : List MemPlace),
   (∀ (j : Nat) t v, fn.params[j]? = some t -> args[j]? = some v -> Value.okWide C.prog W .any base t v) ->
   DataW.Whole enc C.prog fn.params.toList s.vars apart W args.toList ds gs before ->
   (DataW.weightsEach C.prog (fn.params.toList ++ s.plain.varTypes C.prog) (ds ++ gs)).all (· <= reachBytes) = true -> X W args -> W.ShapedOpen C.prog ->
   Calls C.prog f args W fun e W' => ∃ v, e = .returned v ∧ s.post enc C.prog fn apart fresh handsOn again W args v W') :
  ReturnsInHanded a C os f .any (fun w args => (s.pre enc C.prog fn conds apart w args ∧ X w args) ∧ sizedMet enc C.prog fn (OpenSpec.ofChange s) apart w args) (s.post enc C.prog fn apart fresh handsOn again) := by
 refine returnsInHanded_of_calls own started noInit witness ?_
 intro w tape i _ hsh _ hok hpre _
 obtain ⟨_, _, _, fn', hfn', _, _, _, _, hval⟩ := hok
 obtain rfl : fn' = fn := Option.some.inj (hfn'.symm.trans hfn)
 obtain ⟨⟨⟨ds, gs, before, hw, hc⟩, hx⟩, hz⟩ := hpre
 refine (main (w.forCall tape i) w.heap.size i.args ds gs before hval (DataW.Whole.of_heap (w' := w.forCall tape i) (by rfl) hw) (hz.weights hw) (hX _ _ _ (by rfl) hx) hsh).mono fun e W' ⟨v, he, hp⟩ => ?_
 subst he
 exact ChangeSpec.post_blind hp
section
variable {P : Program} {W : World} {H : Type} {enc : TypeId × Value -> H} {r : Reach} {b0 : Nat}
theorem xg {t : TypeId} {ks : List IntKind} [he : EqI P t ks] {v : Value} {d : DataW H} {p : List MemPlace} (hC : P.cellsOf t = ks.length) (h1 : ((P.fieldsOf t).toList.all fun f => P.cellsOf f.type == 1) = true)
  (hval : Value.okWide P W r b0 t v) (h : DataW.Trod enc P W 0 (fun _ => true) true t v d p) :
  ∃ aL : List Int, aL.length = ks.length ∧ v = .agg (ints ks aL).toArray ∧ ∀ (j : Nat) k a, ks[j]? = some k -> aL[j]? = some a -> (Lit.int k a).wf = true := by
 obtain ⟨fl, hu, _⟩ := he.u
 obtain ⟨cs, rfl, hcs⟩ := okWide_struct hu hval
 obtain ⟨fuel, hf⟩ := h
 obtain ⟨aL, h2, h3, h4⟩ := up hC h1 hf
 refine ⟨aL, h2, ?_, h4⟩
 have hc : cs.toList = ints ks aL := by simpa [Value.cells] using h3
 rw [<- hc]
theorem arg_op {t : TypeId} [he : EqI P t [.i64, .i64, .i64, .i64, .u64, .i64, .i64, .i64]] {v : Value} {d : DataW H} {p : List MemPlace} (hC : P.cellsOf t = 8) (h1 : ((P.fieldsOf t).toList.all fun f => P.cellsOf f.type == 1) = true)
  (hval : Value.okWide P W r b0 t v) (h : DataW.Trod enc P W 0 (fun _ => true) true t v d p) : ∃ o : Opr, v = .agg o.C.toArray ∧ o.Wf := by
 obtain ⟨aL, h2, rfl, h4⟩ := xg hC h1 hval h
 match aL, h2 with
 | [a, b, c, d, e, f, g, i], _ =>
  have x0 := h4 0 .i64 a rfl rfl
  have x1 := h4 1 .i64 b rfl rfl
  have x2 := h4 2 .i64 c rfl rfl
  have x3 := h4 3 .i64 d rfl rfl
  have x4 := h4 4 .u64 e rfl rfl
  have x5 := h4 5 .i64 f rfl rfl
  have x6 := h4 6 .i64 g rfl rfl
  have x7 := h4 7 .i64 i rfl rfl
  simp [Lit.wf, IntKind.min, IntKind.max, IntKind.signed, IntKind.bits] at x0 x1 x2 x3 x4 x5 x6 x7
  have e4 : ((e.toNat : Nat) : Int) = e := by omega
  refine ⟨⟨a, b, c, d, e.toNat, f, g, i⟩, ?_, ?_⟩
  ·show Value.agg (ints [.i64, .i64, .i64, .i64, .u64, .i64, .i64, .i64] [a, b, c, d, e, f, g, i]).toArray = .agg [.iz a, .iz b, .iz c, .iz d, .int .u64 ((e.toNat : Nat) : Int), .iz f, .iz g, .iz i].toArray
   rw [e4]; rfl
  ·refine ⟨⟨?_, ?_⟩, ⟨?_, ?_⟩, ⟨?_, ?_⟩, ⟨?_, ?_⟩, ?_, ⟨?_, ?_⟩, ⟨?_, ?_⟩, ⟨?_, ?_⟩⟩ <;> dsimp only <;> omega
theorem arg_res {t te ti tl e : TypeId} {fs : List Field} [he : EqI P e [.i64, .u64]] {v : Value} {d : DataW H} {p : List MemPlace} (hu : P.underlying t = some (.struct fs.toArray)) (hfs : fs.map (fun f => (f.type, f.offset)) = [(te, 0), (ti, 1), (tl, 2)]) (hC : P.cellsOf t = 3)
  (c0 : P.cellsOf te = 1) (c1 : P.cellsOf ti = 1) (c2 : P.cellsOf tl = 1) (u0 : P.underlying te = some (.int .i64)) (u1 : P.underlying ti = some (.int .i64)) (u2 : P.underlying tl = some (.slice e)) (hce : P.cellsOf e = 2) (h1 : ((P.fieldsOf e).toList.all fun f => P.cellsOf f.type == 1) = true)
  (hval : Value.okWide P W r b0 t v) (h : DataW.Trod enc P W 0 (fun _ => true) true t v d p) (hlt : ∀ x ∈ p, x.block < W.heap.size) :
  ∃ (a : Option Addr) (c : Nat) (q : Res), v = .agg (q.C a c).toArray ∧ (I64 q.err ∧ I64 q.iter ∧ ∀ s ∈ q.list, s.Wf) ∧ Reads W [] 2 a q.list.length (smpsV q.list) := by
 have : Inhabited Smp := ⟨⟨0, 0⟩⟩
 obtain ⟨cs, rfl, hcs⟩ := okWide_struct hu hval
 obtain ⟨fuel, hf⟩ := h
 obtain ⟨xs, n, rfl, hx, hlen, hxl, hg⟩ := DataW.trod_struct hu hf
 simp only [Prod.mk.injEq] at hx
 obtain ⟨_, hp⟩ := hx
 have hl : fs.length = 3 := by simpa using congrArg List.length hfs
 match fs, hl, hfs, hg with
 | [g0, g1, g2], _, hfs, hg =>
  simp only [List.map_cons, List.map_nil, List.cons.injEq, Prod.mk.injEq, and_true] at hfs
  obtain ⟨⟨rfl, o0⟩, ⟨rfl, o1⟩, rfl, o2⟩ := hfs
  obtain ⟨csl⟩ := cs
  have hl3 : csl.length = 3 := by simpa [hC] using hcs
  match csl, hl3 with
  | [v0, v1, v2], _ =>
   match xs, hxl with
   | [y0, y1, y2], _ =>
    have k0 := hg 0 g0 rfl
    have k1 := hg 1 g1 rfl
    have k2 := hg 2 g2 rfl
    rw [o0, c0] at k0
    rw [o1, c1] at k1
    rw [o2, c2] at k2
    obtain ⟨z0, e0, _, w0⟩ := DataW.trod_int u0 k0
    obtain ⟨z1, e1, _, w1⟩ := DataW.trod_int u1 k1
    have m2 : ∀ x ∈ y2.2, x.block < W.heap.size := fun x hx => hlt x (by rw [hp]; simp [hx])
    obtain ⟨a, m, c, L, e2, _, hgood, hrd, hblk, _⟩ := u6 (α := Smp) (ks := [.i64, .u64]) (e := e) (cf := Smp.cells) (fun s => s.Wf) g7 (fun aL ha hw => by
     match aL, ha with
     | [x, y], _ =>
      have hx := hw 0 .i64 x rfl rfl
      have hy := hw 1 .u64 y rfl rfl
      simp [Lit.wf, IntKind.min, IntKind.max, IntKind.signed, IntKind.bits] at hx hy
      exact ⟨⟨x, y⟩, rfl, ⟨O_d, O_d⟩, O_d, O_d⟩) u2 hce O4 h1 k2 m2
    have f0 : v0 = .iz z0 := by simpa [Value.cells] using e0
    have f1 : v1 = .iz z1 := by simpa [Value.cells] using e1
    have f2 : v2 = .slice a m c := by simpa [Value.cells] using e2
    subst f0 f1 f2
    have hl : L.length = m := Rd.count (f := Smp.cells) hrd g7 O4
    subst hl
    simp [Lit.wf, IntKind.min, IntKind.max, IntKind.signed, IntKind.bits] at w0 w1
    exact ⟨a, c, ⟨z0, z1, L⟩, rfl, ⟨⟨O_d, O_d⟩, ⟨O_d, O_d⟩, hgood⟩, Reads.old hrd hblk⟩
end
end
section
section
variable {P : Program} {ops : Array Oper} {J : List Nat -> World -> Prop} {Q : Env -> World -> Prop} {e : Env} {w : World} {post : List Nat}
theorem xv (h : Cur P ops J Q post [] e w) : Cur P ops J Q [] post e w := by
 unfold Cur at h ⊢
 rw [Um] at h
 rw [Uw]; exact h
theorem xr (h : Cur P ops J Q [] post e w) : Cur P ops J Q post [] e w := by
 unfold Cur at h ⊢
 rw [Uw] at h
 rw [Um]; exact h
theorem x8 {k : Nat} (hl : post.length = k + 1) (h : ∀ i ∈ post.filter (rdy ops post), ∃ o, ops.toList[i]? = some o ∧ Region.wanted o (gv ops e) = true ∧ Ex P o e w fun e' w' => J (post.erase i) w' ∧ Cur P ops J Q [] (post.erase i) e' w') : Cur P ops J Q [] post e w := by
 refine xv ?_
 unfold Cur
 intro hg hnd
 rw [Um] at hnd
 rw [Um, hl]
 with_unfolding_all intro j hj hjr
 obtain ⟨o, ho, hw, hE⟩ := h j (List.mem_filter.2 ⟨hj, hjr⟩)
 unfold Wn
 rw [<- toList_get, ho]
 refine ⟨fun _ => hE.mono fun e' w' ⟨a, b⟩ => ⟨a, ?_⟩, fun hn => by rw [hw] at hn; cases hn⟩
 unfold Cur at b
 have b := b hg (by rw [Uw]; exact hnd.erase _)
 rw [Uw, Ut hj, hl] at b
 exact b
theorem yz {σ : Type} (rem : σ -> List Nat) (fin : σ -> Bool) (I : σ -> Env -> World -> Prop) (hJ : ∀ t w, J t w) (hfin : ∀ s e w, I s e w -> fin s = true -> Cur P ops J Q [] (rem s) e w)
  (hstep : ∀ s e w, I s e w -> fin s = false -> rem s ≠ [] ∧ ∀ i ∈ (rem s).filter (rdy ops (rem s)), ∃ s' o, ops.toList[i]? = some o ∧ Region.wanted o (gv ops e) = true ∧ rem s' = (rem s).erase i ∧ Ex P o e w fun e' w' => I s' e' w') :
  ∀ (n : Nat) (s : σ) (e : Env) (w : World), (rem s).length = n -> I s e w -> Cur P ops J Q [] (rem s) e w
 | 0, s, e, w, hn, hI => by
  cases hf : fin s with
  | true => exact hfin s e w hI hf
  | false => exact absurd (Uf hn) (hstep s e w hI hf).1
 | n + 1, s, e, w, hn, hI => by
  cases hf : fin s with
  | true => exact hfin s e w hI hf
  | false =>
   refine x8 hn fun i hi => ?_
   obtain ⟨s', o, h1, h2, h3, h4⟩ := (hstep s e w hI hf).2 i hi
   refine ⟨o, h1, h2, h4.mono fun e' w' hI' => ⟨hJ _ _, ?_⟩⟩
   rw [<- h3]
   refine yz rem fin I hJ hfin hstep n s' e' w' ?_ hI'
   rw [h3, Ut (List.mem_filter.1 hi).1, hn]
   rfl
end
end
section
open Go.Lib
theorem itoa_3 : itoa 3 = [51] := by
 show (if (3 : Int) < 0 then _ else decDigits 3) = _
 rw [if_neg O4, decDigits_rec]; rfl
theorem x9 : itoa (-5) = [45, 53] := by
 show (if (-5 : Int) < 0 then 45 :: decDigits 5 else _) = _
 rw [if_pos O4, decDigits_rec]; rfl
theorem hexS_255 : hexS 255 = [102, 102] := by
 rw [hexS_rec, if_neg O4, show 255 / 16 = 15 from rfl, hexS_rec 15, if_pos O4]; rfl
theorem hexS_16 : hexS 16 = [49, 48] := by
 rw [hexS_rec, if_neg O4, show 16 / 16 = 1 from rfl, hexS_rec 1, if_pos O4]; rfl
def opA : Opr := ⟨1, 3, 0, -5, 255, 0, 0, 0⟩
def txA : List UInt8 := [97, 112, 112, 101, 110, 100, 32, 51, 32, 45, 53, 32, 102, 102]
def txB : List UInt8 := [97, 112, 112, 101, 110, 100, 32, 51, 32, 45, 53, 32, 48, 102, 102]
theorem opA_wf : opA.Wf := ⟨⟨O_c, O_c⟩, ⟨O_c, O_c⟩, ⟨O_c, O_c⟩, ⟨O_c, O_c⟩, O_c, ⟨O_c, O_c⟩, ⟨O_c, O_c⟩, ⟨O_c, O_c⟩⟩
theorem opA_text : opS opA = txA := by
 show joinW [wAppend, itoa 3, itoa (-5), hexS 255] = txA
 rw [itoa_3, x9, hexS_255]; rfl
theorem kl {o : Opr} {ws : List (List UInt8)} (hws : ws ≠ []) (h32 : ∀ x ∈ ws, 32 ∉ x) (k1 : 1 <= o.kind) (k2 : o.kind <= 7) (h : opS o = joinW ws) : opW o = ws := by
 rw [<- gz (opW_kind.2 ⟨k1, k2⟩) (opW_words o), <- gz hws h32]
 show split (opS o) [32] = _
 rw [h]
theorem txB_none (o : Opr) (k1 : 1 <= o.kind) (k2 : o.kind <= 7) : opS o ≠ txB := by
 intro h
 have hw := kl (ws := [wAppend, [51], [45, 53], [48, 102, 102]]) O8 O4 k1 k2 h
 have hk : o.kind = 1 := ju k1 k2 1 O4 O4 (by rw [<- opW_first, hw]; rfl)
 have hw2 : opW o = [wAppend, itoa o.series, itoa o.T, hexS o.V] := by unfold opW; rw [if_pos hk]
 rw [hw2] at hw
 have hv : hexS o.V = [48, 102, 102] := by simpa using (List.cons.inj (List.cons.inj (List.cons.inj (List.cons.inj hw).2).2).2).1
 have e1 : o.V = 255 := by rw [<- hexN_S o.V, hv]; decide
 rw [e1, hexS_255] at hv
 exact absurd hv O4
end
end Go.Hw
namespace Go.Proofs.YtdeaeboijmeefaaGreatDoor
open Go.Hw _root_.Go.Proofs.Tryz
section
structure Kept where
 bs : List UInt8
 holds : Int
def IsKept (e : Nat) (x : Kept) : HProp := ex fun q : Option Addr × Nat => all [pt e (.cells [.slice q.1 x.bs.length q.2, .iz x.holds].toArray 140 (0, 0)), Own 5 1 q.1 x.bs.length q.2 (bytesV x.bs)]
structure Sto where
 budget : Int
 last : Int
 bytes : Int
 charged : Int
 l : List (Int × Kept)
abbrev stCells (S : Sto) (m : Nat) : List Value := [.iz S.budget, .iz S.last, .iz S.bytes, .iz S.charged, .map (some m)]
abbrev StoPt (p m : Nat) (S : Sto) : HProp := pt p (.cells (stCells S m).toArray 125 (0, 0))
def IsStore (p : Nat) (S : Sto) : HProp := ex fun m : Nat => all [StoPt p m S, PMap Value.iz m IsKept S.l]
theorem St.store {w0 w : World} {l : List HProp} {p : Nat} {S : Sto} : St w0 (IsStore p S :: l) w ↔ ∃ m, St w0 (StoPt p m S :: PMap Value.iz m IsKept S.l :: l) w := by
 unfold IsStore
 rw [St.ex]
 exact ⟨fun ⟨m, h⟩ => ⟨m, h.join⟩, fun ⟨m, h⟩ => ⟨m, St.fold [_, _] h⟩⟩
section
variable {w0 w : World} {l : List HProp} {p m : Nat} {S : Sto}
theorem xu (n : Int) (h : St w0 l w) : Ret prog 55 [.iz n] w fun v w' => ∃ p, v = .pz p ∧ St w0 (IsStore p ⟨min (max n 0) 1073741824, 0, 0, 0, []⟩ :: l) w' := by
 refine en func55 results55 ntmps55 ?_
 refine Y2c ?_; refine Y5 ?_; refine r_v (q_max rfl rfl) rfl ?_; refine Y30 ?_
 refine r_c rfl (yq Value.iz IsKept h fun m w h => ?_)
 refine r_v (qc rfl) rfl ?_
 refine r_c rfl (js h rfl fun p w h => ?_)
 refine Yx ?_
 refine qj (qy (bq1 ⟨p, rfl, ?_⟩))
 exact St.store.2 ⟨m, h⟩
theorem yi (h : St w0 (StoPt p m S :: l) w) : Ret prog 22 [.pz p] w fun v w' => v = .iz (IntKind.i64.wrap (S.bytes + S.charged)) ∧ St w0 (StoPt p m S :: l) w' := by
 refine en func22 results22 ntmps22 ?_
 refine Y1c ?_
 refine qj (ql (gk none (fun w => St w0 (StoPt p m S :: l) w) O1 O1 h.drew fun w h => ?_))
 refine Y12 ?_; refine qu rfl rfl rfl rfl h (fun _ h => qx rfl (qk rfl (h.b 0) rfl)) ?_; refine Y12 ?_; refine qu rfl rfl rfl rfl h (fun _ h => qx rfl (qk rfl (h.b 0) rfl)) ?_; refine cpv rfl rfl rfl rfl h rfl (k8 rfl rfl) ?_; refine Y2x ?_
 exact qi (qy (bq1 ⟨rfl, h⟩))
theorem ke (h : St w0 (IsStore p S :: l) w) : Ret prog 22 [.pz p] w fun v w' => v = .iz (IntKind.i64.wrap (S.bytes + S.charged)) ∧ St w0 (IsStore p S :: l) w' := by
 obtain ⟨m, h⟩ := St.store.1 h
 exact (yi h).mono fun _ _ h => ⟨h.1, St.store.2 ⟨m, h.2⟩⟩
def Sto.put (S : Sto) (id : Int) (x : Kept) : Sto := { S with l := mset id x S.l }
def Sto.left (S : Sto) (id : Int) (x : Kept) : Sto :=
 if IntKind.i64.wrap (x.holds - 1) = 0 then { S with bytes := IntKind.i64.wrap (S.bytes - x.bs.length), l := mdel id S.l } else S.put id ⟨x.bs, IntKind.i64.wrap (x.holds - 1)⟩
end
end
section
structure SnapV where
 life : Int
 ver : Int
 frm : Int
 upto : Int
 pn : Nat
 pc : List Value
 tn : Nat
 tc : List Value
abbrev SnapV.cells (x : SnapV) (a1 : Option Addr) (c1 : Nat) (a2 : Option Addr) (c2 : Nat) : List Value := [.iz x.life, .iz x.ver, .iz x.frm, .iz x.upto, .slice a1 x.pn c1, .slice a2 x.tn c2]
structure SnapV.Wf (x : SnapV) : Prop where
 p1 : ∀ u ∈ x.pc, u.oneCell' = true
 t1 : ∀ u ∈ x.tc, u.oneCell' = true
 pn : x.pn * 40 <= 140737488355328
 tn : x.tn * 16 <= 140737488355328
structure One where
 series : Int
 told : Int
 x : SnapV
 used : Bool
 who : Int
abbrev One.cells (o : One) (a1 : Option Addr) (c1 : Nat) (a2 : Option Addr) (c2 : Nat) : List Value := [.iz o.series, .iz o.told, .iz o.x.life, .iz o.x.ver, .iz o.x.frm, .iz o.x.upto, .slice a1 o.x.pn c1, .slice a2 o.x.tn c2, .bool o.used, .iz o.who]
abbrev OwnP (x : SnapV) (a1 : Option Addr) (c1 : Nat) : HProp := Own 72 5 a1 x.pn c1 x.pc
abbrev OwnT (x : SnapV) (a2 : Option Addr) (c2 : Nat) : HProp := Own 91 2 a2 x.tn c2 x.tc
def IsOne (e : Nat) (o : One) : HProp := ex fun q : Option Addr × Nat × Option Addr × Nat => all [pt e (.cells (o.cells q.1 q.2.1 q.2.2.1 q.2.2.2).toArray 288 (0, 0)), OwnP o.x q.1 q.2.1, OwnT o.x q.2.2.1 q.2.2.2, lift o.x.Wf]
theorem St.one {w0 w : World} {l : List HProp} {e : Nat} {o : One} : St w0 (IsOne e o :: l) w ↔ o.x.Wf ∧ ∃ a1 c1 a2 c2, St w0 (pt e (.cells (o.cells a1 c1 a2 c2).toArray 288 (0, 0)) :: OwnP o.x a1 c1 :: OwnT o.x a2 c2 :: l) w := by
 unfold IsOne
 rw [St.ex]
 constructor
 ·rintro ⟨⟨a1, c1, a2, c2⟩, h⟩
  have h1 := (h.join.f 3)
  obtain ⟨hw, h2⟩ := St.lift.1 h1
  exact ⟨hw, a1, c1, a2, c2, h2⟩
 ·rintro ⟨hw, a1, c1, a2, c2, h⟩
  have h1 := (St.lift.2 ⟨hw, h⟩)
  have h2 : St w0 ([pt e (.cells (o.cells a1 c1 a2 c2).toArray 288 (0, 0)), OwnP o.x a1 c1, OwnT o.x a2 c2, lift o.x.Wf] ++ l) w := h1.of_all (by simp only [List.cons_append, Uw, gy]; ac_rfl)
  exact ⟨(a1, c1, a2, c2), St.fold _ h2⟩
structure Tab where
 last : Int
 l : List (Int × One)
abbrev TabPt (p m : Nat) (T : Tab) : HProp := pt p (.cells [.iz T.last, .map (some m)].toArray 186 (0, 0))
def IsTab (p : Nat) (T : Tab) : HProp := ex fun m : Nat => all [TabPt p m T, PMap Value.iz m IsOne T.l]
theorem St.tab {w0 w : World} {l : List HProp} {p : Nat} {T : Tab} : St w0 (IsTab p T :: l) w ↔ ∃ m, St w0 (TabPt p m T :: PMap Value.iz m IsOne T.l :: l) w := by
 unfold IsTab
 rw [St.ex]
 exact ⟨fun ⟨m, h⟩ => ⟨m, h.join⟩, fun ⟨m, h⟩ => ⟨m, St.fold [_, _] h⟩⟩
section
variable {w0 w : World} {l : List HProp} {p m : Nat} {T : Tab}
theorem xk (h : St w0 l w) : Ret prog 56 [] w fun v w' => ∃ p, v = .pz p ∧ St w0 (IsTab p ⟨0, []⟩ :: l) w' := by
 refine en func56 results56 ntmps56 ?_
 refine Y0 ?_; refine Yx ?_; refine Y9 ?_
 refine r_c rfl (yq Value.iz IsOne h fun m w h => ?_)
 refine r_v (qc rfl) rfl ?_
 refine r_c rfl (js h rfl fun p w h => ?_)
 refine Yx ?_
 refine qj (qy (bq1 ⟨p, rfl, ?_⟩))
 exact St.tab.2 ⟨m, h⟩
theorem ka (h : St w0 (IsTab p T :: l) w) : Ret prog 85 [.pz p] w fun v w' => v = .iz T.l.length ∧ St w0 (IsTab p T :: l) w' := by
 obtain ⟨m, h⟩ := St.tab.1 h
 refine en func85 results85 ntmps85 ?_
 refine Yi ?_; refine Y8 ?_; refine r_v (qk rfl (h.b 0) rfl) rfl ?_
 refine r_v (q_plen (h.f 1) rfl) rfl ?_
 refine Y3 ?_
 exact qy (bq1 ⟨rfl, St.tab.2 ⟨m, h⟩⟩)
def One.by (o : One) (who : Int) : Prop := o.used = true ∧ o.who = who
end
end
section
open Go.Hw Go.Lib
section
variable {w0 w : World} {l : List HProp}
def placeZ : List Value := [.bool false, .bool false, .iz 0, .iz 0, .bool false, .iz 0, .slice none 0 0, .slice none 0 0, .bool false, .iz 0]
def dirZ : List Value := (List.replicate 16 placeZ).flatten
theorem xy (h : St w0 l w) : Ret prog 53 [] w fun v w' => ∃ p, v = .pz p ∧ St w0 (pt p (.cells dirZ.toArray 176 (0, 0)) :: l) w' := by
 refine en func53 results53 ntmps53 ?_
 refine Y0 ?_; refine Yx ?_; refine Y9 ?_
 refine r_v (qc rfl) rfl ?_
 refine r_c rfl (js h rfl fun p w h => ?_)
 refine Yx ?_
 exact qj (qy (bq1 ⟨p, rfl, h⟩))
def jobZ (m : Nat) : List Value := [.iz 0, .map (some m), .iz 0, .iz 0, .iz 0, .iz 0, .iz 0, .iz 0, .iz 0, .iz 0, .pointer none, .pointer none, .slice none 0 0, .slice none 0 0,
 .bool false, .bool false, .iz 0, .iz 0, .bool false, .iz 0, .slice none 0 0, .slice none 0 0, .iz 0, .iz 0, .bool false]
theorem xz (h : St w0 l w) : Ret prog 18 [] w fun v w' => ∃ p m, v = .pz p ∧ St w0 (pt p (.cells (jobZ m).toArray 122 (0, 0)) :: MapOf Value.iz m [] :: l) w' := by
 refine en func18 results18 ntmps18 ?_
 refine Y0 ?_; refine Yx ?_; refine Y9 ?_
 refine r_c rfl (ur Value.iz h fun m w h => ?_)
 refine r_v (qc (r := jobZ m) rfl) rfl ?_
 refine r_c rfl (js h rfl fun p w h => ?_)
 refine Yx ?_
 exact qj (qy (bq1 ⟨p, m, rfl, h⟩))
def clkZ (n : Int) : List Value := [.iz (min (max n 1) 1000), .iz 1, .slice none 0 0, .iz 0, .iz 0, .iz 0]
theorem xx (n : Int) (h : St w0 l w) : Ret prog 95 [.iz n] w fun v w' => v = .agg (clkZ n).toArray ∧ St w0 l w' := by
 refine en func95 results95 ntmps95 ?_
 refine Y0 ?_
 refine r_c rfl (qt h fun b w h => ?_)
 refine Y2a ?_; refine r_v (q_max rfl rfl) rfl ?_; refine Y30 ?_
 refine r_v (qc (r := clkZ n) rfl) rfl ?_
 refine r_c rfl (qb (vs := clkZ n) 0 h rfl rfl rfl rfl rfl rfl rfl fun w h => ?_)
 exact qj (qy (bqS1 (l := clkZ n) rfl rfl (qp (h.b 0 rfl) rfl) ⟨rfl, h.drop⟩))
def cacZ (n : Int) (m : Nat) : List Value := [.iz (min (max n 1) 1000), .iz 1, .slice none 0 0, .iz 0, .iz 0, .iz 0, .map (some m)]
theorem xw (n : Int) (h : St w0 l w) : Ret prog 54 [.iz n] w fun v w' => ∃ p m, v = .pz p ∧ St w0 (pt p (.cells (cacZ n m).toArray 183 (0, 0)) :: MapOf Value.iz m [] :: l) w' := by
 refine en func54 results54 ntmps54 ?_
 refine Y2c ?_; refine Y5 ?_
 refine r_c rfl (qq rfl (xx n h) ?_)
 clear h
 rintro _ w ⟨rfl, h⟩
 refine r_c rfl (ur Value.iz h fun m w h => ?_)
 refine r_v (qc (r := cacZ n m) rfl) rfl ?_
 refine r_c rfl (js h rfl fun p w h => ?_)
 refine Yx ?_
 exact qj (qy (bq1 ⟨p, m, rfl, h⟩))
structure EngAt where
 p : Nat
 sh : Nat
 jb : Nat
 dr : Nat
 ca : Nat
 st : Nat
 it : Nat
 m1 : Nat
 m2 : Nat
 rest : List Value
def EngAt.own (E : EngAt) (n b : Int) : List HProp := [pt E.p (.cells (.pointer (some ⟨E.sh, 0, none⟩) :: .pointer (some ⟨E.jb, 0, none⟩) :: E.rest).toArray 162 (0, 0)),
 pt E.sh (.cells [.pointer (some ⟨E.dr, 0, none⟩), .pointer (some ⟨E.ca, 0, none⟩), .pointer (some ⟨E.st, 0, none⟩), .pointer (some ⟨E.it, 0, none⟩)].toArray 116 (0, 0)),
 pt E.jb (.cells (jobZ E.m1).toArray 122 (0, 0)), pt E.dr (.cells dirZ.toArray 176 (0, 0)),
 pt E.ca (.cells (cacZ n E.m2).toArray 183 (0, 0)), MapOf Value.iz E.m2 [], IsStore E.st ⟨min (max b 0) 1073741824, 0, 0, 0, []⟩, IsTab E.it ⟨0, []⟩]
theorem v7 (n b : Int) (h : St w0 l w) : Ret prog 17 [.iz n, .iz b] w fun v w' => ∃ sh dr ca st it m2, v = .pz sh ∧ St w0 (pt sh (.cells [.pz dr, .pz ca, .pz st, .pz it].toArray 116 (0, 0)) ::
  pt dr (.cells dirZ.toArray 176 (0, 0)) :: pt ca (.cells (cacZ n m2).toArray 183 (0, 0)) :: MapOf Value.iz m2 [] :: IsStore st ⟨min (max b 0) 1073741824, 0, 0, 0, []⟩ :: IsTab it ⟨0, []⟩ :: l) w' := by
 refine en func17 results17 ntmps17 ?_
 refine Y0 ?_; refine Yx ?_; refine Y9 ?_
 refine r_c rfl (qq rfl (xy h) ?_)
 clear h
 rintro _ w ⟨dr, rfl, h⟩
 refine Y1 ?_
 refine r_c rfl (qq rfl (xw n h) ?_)
 clear h
 rintro _ w ⟨ca, m2, rfl, h⟩
 refine Y1 ?_
 refine r_c rfl (qq rfl (xu b h) ?_)
 clear h
 rintro _ w ⟨st, rfl, h⟩
 refine r_c rfl (qq rfl (xk h) ?_)
 clear h
 rintro _ w ⟨it, rfl, h⟩
 refine r_v (qc (r := [.pz dr, .pz ca, .pz st, .pz it]) rfl) rfl ?_
 refine r_c rfl (js h rfl fun sh w h => ?_)
 refine Yx ?_
 exact qj (qy (bq1 ⟨sh, dr, ca, st, it, m2, rfl, (((((h.f 1).f 2).f 4).f 4).f 5).f 5⟩))
theorem xh (n b : Int) (h : St w0 l w) : Ret prog 39 [.iz n, .iz b] w fun v w' => ∃ E : EngAt, v = .pointer (some ⟨E.p, 0, none⟩) ∧ St w0 (E.own n b ++ l) w' := by
 refine en func39 results39 ntmps39 ?_
 refine Y2c ?_; refine Y24 ?_
 refine r_c rfl (qq rfl (v7 n b h) ?_)
 clear h
 rintro _ w ⟨sh, dr, ca, st, it, m2, rfl, h⟩
 refine r_c rfl (qq rfl (xz h) ?_)
 clear h
 rintro _ w ⟨jb, m1, rfl, h⟩
 replace h := (h.f 1).drop
 refine r_v (qc rfl) rfl ?_
 refine r_c rfl (js h rfl fun p w h => ?_)
 refine Yx ?_
 exact qj (qy (bq1 ⟨⟨p, sh, jb, dr, ca, st, it, m1, m2, _⟩, rfl, (((((((h.f 7).f 7).f 7).f 7).f 7).f 6).f 7).f 7⟩))
end
end
section
open Go.Hw Go.Lib
section
variable {w0 w : World} {l : List HProp} {E : EngAt} {n b : Int}
theorem kh (h : St w0 (E.own n b ++ l) w) : Ret prog 81 [.pointer (some ⟨E.p, 0, none⟩)] w fun v w' => v = .pointer (some ⟨E.jb, 0, none⟩) ∧ St w0 (E.own n b ++ l) w' := by
 refine en func81 results81 ntmps81 ?_
 refine Y2c ?_; refine Y8 ?_
 refine r_v (qk (v := .pointer (some ⟨E.jb, 0, none⟩)) rfl (h.b 0 rfl) rfl) rfl ?_
 refine Yx ?_
 exact qj (qy (bq1 ⟨rfl, h⟩))
theorem jk (h : St w0 (E.own n b ++ l) w) : Ret prog 82 [.pointer (some ⟨E.p, 0, none⟩)] w fun v w' => v = .pointer (some ⟨E.sh, 0, none⟩) ∧ St w0 (E.own n b ++ l) w' := by
 refine en func82 results82 ntmps82 ?_
 refine Y2c ?_; refine Y8 ?_
 refine r_v (qk (v := .pointer (some ⟨E.sh, 0, none⟩)) rfl (h.b 0 rfl) rfl) rfl ?_
 refine Yx ?_
 exact qj (qy (bq1 ⟨rfl, h⟩))
theorem kd (h : St w0 (E.own n b ++ l) w) : Ret prog 20 [.pointer (some ⟨E.sh, 0, none⟩)] w fun v w' => v = .pointer (some ⟨E.dr, 0, none⟩) ∧ St w0 (E.own n b ++ l) w' := by
 refine en func20 results20 ntmps20 ?_
 refine Y2c ?_; refine Y8 ?_
 refine r_v (qk (v := .pointer (some ⟨E.dr, 0, none⟩)) rfl (h.b 1 rfl) rfl) rfl ?_
 refine Yx ?_
 exact qj (qy (bq1 ⟨rfl, h⟩))
theorem v8 (h : St w0 (E.own n b ++ l) w) : Ret prog 30 [.pointer (some ⟨E.sh, 0, none⟩)] w fun v w' => v = .pointer (some ⟨E.ca, 0, none⟩) ∧ St w0 (E.own n b ++ l) w' := by
 refine en func30 results30 ntmps30 ?_
 refine Y2c ?_; refine Y8 ?_
 refine r_v (qk (v := .pointer (some ⟨E.ca, 0, none⟩)) rfl (h.b 1 rfl) rfl) rfl ?_
 refine Yx ?_
 exact qj (qy (bq1 ⟨rfl, h⟩))
theorem uq (h : St w0 (E.own n b ++ l) w) : Ret prog 19 [.pointer (some ⟨E.sh, 0, none⟩)] w fun v w' => v = .pointer (some ⟨E.st, 0, none⟩) ∧ St w0 (E.own n b ++ l) w' := by
 refine en func19 results19 ntmps19 ?_
 refine Y2c ?_; refine Y8 ?_
 refine r_v (qk (v := .pointer (some ⟨E.st, 0, none⟩)) rfl (h.b 1 rfl) rfl) rfl ?_
 refine Yx ?_
 exact qj (qy (bq1 ⟨rfl, h⟩))
theorem uj (h : St w0 (E.own n b ++ l) w) : Ret prog 83 [.pointer (some ⟨E.sh, 0, none⟩)] w fun v w' => v = .pointer (some ⟨E.it, 0, none⟩) ∧ St w0 (E.own n b ++ l) w' := by
 refine en func83 results83 ntmps83 ?_
 refine Y2c ?_; refine Y8 ?_
 refine r_v (qk (v := .pointer (some ⟨E.it, 0, none⟩)) rfl (h.b 1 rfl) rfl) rfl ?_
 refine Yx ?_
 exact qj (qy (bq1 ⟨rfl, h⟩))
theorem law24_Whole (h : St w0 (E.own n b ++ l) w) : Ret prog 40 [.pointer (some ⟨E.p, 0, none⟩)] w fun v w' => v = .bool true ∧ St w0 (E.own n b ++ l) w' := by
 refine en func40 results40 ntmps40 ?_
 refine Yz ?_; refine Yd ?_; refine r_v (j9 rfl rfl) rfl ?_; refine Y1v ?_
 refine r_c rfl (qq rfl (kh h) ?_)
 clear h
 rintro _ w ⟨rfl, h⟩
 refine Y4 ?_; refine r_v (j9 rfl rfl) rfl ?_; refine Yb ?_; refine Y1v ?_
 refine r_c rfl (qq rfl (jk h) ?_)
 clear h
 rintro _ w ⟨rfl, h⟩
 refine Y4 ?_; refine r_v (j9 rfl rfl) rfl ?_; refine Yb ?_; refine Y1v ?_
 refine r_c rfl (qq rfl (jk h) ?_)
 clear h
 rintro _ w ⟨rfl, h⟩
 refine Y4 ?_
 refine r_c rfl (qq rfl (kd h) ?_)
 clear h
 rintro _ w ⟨rfl, h⟩
 refine Y4 ?_; refine r_v (j9 rfl rfl) rfl ?_; refine Yb ?_; refine Y1v ?_
 refine r_c rfl (qq rfl (jk h) ?_)
 clear h
 rintro _ w ⟨rfl, h⟩
 refine Y4 ?_
 refine r_c rfl (qq rfl (v8 h) ?_)
 clear h
 rintro _ w ⟨rfl, h⟩
 refine Y4 ?_; refine r_v (j9 rfl rfl) rfl ?_; refine Yb ?_; refine Y1v ?_
 refine r_c rfl (qq rfl (jk h) ?_)
 clear h
 rintro _ w ⟨rfl, h⟩
 refine Y4 ?_
 refine r_c rfl (qq rfl (uq h) ?_)
 clear h
 rintro _ w ⟨rfl, h⟩
 refine Y4 ?_; refine r_v (j9 rfl rfl) rfl ?_; refine Yb ?_; refine Y1v ?_
 refine r_c rfl (qq rfl (jk h) ?_)
 clear h
 rintro _ w ⟨rfl, h⟩
 refine Y4 ?_
 refine r_c rfl (qq rfl (uj h) ?_)
 clear h
 rintro _ w ⟨rfl, h⟩
 refine Y4 ?_; refine r_v (j9 rfl rfl) rfl ?_; refine Y2h ?_
 exact qj (qy (bq1 ⟨rfl, h⟩))
theorem kb (h : St w0 (E.own n b ++ l) w) : Ret prog 27 [.pointer (some ⟨E.jb, 0, none⟩)] w fun v w' => v = .tuple [.iz 0, .iz 0].toArray ∧ St w0 (E.own n b ++ l) w' := by
 refine en func27 results27 ntmps27 ?_
 refine Y1c ?_; refine Y3 ?_
 refine ql (c_anyR [0, 1, 2, 3, 5, 6, 7, 8, 4, 9] none (fun w => St w0 (E.own n b ++ l) w) O1 O1 h.drew fun w h => ?_)
 refine Y12 ?_
 refine qu rfl rfl rfl rfl h (fun _ h => qx rfl (qk (v := .iz 0) rfl (h.b 2 rfl) rfl)) ?_
 refine Y12 ?_
 refine qu rfl rfl rfl rfl h (fun _ h => qx rfl (qk (v := .iz 0) rfl (h.b 2 rfl) rfl)) ?_
 refine Y2x ?_; refine Y2x ?_
 exact qi (qy (bq2 ⟨rfl, h⟩))
theorem u7 (h : St w0 (E.own n b ++ l) w) : Ret prog 84 [.pointer (some ⟨E.ca, 0, none⟩)] w fun v w' => v = .iz 0 ∧ St w0 (E.own n b ++ l) w' := by
 refine en func84 results84 ntmps84 ?_
 refine Yi ?_; refine Y8 ?_
 refine r_v (qk (v := .map (some E.m2)) rfl (h.b 4 rfl) rfl) rfl ?_
 refine r_v (zc rfl (h.f 5).isMap) rfl ?_
 refine Y7 ?_
 exact qj (qy (bq1 ⟨rfl, h⟩))
end
end
section
open Go.Hw Go.Lib
def slotZ : List Value := [.bool false, .bool false, .iz 0, .iz 0, .bool false, .iz 0, .slice none 0 0, .slice none 0 0]
def openZ : List Value := [.bool false, .iz 0, .slice none 0 0]
section
variable {w0 w : World} {l : List HProp} {E : EngAt} {n b : Int}
theorem ug (h : St w0 l w) : Ret prog 106 [.slice none 0 0] w fun v w' => v = .slice none 0 0 ∧ St w0 l w' := by
 refine en func106 results106 ntmps106 ?_
 refine Y2m ?_; refine Yf ?_; refine r_v (kg rfl rfl) rfl ?_
 refine Yk ?_; refine Yq ?_
 exact qj (qy (bq1 ⟨rfl, h⟩))
theorem uv (h : St w0 l w) : Ret prog 121 [.slice none 0 0] w fun v w' => v = .slice none 0 0 ∧ St w0 l w' := by
 refine en func121 results121 ntmps121 ?_
 refine Y2m ?_; refine Yf ?_; refine r_v (kg rfl rfl) rfl ?_
 refine Yk ?_; refine Yq ?_
 exact qj (qy (bq1 ⟨rfl, h⟩))
theorem uf (h : St w0 l w) : Ret prog 178 [.slice none 0 0] w fun v w' => v = .slice none 0 0 ∧ St w0 l w' := by
 refine en func178 results178 ntmps178 ?_
 refine Yq ?_; refine Y9 ?_; refine Yf ?_; refine Yr ?_; refine Yr ?_
 refine r_v (zt (h := 0) (h' := 0) rfl rfl rfl (Ui _) (Ui _)) rfl ?_
 refine Y17 ?_
 exact qj (qy (bq1 ⟨rfl, h⟩))
theorem uo (h : St w0 l w) : Ret prog 120 [.slice none 0 0] w fun v w' => v = .slice none 0 0 ∧ St w0 l w' := by
 refine en func120 results120 ntmps120 ?_
 refine Yq ?_; refine Y9 ?_; refine Yf ?_; refine Yr ?_; refine Yr ?_
 refine r_v (zt (h := 0) (h' := 0) rfl rfl rfl (Ui _) (Ui _)) rfl ?_
 refine Y17 ?_
 exact qj (qy (bq1 ⟨rfl, h⟩))
theorem km (h : St w0 l w) : Ret prog 119 [.agg openZ.toArray] w fun v w' => v = .agg openZ.toArray ∧ St w0 l w' := by
 refine en func119 results119 ntmps119 ?_
 refine Y0 ?_
 refine r_c rfl (js h (show _ = Value.agg openZ.toArray from rfl) fun b1 w h => ?_)
 refine r_c rfl (qt h fun b2 w h => ?_)
 replace h : St w0 (pt b2 (.cells openZ.toArray 66 (0, 0)) :: pt b1 (.cells openZ.toArray 66 (0, 0)) :: l) w := h
 refine Y9 ?_; refine Ya ?_
 refine r_v (qk (v := .slice none 0 0) rfl (h.b 1 rfl) rfl) rfl ?_
 refine r_c rfl (qq rfl (by first | exact ug h | exact uf h) ?_)
 clear h
 rintro _ w ⟨rfl, h⟩
 refine r_c rfl (qq rfl (by first | exact ug h | exact uf h) ?_)
 clear h
 rintro _ w ⟨rfl, h⟩
 refine Ya ?_
 refine r_c rfl (qd 1 h rfl (show _ = Value.slice none 0 0 from rfl) rfl rfl rfl rfl fun w h => ?_)
 replace h : St w0 (pt b2 (.cells openZ.toArray 66 (0, 0)) :: pt b1 (.cells openZ.toArray 66 (0, 0)) :: l) w := h
 refine Y9 ?_
 refine r_v (qm (l := openZ) rfl rfl (qp (h.b 1 rfl) rfl)) rfl ?_
 refine r_c rfl (qb (vs := openZ) 0 h rfl rfl rfl rfl rfl rfl rfl fun w h => ?_)
 replace h : St w0 (pt b2 (.cells openZ.toArray 66 (0, 0)) :: pt b1 (.cells openZ.toArray 66 (0, 0)) :: l) w := h
 exact qj (qy (bqS1 (l := openZ) rfl rfl (qp (h.b 0 rfl) rfl) ⟨rfl, h.drop.drop⟩))
abbrev SlPt (b : Nat) : HProp := pt b (.cells slotZ.toArray 68 (0, 0))
theorem kn (h : St w0 l w) : Ret prog 69 [.agg slotZ.toArray] w fun v w' => v = .agg slotZ.toArray ∧ St w0 l w' := by
 refine en func69 results69 ntmps69 ?_
 refine Y0 ?_
 refine r_c rfl (js h (show _ = Value.agg slotZ.toArray from rfl) fun b1 w h => ?_)
 refine r_c rfl (qt h fun b2 w h => ?_)
 replace h : St w0 (SlPt b2 :: SlPt b1 :: l) w := h
 refine Y9 ?_; refine Ya ?_
 refine r_v (qm (l := openZ) rfl rfl (qp (h.b 1 rfl) rfl)) rfl ?_
 refine r_c rfl (qq rfl (km h) ?_)
 clear h
 rintro _ w ⟨rfl, h⟩
 refine Ya ?_
 refine r_c rfl (qb (vs := openZ) 1 h rfl rfl rfl rfl rfl rfl rfl fun w h => ?_)
 replace h : St w0 (SlPt b2 :: SlPt b1 :: l) w := h
 refine Y9 ?_; refine Ya ?_
 refine r_v (qk (v := .slice none 0 0) rfl (h.b 1 rfl) rfl) rfl ?_
 refine r_c rfl (qq rfl (by first | exact uv h | exact uo h) ?_)
 clear h
 rintro _ w ⟨rfl, h⟩
 refine r_c rfl (qq rfl (by first | exact uv h | exact uo h) ?_)
 clear h
 rintro _ w ⟨rfl, h⟩
 refine Ya ?_
 refine r_c rfl (qd 1 h rfl (show _ = Value.slice none 0 0 from rfl) rfl rfl rfl rfl fun w h => ?_)
 replace h : St w0 (SlPt b2 :: SlPt b1 :: l) w := h
 refine Y9 ?_
 refine r_v (qm (l := slotZ) rfl rfl (qp (h.b 1 rfl) rfl)) rfl ?_
 refine r_c rfl (qb (vs := slotZ) 0 h rfl rfl rfl rfl rfl rfl rfl fun w h => ?_)
 replace h : St w0 (SlPt b2 :: SlPt b1 :: l) w := h
 exact qj (qy (bqS1 (l := slotZ) rfl rfl (qp (h.b 0 rfl) rfl) ⟨rfl, h.drop.drop⟩))
instance undPlaces : Und prog 174 (.array 16 134) := ⟨underlying174⟩
theorem wq {d k : Nat} (hk : k < 16) (h : St w0 l w) : Ret prog 68 [.pz d, .iz k] w fun v w' => v = .pointer (some ⟨d, k * 10, none⟩) ∧ St w0 l w' := by
 refine en func68 results68 ntmps68 ?_
 refine Y2c ?_; refine Ys ?_; refine Y1o ?_
 refine qw (.bool false) (by first | rfl | (congr 1; rw [decide_eq_false_iff_not]; omega)) ?_
 refine Y1d ?_; refine Y1i ?_
 refine qw (.bool false) O5 ?_
 refine Y2j ?_; refine Yd ?_; refine Y1 ?_; refine Yp ?_
 refine r_v (u4 (j := k) (o' := k * 10) rfl rfl rfl hk (Vo _)) rfl ?_
 refine Yx ?_
 exact qj (qy (bq1 ⟨rfl, h⟩))
theorem dirZ_at : ∀ k, k < 16 -> dirZ[k * 10 + 3]? = some (.iz 0) ∧ (dirZ.drop (k * 10)).take slotZ.length = slotZ := by
 intro k hk
 match k, hk with
 | 0, _ => exact ⟨rfl, rfl⟩
 | 1, _ => exact ⟨rfl, rfl⟩
 | 2, _ => exact ⟨rfl, rfl⟩
 | 3, _ => exact ⟨rfl, rfl⟩
 | 4, _ => exact ⟨rfl, rfl⟩
 | 5, _ => exact ⟨rfl, rfl⟩
 | 6, _ => exact ⟨rfl, rfl⟩
 | 7, _ => exact ⟨rfl, rfl⟩
 | 8, _ => exact ⟨rfl, rfl⟩
 | 9, _ => exact ⟨rfl, rfl⟩
 | 10, _ => exact ⟨rfl, rfl⟩
 | 11, _ => exact ⟨rfl, rfl⟩
 | 12, _ => exact ⟨rfl, rfl⟩
 | 13, _ => exact ⟨rfl, rfl⟩
 | 14, _ => exact ⟨rfl, rfl⟩
 | 15, _ => exact ⟨rfl, rfl⟩
 | k + 16, h => omega
theorem kr {k : Nat} (hk : k < 16) (h : St w0 (E.own n b ++ l) w) : Ret prog 31 [.pointer (some ⟨E.dr, 0, none⟩), .iz k] w fun v w' => v = .tuple [.agg slotZ.toArray, .bool true].toArray ∧ St w0 (E.own n b ++ l) w' := by
 obtain ⟨hz1, hz2⟩ := dirZ_at k hk
 refine en func31 results31 ntmps31 ?_
 refine Y0 ?_
 refine r_c rfl (qt h fun b1 w h => ?_)
 replace h : St w0 (SlPt b1 :: E.own n b ++ l) w := h
 refine Y6 ?_; refine Yd ?_; refine Y1 ?_
 refine r_c rfl (qq rfl (wq hk h) ?_)
 clear h
 rintro _ w ⟨rfl, h⟩
 refine Y16 ?_; refine ql ?_; refine Yd ?_; refine Y2t ?_; refine Y1v ?_; refine Y2k ?_; refine Y2e ?_; refine Y2z ?_
 refine r_v (qk (v := .iz 0) rfl (h.b 4 rfl) hz1) rfl ?_
 refine Y4 ?_
 refine r_v (qa (v' := .iz 0) (zw rfl rfl O4) rfl) rfl ?_
 refine Y4 ?_; refine Yc ?_; refine Y2j ?_; refine Y8 ?_
 refine r_v (qm (l := slotZ) rfl rfl (qp (h.b 4 rfl) hz2)) rfl ?_
 refine r_c rfl (qq rfl (kn h) ?_)
 clear h
 rintro _ w ⟨rfl, h⟩
 refine r_c rfl (qb (vs := slotZ) 0 h rfl rfl rfl rfl rfl rfl rfl fun w h => ?_)
 replace h : St w0 (SlPt b1 :: E.own n b ++ l) w := h
 refine Yt ?_
 exact qj (qy (bqS2 (l := slotZ) rfl rfl (qp (h.b 0 rfl) rfl) ⟨rfl, h.drop⟩))
end
end
section
open Go.Hw Go.Lib
def freshS : List UInt8 := [102, 114, 97, 109, 101, 115, 32, 48, 32, 117, 115, 101, 100, 32, 48, 32, 105, 116, 101, 114, 115, 32, 48, 32, 109, 97, 100, 101, 32, 48, 32, 108, 101, 102, 116, 32, 48, 10]
theorem k3 : itoa 0 = [48] := by
 show (if (0 : Int) < 0 then _ else decDigits 0) = _
 rw [if_neg O4, decDigits_rec]; rfl
section
variable {w0 w : World} {l : List HProp} {E : EngAt} {n b : Int}
theorem xd {A B : HProp} (h : St w0 (A :: B :: (E.own n b ++ l)) w) : St w0 (E.own n b ++ A :: B :: l) w := (((((((h.f 9).f 9).f 9).f 9).f 9).f 9).f 9).f 9
theorem yx {A B : HProp} (h : St w0 (E.own n b ++ A :: B :: l) w) : St w0 (A :: B :: (E.own n b ++ l)) w := (h.f 9).f 9
theorem xb (h : St w0 (E.own n b ++ l) w) : Ret prog 22 [.pointer (some ⟨E.st, 0, none⟩)] w fun v w' => v = .iz 0 ∧ St w0 (E.own n b ++ l) w' :=
 (ke (h.f 6)).mono fun _ _ h => ⟨h.1, ((((((h.2.f 6).f 6).f 6).f 6).f 6).f 6)⟩
theorem yl (h : St w0 (E.own n b ++ l) w) : Ret prog 85 [.pointer (some ⟨E.it, 0, none⟩)] w fun v w' => v = .iz 0 ∧ St w0 (E.own n b ++ l) w' :=
 (ka (h.f 7)).mono fun _ _ h => ⟨h.1, (((((((h.2.f 7).f 7).f 7).f 7).f 7).f 7).f 7)⟩
theorem kp (hN : Nm w0) (h : St w0 (E.own n b ++ l) w) : Ret prog 41 [.pointer (some ⟨E.p, 0, none⟩)] w fun v w' => v = .string (strB freshS) ∧ St w0 (E.own n b ++ l) w' := by
 have i0 : I64 0 := ⟨O_c, O_c⟩
 have m0 : (itoa 0).length = 1 := by rw [k3]; rfl
 refine en func41 results41 ntmps41 ?_
 refine Y0 ?_
 refine r_v (qg rfl) rfl ?_
 refine Y2b ?_
 refine r_c rfl (qq rfl (jk h) ?_)
 clear h
 rintro _ w ⟨rfl, h⟩
 refine Y16 ?_; refine Yd ?_
 refine r_c rfl (qq rfl (kh h) ?_)
 clear h
 rintro _ w ⟨rfl, h⟩
 refine r_c rfl (qq rfl (kb h) ?_)
 clear h
 rintro _ w ⟨rfl, h⟩
 refine Y18 ?_; refine Y7 ?_; refine Y3 ?_; refine Y0 ?_
 refine r_c rfl (qt h fun bb w h => ?_)
 replace h : St w0 (BldPt bb none none 0 0 :: OwnB none 0 [] :: (E.own n b ++ l)) w := (St.ownNil 5 1 h).f 1
 replace h := xd h
 refine Y2b ?_
 refine r_c rfl (qq rfl (v8 h) ?_)
 clear h
 rintro _ w ⟨rfl, h⟩
 refine r_c rfl (qq rfl (u7 h) ?_)
 clear h
 rintro _ w ⟨rfl, h⟩
 refine r_c rfl (qq rfl (qe hN i0 h) ?_)
 clear h
 rintro _ w ⟨rfl, h⟩
 refine r_v (qz rfl rfl O0) rfl ?_
 refine r_v (qz rfl rfl O0) rfl ?_
 refine Y1e ?_
 refine r_c rfl (qq rfl (uq h) ?_)
 clear h
 rintro _ w ⟨rfl, h⟩
 refine r_c rfl (qq rfl (xb h) ?_)
 clear h
 rintro _ w ⟨rfl, h⟩
 refine r_c rfl (qq rfl (qe hN i0 h) ?_)
 clear h
 rintro _ w ⟨rfl, h⟩
 refine r_v (qz rfl rfl O0) rfl ?_
 refine r_v (qz rfl rfl O0) rfl ?_
 refine Y1e ?_
 refine r_c rfl (qq rfl (uj h) ?_)
 clear h
 rintro _ w ⟨rfl, h⟩
 refine r_c rfl (qq rfl (yl h) ?_)
 clear h
 rintro _ w ⟨rfl, h⟩
 refine r_c rfl (qq rfl (qe hN i0 h) ?_)
 clear h
 rintro _ w ⟨rfl, h⟩
 refine r_v (qz rfl rfl O0) rfl ?_
 refine r_v (qz rfl rfl O0) rfl ?_
 refine Y1 ?_
 refine r_c rfl (qq rfl (qe hN i0 h) ?_)
 clear h
 rintro _ w ⟨rfl, h⟩
 refine r_v (qz rfl rfl O0) rfl ?_
 refine r_v (qz rfl rfl O0) rfl ?_
 refine Y1 ?_
 refine r_c rfl (qq rfl (qe hN i0 h) ?_)
 clear h
 rintro _ w ⟨rfl, h⟩
 refine r_v (qz rfl rfl O0) rfl ?_
 refine r_v (qz rfl rfl O0) rfl ?_
 replace h := yx h
 refine r_c rfl (qq rfl (jm (bs := []) (.inl rfl) O0 h) ?_)
 clear h
 rintro _ w ⟨a1, c1, h⟩
 simp only [k3] at h
 replace h : St w0 (BldPt bb (sQ bb) a1 freshS.length c1 :: OwnB a1 c1 freshS :: (E.own n b ++ l)) w := h
 refine Y2 ?_; refine Ys ?_; refine Y2l ?_
 refine gu (Γ := Nat) (fun k => [(3, .pointer (some ⟨E.sh, 0, none⟩)), (6, .pz bb), (45, .iz k)])
  (fun k w => k <= 16 ∧ St w0 (BldPt bb (sQ bb) a1 freshS.length c1 :: OwnB a1 c1 freshS :: (E.own n b ++ l)) w) (fun k => 16 - k) 0 zz3 ⟨Vl _, h⟩ ?_
 clear h
 rintro k w e ⟨hk, h⟩
 refine Y32 ?_
 by_cases hlt : k < 16
 ·refine qw (.bool true) O6 ?_
  refine Y2 ?_; refine ql ?_; refine qr rfl ?_; refine Y1m ?_; refine Y5 ?_; refine Y3 ?_; refine Yd ?_
  replace h := xd h
  refine r_c rfl (qq rfl (kd h) ?_)
  clear h
  rintro _ w ⟨rfl, h⟩
  refine Y1 ?_
  refine r_c rfl (qq rfl (kr hlt h) ?_)
  clear h
  rintro _ w ⟨rfl, h⟩
  replace h := yx h
  refine Y18 ?_
  refine r_c rfl (qt h fun b8 w h => ?_)
  refine r_c rfl (qb (vs := slotZ) 0 h rfl rfl rfl rfl rfl rfl rfl fun w h => ?_)
  replace h : St w0 (SlPt b8 :: BldPt bb (sQ bb) a1 freshS.length c1 :: OwnB a1 c1 freshS :: (E.own n b ++ l)) w := h
  refine Y6 ?_; refine Y0 ?_; refine Y13 ?_; refine Ym ?_; refine Y2z ?_
  refine r_v (qk (v := .bool false) rfl (h.b 0 rfl) rfl) rfl ?_
  refine Yb ?_; refine Yh ?_; refine Y19 ?_
  refine qw (.iz (k + 1 : Nat)) O10 ?_
  refine Y1 ?_
  exact qj ⟨k + 1, zz3, ⟨hlt, h.drop⟩, O_o⟩
 ·refine qw (.bool false) O5 ?_
  refine qj (ql (qn rfl (gg ?_)))
  refine Y0 ?_
  refine r_c rfl (qq rfl (va O4 O4 h) ?_)
  clear h
  rintro _ w ⟨rfl, h⟩
  refine r_v (qg rfl) rfl ?_
  exact qj (qy (bq1 ⟨rfl, h⟩))
end
end
section
open Go.Hw Go.Lib
section
variable {w0 w : World} {l : List HProp}
instance eqiOp : EqI prog 24 [.i64, .i64, .i64, .i64, .u64, .i64, .i64, .i64] := ⟨⟨_, underlying24, by kernel_rfl⟩, by kernel_rfl, by kernel_rfl⟩
theorem wj (hR : Rp w0) (h : St w0 l w) : Ret prog 15 [.string (strB txA)] w fun v w' => v = .tuple [.agg opA.C.toArray, .bool true].toArray ∧ St w0 l w' := by
 refine (gq hR O4 h).mono fun v w' ⟨o, ok, hv, ho, hy, hn, h⟩ => ?_
 cases ok with
 | false => exact absurd opA_text ((hn rfl).2 opA opA_wf O4 O4)
 | true =>
  obtain rfl : o = opA := ((hy rfl).2.2.2 opA opA_wf O4 O4 opA_text).trans rfl
  exact ⟨hv, h⟩
theorem wg (hR : Rp w0) (h : St w0 l w) : Ret prog 15 [.string (strB txB)] w fun v w' => v = .tuple [.agg Opr.zero.C.toArray, .bool false].toArray ∧ St w0 l w' := by
 refine (gq hR O4 h).mono fun v w' ⟨o, ok, hv, ho, hy, hn, h⟩ => ?_
 cases ok with
 | false =>
  obtain ⟨rfl, _⟩ := hn rfl
  exact ⟨hv, h⟩
 | true =>
  obtain ⟨h1, h2, _⟩ := hy rfl
  have hk := opS_ne.1 (fun hh => h2 (h1.symm.trans hh))
  exact absurd h1 (txB_none o hk.1 hk.2)
def resA : Res := ⟨0, 0, [⟨-1, 16⟩]⟩
def resB : Res := ⟨9, 0, []⟩
theorem resA_text : resS resA = [111, 107, 32, 48, 32, 45, 49, 58, 49, 48] := by
 show joinW [wOk, itoa 0, itoa (-1) ++ 58 :: hexS 16] = _
 have h1 : itoa (-1) = [45, 49] := by
  show (if (-1 : Int) < 0 then 45 :: decDigits 1 else _) = _
  rw [if_pos O4, decDigits_rec]; rfl
 rw [k3, h1, hexS_16]; rfl
theorem resB_text : resS resB = [101, 114, 114, 111, 114, 32, 57] := by
 show joinW [wErr, itoa 9] = _
 have h1 : itoa 9 = [57] := by
  show (if (9 : Int) < 0 then _ else decDigits 9) = _
  rw [if_neg O4, decDigits_rec]; rfl
 rw [h1]; rfl
theorem ye : opS Opr.zero = [] := rfl
theorem law27_awake (hR : Rp w0) (h : St w0 l w) : Ret prog 9 [] w fun v w' => v = .bool true ∧ St w0 l w' := by
 have hN := hR.nm
 have hz : Opr.zero.Wf := ⟨⟨O_c, O_c⟩, ⟨O_c, O_c⟩, ⟨O_c, O_c⟩, ⟨O_c, O_c⟩, O_c, ⟨O_c, O_c⟩, ⟨O_c, O_c⟩, ⟨O_c, O_c⟩⟩
 refine en func9 results9 ntmps9 ?_
 refine Yz ?_; refine Y0 ?_
 refine r_c rfl (qq rfl (wj hR h) ?_)
 clear h
 rintro _ w ⟨rfl, h⟩
 refine Y18 ?_
 refine r_c rfl (qt h fun b1 w h => ?_)
 refine r_c rfl (qb (vs := opA.C) 0 h rfl rfl rfl rfl rfl rfl rfl fun w h => ?_)
 replace h : St w0 (OpPt b1 opA :: l) w := h
 refine Y6 ?_; refine Y0 ?_
 refine r_c rfl (qq rfl (wg hR h) ?_)
 clear h
 rintro _ w ⟨rfl, h⟩
 refine Y18 ?_
 refine r_c rfl (qt h fun b2 w h => ?_)
 refine r_c rfl (qb (vs := Opr.zero.C) 0 h rfl rfl rfl rfl rfl rfl rfl fun w h => ?_)
 replace h : St w0 (OpPt b1 opA :: l) w := h.drop
 refine Y6 ?_; refine Y0 ?_
 refine r_c rfl (qq rfl (xh 2 1000 h) ?_)
 clear h
 rintro _ w ⟨E, rfl, h⟩
 refine Y16 ?_; refine ql ?_; refine Yd ?_
 refine r_c rfl (qq rfl (law24_Whole h) ?_)
 clear h
 rintro _ w ⟨rfl, h⟩
 refine Y1p ?_; refine Yh ?_; refine Y0 ?_; refine Y13 ?_; refine Ym ?_
 refine r_v (qm (l := opA.C) rfl rfl (qp (h.b 8 rfl) rfl)) rfl ?_
 refine Y4 ?_
 refine r_v (qc (r := opA.C) rfl) rfl ?_
 refine Y4 ?_
 refine r_v (qa (v' := .bool true) (q_eqI [1, 3, 0, -5, 255, 0, 0, 0] [1, 3, 0, -5, 255, 0, 0, 0] rfl rfl rfl rfl) rfl) rfl ?_
 refine Yb ?_; refine Ym ?_; refine Ym ?_; refine Y1p ?_; refine Yb ?_; refine Ym ?_
 refine r_v (qm (l := opA.C) rfl rfl (qp (h.b 8 rfl) rfl)) rfl ?_
 refine Y4 ?_
 refine r_c rfl (qq rfl (vq hN opA_wf h) ?_)
 clear h
 rintro _ w ⟨rfl, h⟩
 refine Y4 ?_; refine r_v (q7 rfl rfl) rfl ?_
 refine qw (.bool true) (congrArg Value.bool ((strB_same (opS opA) txA).trans (decide_eq_true opA_text))) ?_
 refine Yb ?_; refine Ym ?_
 refine r_v (qc (r := Opr.zero.C) rfl) rfl ?_
 refine Y4 ?_
 refine r_c rfl (qq rfl (vq hN hz h) ?_)
 clear h
 rintro _ w ⟨rfl, h⟩
 refine Y4 ?_; refine r_v (q7 rfl rfl) rfl ?_
 refine qw (.bool true) (congrArg Value.bool ((strB_same (opS Opr.zero) []).trans (decide_eq_true ye))) ?_
 refine Yb ?_; refine Ym ?_
 refine r_v (qc (r := [.iz (-1), .int .u64 16]) rfl) rfl ?_
 refine Y4 ?_
 refine r_c rfl (jy (r := [.iz (-1), .int .u64 16]) h rfl rfl rfl fun bs w h => ?_)
 refine Y4 ?_
 refine r_v (qc (r := resA.C (sQ bs) 1) rfl) rfl ?_
 refine Y4 ?_
 refine r_c rfl (qq rfl (gh hN (r := resA) ⟨O_c, O_c⟩ ⟨O_c, O_c⟩ (fun s hs => by rw [Us.1 hs]; exact ⟨⟨O_c, O_c⟩, O_c, O_c⟩) O4 (fun L w' h' => ⟨rfl, .inr ⟨bs, 0, rfl, qp (h'.drops.b 0 rfl) rfl⟩⟩) h) ?_)
 clear h
 rintro _ w ⟨rfl, h⟩
 refine Y4 ?_; refine r_v (q7 rfl rfl) rfl ?_
 refine qw (.bool true) (congrArg Value.bool ((strB_same (resS resA) _).trans (decide_eq_true resA_text))) ?_
 refine Yb ?_; refine Ym ?_
 refine r_v (qc (r := resB.C none 0) rfl) rfl ?_
 refine Y4 ?_
 refine r_c rfl (qq rfl (gh hN (r := resB) ⟨O_c, O_c⟩ ⟨O_c, O_c⟩ (fun s hs => by cases hs) O4 (fun L w' h' => ⟨rfl, .inl rfl⟩) h) ?_)
 clear h
 rintro _ w ⟨rfl, h⟩
 refine Y4 ?_; refine r_v (q7 rfl rfl) rfl ?_
 refine qw (.bool true) (congrArg Value.bool ((strB_same (resS resB) _).trans (decide_eq_true resB_text))) ?_
 replace h := h.drop
 refine Yb ?_; refine Y1v ?_
 refine r_c rfl (qq rfl (kp hN h) ?_)
 clear h
 rintro _ w ⟨rfl, h⟩
 refine Y4 ?_; refine r_v (q7 rfl rfl) rfl ?_
 refine qw (.bool true) (congrArg Value.bool ((strB_same freshS _).trans (decide_eq_true rfl))) ?_
 refine Y2h ?_
 exact qj (qy (bq1 ⟨rfl, (h.drops (L := E.own 2 1000)).drop⟩))
end
end
section
instance eqiSmp : EqI prog 91 [.i64, .u64] := ⟨⟨_, underlying91, by kernel_rfl⟩, by kernel_rfl, by kernel_rfl⟩
section
variable {w0 w : World} {l : List HProp}
end
end
section
open Go.Hw Go.Lib
section
variable {w0 w : World} {l : List HProp}
end
end
section
open Go.Hw Go.Lib
section
variable {w0 w : World} {l : List HProp}
theorem law27_only {o : Opr} (h : St w0 l w) : Ret prog 16 [.agg o.C.toArray] w fun v w' => v = .agg o.only.C.toArray ∧ St w0 l w' := by
 obtain ⟨kind, series, iter, T, V, F, To, N⟩ := o
 refine en func16 results16 ntmps16 ?_
 refine Y0 ?_
 refine r_c rfl (js h (show _ = Value.agg (Opr.mk kind series iter T V F To N).C.toArray from rfl) fun b1 w h => ?_)
 refine r_c rfl (qt h fun b2 w h => ?_)
 refine Y9 ?_; refine Ya ?_; refine r_v (qk rfl (h.b 1) rfl) rfl (r_v (qc rfl) rfl ?_)
 refine r_c rfl (qt h fun b3 w h => ?_)
 refine r_c rfl (qb (vs := (Opr.mk kind 0 0 0 0 0 0 0).C) 0 h rfl rfl rfl rfl rfl rfl rfl fun w h => ?_)
 replace h : St w0 (OpPt b3 (Opr.mk kind 0 0 0 0 0 0 0) :: OpPt b2 Opr.zero :: OpPt b1 (Opr.mk kind series iter T V F To N) :: l) w := h
 refine Y2 ?_
 refine jp (Γ := Unit) (fun _ => [(2, .pz b2), (3, .pz b3)]) (fun _ w => St w0 (OpPt b3 (Opr.mk kind series iter T V F To N).only :: OpPt b2 Opr.zero :: OpPt b1 (Opr.mk kind series iter T V F To N) :: l) w) ?_ ?_
 ·refine Y1y ?_; refine r_v (qk rfl (h.b 2) rfl) rfl ?_
  refine Y2l ?_
  by_cases hk1 : kind = 1
  ·have hk := hk1
   refine Y1k ?_
   refine qw (.bool true) O9 ?_
   refine Y20 ?_
   replace h := h.drew
   have hp : ∃ q, St w0 (OpPt b3 q :: OpPt b2 Opr.zero :: OpPt b1 (Opr.mk kind series iter T V F To N) :: l) w.drew := ⟨_, h⟩
   refine gf [0, 1, 4, 5, 8, 9, 2, 3, 6, 7, 10, 11] none (fun w => ∃ q, St w0 (OpPt b3 q :: OpPt b2 Opr.zero :: OpPt b1 (Opr.mk kind series iter T V F To N) :: l) w) O1 O1 ?_
   refine qv rfl rfl rfl rfl (fun _ => hp) (fun _ => qx rfl (jx rfl)) ?_
   refine qu rfl rfl rfl rfl hp (fun _ h => h.elim fun _ h => qx rfl (qk (v := .iz series) rfl (h.b 2 rfl) rfl)) ?_
   refine qv rfl rfl rfl rfl (fun _ => hp) (fun _ => qx rfl (jx rfl)) ?_
   refine qu rfl rfl rfl rfl hp (fun _ h => h.elim fun _ h => qx rfl (qk (v := .iz T) rfl (h.b 2 rfl) rfl)) ?_
   refine qv rfl rfl rfl rfl (fun _ => hp) (fun _ => qx rfl (jx rfl)) ?_
   refine qu rfl rfl rfl rfl hp (fun _ h => h.elim fun _ h => qx rfl (qk (v := .int .u64 V) rfl (h.b 2 rfl) rfl)) ?_
   refine qv rfl rfl rfl rfl (fun _ => hp) (fun _ => qx rfl (jx rfl)) ?_
   refine Y2q ?_
   refine qh 7 rfl rfl rfl rfl (qd 0 h rfl (show _ = Value.iz series from rfl) rfl rfl rfl rfl fun w h => ⟨fun _ => ⟨Opr.mk kind series 0 0 0 0 0 0, h⟩, ?_⟩)
   replace h : St w0 (OpPt b3 (Opr.mk kind series 0 0 0 0 0 0) :: OpPt b2 Opr.zero :: OpPt b1 (Opr.mk kind series iter T V F To N) :: l) w := h
   have hp : ∃ q, St w0 (OpPt b3 q :: OpPt b2 Opr.zero :: OpPt b1 (Opr.mk kind series iter T V F To N) :: l) w := ⟨_, h⟩
   refine qv rfl rfl rfl rfl (fun _ => hp) (fun _ => qx rfl (jx rfl)) ?_
   refine Ye ?_
   refine qh 9 rfl rfl rfl rfl (qd 0 h rfl (show _ = Value.iz T from rfl) rfl rfl rfl rfl fun w h => ⟨fun _ => ⟨Opr.mk kind series 0 T 0 0 0 0, h⟩, ?_⟩)
   replace h : St w0 (OpPt b3 (Opr.mk kind series 0 T 0 0 0 0) :: OpPt b2 Opr.zero :: OpPt b1 (Opr.mk kind series iter T V F To N) :: l) w := h
   have hp : ∃ q, St w0 (OpPt b3 q :: OpPt b2 Opr.zero :: OpPt b1 (Opr.mk kind series iter T V F To N) :: l) w := ⟨_, h⟩
   refine qv rfl rfl rfl rfl (fun _ => hp) (fun _ => qx rfl (jx rfl)) ?_
   refine Yo ?_
   refine qh 11 rfl rfl rfl rfl (qd 0 h rfl (show _ = Value.int .u64 V from rfl) rfl rfl rfl rfl fun w h => ⟨fun _ => ⟨Opr.mk kind series 0 T V 0 0 0, h⟩, ?_⟩)
   replace h : St w0 (OpPt b3 (Opr.mk kind series 0 T V 0 0 0) :: OpPt b2 Opr.zero :: OpPt b1 (Opr.mk kind series iter T V F To N) :: l) w := h
   exact qi ⟨(), zz2, by rw [show (Opr.mk kind series iter T V F To N).only = Opr.mk kind series 0 T V 0 0 0 by simp [Opr.only, hk]]; exact h⟩
  refine Y1k ?_
  refine qw (.bool false) (by congr 1; rw [beq_eq_false_iff_ne]; exact hk1) ?_
  refine Y22 ?_
  by_cases hk2 : kind = 2
  ·have hk := hk2
   refine Y15 ?_; refine Yc ?_
   refine qw (.bool true) O9 ?_
   refine Y20 ?_; refine Yg ?_; refine qr rfl ?_
   replace h := h.drew
   have hp : ∃ q, St w0 (OpPt b3 q :: OpPt b2 Opr.zero :: OpPt b1 (Opr.mk kind series iter T V F To N) :: l) w.drew := ⟨_, h⟩
   refine gf [0, 1, 4, 5, 8, 9, 2, 3, 6, 7, 10, 11] none (fun w => ∃ q, St w0 (OpPt b3 q :: OpPt b2 Opr.zero :: OpPt b1 (Opr.mk kind series iter T V F To N) :: l) w) O1 O1 ?_
   refine qv rfl rfl rfl rfl (fun _ => hp) (fun _ => qx rfl (jx rfl)) ?_
   refine qu rfl rfl rfl rfl hp (fun _ h => h.elim fun _ h => qx rfl (qk (v := .iz series) rfl (h.b 2 rfl) rfl)) ?_
   refine qv rfl rfl rfl rfl (fun _ => hp) (fun _ => qx rfl (jx rfl)) ?_
   refine qu rfl rfl rfl rfl hp (fun _ h => h.elim fun _ h => qx rfl (qk (v := .iz F) rfl (h.b 2 rfl) rfl)) ?_
   refine qv rfl rfl rfl rfl (fun _ => hp) (fun _ => qx rfl (jx rfl)) ?_
   refine qu rfl rfl rfl rfl hp (fun _ h => h.elim fun _ h => qx rfl (qk (v := .iz To) rfl (h.b 2 rfl) rfl)) ?_
   refine qv rfl rfl rfl rfl (fun _ => hp) (fun _ => qx rfl (jx rfl)) ?_
   refine Y2q ?_
   refine qh 7 rfl rfl rfl rfl (qd 0 h rfl (show _ = Value.iz series from rfl) rfl rfl rfl rfl fun w h => ⟨fun _ => ⟨Opr.mk kind series 0 0 0 0 0 0, h⟩, ?_⟩)
   replace h : St w0 (OpPt b3 (Opr.mk kind series 0 0 0 0 0 0) :: OpPt b2 Opr.zero :: OpPt b1 (Opr.mk kind series iter T V F To N) :: l) w := h
   have hp : ∃ q, St w0 (OpPt b3 q :: OpPt b2 Opr.zero :: OpPt b1 (Opr.mk kind series iter T V F To N) :: l) w := ⟨_, h⟩
   refine qv rfl rfl rfl rfl (fun _ => hp) (fun _ => qx rfl (jx rfl)) ?_
   refine Ye ?_
   refine qh 9 rfl rfl rfl rfl (qd 0 h rfl (show _ = Value.iz F from rfl) rfl rfl rfl rfl fun w h => ⟨fun _ => ⟨Opr.mk kind series 0 0 0 F 0 0, h⟩, ?_⟩)
   replace h : St w0 (OpPt b3 (Opr.mk kind series 0 0 0 F 0 0) :: OpPt b2 Opr.zero :: OpPt b1 (Opr.mk kind series iter T V F To N) :: l) w := h
   have hp : ∃ q, St w0 (OpPt b3 q :: OpPt b2 Opr.zero :: OpPt b1 (Opr.mk kind series iter T V F To N) :: l) w := ⟨_, h⟩
   refine qv rfl rfl rfl rfl (fun _ => hp) (fun _ => qx rfl (jx rfl)) ?_
   refine Yo ?_
   refine qh 11 rfl rfl rfl rfl (qd 0 h rfl (show _ = Value.iz To from rfl) rfl rfl rfl rfl fun w h => ⟨fun _ => ⟨Opr.mk kind series 0 0 0 F To 0, h⟩, ?_⟩)
   replace h : St w0 (OpPt b3 (Opr.mk kind series 0 0 0 F To 0) :: OpPt b2 Opr.zero :: OpPt b1 (Opr.mk kind series iter T V F To N) :: l) w := h
   exact qi ⟨(), zz2, by rw [show (Opr.mk kind series iter T V F To N).only = Opr.mk kind series 0 0 0 F To 0 by simp [Opr.only, hk]]; exact h⟩
  by_cases hk5 : kind = 5
  ·have hk := hk5
   refine Y15 ?_; refine Yc ?_
   refine qw (.bool false) (by congr 1; rw [beq_eq_false_iff_ne]; exact hk2) ?_
   refine Y22 ?_; refine jj ?_; refine Yc ?_
   refine qw (.bool true) O9 ?_
   refine Y20 ?_
   replace h := h.drew
   have hp : ∃ q, St w0 (OpPt b3 q :: OpPt b2 Opr.zero :: OpPt b1 (Opr.mk kind series iter T V F To N) :: l) w.drew := ⟨_, h⟩
   refine gf [0, 1, 4, 5, 8, 9, 2, 3, 6, 7, 10, 11] none (fun w => ∃ q, St w0 (OpPt b3 q :: OpPt b2 Opr.zero :: OpPt b1 (Opr.mk kind series iter T V F To N) :: l) w) O1 O1 ?_
   refine qv rfl rfl rfl rfl (fun _ => hp) (fun _ => qx rfl (jx rfl)) ?_
   refine qu rfl rfl rfl rfl hp (fun _ h => h.elim fun _ h => qx rfl (qk (v := .iz series) rfl (h.b 2 rfl) rfl)) ?_
   refine qv rfl rfl rfl rfl (fun _ => hp) (fun _ => qx rfl (jx rfl)) ?_
   refine qu rfl rfl rfl rfl hp (fun _ h => h.elim fun _ h => qx rfl (qk (v := .iz F) rfl (h.b 2 rfl) rfl)) ?_
   refine qv rfl rfl rfl rfl (fun _ => hp) (fun _ => qx rfl (jx rfl)) ?_
   refine qu rfl rfl rfl rfl hp (fun _ h => h.elim fun _ h => qx rfl (qk (v := .iz To) rfl (h.b 2 rfl) rfl)) ?_
   refine qv rfl rfl rfl rfl (fun _ => hp) (fun _ => qx rfl (jx rfl)) ?_
   refine Y2q ?_
   refine qh 7 rfl rfl rfl rfl (qd 0 h rfl (show _ = Value.iz series from rfl) rfl rfl rfl rfl fun w h => ⟨fun _ => ⟨Opr.mk kind series 0 0 0 0 0 0, h⟩, ?_⟩)
   replace h : St w0 (OpPt b3 (Opr.mk kind series 0 0 0 0 0 0) :: OpPt b2 Opr.zero :: OpPt b1 (Opr.mk kind series iter T V F To N) :: l) w := h
   have hp : ∃ q, St w0 (OpPt b3 q :: OpPt b2 Opr.zero :: OpPt b1 (Opr.mk kind series iter T V F To N) :: l) w := ⟨_, h⟩
   refine qv rfl rfl rfl rfl (fun _ => hp) (fun _ => qx rfl (jx rfl)) ?_
   refine Ye ?_
   refine qh 9 rfl rfl rfl rfl (qd 0 h rfl (show _ = Value.iz F from rfl) rfl rfl rfl rfl fun w h => ⟨fun _ => ⟨Opr.mk kind series 0 0 0 F 0 0, h⟩, ?_⟩)
   replace h : St w0 (OpPt b3 (Opr.mk kind series 0 0 0 F 0 0) :: OpPt b2 Opr.zero :: OpPt b1 (Opr.mk kind series iter T V F To N) :: l) w := h
   have hp : ∃ q, St w0 (OpPt b3 q :: OpPt b2 Opr.zero :: OpPt b1 (Opr.mk kind series iter T V F To N) :: l) w := ⟨_, h⟩
   refine qv rfl rfl rfl rfl (fun _ => hp) (fun _ => qx rfl (jx rfl)) ?_
   refine Yo ?_
   refine qh 11 rfl rfl rfl rfl (qd 0 h rfl (show _ = Value.iz To from rfl) rfl rfl rfl rfl fun w h => ⟨fun _ => ⟨Opr.mk kind series 0 0 0 F To 0, h⟩, ?_⟩)
   replace h : St w0 (OpPt b3 (Opr.mk kind series 0 0 0 F To 0) :: OpPt b2 Opr.zero :: OpPt b1 (Opr.mk kind series iter T V F To N) :: l) w := h
   exact qi ⟨(), zz2, by rw [show (Opr.mk kind series iter T V F To N).only = Opr.mk kind series 0 0 0 F To 0 by simp [Opr.only, hk]]; exact h⟩
  refine Y15 ?_; refine Yc ?_
  refine qw (.bool false) (by congr 1; rw [beq_eq_false_iff_ne]; exact hk2) ?_
  refine Y22 ?_; refine jj ?_; refine Yc ?_
  refine qw (.bool false) (by congr 1; rw [beq_eq_false_iff_ne]; exact hk5) ?_
  refine Y22 ?_
  by_cases hk3 : kind = 3
  ·have hk := hk3
   refine Y15 ?_; refine Yc ?_
   refine qw (.bool true) O9 ?_
   refine Y20 ?_; refine Yg ?_; refine qr rfl ?_; refine Y2r ?_; refine r_v (qk rfl (h.b 2) rfl) rfl ?_; refine Ya ?_
   refine r_c rfl (qd 0 h rfl (show _ = Value.iz series from rfl) rfl rfl rfl rfl fun w h => ?_)
   replace h : St w0 (OpPt b3 (Opr.mk kind series 0 0 0 0 0 0) :: OpPt b2 Opr.zero :: OpPt b1 (Opr.mk kind series iter T V F To N) :: l) w := h
   exact qj ⟨(), zz2, by rw [show (Opr.mk kind series iter T V F To N).only = Opr.mk kind series 0 0 0 0 0 0 by simp [Opr.only, hk]]; exact h⟩
  by_cases hk4 : kind = 4
  ·have hk := hk4
   refine Y15 ?_; refine Yc ?_
   refine qw (.bool false) (by congr 1; rw [beq_eq_false_iff_ne]; exact hk3) ?_
   refine Y22 ?_; refine jj ?_; refine Yc ?_
   refine qw (.bool true) O9 ?_
   refine Y20 ?_; refine Y2r ?_; refine r_v (qk rfl (h.b 2) rfl) rfl ?_; refine Ya ?_
   refine r_c rfl (qd 0 h rfl (show _ = Value.iz series from rfl) rfl rfl rfl rfl fun w h => ?_)
   replace h : St w0 (OpPt b3 (Opr.mk kind series 0 0 0 0 0 0) :: OpPt b2 Opr.zero :: OpPt b1 (Opr.mk kind series iter T V F To N) :: l) w := h
   exact qj ⟨(), zz2, by rw [show (Opr.mk kind series iter T V F To N).only = Opr.mk kind series 0 0 0 0 0 0 by simp [Opr.only, hk]]; exact h⟩
  refine Y15 ?_; refine Yc ?_
  refine qw (.bool false) (by congr 1; rw [beq_eq_false_iff_ne]; exact hk3) ?_
  refine Y22 ?_; refine jj ?_; refine Yc ?_
  refine qw (.bool false) (by congr 1; rw [beq_eq_false_iff_ne]; exact hk4) ?_
  refine Y22 ?_
  by_cases hk6 : kind = 6
  ·have hk := hk6
   refine Y1k ?_
   refine qw (.bool true) O9 ?_
   refine Y20 ?_
   replace h := h.drew
   have hp : ∃ q, St w0 (OpPt b3 q :: OpPt b2 Opr.zero :: OpPt b1 (Opr.mk kind series iter T V F To N) :: l) w.drew := ⟨_, h⟩
   refine gf [0, 1, 4, 5, 2, 3, 6, 7] none (fun w => ∃ q, St w0 (OpPt b3 q :: OpPt b2 Opr.zero :: OpPt b1 (Opr.mk kind series iter T V F To N) :: l) w) O1 O1 ?_
   refine qv rfl rfl rfl rfl (fun _ => hp) (fun _ => qx rfl (jx rfl)) ?_
   refine qu rfl rfl rfl rfl hp (fun _ h => h.elim fun _ h => qx rfl (qk (v := .iz iter) rfl (h.b 2 rfl) rfl)) ?_
   refine qv rfl rfl rfl rfl (fun _ => hp) (fun _ => qx rfl (jx rfl)) ?_
   refine qu rfl rfl rfl rfl hp (fun _ h => h.elim fun _ h => qx rfl (qk (v := .iz N) rfl (h.b 2 rfl) rfl)) ?_
   refine qv rfl rfl rfl rfl (fun _ => hp) (fun _ => qx rfl (jx rfl)) ?_
   refine Ye ?_
   refine qh 5 rfl rfl rfl rfl (qd 0 h rfl (show _ = Value.iz iter from rfl) rfl rfl rfl rfl fun w h => ⟨fun _ => ⟨Opr.mk kind 0 iter 0 0 0 0 0, h⟩, ?_⟩)
   replace h : St w0 (OpPt b3 (Opr.mk kind 0 iter 0 0 0 0 0) :: OpPt b2 Opr.zero :: OpPt b1 (Opr.mk kind series iter T V F To N) :: l) w := h
   have hp : ∃ q, St w0 (OpPt b3 q :: OpPt b2 Opr.zero :: OpPt b1 (Opr.mk kind series iter T V F To N) :: l) w := ⟨_, h⟩
   refine qv rfl rfl rfl rfl (fun _ => hp) (fun _ => qx rfl (jx rfl)) ?_
   refine Yo ?_
   refine qh 7 rfl rfl rfl rfl (qd 0 h rfl (show _ = Value.iz N from rfl) rfl rfl rfl rfl fun w h => ⟨fun _ => ⟨Opr.mk kind 0 iter 0 0 0 0 N, h⟩, ?_⟩)
   replace h : St w0 (OpPt b3 (Opr.mk kind 0 iter 0 0 0 0 N) :: OpPt b2 Opr.zero :: OpPt b1 (Opr.mk kind series iter T V F To N) :: l) w := h
   exact qi ⟨(), zz2, by rw [show (Opr.mk kind series iter T V F To N).only = Opr.mk kind 0 iter 0 0 0 0 N by simp [Opr.only, hk]]; exact h⟩
  refine Y1k ?_
  refine qw (.bool false) (by congr 1; rw [beq_eq_false_iff_ne]; exact hk6) ?_
  refine Y22 ?_
  by_cases hk7 : kind = 7
  ·have hk := hk7
   refine Y1k ?_
   refine qw (.bool true) O9 ?_
   refine Y20 ?_; refine Y2r ?_; refine r_v (qk rfl (h.b 2) rfl) rfl ?_; refine Ya ?_
   refine r_c rfl (qd 0 h rfl (show _ = Value.iz iter from rfl) rfl rfl rfl rfl fun w h => ?_)
   replace h : St w0 (OpPt b3 (Opr.mk kind 0 iter 0 0 0 0 0) :: OpPt b2 Opr.zero :: OpPt b1 (Opr.mk kind series iter T V F To N) :: l) w := h
   exact qj ⟨(), zz2, by rw [show (Opr.mk kind series iter T V F To N).only = Opr.mk kind 0 iter 0 0 0 0 0 by simp [Opr.only, hk]]; exact h⟩
  refine Y1k ?_
  refine qw (.bool false) (by congr 1; rw [beq_eq_false_iff_ne]; exact hk7) ?_
  refine Y22 ?_
  refine q6 ⟨(), zz2, by rw [show (Opr.mk kind series iter T V F To N).only = Opr.mk kind 0 0 0 0 0 0 0 by simp [Opr.only, *]]; exact h⟩
 clear h
 rintro ⟨⟩ w e h
 refine Y0 ?_
 generalize (Opr.mk kind series iter T V F To N).only = q at h ⊢
 refine r_v (qm (l := q.C) rfl rfl (qp (h.b 0 rfl) rfl)) rfl ?_
 refine r_c rfl (qb (vs := q.C) 1 h rfl rfl rfl rfl rfl rfl rfl fun w h => ?_)
 replace h : St w0 (OpPt b3 q :: OpPt b2 q :: OpPt b1 (Opr.mk kind series iter T V F To N) :: l) w := h
 exact qj (qy (bqS1 (l := q.C) rfl rfl (qp (h.b 1 rfl) rfl) ⟨rfl, h.drop.drop.drop⟩))
end
end
section
open Go.Hw Go.Lib
section
variable {w0 w : World} {l : List HProp}
theorem opS_len {o : Opr} (ho : o.Wf) : (opS o).length <= 200 := by
 obtain ⟨i0, i1, i2, i3, i4, i5, i6, i7⟩ := ho
 have m1 := qs i1
 have m2 := qs i2
 have m3 := qs i3
 have m4 := hexS_len o.V 16 O4 (by exact i4)
 have m5 := qs i5
 have m6 := qs i6
 have m7 := qs i7
 unfold opS opW
 repeat' split
 all_goals
  simp only [joinW, Ua, Ur, List.length_nil, wAppend, wRead, wSeal, wDelete, wOpen, wNext, wClose]
  omega
abbrev RsPt (p : Nat) (a : Option Addr) (c : Nat) (r : Res) : HProp := pt p (.cells (r.C a c).toArray 28 (0, 0))
abbrev ResWf (r : Res) : Prop := I64 r.err ∧ I64 r.iter ∧ ∀ s ∈ r.list, s.Wf
end
end
end Go.Proofs.YtdeaeboijmeefaaGreatDoor
namespace Go.Hw
section
def bf (n : Int) (s k : Nat) : Int := n / 2 ^ s % 2 ^ k
theorem jc (n : Int) (s k : Nat) : 0 <= bf n s k ∧ bf n s k < 2 ^ k := by
 have h : (0 : Int) < 2 ^ k := Int.pow_pos O4
 exact ⟨Int.emod_nonneg _ O3, Int.emod_lt_of_pos _ h⟩
def opB (n at_ kind : Int) (V : Nat) (series : Int) : Opr := ⟨kind, series, bf n 8 3, at_ + bf n 11 2, V, at_ - bf n 13 6, at_ + bf n 19 4 - 4, bf n 23 4⟩
def opV (n : Int) : Nat := (bf n 13 8).toNat
def opX (n : Int) : Nat := (IntKind.u64.wrap (IntKind.u64.wrap n * 11400714819323198485)).toNat
def opOf (n at_ : Int) : Opr :=
 if bf n 0 6 < 34 then (if bf n 21 3 = 0 then opB n at_ 1 (opX n) (bf n 6 2) else opB n at_ 1 (opV n) (bf n 6 2))
 else if bf n 0 6 < 44 then opB n at_ 2 (opV n) (bf n 6 2)
 else if bf n 0 6 < 46 then (if 0 < bf n 23 2 then opB n at_ 2 (opV n) (bf n 6 2) else opB n at_ 3 (opV n) (bf n 6 2))
 else if bf n 0 6 < 48 then (if 0 < bf n 23 2 then opB n at_ 1 (opV n) (bf n 6 2) else opB n at_ 4 (opV n) (bf n 6 2))
 else if bf n 0 6 < 53 then opB n at_ 5 (opV n) (bf n 6 2)
 else if bf n 0 6 < 60 then opB n at_ 6 (opV n) (bf n 6 2)
 else if bf n 0 6 < 62 then opB n at_ 7 (opV n) (bf n 6 2)
 else opB n at_ (bf n 6 4) (opV n) (bf n 10 5 - 5)
theorem opX_lt (n : Int) : opX n < 18446744073709551616 := by
 unfold opX IntKind.wrap
 simp [IntKind.signed, IntKind.bits]
 omega
theorem opX_int (n : Int) : ((opX n : Nat) : Int) = IntKind.u64.wrap (IntKind.u64.wrap n * 11400714819323198485) := by
 unfold opX
 refine Int.toNat_of_nonneg ?_
 unfold IntKind.wrap
 simp [IntKind.signed, IntKind.bits]
 omega
theorem opV_int (n : Int) : ((opV n : Nat) : Int) = bf n 13 8 := Int.toNat_of_nonneg (jc n 13 8).1
theorem opB_wf {n at_ kind : Int} {V : Nat} {series : Int} (h0 : 0 <= at_) (h1 : at_ <= 1152921504606846976) (hk : 0 <= kind ∧ kind <= 15) (hV : V < 18446744073709551616) (hs : -5 <= series ∧ series <= 26) : (opB n at_ kind V series).Wf := by
 have b1 := jc n 8 3
 have b2 := jc n 11 2
 have b3 := jc n 13 6
 have b4 := jc n 19 4
 have b5 := jc n 23 4
 refine ⟨⟨?_, ?_⟩, ⟨?_, ?_⟩, ⟨?_, ?_⟩, ⟨?_, ?_⟩, ?_, ⟨?_, ?_⟩, ⟨?_, ?_⟩, ⟨?_, ?_⟩⟩ <;> dsimp only [opB] <;> omega
theorem opOf_wf {n at_ : Int} (h0 : 0 <= at_) (h1 : at_ <= 1152921504606846976) : (opOf n at_).Wf := by
 have b1 := jc n 6 2
 have b2 := jc n 6 4
 have b3 := jc n 10 5
 have b4 := jc n 13 8
 have hV : opV n < 18446744073709551616 := by have := opV_int n; omega
 have hX := opX_lt n
 unfold opOf
 repeat' split
 all_goals exact opB_wf h0 h1 ⟨O_o, O_o⟩ (by assumption) ⟨O_o, O_o⟩
theorem jn {n : Int} {s k : Nat} (hs : s < 64) (hk : k < 63) : bitOp .and .i64 (n.fdiv (2 ^ (min ((s : Int)).toNat IntKind.i64.bits))) ((2 : Int) ^ k - 1) = bf n s k := by
 rw [gr k O3 O3]
 have e : min ((s : Int)).toNat IntKind.i64.bits = s := by
  have : IntKind.i64.bits = 64 := rfl
  rw [this]; omega
 rw [e, Int.fdiv_eq_ediv_of_nonneg _ (Int.le_of_lt (Int.pow_pos O4))]
 rfl
theorem yr {x : Int} (h0 : 0 <= x) (h1 : x < 18446744073709551616) : IntKind.u64.wrap x = x := by
 unfold IntKind.wrap
 simp [IntKind.signed, IntKind.bits]
 omega
theorem and_bf {n : Int} {k : Nat} (hk : k < 63) : bitOp .and .i64 n ((2 : Int) ^ k - 1) = bf n 0 k := by
 rw [gr k O3 O3]
 unfold bf
 rw [Int.pow_zero, Int.ediv_one]
end
end Go.Hw
namespace Go.Proofs.YtdeaeboijmeefaaGreatDoor
open Go.Hw _root_.Go.Proofs.Tryz
section
open Go.Hw Go.Lib
section
variable {w0 w : World} {l : List HProp}
abbrev OpPt' (b : Nat) (o : Opr) : HProp := pt b (.cells o.C.toArray 24 (0, 0))
theorem law14_Op {n at_ : Int} (h0 : 0 <= at_) (h1 : at_ <= 1152921504606846976) (h : St w0 l w) : Ret prog 10 [.iz n, .iz at_] w fun v w' => v = .agg (opOf n at_).C.toArray ∧ St w0 l w' := by
 have b2 := jc n 11 2
 have b3 := jc n 13 6
 have b4 := jc n 19 4
 have b5 := jc n 10 5
 refine en func10 results10 ntmps10 ?_
 refine Y0 ?_
 refine r_c rfl (qt h fun br w h => ?_)
 replace h : St w0 (OpPt' br Opr.zero :: l) w := h
 refine Y2 ?_
 refine jp (Γ := Nat) (fun b => [(0, .iz n), (4, .pz br), (5, .pz b)]) (fun b w => St w0 (OpPt' b (opB n at_ 0 (opV n) (bf n 6 2)) :: OpPt' br Opr.zero :: l) w) ?_ ?_
 ·refine Yj ?_
  refine r_v (ji rfl rfl O4) rfl ?_
  refine r_v (qa (v' := .iz (bf n 6 2)) (jh rfl rfl) (congrArg Value.iz (jn (s := 6) (k := 2) O4 O4))) rfl ?_
  refine Y1 ?_
  refine r_v (ji rfl rfl O4) rfl ?_
  refine r_v (qa (v' := .iz (bf n 8 3)) (jh rfl rfl) (congrArg Value.iz (jn (s := 8) (k := 3) O4 O4))) rfl ?_
  refine Y1a ?_
  refine r_v (ji rfl rfl O4) rfl ?_
  refine r_v (qa (v' := .iz (bf n 11 2)) (jh rfl rfl) (congrArg Value.iz (jn (s := 11) (k := 2) O4 O4))) rfl ?_
  refine r_v (qa (v' := .iz (at_ + bf n 11 2)) (k8 rfl rfl) (congrArg Value.iz (wrap64 O3 O3))) rfl ?_
  refine Y1 ?_
  refine r_v (ji rfl rfl O4) rfl ?_
  refine r_v (qa (v' := .iz (bf n 13 8)) (jh rfl rfl) (congrArg Value.iz (jn (s := 13) (k := 8) O4 O4))) rfl ?_
  refine r_v (qa (v' := .int .u64 (opV n)) (kf rfl) (congrArg (Value.int .u64) ((yr (jc n 13 8).1 (by have := (jc n 13 8).2; omega)).trans (opV_int n).symm))) rfl ?_
  refine Y1a ?_
  refine r_v (ji rfl rfl O4) rfl ?_
  refine r_v (qa (v' := .iz (bf n 13 6)) (jh rfl rfl) (congrArg Value.iz (jn (s := 13) (k := 6) O4 O4))) rfl ?_
  refine r_v (qa (v' := .iz (at_ - bf n 13 6)) (k9 rfl rfl) (congrArg Value.iz (wrap64 O3 O3))) rfl ?_
  refine Y1a ?_
  refine r_v (ji rfl rfl O4) rfl ?_
  refine r_v (qa (v' := .iz (bf n 19 4)) (jh rfl rfl) (congrArg Value.iz (jn (s := 19) (k := 4) O4 O4))) rfl ?_
  refine r_v (qa (v' := .iz (at_ + bf n 19 4)) (k8 rfl rfl) (congrArg Value.iz (wrap64 O3 O3))) rfl ?_
  refine r_v (qa (v' := .iz (at_ + bf n 19 4 - 4)) (k9 rfl rfl) (congrArg Value.iz (wrap64 O3 O3))) rfl ?_
  refine Y1 ?_
  refine r_v (ji rfl rfl O4) rfl ?_
  refine r_v (qa (v' := .iz (bf n 23 4)) (jh rfl rfl) (congrArg Value.iz (jn (s := 23) (k := 4) O4 O4))) rfl ?_
  refine r_v (qc (r := (opB n at_ 0 (opV n) (bf n 6 2)).C) O1) rfl ?_
  refine r_c rfl (qt h fun b w h => ?_)
  refine r_c rfl (qb (vs := (opB n at_ 0 (opV n) (bf n 6 2)).C) 0 h rfl rfl rfl rfl rfl rfl rfl fun w h => ?_)
  exact qj ⟨b, zz3, h⟩
 rintro b w e h
 refine Y5 ?_
 refine r_v (qa (v' := .iz (bf n 0 6)) (jh rfl rfl) (congrArg Value.iz (and_bf (k := 6) O4))) rfl ?_
 refine Y3 ?_
 refine jp (Γ := Opr) (fun _ => [(4, .pz br), (5, .pz b)]) (fun o w => o = opOf n at_ ∧ St w0 (OpPt' b o :: OpPt' br Opr.zero :: l) w) ?_ ?_
 ·refine Yl ?_; refine Y2o ?_; refine Yt ?_
  refine qj (qo _ rfl (fun hc => ?_) (fun hc => ?_))
  ·replace hc : bf n 0 6 < 34 := by simpa using hc
   refine Y1y ?_
   refine r_c rfl (qd 0 h rfl (show _ = Value.iz 1 from rfl) rfl rfl rfl rfl fun w h => ?_)
   replace h : St w0 (OpPt' b (opB n at_ 1 (opV n) (bf n 6 2)) :: OpPt' br Opr.zero :: l) w := h
   refine Y2a ?_
   refine r_v (ji rfl rfl O4) rfl ?_
   refine r_v (qa (v' := .iz (bf n 21 3)) (jh rfl rfl) (congrArg Value.iz (jn (s := 21) (k := 3) O4 O4))) rfl ?_
   refine Yc ?_
   refine qj (qo _ rfl (fun hd => ?_) (fun hd => ?_))
   ·replace hd : bf n 21 3 = 0 := by simpa using hd
    refine Yj ?_; refine Yw ?_; refine Y2u ?_
    refine qw (.int .u64 (opX n)) (congrArg (Value.int .u64) (opX_int n).symm) ?_
    refine Ya ?_
    refine r_c rfl (qd 0 h rfl (show _ = Value.int .u64 (opX n) from rfl) rfl rfl rfl rfl fun w h => ?_)
    replace h : St w0 (OpPt' b (opB n at_ 1 (opX n) (bf n 6 2)) :: OpPt' br Opr.zero :: l) w := h
    exact qj ⟨_, zz2, by rw [opOf, if_pos (show bf n 0 6 < 34 by omega), if_pos hd], h⟩
   ·replace hd : ¬ bf n 21 3 = 0 := by simpa using hd
    exact q6 ⟨_, zz2, by rw [opOf, if_pos (show bf n 0 6 < 34 by omega), if_neg hd], h⟩
  replace hc : ¬ bf n 0 6 < 34 := by simpa using hc
  refine Y2o ?_; refine Yt ?_
  refine qj (qo _ rfl (fun hc => ?_) (fun hc => ?_))
  ·replace hc : bf n 0 6 < 44 := by simpa using hc
   refine Y2r ?_
   refine r_c rfl (qd 0 h rfl (show _ = Value.iz 2 from rfl) rfl rfl rfl rfl fun w h => ?_)
   replace h : St w0 (OpPt' b (opB n at_ 2 (opV n) (bf n 6 2)) :: OpPt' br Opr.zero :: l) w := h
   exact qj ⟨_, zz2, by rw [opOf, if_neg (show ¬ bf n 0 6 < 34 by omega), if_pos (show bf n 0 6 < 44 by omega)], h⟩
  replace hc : ¬ bf n 0 6 < 44 := by simpa using hc
  refine Y2o ?_; refine Yt ?_
  refine qj (qo _ rfl (fun hc => ?_) (fun hc => ?_))
  ·replace hc : bf n 0 6 < 46 := by simpa using hc
   refine Y1y ?_
   refine r_c rfl (qd 0 h rfl (show _ = Value.iz 3 from rfl) rfl rfl rfl rfl fun w h => ?_)
   replace h : St w0 (OpPt' b (opB n at_ 3 (opV n) (bf n 6 2)) :: OpPt' br Opr.zero :: l) w := h
   refine Y2a ?_
   refine r_v (ji rfl rfl O4) rfl ?_
   refine r_v (qa (v' := .iz (bf n 23 2)) (jh rfl rfl) (congrArg Value.iz (jn (s := 23) (k := 2) O4 O4))) rfl ?_
   refine Y1q ?_
   refine qj (qo _ rfl (fun hd => ?_) (fun hd => ?_))
   ·replace hd : 0 < bf n 23 2 := by simpa using hd
    refine Y2r ?_
    refine r_c rfl (qd 0 h rfl (show _ = Value.iz 2 from rfl) rfl rfl rfl rfl fun w h => ?_)
    replace h : St w0 (OpPt' b (opB n at_ 2 (opV n) (bf n 6 2)) :: OpPt' br Opr.zero :: l) w := h
    exact qj ⟨_, zz2, by rw [opOf, if_neg (show ¬ bf n 0 6 < 34 by omega), if_neg (show ¬ bf n 0 6 < 44 by omega), if_pos (show bf n 0 6 < 46 by omega), if_pos hd], h⟩
   ·replace hd : ¬ 0 < bf n 23 2 := by simpa using hd
    exact q6 ⟨_, zz2, by rw [opOf, if_neg (show ¬ bf n 0 6 < 34 by omega), if_neg (show ¬ bf n 0 6 < 44 by omega), if_pos (show bf n 0 6 < 46 by omega), if_neg hd], h⟩
  replace hc : ¬ bf n 0 6 < 46 := by simpa using hc
  refine Y2o ?_; refine Yt ?_
  refine qj (qo _ rfl (fun hc => ?_) (fun hc => ?_))
  ·replace hc : bf n 0 6 < 48 := by simpa using hc
   refine Y1y ?_
   refine r_c rfl (qd 0 h rfl (show _ = Value.iz 4 from rfl) rfl rfl rfl rfl fun w h => ?_)
   replace h : St w0 (OpPt' b (opB n at_ 4 (opV n) (bf n 6 2)) :: OpPt' br Opr.zero :: l) w := h
   refine Y2a ?_
   refine r_v (ji rfl rfl O4) rfl ?_
   refine r_v (qa (v' := .iz (bf n 23 2)) (jh rfl rfl) (congrArg Value.iz (jn (s := 23) (k := 2) O4 O4))) rfl ?_
   refine Y1q ?_
   refine qj (qo _ rfl (fun hd => ?_) (fun hd => ?_))
   ·replace hd : 0 < bf n 23 2 := by simpa using hd
    refine Y2r ?_
    refine r_c rfl (qd 0 h rfl (show _ = Value.iz 1 from rfl) rfl rfl rfl rfl fun w h => ?_)
    replace h : St w0 (OpPt' b (opB n at_ 1 (opV n) (bf n 6 2)) :: OpPt' br Opr.zero :: l) w := h
    exact qj ⟨_, zz2, by rw [opOf, if_neg (show ¬ bf n 0 6 < 34 by omega), if_neg (show ¬ bf n 0 6 < 44 by omega), if_neg (show ¬ bf n 0 6 < 46 by omega), if_pos (show bf n 0 6 < 48 by omega), if_pos hd], h⟩
   ·replace hd : ¬ 0 < bf n 23 2 := by simpa using hd
    exact q6 ⟨_, zz2, by rw [opOf, if_neg (show ¬ bf n 0 6 < 34 by omega), if_neg (show ¬ bf n 0 6 < 44 by omega), if_neg (show ¬ bf n 0 6 < 46 by omega), if_pos (show bf n 0 6 < 48 by omega), if_neg hd], h⟩
  replace hc : ¬ bf n 0 6 < 48 := by simpa using hc
  refine Y2o ?_; refine Yt ?_
  refine qj (qo _ rfl (fun hc => ?_) (fun hc => ?_))
  ·replace hc : bf n 0 6 < 53 := by simpa using hc
   refine Y2r ?_
   refine r_c rfl (qd 0 h rfl (show _ = Value.iz 5 from rfl) rfl rfl rfl rfl fun w h => ?_)
   replace h : St w0 (OpPt' b (opB n at_ 5 (opV n) (bf n 6 2)) :: OpPt' br Opr.zero :: l) w := h
   exact qj ⟨_, zz2, by rw [opOf, if_neg (show ¬ bf n 0 6 < 34 by omega), if_neg (show ¬ bf n 0 6 < 44 by omega), if_neg (show ¬ bf n 0 6 < 46 by omega), if_neg (show ¬ bf n 0 6 < 48 by omega), if_pos (show bf n 0 6 < 53 by omega)], h⟩
  replace hc : ¬ bf n 0 6 < 53 := by simpa using hc
  refine Y2o ?_; refine Yt ?_
  refine qj (qo _ rfl (fun hc => ?_) (fun hc => ?_))
  ·replace hc : bf n 0 6 < 60 := by simpa using hc
   refine Y2r ?_
   refine r_c rfl (qd 0 h rfl (show _ = Value.iz 6 from rfl) rfl rfl rfl rfl fun w h => ?_)
   replace h : St w0 (OpPt' b (opB n at_ 6 (opV n) (bf n 6 2)) :: OpPt' br Opr.zero :: l) w := h
   exact qj ⟨_, zz2, by rw [opOf, if_neg (show ¬ bf n 0 6 < 34 by omega), if_neg (show ¬ bf n 0 6 < 44 by omega), if_neg (show ¬ bf n 0 6 < 46 by omega), if_neg (show ¬ bf n 0 6 < 48 by omega), if_neg (show ¬ bf n 0 6 < 53 by omega), if_pos (show bf n 0 6 < 60 by omega)], h⟩
  replace hc : ¬ bf n 0 6 < 60 := by simpa using hc
  refine Y2o ?_; refine Yt ?_
  refine qj (qo _ rfl (fun hc => ?_) (fun hc => ?_))
  ·replace hc : bf n 0 6 < 62 := by simpa using hc
   refine Y2r ?_
   refine r_c rfl (qd 0 h rfl (show _ = Value.iz 7 from rfl) rfl rfl rfl rfl fun w h => ?_)
   replace h : St w0 (OpPt' b (opB n at_ 7 (opV n) (bf n 6 2)) :: OpPt' br Opr.zero :: l) w := h
   exact qj ⟨_, zz2, by rw [opOf, if_neg (show ¬ bf n 0 6 < 34 by omega), if_neg (show ¬ bf n 0 6 < 44 by omega), if_neg (show ¬ bf n 0 6 < 46 by omega), if_neg (show ¬ bf n 0 6 < 48 by omega), if_neg (show ¬ bf n 0 6 < 53 by omega), if_neg (show ¬ bf n 0 6 < 60 by omega), if_pos (show bf n 0 6 < 62 by omega)], h⟩
  replace hc : ¬ bf n 0 6 < 62 := by simpa using hc
  refine Y5 ?_
  refine r_v (ji rfl rfl O4) rfl ?_
  refine r_v (qa (v' := .iz (bf n 6 4)) (jh rfl rfl) (congrArg Value.iz (jn (s := 6) (k := 4) O4 O4))) rfl ?_
  refine Ya ?_
  refine r_c rfl (qd 0 h rfl (show _ = Value.iz (bf n 6 4) from rfl) rfl rfl rfl rfl fun w h => ?_)
  replace h : St w0 (OpPt' b (opB n at_ (bf n 6 4) (opV n) (bf n 6 2)) :: OpPt' br Opr.zero :: l) w := h
  refine Y2 ?_; refine Yj ?_
  refine r_v (ji rfl rfl O4) rfl ?_
  refine r_v (qa (v' := .iz (bf n 10 5)) (jh rfl rfl) (congrArg Value.iz (jn (s := 10) (k := 5) O4 O4))) rfl ?_
  refine r_v (qa (v' := .iz (bf n 10 5 - 5)) (k9 rfl rfl) (congrArg Value.iz (wrap64 O3 O3))) rfl ?_
  refine Ya ?_
  refine r_c rfl (qd 0 h rfl (show _ = Value.iz (bf n 10 5 - 5) from rfl) rfl rfl rfl rfl fun w h => ?_)
  replace h : St w0 (OpPt' b (opB n at_ (bf n 6 4) (opV n) (bf n 10 5 - 5)) :: OpPt' br Opr.zero :: l) w := h
  exact qj ⟨_, zz2, by rw [opOf, if_neg (show ¬ bf n 0 6 < 34 by omega), if_neg (show ¬ bf n 0 6 < 44 by omega), if_neg (show ¬ bf n 0 6 < 46 by omega), if_neg (show ¬ bf n 0 6 < 48 by omega), if_neg (show ¬ bf n 0 6 < 53 by omega), if_neg (show ¬ bf n 0 6 < 60 by omega), if_neg (show ¬ bf n 0 6 < 62 by omega)], h⟩
 rintro o w e ⟨rfl, h⟩
 refine Y0 ?_
 refine r_v (qm (l := (opOf n at_).C) rfl rfl (qp (h.b 0 rfl) rfl)) rfl ?_
 refine r_c rfl (qb (vs := (opOf n at_).C) 1 h rfl rfl rfl rfl rfl rfl rfl fun w h => ?_)
 refine qj (qy ?_)
 refine bqc (v := .agg (opOf n at_).C.toArray) ?_ ⟨rfl, h.drop.drop⟩
 exact vv (by rfl) (qp (h.b 1 rfl) rfl)
end
end
end Go.Proofs.YtdeaeboijmeefaaGreatDoor
namespace Go.Hw
section
section
variable {P : Program} {e : Env} {w w0 : World} {K : Env -> World -> Prop} {l : List HProp} {ty : TypeId} {pos : String} {af : Array Edge} {g : Option (Nat × Bool)}
theorem x_stob {c : Nat} {s t T : TypeId} [hs : Und P s .string] [ht : Und P t (.slice T)] [hT : Und P T (.int .u8)] {x : Operand} {bs : List UInt8} (h : St w0 l w) (hx : ev e x = .string (strB bs))
  (k : ∀ (b cc : Nat) (cs : List Value) (fr : Nat × Nat) (w' : World), bs.length <= cc -> cs.take bs.length = bytesV bs -> St w0 (pt b (.cells cs.toArray T fr) :: l) w' -> K (upd e c (.slice (sQ b) bs.length cc)) w') :
  Ex P ⟨some c, .convert s t x, ty, pos, af, g⟩ e w K := by
 have hrun := run_bytes_of_string (P := P) w s t T (strB bs) hs.h ht.h hT.h
 have hsz : (strB bs).size = bs.length := by simp [strB, ByteArray.size]
 rw [hsz] at hrun
 have hge : bs.length <= grownCap w bs.length 0 T := by simp [grownCap, Question.cut]
 obtain ⟨cs, hcs⟩ : ∃ cs : List Value, cs.toArray = bytesRow (strB bs) (grownCap w bs.length 0 T) := ⟨_, Array.toArray_toList⟩
 rw [<- hcs] at hrun
 refine x_w (v := .slice (some ⟨w.heap.size, 0, none⟩) bs.length (grownCap w bs.length 0 T)) (w' := w.drew.alloc (.cells cs.toArray T (cs.toArray.size, cs.toArray.size + 1))) ?_ (k _ _ cs (cs.toArray.size, cs.toArray.size + 1) _ hge ?_ (h.drew.alloc _))
 ·simp only [execOp, hx, Sem.run_bind, hrun, Result.andThen_ok]; rfl
 ·have e1 : cs = (bytesRow (strB bs) (grownCap w bs.length 0 T)).toList := by rw [<- hcs]
  rw [e1]
  unfold bytesRow
  simp [strB, bytesV]
end
end
end Go.Hw
namespace Go.Proofs.YtdeaeboijmeefaaGreatDoor
open Go.Hw _root_.Go.Proofs.Tryz
section
open Go.Hw Go.Lib
section
variable {w0 w : World} {l : List HProp}
theorem th_open {α : Type} {φ : α -> Prop} {Q : α -> HProp} : St w0 ((ex fun x => all [lift (φ x), Q x]) :: l) w ↔ ∃ x, φ x ∧ St w0 (Q x :: l) w := by
 rw [St.ex]
 constructor
 ·rintro ⟨x, h⟩
  obtain ⟨h1, h2⟩ := St.lift.1 (St.join (m := [lift (φ x), Q x]) h)
  exact ⟨x, h1, h2⟩
 ·rintro ⟨x, h1, h2⟩
  exact ⟨x, St.fold [lift (φ x), Q x] (St.lift.2 ⟨h1, h2⟩)⟩
def thM (t : List UInt8) (c : UInt8) : Nat -> Value -> Value -> Value -> HProp
 | 0, _, _, _ => all []
 | 1, v, _, _ => ex fun b : Nat => all [lift (v = .slice (sQ b) 0 0), OwnB (sQ b) 0 []]
 | 2, _, v, _ => ex fun x : Option Addr × Nat => all [lift (v = .slice x.1 t.length x.2), OwnB x.1 x.2 t]
 | _, _, _, v => ex fun x : Option Addr × Nat => all [lift (v = .slice x.1 (t ++ [c]).length x.2), OwnB x.1 x.2 (t ++ [c])]
def thS (c : UInt8) : Nat -> Value -> HProp
 | 0, _ => all []
 | _, v => ex fun b : Nat => all [lift (v = .slice (sQ b) 1 1), pt b (.cells (bytesV [c]).toArray 5 (0, 0))]
theorem th_s {c : UInt8} {b : Nat} {v : Value} (hv : v = .slice (sQ b) 1 1) (h : St w0 (pt b (.cells (bytesV [c]).toArray 5 (0, 0)) :: l) w) : St w0 (thS c 1 v :: l) w := th_open.2 ⟨b, hv, h⟩
theorem th_1 {t : List UInt8} {c : UInt8} {b : Nat} {v2 v4 : Value} (h : St w0 (OwnB (sQ b) 0 [] :: l) w) : St w0 (thM t c 1 (.slice (sQ b) 0 0) v2 v4 :: l) w := th_open.2 ⟨b, rfl, h⟩
theorem th_2 {t : List UInt8} {c : UInt8} {a : Option Addr} {cc : Nat} {v1 v4 : Value} (h : St w0 (OwnB a cc t :: l) w) : St w0 (thM t c 2 v1 (.slice a t.length cc) v4 :: l) w := th_open.2 ⟨(a, cc), rfl, h⟩
theorem th_3 {t : List UInt8} {c : UInt8} {a : Option Addr} {cc : Nat} {v1 v2 : Value} (h : St w0 (OwnB a cc (t ++ [c]) :: l) w) : St w0 (thM t c 3 v1 v2 (.slice a (t ++ [c]).length cc) :: l) w := th_open.2 ⟨(a, cc), rfl, h⟩
abbrev TS := Nat × Nat × Nat × Nat
def tRem (x : TS) : List Nat := (if x.1 < 1 then [5] else []) ++ (if x.1 < 2 then [7] else []) ++ (if x.2.1 < 1 then [9] else []) ++ (if x.1 < 3 then [10] else []) ++
 (if x.2.2.1 < 1 then [11] else []) ++ (if x.2.2.1 < 2 then [13] else []) ++ (if x.2.2.2 < 1 then [14] else []) ++ (if x.2.2.1 < 3 then [15] else []) ++ [16, 17]
def tNxt (x : TS) (i : Nat) : TS :=
 if i = 5 then (1, x.2) else if i = 7 then (2, x.2) else if i = 9 then (x.1, 1, x.2.2) else if i = 10 then (3, x.2) else
 if i = 11 then (x.1, x.2.1, 1, x.2.2.2) else if i = 13 then (x.1, x.2.1, 2, x.2.2.2) else if i = 14 then (x.1, x.2.1, x.2.2.1, 1) else (x.1, x.2.1, 3, x.2.2.2)
def tPre (x : TS) (i : Nat) : Bool :=
 (i == 5 && x.1 == 0) || (i == 7 && x.1 == 1) || (i == 9 && x.2.1 == 0) || (i == 10 && x.1 == 2 && x.2.1 == 1) ||
 (i == 11 && x.2.2.1 == 0) || (i == 13 && x.2.2.1 == 1) || (i == 14 && x.2.2.2 == 0) || (i == 15 && x.2.2.1 == 2 && x.2.2.2 == 1)
def tHalf : List (Nat × Nat) := [(0, 0), (1, 0), (2, 0), (0, 1), (1, 1), (2, 1), (3, 1)]
def tAll : List TS := tHalf.flatMap fun a => tHalf.map fun b => (a.1, a.2, b.1, b.2)
def tChk (ops : Array Oper) : Bool := tAll.all fun x => x == (3, 1, 3, 1) || ((tRem x).filter (rdy ops (tRem x))).all fun i => tPre x i && tAll.contains (tNxt x i) && tRem (tNxt x i) == (tRem x).erase i
theorem tPre_iff {m s m' s' i : Nat} (h : tPre (m, s, m', s') i = true) : (i = 5 ∧ m = 0) ∨ (i = 7 ∧ m = 1) ∨ (i = 9 ∧ s = 0) ∨ (i = 10 ∧ m = 2 ∧ s = 1) ∨ (i = 11 ∧ m' = 0) ∨ (i = 13 ∧ m' = 1) ∨ (i = 14 ∧ s' = 0) ∨ (i = 15 ∧ m' = 2 ∧ s' = 1) := by
 unfold tPre at h
 simp only [Bool.or_eq_true, Uc, beq_iff_eq] at h
 rcases h with ((((((h | h) | h) | h) | h) | h) | h) | h
 ·exact .inl h
 ·exact .inr (.inl h)
 ·exact .inr (.inr (.inl h))
 ·exact .inr (.inr (.inr (.inl ⟨h.1.1, h.1.2, h.2⟩)))
 ·exact .inr (.inr (.inr (.inr (.inl h))))
 ·exact .inr (.inr (.inr (.inr (.inr (.inl h)))))
 ·exact .inr (.inr (.inr (.inr (.inr (.inr (.inl h))))))
 ·exact .inr (.inr (.inr (.inr (.inr (.inr (.inr ⟨h.1.1, h.1.2, h.2⟩))))))
theorem tRem_ne (x : TS) : tRem x ≠ [] := by
 unfold tRem
 intro h
 have := congrArg List.length h
 simp at this
variable {P : Program} {ops : Array Oper} {J : List Nat -> World -> Prop} {Q : Env -> World -> Prop} {e : Env}
theorem wv (I : TS -> Env -> World -> Prop) (hJ : ∀ t w, J t w) (hc : tChk ops = true) (hI : I (0, 0, 0, 0) e w)
  (hst : ∀ m s m' s' i e w, tPre (m, s, m', s') i = true -> I (m, s, m', s') e w -> ∃ o, ops.toList[i]? = some o ∧ Region.wanted o (gv ops e) = true ∧ Ex P o e w fun e' w' => I (tNxt (m, s, m', s') i) e' w')
  (hfin : ∀ e w, I (3, 1, 3, 1) e w -> Cur P ops J Q [] [16, 17] e w) : Cur P ops J Q [] [5, 7, 9, 10, 11, 13, 14, 15, 16, 17] e w := by
 have e0 : tRem (0, 0, 0, 0) = [5, 7, 9, 10, 11, 13, 14, 15, 16, 17] := by decide
 have hm : ((0, 0, 0, 0) : TS) ∈ tAll := by decide
 rw [<- e0]
 refine yz tRem (fun x => x == (3, 1, 3, 1)) (fun x e w => x ∈ tAll ∧ I x e w) hJ (fun x e w hx hf => ?_) (fun x e w hx hf => ⟨tRem_ne x, fun i hi => ?_⟩) 10 (0, 0, 0, 0) e w (by rw [e0]; rfl) ⟨hm, hI⟩
 ·have hf : x = (3, 1, 3, 1) := by simpa using hf
  rw [hf] at hx ⊢
  exact hfin e w hx.2
 ·unfold tChk at hc
  have h1 := Un.1 hc x hx.1
  rw [show (x == (3, 1, 3, 1)) = false from hf, Bool.false_or] at h1
  have h2 := Un.1 h1 i hi
  simp only [Uc, beq_iff_eq] at h2
  obtain ⟨⟨h3, h4⟩, h5⟩ := h2
  obtain ⟨m, s, m', s'⟩ := x
  obtain ⟨o, o1, o2, o3⟩ := hst m s m' s' i e w h3 hx.2
  exact ⟨_, o, o1, o2, h5, o3.mono fun e' w' h => ⟨List.contains_iff_mem.1 h4, h⟩⟩
end
end
end Go.Proofs.YtdeaeboijmeefaaGreatDoor
namespace Go.Hw
section
theorem op_len (o : Opr) : o.C.length = 8 := rfl
abbrev opsV (os : List Opr) : List Value := os.flatMap Opr.C
section
variable {P : Program} {W : World} {H : Type} {enc : TypeId × Value -> H} {r : Reach} {b0 : Nat}
end
end
end Go.Hw
namespace Go.Proofs.YtdeaeboijmeefaaGreatDoor
open Go.Hw _root_.Go.Proofs.Tryz
section
open Go.Hw Go.Lib
section
variable {w0 w : World} {l : List HProp}
theorem wu {b : Nat} {cs : List Value} {T : TypeId} {fr : Nat × Nat} {t : List UInt8} (hc : cs.take t.length = bytesV t) : Reads w0 (pt b (.cells cs.toArray T fr) :: l) 1 (sQ b) t.length (bytesV t) := fun L w' h' => by
 have hb := (St.drops h').hd.1
 refine ⟨by rw [bytesV_len]; omega, .inr ⟨b, 0, rfl, fun j v hj => ?_⟩⟩
 refine (show At w' b 0 cs from qp hb O8) j v ?_
 rw [<- hc, Vg] at hj
 split at hj
 ·exact hj
 ·cases hj
theorem stO (h : St w0 l w) : St w0 (all [] :: l) w := St.fold [] h
def opL (o : Opr) : List Int := [o.kind, o.series, o.iter, o.T, (o.V : Int), o.F, o.To, o.N]
def slV (x : List UInt8 × Option Addr × Nat) : Value := .slice x.2.1 x.1.length x.2.2
theorem y6 (t : List UInt8) (k : Nat) (c : UInt8) : (bytesV t).set k (.int .u8 (c.toNat : Int)) = bytesV (t.set k c) := by unfold bytesV; rw [List.map_set]
theorem law27_ReptTells (hR : Rp w0) {raw : Opr} (hraw : raw.Wf) (n : Int) {sr : Option Addr} {cr : Nat} {r : Res} (hr : ResWf r) (hrr : Reads w0 l 2 sr r.list.length (smpsV r.list)) {sb : Option Addr} {cb : Nat} {bs : List UInt8} (hnb : bs.length <= 9223372036854775807) (hrb : Reads w0 l 1 sb bs.length (bytesV bs))
  (at_ : Int) (by_ : UInt8) (h : St w0 l w) :
  Ret prog 3 [.agg raw.C.toArray, .iz n, .agg (r.C sr cr).toArray, .slice sb bs.length cb, .iz at_, .int .u8 (by_.toNat : Int)] w fun v w' => v = .bool true ∧ St w0 l w' := by
 have hN := hR.nm
 obtain ⟨hr1, hr2, hr3⟩ := hr
 refine en func3 results3 ntmps3 ?_
 refine Y0 ?_
 refine r_c rfl (js h (show _ = Value.agg raw.C.toArray from rfl) fun b6 w h => ?_)
 refine r_c rfl (js h (show _ = Value.agg (r.C sr cr).toArray from rfl) fun b8 w h => ?_)
 replace h : St w0 (RsPt b8 sr cr r :: OpPt b6 raw :: l) w := h
 refine Y6 ?_
 by_cases hsm : bs.length <= 200 ∧ r.list.length <= 60
 rotate_left
 ·refine Y1r ?_; refine Y1q ?_
  by_cases h1 : 200 < bs.length
  ·refine qw (.bool true) O6 ?_
   refine Y2i ?_; refine Yb ?_; refine Y1n ?_
   refine r_c rfl (qq rfl (law27_awake hR h) ?_)
   clear h
   rintro _ w ⟨rfl, h⟩
   refine Yt ?_
   exact qj (qy (bq1 ⟨rfl, h.drop.drop⟩))
  ·refine qw (.bool false) O5 ?_
   refine Ym ?_; refine Y2z ?_
   refine r_v (qk (v := .slice sr r.list.length cr) rfl (h.b 0 rfl) rfl) rfl ?_
   refine Y4 ?_; refine Y25 ?_; refine Y4 ?_
   refine r_v (qa (v' := .bool true) (zx rfl rfl) (congrArg Value.bool (by rw [decide_eq_true_eq]; omega))) rfl ?_
   refine Yn ?_; refine Y1n ?_
   refine r_c rfl (qq rfl (law27_awake hR h) ?_)
   clear h
   rintro _ w ⟨rfl, h⟩
   refine Yt ?_
   exact qj (qy (bq1 ⟨rfl, h.drop.drop⟩))
 obtain ⟨hs1, hs2⟩ := hsm
 refine Y1r ?_; refine Y1q ?_
 refine qw (.bool false) O5 ?_
 refine Ym ?_; refine Y2z ?_
 refine r_v (qk (v := .slice sr r.list.length cr) rfl (h.b 0 rfl) rfl) rfl ?_
 refine Y4 ?_; refine Y25 ?_; refine Y4 ?_
 refine r_v (qa (v' := .bool false) (zx rfl rfl) (congrArg Value.bool (by rw [decide_eq_false_iff_not]; omega))) rfl ?_
 refine Y2j ?_
 have hm0 : 0 <= n % 2 ^ 6 := Int.emod_nonneg _ O4
 have hm1 : n % 2 ^ 6 < 2 ^ 6 := Int.emod_lt_of_pos _ O4
 obtain ⟨m, hm⟩ : ∃ m, n % 2 ^ 6 = m := ⟨_, rfl⟩
 rw [hm] at hm0 hm1
 refine Y24 ?_
 refine r_v (qa (v' := .iz m) (jh rfl rfl) (congrArg Value.iz ((gr 6 O4 O4).trans hm))) rfl ?_
 refine r_c rfl (qq rfl (law14_Op (n := n) (at_ := m) hm0 O3 h) ?_)
 clear h
 rintro _ w ⟨rfl, h⟩
 have how : (opOf n m).Wf := opOf_wf hm0 O3
 obtain ⟨o, ho⟩ : ∃ o, opOf n m = o := ⟨_, rfl⟩
 rw [ho] at how ⊢
 refine r_c rfl (qt h fun b13 w h => ?_)
 refine r_c rfl (qb (vs := o.C) 0 h rfl rfl rfl rfl rfl rfl rfl fun w h => ?_)
 replace h : St w0 (OpPt b13 o :: RsPt b8 sr cr r :: OpPt b6 raw :: l) w := h
 refine Y2 ?_
 refine jp (Γ := Unit) (fun _ => [(3, .slice sb bs.length cb), (4, .iz at_), (5, .int .u8 (by_.toNat : Int)), (6, .pz b6), (13, .pz b13)]) (fun _ w => St w0 (OpPt b13 o :: RsPt b8 sr cr r :: OpPt b6 raw :: l) w) ?_ ?_
 ·refine ql (gk none (fun w => St w0 (OpPt b13 o :: RsPt b8 sr cr r :: OpPt b6 raw :: l) w) O1 O1 h.drew fun w h => ?_)
  refine qu rfl rfl rfl rfl h (fun _ h => qx rfl (qm (l := r.C sr cr) rfl rfl (qp (h.b 1 rfl) rfl))) ?_
  refine Yo ?_
  refine qu rfl rfl rfl rfl h (fun _ h => qx rfl (qm (l := r.C sr cr) rfl rfl (qp (h.b 1 rfl) rfl))) ?_
  refine Yu ?_; refine Yu ?_; refine Yu ?_; refine Yu ?_
  refine qh 1 rfl rfl rfl rfl (qq rfl (gh hN hr1 hr2 hr3 O3 (hrr.more [_, _, _]) h) ?_)
  clear h
  rintro _ w ⟨rfl, h⟩
  refine ⟨fun _ => h, ?_⟩
  refine Yu ?_; refine Yu ?_; refine Yu ?_; refine Yu ?_
  refine qh 3 rfl rfl rfl rfl (qq rfl (ref27_Result hr1 hr2 hr3 O3 (hrr.more [_, _, _]) h) ?_)
  clear h
  rintro _ w ⟨rfl, h⟩
  refine ⟨fun _ => h, ?_⟩
  refine cpv rfl rfl rfl rfl h rfl (qa (v' := .bool false) (gd rfl rfl) (congrArg Value.bool (by rw [strB_same]; simp))) ?_
  refine Y26 ?_
  refine qu rfl rfl rfl rfl h (fun _ h => jq rfl rfl (qm (l := raw.C) rfl rfl (qp (h.b 2 rfl) rfl))) ?_
  refine Yo ?_
  refine qu rfl rfl rfl rfl h (fun _ h => jq rfl rfl (qm (l := raw.C) rfl rfl (qp (h.b 2 rfl) rfl))) ?_
  refine Yu ?_; refine Yu ?_; refine Y1g ?_
  refine qh 7 rfl rfl rfl (je rfl rfl rfl) (qq rfl (vq hN hraw h) ?_)
  clear h
  rintro _ w ⟨rfl, h⟩
  refine ⟨fun _ => h, ?_⟩
  refine Yu ?_; refine Yu ?_; refine Y1g ?_
  refine qh 9 rfl rfl rfl (je rfl rfl rfl) (qq rfl (ref27_Op hraw h) ?_)
  clear h
  rintro _ w ⟨rfl, h⟩
  refine ⟨fun _ => h, ?_⟩
  refine qv rfl rfl rfl rfl (fun _ => h) (fun _ => jq rfl rfl (qa (v' := .bool false) (gd rfl rfl) (congrArg Value.bool (by rw [strB_same]; simp)))) ?_
  refine cpv rfl rfl rfl rfl h rfl (jt rfl rfl rfl) ?_; refine Y26 ?_
  refine qu rfl rfl rfl rfl h (fun _ h => jq rfl rfl (qm (l := o.C) rfl rfl (qp (h.b 0 rfl) rfl))) ?_
  refine Yo ?_
  refine qu rfl rfl rfl rfl h (fun _ h => jq rfl rfl (qm (l := o.C) rfl rfl (qp (h.b 0 rfl) rfl))) ?_
  refine Ye ?_
  refine qh 14 rfl rfl rfl (je rfl rfl rfl) (qq rfl (vq hN how h) ?_)
  clear h
  rintro _ w ⟨rfl, h⟩
  refine ⟨fun _ => h, ?_⟩
  refine Ye ?_
  refine qh 16 rfl rfl rfl (je rfl rfl rfl) (qq rfl (ref27_Op how h) ?_)
  clear h
  rintro _ w ⟨rfl, h⟩
  refine ⟨fun _ => h, ?_⟩
  refine qv rfl rfl rfl rfl (fun _ => h) (fun _ => jq rfl rfl (qa (v' := .bool false) (gd rfl rfl) (congrArg Value.bool (by rw [strB_same]; simp)))) ?_
  refine cpv rfl rfl rfl rfl h rfl (jt rfl rfl rfl) ?_
  exact qi (qn rfl (q6 ⟨(), zz5, h⟩))
 clear h
 rintro _ w e h
 refine jp (Γ := Unit) (fun _ => [(3, .slice sb bs.length cb), (4, .iz at_), (5, .int .u8 (by_.toNat : Int)), (13, .pz b13)]) (fun _ w => St w0 (OpPt b13 o :: l) w) ?_ ?_
 ·refine Y0 ?_
  refine r_v (qm (l := raw.C) rfl rfl (qp (h.b 2 rfl) rfl)) rfl ?_
  refine r_v (qm (l := o.C) rfl rfl (qp (h.b 0 rfl) rfl)) rfl ?_
  refine r_c rfl (jy (r := opsV [raw, o]) h rfl rfl rfl fun bL w h => ?_)
  replace h : St w0 (pt bL (.cells (opsV [raw, o]).toArray 24 (0, 0)) :: OpPt b13 o :: l) w := h.x [2, 3]
  refine Y25 ?_; refine Y1s ?_
  refine gu (Γ := Nat) (fun i => [(3, .slice sb bs.length cb), (4, .iz at_), (5, .int .u8 (by_.toNat : Int)), (13, .pz b13), (61, .slice (sQ bL) 2 2), (62, .iz 2), (63, .iz (i : Int))])
   (fun i w => i <= 2 ∧ St w0 (pt bL (.cells (opsV [raw, o]).toArray 24 (0, 0)) :: OpPt b13 o :: l) w) (fun i => 2 - i) 0 zz7 ⟨Vl _, h⟩ ?_
  clear h
  rintro i w e ⟨hi, h⟩
  refine Y32 ?_
  by_cases hlt : i < 2
  rotate_left
  ·refine qw (.bool false) O5 ?_
   refine qj (ql (qn rfl (gg ?_)))
   exact Eq.mpr (if_pos rfl) ⟨(), zz4, h.drop⟩
  refine qw (.bool true) O6 ?_
  refine qj (ql (qr rfl (q6 ?_)))
  obtain ⟨x, hx, hxw⟩ : ∃ x, [raw, o][i]? = some x ∧ x.Wf := by
   have hl : i < [raw, o].length := hlt
   refine ⟨[raw, o][i], Ub hl, ?_⟩
   have := List.getElem_mem hl
   simp only [Vh, List.not_mem_nil, or_false] at this
   rcases this with h | h <;> rw [h] <;> assumption
  refine jp (Γ := Unit) (fun _ => [(3, .slice sb bs.length cb), (4, .iz at_), (5, .int .u8 (by_.toNat : Int)), (13, .pz b13), (61, .slice (sQ bL) 2 2), (62, .iz 2), (63, .iz (i : Int))]) (fun _ w => St w0 (pt bL (.cells (opsV [raw, o]).toArray 24 (0, 0)) :: OpPt b13 o :: l) w) (ut ?_) ?_
  rotate_left
  ·clear h
   rintro _ w e h
   refine Y19 ?_
   refine qw (.iz ((i + 1 : Nat) : Int)) O10 ?_
   refine Y1 ?_
   exact qj ⟨i + 1, zz7, ⟨hlt, h⟩, O_o⟩
  have hlen := opS_len hxw
  refine Y0 ?_
  have hrd : Rd w 8 (sQ bL) 2 (opsV [raw, o]) := ⟨rfl, .inr ⟨bL, 0, rfl, qp (h.b 0 rfl) rfl⟩⟩
  refine r_v (vy (j := i) (o' := i * 8) rfl rfl rfl hlt O8) rfl ?_
  refine r_v (qm (l := x.C) rfl rfl (by have := hrd.elem op_len hx; simpa using this)) rfl ?_
  clear hrd
  refine r_c rfl (qt h fun b15 w h => ?_)
  refine r_c rfl (qb (vs := x.C) 0 h rfl rfl rfl rfl rfl rfl rfl fun w h => ?_)
  replace h : St w0 (OpPt b15 x :: pt bL (.cells (opsV [raw, o]).toArray 24 (0, 0)) :: OpPt b13 o :: l) w := h
  refine Y9 ?_
  refine r_v (qm (l := x.C) rfl rfl (qp (h.b 0 rfl) rfl)) rfl ?_
  refine r_c rfl (qq rfl (ref27_Op hxw h) ?_)
  clear h
  rintro _ w ⟨rfl, h⟩
  refine r_c rfl (qq rfl (gq hR (s := opS x) O3 h) ?_)
  clear h
  rintro _ w ⟨p, ok, rfl, hp, hy, hn, h⟩
  refine Y18 ?_
  refine r_c rfl (qt h fun b16 w h => ?_)
  refine r_c rfl (qb (vs := p.C) 0 h rfl rfl rfl rfl rfl rfl rfl fun w h => ?_)
  replace h : St w0 (OpPt b16 p :: OpPt b15 x :: pt bL (.cells (opsV [raw, o]).toArray 24 (0, 0)) :: OpPt b13 o :: l) w := h
  refine Y6 ?_; refine Y0 ?_
  refine r_v (qm (l := x.C) rfl rfl (qp (h.b 1 rfl) rfl)) rfl ?_
  refine r_c rfl (qq rfl (law27_only h) ?_)
  clear h
  rintro _ w ⟨rfl, h⟩
  refine r_c rfl (qt h fun b18 w h => ?_)
  refine r_c rfl (qb (vs := x.only.C) 0 h rfl rfl rfl rfl rfl rfl rfl fun w h => ?_)
  replace h : St w0 (OpPt b18 x.only :: OpPt b16 p :: OpPt b15 x :: pt bL (.cells (opsV [raw, o]).toArray 24 (0, 0)) :: OpPt b13 o :: l) w := h
  have hok : ok = decide (opS x ≠ []) := by
   cases ok with
   | true => exact (decide_eq_true (hy rfl).2.1).symm
   | false =>
    symm
    rw [decide_eq_false_iff_not]
    intro hne
    obtain ⟨k1, k2⟩ := opS_ne.1 hne
    exact (hn rfl).2 x hxw k1 k2 rfl
  refine Y9 ?_; refine Y13 ?_
  refine r_v (qm (l := x.C) rfl rfl (qp (h.b 2 rfl) rfl)) rfl ?_
  refine r_c rfl (qq rfl (ref27_Op hxw h) ?_)
  clear h
  rintro _ w ⟨rfl, h⟩
  refine r_v (qa (v' := .bool ok) (gd rfl rfl) (congrArg Value.bool ((congrArg Bool.not (strB_same (opS x) [])).trans (by rw [hok]; simp)))) rfl ?_
  refine r_v (qa (v' := .bool false) (q_neb rfl rfl) (congrArg Value.bool O8)) rfl ?_
  clear hok
  cases ok with
  | false =>
   obtain ⟨rfl, _⟩ := hn rfl
   refine Ym ?_; refine Ym ?_; refine Y1l ?_; refine Y1b ?_; refine Y4 ?_; refine Yn ?_; refine Yn ?_; refine Ym ?_; refine Ym ?_; refine Y1p ?_; refine Y4 ?_; refine Ym ?_
   refine r_v (qm (l := Opr.zero.C) rfl rfl (qp (h.b 1 rfl) rfl)) rfl ?_
   refine Y4 ?_
   refine r_v (qc (r := Opr.zero.C) rfl) rfl ?_
   refine Y4 ?_
   refine r_v (qa (v' := .bool false) (yu (opL Opr.zero) (opL Opr.zero) rfl rfl rfl rfl) (congrArg Value.bool O8)) rfl ?_
   refine Y4 ?_; refine Yb ?_; refine Yn ?_
   exact qj (qn rfl (q6 ⟨(), zz7, h.x [0, 1, 2]⟩))
  | true =>
   obtain ⟨y1, y2, y3, y4⟩ := hy rfl
   obtain ⟨k1, k2⟩ := opS_ne.1 y2
   have hpx : p = x.only := y4 x hxw k1 k2 rfl
   refine Ym ?_; refine Ym ?_; refine Ym ?_
   refine r_v (qm (l := p.C) rfl rfl (qp (h.b 1 rfl) rfl)) rfl ?_
   refine Y4 ?_
   refine r_v (qm (l := x.only.C) rfl rfl (qp (h.b 0 rfl) rfl)) rfl ?_
   refine Y4 ?_
   refine r_v (qa (v' := .bool false) (yu (opL p) (opL x.only) rfl rfl rfl rfl) (congrArg Value.bool (by rw [hpx]; simp))) rfl ?_
   refine Y4 ?_; refine Yb ?_; refine Yn ?_; refine Ym ?_; refine Ym ?_; refine Y1p ?_; refine Y4 ?_; refine Y1l ?_; refine Y1b ?_; refine Y4 ?_; refine Yn ?_; refine Yn ?_
   exact qj (qn rfl (q6 ⟨(), zz7, h.x [0, 1, 2]⟩))
 clear h
 rintro _ w e h
 obtain ⟨t, ht⟩ : ∃ t, opS o = t := ⟨_, rfl⟩
 have htl := opS_len how
 rw [ht] at htl
 refine Y0 ?_
 refine r_v (qm (l := o.C) rfl rfl (qp (h.b 0 rfl) rfl)) rfl ?_
 refine r_c rfl (qq rfl (ref27_Op how h) ?_)
 clear h
 rintro _ w ⟨rfl, h⟩
 rw [ht]
 refine r_c rfl (x_stob (bs := t) h rfl fun bt tc cs fr w htc hcs h => ?_)
 replace h : St w0 (pt bt (.cells cs.toArray 5 fr) :: l) w := h.x [1]
 have hrt : Reads w0 (pt bt (.cells cs.toArray 5 fr) :: l) 1 (sQ bt) t.length (bytesV t) := wu hcs
 obtain ⟨B, hB⟩ : ∃ B, pt bt (.cells cs.toArray 5 fr) = B := ⟨_, rfl⟩
 rw [hB] at h hrt
 clear hB hcs
 refine Y17 ?_; refine Y9 ?_; refine Y3 ?_; refine Y0 ?_
 refine r_c rfl (jy (r := []) h rfl rfl rfl fun bu w h => ?_)
 refine Yf ?_
 have h1 : St w0 (OwnB (sQ bu) 0 [] :: B :: l) w := St.own_mk (cur := []) h rfl rfl (Ui _)
 refine r_c rfl (ja (ys := bytesV t) (zs := bytesV t) (m3 := t.length) h1 rfl rfl ((hrt.more [_]).at_ h1) (bytesV_one _) O8 rfl O3 O3 rfl fun ua uc w _ h => ?_)
 clear h1
 refine Y1j ?_
 refine jp (Γ := Nat × List UInt8) (fun y => [(3, .slice sb bs.length cb), (5, .int .u8 (by_.toNat : Int)), (19, .slice (sQ bt) t.length tc), (20, .iz (y.1 : Int)), (21, .slice ua t.length uc)])
  (fun y w => y.1 <= t.length ∧ y.2.length = t.length ∧ St w0 (Own 5 1 ua t.length uc (bytesV y.2) :: B :: l) w) ?_ ?_
 ·refine Y0 ?_; refine Yr ?_; refine Y1q ?_
  by_cases h0 : 0 < t.length
  rotate_left
  ·refine qw (.bool false) O5 ?_
   exact qj (qn rfl (q6 ⟨(0, t), zz5, Vl _, rfl, h⟩))
  refine qw (.bool true) O6 ?_
  refine Y1n ?_
  obtain ⟨am, ham⟩ : ∃ am, at_ % 2 ^ 16 = am := ⟨_, rfl⟩
  have ham0 : 0 <= am := by rw [<- ham]; exact Int.emod_nonneg _ O4
  obtain ⟨k, hk⟩ := Int.eq_ofNat_of_zero_le (Int.tmod_nonneg (t.length : Int) ham0)
  have hkl : k < t.length := by
   have := Int.tmod_lt_of_pos am (show (0 : Int) < (t.length : Int) by omega)
   omega
  refine Y1 ?_
  refine r_v (qa (v' := .iz am) (jh rfl rfl) (congrArg Value.iz ((gr 16 O4 O4).trans ham))) rfl ?_
  refine Yr ?_
  refine r_v (qa (v' := .iz (k : Int)) (zw rfl rfl O3) (by rw [hk])) rfl ?_
  refine Y3 ?_; refine jj ?_
  obtain ⟨ub, rfl⟩ := h.own_some h0
  refine Yf ?_; refine Y1a ?_
  refine r_v (vy (j := k) (o' := k) rfl rfl rfl hkl O8) rfl ?_
  refine r_c rfl (zo (v := .int .u8 (by_.toNat : Int)) h rfl rfl O3 rfl fun w h => ?_)
  rw [y6] at h
  exact qj ⟨(k, t.set k by_), zz5, Nat.le_of_lt hkl, List.length_set, h⟩
 clear h
 rintro ⟨k, u⟩ w e ⟨hk, hul, h⟩
 dsimp only at hk hul h ⊢
 refine jp (Γ := Unit) (fun _ => []) (fun _ w => St w0 l w) ?_ ?_
 rotate_left
 ·clear h
  rintro _ w e h
  refine Y0 ?_
  refine r_c rfl (qq rfl (law27_awake hR h) ?_)
  clear h
  rintro _ w ⟨rfl, h⟩
  refine Yt ?_
  exact qj (qy (bq1 ⟨rfl, h⟩))
 refine jp (Γ := List (List UInt8 × Option Addr × Nat) × Nat × HProp) (fun y => [(132, .slice (some ⟨y.2.1, 0, none⟩) 5 5), (133, .iz 5), (134, .iz 0)])
  (fun y w => y.1.length = 5 ∧ (∀ x ∈ y.1, Reads w0 (y.2.2 :: l) 1 x.2.1 x.1.length (bytesV x.1) ∧ x.1.length <= 300) ∧ St w0 (pt y.2.1 (.cells (y.1.map slV).toArray 29 (0, 0)) :: y.2.2 :: l) w) ?_ ?_
 ·refine gf [0, 1, 2, 3, 4, 5, 6, 7, 8, 9, 10, 11, 12, 13, 14, 15, 16, 17, 18] none (fun _ => True) O1 O1 ?_
  have hs := h.drew
  clear h
  generalize w.drew = w at hs ⊢
  have h : True := trivial
  refine Y1f ?_; refine Y1f ?_; refine Y1f ?_; refine Y14 ?_
  refine cpv rfl rfl rfl rfl h rfl (q_head (h := k) rfl rfl O3) ?_
  refine Yo ?_; refine Y1f ?_; refine Yo ?_; refine Y14 ?_; refine Ye ?_; refine Y1f ?_; refine Y2q ?_; refine Y14 ?_
  refine xr (wv (fun x e w => (e 116 = .slice sb bs.length cb ∧ e 117 = .slice ua t.length uc ∧ e 120 = .slice (sQ bt) k tc ∧ e 122 = .slice (sQ bt) t.length tc ∧ e 124 = .int .u8 (by_.toNat : Int) ∧ e 128 = .slice (sQ bt) t.length tc ∧ e 134 = .iz 0) ∧
   St w0 (thM t by_ x.1 (e 121) (e 123) (e 126) :: thS by_ x.2.1 (e 125) :: thM t 32 x.2.2.1 (e 127) (e 129) (e 131) :: thS 32 x.2.2.2 (e 130) :: Own 5 1 ua t.length uc (bytesV u) :: B :: l) w) (fun _ _ _ => trivial) O1 ?_ ?_ ?_)
  ·exact ⟨⟨rfl, rfl, rfl, rfl, rfl, rfl, rfl⟩, stO (stO (stO (stO hs)))⟩
  ·clear hs e
   intro m s m' s' i e w hi hI
   obtain ⟨hf, hs⟩ := hI
   obtain ⟨f1, f2, f3, f4, f5, f6, f7⟩ := hf
   dsimp only at hs
   rcases tPre_iff hi with ⟨rfl, rfl⟩ | ⟨rfl, rfl⟩ | ⟨rfl, rfl⟩ | ⟨rfl, rfl, rfl⟩ | ⟨rfl, rfl⟩ | ⟨rfl, rfl⟩ | ⟨rfl, rfl⟩ | ⟨rfl, rfl, rfl⟩
   ·refine ⟨_, rfl, rfl, jy (r := []) hs.drop rfl rfl rfl fun b w hs => ?_⟩
    exact ⟨⟨f1, f2, f3, f4, f5, f6, f7⟩, th_1 (St.own_mk (cur := []) hs rfl rfl (Ui _))⟩
   ·obtain ⟨b, hv, hs⟩ := th_open.1 hs
    refine ⟨_, rfl, rfl, ja (ys := bytesV t) (zs := bytesV t) (m3 := t.length) hs hv f4 ((hrt.more [_, _, _, _, _]).at_ hs) (bytesV_one _) O8 rfl O3 O3 rfl fun a c w _ hs => ?_⟩
    exact ⟨⟨f1, f2, f3, f4, f5, f6, f7⟩, th_2 hs⟩
   ·refine ⟨_, rfl, rfl, jy (r := bytesV [by_]) (hs.x [1]) (by simp only [List.map_cons, List.map_nil, show ev e (.tmp 124) = .int .u8 (by_.toNat : Int) from f5]; rfl) rfl rfl fun b w hs => ?_⟩
    replace hs := (th_s (v := .slice (sQ b) 1 1) rfl hs).o [1, 0]
    exact ⟨⟨f1, f2, f3, f4, f5, f6, f7⟩, hs⟩
   ·obtain ⟨⟨a, c⟩, hv, hs⟩ := th_open.1 hs
    obtain ⟨b, hv2, hs⟩ := th_open.1 (hs.f 1)
    refine ⟨_, rfl, rfl, ja (ys := bytesV [by_]) (zs := bytesV (t ++ [by_])) (m3 := (t ++ [by_]).length) (hs.f 1) hv hv2 ⟨rfl, .inr ⟨b, 0, rfl, qp (hs.b 0 rfl) rfl⟩⟩ (bytesV_one _) O8 (by simp [bytesV]) (by simp; omega) (by simp; omega) rfl fun a c w _ hs => ?_⟩
    replace hs := (th_3 (v1 := e 121) (v2 := e 123) ((th_s hv2 (hs.f 1)).o [1, 0]))
    exact ⟨⟨f1, f2, f3, f4, f5, f6, f7⟩, hs⟩
   ·refine ⟨_, rfl, rfl, jy (r := []) (hs.x [2]) rfl rfl rfl fun b w hs => ?_⟩
    replace hs := (th_1 (t := t) (c := 32) (v2 := e 129) (v4 := e 131) (St.own_mk (cur := []) hs rfl rfl (Ui _))).o [1, 2, 0]
    exact ⟨⟨f1, f2, f3, f4, f5, f6, f7⟩, hs⟩
   ·obtain ⟨b, hv, hs⟩ := th_open.1 (hs.f 2)
    refine ⟨_, rfl, rfl, ja (ys := bytesV t) (zs := bytesV t) (m3 := t.length) hs hv f6 ((hrt.more [_, _, _, _, _]).at_ hs) (bytesV_one _) O8 rfl O3 O3 rfl fun a c w _ hs => ?_⟩
    replace hs := (th_2 (c := 32) (v1 := e 127) (v4 := e 131) hs).o [1, 2, 0]
    exact ⟨⟨f1, f2, f3, f4, f5, f6, f7⟩, hs⟩
   ·refine ⟨_, rfl, rfl, jy (r := bytesV [32]) (hs.x [3]) rfl rfl rfl fun b w hs => ?_⟩
    replace hs := (th_s (v := .slice (sQ b) 1 1) rfl hs).o [1, 2, 3, 0]
    exact ⟨⟨f1, f2, f3, f4, f5, f6, f7⟩, hs⟩
   ·obtain ⟨⟨a, c⟩, hv, hs⟩ := th_open.1 (hs.f 2)
    obtain ⟨b, hv2, hs⟩ := th_open.1 (hs.f 3)
    refine ⟨_, rfl, rfl, ja (ys := bytesV [32]) (zs := bytesV (t ++ [32])) (m3 := (t ++ [32]).length) (hs.f 1) hv hv2 ⟨rfl, .inr ⟨b, 0, rfl, qp (hs.b 0 rfl) rfl⟩⟩ (bytesV_one _) O8 (by simp [bytesV]) (by simp; omega) (by simp; omega) rfl fun a c w _ hs => ?_⟩
    replace hs := (th_3 (v1 := e 127) (v2 := e 129) ((th_s hv2 (hs.f 1)).o [1, 2, 3, 0])).o [1, 2, 0]
    exact ⟨⟨f1, f2, f3, f4, f5, f6, f7⟩, hs⟩
  ·clear hs e
   rintro e w ⟨⟨f1, f2, f3, f4, f5, f6, f7⟩, hs⟩
   dsimp only at hs
   obtain ⟨⟨xa, xc⟩, hv1, hs⟩ := th_open.1 hs
   obtain ⟨⟨ya, yc⟩, hv2, hs⟩ := th_open.1 (hs.f 2)
   obtain ⟨T5, hT5⟩ : ∃ T5 : List (List UInt8 × Option Addr × Nat), [(bs, sb, cb), (u, ua, uc), (t.take k, some ⟨bt, 0, none⟩, tc), (t ++ [by_], xa, xc), (t ++ [32], ya, yc)] = T5 := ⟨_, rfl⟩
   have htk : (t.take k).length = k := by rw [Ve]; omega
   refine Y1g ?_
   refine qh 16 rfl rfl rfl rfl ?_
   refine jy (r := T5.map slV) hs (by
    rw [<- hT5]
    simp only [List.map_cons, List.map_nil, show ev e (.tmp 116) = _ from f1, show ev e (.tmp 117) = _ from f2, show ev e (.tmp 120) = _ from f3, show ev e (.tmp 126) = _ from hv1, show ev e (.tmp 131) = _ from hv2, slV, hul, htk]
    rfl) rfl rfl fun b5 w hs => ?_
   refine ⟨fun _ => trivial, ?_⟩
   have h : True := trivial
   refine Y2w ?_
   have hall := hs
   obtain ⟨N, hN2⟩ : ∃ N : List HProp, [OwnB ya yc (t ++ [32]), OwnB xa xc (t ++ [by_]), thS by_ 1 (e 125), thS 32 1 (e 130), Own 5 1 ua t.length uc (bytesV u), B] = N := ⟨_, rfl⟩
   refine qi ⟨(T5, b5, all N), ⟨rfl, rfl, f7, trivial⟩, by rw [<- hT5]; rfl, fun x hx => ?_, ?_⟩
   ·rw [<- hT5] at hx
    dsimp only
    have hpk : ∀ {a : Option Addr} {q : List UInt8}, Reads w0 (N ++ l) 1 a q.length (bytesV q) -> Reads w0 (all N :: l) 1 a q.length (bytesV q) := fun hq => hq.swap (jo N l).symm
    rw [<- hN2] at hpk ⊢
    simp only [Vh, List.not_mem_nil, or_false] at hx
    rcases hx with rfl | rfl | rfl | rfl | rfl
    ·exact ⟨hpk (hrb.more [_, _, _, _, _, _]), O_d⟩
    ·refine ⟨hpk ?_, O_d⟩
     dsimp only
     rw [hul]
     exact (Reads.own (l := B :: l)).more [_, _, _, _]
    ·refine ⟨hpk ?_, O_d⟩
     dsimp only
     rw [htk, show bytesV (t.take k) = (bytesV t).take (k * 1) from by unfold bytesV; rw [List.map_take, Nat.mul_one]]
     exact ((hrt.head hk).more [_, _, _, _, _])
    ·exact ⟨hpk ((Reads.own (l := thS by_ 1 (e 125) :: thS 32 1 (e 130) :: Own 5 1 ua t.length uc (bytesV u) :: B :: l)).more [_]), by dsimp only; rw [Ua, Ul]; omega⟩
    ·exact ⟨hpk Reads.own, by dsimp only; rw [Ua, Ul]; omega⟩
   ·rw [<- hN2]
    exact (St.fold (l := pt b5 (.cells (T5.map slV).toArray 29 (0, 0)) :: l) [_, _, _, _, _, _] (hs.o [1, 2, 3, 4, 5, 6, 0])).o [1, 0]
 clear h
 rintro ⟨T5, b5, G⟩ w e ⟨hl5, hrd, h⟩
 dsimp only at hl5 hrd h
 refine Yl ?_
 refine gu (Γ := Nat) (fun i => [(132, .slice (sQ b5) 5 5), (133, .iz 5), (134, .iz (i : Int))])
  (fun i w => i <= 5 ∧ St w0 (pt b5 (.cells (T5.map slV).toArray 29 (0, 0)) :: G :: l) w) (fun i => 5 - i) 0 zz3 ⟨Vl _, h⟩ ?_
 clear h
 rintro i w e ⟨hi, h⟩
 refine Y32 ?_
 by_cases hlt : i < 5
 rotate_left
 ·refine qw (.bool false) O5 ?_
  refine qj (ql (qn rfl (gg ?_)))
  exact Eq.mpr (if_pos rfl) ⟨(), trivial, h.x [0, 1]⟩
 refine qw (.bool true) O6 ?_
 refine qj (ql (qr rfl (q6 ?_)))
 obtain ⟨x, hx⟩ : ∃ x, T5[i]? = some x := ⟨_, Ub O3⟩
 obtain ⟨hxr, hxl⟩ := hrd x (Vc hx)
 refine jp (Γ := Unit) (fun _ => [(132, .slice (sQ b5) 5 5), (133, .iz 5), (134, .iz (i : Int))]) (fun _ w => St w0 (pt b5 (.cells (T5.map slV).toArray 29 (0, 0)) :: G :: l) w) (ut ?_) ?_
 rotate_left
 ·clear h
  rintro _ w e h
  refine Y19 ?_
  refine qw (.iz ((i + 1 : Nat) : Int)) O10 ?_
  refine Y1 ?_
  exact qj ⟨i + 1, zz3, ⟨hlt, h⟩, O_o⟩
 refine Y0 ?_
 refine r_v (vy (j := i) (o' := i) rfl rfl rfl hlt O8) rfl ?_
 refine r_v (qk (v := .slice x.2.1 x.1.length x.2.2) rfl (h.b 0 rfl) (by rw [List.getElem?_map, hx]; rfl)) rfl ?_
 refine Y17 ?_; refine Y9 ?_; refine Yf ?_
 refine r_v (u3 (bs := x.1) rfl ((hxr.more [_]).at_ h)) rfl ?_
 refine r_c rfl (qq rfl (gq hR (s := x.1) O3 h) ?_)
 clear h
 rintro _ w ⟨p, ok, rfl, hp, hy, hn, h⟩
 refine Y18 ?_
 refine r_c rfl (qt h fun b24 w h => ?_)
 refine r_c rfl (qb (vs := p.C) 0 h rfl rfl rfl rfl rfl rfl rfl fun w h => ?_)
 replace h : St w0 (OpPt b24 p :: pt b5 (.cells (T5.map slV).toArray 29 (0, 0)) :: G :: l) w := h
 refine Y6 ?_
 refine ql (gk none (fun w => St w0 (OpPt b24 p :: pt b5 (.cells (T5.map slV).toArray 29 (0, 0)) :: G :: l) w) O1 O1 h.drew fun w h => ?_)
 cases ok with
 | false =>
  obtain ⟨rfl, _⟩ := hn rfl
  refine Y26 ?_; refine cpv rfl rfl rfl rfl h rfl (zh rfl) ?_; refine Y26 ?_
  refine qu rfl rfl rfl rfl h (fun _ h => jq rfl rfl (qm (l := Opr.zero.C) rfl rfl (qp (h.b 0 rfl) rfl))) ?_
  refine qv rfl rfl rfl rfl (fun _ => h) (fun _ => jq rfl rfl (qc (r := Opr.zero.C) rfl)) ?_
  refine qv rfl rfl rfl rfl (fun _ => h) (fun _ => jq rfl rfl (qa (v' := .bool false) (yu (opL Opr.zero) (opL Opr.zero) rfl rfl rfl rfl) (congrArg Value.bool O8))) ?_
  refine cpv rfl rfl rfl rfl h rfl (ue rfl rfl rfl) ?_; refine Y26 ?_; refine qv rfl rfl rfl rfl (fun _ => h) (fun _ => jq rfl rfl (j8 rfl)) (qv rfl rfl rfl rfl (fun _ => h) (fun _ => jq rfl rfl (j8 rfl)) ?_)
  refine qv rfl rfl rfl rfl (fun _ => h) (fun _ => gn rfl rfl) ?_
  refine qv rfl rfl rfl rfl (fun _ => h) (fun _ => gn rfl rfl) ?_
  refine qv rfl rfl rfl rfl (fun _ => h) (fun _ => gn rfl rfl) ?_
  refine qv rfl rfl rfl rfl (fun _ => h) (fun _ => gn rfl rfl) ?_
  refine qv rfl rfl rfl rfl (fun _ => h) (fun _ => gn rfl rfl) ?_
  refine qv rfl rfl rfl rfl (fun _ => h) (fun _ => gn rfl rfl) ?_
  refine qv rfl rfl rfl rfl (fun _ => h) (fun _ => yj rfl) ?_
  refine qv rfl rfl rfl rfl (fun _ => h) (fun _ => yj rfl) ?_
  refine qv rfl rfl rfl rfl (fun _ => h) (fun _ => yj rfl) ?_
  refine qv rfl rfl rfl rfl (fun _ => h) (fun _ => yj rfl) ?_
  refine qv rfl rfl rfl rfl (fun _ => h) (fun _ => gn rfl rfl) ?_
  refine qv rfl rfl rfl rfl (fun _ => h) (fun _ => jq rfl rfl (jt rfl rfl rfl)) (cpv rfl rfl rfl rfl h rfl (jt rfl rfl rfl) ?_)
  exact qi (qn rfl (q6 ⟨(), zz3, h.drop⟩))
 | true =>
  obtain ⟨y1, y2, y3, y4⟩ := hy rfl
  refine Y26 ?_; refine cpv rfl rfl rfl rfl h rfl (zh rfl) ?_; refine Y26 ?_
  refine qv rfl rfl rfl rfl (fun _ => h) (fun _ => gn rfl rfl) ?_
  refine qv rfl rfl rfl rfl (fun _ => h) (fun _ => gn rfl rfl) ?_
  refine qv rfl rfl rfl rfl (fun _ => h) (fun _ => gn rfl rfl) ?_
  refine cpv rfl rfl rfl rfl h rfl (jt rfl rfl rfl) ?_; refine Y26 ?_; refine qv rfl rfl rfl rfl (fun _ => h) (fun _ => jq rfl rfl (j8 rfl)) (qv rfl rfl rfl rfl (fun _ => h) (fun _ => jq rfl rfl (j8 rfl)) ?_)
  refine qu rfl rfl rfl rfl h (fun _ h => jq rfl rfl (qm (l := p.C) rfl rfl (qp (h.b 0 rfl) rfl))) ?_
  refine Yo ?_; refine qv rfl rfl rfl rfl (fun _ => h) (fun _ => jq rfl rfl (ul rfl)) ?_
  refine qu rfl rfl rfl rfl h (fun _ h => jq rfl rfl (u3 (bs := x.1) rfl ((hxr.more [_, _]).at_ h))) ?_
  refine Yu ?_; refine Y2q ?_
  refine qh 11 rfl rfl rfl (je rfl rfl rfl) (qq rfl (ref27_Op hp h) ?_)
  clear h
  rintro _ w ⟨rfl, h⟩
  refine ⟨fun _ => h, ?_⟩
  rw [y1]
  refine qv rfl rfl rfl rfl (fun _ => h) (fun _ => jq rfl rfl (qa (v' := .bool false) (gd rfl rfl) (congrArg Value.bool (by rw [strB_same]; simp)))) ?_
  refine qv rfl rfl rfl rfl (fun _ => h) (fun _ => jq rfl rfl (j8 rfl)) ?_
  refine qu rfl rfl rfl rfl h (fun _ h => jq rfl rfl (qm (l := p.C) rfl rfl (qp (h.b 0 rfl) rfl))) ?_
  refine qu rfl rfl rfl rfl h (fun _ h => jq rfl rfl (qm (l := p.C) rfl rfl (qp (h.b 0 rfl) rfl))) ?_
  refine Y2q ?_
  refine qh 18 rfl rfl rfl (je rfl rfl rfl) (qq rfl (law27_only h) ?_)
  clear h
  rintro _ w ⟨rfl, h⟩
  refine ⟨fun _ => h, ?_⟩
  refine qv rfl rfl rfl rfl (fun _ => h) (fun _ => jq rfl rfl (qa (v' := .bool false) (yu (opL p) (opL p.only) rfl rfl rfl rfl) (congrArg Value.bool (by rw [<- y3]; simp)))) ?_
  refine qv rfl rfl rfl rfl (fun _ => h) (fun _ => jq rfl rfl (jt rfl rfl rfl)) (qv rfl rfl rfl rfl (fun _ => h) (fun _ => jq rfl rfl (ue rfl rfl rfl)) (cpv rfl rfl rfl rfl h rfl (jt rfl rfl rfl) ?_))
  exact qi (qn rfl (q6 ⟨(), zz3, h.drop⟩))
end
end
end Go.Proofs.YtdeaeboijmeefaaGreatDoor
