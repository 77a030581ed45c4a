/- What the proof of ReptForms needs, part 4: plain lemmas, and what each function does. -/
import Derived.Test.YtnnehiiblfmpnaaGreatDoorQReptFormsc
import Derived.Lib.AppendStr
import Derived.Lib.UnsafeStr
import Derived.LaidEql
import Derived.Lib.ConvBytes
import Derived.Lib.ParseIntBTie
import Derived.Lib.SplitLaws
import Derived.Test.YtnnehiiblfmpnaaGreatDoorRows
import Derived.ProofKit
import Derived.LaidMore
import Derived.OpenShut
import Derived.Stop.Joined
import Derived.Stop.LaidErr
import Derived.Shelf.Vars
import Derived.LaidSub
import Derived.SizedLaws
import Derived.Handed
import Derived.KernelRfl
set_option linter.unusedVariables false
set_option linter.unusedSimpArgs false
set_option linter.unnecessarySimpa false
namespace Go.Hw
open Go.Lib
theorem strCells_B (s : List UInt8) : strCells (strB s) = bytesV s := by
 show (s.toArray.toList.map fun b => Value.int .u8 b.toNat) = _
 simp [bytesV]
section
variable {P : Program} {w : World}
theorem run_append_growsZ {t u ty T : TypeId} {z : List Value} {agg : Bool} {bytes : Nat} (ht : P.underlying t = some (.slice T)) (hu : P.underlying u = some .string) (hi : Inf P T z agg bytes) (hz1 : z.length = 1) {a : Option Addr} {n c : Nat} {xs : List Value} {s : ByteArray}
  (hx : Rd w z.length a n xs) (hg : c < n + s.size) (hb : (n + s.size) * bytes ≤ 140737488355328) (h63 : n + s.size ≤ 9223372036854775807) :
  ∃ k, (Builtin.append_ #[t, u] ty #[.slice a n c, .string s]).run P w = .ok (.slice (some ⟨w.heap.size, 0, none⟩) (n + s.size) (n + s.size + k)) (w.drew.alloc (.cells (xs ++ strCells s ++ (Builtin.zeroCells z.toArray k).toList).toArray T)) := by
 obtain ⟨i, h1, h2, h3, h4⟩ := hi.get
 subst h4
 have hfx := (show Rd w.drew z.length a n xs from hx).first (P := P) c
 have hfy := run_firstCells_string (P := P) w.drew 1 s
 have hge : n + s.size ≤ grownCap w (n + s.size) c T := by simp [grownCap, Question.cut]
 have hfit := growslice_fits hg hb
 have hzc := hi.cells
 refine ⟨grownCap w (n + s.size) c T - (n + s.size), ?_⟩
 have e1 : n + s.size + (grownCap w (n + s.size) c T - (n + s.size)) = grownCap w (n + s.size) c T := by omega
 rw [e1]
 have hn1 : ¬ (n + s.size ≤ c) := by omega
 have hn2 : ¬ ((9223372036854775807 : Int) < (n : Int) + (s.size : Int)) := by omega
 have hn3 : ¬ (281474976710656 < Builtin.nextslicecap (n + s.size) c * i.bytes) := by omega
 rw [← h3] at hfx
 have h31 : i.size = 1 := by rw [h3]; exact hz1
 rw [← h31] at hfy
 generalize (if agg then Value.agg z.toArray else z.getD 0 undef) = zz at h2 hzc
 simp [Builtin.append_, run_underlying ht, run_underlying hu, sizeOf, typeInfo, zeroValue, h1, h2, Builtin.lenOf, hn1, hn2, hn3, Question.forced, newRow, hfx, hfy, grownCap, hzc]
 congr 2
 apply Array.ext'
 simp [List.append_assoc, strCells]
end
theorem St.appendZ {P : Program} {w0 w : World} {l : List HProp} {t u ty T : TypeId} {z : List Value} {agg : Bool} {bytes : Nat} {n c : Nat} {a : Option Addr} {xs : List Value} {s : ByteArray} (h : St w0 (Own T 1 a n c xs :: l) w)
  (ht : P.underlying t = some (.slice T)) (hu : P.underlying u = some .string) (hi : Inf P T z agg bytes) (hz1 : z.length = 1) (hb : (n + s.size) * bytes ≤ 140737488355328) (h63 : n + s.size ≤ 9223372036854775807) :
  ∃ a' c' w', (Builtin.append_ #[t, u] ty #[.slice a n c, .string s]).run P w = .ok (.slice a' (n + s.size) c') w' ∧ St w0 (Own T 1 a' (n + s.size) c' (xs ++ strCells s) :: l) w' := by
 obtain ⟨h2, h3, h4⟩ := h.own_cases
 have hx := h.own_rd
 have hsl := strCells_length s
 rw [Nat.mul_one] at h2
 by_cases hg : c < n + s.size
 ·obtain ⟨k, hr⟩ := run_append_growsZ (P := P) (ty := ty) (c := c) (s := s) ht hu hi hz1 (hz1 ▸ hx) hg hb h63
  refine ⟨_, _, _, hr, ?_⟩
  have h5 := (h.drop.drew).alloc (.cells (xs ++ strCells s ++ (Builtin.zeroCells z.toArray k).toList).toArray T)
  refine St.own_mk h5 (c := n + s.size + k) ?_ ?_ (Nat.le_add_right _ _)
  ·rw [List.length_append, List.length_append, zeroCells_len, h2, hsl]; simp [hz1]
  ·rw [List.append_assoc, ← List.append_assoc]
   exact List.take_left' (by rw [List.length_append, h2, hsl, Nat.mul_one])
 ·obtain ⟨i, hi1, hi2, hi3, hi4⟩ := hi.get
  have h31 : i.size = 1 := by rw [hi3]; exact hz1
  rcases h4 with ⟨rfl, rfl, rfl, h5⟩ | ⟨g, cur, rfl, h5, h6, h7⟩
  ·have hs0 : s.size = 0 := by omega
   have hxs : xs = [] := List.eq_nil_of_length_eq_zero h2
   have hys : strCells s = [] := List.eq_nil_of_length_eq_zero (by rw [hsl]; exact hs0)
   subst hxs
   have hfy := run_firstCells_string (P := P) w 1 s
   rw [hs0] at hfy ⊢
   rw [hys]
   refine ⟨none, 0, w, ?_, h5.ownNil T 1⟩
   simp [Builtin.append_, run_underlying ht, run_underlying hu, sizeOf, typeInfo, hi1, Builtin.lenOf, hs0, h31, hfy]
  ·rw [Nat.mul_one] at h5 h6
   have hr := run_append_room_string (P := P) w t u ty T i ht hu hi1 h31 g n c cur.toArray h7.hd.1 s (by omega) (by simp only [List.size_toArray]; omega)
   refine ⟨_, _, _, hr, ?_⟩
   simp only [List.toList_toArray] at hr ⊢
   have h8 : St w0 (pt g (.cells (cur.take n ++ strCells s ++ cur.drop (n + s.size)).toArray T (0, 0)) :: l) (w.setRow g (cur.take n ++ strCells s ++ cur.drop (n + s.size)).toArray) :=
    h7.put rfl rfl rfl (by simp) (fun k hk => setRow_other w g k _ hk) (setRow_heap w g _ _ T (0, 0) h7.hd.1)
   refine St.own_mk' h8 (c := c) ?_ ?_ (by omega)
   ·simp only [List.length_append, List.length_take, List.length_drop, hsl]; omega
   ·rw [h6]
    exact List.take_left' (by rw [List.length_append, h2, hsl, Nat.mul_one])
section
variable {P : Program} {e : Env} {w w0 : World} {l : List HProp} {K : Env → World → Prop} {ty : TypeId} {pos : String} {af : Array Edge} {g : Option (Nat × Bool)}
theorem x_appendZ {c : Nat} {t u T : TypeId} [ht : Und P t (.slice T)] [hu : Und P u .string] {z : List Value} {agg : Bool} {bytes : Nat} [hi : Inf P T z agg bytes] {x y : Operand} {a : Option Addr} {m c1 : Nat} {bs s : List UInt8}
  (h : St w0 (Own T 1 a m c1 (bytesV bs) :: l) w) (hm : m = bs.length) (hx : ev e x = .slice a m c1) (hy : ev e y = .string (strB s)) (hz1 : Nat.beq z.length 1 = true) (hb : (bs.length + s.length) * bytes ≤ 140737488355328) (h63 : bs.length + s.length ≤ 9223372036854775807)
  (k : ∀ a' c' w', St w0 (Own T 1 a' (bs ++ s).length c' (bytesV (bs ++ s)) :: l) w' → K (upd e c (.slice a' (bs ++ s).length c')) w') :
  Ex P ⟨some c, .call ⟨.builtin .append, [x, y].toArray, [t, u].toArray⟩, ty, pos, af, g⟩ e w K := by
 subst hm
 obtain ⟨a', c', w', hrun, hst⟩ := h.appendZ (s := strB s) (ty := ty) ht.h hu.h hi (Nat.eq_of_beq_eq_true hz1) (by rw [strB_size]; exact hb) (by rw [strB_size]; exact h63)
 rw [strB_size, strCells_B] at hst
 rw [strB_size] at hrun
 have e1 : (bs ++ s).length = bs.length + s.length := List.length_append
 have e2 : bytesV (bs ++ s) = bytesV bs ++ bytesV s := by simp [bytesV]
 refine x_w (v := .slice a' (bs ++ s).length c') (w' := w') ?_ (k _ _ _ (by rw [e1, e2]; exact hst))
 rw [e1]
 simp [execOp, resolve, hx, hy, invoke, builtin, hrun]
end
end Go.Hw

namespace Go.Hw
open Go.Lib
theorem St.freezes {w0 w : World} {l : List HProp} {g n o : Nat} {cs : Array Value} {T : TypeId} {fr : Nat × Nat} (h : St w0 (pt g (.cells cs T fr) :: l) w) (hn : n ≠ 0) : ∃ o', St w0 (pt g o' :: l) (w.freeze ⟨g, o, none⟩ n) := by
 have hb := h.hd.1
 have e1 : ∀ k, k ≠ g → (w.freeze ⟨g, o, none⟩ n).heap[k]? = w.heap[k]? := fun k hk => by
  simp only [World.freeze]
  rw [if_neg hn]
  simp only [Array.getElem?_modify]
  rw [if_neg (by omega)]
 obtain ⟨o', e2⟩ : ∃ o', (w.freeze ⟨g, o, none⟩ n).heap[g]? = some o' := by
  simp only [World.freeze]
  rw [if_neg hn]
  simp only [Array.getElem?_modify, if_true, hb, Option.map_some]
  exact ⟨_, rfl⟩
 have e3 : (w.freeze ⟨g, o, none⟩ n).os = w.os ∧ (w.freeze ⟨g, o, none⟩ n).tape = w.tape ∧ (w.freeze ⟨g, o, none⟩ n).output = w.output ∧ w.heap.size = (w.freeze ⟨g, o, none⟩ n).heap.size := by
  simp only [World.freeze]
  rw [if_neg hn]
  simp
 exact ⟨o', h.put e3.1 e3.2.1 e3.2.2.1 e3.2.2.2 e1 e2⟩
section
variable {P : Program} {e : Env} {w : World} {d : Option Nat} {ty : TypeId} {pos : String} {af : Array Edge} {g : Option (Nat × Bool)}
theorem q_toU {s t T : TypeId} [hs : Und P s (.pointer T)] (hd : P.underlying t = some .unsafePointer) {z : List Value} {agg : Bool} {bytes : Nat} [hi : Inf P T z agg bytes] (hz : Nat.blt 0 z.length = true) {x : Operand} {b : Nat} {cs : Array Value} {T' : TypeId} {fr : Nat × Nat}
  (hx : ev e x = .pointer (some ⟨b, 0, none⟩)) (hb : w.heap[b]? = some (.cells cs T' fr)) (hp : Nat.blt 0 cs.size = true) : Qv P e ⟨d, .convert s t x, ty, pos, af, g⟩ w (.pointer (some ⟨b, 0, none⟩)) := by
 unfold Qv
 obtain ⟨i, h1, h2, h3, h4⟩ := hi.get
 have hz' : 0 < z.length := by simpa [Nat.blt_eq] using hz
 have hp' : 0 < cs.size := by simpa [Nat.blt_eq] using hp
 have key := Lib.run_to_unsafe (P := P) w (cells := cs.size) (e := T') ⟨b, 0, none⟩ hs.h hd h1 (by omega) (by simp [World.shape?, hb]) hp'
 simp only [execOp, hx, Sem.run_bind, key, Result.andThen_ok]; rfl
theorem q_fromU {s t T : TypeId} (hs : P.underlying s = some .unsafePointer) [hd : Und P t (.pointer T)] {z : List Value} {agg : Bool} {bytes : Nat} [hi : Inf P T z agg bytes] {x : Operand} {b : Nat} {cs : Array Value} {T' : TypeId} {fr : Nat × Nat}
  (hx : ev e x = .pointer (some ⟨b, 0, none⟩)) (hb : w.heap[b]? = some (.cells cs T' fr)) (hl : liesAt P P.depth T' (cs.size / P.cellsOf T') 0 T 1 = true) : Qv P e ⟨d, .convert s t x, ty, pos, af, g⟩ w (.pointer (some ⟨b, 0, none⟩)) := by
 unfold Qv
 obtain ⟨i, h1, h2, h3, h4⟩ := hi.get
 have key := Lib.run_from_unsafe (P := P) w (cells := cs.size) (e := T') ⟨b, 0, none⟩ hs hd.h h1 (by simp [World.shape?, hb]) hl
 simp only [execOp, hx, Sem.run_bind, key, Result.andThen_ok]; rfl
theorem q_pne {t t2 el : TypeId} [hu : Und P t (.pointer el)] {z : List Value} {agg : Bool} {bytes : Nat} [hi : Inf P el z agg bytes] {x y : Operand} {a : Addr} (hx : ev e x = .pointer (some a)) (hy : ev e y = .pointer (some a)) :
  Qv P e ⟨d, .binOp .neq t x y t2, ty, pos, af, g⟩ w (.bool (!true)) := by
 obtain ⟨i, h1, h2, h3, h4⟩ := hi.get
 exact q_ne_of hx hy (fun k => by simp [Op.equalIn, run_underlying hu.h, sizeOf, typeInfo, h1, run_sameAddr_same]) rfl (fun _ _ => rfl)
theorem q_usd {t : TypeId} {x : Operand} {a : Addr} {n c : Nat} (hx : ev e x = .slice (some a) n c) (hc : c ≠ 0) : Qv P e ⟨d, .call ⟨.builtin .unsafeSliceData, [x].toArray, [t].toArray⟩, ty, pos, af, g⟩ w (.pointer (some a)) := by
 unfold Qv
 have key := Lib.run_unsafeSliceData_row (P := P) (w := w) [t].toArray ty a n c hc
 simp [execOp, resolve, hx, invoke, builtin, key]
theorem x_ustr {K : Env → World → Prop} {k : Nat} {t u T : TypeId} [ht : Und P t (.pointer T)] {x y : Operand} {b : Nat} {cs : Array Value} {fr : Nat × Nat} {bs : List UInt8} (hb : w.heap[b]? = some (.cells cs T fr)) (hx : ev e x = .pointer (some ⟨b, 0, none⟩)) (hy : ev e y = .int .i64 bs.length) (hne : bs ≠ [])
  (h1 : P.cellsOf T = 1) (hn : bs.length ≤ cs.size) (h63 : bs.length ≤ 9223372036854775807) (hc : ∀ (j : Nat) (x : UInt8), bs[j]? = some x → cs[j]? = some (Value.int .u8 x.toNat)) (h : K (upd e k (.string (strB bs))) (w.freeze ⟨b, 0, none⟩ bs.length)) :
  Ex P ⟨some k, .call ⟨.builtin .unsafeString, [x, y].toArray, [t, u].toArray⟩, ty, pos, af, g⟩ e w K := by
 have key := Lib.run_unsafeString_row (P := P) (w := w) t u ty T ht.h h1 b cs.size (by simp [World.shape?, hb]) bs hne hn h63 (fun j x hj => by
  have := hc j x hj
  have e1 : ((⟨b, 0, none⟩ : Addr).add j).block = b ∧ ((⟨b, 0, none⟩ : Addr).add j).off = j ∧ ((⟨b, 0, none⟩ : Addr).add j).spot = none := by
   simp only [Addr.add]
   split <;> simp_all
  simp [World.cell?, e1, hb, this])
 refine x_w (v := .string (strB bs)) (w' := w.freeze ⟨b, 0, none⟩ bs.length) ?_ h
 simp [execOp, resolve, hx, hy, invoke, builtin, key, strB]
end
end Go.Hw
namespace Go.Proofs.YtnnehiiblfmpnaaGreatDoor
open Go.Hw Go.Lib
set_option maxHeartbeats 4000000
set_option maxRecDepth 100000
abbrev BldPt (b : Nat) (ad a : Option Addr) (m c : Nat) : HProp := pt b (.cells [.pointer ad, .slice a m c].toArray 91 (0, 0))
section
variable {w0 w : World} {l : List HProp}
theorem bld_copyCheck {b : Nat} {ad a : Option Addr} {m c : Nat} (had : ad = none ∨ ad = some ⟨b, 0, none⟩) (h : St w0 (BldPt b ad a m c :: l) w) :
  Ret Tryz.prog 84 [.pointer (some ⟨b, 0, none⟩)] w fun _ w' => St w0 (BldPt b (some ⟨b, 0, none⟩) a m c :: l) w' := by
 refine enter Tryz.func84 rfl Tryz.results84 Tryz.ntmps84 rfl ?_
 refine c_seq (c_region ?_)
 refine r_v (q_moveP rfl) rfl ?_; refine r_v (q_nil rfl) rfl ?_; refine r_v (q_fa rfl) rfl ?_
 refine r_v (q_load (v := .pointer ad) rfl (h.b 0 rfl) rfl) rfl ?_
 refine r_v (q_eqnil rfl rfl) rfl ?_
 refine r_nil ?_
 rcases had with rfl | rfl
 ·refine c_true rfl ?_
  refine c_region ?_
  refine r_v (q_moveP rfl) rfl ?_; refine r_v (q_moveP rfl) rfl ?_
  refine r_v (q_toU Tryz.underlying237 rfl rfl (h.b 0 rfl) rfl) rfl ?_
  refine r_v (q_extern (v := .pointer (some ⟨b, 0, none⟩)) Tryz.func125 (by kernel_rfl) (by kernel_rfl) (by kernel_rfl) (E := Extern.AbiNoEscape.same) (by kernel_rfl) rfl rfl) rfl ?_
  refine r_v (q_fromU Tryz.underlying237 rfl (h.b 0 rfl) (by kernel_rfl)) rfl ?_
  refine r_v (q_nil rfl) rfl ?_; refine r_v (q_fa rfl) rfl ?_
  refine r_c rfl (x_store 0 h rfl (show _ = Value.pointer (some ⟨b, 0, none⟩) from rfl) rfl rfl rfl rfl fun w h => ?_)
  exact r_nil (bq0n h)
 ·refine c_false rfl ?_
  refine c_seq (c_region ?_)
  refine r_v (q_moveP rfl) rfl ?_; refine r_v (q_nil rfl) rfl ?_; refine r_v (q_fa rfl) rfl ?_
  refine r_v (q_load (v := .pointer (some ⟨b, 0, none⟩)) rfl (h.b 0 rfl) rfl) rfl ?_
  refine r_v (q_moveP rfl) rfl ?_
  refine r_v (q_pne rfl rfl) rfl ?_
  exact r_nil (c_false rfl (c_skip (bq0n h)))
theorem bld_WriteString {b : Nat} {ad a : Option Addr} {c : Nat} {bs s : List UInt8} (had : ad = none ∨ ad = some ⟨b, 0, none⟩) (hlen : bs.length + s.length ≤ 140737488355328) (h : St w0 (BldPt b ad a bs.length c :: OwnB a c bs :: l) w) :
  Ret Tryz.prog 42 [.pointer (some ⟨b, 0, none⟩), .string (strB s)] w fun v w' => ∃ a' c', St w0 (BldPt b (some ⟨b, 0, none⟩) a' (bs ++ s).length c' :: OwnB a' c' (bs ++ s) :: l) w' := by
 refine enter Tryz.func42 rfl Tryz.results42 Tryz.ntmps42 rfl ?_
 refine c_seq (c_region ?_)
 refine r_v (q_assignI rfl) rfl ?_
 refine r_v (q_assignN rfl) rfl ?_
 refine r_nil ?_
 refine c_seq (c_region ?_)
 refine r_v (q_moveP rfl) rfl ?_
 refine r_c rfl (x_call rfl (bld_copyCheck had h) ?_)
 clear h
 rintro _ w h
 refine r_nil ?_
 refine c_seq (c_region ?_)
 refine r_v (q_moveP rfl) rfl ?_; refine r_v (q_moveP rfl) rfl ?_; refine r_v (q_nil rfl) rfl ?_; refine r_v (q_fa rfl) rfl ?_
 refine r_v (q_load (v := .slice a bs.length c) rfl (h.b 0 rfl) rfl) rfl ?_
 refine r_v (q_moveZ rfl) rfl ?_
 refine r_c rfl (x_appendZ (s := s) (h.f 1) rfl rfl rfl rfl (by omega) (by omega) fun a2 c2 w h => ?_)
 refine r_v (q_nil rfl) rfl ?_; refine r_v (q_fa rfl) rfl ?_
 refine r_c rfl (x_store 1 h rfl (show _ = Value.slice a2 (bs ++ s).length c2 from rfl) rfl rfl rfl rfl fun w h => ?_)
 refine r_nil ?_
 refine c_seq (c_region ?_)
 refine r_v (q_moveZ rfl) rfl ?_; refine r_v (q_lenstr rfl) rfl ?_; refine r_v (q_assignI rfl) rfl ?_
 refine r_v (q_assignN rfl) rfl ?_
 exact r_nil (c_ret (bq2 ⟨a2, c2, h.f 1⟩))
theorem bld_String {b : Nat} {ad a : Option Addr} {c : Nat} {bs : List UInt8} (hne : bs ≠ []) (hlen : bs.length ≤ 140737488355328) (h : St w0 (BldPt b ad a bs.length c :: OwnB a c bs :: l) w) :
  Ret Tryz.prog 45 [.pointer (some ⟨b, 0, none⟩)] w fun v w' => v = .string (strB bs) ∧ St w0 l w' := by
 have hpos := List.length_pos_iff.2 hne
 obtain ⟨h1, h2, ⟨_, _, h3, _⟩ | ⟨g, cur, rfl, h5, h6, h7⟩⟩ := (h.f 1).own_cases
 ·omega
 rw [Nat.mul_one] at h5 h6
 refine enter Tryz.func45 rfl Tryz.results45 Tryz.ntmps45 rfl ?_
 refine c_seq (c_region ?_)
 refine r_v (q_assignZ rfl) rfl ?_
 refine r_nil ?_
 have h := (h7.f 1).drew
 have hφ : ∃ o', St w0 (BldPt b ad (some ⟨g, 0, none⟩) bs.length c :: pt g o' :: l) w.drew := ⟨_, h⟩
 refine c_seq (c_anyW [0, 1, 2, 3, 4, 5, 6, 7, 8, 9, 10, 11] none (fun w => ∃ o', St w0 (BldPt b ad (some ⟨g, 0, none⟩) bs.length c :: pt g o' :: l) w) (by kernel_rfl) (by kernel_rfl) ?_)
 refine cur_pure rfl rfl rfl rfl (fun _ => hφ) (fun _ => flt_v rfl (q_moveP rfl)) ?_
 refine cur_pure rfl rfl rfl rfl (fun _ => hφ) (fun _ => flt_v rfl (q_nil rfl)) ?_
 refine cur_pure rfl rfl rfl rfl (fun _ => hφ) (fun _ => flt_v rfl (q_fa rfl)) ?_
 refine cur_float rfl rfl rfl rfl hφ (fun _ h => h.elim fun _ h => flt_v rfl (q_load (v := .slice (some ⟨g, 0, none⟩) bs.length c) rfl (h.b 0 rfl) rfl)) ?_
 refine cur_pure rfl rfl rfl rfl (fun _ => hφ) (fun _ => flt_v rfl (q_usd rfl (by omega))) ?_
 refine cur_pure rfl rfl rfl rfl (fun _ => hφ) (fun _ => flt_v rfl (q_moveP rfl)) ?_
 refine cur_pure rfl rfl rfl rfl (fun _ => hφ) (fun _ => flt_v rfl (q_nil rfl)) ?_
 refine cur_pure rfl rfl rfl rfl (fun _ => hφ) (fun _ => flt_v rfl (q_fa rfl)) ?_
 refine cur_float rfl rfl rfl rfl hφ (fun _ h => h.elim fun _ h => flt_v rfl (q_load (v := .slice (some ⟨g, 0, none⟩) bs.length c) rfl (h.b 0 rfl) rfl)) ?_
 refine cur_pure rfl rfl rfl rfl (fun _ => hφ) (fun _ => flt_v rfl (q_len rfl)) ?_
 refine cur_skip ?_
 refine cur_skip ?_
 have hc : ∀ (j : Nat) (x : UInt8), bs[j]? = some x → cur.toArray[j]? = some (Value.int .u8 x.toNat) := fun j x hj => by
  have hj2 : j < bs.length := (List.getElem?_eq_some_iff.1 hj).1
  have e1 : (bytesV bs)[j]? = some (Value.int .u8 x.toNat) := by simp [bytesV, hj]
  rw [← h6, List.getElem?_take_of_lt hj2] at e1
  simpa using e1
 obtain ⟨o', h'⟩ := (h.f 1).freezes (n := bs.length) (by omega)
 have hφ' := h'.f 1
 refine cur_one 10 rfl rfl rfl rfl (x_ustr (bs := bs) (h.f 1).hd.1 rfl rfl hne rfl (by simpa using Nat.le_trans h2 h5) (by omega) hc ⟨fun _ => ⟨o', hφ'⟩, ?_⟩)
 refine cur_pure rfl rfl rfl rfl (fun _ => ⟨o', hφ'⟩) (fun _ => flt_v rfl (q_assignZ rfl)) ?_
 exact cur_end (c_ret (bq1 ⟨rfl, hφ'.drop.drop⟩))
end
end Go.Proofs.YtnnehiiblfmpnaaGreatDoor

namespace Go.Hw
open Go.Lib
theorem St.bytes {w0 w : World} {l : List HProp} (h : St w0 l w) (e : TypeId) (s : ByteArray) : ∃ fr, St w0 (pt w.heap.size (.cells (bytesCells w e s) e fr) :: l) (bytesWorld w e s) := by
 have h1 := h.drew.alloc (.cells (bytesCells w e s) e (0, 0))
 obtain ⟨o', h2⟩ := h1.freezes (o := (bytesCells w e s).size) (n := 1) (by decide)
 have h3 := bytesWorld_at_new w e s
 have h4 := h2.hd.1
 have e1 : (w.drew.alloc (.cells (bytesCells w e s) e)).freeze ⟨w.heap.size, (bytesCells w e s).size, none⟩ 1 = bytesWorld w e s := rfl
 have e2 : w.drew.heap.size = w.heap.size := rfl
 rw [e2, e1] at h2 h4
 rw [h3] at h4
 obtain rfl := Option.some.inj h4
 exact ⟨_, h2⟩
section
variable {P : Program} {e : Env} {w w0 : World} {l : List HProp} {K : Env → World → Prop} {d : Option Nat} {ty : TypeId} {pos : String} {af : Array Edge} {g : Option (Nat × Bool)}
theorem x_ztob {c : Nat} {s t T : TypeId} [hs : Und P s .string] [ht : Und P t (.slice T)] [hT : Und P T (.int .u8)] {x : Operand} {l0 : List UInt8} (h : St w0 l w) (hx : ev e x = .string (strB l0))
  (k : ∀ (b cc : Nat) (cs : List Value) (fr : Nat × Nat) (w' : World), l0.length ≤ cc → (∀ (j : Nat) (c : UInt8), l0[j]? = some c → cs[j]? = some (Value.int .u8 c.toNat)) → St w0 (pt b (.cells cs.toArray T fr) :: l) w' → K (upd e c (.slice (some ⟨b, 0, none⟩) l0.length cc)) w') :
  Ex P ⟨some c, .convert s t x, ty, pos, af, g⟩ e w K := by
 have key := Lib.run_convert_string_bytes (P := P) w s t T (strB l0) hs.h ht.h hT.h
 rw [strB_size] at key
 obtain ⟨fr, h1⟩ := h.bytes T (strB l0)
 refine x_w (v := .slice (some ⟨w.heap.size, 0, none⟩) l0.length (grownCap w l0.length 0 T)) (w' := bytesWorld w T (strB l0)) ?_ (k _ _ (bytesCells w T (strB l0)).toList fr _ ?_ ?_ (by rw [Array.toArray_toList]; exact h1))
 ·simp only [execOp, hx, Sem.run_bind, key, Result.andThen_ok]; rfl
 ·simp [grownCap, Question.cut]
 ·intro j c hj
  have hj2 := (List.getElem?_eq_some_iff.1 hj).1
  have e3 : (strB l0).data.toList = l0 := by simp [strB]
  rw [Array.getElem?_toList, bytesCells, Array.getElem?_append]
  have : j < ((strB l0).data.map fun b => Value.int .u8 b.toNat).size := by rw [Array.size_map]; show j < l0.toArray.size; simpa using hj2
  rw [if_pos this, Array.getElem?_map]
  have e4 : (strB l0).data[j]? = some c := by show l0.toArray[j]? = some c; simpa using hj
  rw [e4]; rfl
theorem q_neni {t t2 : TypeId} (hu : ∃ m, P.underlying t = some (.interface m)) {x : Operand} {v : Value} (hx : ev e x = v) (hv : v = .nilIface ∨ ∃ a b, v = .iface a b) :
  Qv P e ⟨d, .binOp .neq t x (.const .nilIface) t2, ty, pos, af, g⟩ w (.bool (match v with | .nilIface => false | _ => true)) := by
 obtain ⟨m, hu⟩ := hu
 rcases hv with rfl | ⟨a, b, rfl⟩
 ·have h : ∀ k, (Op.equalIn (k + 1) t .nilIface .nilIface).run P w = .ok true w := fun k => by unfold Op.equalIn; rw [Sem.run_bind, run_underlying hu]; rfl
  have h2 := run_equal h
  have hb : binOp .neq t .nilIface .nilIface = (do pure (.bool (!(← Op.equal t .nilIface .nilIface)))) := rfl
  have hy : ev e (.const .nilIface) = .nilIface := rfl
  unfold Qv
  simp [execOp, hx, hy, eqGuard, hb, h2]
 ·exact q_ne_of (b := false) hx (show ev e (.const .nilIface) = .nilIface from rfl) (fun k => by unfold Op.equalIn; rw [Sem.run_bind, run_underlying hu]; rfl) rfl (fun _ _ => rfl)
theorem q_moveE {x : Operand} {v : Value} (hx : ev e x = v) (hv : v = .nilIface ∨ ∃ a b, v = .iface a b) : Qv P e ⟨d, .move x, ty, pos, af, g⟩ w v := by
 rcases hv with rfl | ⟨a, b, rfl⟩ <;> (unfold Qv; simp [execOp, hx])
theorem q_assignE {x : Operand} {v : Value} (hx : ev e x = v) (hv : v = .nilIface ∨ ∃ a b, v = .iface a b) : Qv P e ⟨d, .assign x, ty, pos, af, g⟩ w v := by
 rcases hv with rfl | ⟨a, b, rfl⟩ <;> (unfold Qv; simp [execOp, hx])
theorem q_mki {t : TypeId} {k : IntKind} [hu : Und P t (.int k)] {x : Operand} {v : Value} (hx : ev e x = v) : Qv P e ⟨d, .makeInterface t x, ty, pos, af, g⟩ w (.iface t v) := by
 unfold Qv
 simp [execOp, hx, Instr.makeInterface, run_underlying hu.h]
end
end Go.Hw
namespace Go.Proofs.YtnnehiiblfmpnaaGreatDoor
open Go.Hw Go.Lib
set_option maxHeartbeats 4000000
set_option maxRecDepth 100000
def ErrOk (v : Value) : Prop := v = .nilIface ∨ v = .iface 286 (.int .i64 2) ∨ v = .iface 286 (.int .i64 1)
theorem ErrOk.any {v : Value} (h : ErrOk v) : v = .nilIface ∨ ∃ a b, v = .iface a b := by
 rcases h with rfl | rfl | rfl
 ·exact .inl rfl
 ·exact .inr ⟨_, _, rfl⟩
 ·exact .inr ⟨_, _, rfl⟩
instance undErr : Und Tryz.prog 286 (.int .i64) := ⟨Tryz.underlying286⟩
theorem err_iface : ∃ m, Tryz.prog.underlying 93 = some (.interface m) := ⟨_, Tryz.underlying93⟩
structure Rn1 (W : World) : Prop where
 sx : 2 < W.heap.size ∧ ∃ ev, W.cell? ⟨2, 0, none⟩ = some ev ∧ (ev = .nilIface ∨ ∃ te pe, ev = .iface te pe)
 rg : 3 < W.heap.size ∧ ∃ ev, W.cell? ⟨3, 0, none⟩ = some ev ∧ (ev = .nilIface ∨ ∃ te pe, ev = .iface te pe)
theorem St.under {w0 w w' : World} {l : List HProp} (h : St w0 l w) (hb : RowKit.Below w.heap.size w w') : St w0 l w' :=
 h.grow hb.os hb.tape hb.output hb.size (fun k hk => hb.block k hk)
section
variable {w0 w : World} {l : List HProp}
theorem sc_toError (hE : Rn1 w0) {fn s : List UInt8} {base bits : Int} {ev : Value} (hs : s.length ≤ 281474976710656) (hev : ErrOk ev) (hne : ev ≠ .nilIface) (h : St w0 l w) :
  Ret Tryz.prog 132 [.string (strB fn), .string (strB s), .int .i64 base, .int .i64 bits, ev] w fun v w' => (v = .nilIface ∨ ∃ a b, v = .iface a b) ∧ St w0 l w' := by
 rcases hev with rfl | rfl | rfl
 ·exact absurd rfl hne
 ·obtain ⟨hlt, x, h1, h2⟩ := hE.sx
  exact Ret.of (Tryz.strconv_toError_syntax (strB fn) (strB s) base bits x w (by rw [strB_size]; exact hs) ((h.cell_old hlt).trans h1) h2) fun e w' ⟨N, e1, _, _, e4⟩ => ⟨_, e1, .inr ⟨_, _, rfl⟩, St.under h e4⟩
 ·obtain ⟨hlt, x, h1, h2⟩ := hE.rg
  exact Ret.of (Tryz.strconv_toError_range (strB fn) (strB s) base bits x w (by rw [strB_size]; exact hs) ((h.cell_old hlt).trans h1) h2) fun e w' ⟨N, e1, _, _, e4⟩ => ⟨_, e1, .inr ⟨_, _, rfl⟩, St.under h e4⟩
end
end Go.Proofs.YtnnehiiblfmpnaaGreatDoor

namespace Go.Hw
open Go.Lib
def Hx (s : List UInt8) (k n : Nat) : Prop := ∀ u, u < 18446744073709551616 → s = hexS u → n = hexN 0 (s.take k)
theorem hexDig_of {u : Nat} {k : Nat} {c : UInt8} (h : (hexS u)[k]? = some c) : ∃ d, d < 16 ∧ c = hexDig d := hexS_mem u c (List.mem_of_getElem? h)
theorem Hx.step {s : List UInt8} {k n d : Nat} {c : UInt8} (h : Hx s k n) (hc : s[k]? = some c) (hd : ∀ d', d' < 16 → c = hexDig d' → d = d') : Hx s (k + 1) (n * 16 + d) := by
 intro u hu hs
 obtain ⟨d', h1, h2⟩ := hexDig_of (hs ▸ hc)
 rw [List.take_add_one, hc, hexN_append, ← h u hu hs, hd d' h1 h2]
 show n * 16 + d' = n * 16 + hexV c
 rw [h2, hexV_dig h1]
theorem Hx.small {s : List UInt8} {k n : Nat} {c : UInt8} (h : Hx s k n) (hc : s[k]? = some c) {u : Nat} (hu : u < 18446744073709551616) (hs : s = hexS u) : n < 1152921504606846976 := by
 have h1 := h u hu hs
 have h2 : hexN 0 s = u := by rw [hs]; exact hexN_S u
 have h3 : s = s.take k ++ c :: s.drop (k + 1) := by
  have hk := (List.getElem?_eq_some_iff.1 hc).1
  have e := (List.getElem?_eq_some_iff.1 hc).2
  have e2 := List.drop_eq_getElem_cons hk
  rw [e] at e2
  rw [← e2, List.take_append_drop]
 rw [h3, hexN_append, ← h1] at h2
 have h4 := hexN_le (s.drop (k + 1)) (n * 16 + hexV c)
 have h5 : hexN n (c :: s.drop (k + 1)) = hexN (n * 16 + hexV c) (s.drop (k + 1)) := rfl
 omega
theorem lowV : ∀ d, d < 16 → 10 ≤ d → ((hexDig d).toNat ||| 32) = 87 + d ∧ (hexDig d).toNat = 87 + d := by decide
theorem digV : ∀ d, d < 10 → (hexDig d).toNat = 48 + d := by decide
theorem or_lt {a : Nat} (h : a < 256) : a ||| 32 < 256 := Nat.or_lt_two_pow (n := 8) h (by decide)
end Go.Hw
namespace Go.Proofs.YtnnehiiblfmpnaaGreatDoor
open Go.Hw Go.Lib
set_option maxHeartbeats 4000000
set_option maxRecDepth 100000
section
variable {w0 w : World} {l : List HProp}
theorem sc_lower {c : Nat} (hc : c < 256) (h : St w0 l w) : Ret Tryz.prog 182 [.int .u8 c] w fun v w' => v = .int .u8 ((c ||| 32 : Nat) : Int) ∧ St w0 l w' := by
 refine enter Tryz.func182 rfl Tryz.results182 Tryz.ntmps182 rfl ?_
 refine c_seq (c_region ?_)
 refine r_v (q_assignI rfl) rfl ?_
 refine r_nil ?_
 refine c_seq (c_region ?_)
 refine r_v (q_moveI rfl) rfl ?_; refine r_v (q_or rfl rfl) rfl ?_
 refine r_is (.int .u8 ((c ||| 32 : Nat) : Int)) (by rw [show bitOp .or .u8 (c : Int) 32 = ((c ||| 32 : Nat) : Int) from (bit_u8 hc (by decide)).2.1]) ?_
 refine r_v (q_assignI rfl) rfl ?_
 exact r_nil (c_ret (bq1 ⟨rfl, h⟩))
abbrev Reads16 (w0 : World) (l : List HProp) (s : List UInt8) (v : Value) (w' : World) : Prop := ∃ (x : Nat) (ev : Value), v = .tuple [.int .u64 x, ev].toArray ∧ x < 18446744073709551616 ∧ ErrOk ev ∧ (∀ u, u < 18446744073709551616 → s = hexS u → x = u) ∧ St w0 l w'
theorem sc_ParseUint16 {s : List UInt8} (hn : s.length ≤ 281474976710656) (h : St w0 l w) :
  Ret Tryz.prog 133 [.string (strB s), .int .i64 16, .int .i64 64] w (Reads16 w0 l s) := by
 refine enter Tryz.func133 rfl Tryz.results133 Tryz.ntmps133 rfl ?_
 refine c_seq (c_region ?_)
 refine r_v (q_assignI rfl) rfl ?_
 refine r_v (q_assignN rfl) rfl ?_
 refine r_nil ?_
 refine c_seq (c_seq (c_region ?_))
 refine r_v (q_moveZ rfl) rfl ?_; refine r_v (q_streq rfl rfl) rfl ?_
 refine r_is (.bool (decide (s = []))) (congrArg Value.bool (strB_same s [])) ?_
 by_cases hs : s = []
 ·refine r_is (.bool true) (congrArg Value.bool (decide_eq_true hs)) ?_
  refine r_nil (c_true rfl ?_)
  refine c_seq (c_region ?_)
  refine r_v (q_mki rfl) rfl ?_
  refine r_v (q_assignI rfl) rfl ?_
  refine r_v (q_assignE rfl (.inr ⟨_, _, rfl⟩)) rfl ?_
  exact r_nil (c_ret (bq2 ⟨0, _, rfl, by decide, .inr (.inl rfl), fun u _ hu => absurd (hu.symm.trans hs) (hexS_ne u), h⟩))
 refine r_is (.bool false) (congrArg Value.bool (decide_eq_false hs)) ?_
 refine r_nil (c_false rfl (c_skip ?_))
 refine c_seq (c_region ?_)
 refine r_v (q_moveI rfl) rfl ?_; refine r_v (q_eql rfl rfl) rfl ?_; refine r_v (q_assignB rfl) rfl ?_
 refine r_nil ?_
 refine c_seq (c_region ?_)
 refine r_v (q_moveZ rfl) rfl ?_; refine r_v (q_assignZ rfl) rfl ?_
 refine r_nil ?_
 refine c_seq (c_block ?_)
 refine c_seq (c_region ?_)
 refine r_v (q_moveI rfl) rfl ?_; refine r_v (q_leq rfl rfl) rfl ?_; refine r_v (q_moveB rfl) rfl ?_; refine r_gd rfl rfl ?_; refine r_v (q_moveI rfl) rfl ?_; refine r_gd rfl rfl ?_; refine r_v (q_leq rfl rfl) rfl ?_; refine r_v (q_pick1 rfl rfl rfl) rfl ?_; refine r_v (q_assignB rfl) rfl ?_
 refine r_nil (c_true rfl (c_skip ?_))
 refine c_seq (c_seq (c_region ?_))
 refine r_v (q_moveI rfl) rfl ?_; refine r_v (q_eql rfl rfl) rfl ?_
 refine r_nil (c_false rfl ?_)
 refine c_seq (c_region ?_)
 refine r_v (q_moveI rfl) rfl ?_; refine r_v (q_lss rfl rfl) rfl ?_; refine r_v (q_moveB rfl) rfl ?_; refine r_gd rfl rfl ?_; refine r_v (q_moveI rfl) rfl ?_; refine r_gd rfl rfl ?_; refine r_v (q_gtr rfl rfl) rfl ?_; refine r_v (q_pick0 rfl rfl rfl) rfl ?_
 refine r_nil (c_false rfl (c_skip ?_))
 refine c_seq (c_region ?_)
 refine r_v (q_assignI rfl) rfl ?_
 refine r_nil ?_
 refine c_seq (c_seq (c_region ?_))
 refine r_v (q_moveI rfl) rfl ?_
 refine r_nil ?_
 refine c_block ?_
 refine c_seq (c_region ?_)
 refine r_v (q_eql rfl rfl) rfl ?_; refine r_v (q_assignB rfl) rfl ?_
 refine r_nil (c_false rfl ?_)
 refine c_seq (c_region ?_)
 refine r_v (q_eql rfl rfl) rfl ?_; refine r_v (q_assignB rfl) rfl ?_
 refine r_nil (c_true rfl ?_)
 refine c_region ?_
 refine r_v (q_assignI rfl) rfl ?_
 refine r_nil ?_
 refine c_seq (c_region ?_)
 refine r_v (q_moveI rfl) rfl ?_; refine r_v (q_conv rfl) rfl ?_
 refine r_v (q_is (v' := .int .u64 0) (q_shl rfl rfl (by decide)) rfl) rfl ?_
 refine r_v (q_sub rfl rfl) rfl ?_
 refine r_is (.int .u64 18446744073709551615) rfl ?_
 refine r_v (q_assignI rfl) rfl ?_
 refine r_nil ?_
 refine c_seq (c_region ?_)
 refine r_v (q_assignB rfl) rfl ?_
 refine r_nil ?_
 refine c_seq (c_region ?_)
 refine r_v (q_assignI rfl) rfl ?_
 refine r_nil ?_
 refine c_seq (c_seq (c_region ?_))
 refine r_v (q_moveZ rfl) rfl ?_
 refine r_c rfl (x_ztob h rfl fun b cc cs fr w hcc hcs h => ?_)
 refine r_v (q_len rfl) rfl ?_; refine r_v (q_moveI rfl) rfl ?_
 refine r_nil ?_
 refine c_block ?_
 refine c_loop (Γ := Nat × Nat) (fun k => [(1, .int .i64 16), (8, .bool false), (9, .string (strB s)), (10, .int .u64 1152921504606846976), (11, .int .u64 18446744073709551615), (12, .bool false), (13, .int .u64 k.2), (99, .slice (some ⟨b, 0, none⟩) s.length cc), (100, .int .i64 s.length), (101, .int .i64 k.1)])
  (fun k w => k.1 ≤ s.length ∧ k.2 < 18446744073709551616 ∧ Hx s k.1 k.2 ∧ St w0 (pt b (.cells cs.toArray 5 fr) :: l) w) (fun k => s.length - k.1) (0, 0) ⟨rfl, rfl, rfl, rfl, rfl, rfl, rfl, rfl, rfl, rfl, trivial⟩ ⟨Nat.zero_le _, by decide, fun _ _ _ => rfl, h⟩ ?_
 clear h
 rintro ⟨k, n⟩ w e ⟨hk, hn64, hx, h⟩
 dsimp only at hk hn64 hx h ⊢
 refine c_seq (c_region ?_)
 refine r_v (q_lss rfl rfl) rfl ?_
 by_cases hlt : k < s.length
 ·refine r_is (.bool true) (by congr 1; rw [decide_eq_true_eq]; omega) ?_
  refine r_nil (c_seq (c_true rfl (c_skip ?_)))
  have hget : s[k]? = some s[k] := List.getElem?_eq_getElem hlt
  generalize s[k] = c at hget
  refine c_seq (c_block ?_)
  refine c_seq (c_region ?_)
  refine r_v (q_idx (j := k) (o' := k) rfl rfl rfl hlt (by simp)) rfl ?_
  refine r_v (q_load (v := .int .u8 c.toNat) rfl (h.b 0 rfl) (hcs k c hget)) rfl ?_
  refine r_v (q_assignI rfl) rfl ?_
  refine r_nil ?_
  refine c_seq (c_region ?_)
  refine r_v (q_assignI rfl) rfl ?_
  refine r_nil ?_
  have hc256 : c.toNat < 256 := c.toNat_lt
  refine c_cut (Γ := Nat) (fun d => [(1, .int .i64 16), (8, .bool false), (9, .string (strB s)), (10, .int .u64 1152921504606846976), (11, .int .u64 18446744073709551615), (12, .bool false), (13, .int .u64 n), (16, .int .u8 d), (99, .slice (some ⟨b, 0, none⟩) s.length cc), (100, .int .i64 s.length), (101, .int .i64 k)])
   (fun d w => d < 256 ∧ (∀ d', d' < 16 → c = hexDig d' → d = d') ∧ St w0 (pt b (.cells cs.toArray 5 fr) :: l) w) ?_ ?_
  ·refine c_block ?_
   refine c_cut (Γ := Unit) (fun _ => [(1, .int .i64 16), (8, .bool false), (9, .string (strB s)), (10, .int .u64 1152921504606846976), (11, .int .u64 18446744073709551615), (12, .bool false), (13, .int .u64 n), (15, .int .u8 c.toNat), (99, .slice (some ⟨b, 0, none⟩) s.length cc), (100, .int .i64 s.length), (101, .int .i64 k), (106, .bool false)])
    (fun _ w => St w0 (pt b (.cells cs.toArray 5 fr) :: l) w) ?_ ?_
   ·refine c_region ?_
    refine r_v (q_moveI rfl) rfl ?_; refine r_v (q_eql rfl rfl) rfl ?_
    by_cases h95 : c.toNat = 95
    ·refine r_is (.bool true) (by congr 1; rw [beq_iff_eq]; omega) ?_
     refine r_v (q_moveB rfl) rfl ?_; refine r_gd rfl rfl ?_; refine r_v (q_moveB rfl) rfl ?_; refine r_v (q_pick1 rfl rfl rfl) rfl ?_; refine r_v (q_assignB rfl) rfl ?_
     exact r_nil ⟨(), ⟨rfl, rfl, rfl, rfl, rfl, rfl, rfl, rfl, rfl, rfl, rfl, rfl, trivial⟩, h⟩
    ·refine r_is (.bool false) (by congr 1; rw [beq_eq_false_iff_ne]; omega) ?_
     refine r_v (q_moveB rfl) rfl ?_; refine r_gn rfl rfl rfl ?_; refine r_v (q_pick0 rfl rfl rfl) rfl ?_; refine r_v (q_assignB rfl) rfl ?_
     exact r_nil ⟨(), ⟨rfl, rfl, rfl, rfl, rfl, rfl, rfl, rfl, rfl, rfl, rfl, rfl, trivial⟩, h⟩
   clear h
   rintro ⟨⟩ w e h
   refine c_false rfl ?_
   by_cases hdg : 48 ≤ c.toNat ∧ c.toNat ≤ 57
   ·refine c_seq (c_region ?_)
    refine r_v (q_moveI rfl) rfl ?_; refine r_v (q_leq rfl rfl) rfl ?_
    refine r_is (.bool true) (by congr 1; rw [decide_eq_true_eq]; omega) ?_
    refine r_v (q_moveB rfl) rfl ?_; refine r_gd rfl rfl ?_; refine r_v (q_moveI rfl) rfl ?_; refine r_gd rfl rfl ?_; refine r_v (q_leq rfl rfl) rfl ?_
    refine r_is (.bool true) (by congr 1; rw [decide_eq_true_eq]; omega) ?_
    refine r_v (q_pick1 rfl rfl rfl) rfl ?_; refine r_v (q_assignB rfl) rfl ?_
    refine r_nil (c_true rfl ?_)
    refine c_region ?_
    refine r_v (q_moveI rfl) rfl ?_; refine r_v (q_sub rfl rfl) rfl ?_
    refine r_is (.int .u8 ((c.toNat - 48 : Nat) : Int)) (by rw [show (c.toNat : Int) - 48 = ((c.toNat - 48 : Nat) : Int) by omega, wrap_u8, Nat.mod_eq_of_lt (by omega)]) ?_
    refine r_v (q_assignI rfl) rfl ?_
    refine r_nil ⟨c.toNat - 48, ⟨rfl, rfl, rfl, rfl, rfl, rfl, rfl, rfl, rfl, rfl, rfl, trivial⟩, by omega, fun d' h1 h2 => ?_, h⟩
    rcases Nat.lt_or_ge d' 10 with h3 | h3
    ·have := digV d' h3; rw [h2]; omega
    ·have := (lowV d' h1 h3).2; rw [h2] at hdg; omega
   refine c_cut (Γ := Unit) (fun _ => [(1, .int .i64 16), (8, .bool false), (9, .string (strB s)), (10, .int .u64 1152921504606846976), (11, .int .u64 18446744073709551615), (12, .bool false), (13, .int .u64 n), (15, .int .u8 c.toNat), (99, .slice (some ⟨b, 0, none⟩) s.length cc), (100, .int .i64 s.length), (101, .int .i64 k), (112, .bool false)])
    (fun _ w => St w0 (pt b (.cells cs.toArray 5 fr) :: l) w) ?_ ?_
   ·refine c_region ?_
    refine r_v (q_moveI rfl) rfl ?_; refine r_v (q_leq rfl rfl) rfl ?_
    by_cases h48 : 48 ≤ c.toNat
    ·refine r_is (.bool true) (by congr 1; rw [decide_eq_true_eq]; omega) ?_
     refine r_v (q_moveB rfl) rfl ?_; refine r_gd rfl rfl ?_; refine r_v (q_moveI rfl) rfl ?_; refine r_gd rfl rfl ?_; refine r_v (q_leq rfl rfl) rfl ?_
     refine r_is (.bool false) (by congr 1; rw [decide_eq_false_iff_not]; omega) ?_
     refine r_v (q_pick1 rfl rfl rfl) rfl ?_; refine r_v (q_assignB rfl) rfl ?_
     exact r_nil ⟨(), ⟨rfl, rfl, rfl, rfl, rfl, rfl, rfl, rfl, rfl, rfl, rfl, rfl, trivial⟩, h⟩
    ·refine r_is (.bool false) (by congr 1; rw [decide_eq_false_iff_not]; omega) ?_
     refine r_v (q_moveB rfl) rfl ?_; refine r_gn rfl rfl rfl ?_; refine r_gn rfl rfl rfl ?_; refine r_v (q_pick0 rfl rfl rfl) rfl ?_; refine r_v (q_assignB rfl) rfl ?_
     exact r_nil ⟨(), ⟨rfl, rfl, rfl, rfl, rfl, rfl, rfl, rfl, rfl, rfl, rfl, rfl, trivial⟩, h⟩
   clear h
   rintro ⟨⟩ w e h
   refine c_false rfl ?_
   have hlw := or_lt hc256
   have hge : ∀ d', d' < 16 → c = hexDig d' → 10 ≤ d' := fun d' _ h2 => by
    rcases Nat.lt_or_ge d' 10 with h3 | h3
    ·have := digV d' h3; rw [h2] at hdg; omega
    ·exact h3
   by_cases hlo : 97 ≤ (c.toNat ||| 32) ∧ (c.toNat ||| 32) ≤ 122
   ·refine c_seq (c_region ?_)
    refine r_v (q_moveI rfl) rfl ?_
    refine r_c rfl (x_call rfl (sc_lower hc256 h) ?_)
    clear h
    rintro _ w ⟨rfl, h⟩
    refine r_v (q_leq rfl rfl) rfl ?_
    refine r_is (.bool true) (by congr 1; rw [decide_eq_true_eq]; omega) ?_
    refine r_v (q_moveB rfl) rfl ?_; refine r_gd rfl rfl ?_; refine r_v (q_moveI rfl) rfl ?_; refine r_gd rfl rfl ?_
    refine r_c rfl (x_call rfl (sc_lower hc256 h) ?_)
    clear h
    rintro _ w ⟨rfl, h⟩
    refine r_gd rfl rfl ?_; refine r_v (q_leq rfl rfl) rfl ?_
    refine r_is (.bool true) (by congr 1; rw [decide_eq_true_eq]; omega) ?_
    refine r_v (q_pick1 rfl rfl rfl) rfl ?_; refine r_v (q_assignB rfl) rfl ?_
    refine r_nil (c_true rfl ?_)
    refine c_region ?_
    refine r_v (q_moveI rfl) rfl ?_
    refine r_c rfl (x_call rfl (sc_lower hc256 h) ?_)
    clear h
    rintro _ w ⟨rfl, h⟩
    refine r_v (q_sub rfl rfl) rfl ?_
    refine r_is (.int .u8 (((c.toNat ||| 32) - 97 : Nat) : Int)) (by rw [show ((c.toNat ||| 32 : Nat) : Int) - 97 = (((c.toNat ||| 32) - 97 : Nat) : Int) by omega, wrap_u8, Nat.mod_eq_of_lt (by omega)]) ?_
    refine r_v (q_add rfl rfl) rfl ?_
    refine r_is (.int .u8 (((c.toNat ||| 32) - 97 + 10 : Nat) : Int)) (by rw [show (((c.toNat ||| 32) - 97 : Nat) : Int) + 10 = (((c.toNat ||| 32) - 97 + 10 : Nat) : Int) by omega, wrap_u8, Nat.mod_eq_of_lt (by omega)]) ?_
    refine r_v (q_assignI rfl) rfl ?_
    refine r_nil ⟨(c.toNat ||| 32) - 97 + 10, ⟨rfl, rfl, rfl, rfl, rfl, rfl, rfl, rfl, rfl, rfl, rfl, trivial⟩, by omega, fun d' h1 h2 => ?_, h⟩
    have := (lowV d' h1 (hge d' h1 h2)).1
    rw [← h2] at this
    omega
   refine c_cut (Γ := Unit) (fun _ => [(121, .bool false)]) (fun _ w => St w0 (pt b (.cells cs.toArray 5 fr) :: l) w) ?_ ?_
   ·refine c_region ?_
    refine r_v (q_moveI rfl) rfl ?_
    refine r_c rfl (x_call rfl (sc_lower hc256 h) ?_)
    clear h
    rintro _ w ⟨rfl, h⟩
    refine r_v (q_leq rfl rfl) rfl ?_
    by_cases h97 : 97 ≤ (c.toNat ||| 32)
    ·refine r_is (.bool true) (by congr 1; rw [decide_eq_true_eq]; omega) ?_
     refine r_v (q_moveB rfl) rfl ?_; refine r_gd rfl rfl ?_; refine r_v (q_moveI rfl) rfl ?_; refine r_gd rfl rfl ?_
     refine r_c rfl (x_call rfl (sc_lower hc256 h) ?_)
     clear h
     rintro _ w ⟨rfl, h⟩
     refine r_gd rfl rfl ?_; refine r_v (q_leq rfl rfl) rfl ?_
     refine r_is (.bool false) (by congr 1; rw [decide_eq_false_iff_not]; omega) ?_
     refine r_v (q_pick1 rfl rfl rfl) rfl ?_; refine r_v (q_assignB rfl) rfl ?_
     exact r_nil ⟨(), ⟨rfl, trivial⟩, h⟩
    ·refine r_is (.bool false) (by congr 1; rw [decide_eq_false_iff_not]; omega) ?_
     refine r_v (q_moveB rfl) rfl ?_; refine r_gn rfl rfl rfl ?_; refine r_gn rfl rfl rfl ?_; refine r_gn rfl rfl rfl ?_; refine r_v (q_pick0 rfl rfl rfl) rfl ?_; refine r_v (q_assignB rfl) rfl ?_
     exact r_nil ⟨(), ⟨rfl, trivial⟩, h⟩
   clear h
   rintro ⟨⟩ w e h
   refine c_false rfl ?_
   refine c_seq (c_region ?_)
   refine r_v (q_mki rfl) rfl ?_
   refine r_v (q_assignI rfl) rfl ?_
   refine r_v (q_assignE rfl (.inr ⟨_, _, rfl⟩)) rfl ?_
   refine r_nil (c_ret (bq2 ⟨0, _, rfl, by decide, .inr (.inl rfl), fun u _ hu => ?_, h.drop⟩))
   obtain ⟨d', h1, h2⟩ := hexDig_of (hu ▸ hget)
   have hh := hge d' h1 h2
   have := (lowV d' h1 hh).1
   rw [← h2] at this
   omega
  clear h
  rintro d w e ⟨hd, hdh, h⟩
  refine c_seq (c_seq (c_region ?_))
  refine r_v (q_moveI rfl) rfl ?_; refine r_v (q_moveI rfl) rfl ?_; refine r_v (q_conv rfl) rfl ?_
  refine r_is (.int .u8 16) rfl ?_
  refine r_v (q_geq rfl rfl) rfl ?_
  by_cases h16 : 16 ≤ d
  ·refine r_is (.bool true) (by congr 1; rw [decide_eq_true_eq]; omega) ?_
   refine r_nil (c_true rfl ?_)
   refine c_seq (c_region ?_)
   refine r_v (q_mki rfl) rfl ?_
   refine r_v (q_assignI rfl) rfl ?_
   refine r_v (q_assignE rfl (.inr ⟨_, _, rfl⟩)) rfl ?_
   refine r_nil (c_ret (bq2 ⟨0, _, rfl, by decide, .inr (.inl rfl), fun u _ hu => ?_, h.drop⟩))
   obtain ⟨d', h1, h2⟩ := hexDig_of (hu ▸ hget)
   have := hdh d' h1 h2
   omega
  refine r_is (.bool false) (by congr 1; rw [decide_eq_false_iff_not]; omega) ?_
  refine r_nil (c_false rfl (c_skip ?_))
  refine c_seq (c_seq (c_region ?_))
  refine r_v (q_moveI rfl) rfl ?_; refine r_v (q_moveI rfl) rfl ?_; refine r_v (q_geq rfl rfl) rfl ?_
  by_cases h60 : 1152921504606846976 ≤ n
  ·refine r_is (.bool true) (by congr 1; rw [decide_eq_true_eq]; omega) ?_
   refine r_nil (c_true rfl ?_)
   refine c_seq (c_region ?_)
   refine r_v (q_moveI rfl) rfl ?_
   refine r_v (q_mki rfl) rfl ?_
   refine r_v (q_assignI rfl) rfl ?_
   refine r_v (q_assignE rfl (.inr ⟨_, _, rfl⟩)) rfl ?_
   refine r_nil (c_ret (bq2 ⟨18446744073709551615, _, rfl, by decide, .inr (.inr rfl), fun u hu64 hu => ?_, h.drop⟩))
   have := hx.small hget hu64 hu
   omega
  refine r_is (.bool false) (by congr 1; rw [decide_eq_false_iff_not]; omega) ?_
  refine r_nil (c_false rfl (c_skip ?_))
  refine c_seq (c_region ?_)
  refine r_v (q_moveI rfl) rfl ?_; refine r_v (q_moveI rfl) rfl ?_; refine r_v (q_conv rfl) rfl ?_
  refine r_is (.int .u64 16) rfl ?_
  refine r_v (q_mul rfl rfl) rfl ?_
  refine r_is (.int .u64 ((n * 16 : Nat) : Int)) (by rw [show (n : Int) * 16 = ((n * 16 : Nat) : Int) by omega, wrap_u64, Nat.mod_eq_of_lt (by omega)]) ?_
  refine r_v (q_assignI rfl) rfl ?_
  refine r_nil ?_
  refine c_seq (c_region ?_)
  refine r_v (q_moveI rfl) rfl ?_; refine r_v (q_moveI rfl) rfl ?_; refine r_v (q_conv rfl) rfl ?_
  refine r_is (.int .u64 (d : Int)) (by rw [wrap_u64, Nat.mod_eq_of_lt (by omega)]) ?_
  refine r_v (q_add rfl rfl) rfl ?_
  refine r_is (.int .u64 ((n * 16 + d : Nat) : Int)) (by rw [show ((n * 16 : Nat) : Int) + (d : Int) = ((n * 16 + d : Nat) : Int) by omega, wrap_u64, Nat.mod_eq_of_lt (by omega)]) ?_
  refine r_v (q_assignI rfl) rfl ?_
  refine r_nil ?_
  refine c_seq (c_seq (c_region ?_))
  refine r_v (q_moveI rfl) rfl ?_; refine r_v (q_moveI rfl) rfl ?_; refine r_v (q_lss rfl rfl) rfl ?_
  refine r_is (.bool false) (by congr 1; rw [decide_eq_false_iff_not]; omega) ?_
  refine r_v (q_moveB rfl) rfl ?_; refine r_gd rfl rfl ?_; refine r_v (q_moveI rfl) rfl ?_; refine r_gd rfl rfl ?_; refine r_v (q_moveI rfl) rfl ?_; refine r_gd rfl rfl ?_; refine r_v (q_gtr rfl rfl) rfl ?_
  refine r_is (.bool false) (by congr 1; rw [decide_eq_false_iff_not]; omega) ?_
  refine r_v (q_pick0 rfl rfl rfl) rfl ?_
  refine r_nil (c_false rfl (c_skip ?_))
  refine c_region ?_
  refine r_v (q_moveI rfl) rfl ?_; refine r_v (q_assignI rfl) rfl ?_
  refine r_nil ?_
  refine c_region ?_
  refine r_v (q_add rfl rfl) rfl ?_
  refine r_is (.int .i64 (k + 1 : Nat)) (by rw [wrap64 (by omega) (by omega)]; congr 1) ?_
  refine r_v (q_moveI rfl) rfl ?_
  exact r_nil ⟨(k + 1, n * 16 + d), ⟨rfl, rfl, rfl, rfl, rfl, rfl, rfl, rfl, rfl, rfl, trivial⟩, ⟨hlt, by dsimp only; omega, hx.step hget hdh, h⟩, by dsimp only; omega⟩
 ·refine r_is (.bool false) (by congr 1; rw [decide_eq_false_iff_not]; omega) ?_
  refine r_nil (c_seq (c_false rfl (c_exit ?_)))
  refine c_seq (c_seq (c_region ?_))
  refine r_v (q_moveB rfl) rfl ?_; refine r_v (q_moveB rfl) rfl ?_; refine r_gn rfl rfl rfl ?_; refine r_gn rfl rfl rfl ?_; refine r_gn rfl rfl rfl ?_; refine r_v (q_pick0 rfl rfl rfl) rfl ?_
  refine r_nil (c_false rfl (c_skip ?_))
  refine c_seq (c_region ?_)
  refine r_v (q_moveI rfl) rfl ?_; refine r_v (q_assignI rfl) rfl ?_
  refine r_v (q_assignN rfl) rfl ?_
  refine r_nil (c_ret (bq2 ⟨n, _, rfl, hn64, .inl rfl, fun u hu64 hu => ?_, h.drop⟩))
  obtain rfl : k = s.length := by omega
  rw [hx u hu64 hu, List.take_length, hu, hexN_S]
end
end Go.Proofs.YtnnehiiblfmpnaaGreatDoor

namespace Go.Hw
open Go.Lib
theorem joinW_flat (w : List UInt8) (r : List (List UInt8)) : joinW (w :: r) = w ++ r.flatMap (fun x => 32 :: x) := by
 induction r generalizing w with
 | nil => simp [joinW]
 | cons a r ih => rw [joinW_cons _ (by simp), ih a]; simp
def Res.txt (r : Res) (k : Nat) : List UInt8 := [111, 107, 32] ++ itoa r.iter ++ (r.list.take k).flatMap fun s => 32 :: smpW s
theorem Res.txt_ok (r : Res) (h : r.err = 0) : resS r = r.txt r.list.length := by
 unfold resS resW Res.txt
 rw [if_neg (by simp [h]), joinW_flat, List.take_length]
 simp [wOk, List.flatMap_map]
theorem Res.txt_err (r : Res) (h : r.err ≠ 0) : resS r = [101, 114, 114, 111, 114, 32] ++ itoa r.err := by
 unfold resS resW
 rw [if_pos h]
 simp [joinW, wErr]
theorem Res.txt_step (r : Res) {k : Nat} {s : Smp} (hs : r.list[k]? = some s) : r.txt (k + 1) = r.txt k ++ 32 :: smpW s := by
 unfold Res.txt
 rw [List.take_add_one, hs]
 simp
theorem smpW_len {s : Smp} (h : s.Wf) : (smpW s).length ≤ 38 := by
 have h1 := itoa_len h.1
 have h2 := hexS_len s.V.toNat 16 (by decide) (by have := h.2; omega)
 unfold smpW
 rw [List.length_append, List.length_cons]
 omega
theorem Res.txt_len (r : Res) (hi : I64 r.iter) (hw : ∀ s ∈ r.list, s.Wf) (k : Nat) (hk : k ≤ r.list.length) : (r.txt k).length ≤ 24 + 39 * k := by
 induction k with
 | zero =>
  have := itoa_len hi
  simp [Res.txt]; omega
 | succ k ih =>
  have hget : r.list[k]? = some r.list[k] := List.getElem?_eq_getElem (by omega)
  have := smpW_len (hw _ (List.mem_of_getElem? hget))
  rw [Res.txt_step r hget, List.length_append, List.length_cons]
  have := ih (by omega)
  omega
def Res.C (a : Option Addr) (c : Nat) (r : Res) : List Value := [.int .i64 r.err, .int .i64 r.iter, .slice a r.list.length c]
end Go.Hw
namespace Go.Proofs.YtnnehiiblfmpnaaGreatDoor
open Go.Hw Go.Lib
set_option maxHeartbeats 4000000
set_option maxRecDepth 100000
section
variable {w0 w : World} {l : List HProp}
theorem ref27_Result {a : Option Addr} {c : Nat} {r : Res} (he : I64 r.err) (hi : I64 r.iter) (hw : ∀ s ∈ r.list, s.Wf) (hn : r.list.length ≤ 4294967296) (hr : Reads w0 l 2 a r.list.length (smpsV r.list)) (h : St w0 l w) :
  Ret Tryz.prog 18 [.agg (r.C a c).toArray] w fun v w' => v = .string (strB (resS r)) ∧ St w0 l w' := by
 have m1 := itoa_len he
 have m2 := itoa_len hi
 have htl := r.txt_len hi hw
 refine enter Tryz.func18 rfl Tryz.results18 Tryz.ntmps18 rfl ?_
 refine c_seq (c_region ?_)
 refine r_c rfl (x_box h (show _ = Value.agg (r.C a c).toArray from rfl) fun b w h => ?_)
 refine r_v (q_assignZ rfl) rfl ?_
 refine r_nil ?_
 refine c_seq (c_seq (c_region ?_))
 refine r_v (q_fa rfl) rfl ?_; refine r_v (q_load rfl (h.b 0) rfl) rfl ?_; refine r_v (q_neq rfl rfl) rfl ?_
 refine r_nil (c_cond (!(r.err == 0)) rfl (fun hk => ?_) (fun hk => ?_))
 ·have hk : r.err ≠ 0 := by simpa using hk
  refine c_seq (c_region ?_)
  refine r_v (q_fa rfl) rfl ?_; refine r_v (q_load rfl (h.b 0) rfl) rfl ?_
  refine r_c rfl (x_call rfl (ref27_Num he h) ?_)
  clear h
  rintro _ w ⟨rfl, h⟩
  refine r_v (q_catB rfl rfl (by simp only [List.length_append, List.length_cons, List.length_nil]; omega)) rfl ?_
  refine r_v (q_assignZ rfl) rfl ?_
  exact r_nil (c_ret (bq1 ⟨congrArg (fun x => Value.string (strB x)) (Res.txt_err r hk).symm, h.drop⟩))
 have hk : r.err = 0 := by simpa using hk
 refine c_skip ?_
 refine c_seq (c_region ?_)
 refine r_v (q_fa rfl) rfl ?_; refine r_v (q_load rfl (h.b 0) rfl) rfl ?_
 refine r_c rfl (x_call rfl (ref27_Num hi h) ?_)
 clear h
 rintro _ w ⟨rfl, h⟩
 refine r_v (q_catB rfl rfl (by simp only [List.length_append, List.length_cons, List.length_nil]; omega)) rfl ?_
 refine r_v (q_assignZ rfl) rfl ?_
 refine r_nil ?_
 refine c_seq (c_seq (c_region ?_))
 refine r_v (q_assignI rfl) rfl ?_
 refine r_nil ?_
 refine c_block ?_
 refine c_loop (Γ := Nat) (fun k => [(1, .pointer (some ⟨b, 0, none⟩)), (3, .string (strB (r.txt k))), (4, .int .i64 k)])
  (fun k w => k ≤ r.list.length ∧ St w0 (pt b (.cells (r.C a c).toArray 25 (0, 0)) :: l) w) (fun k => r.list.length - k) 0 ⟨rfl, congrArg (fun x => Value.string (strB x)) (show [111, 107, 32] ++ itoa r.iter = r.txt 0 by simp [Res.txt]), rfl, trivial⟩ ⟨Nat.zero_le _, h⟩ ?_
 clear h
 rintro k w e ⟨hkn, h⟩
 have hkl := htl k hkn
 refine c_seq (c_seq (c_region ?_))
 refine r_v (q_moveI rfl) rfl ?_; refine r_v (q_fa rfl) rfl ?_; refine r_v (q_load rfl (h.b 0) rfl) rfl ?_; refine r_v (q_len rfl) rfl ?_; refine r_v (q_lss rfl rfl) rfl ?_
 by_cases hlt : k < r.list.length
 ·refine r_is (.bool true) (by congr 1; rw [decide_eq_true_eq]; omega) ?_
  refine r_nil (c_true rfl (c_skip ?_))
  have hget : r.list[k]? = some r.list[k] := List.getElem?_eq_getElem hlt
  generalize r.list[k] = s at hget
  have hsw := hw s (List.mem_of_getElem? hget)
  have m3 := itoa_len hsw.1
  have e1 : s.V = ((s.V.toNat : Nat) : Int) := by have := hsw.2; omega
  have m4 := hexS_len s.V.toNat 16 (by decide) (by have := hsw.2; omega)
  obtain ⟨b2, o2, rfl⟩ : ∃ b2 o2, a = some ⟨b2, o2, none⟩ := by
   rcases (hr [_] w h).2 with h0 | ⟨b2, o2, h1, _⟩
   ·omega
   ·exact ⟨b2, o2, h1⟩
  refine c_seq (c_block ?_)
  refine c_any none (fun w => St w0 _ w) (by kernel_rfl) (by kernel_rfl) h.drew fun w h => ?_
  refine cur_pure rfl rfl rfl rfl (fun _ => h) (fun _ => flt_v rfl (q_moveZ rfl)) ?_
  refine cur_pure rfl rfl rfl rfl (fun _ => h) (fun _ => flt_v rfl (q_catB rfl rfl (by simp only [List.length_append, List.length_cons, List.length_nil]; omega))) ?_
  refine cur_pure rfl rfl rfl rfl (fun _ => h) (fun _ => flt_v rfl (q_fa rfl)) ?_; refine cur_float rfl rfl rfl rfl h (fun _ h => flt_v rfl (q_load rfl (h.b 0) rfl)) ?_; refine cur_pure rfl rfl rfl rfl (fun _ => h) (fun _ => flt_v rfl (q_moveI rfl)) ?_
  refine cur_pure rfl rfl rfl rfl (fun _ => h) (fun _ => flt_v rfl (q_idx (j := k) (o' := o2 + k * 2) rfl rfl rfl hlt rfl)) ?_
  refine cur_pure rfl rfl rfl rfl (fun _ => h) (fun _ => flt_v rfl (q_fa rfl)) ?_
  refine cur_float rfl rfl rfl rfl h (fun _ h => flt_v rfl (q_loadc (v := .int .i64 s.T) rfl ((hr [_] _ h).elem smp_len hget 0 _ rfl))) ?_
  refine cur_skip ?_; refine cur_skip ?_; refine cur_skip ?_; refine cur_pure rfl rfl rfl rfl (fun _ => h) (fun _ => flt_v rfl (q_fa rfl)) ?_; refine cur_float rfl rfl rfl rfl h (fun _ h => flt_v rfl (q_load rfl (h.b 0) rfl)) ?_; refine cur_pure rfl rfl rfl rfl (fun _ => h) (fun _ => flt_v rfl (q_moveI rfl)) ?_
  refine cur_pure rfl rfl rfl rfl (fun _ => h) (fun _ => flt_v rfl (q_idx (j := k) (o' := o2 + k * 2) rfl rfl rfl hlt rfl)) ?_
  refine cur_pure rfl rfl rfl rfl (fun _ => h) (fun _ => flt_v rfl (q_fa rfl)) ?_
  refine cur_float rfl rfl rfl rfl h (fun _ h => flt_v rfl (q_loadc (v := .int .u64 ((s.V.toNat : Nat) : Int)) rfl (((hr [_] _ h).elem smp_len hget 1 _ rfl).trans (congrArg (fun x => some (Value.int .u64 x)) e1)))) ?_
  refine cur_skip ?_; refine cur_skip ?_; refine cur_skip ?_
  refine cur_one 8 rfl rfl rfl rfl (x_call rfl (ref27_Num hsw.1 h) ?_)
  clear h
  rintro _ w ⟨rfl, h⟩
  refine ⟨fun _ => h, ?_⟩
  refine cur_pure rfl rfl rfl rfl (fun _ => h) (fun _ => flt_v rfl (q_catB rfl rfl (by simp only [List.length_append, List.length_cons, List.length_nil]; omega))) ?_
  refine cur_pure rfl rfl rfl rfl (fun _ => h) (fun _ => flt_v rfl (q_catB rfl rfl (by simp only [List.length_append, List.length_cons, List.length_nil]; omega))) ?_
  refine cur_skip ?_; refine cur_skip ?_; refine cur_skip ?_
  refine cur_one 17 rfl rfl rfl rfl (x_call rfl (ref27_Hex (u := s.V.toNat) (by have := hsw.2; omega) h) ?_)
  clear h
  rintro _ w ⟨rfl, h⟩
  refine ⟨fun _ => h, ?_⟩
  refine cur_pure rfl rfl rfl rfl (fun _ => h) (fun _ => flt_v rfl (q_catB rfl rfl (by simp only [List.length_append, List.length_cons, List.length_nil]; omega))) ?_
  refine cur_pure rfl rfl rfl rfl (fun _ => h) (fun _ => flt_v rfl (q_assignZ rfl)) ?_
  refine cur_end ?_
  refine c_region ?_
  refine r_v (q_moveI rfl) rfl ?_; refine r_v (q_add rfl rfl) rfl ?_
  refine r_is (.int .i64 (k + 1 : Nat)) (by rw [wrap64 (by omega) (by omega)]; congr 1) ?_
  refine r_v (q_assignI rfl) rfl ?_
  refine r_nil ⟨k + 1, ⟨rfl, ?_, rfl, trivial⟩, ⟨hlt, h⟩, by omega⟩
  exact congrArg (fun x => Value.string (strB x)) (by rw [Res.txt_step r hget, smpW]; simp)
 ·refine r_is (.bool false) (by congr 1; rw [decide_eq_false_iff_not]; omega) ?_
  refine r_nil (c_false rfl (c_exit ?_))
  refine c_seq (c_region ?_)
  refine r_v (q_moveZ rfl) rfl ?_; refine r_v (q_assignZ rfl) rfl ?_
  obtain rfl : k = r.list.length := by omega
  exact r_nil (c_ret (bq1 ⟨congrArg (fun x => Value.string (strB x)) (Res.txt_ok r hk).symm, h.drop⟩))
theorem rept_Result (hN : Nm w0) {a : Option Addr} {c : Nat} {r : Res} (he : I64 r.err) (hi : I64 r.iter) (hw : ∀ s ∈ r.list, s.Wf) (hn : r.list.length ≤ 4294967296) (hr : Reads w0 l 2 a r.list.length (smpsV r.list)) (h : St w0 l w) :
  Ret Tryz.prog 13 [.agg (r.C a c).toArray] w fun v w' => v = .string (strB (resS r)) ∧ St w0 l w' := by
 have m1 := itoa_len he
 have m2 := itoa_len hi
 have htl := r.txt_len hi hw
 refine enter Tryz.func13 rfl Tryz.results13 Tryz.ntmps13 rfl ?_
 refine c_seq (c_region ?_)
 refine r_c rfl (x_box h (show _ = Value.agg (r.C a c).toArray from rfl) fun b w h => ?_)
 refine r_v (q_assignZ rfl) rfl ?_
 refine r_nil ?_
 refine c_seq (c_seq (c_region ?_))
 refine r_v (q_fa rfl) rfl ?_; refine r_v (q_load rfl (h.b 0) rfl) rfl ?_; refine r_v (q_neq rfl rfl) rfl ?_
 refine r_nil (c_cond (!(r.err == 0)) rfl (fun hk => ?_) (fun hk => ?_))
 ·have hk : r.err ≠ 0 := by simpa using hk
  refine c_seq (c_region ?_)
  refine r_v (q_fa rfl) rfl ?_; refine r_v (q_load rfl (h.b 0) rfl) rfl ?_
  refine r_c rfl (x_call rfl (rept_num hN he h) ?_)
  clear h
  rintro _ w ⟨rfl, h⟩
  refine r_v (q_catB rfl rfl (by simp only [List.length_append, List.length_cons, List.length_nil]; omega)) rfl ?_
  refine r_v (q_assignZ rfl) rfl ?_
  exact r_nil (c_ret (bq1 ⟨congrArg (fun x => Value.string (strB x)) (Res.txt_err r hk).symm, h.drop⟩))
 have hk : r.err = 0 := by simpa using hk
 refine c_skip ?_
 refine c_seq (c_region ?_)
 refine r_c rfl (x_alloc h fun bb w h => ?_)
 refine r_nil ?_
 refine c_seq (c_region ?_)
 refine r_v (q_fa rfl) rfl ?_; refine r_v (q_load rfl (h.b 1) rfl) rfl ?_
 refine r_c rfl (x_call rfl (rept_num hN hi h) ?_)
 clear h
 rintro _ w ⟨rfl, h⟩
 refine r_v (q_catB rfl rfl (by simp only [List.length_append, List.length_cons, List.length_nil]; omega)) rfl ?_
 refine r_c rfl (x_call rfl (bld_WriteString (bs := []) (.inl rfl) (by simp only [List.length_append, List.length_cons, List.length_nil]; omega) ((St.ownNil 5 1 h).f 1)) ?_)
 clear h
 rintro _ w ⟨a1, c1, h⟩
 replace h := (h.f 2)
 refine r_nil ?_
 refine c_seq (c_seq (c_region ?_))
 refine r_v (q_fa rfl) rfl ?_; refine r_v (q_load rfl (h.b 0) rfl) rfl ?_; refine r_v (q_len rfl) rfl ?_; refine r_v (q_moveI rfl) rfl ?_
 refine r_nil ?_
 replace h := h.drop
 refine c_block ?_
 refine c_loop (Γ := Nat) (fun k => [(3, .pointer (some ⟨bb, 0, none⟩)), (19, .slice a r.list.length c), (20, .int .i64 r.list.length), (21, .int .i64 k)])
  (fun k w => k ≤ r.list.length ∧ ∃ a1 c1, St w0 (BldPt bb (some ⟨bb, 0, none⟩) a1 (r.txt k).length c1 :: OwnB a1 c1 (r.txt k) :: l) w) (fun k => r.list.length - k) 0 ⟨rfl, rfl, rfl, rfl, trivial⟩ ⟨Nat.zero_le _, a1, c1, by
   rw [show ([] : List UInt8) ++ ([111, 107, 32] ++ itoa r.iter) = r.txt 0 by simp [Res.txt]] at h; exact h⟩ ?_
 clear h
 rintro k w e ⟨hkn, a1, c1, h⟩
 have hkl := htl k hkn
 refine c_seq (c_region ?_)
 refine r_v (q_lss rfl rfl) rfl ?_
 by_cases hlt : k < r.list.length
 ·refine r_is (.bool true) (by congr 1; rw [decide_eq_true_eq]; omega) ?_
  refine r_nil (c_seq (c_true rfl (c_skip ?_)))
  have hget : r.list[k]? = some r.list[k] := List.getElem?_eq_getElem hlt
  generalize r.list[k] = s at hget
  have hsw := hw s (List.mem_of_getElem? hget)
  have m3 := itoa_len hsw.1
  have e1 : s.V = ((s.V.toNat : Nat) : Int) := by have := hsw.2; omega
  have m4 := hexS_len s.V.toNat 16 (by decide) (by have := hsw.2; omega)
  have hcur := h
  obtain ⟨b2, o2, rfl⟩ : ∃ b2 o2, a = some ⟨b2, o2, none⟩ := by
   rcases (hr [_, _] w h).2 with h0 | ⟨b2, o2, h1, _⟩
   ·omega
   ·exact ⟨b2, o2, h1⟩
  have h := hcur
  refine c_seq (c_block ?_)
  refine c_seq (c_region ?_)
  refine r_v (q_idx (j := k) (o' := o2 + k * 2) rfl rfl rfl hlt rfl) rfl ?_
  refine r_v (q_loadS (l := s.cells) rfl rfl ((hr [_, _] _ h).elem smp_len hget)) rfl ?_
  refine r_c rfl (x_alloc h fun b5 w h => ?_)
  refine r_c rfl (x_storeA (vs := s.cells) 0 h rfl rfl rfl rfl rfl rfl rfl fun w h => ?_)
  refine r_nil ?_
  replace h : St w0 (pt b5 (.cells [.int .i64 s.T, .int .u64 ((s.V.toNat : Nat) : Int)].toArray 58 (0, 0)) :: BldPt bb (some ⟨bb, 0, none⟩) a1 (r.txt k).length c1 :: OwnB a1 c1 (r.txt k) :: l) w := e1 ▸ h
  replace h := h.drew
  have hφ : ∃ M, St w0 (pt b5 (.cells [.int .i64 s.T, .int .u64 ((s.V.toNat : Nat) : Int)].toArray 58 (0, 0)) :: M) w.drew := ⟨_, h⟩
  refine c_anyW [0, 1, 2, 3, 4, 5, 6, 7, 8, 9] none (fun w => ∃ M, St w0 (pt b5 (.cells [.int .i64 s.T, .int .u64 ((s.V.toNat : Nat) : Int)].toArray 58 (0, 0)) :: M) w) (by kernel_rfl) (by kernel_rfl) ?_
  refine cur_pure rfl rfl rfl rfl (fun _ => hφ) (fun _ => flt_v rfl (q_fa rfl)) ?_
  refine cur_float rfl rfl rfl rfl hφ (fun _ h => h.elim fun _ h => flt_v rfl (q_load (v := .int .i64 s.T) rfl (h.b 0 rfl) rfl)) ?_
  refine cur_skip ?_; refine cur_skip ?_; refine cur_skip ?_
  refine cur_pure rfl rfl rfl rfl (fun _ => hφ) (fun _ => flt_v rfl (q_fa rfl)) ?_
  refine cur_float rfl rfl rfl rfl hφ (fun _ h => h.elim fun _ h => flt_v rfl (q_load (v := .int .u64 ((s.V.toNat : Nat) : Int)) rfl (h.b 0 rfl) rfl)) ?_
  refine cur_skip ?_; refine cur_skip ?_; refine cur_skip ?_
  refine cur_one 2 rfl rfl rfl rfl (x_call rfl (rept_time hN hsw.1 h) ?_)
  clear hφ h
  rintro _ w ⟨rfl, h⟩
  have hφ : ∃ M, St w0 (pt b5 (.cells [.int .i64 s.T, .int .u64 ((s.V.toNat : Nat) : Int)].toArray 58 (0, 0)) :: M) w := ⟨_, h⟩
  refine ⟨fun _ => hφ, ?_⟩
  refine cur_pure rfl rfl rfl rfl (fun _ => hφ) (fun _ => flt_v rfl (q_catB rfl rfl (by simp only [List.length_append, List.length_cons, List.length_nil]; omega))) ?_
  refine cur_pure rfl rfl rfl rfl (fun _ => hφ) (fun _ => flt_v rfl (q_catB rfl rfl (by simp only [List.length_append, List.length_cons, List.length_nil]; omega))) ?_
  refine cur_skip ?_; refine cur_skip ?_; refine cur_skip ?_
  refine cur_one 7 rfl rfl rfl rfl (x_call rfl (rept_value hN (u := s.V.toNat) (by have := hsw.2; omega) h) ?_)
  clear hφ h
  rintro _ w ⟨rfl, h⟩
  have hφ : ∃ M, St w0 (pt b5 (.cells [.int .i64 s.T, .int .u64 ((s.V.toNat : Nat) : Int)].toArray 58 (0, 0)) :: M) w := ⟨_, h⟩
  refine ⟨fun _ => hφ, ?_⟩
  refine cur_pure rfl rfl rfl rfl (fun _ => hφ) (fun _ => flt_v rfl (q_catB rfl rfl (by simp only [List.length_append, List.length_cons, List.length_nil]; omega))) ?_
  refine cur_skip ?_
  refine cur_one 9 rfl rfl rfl rfl (x_call rfl (bld_WriteString (.inr rfl) (by simp only [List.length_append, List.length_cons, List.length_nil]; omega) ((h.f 2).f 2)) ?_)
  clear hφ h
  rintro _ w ⟨a2, c2, h⟩
  have hφ : ∃ M, St w0 (pt b5 (.cells [.int .i64 s.T, .int .u64 ((s.V.toNat : Nat) : Int)].toArray 58 (0, 0)) :: M) w := ⟨_, h.f 2⟩
  refine ⟨fun _ => hφ, ?_⟩
  refine cur_end ?_
  replace h := (h.f 2).drop
  rw [show r.txt k ++ ([32] ++ itoa s.T ++ [58] ++ hexS s.V.toNat) = r.txt (k + 1) by rw [Res.txt_step r hget, smpW]; simp] at h
  refine c_region ?_
  refine r_v (q_add rfl rfl) rfl ?_
  refine r_is (.int .i64 (k + 1 : Nat)) (by rw [wrap64 (by omega) (by omega)]; congr 1) ?_
  refine r_v (q_moveI rfl) rfl ?_
  exact r_nil ⟨k + 1, ⟨rfl, rfl, rfl, rfl, trivial⟩, ⟨hlt, a2, c2, h⟩, by omega⟩
 ·refine r_is (.bool false) (by congr 1; rw [decide_eq_false_iff_not]; omega) ?_
  refine r_nil (c_seq (c_false rfl (c_exit ?_)))
  refine c_seq (c_region ?_)
  obtain rfl : k = r.list.length := by omega
  refine r_c rfl (x_call rfl (bld_String (by unfold Res.txt; simp) (by omega) h) ?_)
  clear h
  rintro _ w ⟨rfl, h⟩
  refine r_v (q_assignZ rfl) rfl ?_
  exact r_nil (c_ret (bq1 ⟨congrArg (fun x => Value.string (strB x)) (Res.txt_ok r hk).symm, h⟩))
end
end Go.Proofs.YtnnehiiblfmpnaaGreatDoor

namespace Go.Hw
open Go.Lib
theorem parseIntB_I64 {s : List UInt8} {v : Int} (h : parseIntB 64 s = .ok v) : I64 v := by
 have := parseIntB_bounds h
 exact ⟨by have := this.1; simpa using this, by have := this.2; simpa using this⟩
theorem intSat_I64 (s : List UInt8) : I64 (intSat 64 s) := by
 unfold intSat
 split <;> exact ⟨by decide, by decide⟩
theorem St.bytesW {w0 w : World} {l : List HProp} (h : St w0 l w) (e : TypeId) (s : ByteArray) : St w0 l (bytesWorld w e s) := (h.bytes e s).elim fun _ h => h.drop
section
variable {P : Program} {e : Env} {w : World} {d : Option Nat} {ty : TypeId} {pos : String} {af : Array Edge} {g : Option (Nat × Bool)}
theorem q_rest {t T : TypeId} [ht : Und P t (.slice T)] {z : List Value} {agg : Bool} {bytes : Nat} [hi : Inf P T z agg bytes] {x y : Operand} {b o m : Nat} {k : IntKind}
  (hx : ev e x = .slice (some ⟨b, o, none⟩) (m + 1) (m + 1)) (hy : ev e y = .int k 1) (hz1 : z.length = 1) : Qv P e ⟨d, .slice t x (some y) none none, ty, pos, af, g⟩ w (.slice (some ⟨b, if m = 0 then o else o + 1, none⟩) m m) := by
 unfold Qv
 have hz := hi.sizeOf w
 rw [hz1] at hz
 have e2 : (Instr.sliceBound (.int k 1) (m + 1) .sliceB).run P w = .ok 1 w := by
  have : (1 : Int) ≤ (m : Int) + 1 := by omega
  simp [Instr.sliceBound, asIntOf, this]
 have e3 : (Instr.sliceBounds true (m + 1) (m + 1) (some (.int k 1)) none none).run P w = .ok (1, m + 1, m + 1) w := by
  simp [Instr.sliceBounds, e2]
 have key : (Instr.sliceAt t (.slice (some ⟨b, o, none⟩) (m + 1) (m + 1)) (some (.int k 1)) none none).run P w = .ok (.slice (some ⟨b, if m = 0 then o else o + 1, none⟩) m m) w := by
  simp [Instr.sliceAt, Instr.slice, run_underlying ht.h, e3, hz, Addr.add]
  split <;> simp
 simp only [execOp, hx, hy, Option.map_none, Option.map_some, Sem.run_bind, key, Result.andThen_ok]; rfl
end
end Go.Hw
namespace Go.Proofs.YtnnehiiblfmpnaaGreatDoor
open Go.Hw Go.Lib
set_option maxHeartbeats 4000000
set_option maxRecDepth 100000
section
variable {w0 w : World} {l : List HProp}
abbrev Any16 (w0 : World) (l : List HProp) (s : List UInt8) (v : Value) (w' : World) : Prop := ∃ (x : Nat) (ev : Value), v = .tuple [.int .u64 x, ev].toArray ∧ x < 18446744073709551616 ∧ (ev = .nilIface ∨ ∃ a b, ev = .iface a b) ∧ (∀ u, u < 18446744073709551616 → s = hexS u → x = u) ∧ St w0 l w'
theorem strconv_ParseUint16 (hE : Rn1 w0) {s : List UInt8} (hn : s.length ≤ 281474976710656) (h : St w0 l w) :
  Ret Tryz.prog 89 [.string (strB s), .int .i64 16, .int .i64 64] w (Any16 w0 l s) := by
 refine enter Tryz.func89 rfl Tryz.results89 Tryz.ntmps89 rfl ?_
 refine c_seq (c_region ?_)
 refine r_v (q_assignI rfl) rfl ?_
 refine r_v (q_assignN rfl) rfl ?_
 refine r_nil ?_
 refine c_seq (c_region ?_)
 refine r_v (q_moveZ rfl) rfl ?_; refine r_v (q_moveI rfl) rfl ?_; refine r_v (q_moveI rfl) rfl ?_
 refine r_c rfl (x_call rfl (sc_ParseUint16 hn h) ?_)
 clear h
 rintro _ w ⟨x, ev, rfl, hx, hev, ht, h⟩
 refine r_v (q_moveT rfl) rfl ?_; refine r_v (q_ext rfl rfl) rfl ?_; refine r_v (q_ext rfl rfl) rfl ?_; refine r_v (q_assignI rfl) rfl ?_
 refine r_v (q_assignE rfl hev.any) rfl ?_
 refine r_nil ?_
 refine c_seq (c_seq (c_region ?_))
 refine r_v (q_moveE rfl hev.any) rfl ?_
 refine r_v (q_neni (v := ev) err_iface rfl hev.any) rfl ?_
 by_cases hne : ev = .nilIface
 ·subst hne
  refine r_nil (c_false rfl (c_skip ?_))
  refine c_seq (c_region ?_)
  refine r_v (q_moveI rfl) rfl ?_; refine r_v (q_assignI rfl) rfl ?_
  refine r_v (q_assignN rfl) rfl ?_
  exact r_nil (c_ret (bq2 ⟨x, _, rfl, hx, .inl rfl, ht, h⟩))
 ·refine r_is (.bool true) (by rcases hev with rfl | rfl | rfl <;> first | rfl | exact absurd rfl hne) ?_
  refine r_nil (c_true rfl ?_)
  refine c_seq (c_region ?_)
  refine r_v (q_moveI rfl) rfl ?_; refine r_v (q_moveZ rfl) rfl ?_; refine r_v (q_moveI rfl) rfl ?_; refine r_v (q_moveI rfl) rfl ?_
  refine r_v (q_moveE rfl hev.any) rfl ?_
  refine r_c rfl (x_call rfl (sc_toError hE (fn := [80, 97, 114, 115, 101, 85, 105, 110, 116]) hn hev hne h) ?_)
  clear h
  rintro v2 w ⟨hv2, h⟩
  refine r_v (q_assignI rfl) rfl ?_
  refine r_v (q_assignE rfl hv2) rfl ?_
  exact r_nil (c_ret (bq2 ⟨x, _, rfl, hx, hv2, ht, h⟩))
abbrev Any10 (w0 : World) (l : List HProp) (s : List UInt8) (v : Value) (w' : World) : Prop := ∃ (x : Int) (ev : Value), v = .tuple [.int .i64 x, ev].toArray ∧ I64 x ∧ (ev = .nilIface ∨ ∃ a b, ev = .iface a b) ∧ (∀ n, I64 n → s = itoa n → x = n) ∧ St w0 l w'
theorem sc_ParseInt10 {s : List UInt8} (hn : s.length ≤ 281474976710656) (h : St w0 l w) :
  Ret Tryz.prog 131 [.string (strB s), .int .i64 10, .int .i64 64] w fun v w' => ∃ (x : Int) (ev : Value), v = .tuple [.int .i64 x, ev].toArray ∧ I64 x ∧ ErrOk ev ∧ (∀ n, I64 n → s = itoa n → x = n) ∧ St w0 l w' := by
 by_cases hs : s = []
 ·subst hs
  refine Ret.of (Tryz.internal_strconv_ParseInt_empty 10 64 w) fun e w' ⟨e1, e2⟩ => ⟨_, e1, 0, _, rfl, ⟨by decide, by decide⟩, .inr (.inl rfl), fun n hn hh => ?_, e2 ▸ h⟩
  exact absurd hh.symm (by unfold itoa; split <;> simp [decDigits_ne])
 ·refine Ret.of (Tryz.internal_strconv_ParseInt_10_at64 (strB s) (by rw [strB_size]; simpa using hs) (by rw [strB_size]; omega) w) fun e w' ⟨e1, e2⟩ => ?_
  have e3 : (strB s).data.toList = s := by simp [strB]
  rw [e3] at e1
  have h' : St w0 l w' := by
   rcases e2 with rfl | ⟨t, rfl⟩
   ·exact h
   ·exact h.bytesW _ _
  cases hp : parseIntB 64 s with
  | ok v =>
   rw [hp] at e1
   refine ⟨_, e1, v, _, rfl, parseIntB_I64 hp, .inl rfl, fun n hn hh => ?_, h'⟩
   have := parse_itoa hn
   rw [← hh, hp] at this
   exact NumEnd.ok.inj this
  | «syntax» =>
   rw [hp] at e1
   refine ⟨_, e1, 0, _, rfl, ⟨by decide, by decide⟩, .inr (.inl rfl), fun n hn hh => ?_, h'⟩
   have := parse_itoa hn
   rw [← hh, hp] at this; cases this
  | range =>
   rw [hp] at e1
   refine ⟨_, e1, _, _, rfl, intSat_I64 s, .inr (.inr rfl), fun n hn hh => ?_, h'⟩
   have := parse_itoa hn
   rw [← hh, hp] at this; cases this
theorem strconv_ParseInt10 (hE : Rn1 w0) {s : List UInt8} (hn : s.length ≤ 281474976710656) (h : St w0 l w) :
  Ret Tryz.prog 88 [.string (strB s), .int .i64 10, .int .i64 64] w (Any10 w0 l s) := by
 refine enter Tryz.func88 rfl Tryz.results88 Tryz.ntmps88 rfl ?_
 refine c_seq (c_region ?_)
 refine r_v (q_assignI rfl) rfl ?_
 refine r_v (q_assignN rfl) rfl ?_
 refine r_nil ?_
 refine c_seq (c_region ?_)
 refine r_v (q_moveZ rfl) rfl ?_; refine r_v (q_moveI rfl) rfl ?_; refine r_v (q_moveI rfl) rfl ?_
 refine r_c rfl (x_call rfl (sc_ParseInt10 hn h) ?_)
 clear h
 rintro _ w ⟨x, ev, rfl, hx, hev, ht, h⟩
 refine r_v (q_moveT rfl) rfl ?_; refine r_v (q_ext rfl rfl) rfl ?_; refine r_v (q_ext rfl rfl) rfl ?_; refine r_v (q_assignI rfl) rfl ?_
 refine r_v (q_assignE rfl hev.any) rfl ?_
 refine r_nil ?_
 refine c_seq (c_seq (c_region ?_))
 refine r_v (q_moveE rfl hev.any) rfl ?_
 refine r_v (q_neni (v := ev) err_iface rfl hev.any) rfl ?_
 by_cases hne : ev = .nilIface
 ·subst hne
  refine r_nil (c_false rfl (c_skip ?_))
  refine c_seq (c_region ?_)
  refine r_v (q_moveI rfl) rfl ?_; refine r_v (q_assignI rfl) rfl ?_
  refine r_v (q_assignN rfl) rfl ?_
  exact r_nil (c_ret (bq2 ⟨x, _, rfl, hx, .inl rfl, ht, h⟩))
 ·refine r_is (.bool true) (by rcases hev with rfl | rfl | rfl <;> first | rfl | exact absurd rfl hne) ?_
  refine r_nil (c_true rfl ?_)
  refine c_seq (c_region ?_)
  refine r_v (q_moveI rfl) rfl ?_; refine r_v (q_moveZ rfl) rfl ?_; refine r_v (q_moveI rfl) rfl ?_; refine r_v (q_moveI rfl) rfl ?_
  refine r_v (q_moveE rfl hev.any) rfl ?_
  refine r_c rfl (x_call rfl (sc_toError hE (fn := [80, 97, 114, 115, 101, 73, 110, 116]) hn hev hne h) ?_)
  clear h
  rintro v2 w ⟨hv2, h⟩
  refine r_v (q_assignI rfl) rfl ?_
  refine r_v (q_assignE rfl hv2) rfl ?_
  exact r_nil (c_ret (bq2 ⟨x, _, rfl, hx, hv2, ht, h⟩))
abbrev RdPt (p bw o n : Nat) : HProp := pt p (.cells [.slice (some ⟨bw, o, none⟩) n n].toArray 103 (0, 0))
abbrev WdPt (bw : Nat) (all : List (List UInt8)) : HProp := pt bw (.cells (all.map fun x => Value.string (strB x)).toArray 9 (0, 0))
abbrev Left (all ws : List (List UInt8)) (o : Nat) : Prop := ws = [] ∨ ws = all.drop o
theorem rd_word {p bw o : Nat} {all ws : List (List UInt8)} (ho : Left all ws o) (h : St w0 (RdPt p bw o ws.length :: WdPt bw all :: l) w) :
  Ret Tryz.prog 47 [.pointer (some ⟨p, 0, none⟩)] w fun v w' => v = .string (strB (ws.headD [])) ∧ ∃ o', Left all ws.tail o' ∧ St w0 (RdPt p bw o' ws.tail.length :: WdPt bw all :: l) w' := by
 refine enter Tryz.func47 rfl Tryz.results47 Tryz.ntmps47 rfl ?_
 refine c_seq (c_region ?_)
 refine r_v (q_assignZ rfl) rfl ?_
 refine r_nil ?_
 refine c_seq (c_seq (c_region ?_))
 refine r_v (q_moveP rfl) rfl ?_; refine r_v (q_nil rfl) rfl ?_; refine r_v (q_fa rfl) rfl ?_
 refine r_v (q_load (v := .slice (some ⟨bw, o, none⟩) ws.length ws.length) rfl (h.b 0 rfl) rfl) rfl ?_
 refine r_v (q_len rfl) rfl ?_; refine r_v (q_eql rfl rfl) rfl ?_
 cases ws with
 | nil =>
  refine r_nil (c_true rfl ?_)
  refine c_seq (c_region ?_)
  refine r_v (q_assignZ rfl) rfl ?_
  exact r_nil (c_ret (bq1 ⟨rfl, o, .inl rfl, h⟩))
 | cons x ws =>
  have ho : x :: ws = all.drop o := by rcases ho with h1 | h1; cases h1; exact h1
  have hget : all[o]? = some x := by
   have : (all.drop o)[0]? = some x := by rw [← ho]; rfl
   simpa using this
  refine r_is (.bool false) rfl ?_
  refine r_nil (c_false rfl (c_skip ?_))
  refine c_seq (c_region ?_)
  refine r_v (q_moveP rfl) rfl ?_; refine r_v (q_nil rfl) rfl ?_; refine r_v (q_fa rfl) rfl ?_
  refine r_v (q_load (v := .slice (some ⟨bw, o, none⟩) (ws.length + 1) (ws.length + 1)) rfl (h.b 0 rfl) rfl) rfl ?_
  refine r_v (q_idx (j := 0) (o' := o) rfl rfl rfl (Nat.succ_pos _) (by simp)) rfl ?_
  refine r_v (q_load (v := .string (strB x)) rfl (h.b 1 rfl) (by simp [hget])) rfl ?_
  refine r_v (q_assignZ rfl) rfl ?_
  refine r_nil ?_
  refine c_seq (c_region ?_)
  refine r_v (q_moveP rfl) rfl ?_; refine r_v (q_moveP rfl) rfl ?_; refine r_v (q_nil rfl) rfl ?_; refine r_v (q_fa rfl) rfl ?_
  refine r_v (q_load (v := .slice (some ⟨bw, o, none⟩) (ws.length + 1) (ws.length + 1)) rfl (h.b 0 rfl) rfl) rfl ?_
  refine r_v (q_rest (m := ws.length) rfl rfl rfl) rfl ?_
  refine r_v (q_nil rfl) rfl ?_; refine r_v (q_fa rfl) rfl ?_
  refine r_c rfl (x_store 0 h rfl (show _ = Value.slice (some ⟨bw, if ws.length = 0 then o else o + 1, none⟩) ws.length ws.length from rfl) rfl rfl rfl rfl fun w h => ?_)
  refine r_nil ?_
  refine c_seq (c_region ?_)
  refine r_v (q_moveZ rfl) rfl ?_; refine r_v (q_assignZ rfl) rfl ?_
  refine r_nil (c_ret (bq1 ⟨rfl, _, ?_, h⟩))
  by_cases h0 : ws.length = 0
  ·exact .inl (List.eq_nil_of_length_eq_zero h0)
  ·rw [if_neg h0]
   refine .inr ?_
   have : (all.drop o).tail = all.drop (o + 1) := by simp
   rw [← this, ← ho]
theorem rd_num (hE : Rn1 w0) {p bw o : Nat} {all ws : List (List UInt8)} (hn : ∀ x ∈ all, x.length ≤ 281474976710656) (ho : Left all ws o) (h : St w0 (RdPt p bw o ws.length :: WdPt bw all :: l) w) :
  Ret Tryz.prog 48 [.pointer (some ⟨p, 0, none⟩)] w fun v w' => ∃ x o', v = .int .i64 x ∧ I64 x ∧ (∀ n, I64 n → ws.headD [] = itoa n → x = n) ∧ Left all ws.tail o' ∧ St w0 (RdPt p bw o' ws.tail.length :: WdPt bw all :: l) w' := by
 have hw : (ws.headD []).length ≤ 281474976710656 := by
  rcases ho with rfl | h1
  ·simp
  ·cases ws with
   | nil => simp
   | cons x ws => exact hn x (List.mem_of_mem_drop (h1 ▸ List.mem_cons_self ..))
 refine enter Tryz.func48 rfl Tryz.results48 Tryz.ntmps48 rfl ?_
 refine c_seq (c_region ?_)
 refine r_v (q_assignI rfl) rfl ?_
 refine r_nil ?_
 refine c_seq (c_region ?_)
 refine r_v (q_moveP rfl) rfl ?_
 refine r_c rfl (x_call rfl (rd_word ho h) ?_)
 clear h
 rintro _ w ⟨rfl, o', ho', h⟩
 refine r_c rfl (x_call rfl (strconv_ParseInt10 hE hw h) ?_)
 clear h
 rintro _ w ⟨x, ev, rfl, hx, hev, ht, h⟩
 refine r_v (q_moveT rfl) rfl ?_; refine r_v (q_ext rfl rfl) rfl ?_; refine r_v (q_ext rfl rfl) rfl ?_; refine r_v (q_assignI rfl) rfl ?_
 refine r_v (q_assignE rfl hev) rfl ?_
 refine r_nil ?_
 refine c_seq (c_region ?_)
 refine r_v (q_moveI rfl) rfl ?_; refine r_v (q_assignI rfl) rfl ?_
 exact r_nil (c_ret (bq1 ⟨x, o', rfl, hx, ht, ho', h⟩))
theorem rd_value (hE : Rn1 w0) {p bw o : Nat} {all ws : List (List UInt8)} (hn : ∀ x ∈ all, x.length ≤ 281474976710656) (ho : Left all ws o) (h : St w0 (RdPt p bw o ws.length :: WdPt bw all :: l) w) :
  Ret Tryz.prog 49 [.pointer (some ⟨p, 0, none⟩)] w fun v w' => ∃ (x : Nat) (o' : Nat), v = .int .u64 x ∧ x < 18446744073709551616 ∧ (∀ u, u < 18446744073709551616 → ws.headD [] = hexS u → x = u) ∧ Left all ws.tail o' ∧ St w0 (RdPt p bw o' ws.tail.length :: WdPt bw all :: l) w' := by
 have hw : (ws.headD []).length ≤ 281474976710656 := by
  rcases ho with rfl | h1
  ·simp
  ·cases ws with
   | nil => simp
   | cons x ws => exact hn x (List.mem_of_mem_drop (h1 ▸ List.mem_cons_self ..))
 refine enter Tryz.func49 rfl Tryz.results49 Tryz.ntmps49 rfl ?_
 refine c_seq (c_region ?_)
 refine r_v (q_assignI rfl) rfl ?_
 refine r_nil ?_
 refine c_seq (c_region ?_)
 refine r_v (q_moveP rfl) rfl ?_
 refine r_c rfl (x_call rfl (rd_word ho h) ?_)
 clear h
 rintro _ w ⟨rfl, o', ho', h⟩
 refine r_c rfl (x_call rfl (strconv_ParseUint16 hE hw h) ?_)
 clear h
 rintro _ w ⟨x, ev, rfl, hx, hev, ht, h⟩
 refine r_v (q_moveT rfl) rfl ?_; refine r_v (q_ext rfl rfl) rfl ?_; refine r_v (q_ext rfl rfl) rfl ?_; refine r_v (q_assignI rfl) rfl ?_
 refine r_v (q_assignE rfl hev) rfl ?_
 refine r_nil ?_
 refine c_seq (c_region ?_)
 refine r_v (q_moveI rfl) rfl ?_; refine r_v (q_assignI rfl) rfl ?_
 exact r_nil (c_ret (bq1 ⟨x, o', rfl, hx, ht, ho', h⟩))
end
end Go.Proofs.YtnnehiiblfmpnaaGreatDoor

namespace Go.Hw
open Go.Lib
def wordOf (k : Int) : List UInt8 := if k = 1 then wAppend else if k = 2 then wRead else if k = 3 then wSeal else if k = 4 then wDelete else if k = 5 then wOpen else if k = 6 then wNext else if k = 7 then wClose else []
theorem opW_first (o : Opr) : (opW o).headD [] = wordOf o.kind := by
 unfold opW wordOf
 repeat' split
 all_goals rfl
theorem kinds {k : Int} (h1 : 1 ≤ k) (h2 : k ≤ 7) : k = 1 ∨ k = 2 ∨ k = 3 ∨ k = 4 ∨ k = 5 ∨ k = 6 ∨ k = 7 := by omega
theorem word_kind {k : Int} (h1 : 1 ≤ k) (h2 : k ≤ 7) : ∀ j, 1 ≤ j → j ≤ 7 → wordOf k = wordOf j → k = j := by
 intro j j1 j2
 rcases kinds h1 h2 with rfl | rfl | rfl | rfl | rfl | rfl | rfl <;> rcases kinds j1 j2 with rfl | rfl | rfl | rfl | rfl | rfl | rfl <;> decide
def Opr.Told (s : List UInt8) (o : Opr) : Prop := ∀ o' : Opr, o'.Wf → 1 ≤ o'.kind → o'.kind ≤ 7 → opS o' = s → o = o'.only
theorem told_words {s : List UInt8} {all : List (List UInt8)} (hsp : all = split s [32]) {o' : Opr} (k1 : 1 ≤ o'.kind) (k2 : o'.kind ≤ 7) (hs : opS o' = s) : all = opW o' := by
 rw [hsp, ← hs]; exact split_words (opW_kind.2 ⟨k1, k2⟩) (opW_words o')
theorem Opr.only_told {o o' : Opr} (h : o = o'.only) (k1 : 1 ≤ o'.kind) (k2 : o'.kind ≤ 7) : opS o = opS o' := by
 subst h
 unfold opS
 congr 1
 rcases kinds k1 k2 with hk | hk | hk | hk | hk | hk | hk <;> simp [Opr.only, opW, hk]
theorem splitB_small (sep : ByteArray) (save : Nat) : ∀ (k : Nat) (s x : ByteArray), x ∈ splitB sep save k s → x.size ≤ s.size
 | 0, s, x, h => by rw [splitB_zero] at h; rw [List.mem_singleton.1 h]; exact Nat.le_refl _
 | k + 1, s, x, h => by
  unfold splitB at h
  split at h
  ·rw [List.mem_singleton.1 h]; exact Nat.le_refl _
  ·rcases List.mem_cons.1 h with rfl | h
   ·rw [ByteArray.size_extract]; omega
   ·have := splitB_small sep save k _ x h
    rw [ByteArray.size_extract] at this; omega
end Go.Hw
namespace Go.Proofs.YtnnehiiblfmpnaaGreatDoor
open Go.Hw Go.Lib
set_option maxHeartbeats 4000000
set_option maxRecDepth 100000
structure Rp (W : World) : Prop where
 nm : Nm W
 rn : Rn1 W
 mx : 1 < W.heap.size ∧ ∃ m, W.cell? ⟨1, 0, none⟩ = some (.int .i64 m)
section
variable {w0 w : World} {l : List HProp}
theorem rp_split (hR : Rp w0) {s : List UInt8} (hn : s.length ≤ 65536) (h : St w0 l w) :
  Ret Tryz.prog 46 [.string (strB s), .string (strB [32])] w fun v w' => ∃ bw all, v = .slice (some ⟨bw, 0, none⟩) all.length all.length ∧ all = split s [32] ∧ (∀ x ∈ all, x.length ≤ 281474976710656) ∧ St w0 (WdPt bw all :: l) w' := by
 obtain ⟨hlt, m, hm⟩ := hR.mx
 refine Ret.of (Tryz.strings_Split (strB s) (strB [32]) m w (by rw [strB_size]; omega) ((h.cell_old hlt).trans hm) (by decide)) fun e w' ⟨e1, e2⟩ => ⟨_, e1, w.heap.size, (splitB (strB [32]) 0 (countB (strB s) (strB [32])) (strB s)).map (·.data.toList), ?_, ?_, ?_, ?_⟩
 ·rw [List.length_map, splitB_all (strB [32]) (by decide) 0 _ (strB s) rfl]
 ·rw [splitB_data]
  have e3 : (strB s).data.toList = s := by simp [strB]
  rw [e3]
  show splitK _ 0 (count _ _) s = splitK [32] 0 (count s [32]) s
  rw [e3]
  rfl
 ·intro x hx
  obtain ⟨y, hy, rfl⟩ := List.mem_map.1 hx
  have := splitB_small _ _ _ _ _ hy
  rw [strB_size] at this
  have e4 : y.data.toList.length = y.size := Array.length_toList
  omega
 ·rw [e2]
  have := h.alloc (.cells ((splitB (strB [32]) 0 (countB (strB s) (strB [32])) (strB s)).map Value.string).toArray 9)
  have e5 : ((splitB (strB [32]) 0 (countB (strB s) (strB [32])) (strB s)).map (·.data.toList)).map (fun x => Value.string (strB x)) = (splitB (strB [32]) 0 (countB (strB s) (strB [32])) (strB s)).map Value.string := by
   rw [List.map_map]
   refine List.map_congr_left fun y _ => ?_
   show Value.string ⟨y.data.toList.toArray⟩ = Value.string y
   rw [Array.toArray_toList]
  unfold WdPt
  rw [e5]
  exact this
abbrev OpPt (b : Nat) (o : Opr) : HProp := pt b (.cells o.C.toArray 32 (0, 0))
abbrev Parsed (w0 : World) (l : List HProp) (s : List UInt8) (v : Value) (w' : World) : Prop := ∃ (o : Opr) (ok : Bool), v = .tuple [.agg o.C.toArray, .bool ok].toArray ∧ o.Wf ∧ (ok = true → opS o = s ∧ s ≠ [] ∧ o = o.only ∧ o.Told s) ∧ (ok = false → o = Opr.zero ∧ ∀ o' : Opr, o'.Wf → 1 ≤ o'.kind → o'.kind ≤ 7 → opS o' ≠ s) ∧ St w0 l w'
theorem rept_Parse (hR : Rp w0) {s : List UInt8} (hn : s.length ≤ 65536) (h : St w0 l w) : Ret Tryz.prog 15 [.string (strB s)] w (Parsed w0 l s) := by
 have hE := hR.rn
 refine enter Tryz.func15 rfl Tryz.results15 Tryz.ntmps15 rfl ?_
 refine c_seq (c_region ?_)
 refine r_c rfl (x_alloc h fun bz w h => ?_)
 replace h : St w0 (OpPt bz Opr.zero :: l) w := h
 refine r_v (q_assignB rfl) rfl ?_
 refine r_nil ?_
 refine c_seq (c_region ?_)
 refine r_v (q_moveZ rfl) rfl ?_
 refine r_c rfl (x_call rfl (rp_split hR hn h) ?_)
 clear h
 rintro _ w ⟨bw, all, rfl, hsp, hall, h⟩
 refine r_v (q_build rfl) rfl ?_
 refine r_c rfl (x_box h (show _ = Value.agg [.slice (some ⟨bw, 0, none⟩) all.length all.length].toArray from rfl) fun p w h => ?_)
 replace h : St w0 (RdPt p bw 0 all.length :: WdPt bw all :: OpPt bz Opr.zero :: l) w := h
 refine r_v (q_assignP rfl) rfl ?_
 refine r_nil ?_
 refine c_seq (c_region ?_)
 refine r_c rfl (x_alloc h fun b5 w h => ?_)
 replace h : St w0 (RdPt p bw 0 all.length :: WdPt bw all :: OpPt b5 Opr.zero :: OpPt bz Opr.zero :: l) w := ((St.f 1 h).f 2).f 1
 refine r_nil ?_
 refine c_cut (Γ := Opr) (fun _ => [(0, .string (strB s)), (2, .pointer (some ⟨bz, 0, none⟩)), (5, .pointer (some ⟨b5, 0, none⟩))]) (fun o w => o.Wf ∧ o.Told s ∧ St w0 (OpPt b5 o :: OpPt bz Opr.zero :: l) w) ?_ ?_
 ·refine c_seq (c_region ?_)
  refine r_v (q_moveP rfl) rfl ?_
  refine r_c rfl (x_call rfl (rd_word (ws := all) (.inr rfl) h) ?_)
  clear h
  rintro _ w ⟨rfl, o1, ho1, h⟩
  refine r_nil ?_
  refine c_block ?_
  generalize hfw : all.headD [] = fw
  refine c_seq (c_region ?_)
  refine r_v (q_streq rfl rfl) rfl ?_
  refine r_is (.bool (decide (fw = wAppend))) (congrArg Value.bool (strB_same fw wAppend)) ?_
  refine r_v (q_assignB rfl) rfl ?_
  refine r_nil ?_
  by_cases h1 : fw = wAppend
  ·refine c_true (congrArg Value.bool (decide_eq_true h1)) ?_
   refine c_seq (c_region ?_)
   refine r_v (q_moveP rfl) rfl ?_
   refine r_c rfl (x_call rfl (rd_num (ws := all.tail) hE hall ho1 h) ?_)
   clear h
   rintro _ w ⟨x1, o2, rfl, i1, t1, ho2, h⟩
   refine r_v (q_build (r := (Opr.mk 1 x1 0 0 0 0 0 0).C) rfl) rfl ?_
   refine r_c rfl (x_storeA (vs := (Opr.mk 1 x1 0 0 0 0 0 0).C) 2 h rfl rfl rfl rfl rfl rfl rfl fun w h => ?_)
   replace h : St w0 (RdPt p bw o2 all.tail.tail.length :: WdPt bw all :: OpPt b5 (Opr.mk 1 x1 0 0 0 0 0 0) :: OpPt bz Opr.zero :: l) w := h
   refine r_nil ?_
   refine c_region ?_
   refine r_v (q_moveP rfl) rfl ?_
   refine r_c rfl (x_call rfl (rd_num (ws := all.tail.tail) hE hall ho2 h) ?_)
   clear h
   rintro _ w ⟨x2, o3, rfl, i2, t2, ho3, h⟩
   refine r_v (q_moveP rfl) rfl ?_
   refine r_c rfl (x_call rfl (rd_value (ws := all.tail.tail.tail) hE hall ho3 h) ?_)
   clear h
   rintro _ w ⟨x3, o4, rfl, i3, t3, ho4, h⟩
   refine r_v (q_fa rfl) rfl ?_
   refine r_c rfl (x_store 2 h rfl (show _ = Value.int .i64 x2 from rfl) rfl rfl rfl rfl fun w h => ?_)
   replace h : St w0 (RdPt p bw o4 all.tail.tail.tail.tail.length :: WdPt bw all :: OpPt b5 (Opr.mk 1 x1 0 x2 0 0 0 0) :: OpPt bz Opr.zero :: l) w := h
   refine r_v (q_fa rfl) rfl ?_
   refine r_c rfl (x_store 2 h rfl (show _ = Value.int .u64 x3 from rfl) rfl rfl rfl rfl fun w h => ?_)
   replace h : St w0 (RdPt p bw o4 all.tail.tail.tail.tail.length :: WdPt bw all :: OpPt b5 (Opr.mk 1 x1 0 x2 x3 0 0 0) :: OpPt bz Opr.zero :: l) w := h
   refine r_nil ⟨Opr.mk 1 x1 0 x2 x3 0 0 0, ⟨rfl, rfl, rfl, trivial⟩, ⟨(show I64 1 from ⟨by decide, by decide⟩), i1, (show I64 0 from ⟨by decide, by decide⟩), i2, i3, (show I64 0 from ⟨by decide, by decide⟩), (show I64 0 from ⟨by decide, by decide⟩), (show I64 0 from ⟨by decide, by decide⟩)⟩, fun o' wf' k1 k2 hs => ?_, h.drop.drop⟩
   have ha := told_words hsp k1 k2 hs
   have hk : o'.kind = 1 := word_kind k1 k2 1 (by decide) (by decide) (by rw [← opW_first, ← ha, hfw, h1]; rfl)
   obtain ⟨j0, j1, j2, j3, j4, j5, j6, j7⟩ := wf'
   have e1 := t1 o'.series j1 (by rw [ha]; simp [opW, hk])
   have e2 := t2 o'.T j3 (by rw [ha]; simp [opW, hk])
   have e3 := t3 o'.V j4 (by rw [ha]; simp [opW, hk])
   simp only [Opr.only, hk]
   subst e1 e2 e3
   rfl
  refine c_false (congrArg Value.bool (decide_eq_false h1)) ?_
  refine c_seq (c_region ?_)
  refine r_v (q_streq rfl rfl) rfl ?_
  refine r_is (.bool (decide (fw = wRead))) (congrArg Value.bool (strB_same fw wRead)) ?_
  refine r_v (q_assignB rfl) rfl ?_
  refine r_nil ?_
  by_cases h2 : fw = wRead
  ·refine c_true (congrArg Value.bool (decide_eq_true h2)) ?_
   refine c_seq (c_region ?_)
   refine r_v (q_moveP rfl) rfl ?_
   refine r_c rfl (x_call rfl (rd_num (ws := all.tail) hE hall ho1 h) ?_)
   clear h
   rintro _ w ⟨x1, o2, rfl, i1, t1, ho2, h⟩
   refine r_v (q_build (r := (Opr.mk 2 x1 0 0 0 0 0 0).C) rfl) rfl ?_
   refine r_c rfl (x_storeA (vs := (Opr.mk 2 x1 0 0 0 0 0 0).C) 2 h rfl rfl rfl rfl rfl rfl rfl fun w h => ?_)
   replace h : St w0 (RdPt p bw o2 all.tail.tail.length :: WdPt bw all :: OpPt b5 (Opr.mk 2 x1 0 0 0 0 0 0) :: OpPt bz Opr.zero :: l) w := h
   refine r_nil ?_
   refine c_region ?_
   refine r_v (q_moveP rfl) rfl ?_
   refine r_c rfl (x_call rfl (rd_num (ws := all.tail.tail) hE hall ho2 h) ?_)
   clear h
   rintro _ w ⟨x2, o3, rfl, i2, t2, ho3, h⟩
   refine r_v (q_moveP rfl) rfl ?_
   refine r_c rfl (x_call rfl (rd_num (ws := all.tail.tail.tail) hE hall ho3 h) ?_)
   clear h
   rintro _ w ⟨x3, o4, rfl, i3, t3, ho4, h⟩
   refine r_v (q_fa rfl) rfl ?_
   refine r_c rfl (x_store 2 h rfl (show _ = Value.int .i64 x2 from rfl) rfl rfl rfl rfl fun w h => ?_)
   replace h : St w0 (RdPt p bw o4 all.tail.tail.tail.tail.length :: WdPt bw all :: OpPt b5 (Opr.mk 2 x1 0 0 0 x2 0 0) :: OpPt bz Opr.zero :: l) w := h
   refine r_v (q_fa rfl) rfl ?_
   refine r_c rfl (x_store 2 h rfl (show _ = Value.int .i64 x3 from rfl) rfl rfl rfl rfl fun w h => ?_)
   replace h : St w0 (RdPt p bw o4 all.tail.tail.tail.tail.length :: WdPt bw all :: OpPt b5 (Opr.mk 2 x1 0 0 0 x2 x3 0) :: OpPt bz Opr.zero :: l) w := h
   refine r_nil ⟨Opr.mk 2 x1 0 0 0 x2 x3 0, ⟨rfl, rfl, rfl, trivial⟩, ⟨(show I64 2 from ⟨by decide, by decide⟩), i1, (show I64 0 from ⟨by decide, by decide⟩), (show I64 0 from ⟨by decide, by decide⟩), (show 0 < 18446744073709551616 by decide), i2, i3, (show I64 0 from ⟨by decide, by decide⟩)⟩, fun o' wf' k1 k2 hs => ?_, h.drop.drop⟩
   have ha := told_words hsp k1 k2 hs
   have hk : o'.kind = 2 := word_kind k1 k2 2 (by decide) (by decide) (by rw [← opW_first, ← ha, hfw, h2]; rfl)
   obtain ⟨j0, j1, j2, j3, j4, j5, j6, j7⟩ := wf'
   have e1 := t1 o'.series j1 (by rw [ha]; simp [opW, hk])
   have e2 := t2 o'.F j5 (by rw [ha]; simp [opW, hk])
   have e3 := t3 o'.To j6 (by rw [ha]; simp [opW, hk])
   simp only [Opr.only, hk]
   subst e1 e2 e3
   rfl
  refine c_false (congrArg Value.bool (decide_eq_false h2)) ?_
  refine c_seq (c_region ?_)
  refine r_v (q_streq rfl rfl) rfl ?_
  refine r_is (.bool (decide (fw = wSeal))) (congrArg Value.bool (strB_same fw wSeal)) ?_
  refine r_v (q_assignB rfl) rfl ?_
  refine r_nil ?_
  by_cases h3 : fw = wSeal
  ·refine c_true (congrArg Value.bool (decide_eq_true h3)) ?_
   refine c_region ?_
   refine r_v (q_moveP rfl) rfl ?_
   refine r_c rfl (x_call rfl (rd_num (ws := all.tail) hE hall ho1 h) ?_)
   clear h
   rintro _ w ⟨x1, o2, rfl, i1, t1, ho2, h⟩
   refine r_v (q_build (r := (Opr.mk 3 x1 0 0 0 0 0 0).C) rfl) rfl ?_
   refine r_c rfl (x_storeA (vs := (Opr.mk 3 x1 0 0 0 0 0 0).C) 2 h rfl rfl rfl rfl rfl rfl rfl fun w h => ?_)
   replace h : St w0 (RdPt p bw o2 all.tail.tail.length :: WdPt bw all :: OpPt b5 (Opr.mk 3 x1 0 0 0 0 0 0) :: OpPt bz Opr.zero :: l) w := h
   refine r_nil ⟨Opr.mk 3 x1 0 0 0 0 0 0, ⟨rfl, rfl, rfl, trivial⟩, ⟨(show I64 3 from ⟨by decide, by decide⟩), i1, (show I64 0 from ⟨by decide, by decide⟩), (show I64 0 from ⟨by decide, by decide⟩), (show 0 < 18446744073709551616 by decide), (show I64 0 from ⟨by decide, by decide⟩), (show I64 0 from ⟨by decide, by decide⟩), (show I64 0 from ⟨by decide, by decide⟩)⟩, fun o' wf' k1 k2 hs => ?_, h.drop.drop⟩
   have ha := told_words hsp k1 k2 hs
   have hk : o'.kind = 3 := word_kind k1 k2 3 (by decide) (by decide) (by rw [← opW_first, ← ha, hfw, h3]; rfl)
   obtain ⟨j0, j1, j2, j3, j4, j5, j6, j7⟩ := wf'
   have e1 := t1 o'.series j1 (by rw [ha]; simp [opW, hk])
   simp only [Opr.only, hk]
   subst e1
   rfl
  refine c_false (congrArg Value.bool (decide_eq_false h3)) ?_
  refine c_seq (c_region ?_)
  refine r_v (q_streq rfl rfl) rfl ?_
  refine r_is (.bool (decide (fw = wDelete))) (congrArg Value.bool (strB_same fw wDelete)) ?_
  refine r_v (q_assignB rfl) rfl ?_
  refine r_nil ?_
  by_cases h4 : fw = wDelete
  ·refine c_true (congrArg Value.bool (decide_eq_true h4)) ?_
   refine c_region ?_
   refine r_v (q_moveP rfl) rfl ?_
   refine r_c rfl (x_call rfl (rd_num (ws := all.tail) hE hall ho1 h) ?_)
   clear h
   rintro _ w ⟨x1, o2, rfl, i1, t1, ho2, h⟩
   refine r_v (q_build (r := (Opr.mk 4 x1 0 0 0 0 0 0).C) rfl) rfl ?_
   refine r_c rfl (x_storeA (vs := (Opr.mk 4 x1 0 0 0 0 0 0).C) 2 h rfl rfl rfl rfl rfl rfl rfl fun w h => ?_)
   replace h : St w0 (RdPt p bw o2 all.tail.tail.length :: WdPt bw all :: OpPt b5 (Opr.mk 4 x1 0 0 0 0 0 0) :: OpPt bz Opr.zero :: l) w := h
   refine r_nil ⟨Opr.mk 4 x1 0 0 0 0 0 0, ⟨rfl, rfl, rfl, trivial⟩, ⟨(show I64 4 from ⟨by decide, by decide⟩), i1, (show I64 0 from ⟨by decide, by decide⟩), (show I64 0 from ⟨by decide, by decide⟩), (show 0 < 18446744073709551616 by decide), (show I64 0 from ⟨by decide, by decide⟩), (show I64 0 from ⟨by decide, by decide⟩), (show I64 0 from ⟨by decide, by decide⟩)⟩, fun o' wf' k1 k2 hs => ?_, h.drop.drop⟩
   have ha := told_words hsp k1 k2 hs
   have hk : o'.kind = 4 := word_kind k1 k2 4 (by decide) (by decide) (by rw [← opW_first, ← ha, hfw, h4]; rfl)
   obtain ⟨j0, j1, j2, j3, j4, j5, j6, j7⟩ := wf'
   have e1 := t1 o'.series j1 (by rw [ha]; simp [opW, hk])
   simp only [Opr.only, hk]
   subst e1
   rfl
  refine c_false (congrArg Value.bool (decide_eq_false h4)) ?_
  refine c_seq (c_region ?_)
  refine r_v (q_streq rfl rfl) rfl ?_
  refine r_is (.bool (decide (fw = wOpen))) (congrArg Value.bool (strB_same fw wOpen)) ?_
  refine r_v (q_assignB rfl) rfl ?_
  refine r_nil ?_
  by_cases h5 : fw = wOpen
  ·refine c_true (congrArg Value.bool (decide_eq_true h5)) ?_
   refine c_seq (c_region ?_)
   refine r_v (q_moveP rfl) rfl ?_
   refine r_c rfl (x_call rfl (rd_num (ws := all.tail) hE hall ho1 h) ?_)
   clear h
   rintro _ w ⟨x1, o2, rfl, i1, t1, ho2, h⟩
   refine r_v (q_build (r := (Opr.mk 5 x1 0 0 0 0 0 0).C) rfl) rfl ?_
   refine r_c rfl (x_storeA (vs := (Opr.mk 5 x1 0 0 0 0 0 0).C) 2 h rfl rfl rfl rfl rfl rfl rfl fun w h => ?_)
   replace h : St w0 (RdPt p bw o2 all.tail.tail.length :: WdPt bw all :: OpPt b5 (Opr.mk 5 x1 0 0 0 0 0 0) :: OpPt bz Opr.zero :: l) w := h
   refine r_nil ?_
   refine c_region ?_
   refine r_v (q_moveP rfl) rfl ?_
   refine r_c rfl (x_call rfl (rd_num (ws := all.tail.tail) hE hall ho2 h) ?_)
   clear h
   rintro _ w ⟨x2, o3, rfl, i2, t2, ho3, h⟩
   refine r_v (q_moveP rfl) rfl ?_
   refine r_c rfl (x_call rfl (rd_num (ws := all.tail.tail.tail) hE hall ho3 h) ?_)
   clear h
   rintro _ w ⟨x3, o4, rfl, i3, t3, ho4, h⟩
   refine r_v (q_fa rfl) rfl ?_
   refine r_c rfl (x_store 2 h rfl (show _ = Value.int .i64 x2 from rfl) rfl rfl rfl rfl fun w h => ?_)
   replace h : St w0 (RdPt p bw o4 all.tail.tail.tail.tail.length :: WdPt bw all :: OpPt b5 (Opr.mk 5 x1 0 0 0 x2 0 0) :: OpPt bz Opr.zero :: l) w := h
   refine r_v (q_fa rfl) rfl ?_
   refine r_c rfl (x_store 2 h rfl (show _ = Value.int .i64 x3 from rfl) rfl rfl rfl rfl fun w h => ?_)
   replace h : St w0 (RdPt p bw o4 all.tail.tail.tail.tail.length :: WdPt bw all :: OpPt b5 (Opr.mk 5 x1 0 0 0 x2 x3 0) :: OpPt bz Opr.zero :: l) w := h
   refine r_nil ⟨Opr.mk 5 x1 0 0 0 x2 x3 0, ⟨rfl, rfl, rfl, trivial⟩, ⟨(show I64 5 from ⟨by decide, by decide⟩), i1, (show I64 0 from ⟨by decide, by decide⟩), (show I64 0 from ⟨by decide, by decide⟩), (show 0 < 18446744073709551616 by decide), i2, i3, (show I64 0 from ⟨by decide, by decide⟩)⟩, fun o' wf' k1 k2 hs => ?_, h.drop.drop⟩
   have ha := told_words hsp k1 k2 hs
   have hk : o'.kind = 5 := word_kind k1 k2 5 (by decide) (by decide) (by rw [← opW_first, ← ha, hfw, h5]; rfl)
   obtain ⟨j0, j1, j2, j3, j4, j5, j6, j7⟩ := wf'
   have e1 := t1 o'.series j1 (by rw [ha]; simp [opW, hk])
   have e2 := t2 o'.F j5 (by rw [ha]; simp [opW, hk])
   have e3 := t3 o'.To j6 (by rw [ha]; simp [opW, hk])
   simp only [Opr.only, hk]
   subst e1 e2 e3
   rfl
  refine c_false (congrArg Value.bool (decide_eq_false h5)) ?_
  refine c_seq (c_region ?_)
  refine r_v (q_streq rfl rfl) rfl ?_
  refine r_is (.bool (decide (fw = wNext))) (congrArg Value.bool (strB_same fw wNext)) ?_
  refine r_v (q_assignB rfl) rfl ?_
  refine r_nil ?_
  by_cases h6 : fw = wNext
  ·refine c_true (congrArg Value.bool (decide_eq_true h6)) ?_
   refine c_seq (c_region ?_)
   refine r_v (q_moveP rfl) rfl ?_
   refine r_c rfl (x_call rfl (rd_num (ws := all.tail) hE hall ho1 h) ?_)
   clear h
   rintro _ w ⟨x1, o2, rfl, i1, t1, ho2, h⟩
   refine r_v (q_build (r := (Opr.mk 6 0 x1 0 0 0 0 0).C) rfl) rfl ?_
   refine r_c rfl (x_storeA (vs := (Opr.mk 6 0 x1 0 0 0 0 0).C) 2 h rfl rfl rfl rfl rfl rfl rfl fun w h => ?_)
   replace h : St w0 (RdPt p bw o2 all.tail.tail.length :: WdPt bw all :: OpPt b5 (Opr.mk 6 0 x1 0 0 0 0 0) :: OpPt bz Opr.zero :: l) w := h
   refine r_nil ?_
   refine c_region ?_
   refine r_v (q_moveP rfl) rfl ?_
   refine r_c rfl (x_call rfl (rd_num (ws := all.tail.tail) hE hall ho2 h) ?_)
   clear h
   rintro _ w ⟨x2, o3, rfl, i2, t2, ho3, h⟩
   refine r_v (q_fa rfl) rfl ?_
   refine r_c rfl (x_store 2 h rfl (show _ = Value.int .i64 x2 from rfl) rfl rfl rfl rfl fun w h => ?_)
   replace h : St w0 (RdPt p bw o3 all.tail.tail.tail.length :: WdPt bw all :: OpPt b5 (Opr.mk 6 0 x1 0 0 0 0 x2) :: OpPt bz Opr.zero :: l) w := h
   refine r_nil ⟨Opr.mk 6 0 x1 0 0 0 0 x2, ⟨rfl, rfl, rfl, trivial⟩, ⟨(show I64 6 from ⟨by decide, by decide⟩), (show I64 0 from ⟨by decide, by decide⟩), i1, (show I64 0 from ⟨by decide, by decide⟩), (show 0 < 18446744073709551616 by decide), (show I64 0 from ⟨by decide, by decide⟩), (show I64 0 from ⟨by decide, by decide⟩), i2⟩, fun o' wf' k1 k2 hs => ?_, h.drop.drop⟩
   have ha := told_words hsp k1 k2 hs
   have hk : o'.kind = 6 := word_kind k1 k2 6 (by decide) (by decide) (by rw [← opW_first, ← ha, hfw, h6]; rfl)
   obtain ⟨j0, j1, j2, j3, j4, j5, j6, j7⟩ := wf'
   have e1 := t1 o'.iter j2 (by rw [ha]; simp [opW, hk])
   have e2 := t2 o'.N j7 (by rw [ha]; simp [opW, hk])
   simp only [Opr.only, hk]
   subst e1 e2
   rfl
  refine c_false (congrArg Value.bool (decide_eq_false h6)) ?_
  refine c_seq (c_region ?_)
  refine r_v (q_streq rfl rfl) rfl ?_
  refine r_is (.bool (decide (fw = wClose))) (congrArg Value.bool (strB_same fw wClose)) ?_
  refine r_v (q_assignB rfl) rfl ?_
  refine r_nil ?_
  by_cases h7 : fw = wClose
  ·refine c_true (congrArg Value.bool (decide_eq_true h7)) ?_
   refine c_region ?_
   refine r_v (q_moveP rfl) rfl ?_
   refine r_c rfl (x_call rfl (rd_num (ws := all.tail) hE hall ho1 h) ?_)
   clear h
   rintro _ w ⟨x1, o2, rfl, i1, t1, ho2, h⟩
   refine r_v (q_build (r := (Opr.mk 7 0 x1 0 0 0 0 0).C) rfl) rfl ?_
   refine r_c rfl (x_storeA (vs := (Opr.mk 7 0 x1 0 0 0 0 0).C) 2 h rfl rfl rfl rfl rfl rfl rfl fun w h => ?_)
   replace h : St w0 (RdPt p bw o2 all.tail.tail.length :: WdPt bw all :: OpPt b5 (Opr.mk 7 0 x1 0 0 0 0 0) :: OpPt bz Opr.zero :: l) w := h
   refine r_nil ⟨Opr.mk 7 0 x1 0 0 0 0 0, ⟨rfl, rfl, rfl, trivial⟩, ⟨(show I64 7 from ⟨by decide, by decide⟩), (show I64 0 from ⟨by decide, by decide⟩), i1, (show I64 0 from ⟨by decide, by decide⟩), (show 0 < 18446744073709551616 by decide), (show I64 0 from ⟨by decide, by decide⟩), (show I64 0 from ⟨by decide, by decide⟩), (show I64 0 from ⟨by decide, by decide⟩)⟩, fun o' wf' k1 k2 hs => ?_, h.drop.drop⟩
   have ha := told_words hsp k1 k2 hs
   have hk : o'.kind = 7 := word_kind k1 k2 7 (by decide) (by decide) (by rw [← opW_first, ← ha, hfw, h7]; rfl)
   obtain ⟨j0, j1, j2, j3, j4, j5, j6, j7⟩ := wf'
   have e1 := t1 o'.iter j2 (by rw [ha]; simp [opW, hk])
   simp only [Opr.only, hk]
   subst e1
   rfl
  refine c_false (congrArg Value.bool (decide_eq_false h7)) ?_
  refine c_skip ⟨Opr.zero, ⟨rfl, rfl, rfl, trivial⟩, ⟨⟨by decide, by decide⟩, ⟨by decide, by decide⟩, ⟨by decide, by decide⟩, ⟨by decide, by decide⟩, by decide, ⟨by decide, by decide⟩, ⟨by decide, by decide⟩, ⟨by decide, by decide⟩⟩, fun o' wf' k1 k2 hs => ?_, h.drop.drop⟩
  have ha := told_words hsp k1 k2 hs
  have hw := opW_first o'
  rw [← ha, hfw] at hw
  rcases kinds k1 k2 with hk | hk | hk | hk | hk | hk | hk
  ·exact absurd (hw.trans (by rw [hk]; rfl)) h1
  ·exact absurd (hw.trans (by rw [hk]; rfl)) h2
  ·exact absurd (hw.trans (by rw [hk]; rfl)) h3
  ·exact absurd (hw.trans (by rw [hk]; rfl)) h4
  ·exact absurd (hw.trans (by rw [hk]; rfl)) h5
  ·exact absurd (hw.trans (by rw [hk]; rfl)) h6
  ·exact absurd (hw.trans (by rw [hk]; rfl)) h7
 clear h
 rintro o w e ⟨ho, ht, h⟩
 have hz : Opr.zero.Wf := ⟨⟨by decide, by decide⟩, ⟨by decide, by decide⟩, ⟨by decide, by decide⟩, ⟨by decide, by decide⟩, by decide, ⟨by decide, by decide⟩, ⟨by decide, by decide⟩, ⟨by decide, by decide⟩⟩
 refine c_seq (c_seq (c_region ?_))
 refine r_v (q_moveZ rfl) rfl ?_; refine r_v (q_streq rfl rfl) rfl ?_
 refine r_is (.bool (decide (s = []))) (congrArg Value.bool (strB_same s [])) ?_
 by_cases hs0 : s = []
 ·refine r_is (.bool true) (congrArg Value.bool (decide_eq_true hs0)) ?_
  refine r_v (q_moveB rfl) rfl ?_; refine r_gn rfl rfl rfl ?_; refine r_gn rfl rfl rfl ?_; refine r_gn rfl rfl rfl ?_; refine r_gn rfl rfl rfl ?_; refine r_v (q_pick1 rfl rfl rfl) rfl ?_
  refine r_nil (c_true rfl ?_)
  refine c_seq (c_region ?_)
  refine r_v (q_build (r := Opr.zero.C) rfl) rfl ?_
  refine r_c rfl (x_storeA (vs := Opr.zero.C) 1 h rfl rfl rfl rfl rfl rfl rfl fun w h => ?_)
  replace h : St w0 (OpPt b5 o :: OpPt bz Opr.zero :: l) w := h
  refine r_v (q_assignB rfl) rfl ?_
  refine r_nil (c_ret (bqS2 (l := Opr.zero.C) rfl rfl (at_of (h.b 1 rfl) rfl) ⟨Opr.zero, false, rfl, hz, fun hh => (by cases hh), fun _ => ⟨rfl, fun o' wf' k1 k2 hs => ?_⟩, h.drop.drop⟩))
  rw [hs0] at hs
  exact opS_ne.2 ⟨k1, k2⟩ hs
 refine r_is (.bool false) (congrArg Value.bool (decide_eq_false hs0)) ?_
 refine r_v (q_moveB rfl) rfl ?_; refine r_gd rfl rfl ?_
 refine r_v (q_loadS (l := o.C) rfl rfl (at_of (h.b 0 rfl) rfl)) rfl ?_
 refine r_gd rfl rfl ?_
 refine r_c rfl (x_call rfl (rept_Op hR.nm ho h) ?_)
 clear h
 rintro _ w ⟨rfl, h⟩
 refine r_gd rfl rfl ?_; refine r_v (q_moveZ rfl) rfl ?_; refine r_gd rfl rfl ?_; refine r_v (q_strne rfl rfl) rfl ?_
 refine r_is (.bool (!decide (opS o = s))) (congrArg (fun x => Value.bool (!x)) (strB_same (opS o) s)) ?_
 by_cases hop : opS o = s
 ·refine r_is (.bool false) (by rw [decide_eq_true hop]; rfl) ?_
  refine r_v (q_pick0 rfl rfl rfl) rfl ?_
  refine r_nil (c_false rfl (c_skip ?_))
  refine c_seq (c_region ?_)
  refine r_v (q_loadS (l := o.C) rfl rfl (at_of (h.b 0 rfl) rfl)) rfl ?_
  refine r_c rfl (x_storeA (vs := o.C) 1 h rfl rfl rfl rfl rfl rfl rfl fun w h => ?_)
  replace h : St w0 (OpPt b5 o :: OpPt bz o :: l) w := h
  refine r_v (q_assignB rfl) rfl ?_
  have hk := opS_ne.1 (fun hh => hs0 (hop.symm.trans hh))
  exact r_nil (c_ret (bqS2 (l := o.C) rfl rfl (at_of (h.b 1 rfl) rfl) ⟨o, true, rfl, ho, fun _ => ⟨hop, hs0, ht o ho hk.1 hk.2 hop, ht⟩, fun hh => (by cases hh), h.drop.drop⟩))
 ·refine r_is (.bool true) (by rw [decide_eq_false hop]; rfl) ?_
  refine r_v (q_pick0 rfl rfl rfl) rfl ?_
  refine r_nil (c_true rfl ?_)
  refine c_seq (c_region ?_)
  refine r_v (q_build (r := Opr.zero.C) rfl) rfl ?_
  refine r_c rfl (x_storeA (vs := Opr.zero.C) 1 h rfl rfl rfl rfl rfl rfl rfl fun w h => ?_)
  replace h : St w0 (OpPt b5 o :: OpPt bz Opr.zero :: l) w := h
  refine r_v (q_assignB rfl) rfl ?_
  refine r_nil (c_ret (bqS2 (l := Opr.zero.C) rfl rfl (at_of (h.b 1 rfl) rfl) ⟨Opr.zero, false, rfl, hz, fun hh => (by cases hh), fun _ => ⟨rfl, fun o' wf' k1 k2 hs => ?_⟩, h.drop.drop⟩))
  exact hop ((Opr.only_told (ht o' wf' k1 k2 hs) k1 k2).trans hs)
end
end Go.Proofs.YtnnehiiblfmpnaaGreatDoor

namespace Go.Proofs.YtnnehiiblfmpnaaGreatDoor
open Go.Hw Go.ChangeShapes Go.WideShapes Go.ChangeAt Go.RowKit Go.Lib
set_option maxRecDepth 100000
abbrev laid7 : List (String × DataW Unit) := [("math/bits.deBruijn32tab", Rows.laid_math_bits_deBruijn32tab), ("math/bits.deBruijn64tab", Rows.laid_math_bits_deBruijn64tab), ("internal/strconv.uint64pow10", Rows.laid_internal_strconv_uint64pow10), ("unicode/utf8.acceptRanges", Rows.laid_unicode_utf8_acceptRanges), ("strconv.ErrRange", Rows.laid_strconv_ErrRange), ("strconv.ErrSyntax", Rows.laid_strconv_ErrSyntax), ("unicode/utf8.first", Rows.laid_unicode_utf8_first)]
theorem deB_data {H : Type} : (Rows.laid_math_bits_deBruijn64tab : DataW H) = tabData .u8 (deB.map fun (v : Nat) => (v : Int)) := rfl
theorem pow_data {H : Type} : (Rows.laid_internal_strconv_uint64pow10 : DataW H) = tabData .u64 pow10Tab := by
 unfold tabData pow10Tab
 rfl
theorem cell_lt {W : World} {g i : Nat} {v : Value} (h : W.cell? ⟨g, i, none⟩ = some v) : g < W.heap.size := by
 unfold World.cell? at h
 split at h
 ·rename_i hh
  exact (Array.getElem?_eq_some_iff.1 hh).1
 ·cases h
theorem row_errorString (u : TypeId) (h : Tryz.prog.typeName? 3 u = some "*errors.errorString") : u = 332 :=
 typeName_ptr_named (nm := "errors.errorString") (by rw [show "*" ++ "errors.errorString" = "*errors.errorString" by decide]; kernel_rfl) (by kernel_rfl) (by decide) u (by rw [show "*" ++ "errors.errorString" = "*errors.errorString" by decide]; exact h)
theorem rp_of_laid {W : World} (h : laidMetH Tryz.prog laid7 W) (hsh : W.ShapedOpen Tryz.prog) : Rp W := by
 rw [MakeChecks.laidMetH_plain _ _ _ (by kernel_rfl)] at h
 have h1 := h.tail
 have h2 := h1.tail
 have h3 := h2.tail.tail
 have h4 := h3.tail
 rw [deB_data] at h1
 rw [pow_data] at h2
 have t1 : TabIs Tryz.prog W "math/bits.deBruijn64tab" .u8 (deB.map fun (v : Nat) => (v : Int)) := tabIs_of_head (g := 7) (t := 355) (e := 5) (n := 64) (by kernel_rfl) (by kernel_rfl) Tryz.underlying355 Tryz.underlying5 (by kernel_rfl) (by kernel_rfl) h1
 have t2 : TabIs Tryz.prog W "internal/strconv.uint64pow10" .u64 pow10Tab := tabIs_of_head (g := 0) (t := 309) (e := 30) (n := 20) (by kernel_rfl) (by kernel_rfl) Tryz.underlying309 Tryz.underlying30 (by kernel_rfl) (by kernel_rfl) h2
 have c1 : ∀ i v : Nat, deB[i]? = some v → W.cell? ⟨7, i, none⟩ = some (.int .u8 v) := fun i v hi => by
  have hlt : i < (deB.map fun (v : Nat) => (v : Int)).length := by simpa using (List.getElem?_eq_some_iff.1 hi).1
  have := t1.cell (g := 7) (by kernel_rfl) i hlt
  rw [this, List.getD_eq_getElem?_getD, List.getElem?_map, hi]
  rfl
 obtain ⟨a3, s3, v3, _, _, _⟩ := laid_sentinel h3 (g := 3) (ti := 93) (by kernel_rfl) (by kernel_rfl) Tryz.underlying93 row_errorString Tryz.underlying332 Tryz.underlying334 rfl rfl Tryz.underlying9 (by kernel_rfl) (by kernel_rfl)
 obtain ⟨a4, s4, v4, _, _, _⟩ := laid_sentinel h4 (g := 2) (ti := 93) (by kernel_rfl) (by kernel_rfl) Tryz.underlying93 row_errorString Tryz.underlying332 Tryz.underlying334 rfl rfl Tryz.underlying9 (by kernel_rfl) (by kernel_rfl)
 have d3 := World.var?_cell (show Tryz.prog.globalNamed "strconv.ErrRange" = some 3 by kernel_rfl) v3 0
 have d4 := World.var?_cell (show Tryz.prog.globalNamed "strconv.ErrSyntax" = some 2 by kernel_rfl) v4 0
 obtain ⟨m, hm⟩ := cell_of_shapedOpen_int (P := Tryz.prog) (g := 1) (t := 3) (zero := #[.int .i64 0]) hsh (of_decide_eq_true (by kernel_rfl)) (by kernel_rfl) rfl (by kernel_rfl) (by kernel_rfl) Tryz.underlying3
 exact ⟨⟨⟨cell_lt (c1 0 0 rfl), c1⟩, t2⟩, ⟨⟨cell_lt (d4.trans rfl), _, d4.trans rfl, .inr ⟨_, _, rfl⟩⟩, ⟨cell_lt (d3.trans rfl), _, d3.trans rfl, .inr ⟨_, _, rfl⟩⟩⟩, ⟨cell_lt hm, m, hm⟩⟩
end Go.Proofs.YtnnehiiblfmpnaaGreatDoor

namespace Go.Hw
open Go.ChangeShapes Go.WideShapes Go.ChangeAt Go.RowKit

section
variable {H : Type} {enc : TypeId × Value → H} {P : Program} {W : World} {r : Reach} {b0 : Nat}
theorem trod_ints {e : TypeId} {ks : List IntKind} [he : EqI P e ks] (hC : P.cellsOf e = ks.length) (h1 : ((P.fieldsOf e).toList.all fun f => P.cellsOf f.type == 1) = true) {base n : Nat} {spare : Nat → Bool} {held : Bool} {cs : List Value} {y : DataW H × List MemPlace}
  (h : DataW.trod enc P W base spare held n e cs = some y) : ∃ aL : List Int, aL.length = ks.length ∧ cs = ints ks aL ∧ ∀ (j : Nat) k a, ks[j]? = some k → aL[j]? = some a → (Lit.int k a).wf = true := by
 obtain ⟨fl, hu, hf⟩ := he.u
 obtain ⟨xs, m, _, _, hlen, hxl, hg⟩ := DataW.trod_struct hu h
 rw [hC] at hlen
 have hfl : fl.length = ks.length := by have := congrArg List.length hf; simpa using this
 have hfo : P.fieldsOf e = fl.toArray := by unfold Program.fieldsOf; rw [hu]
 rw [hfo] at h1
 have each : ∀ j, j < ks.length → ∃ a : Int, ∀ k, ks[j]? = some k → cs[j]? = some (.int k a) ∧ (Lit.int k a).wf = true := by
  intro j hj
  have hfj : fl[j]? = some (fl[j]'(by omega)) := List.getElem?_eq_getElem (by omega)
  have hff := congrArg (fun l => l[j]?) hf
  simp only [List.getElem?_map, hfj, Option.map_some, List.getElem?_zipIdx, List.getElem?_eq_getElem hj, Nat.zero_add, Option.some.injEq, Prod.mk.injEq] at hff
  obtain ⟨_, ho, ht⟩ := hff
  have hc1 : P.cellsOf (fl[j]'(by omega)).type = 1 := by
   have := List.all_eq_true.1 h1 _ (List.getElem_mem (show j < fl.length by omega))
   simpa using this
  have h2 := hg j (fl[j]'(by omega)) (by rw [List.getElem?_toArray]; exact hfj)
  rw [ho, hc1] at h2
  have hxj : xs[j]? = some (xs[j]'(by rw [hxl]; simpa using by omega)) := List.getElem?_eq_getElem _
  rw [hxj] at h2
  obtain ⟨a, h3, _, h4⟩ := DataW.trod_int ht h2
  refine ⟨a, fun k hk => ?_⟩
  rw [List.getElem?_eq_getElem hj] at hk
  cases hk
  refine ⟨?_, h4⟩
  have hcj : j < cs.length := by omega
  rw [List.getElem?_eq_getElem hcj]
  have h5 : List.take 1 (List.drop j cs) = [cs[j]] := by rw [List.drop_eq_getElem_cons hcj]; rfl
  rw [h5] at h3
  simpa using h3
 obtain ⟨f, hf'⟩ := Go.Deep.choose_lt each
 refine ⟨(List.range ks.length).map f, by simp, ?_, ?_⟩
 ·apply List.ext_getElem?
  intro j
  rw [ints_get]
  by_cases hj : j < ks.length
  ·rw [(hf' j hj _ (List.getElem?_eq_getElem hj)).1]
   simp [hj]
  ·rw [List.getElem?_eq_none (by omega), List.getElem?_eq_none (show ks.length ≤ j by omega)]
   rfl
 ·intro j k a hk ha
  have hj : j < ks.length := (List.getElem?_eq_some_iff.1 hk).1
  simp [hj] at ha
  subst ha
  exact (hf' j hj k hk).2
theorem arg_structs {α : Type} [Inhabited α] {t e : TypeId} {ks : List IntKind} [he : EqI P e ks] {v : Value} {d : DataW H} {p : List MemPlace} (cf : α → List Value) (good : α → Prop) (hcf : ∀ x, (cf x).length = ks.length)
  (hmk : ∀ aL : List Int, aL.length = ks.length → (∀ (j : Nat) k a, ks[j]? = some k → aL[j]? = some a → (Lit.int k a).wf = true) → ∃ x, cf x = ints ks aL ∧ good x)
  (ht : P.underlying t = some (.slice e)) (hC : P.cellsOf e = ks.length) (hks : 0 < ks.length) (h1 : ((P.fieldsOf e).toList.all fun f => P.cellsOf f.type == 1) = true)
  (hval : Value.okWide P W r b0 t v) (h : DataW.Trod enc P W 0 (fun _ => true) true t v d p) (hlt : ∀ x ∈ p, x.block < W.heap.size) :
  ∃ (a : Option Addr) (n c : Nat) (xs : List α), v = .slice a n c ∧ n ≤ maxLen ∧ (∀ x ∈ xs, good x) ∧ Rd W ks.length a n (xs.flatMap cf) ∧ ∀ b o, a = some ⟨b, o, none⟩ → 0 < n → b < W.heap.size := by
 obtain ⟨a0, len, cap, rfl⟩ := okWide_slice ht hval
 obtain ⟨fuel, hf⟩ := h
 rcases Go.Deep.open_slice ht hf with ⟨hcs, hx⟩ | ⟨a, len', cap', m, n, D, Pl, hcs, _, hl, hm, hmm, hx, hel⟩
 ·simp [Value.cells] at hcs
  obtain ⟨rfl, rfl, rfl⟩ := hcs
  exact ⟨none, 0, 0, [], rfl, Nat.zero_le _, (fun _ h => by cases h), ⟨by simp, .inl rfl⟩, fun _ _ h => by cases h⟩
 ·simp [Value.cells] at hcs
  obtain ⟨rfl, rfl, rfl⟩ := hcs
  simp only [Prod.mk.injEq] at hx
  obtain ⟨rfl, rfl⟩ := hx
  simp only [if_true] at hmm
  subst hmm
  have each : ∀ i, i < len → ∃ x : α, good x ∧ ∀ j v, (cf x)[j]? = some v → W.cell? ((a.add (i * ks.length)).add j) = some v := by
   intro i hi
   obtain ⟨cs', hc, htr⟩ := hel i (by omega)
   rw [hC] at hc
   obtain ⟨aL, h2, h3, h4⟩ := trod_ints hC h1 htr
   obtain ⟨x, h5, h6⟩ := hmk aL h2 h4
   refine ⟨x, h6, fun j v hj => ?_⟩
   obtain ⟨_, hcl, hat⟩ := World.cells?_some hc
   have hj' : j < ks.length := by have := (List.getElem?_eq_some_iff.1 hj).1; rwa [hcf] at this
   rw [hat j hj', h3, ← h5]
   exact hj
  obtain ⟨f, hf'⟩ := Go.Deep.choose_lt each
  refine ⟨some a, len, _, (List.range len).map f, rfl, Nat.le_trans hl hm, ?_, ⟨by rw [flat_len hcf]; simp, ?_⟩, ?_⟩
  ·intro x hx
   simp only [List.mem_map, List.mem_range] at hx
   obtain ⟨i, hi, rfl⟩ := hx
   exact (hf' i hi).1
  ·rcases Nat.eq_zero_or_pos len with h0 | h0
   ·exact .inl h0
   ·obtain ⟨b, off, spot⟩ := a
    have hc0 := (hf' 0 h0).2 0 _ (List.getElem?_eq_getElem (show 0 < (cf (f 0)).length by rw [hcf]; exact hks))
    have hspot : spot = none := by simpa [Addr.add] using World.cell?_spot hc0
    subst hspot
    refine .inr ⟨b, off, rfl, fun j v hj => ?_⟩
    have hjl : j < len * ks.length := by
     have := (List.getElem?_eq_some_iff.1 hj).1
     rw [flat_len hcf] at this
     simpa using this
    have hi : j / ks.length < len := (Nat.div_lt_iff_lt_mul hks).2 hjl
    have hjj : j = j / ks.length * ks.length + j % ks.length := by rw [Nat.mul_comm]; exact (Nat.div_add_mod _ _).symm
    have hmod : j % ks.length < (cf (f (j / ks.length))).length := by rw [hcf]; exact Nat.mod_lt _ hks
    have hv := flat_get hcf ((List.range len).map f) (j / ks.length) (f (j / ks.length)) (by simp [hi]) (j % ks.length) _ (List.getElem?_eq_getElem hmod)
    rw [← hjj, hj] at hv
    cases hv
    have := (hf' _ hi).2 _ _ (List.getElem?_eq_getElem hmod)
    rw [Go.Deep.add_add, ← hjj, Addr.add_mid] at this
    exact this
  ·intro b o hb hn
   cases hb
   exact hlt (.cell b o) (List.mem_append_left _ (MemPlace.mem_row.2 ⟨0, by rw [hC]; exact Nat.mul_pos (by omega) hks, by simp⟩))
theorem arg_smps {t e : TypeId} [he : EqI P e [.i64, .u64]] {v : Value} {d : DataW H} {p : List MemPlace} (ht : P.underlying t = some (.slice e)) (hC : P.cellsOf e = 2) (h1 : ((P.fieldsOf e).toList.all fun f => P.cellsOf f.type == 1) = true)
  (hval : Value.okWide P W r b0 t v) (h : DataW.Trod enc P W 0 (fun _ => true) true t v d p) (hlt : ∀ x ∈ p, x.block < W.heap.size) :
  ∃ (a : Option Addr) (n c : Nat) (xs : List Smp), v = .slice a n c ∧ n ≤ maxLen ∧ (∀ x ∈ xs, (Lit.int .i64 x.T).wf = true ∧ (Lit.int .u64 x.V).wf = true) ∧ Rd W 2 a n (smpsV xs) ∧ ∀ b o, a = some ⟨b, o, none⟩ → 0 < n → b < W.heap.size := by
 haveI : Inhabited Smp := ⟨⟨0, 0⟩⟩
 exact arg_structs (ks := [.i64, .u64]) Smp.cells (fun x => (Lit.int .i64 x.T).wf = true ∧ (Lit.int .u64 x.V).wf = true) smp_len (fun aL h2 h3 => by
  match aL, h2 with
  | [T, V], _ => exact ⟨⟨T, V⟩, rfl, h3 0 _ _ rfl rfl, h3 1 _ _ rfl rfl⟩) ht hC (by decide) h1 hval h hlt
end
end Go.Hw

namespace Go.Hw
open Go.ChangeShapes Go.WideShapes Go.ChangeAt Go.RowKit
section
variable {P : Program} {W : World} {H : Type} {enc : TypeId × Value → H} {r : Reach} {b0 : Nat}
theorem arg_cap {t e : TypeId} {k : IntKind} {a : Option Addr} {n c : Nat} {d : DataW H} {p : List MemPlace} (ht : P.underlying t = some (.slice e)) (he : P.underlying e = some (.int k)) (hc : P.cellsOf e = 1)
  (h : DataW.Trod enc P W 0 (fun _ => true) true t (.slice a n c) d p) : n ≤ c := by
 obtain ⟨fuel, hf⟩ := h
 rcases open_ints ht he hc hf with ⟨hcs, _⟩ | ⟨a', len', cap', zs, hcs, _, hl, _⟩
 ·simp [Value.cells] at hcs
  omega
 ·simp [Value.cells] at hcs
  obtain ⟨_, rfl, rfl⟩ := hcs
  exact hl
theorem arg_bytesC {t e : TypeId} {v : Value} {d : DataW H} {p : List MemPlace} (ht : P.underlying t = some (.slice e)) (he : P.underlying e = some (.int .u8)) (hc : P.cellsOf e = 1)
  (hval : Value.okWide P W r b0 t v) (h : DataW.Trod enc P W 0 (fun _ => true) true t v d p) (hlt : ∀ x ∈ p, x.block < W.heap.size) :
  ∃ (a : Option Addr) (c : Nat) (bs : List UInt8), v = .slice a bs.length c ∧ bs.length ≤ 9223372036854775807 ∧ bs.length ≤ c ∧ Reads W [] 1 a bs.length (bytesV bs) := by
 obtain ⟨a, n, c, bs, rfl, h2, h3, h4⟩ := arg_bytes ht he hc hval h hlt
 have hcap := arg_cap ht he hc h
 have hl : bs.length = n := by have := h3.1; rw [bytesV_len] at this; omega
 subst hl
 exact ⟨a, c, bs, rfl, maxLen_le h2, hcap, Reads.old h3 h4⟩
theorem arg_smpsR {t e : TypeId} [he : EqI P e [.i64, .u64]] {v : Value} {d : DataW H} {p : List MemPlace} (ht : P.underlying t = some (.slice e)) (hC : P.cellsOf e = 2) (h1 : ((P.fieldsOf e).toList.all fun f => P.cellsOf f.type == 1) = true)
  (hval : Value.okWide P W r b0 t v) (h : DataW.Trod enc P W 0 (fun _ => true) true t v d p) (hlt : ∀ x ∈ p, x.block < W.heap.size) :
  ∃ (a : Option Addr) (c : Nat) (L : List Smp), v = .slice a L.length c ∧ L.length ≤ 9223372036854775807 ∧ (∀ s ∈ L, s.Wf) ∧ Reads W [] 2 a L.length (smpsV L) := by
 obtain ⟨a, n, c, L, rfl, h2, h3, h4, h5⟩ := arg_smps ht hC h1 hval h hlt
 have hl : L.length = n := h4.count smp_len (by decide)
 subst hl
 refine ⟨a, c, L, rfl, maxLen_le h2, fun s hs => ?_, Reads.old h4 h5⟩
 obtain ⟨w1, w2⟩ := h3 s hs
 simp [Lit.wf, IntKind.min, IntKind.max, IntKind.signed, IntKind.bits] at w1 w2
 unfold Smp.Wf I64
 omega
theorem byte_of {z : Int} (h : (Lit.int .u8 z).wf = true) : ∃ y : UInt8, z = (y.toNat : Int) := by
 have hz : 0 ≤ z ∧ z ≤ 255 := by simpa [Lit.wf, IntKind.min, IntKind.max, IntKind.signed, IntKind.bits] using h
 refine ⟨UInt8.ofNat z.toNat, ?_⟩
 rw [UInt8.toNat_ofNat']
 omega
end
end Go.Hw

namespace Go.Hw
open Go.ChangeShapes Go.WideShapes Go.ChangeAt Go.RowKit

section
variable {H : Type} {enc : TypeId × Value → H} {P : Program} {W : World} {r : Reach} {b0 : Nat}
theorem trod_structs {α : Type} [Inhabited α] {t e : TypeId} {ks : List IntKind} [he : EqI P e ks] {fuel : Nat} {cs : List Value} {d : DataW H} {p : List MemPlace} (cf : α → List Value) (good : α → Prop) (hcf : ∀ x, (cf x).length = ks.length)
  (hmk : ∀ aL : List Int, aL.length = ks.length → (∀ (j : Nat) k a, ks[j]? = some k → aL[j]? = some a → (Lit.int k a).wf = true) → ∃ x, cf x = ints ks aL ∧ good x)
  (ht : P.underlying t = some (.slice e)) (hC : P.cellsOf e = ks.length) (hks : 0 < ks.length) (h1 : ((P.fieldsOf e).toList.all fun f => P.cellsOf f.type == 1) = true)
  (hf : DataW.trod enc P W 0 (fun _ => true) true fuel t cs = some (d, p)) (hlt : ∀ x ∈ p, x.block < W.heap.size) :
  ∃ (a : Option Addr) (n c : Nat) (xs : List α), cs = [.slice a n c] ∧ n ≤ c ∧ (∀ x ∈ xs, good x) ∧ Rd W ks.length a n (xs.flatMap cf) ∧ (∀ b o, a = some ⟨b, o, none⟩ → 0 < n → b < W.heap.size) ∧ (∀ B, (d.weights P t).all (· ≤ B) = true → n * P.bytesOf e ≤ B) := by
 rcases Go.Deep.open_slice ht hf with ⟨hcs, hx⟩ | ⟨a, len, cap, m, n, D, Pl, hcs, _, hl, hm, hmm, hx, hel⟩
 ·exact ⟨none, 0, 0, [], hcs, Nat.le_refl _, (fun _ h => by cases h), ⟨by simp, .inl rfl⟩, (fun _ _ h => by cases h), fun _ _ => by simp⟩
 ·simp only [Prod.mk.injEq] at hx
  obtain ⟨rfl, rfl⟩ := hx
  simp only [if_true] at hmm
  subst hmm
  have each : ∀ i, i < len → ∃ x : α, good x ∧ ∀ j v, (cf x)[j]? = some v → W.cell? ((a.add (i * ks.length)).add j) = some v := by
   intro i hi
   obtain ⟨cs', hc, htr⟩ := hel i (by omega)
   rw [hC] at hc
   obtain ⟨aL, h2, h3, h4⟩ := trod_ints hC h1 htr
   obtain ⟨x, h5, h6⟩ := hmk aL h2 h4
   refine ⟨x, h6, fun j v hj => ?_⟩
   obtain ⟨_, hcl, hat⟩ := World.cells?_some hc
   have hj' : j < ks.length := by have := (List.getElem?_eq_some_iff.1 hj).1; rwa [hcf] at this
   rw [hat j hj', h3, ← h5]
   exact hj
  obtain ⟨f, hf'⟩ := Go.Deep.choose_lt each
  refine ⟨some a, len, _, (List.range len).map f, hcs, hl, ?_, ⟨by rw [flat_len hcf]; simp, ?_⟩, ?_, ?_⟩
  ·intro x hx
   simp only [List.mem_map, List.mem_range] at hx
   obtain ⟨i, hi, rfl⟩ := hx
   exact (hf' i hi).1
  ·rcases Nat.eq_zero_or_pos len with h0 | h0
   ·exact .inl h0
   ·obtain ⟨b, off, spot⟩ := a
    have hc0 := (hf' 0 h0).2 0 _ (List.getElem?_eq_getElem (show 0 < (cf (f 0)).length by rw [hcf]; exact hks))
    have hspot : spot = none := by simpa [Addr.add] using World.cell?_spot hc0
    subst hspot
    refine .inr ⟨b, off, rfl, fun j v hj => ?_⟩
    have hjl : j < len * ks.length := by
     have := (List.getElem?_eq_some_iff.1 hj).1
     rw [flat_len hcf] at this
     simpa using this
    have hi : j / ks.length < len := (Nat.div_lt_iff_lt_mul hks).2 hjl
    have hjj : j = j / ks.length * ks.length + j % ks.length := by rw [Nat.mul_comm]; exact (Nat.div_add_mod _ _).symm
    have hmod : j % ks.length < (cf (f (j / ks.length))).length := by rw [hcf]; exact Nat.mod_lt _ hks
    have hv := flat_get hcf ((List.range len).map f) (j / ks.length) (f (j / ks.length)) (by simp [hi]) (j % ks.length) _ (List.getElem?_eq_getElem hmod)
    rw [← hjj, hj] at hv
    cases hv
    have := (hf' _ hi).2 _ _ (List.getElem?_eq_getElem hmod)
    rw [Go.Deep.add_add, ← hjj, Addr.add_mid] at this
    exact this
  ·intro b o hb hn
   cases hb
   exact hlt (.cell b o) (List.mem_append_left _ (MemPlace.mem_row.2 ⟨0, by rw [hC]; exact Nat.mul_pos (by omega) hks, by simp⟩))
  ·intro B hB
   have := List.all_eq_true.1 hB ((((List.range len).map D).length + ((List.range (_ - len)).map fun j => D (len + j)).length) * P.bytesOf e) (by rw [DataW.weights]; simp only [ht]; exact List.mem_cons_self ..)
   simp only [List.length_map, List.length_range, decide_eq_true_eq] at this
   exact Nat.le_trans (Nat.mul_le_mul_right _ (by omega)) this

structure RowS where
 a : Option Addr
 n : Nat
 c : Nat
 xs : List Smp
instance : Inhabited RowS := ⟨⟨none, 0, 0, []⟩⟩
structure RowS.Ok (P : Program) (W : World) (e : TypeId) (B : Nat) (r : RowS) : Prop where
 le : r.n ≤ r.c
 rd : Rd W 2 r.a r.n (smpsV r.xs)
 old : ∀ b o, r.a = some ⟨b, o, none⟩ → 0 < r.n → b < W.heap.size
 size : r.n * P.bytesOf e ≤ B
theorem weightsAll_mem {P : Program} {e : TypeId} {B : Nat} : ∀ {l : List (DataW H)} {d : DataW H}, (DataW.weightsAll P e l).all (· ≤ B) = true → d ∈ l → (d.weights P e).all (· ≤ B) = true
 | x :: l, d, h, hd => by
  rw [DataW.weightsAll, List.all_append, Bool.and_eq_true] at h
  rcases List.mem_cons.1 hd with rfl | hd
  ·exact h.1
  ·exact weightsAll_mem h.2 hd
theorem arg_rows {t u e : TypeId} [he : EqI P e [.i64, .u64]] {v : Value} {d : DataW H} {p : List MemPlace} {B : Nat} (ht : P.underlying t = some (.slice u)) (hu : P.underlying u = some (.slice e)) (hcu : P.cellsOf u = 1) (hC : P.cellsOf e = 2) (h1 : ((P.fieldsOf e).toList.all fun f => P.cellsOf f.type == 1) = true)
  (hval : Value.okWide P W r b0 t v) (h : DataW.Trod enc P W 0 (fun _ => true) true t v d p) (hlt : ∀ x ∈ p, x.block < W.heap.size) (hB : (d.weights P t).all (· ≤ B) = true) :
  ∃ (a : Option Addr) (n c : Nat) (rows : List RowS), v = .slice a n c ∧ n ≤ maxLen ∧ (∀ x ∈ rows, x.Ok P W e B) ∧ Rd W 1 a n (rows.map fun x => .slice x.a x.n x.c) ∧ ∀ b o, a = some ⟨b, o, none⟩ → 0 < n → b < W.heap.size := by
 haveI : Inhabited Smp := ⟨⟨0, 0⟩⟩
 obtain ⟨a0, len, cap, rfl⟩ := okWide_slice ht hval
 obtain ⟨fuel, hf⟩ := h
 rcases Go.Deep.open_slice ht hf with ⟨hcs, hx⟩ | ⟨a, len', cap', m, n, D, Pl, hcs, _, hl, hm, hmm, hx, hel⟩
 ·simp [Value.cells] at hcs
  obtain ⟨rfl, rfl, rfl⟩ := hcs
  exact ⟨none, 0, 0, [], rfl, Nat.zero_le _, (fun _ h => by cases h), ⟨by simp, .inl rfl⟩, fun _ _ h => by cases h⟩
 ·simp [Value.cells] at hcs
  obtain ⟨rfl, rfl, rfl⟩ := hcs
  simp only [Prod.mk.injEq] at hx
  obtain ⟨rfl, rfl⟩ := hx
  simp only [if_true] at hmm
  subst hmm
  rw [DataW.weights] at hB
  simp only [ht, List.all_cons, List.all_append, Bool.and_eq_true] at hB
  have each : ∀ i, i < len → ∃ x : RowS, x.Ok P W e B ∧ W.cell? (a.add i) = some (.slice x.a x.n x.c) := by
   intro i hi
   obtain ⟨cs', hc, htr⟩ := hel i (by omega)
   rw [hcu, Nat.mul_one] at hc
   obtain ⟨_, hcl, hat⟩ := World.cells?_some hc
   have hw := weightsAll_mem hB.2.1 (d := D i) (List.mem_map.2 ⟨i, by simpa using hi, rfl⟩)
   obtain ⟨a', n', c', xs, h2, h3, _, h4, h5, h6⟩ := trod_structs (ks := [.i64, .u64]) Smp.cells (fun _ => True) smp_len (fun aL h2 h3 => by
    match aL, h2 with
    | [T, V], _ => exact ⟨⟨T, V⟩, rfl, trivial⟩) hu hC (by decide) h1 htr (fun x hx => hlt x (List.mem_append_right _ (List.mem_flatMap.2 ⟨i, by simp; omega, hx⟩)))
   refine ⟨⟨a', n', c', xs⟩, ⟨h3, h4, h5, h6 B hw⟩, ?_⟩
   have := hat 0 (by decide)
   rw [h2] at this
   simpa [Addr.add] using this
  obtain ⟨f, hf'⟩ := Go.Deep.choose_lt each
  refine ⟨some a, len, _, (List.range len).map f, rfl, Nat.le_trans hl hm, ?_, ⟨by simp, ?_⟩, ?_⟩
  ·intro x hx
   simp only [List.mem_map, List.mem_range] at hx
   obtain ⟨i, hi, rfl⟩ := hx
   exact (hf' i hi).1
  ·rcases Nat.eq_zero_or_pos len with h0 | h0
   ·exact .inl h0
   ·obtain ⟨b, off, spot⟩ := a
    have hspot : spot = none := by simpa [Addr.add] using World.cell?_spot (hf' 0 h0).2
    subst hspot
    refine .inr ⟨b, off, rfl, fun j v hj => ?_⟩
    have hjl : j < len := by have := (List.getElem?_eq_some_iff.1 hj).1; simpa using this
    have := (hf' j hjl).2
    rw [Addr.add_mid] at this
    rw [this, ← hj]
    simp [hjl]
  ·intro b o hb hn
   cases hb
   exact hlt (.cell b o) (List.mem_append_left _ (MemPlace.mem_row.2 ⟨0, by rw [hcu]; omega, by simp⟩))
theorem weights_arg {ts : List TypeId} {ds : List (DataW H)} (h : (DataW.weightsEach P ts ds).all (· ≤ reachBytes) = true) {j : Nat} {t : TypeId} {d : DataW H} (ht : ts[j]? = some t) (hd : ds[j]? = some d) : (d.weights P t).all (· ≤ reachBytes) = true :=
 List.all_eq_true.2 fun n hn => List.all_eq_true.1 h n (DataW.weights_mem_each ht hd n hn)
end
end Go.Hw

namespace Go.Hw
open Go.ChangeShapes Go.WideShapes Go.ChangeAt Go.RowKit
theorem returns_shape {H : Type} {enc : TypeId × Value → H} {a : Assume} {C : Checked} {os : Os} {f : FuncId} {fn : Func} {s : ChangeSpec} {conds : List PathCond} {apart fresh handsOn again : Bool} {X : World → Array Value → Prop}
  (hX : ∀ (w w' : World) (args : Array Value), w.heap = w'.heap → X w args → X w' args)
  (own : ownKnob C.prog.godebug = none) (started : os.Started) (noInit : C.prog.inits.idxOf? f = none) (hfn : C.prog.funcs[f]? = some fn)
  (witness : ∃ (w : World) (tape : Tape) (i : Input), w.os = os ∧ (w.forCall tape i).Shaped C.prog ∧ i.vars = [] ∧ Input.okWide C.prog (w.forCall tape i) .any w.heap.size f i ∧
   ((s.pre enc C.prog fn conds apart (w.forCall tape i).memory i.args ∧ X (w.forCall tape i).memory i.args) ∧ sizedMet enc C.prog fn (OpenSpec.ofChange s) apart (w.forCall tape i).memory i.args) ∧ a.holds C.prog (lone (Frame.enter C.prog f i.args .normal) [] (w.forCall tape i)))
  (main : ∀ (W : World) (base : Nat) (args : Array Value) (ds gs : List (DataW H)) (before : List MemPlace),
   (∀ (j : Nat) t v, fn.params[j]? = some t → args[j]? = some v → Value.okWide C.prog W .any base t v) →
   DataW.Whole enc C.prog fn.params.toList s.vars apart W args.toList ds gs before →
   (DataW.weightsEach C.prog (fn.params.toList ++ s.plain.varTypes C.prog) (ds ++ gs)).all (· ≤ reachBytes) = true → X W args → W.ShapedOpen C.prog →
   Calls C.prog f args W fun e W' => ∃ v, e = .returned v ∧ s.post enc C.prog fn apart fresh handsOn again W args v W') :
  ReturnsInHanded a C os f .any (fun w args => (s.pre enc C.prog fn conds apart w args ∧ X w args) ∧ sizedMet enc C.prog fn (OpenSpec.ofChange s) apart w args) (s.post enc C.prog fn apart fresh handsOn again) := by
 refine returnsInHanded_of_calls own started noInit witness ?_
 intro w tape i _ hsh _ hok hpre _
 obtain ⟨_, _, _, fn', hfn', _, _, _, _, hval⟩ := hok
 obtain rfl : fn' = fn := Option.some.inj (hfn'.symm.trans hfn)
 obtain ⟨⟨⟨ds, gs, before, hw, hc⟩, hx⟩, hz⟩ := hpre
 refine (main (w.forCall tape i) w.heap.size i.args ds gs before hval (DataW.Whole.of_heap (w' := w.forCall tape i) (by rfl) hw) (hz.weights hw) (hX _ _ _ (by rfl) hx) hsh).mono fun e W' ⟨v, he, hp⟩ => ?_
 subst he
 exact ChangeSpec.post_blind hp
section
variable {P : Program} {W : World} {H : Type} {enc : TypeId × Value → H} {r : Reach} {b0 : Nat}
theorem arg_ints {t : TypeId} {ks : List IntKind} [he : EqI P t ks] {v : Value} {d : DataW H} {p : List MemPlace} (hC : P.cellsOf t = ks.length) (h1 : ((P.fieldsOf t).toList.all fun f => P.cellsOf f.type == 1) = true)
  (hval : Value.okWide P W r b0 t v) (h : DataW.Trod enc P W 0 (fun _ => true) true t v d p) :
  ∃ aL : List Int, aL.length = ks.length ∧ v = .agg (ints ks aL).toArray ∧ ∀ (j : Nat) k a, ks[j]? = some k → aL[j]? = some a → (Lit.int k a).wf = true := by
 obtain ⟨fl, hu, _⟩ := he.u
 obtain ⟨cs, rfl, hcs⟩ := okWide_struct hu hval
 obtain ⟨fuel, hf⟩ := h
 obtain ⟨aL, h2, h3, h4⟩ := trod_ints hC h1 hf
 refine ⟨aL, h2, ?_, h4⟩
 have hc : cs.toList = ints ks aL := by simpa [Value.cells] using h3
 rw [← hc]
theorem arg_op {t : TypeId} [he : EqI P t [.i64, .i64, .i64, .i64, .u64, .i64, .i64, .i64]] {v : Value} {d : DataW H} {p : List MemPlace} (hC : P.cellsOf t = 8) (h1 : ((P.fieldsOf t).toList.all fun f => P.cellsOf f.type == 1) = true)
  (hval : Value.okWide P W r b0 t v) (h : DataW.Trod enc P W 0 (fun _ => true) true t v d p) : ∃ o : Opr, v = .agg o.C.toArray ∧ o.Wf := by
 obtain ⟨aL, h2, rfl, h4⟩ := arg_ints hC h1 hval h
 match aL, h2 with
 | [a, b, c, d, e, f, g, i], _ =>
  have x0 := h4 0 .i64 a rfl rfl
  have x1 := h4 1 .i64 b rfl rfl
  have x2 := h4 2 .i64 c rfl rfl
  have x3 := h4 3 .i64 d rfl rfl
  have x4 := h4 4 .u64 e rfl rfl
  have x5 := h4 5 .i64 f rfl rfl
  have x6 := h4 6 .i64 g rfl rfl
  have x7 := h4 7 .i64 i rfl rfl
  simp [Lit.wf, IntKind.min, IntKind.max, IntKind.signed, IntKind.bits] at x0 x1 x2 x3 x4 x5 x6 x7
  have e4 : ((e.toNat : Nat) : Int) = e := by omega
  refine ⟨⟨a, b, c, d, e.toNat, f, g, i⟩, ?_, ?_⟩
  ·show Value.agg (ints [.i64, .i64, .i64, .i64, .u64, .i64, .i64, .i64] [a, b, c, d, e, f, g, i]).toArray = .agg [.int .i64 a, .int .i64 b, .int .i64 c, .int .i64 d, .int .u64 ((e.toNat : Nat) : Int), .int .i64 f, .int .i64 g, .int .i64 i].toArray
   rw [e4]; rfl
  ·refine ⟨⟨?_, ?_⟩, ⟨?_, ?_⟩, ⟨?_, ?_⟩, ⟨?_, ?_⟩, ?_, ⟨?_, ?_⟩, ⟨?_, ?_⟩, ⟨?_, ?_⟩⟩ <;> dsimp only <;> omega
theorem arg_res {t te ti tl e : TypeId} {fs : List Field} [he : EqI P e [.i64, .u64]] {v : Value} {d : DataW H} {p : List MemPlace} (hu : P.underlying t = some (.struct fs.toArray)) (hfs : fs.map (fun f => (f.type, f.offset)) = [(te, 0), (ti, 1), (tl, 2)]) (hC : P.cellsOf t = 3)
  (c0 : P.cellsOf te = 1) (c1 : P.cellsOf ti = 1) (c2 : P.cellsOf tl = 1) (u0 : P.underlying te = some (.int .i64)) (u1 : P.underlying ti = some (.int .i64)) (u2 : P.underlying tl = some (.slice e)) (hce : P.cellsOf e = 2) (h1 : ((P.fieldsOf e).toList.all fun f => P.cellsOf f.type == 1) = true)
  (hval : Value.okWide P W r b0 t v) (h : DataW.Trod enc P W 0 (fun _ => true) true t v d p) (hlt : ∀ x ∈ p, x.block < W.heap.size) :
  ∃ (a : Option Addr) (c : Nat) (q : Res), v = .agg (q.C a c).toArray ∧ (I64 q.err ∧ I64 q.iter ∧ ∀ s ∈ q.list, s.Wf) ∧ Reads W [] 2 a q.list.length (smpsV q.list) := by
 have : Inhabited Smp := ⟨⟨0, 0⟩⟩
 obtain ⟨cs, rfl, hcs⟩ := okWide_struct hu hval
 obtain ⟨fuel, hf⟩ := h
 obtain ⟨xs, n, rfl, hx, hlen, hxl, hg⟩ := DataW.trod_struct hu hf
 simp only [Prod.mk.injEq] at hx
 obtain ⟨_, hp⟩ := hx
 have hl : fs.length = 3 := by simpa using congrArg List.length hfs
 match fs, hl, hfs, hg with
 | [g0, g1, g2], _, hfs, hg =>
  simp only [List.map_cons, List.map_nil, List.cons.injEq, Prod.mk.injEq, and_true] at hfs
  obtain ⟨⟨rfl, o0⟩, ⟨rfl, o1⟩, rfl, o2⟩ := hfs
  obtain ⟨csl⟩ := cs
  have hl3 : csl.length = 3 := by simpa [hC] using hcs
  match csl, hl3 with
  | [v0, v1, v2], _ =>
   match xs, hxl with
   | [y0, y1, y2], _ =>
    have k0 := hg 0 g0 rfl
    have k1 := hg 1 g1 rfl
    have k2 := hg 2 g2 rfl
    rw [o0, c0] at k0
    rw [o1, c1] at k1
    rw [o2, c2] at k2
    obtain ⟨z0, e0, _, w0⟩ := DataW.trod_int u0 k0
    obtain ⟨z1, e1, _, w1⟩ := DataW.trod_int u1 k1
    have m2 : ∀ x ∈ y2.2, x.block < W.heap.size := fun x hx => hlt x (by rw [hp]; simp [hx])
    obtain ⟨a, m, c, L, e2, _, hgood, hrd, hblk, _⟩ := trod_structs (α := Smp) (ks := [.i64, .u64]) (e := e) (cf := Smp.cells) (fun s => s.Wf) smp_len (fun aL ha hw => by
     match aL, ha with
     | [x, y], _ =>
      have hx := hw 0 .i64 x rfl rfl
      have hy := hw 1 .u64 y rfl rfl
      simp [Lit.wf, IntKind.min, IntKind.max, IntKind.signed, IntKind.bits] at hx hy
      exact ⟨⟨x, y⟩, rfl, ⟨by dsimp only; omega, by dsimp only; omega⟩, by dsimp only; omega, by dsimp only; omega⟩) u2 hce (by decide) h1 k2 m2
    have f0 : v0 = .int .i64 z0 := by simpa [Value.cells] using e0
    have f1 : v1 = .int .i64 z1 := by simpa [Value.cells] using e1
    have f2 : v2 = .slice a m c := by simpa [Value.cells] using e2
    subst f0 f1 f2
    have hl : L.length = m := Rd.count (f := Smp.cells) hrd smp_len (by decide)
    subst hl
    simp [Lit.wf, IntKind.min, IntKind.max, IntKind.signed, IntKind.bits] at w0 w1
    exact ⟨a, c, ⟨z0, z1, L⟩, rfl, ⟨⟨by dsimp only; omega, by dsimp only; omega⟩, ⟨by dsimp only; omega, by dsimp only; omega⟩, hgood⟩, Reads.old hrd hblk⟩
end
end Go.Hw

namespace Go.Hw
open Go.Lib
theorem itoa_3 : itoa 3 = [51] := by
 show (if (3 : Int) < 0 then _ else decDigits 3) = _
 rw [if_neg (by decide), decDigits_rec]; rfl
theorem itoa_m5 : itoa (-5) = [45, 53] := by
 show (if (-5 : Int) < 0 then 45 :: decDigits 5 else _) = _
 rw [if_pos (by decide), decDigits_rec]; rfl
theorem hexS_255 : hexS 255 = [102, 102] := by
 rw [hexS_rec, if_neg (by decide), show 255 / 16 = 15 from rfl, hexS_rec 15, if_pos (by decide)]; rfl
theorem hexS_16 : hexS 16 = [49, 48] := by
 rw [hexS_rec, if_neg (by decide), show 16 / 16 = 1 from rfl, hexS_rec 1, if_pos (by decide)]; rfl
def opA : Opr := ⟨1, 3, 0, -5, 255, 0, 0, 0⟩
def txA : List UInt8 := [97, 112, 112, 101, 110, 100, 32, 51, 32, 45, 53, 32, 102, 102]
def txB : List UInt8 := [97, 112, 112, 101, 110, 100, 32, 51, 32, 45, 53, 32, 48, 102, 102]
theorem opA_wf : opA.Wf := ⟨⟨by decide, by decide⟩, ⟨by decide, by decide⟩, ⟨by decide, by decide⟩, ⟨by decide, by decide⟩, by decide, ⟨by decide, by decide⟩, ⟨by decide, by decide⟩, ⟨by decide, by decide⟩⟩
theorem opA_text : opS opA = txA := by
 show joinW [wAppend, itoa 3, itoa (-5), hexS 255] = txA
 rw [itoa_3, itoa_m5, hexS_255]; rfl
theorem text_words {o : Opr} {ws : List (List UInt8)} (hws : ws ≠ []) (h32 : ∀ x ∈ ws, 32 ∉ x) (k1 : 1 ≤ o.kind) (k2 : o.kind ≤ 7) (h : opS o = joinW ws) : opW o = ws := by
 rw [← split_words (opW_kind.2 ⟨k1, k2⟩) (opW_words o), ← split_words hws h32]
 show split (opS o) [32] = _
 rw [h]
theorem txB_none (o : Opr) (k1 : 1 ≤ o.kind) (k2 : o.kind ≤ 7) : opS o ≠ txB := by
 intro h
 have hw := text_words (ws := [wAppend, [51], [45, 53], [48, 102, 102]]) (by simp) (by decide) k1 k2 h
 have hk : o.kind = 1 := word_kind k1 k2 1 (by decide) (by decide) (by rw [← opW_first, hw]; rfl)
 have hw2 : opW o = [wAppend, itoa o.series, itoa o.T, hexS o.V] := by unfold opW; rw [if_pos hk]
 rw [hw2] at hw
 have hv : hexS o.V = [48, 102, 102] := by simpa using (List.cons.inj (List.cons.inj (List.cons.inj (List.cons.inj hw).2).2).2).1
 have e1 : o.V = 255 := by rw [← hexN_S o.V, hv]; decide
 rw [e1, hexS_255] at hv
 exact absurd hv (by decide)
end Go.Hw

namespace Go.Proofs.YtnnehiiblfmpnaaGreatDoor
open Go.Hw
set_option maxHeartbeats 4000000

structure Kept where
 bs : List UInt8
 holds : Int
def IsKept (e : Nat) (x : Kept) : HProp := ex fun q : Option Addr × Nat => all [pt e (.cells [.slice q.1 x.bs.length q.2, .int .i64 x.holds].toArray 126 (0, 0)), Own 5 1 q.1 x.bs.length q.2 (bytesV x.bs)]
structure Sto where
 budget : Int
 last : Int
 bytes : Int
 charged : Int
 l : List (Int × Kept)
abbrev stCells (S : Sto) (m : Nat) : List Value := [.int .i64 S.budget, .int .i64 S.last, .int .i64 S.bytes, .int .i64 S.charged, .map (some m)]
abbrev StoPt (p m : Nat) (S : Sto) : HProp := pt p (.cells (stCells S m).toArray 115 (0, 0))
def IsStore (p : Nat) (S : Sto) : HProp := ex fun m : Nat => all [StoPt p m S, PMap (Value.int .i64) m IsKept S.l]
theorem St.store {w0 w : World} {l : List HProp} {p : Nat} {S : Sto} : St w0 (IsStore p S :: l) w ↔ ∃ m, St w0 (StoPt p m S :: PMap (Value.int .i64) m IsKept S.l :: l) w := by
 unfold IsStore
 rw [St.ex]
 exact ⟨fun ⟨m, h⟩ => ⟨m, h.join⟩, fun ⟨m, h⟩ => ⟨m, St.fold [_, _] h⟩⟩
theorem St.kept {w0 w : World} {l : List HProp} {e : Nat} {x : Kept} : St w0 (IsKept e x :: l) w ↔ ∃ a c, St w0 (pt e (.cells [.slice a x.bs.length c, .int .i64 x.holds].toArray 126 (0, 0)) :: Own 5 1 a x.bs.length c (bytesV x.bs) :: l) w := by
 unfold IsKept
 rw [St.ex]
 exact ⟨fun ⟨q, h⟩ => ⟨q.1, q.2, h.join⟩, fun ⟨a, c, h⟩ => ⟨(a, c), St.fold [_, _] h⟩⟩

section
variable {w0 w : World} {l : List HProp} {p m : Nat} {S : Sto}

theorem blob_New (n : Int) (h : St w0 l w) : Ret Tryz.prog 23 [.int .i64 n] w fun v w' => ∃ p, v = .pointer (some ⟨p, 0, none⟩) ∧ St w0 (IsStore p ⟨min (max n 0) 1073741824, 0, 0, 0, []⟩ :: l) w' := by
 refine enter Tryz.func23 rfl Tryz.results23 Tryz.ntmps23 rfl ?_
 refine c_seq (c_region ?_)
 refine r_v (q_assignP rfl) rfl ?_
 refine r_nil (c_seq (c_region ?_))
 refine r_v (q_moveI rfl) rfl ?_; refine r_v (q_max rfl rfl) rfl ?_; refine r_v (q_min rfl rfl) rfl ?_
 refine r_c rfl (x_pmake (Value.int .i64) IsKept h fun m w h => ?_)
 refine r_v (q_build rfl) rfl ?_
 refine r_c rfl (x_box h rfl fun p w h => ?_)
 refine r_v (q_assignP rfl) rfl ?_
 refine r_nil (c_ret (bq1 ⟨p, rfl, ?_⟩))
 exact St.store.2 ⟨m, h⟩

theorem blob_Used (h : St w0 (StoPt p m S :: l) w) : Ret Tryz.prog 59 [.pointer (some ⟨p, 0, none⟩)] w fun v w' => v = .int .i64 (IntKind.i64.wrap (S.bytes + S.charged)) ∧ St w0 (StoPt p m S :: l) w' := by
 refine enter Tryz.func59 rfl Tryz.results59 Tryz.ntmps59 rfl ?_
 refine c_seq (c_region ?_)
 refine r_v (q_assignI rfl) rfl ?_
 refine r_nil (c_seq (c_any none (fun w => St w0 (StoPt p m S :: l) w) (by kernel_rfl) (by kernel_rfl) h.drew fun w h => ?_))
 refine cur_pure rfl rfl rfl rfl (fun _ => h) (fun _ => flt_v rfl (q_moveP rfl)) ?_; refine cur_pure rfl rfl rfl rfl (fun _ => h) (fun _ => flt_v rfl (q_nil rfl)) ?_; refine cur_pure rfl rfl rfl rfl (fun _ => h) (fun _ => flt_v rfl (q_fa rfl)) ?_; refine cur_float rfl rfl rfl rfl h (fun _ h => flt_v rfl (q_load rfl (h.b 0) rfl)) ?_; refine cur_pure rfl rfl rfl rfl (fun _ => h) (fun _ => flt_v rfl (q_moveP rfl)) ?_; refine cur_pure rfl rfl rfl rfl (fun _ => h) (fun _ => flt_v rfl (q_nil rfl)) ?_; refine cur_pure rfl rfl rfl rfl (fun _ => h) (fun _ => flt_v rfl (q_fa rfl)) ?_; refine cur_float rfl rfl rfl rfl h (fun _ h => flt_v rfl (q_load rfl (h.b 0) rfl)) ?_; refine cur_pure rfl rfl rfl rfl (fun _ => h) (fun _ => flt_v rfl (q_add rfl rfl)) ?_; refine cur_pure rfl rfl rfl rfl (fun _ => h) (fun _ => flt_v rfl (q_assignI rfl)) ?_
 exact cur_end (c_ret (bq1 ⟨rfl, h⟩))

theorem blob_UsedS (h : St w0 (IsStore p S :: l) w) : Ret Tryz.prog 59 [.pointer (some ⟨p, 0, none⟩)] w fun v w' => v = .int .i64 (IntKind.i64.wrap (S.bytes + S.charged)) ∧ St w0 (IsStore p S :: l) w' := by
 obtain ⟨m, h⟩ := St.store.1 h
 exact (blob_Used h).mono fun _ _ h => ⟨h.1, St.store.2 ⟨m, h.2⟩⟩

theorem clone_bytes {sl : Option Addr} {n c : Nat} {xs : List Value} (h : St w0 l w) (hr : ∀ w', St w0 l w' → Rd w' 1 sl n xs) (hx : ∀ u ∈ xs, u.oneCell' = true) (hn : n ≤ 140737488355328) : Ret Tryz.prog 60 [.slice sl n c] w fun v w' => ∃ a c', v = .slice a n c' ∧ (a = none ↔ sl = none) ∧ St w0 (Own 5 1 a n c' xs :: l) w' := by
 refine enter Tryz.func60 rfl Tryz.results60 Tryz.ntmps60 rfl ?_
 refine c_seq (c_region ?_)
 refine r_v (q_assignS rfl) rfl ?_
 refine r_nil (c_seq (c_seq (c_region ?_)))
 refine r_v (q_moveS rfl) rfl ?_
 refine r_v (q_seqnil rfl rfl) rfl ?_
 refine r_nil (c_cond sl.isNone rfl (fun hs => ?_) (fun hs => ?_))
 ·refine c_seq (c_region ?_)
  refine r_v (q_assignS rfl) rfl ?_
  obtain rfl : sl = none := by simpa using hs
  have h2 := hr w h
  obtain ⟨h3, h4⟩ := h2
  obtain rfl : n = 0 := by rcases h4 with h | ⟨b, o, h, _⟩; exact h; cases h
  obtain rfl : xs = [] := List.eq_nil_of_length_eq_zero (by simpa using h3)
  refine r_nil (c_ret (bq1 ⟨none, 0, rfl, by simp, St.ownNil _ _ h⟩))
 ·refine c_skip ?_
  refine c_seq (c_region ?_)
  refine r_c rfl (x_bslice h rfl rfl rfl fun b w h => ?_)
  refine r_v (q_moveS rfl) rfl ?_
  have h1 : St w0 (Own 5 1 (some ⟨b, 0, none⟩) 0 0 [] :: l) w := St.own_mk (cur := []) h rfl rfl (Nat.le_refl _)
  refine r_c rfl (x_append (ys := xs) h1 rfl rfl (hr w h1.drop) hx (by omega) (by omega) rfl fun a c' w hn h => ?_)
  refine r_v (q_assignS rfl) rfl ?_
  refine r_nil (c_ret (bq1 ⟨a, c', ?_, ?_, ?_⟩))
  ·exact congrArg (fun n => Value.slice a n c') (Nat.zero_add n)
  ·exact ⟨(fun h => by cases hn h), (fun h => by rw [h] at hs; cases hs)⟩
  ·rw [Nat.zero_add] at h; exact h

theorem wrap_id {x : Int} (h1 : -9223372036854775808 ≤ x) (h2 : x < 9223372036854775808) : IntKind.i64.wrap x = x := by
 unfold IntKind.wrap
 simp [IntKind.signed, IntKind.bits]
 omega

def Sto.put (S : Sto) (id : Int) (x : Kept) : Sto := { S with l := mset id x S.l }
theorem blob_Get0 (id : Int) (h : St w0 (IsStore p S :: l) w) (hg : mget id S.l = none) : Ret Tryz.prog 99 [.pointer (some ⟨p, 0, none⟩), .int .i64 id] w fun v w' => v = .tuple [.slice none 0 0, .bool false].toArray ∧ St w0 (IsStore p S :: l) w' := by
 obtain ⟨m, h⟩ := St.store.1 h
 refine enter Tryz.func99 rfl Tryz.results99 Tryz.ntmps99 rfl ?_
 refine c_seq (c_region ?_)
 refine r_v (q_assignS rfl) rfl ?_; refine r_v (q_assignB rfl) rfl ?_
 refine r_nil (c_seq (c_region ?_))
 refine r_v (q_moveP rfl) rfl ?_; refine r_v (q_nil rfl) rfl ?_; refine r_v (q_fa rfl) rfl ?_; refine r_v (q_load rfl (h.b 0) rfl) rfl ?_; refine r_v (q_moveI rfl) rfl ?_
 refine r_v (q_plookup0 (h.f 1) rfl rfl hg) rfl ?_
 refine r_v (q_moveT rfl) rfl ?_; refine r_v (q_ext rfl rfl) rfl ?_; refine r_v (q_ext rfl rfl) rfl ?_; refine r_v (q_assignP rfl) rfl ?_; refine r_v (q_assignB rfl) rfl ?_
 refine r_nil (c_seq (c_seq (c_region ?_)))
 refine r_v (q_moveB rfl) rfl ?_; refine r_v (q_not rfl) rfl ?_
 refine r_nil (c_true rfl (c_seq (c_region ?_)))
 refine r_v (q_assignS rfl) rfl ?_; refine r_v (q_assignB rfl) rfl ?_
 exact r_nil (c_ret (bq2 ⟨rfl, St.store.2 ⟨m, h⟩⟩))
theorem blob_Get1 (id : Int) {x : Kept} (h : St w0 (IsStore p S :: l) w) (hg : mget id S.l = some x) (hn : x.bs.length ≤ 140737488355328) : Ret Tryz.prog 99 [.pointer (some ⟨p, 0, none⟩), .int .i64 id] w fun v w' =>
  ∃ a c, v = .tuple [.slice a x.bs.length c, .bool true].toArray ∧ St w0 (Own 5 1 a x.bs.length c (bytesV x.bs) :: IsStore p S :: l) w' := by
 obtain ⟨m, h⟩ := St.store.1 h
 obtain ⟨e, h⟩ := St.popen (h.f 1) hg
 obtain ⟨a, c, h⟩ := St.kept.1 h
 refine enter Tryz.func99 rfl Tryz.results99 Tryz.ntmps99 rfl ?_
 refine c_seq (c_region ?_)
 refine r_v (q_assignS rfl) rfl ?_; refine r_v (q_assignB rfl) rfl ?_
 refine r_nil (c_seq (c_region ?_))
 refine r_v (q_moveP rfl) rfl ?_; refine r_v (q_nil rfl) rfl ?_; refine r_v (q_fa rfl) rfl ?_; refine r_v (q_load rfl (h.b 3) rfl) rfl ?_; refine r_v (q_moveI rfl) rfl ?_
 refine r_v (q_plookup1 (h.f 2) rfl rfl) rfl ?_
 refine r_v (q_moveT rfl) rfl ?_; refine r_v (q_ext rfl rfl) rfl ?_; refine r_v (q_ext rfl rfl) rfl ?_; refine r_v (q_assignP rfl) rfl ?_; refine r_v (q_assignB rfl) rfl ?_
 refine r_nil (c_seq (c_seq (c_region ?_)))
 refine r_v (q_moveB rfl) rfl ?_; refine r_v (q_not rfl) rfl ?_
 refine r_nil (c_false rfl (c_skip (c_seq (c_region ?_))))
 refine r_v (q_moveP rfl) rfl ?_; refine r_v (q_nil rfl) rfl ?_; refine r_v (q_fa rfl) rfl ?_; refine r_v (q_load rfl (h.b 0) rfl) rfl ?_
 refine r_c rfl (x_call rfl (clone_bytes h (fun w' h' => (h'.f 1).own_rd) (bytesV_one _) hn) ?_)
 rintro _ w ⟨a', c', rfl, _, h⟩
 refine r_v (q_assignS rfl) rfl ?_; refine r_v (q_assignB rfl) rfl ?_
 refine r_nil (c_ret (bq2 ⟨a', c', rfl, ?_⟩))
 exact (St.store.2 ⟨m, (St.psame hg (((St.kept.2 ⟨a, c, ((h.f 1).f 2).f 1⟩).f 2).f 1)).f 2⟩).f 1
def Sto.left (S : Sto) (id : Int) (x : Kept) : Sto :=
 if IntKind.i64.wrap (x.holds - 1) = 0 then { S with bytes := IntKind.i64.wrap (S.bytes - x.bs.length), l := mdel id S.l } else S.put id ⟨x.bs, IntKind.i64.wrap (x.holds - 1)⟩
theorem blob_Add {sl : Option Addr} {n c : Nat} {bs : List UInt8} (h : St w0 (IsStore p S :: l) w) (hr : ∀ w', St w0 l w' → Rd w' 1 sl n (bytesV bs)) (hn : n ≤ 140737488355328) (hfree : mget (IntKind.i64.wrap (S.last + 1)) S.l = none) :
  Ret Tryz.prog 25 [.pointer (some ⟨p, 0, none⟩), .slice sl n c] w fun v w' =>
  if IntKind.i64.wrap (S.budget - IntKind.i64.wrap (S.bytes + S.charged)) < n then v = .tuple [.int .i64 0, .bool false].toArray ∧ St w0 (IsStore p S :: l) w'
  else v = .tuple [.int .i64 (IntKind.i64.wrap (S.last + 1)), .bool true].toArray ∧
   St w0 (IsStore p ⟨S.budget, IntKind.i64.wrap (S.last + 1), IntKind.i64.wrap (S.bytes + n), S.charged, mset (IntKind.i64.wrap (S.last + 1)) ⟨bs, 1⟩ S.l⟩ :: l) w' := by
 obtain ⟨m, h⟩ := St.store.1 h
 have hbs : bs.length = n := by
  have := (hr w (h.drop.drop)).1
  rw [bytesV_len] at this; omega
 refine enter Tryz.func25 rfl Tryz.results25 Tryz.ntmps25 rfl ?_
 refine c_seq (c_region ?_)
 refine r_v (q_assignI rfl) rfl ?_; refine r_v (q_assignB rfl) rfl ?_
 refine r_nil ?_
 refine c_seq (c_seq (c_any none (fun w => St w0 (StoPt p m S :: PMap (Value.int .i64) m IsKept S.l :: l) w) (by kernel_rfl) (by kernel_rfl) h.drew fun w h => ?_))
 refine cur_pure rfl rfl rfl rfl (fun _ => h) (fun _ => flt_v rfl (q_moveS rfl)) ?_; refine cur_pure rfl rfl rfl rfl (fun _ => h) (fun _ => flt_v rfl (q_len rfl)) ?_; refine cur_pure rfl rfl rfl rfl (fun _ => h) (fun _ => flt_v rfl (q_moveP rfl)) ?_; refine cur_pure rfl rfl rfl rfl (fun _ => h) (fun _ => flt_v rfl (q_nil rfl)) ?_; refine cur_pure rfl rfl rfl rfl (fun _ => h) (fun _ => flt_v rfl (q_fa rfl)) ?_; refine cur_float rfl rfl rfl rfl h (fun _ h => flt_v rfl (q_load rfl (h.b 0) rfl)) ?_; refine cur_pure rfl rfl rfl rfl (fun _ => h) (fun _ => flt_v rfl (q_moveP rfl)) ?_; refine cur_skip ?_; refine cur_skip ?_; refine cur_skip ?_
 refine cur_one 7 rfl rfl rfl rfl ?_
 refine x_call rfl (blob_Used h) ?_
 rintro _ w ⟨rfl, h⟩
 refine ⟨fun _ => h, ?_⟩
 refine cur_pure rfl rfl rfl rfl (fun _ => h) (fun _ => flt_v rfl (q_sub rfl rfl)) ?_; refine cur_pure rfl rfl rfl rfl (fun _ => h) (fun _ => flt_v rfl (q_gtr rfl rfl)) ?_
 refine cur_end ?_
 refine c_cond _ rfl (fun hc => ?_) (fun hc => ?_)
 ·have hc' : IntKind.i64.wrap (S.budget - IntKind.i64.wrap (S.bytes + S.charged)) < n := by simpa using hc
  refine c_seq (c_region ?_)
  refine r_v (q_assignI rfl) rfl ?_; refine r_v (q_assignB rfl) rfl ?_
  refine r_nil ?_
  refine c_ret (bq2 ?_)
  rw [if_pos hc']
  exact ⟨rfl, St.store.2 ⟨m, h⟩⟩
 have hc' : ¬ IntKind.i64.wrap (S.budget - IntKind.i64.wrap (S.bytes + S.charged)) < n := by simpa using hc
 refine c_skip ?_
 refine c_seq (c_region ?_)
 refine r_v (q_moveP rfl) rfl ?_; refine r_v (q_nil rfl) rfl ?_; refine r_v (q_fa rfl) rfl ?_; refine r_v (q_load rfl (h.b 0) rfl) rfl ?_; refine r_v (q_add rfl rfl) rfl ?_; refine r_v (q_nil rfl) rfl ?_; refine r_v (q_fa rfl) rfl ?_
 refine r_c rfl (x_store 0 h rfl (show _ = Value.int _ _ from rfl) rfl rfl rfl rfl fun w h => ?_); simp only [List.set_cons_zero, List.set_cons_succ, Nat.reduceAdd, Nat.zero_add, List.take_succ_cons, List.take_zero, List.drop_succ_cons, List.drop_zero, List.cons_append, List.nil_append, List.append_nil, List.length_cons, List.length_nil] at h
 refine r_nil ?_
 refine c_seq (c_any (some 12) (fun w => St w0 _ w) (by kernel_rfl) (by kernel_rfl) h.drew fun w h => ?_)
 refine cur_pure rfl rfl rfl rfl (fun _ => h) (fun _ => flt_v rfl (q_moveP rfl)) ?_; refine cur_pure rfl rfl rfl rfl (fun _ => h) (fun _ => flt_v rfl (q_nil rfl)) ?_; refine cur_pure rfl rfl rfl rfl (fun _ => h) (fun _ => flt_v rfl (q_fa rfl)) ?_; refine cur_float rfl rfl rfl rfl h (fun _ h => flt_v rfl (q_load rfl (h.b 0) rfl)) ?_; refine cur_pure rfl rfl rfl rfl (fun _ => h) (fun _ => flt_v rfl (q_moveP rfl)) ?_; refine cur_pure rfl rfl rfl rfl (fun _ => h) (fun _ => flt_v rfl (q_nil rfl)) ?_; refine cur_pure rfl rfl rfl rfl (fun _ => h) (fun _ => flt_v rfl (q_fa rfl)) ?_; refine cur_float rfl rfl rfl rfl h (fun _ h => flt_v rfl (q_load rfl (h.b 0) rfl)) ?_; refine cur_pure rfl rfl rfl rfl (fun _ => h) (fun _ => flt_v rfl (q_moveS rfl)) ?_; refine cur_skip ?_; refine cur_skip ?_; refine cur_skip ?_; refine cur_skip ?_
 refine cur_one 9 rfl rfl rfl rfl ?_
 refine x_call rfl (clone_bytes h (fun w' h' => hr w' (h'.drop.drop)) (bytesV_one _) hn) ?_
 rintro _ w ⟨a, c', rfl, _, h⟩
 refine ⟨fun _ => h.drop, ?_⟩
 have h0 := h
 replace h := h0.drop
 refine cur_pure rfl rfl rfl rfl (fun _ => h) (fun _ => flt_v rfl (q_build rfl)) ?_; refine cur_skip ?_; refine cur_skip ?_
 refine cur_one 11 rfl rfl rfl rfl ?_
 refine x_box h0 (show _ = Value.agg [.slice a n c', .int .i64 1].toArray from rfl) fun e w h0 => ⟨fun _ => h0.drop.drop, ?_⟩
 have h := h0.drop.drop
 refine cur_skip ?_
 refine cur_last 12 rfl rfl rfl ?_
 have h1 := (St.kept (x := ⟨bs, 1⟩)).2 ⟨a, c', by rw [hbs]; exact h0⟩
 refine x_pset ((h1.f 2).f 1) hfree rfl rfl rfl fun w h => ?_
 replace h := h.f 1
 refine c_seq (c_region ?_)
 refine r_v (q_moveP rfl) rfl ?_; refine r_v (q_nil rfl) rfl ?_; refine r_v (q_fa rfl) rfl ?_; refine r_v (q_load rfl (h.b 0) rfl) rfl ?_; refine r_v (q_moveS rfl) rfl ?_; refine r_v (q_len rfl) rfl ?_; refine r_v (q_add rfl rfl) rfl ?_; refine r_v (q_nil rfl) rfl ?_; refine r_v (q_fa rfl) rfl ?_
 refine r_c rfl (x_store 0 h rfl (show _ = Value.int _ _ from rfl) rfl rfl rfl rfl fun w h => ?_); simp only [List.set_cons_zero, List.set_cons_succ, Nat.reduceAdd, Nat.zero_add, List.take_succ_cons, List.take_zero, List.drop_succ_cons, List.drop_zero, List.cons_append, List.nil_append, List.append_nil, List.length_cons, List.length_nil] at h
 refine r_nil ?_
 refine c_seq (c_region ?_)
 refine r_v (q_moveP rfl) rfl ?_; refine r_v (q_nil rfl) rfl ?_; refine r_v (q_fa rfl) rfl ?_; refine r_v (q_load rfl (h.b 0) rfl) rfl ?_; refine r_v (q_assignI rfl) rfl ?_; refine r_v (q_assignB rfl) rfl ?_
 refine r_nil ?_
 refine c_ret (bq2 ?_)
 rw [if_neg hc']
 exact ⟨rfl, St.store.2 ⟨m, h⟩⟩

def Sto.charge (S : Sto) (n : Int) : Sto :=
 let k := if n < IntKind.i64.wrap (0 - S.charged) then IntKind.i64.wrap (0 - S.charged) else n
 { S with charged := IntKind.i64.wrap (S.charged + k) }
end
end Go.Proofs.YtnnehiiblfmpnaaGreatDoor

namespace Go.Proofs.YtnnehiiblfmpnaaGreatDoor
open Go.Hw
set_option maxHeartbeats 4000000

theorem clone_parts {w0 w : World} {l : List HProp} {sl : Option Addr} {n c : Nat} {xs : List Value} (h : St w0 l w) (hr : ∀ w', St w0 l w' → Rd w' 5 sl n xs) (hx : ∀ u ∈ xs, u.oneCell' = true) (hn : n * 40 ≤ 140737488355328) : Ret Tryz.prog 169 [.slice sl n c] w fun v w' => ∃ a c', v = .slice a n c' ∧ (a = none ↔ sl = none) ∧ St w0 (Own 60 5 a n c' xs :: l) w' := by
 refine enter Tryz.func169 rfl Tryz.results169 Tryz.ntmps169 rfl ?_
 refine c_seq (c_region ?_)
 refine r_v (q_assignS rfl) rfl ?_
 refine r_nil (c_seq (c_seq (c_region ?_)))
 refine r_v (q_moveS rfl) rfl ?_
 refine r_v (q_seqnil rfl rfl) rfl ?_
 refine r_nil (c_cond sl.isNone rfl (fun hs => ?_) (fun hs => ?_))
 ·refine c_seq (c_region ?_)
  refine r_v (q_assignS rfl) rfl ?_
  obtain rfl : sl = none := by simpa using hs
  have h2 := hr w h
  obtain ⟨h3, h4⟩ := h2
  obtain rfl : n = 0 := by rcases h4 with h | ⟨b, o, h, _⟩; exact h; cases h
  obtain rfl : xs = [] := List.eq_nil_of_length_eq_zero (by simpa using h3)
  refine r_nil (c_ret (bq1 ⟨none, 0, rfl, by simp, St.ownNil _ _ h⟩))
 ·refine c_skip ?_
  refine c_seq (c_region ?_)
  refine r_c rfl (x_bslice (r := []) h rfl rfl rfl fun b w h => ?_)
  refine r_v (q_moveS rfl) rfl ?_
  have h1 : St w0 (Own 60 5 (some ⟨b, 0, none⟩) 0 0 [] :: l) w := St.own_mk (cur := []) h rfl rfl (Nat.le_refl _)
  refine r_c rfl (x_append' h1 rfl rfl (hr w h1.drop) hx (Nat.zero_add n) (List.nil_append _) hn (by omega) rfl fun a c' w hn h => ?_)
  refine r_v (q_assignS rfl) rfl ?_
  refine r_nil (c_ret (bq1 ⟨a, c', rfl, ?_, h⟩))
  exact ⟨(fun h => by cases hn h), (fun h => by rw [h] at hs; cases hs)⟩

theorem clone_smps {w0 w : World} {l : List HProp} {sl : Option Addr} {n c : Nat} {xs : List Value} (h : St w0 l w) (hr : ∀ w', St w0 l w' → Rd w' 2 sl n xs) (hx : ∀ u ∈ xs, u.oneCell' = true) (hn : n * 16 ≤ 140737488355328) : Ret Tryz.prog 64 [.slice sl n c] w fun v w' => ∃ a c', v = .slice a n c' ∧ (a = none ↔ sl = none) ∧ St w0 (Own 58 2 a n c' xs :: l) w' := by
 refine enter Tryz.func64 rfl Tryz.results64 Tryz.ntmps64 rfl ?_
 refine c_seq (c_region ?_)
 refine r_v (q_assignS rfl) rfl ?_
 refine r_nil (c_seq (c_seq (c_region ?_)))
 refine r_v (q_moveS rfl) rfl ?_
 refine r_v (q_seqnil rfl rfl) rfl ?_
 refine r_nil (c_cond sl.isNone rfl (fun hs => ?_) (fun hs => ?_))
 ·refine c_seq (c_region ?_)
  refine r_v (q_assignS rfl) rfl ?_
  obtain rfl : sl = none := by simpa using hs
  have h2 := hr w h
  obtain ⟨h3, h4⟩ := h2
  obtain rfl : n = 0 := by rcases h4 with h | ⟨b, o, h, _⟩; exact h; cases h
  obtain rfl : xs = [] := List.eq_nil_of_length_eq_zero (by simpa using h3)
  refine r_nil (c_ret (bq1 ⟨none, 0, rfl, by simp, St.ownNil _ _ h⟩))
 ·refine c_skip ?_
  refine c_seq (c_region ?_)
  refine r_c rfl (x_bslice (r := []) h rfl rfl rfl fun b w h => ?_)
  refine r_v (q_moveS rfl) rfl ?_
  have h1 : St w0 (Own 58 2 (some ⟨b, 0, none⟩) 0 0 [] :: l) w := St.own_mk (cur := []) h rfl rfl (Nat.le_refl _)
  refine r_c rfl (x_append' h1 rfl rfl (hr w h1.drop) hx (Nat.zero_add n) (List.nil_append _) hn (by omega) rfl fun a c' w hn h => ?_)
  refine r_v (q_assignS rfl) rfl ?_
  refine r_nil (c_ret (bq1 ⟨a, c', rfl, ?_, h⟩))
  exact ⟨(fun h => by cases hn h), (fun h => by rw [h] at hs; cases hs)⟩

structure SnapV where
 life : Int
 ver : Int
 frm : Int
 upto : Int
 pn : Nat
 pc : List Value
 tn : Nat
 tc : List Value
abbrev SnapV.cells (x : SnapV) (a1 : Option Addr) (c1 : Nat) (a2 : Option Addr) (c2 : Nat) : List Value := [.int .i64 x.life, .int .i64 x.ver, .int .i64 x.frm, .int .i64 x.upto, .slice a1 x.pn c1, .slice a2 x.tn c2]
structure SnapV.Wf (x : SnapV) : Prop where
 p1 : ∀ u ∈ x.pc, u.oneCell' = true
 t1 : ∀ u ∈ x.tc, u.oneCell' = true
 pn : x.pn * 40 ≤ 140737488355328
 tn : x.tn * 16 ≤ 140737488355328
structure One where
 series : Int
 told : Int
 x : SnapV
 used : Bool
 who : Int
abbrev One.cells (o : One) (a1 : Option Addr) (c1 : Nat) (a2 : Option Addr) (c2 : Nat) : List Value := [.int .i64 o.series, .int .i64 o.told, .int .i64 o.x.life, .int .i64 o.x.ver, .int .i64 o.x.frm, .int .i64 o.x.upto, .slice a1 o.x.pn c1, .slice a2 o.x.tn c2, .bool o.used, .int .i64 o.who]
abbrev OwnP (x : SnapV) (a1 : Option Addr) (c1 : Nat) : HProp := Own 60 5 a1 x.pn c1 x.pc
abbrev OwnT (x : SnapV) (a2 : Option Addr) (c2 : Nat) : HProp := Own 58 2 a2 x.tn c2 x.tc
def IsOne (e : Nat) (o : One) : HProp := ex fun q : Option Addr × Nat × Option Addr × Nat => all [pt e (.cells (o.cells q.1 q.2.1 q.2.2.1 q.2.2.2).toArray 391 (0, 0)), OwnP o.x q.1 q.2.1, OwnT o.x q.2.2.1 q.2.2.2, lift o.x.Wf]
theorem St.one {w0 w : World} {l : List HProp} {e : Nat} {o : One} : St w0 (IsOne e o :: l) w ↔ o.x.Wf ∧ ∃ a1 c1 a2 c2, St w0 (pt e (.cells (o.cells a1 c1 a2 c2).toArray 391 (0, 0)) :: OwnP o.x a1 c1 :: OwnT o.x a2 c2 :: l) w := by
 unfold IsOne
 rw [St.ex]
 constructor
 ·rintro ⟨⟨a1, c1, a2, c2⟩, h⟩
  have h1 := (h.join.f 3)
  obtain ⟨hw, h2⟩ := St.lift.1 h1
  exact ⟨hw, a1, c1, a2, c2, h2⟩
 ·rintro ⟨hw, a1, c1, a2, c2, h⟩
  have h1 := (St.lift.2 ⟨hw, h⟩)
  have h2 : St w0 ([pt e (.cells (o.cells a1 c1 a2 c2).toArray 391 (0, 0)), OwnP o.x a1 c1, OwnT o.x a2 c2, lift o.x.Wf] ++ l) w := h1.of_all (by simp only [List.cons_append, List.nil_append, all_star]; ac_rfl)
  exact ⟨(a1, c1, a2, c2), St.fold _ h2⟩
structure Tab where
 last : Int
 l : List (Int × One)
abbrev TabPt (p m : Nat) (T : Tab) : HProp := pt p (.cells [.int .i64 T.last, .map (some m)].toArray 231 (0, 0))
def IsTab (p : Nat) (T : Tab) : HProp := ex fun m : Nat => all [TabPt p m T, PMap (Value.int .i64) m IsOne T.l]
theorem St.tab {w0 w : World} {l : List HProp} {p : Nat} {T : Tab} : St w0 (IsTab p T :: l) w ↔ ∃ m, St w0 (TabPt p m T :: PMap (Value.int .i64) m IsOne T.l :: l) w := by
 unfold IsTab
 rw [St.ex]
 exact ⟨fun ⟨m, h⟩ => ⟨m, h.join⟩, fun ⟨m, h⟩ => ⟨m, St.fold [_, _] h⟩⟩

section
variable {w0 w : World} {l : List HProp} {p m : Nat} {T : Tab}

theorem iter_New (h : St w0 l w) : Ret Tryz.prog 121 [] w fun v w' => ∃ p, v = .pointer (some ⟨p, 0, none⟩) ∧ St w0 (IsTab p ⟨0, []⟩ :: l) w' := by
 refine enter Tryz.func121 rfl Tryz.results121 Tryz.ntmps121 rfl ?_
 refine c_seq (c_region ?_)
 refine r_v (q_assignP rfl) rfl ?_
 refine r_nil ?_
 refine c_seq (c_region ?_)
 refine r_c rfl (x_pmake (Value.int .i64) IsOne h fun m w h => ?_)
 refine r_v (q_build rfl) rfl ?_
 refine r_c rfl (x_box h rfl fun p w h => ?_)
 refine r_v (q_assignP rfl) rfl ?_
 refine r_nil (c_ret (bq1 ⟨p, rfl, ?_⟩))
 exact St.tab.2 ⟨m, h⟩
theorem iter_Count (h : St w0 (IsTab p T :: l) w) : Ret Tryz.prog 80 [.pointer (some ⟨p, 0, none⟩)] w fun v w' => v = .int .i64 T.l.length ∧ St w0 (IsTab p T :: l) w' := by
 obtain ⟨m, h⟩ := St.tab.1 h
 refine enter Tryz.func80 rfl Tryz.results80 Tryz.ntmps80 rfl ?_
 refine c_seq (c_region ?_)
 refine r_v (q_assignI rfl) rfl ?_
 refine r_nil ?_
 refine c_seq (c_region ?_)
 refine r_v (q_moveP rfl) rfl ?_; refine r_v (q_nil rfl) rfl ?_; refine r_v (q_fa rfl) rfl ?_; refine r_v (q_load rfl (h.b 0) rfl) rfl ?_
 refine r_v (q_plen (h.f 1) rfl) rfl ?_
 refine r_v (q_assignI rfl) rfl ?_
 refine r_nil ?_
 exact c_ret (bq1 ⟨rfl, St.tab.2 ⟨m, h⟩⟩)

def One.by (o : One) (who : Int) : Prop := o.used = true ∧ o.who = who
abbrev snap0 : List Value := [.int .i64 0, .int .i64 0, .int .i64 0, .int .i64 0, .slice none 0 0, .slice none 0 0]
end
end Go.Proofs.YtnnehiiblfmpnaaGreatDoor

namespace Go.Proofs.YtnnehiiblfmpnaaGreatDoor
open Go.Hw Go.Lib
set_option maxHeartbeats 4000000
set_option maxRecDepth 100000
section
variable {w0 w : World} {l : List HProp}
def placeZ : List Value := [.bool false, .bool false, .int .i64 0, .int .i64 0, .bool false, .int .i64 0, .slice none 0 0, .slice none 0 0, .bool false, .int .i64 0]
def dirZ : List Value := (List.replicate 16 placeZ).flatten
theorem dire_New (h : St w0 l w) : Ret Tryz.prog 120 [] w fun v w' => ∃ p, v = .pointer (some ⟨p, 0, none⟩) ∧ St w0 (pt p (.cells dirZ.toArray 274 (0, 0)) :: l) w' := by
 refine enter Tryz.func120 rfl Tryz.results120 Tryz.ntmps120 rfl ?_
 refine c_seq (c_region ?_)
 refine r_v (q_assignP rfl) rfl ?_
 refine r_nil ?_
 refine c_seq (c_region ?_)
 refine r_v (q_build rfl) rfl ?_
 refine r_c rfl (x_box h rfl fun p w h => ?_)
 refine r_v (q_assignP rfl) rfl ?_
 exact r_nil (c_ret (bq1 ⟨p, rfl, h⟩))
def jobZ (m : Nat) : List Value := [.int .i64 0, .map (some m), .int .i64 0, .int .i64 0, .int .i64 0, .int .i64 0, .int .i64 0, .int .i64 0, .int .i64 0, .int .i64 0, .pointer none, .pointer none, .slice none 0 0, .slice none 0 0,
 .bool false, .bool false, .int .i64 0, .int .i64 0, .bool false, .int .i64 0, .slice none 0 0, .slice none 0 0, .int .i64 0, .int .i64 0, .bool false]
theorem recm_New (h : St w0 l w) : Ret Tryz.prog 72 [] w fun v w' => ∃ p m, v = .pointer (some ⟨p, 0, none⟩) ∧ St w0 (pt p (.cells (jobZ m).toArray 228 (0, 0)) :: MapOf (Value.int .i64) m [] :: l) w' := by
 refine enter Tryz.func72 rfl Tryz.results72 Tryz.ntmps72 rfl ?_
 refine c_seq (c_region ?_)
 refine r_v (q_assignP rfl) rfl ?_
 refine r_nil ?_
 refine c_seq (c_region ?_)
 refine r_c rfl (x_mkmap (Value.int .i64) h fun m w h => ?_)
 refine r_v (q_build (r := jobZ m) rfl) rfl ?_
 refine r_c rfl (x_box h rfl fun p w h => ?_)
 refine r_v (q_assignP rfl) rfl ?_
 exact r_nil (c_ret (bq1 ⟨p, m, rfl, h⟩))
def clkZ (n : Int) : List Value := [.int .i64 (min (max n 1) 1000), .int .i64 1, .slice none 0 0, .int .i64 0, .int .i64 0, .int .i64 0]
theorem clok_New (n : Int) (h : St w0 l w) : Ret Tryz.prog 58 [.int .i64 n] w fun v w' => v = .agg (clkZ n).toArray ∧ St w0 l w' := by
 refine enter Tryz.func58 rfl Tryz.results58 Tryz.ntmps58 rfl ?_
 refine c_seq (c_region ?_)
 refine r_c rfl (x_alloc h fun b w h => ?_)
 refine r_nil ?_
 refine c_seq (c_region ?_)
 refine r_v (q_moveI rfl) rfl ?_; refine r_v (q_max rfl rfl) rfl ?_; refine r_v (q_min rfl rfl) rfl ?_
 refine r_v (q_build (r := clkZ n) rfl) rfl ?_
 refine r_c rfl (x_storeA (vs := clkZ n) 0 h rfl rfl rfl rfl rfl rfl rfl fun w h => ?_)
 exact r_nil (c_ret (bqS1 (l := clkZ n) rfl rfl (at_of (h.b 0 rfl) rfl) ⟨rfl, h.drop⟩))
def cacZ (n : Int) (m : Nat) : List Value := [.int .i64 (min (max n 1) 1000), .int .i64 1, .slice none 0 0, .int .i64 0, .int .i64 0, .int .i64 0, .map (some m)]
theorem cach_New (n : Int) (h : St w0 l w) : Ret Tryz.prog 24 [.int .i64 n] w fun v w' => ∃ p m, v = .pointer (some ⟨p, 0, none⟩) ∧ St w0 (pt p (.cells (cacZ n m).toArray 122 (0, 0)) :: MapOf (Value.int .i64) m [] :: l) w' := by
 refine enter Tryz.func24 rfl Tryz.results24 Tryz.ntmps24 rfl ?_
 refine c_seq (c_region ?_)
 refine r_v (q_assignP rfl) rfl ?_
 refine r_nil ?_
 refine c_seq (c_region ?_)
 refine r_v (q_moveI rfl) rfl ?_
 refine r_c rfl (x_call rfl (clok_New n h) ?_)
 clear h
 rintro _ w ⟨rfl, h⟩
 refine r_c rfl (x_mkmap (Value.int .i64) h fun m w h => ?_)
 refine r_v (q_build (r := cacZ n m) rfl) rfl ?_
 refine r_c rfl (x_box h rfl fun p w h => ?_)
 refine r_v (q_assignP rfl) rfl ?_
 exact r_nil (c_ret (bq1 ⟨p, m, rfl, h⟩))
structure EngAt where
 p : Nat
 sh : Nat
 jb : Nat
 dr : Nat
 ca : Nat
 st : Nat
 it : Nat
 m1 : Nat
 m2 : Nat
 rest : List Value
def EngAt.own (E : EngAt) (n b : Int) : List HProp := [pt E.p (.cells (.pointer (some ⟨E.sh, 0, none⟩) :: .pointer (some ⟨E.jb, 0, none⟩) :: E.rest).toArray 158 (0, 0)),
 pt E.sh (.cells [.pointer (some ⟨E.dr, 0, none⟩), .pointer (some ⟨E.ca, 0, none⟩), .pointer (some ⟨E.st, 0, none⟩), .pointer (some ⟨E.it, 0, none⟩)].toArray 223 (0, 0)),
 pt E.jb (.cells (jobZ E.m1).toArray 228 (0, 0)), pt E.dr (.cells dirZ.toArray 274 (0, 0)),
 pt E.ca (.cells (cacZ n E.m2).toArray 122 (0, 0)), MapOf (Value.int .i64) E.m2 [], IsStore E.st ⟨min (max b 0) 1073741824, 0, 0, 0, []⟩, IsTab E.it ⟨0, []⟩]
theorem prog_NewShared (n b : Int) (h : St w0 l w) : Ret Tryz.prog 71 [.int .i64 n, .int .i64 b] w fun v w' => ∃ sh dr ca st it m2, v = .pointer (some ⟨sh, 0, none⟩) ∧ St w0 (pt sh (.cells [.pointer (some ⟨dr, 0, none⟩), .pointer (some ⟨ca, 0, none⟩), .pointer (some ⟨st, 0, none⟩), .pointer (some ⟨it, 0, none⟩)].toArray 223 (0, 0)) ::
  pt dr (.cells dirZ.toArray 274 (0, 0)) :: pt ca (.cells (cacZ n m2).toArray 122 (0, 0)) :: MapOf (Value.int .i64) m2 [] :: IsStore st ⟨min (max b 0) 1073741824, 0, 0, 0, []⟩ :: IsTab it ⟨0, []⟩ :: l) w' := by
 refine enter Tryz.func71 rfl Tryz.results71 Tryz.ntmps71 rfl ?_
 refine c_seq (c_region ?_)
 refine r_v (q_assignP rfl) rfl ?_
 refine r_nil ?_
 refine c_seq (c_region ?_)
 refine r_c rfl (x_call rfl (dire_New h) ?_)
 clear h
 rintro _ w ⟨dr, rfl, h⟩
 refine r_v (q_moveI rfl) rfl ?_
 refine r_c rfl (x_call rfl (cach_New n h) ?_)
 clear h
 rintro _ w ⟨ca, m2, rfl, h⟩
 refine r_v (q_moveI rfl) rfl ?_
 refine r_c rfl (x_call rfl (blob_New b h) ?_)
 clear h
 rintro _ w ⟨st, rfl, h⟩
 refine r_c rfl (x_call rfl (iter_New h) ?_)
 clear h
 rintro _ w ⟨it, rfl, h⟩
 refine r_v (q_build (r := [.pointer (some ⟨dr, 0, none⟩), .pointer (some ⟨ca, 0, none⟩), .pointer (some ⟨st, 0, none⟩), .pointer (some ⟨it, 0, none⟩)]) rfl) rfl ?_
 refine r_c rfl (x_box h rfl fun sh w h => ?_)
 refine r_v (q_assignP rfl) rfl ?_
 exact r_nil (c_ret (bq1 ⟨sh, dr, ca, st, it, m2, rfl, (((((h.f 1).f 2).f 4).f 4).f 5).f 5⟩))
theorem engn_New (n b : Int) (h : St w0 l w) : Ret Tryz.prog 38 [.int .i64 n, .int .i64 b] w fun v w' => ∃ E : EngAt, v = .pointer (some ⟨E.p, 0, none⟩) ∧ St w0 (E.own n b ++ l) w' := by
 refine enter Tryz.func38 rfl Tryz.results38 Tryz.ntmps38 rfl ?_
 refine c_seq (c_region ?_)
 refine r_v (q_assignP rfl) rfl ?_
 refine r_nil ?_
 refine c_seq (c_region ?_)
 refine r_v (q_moveI rfl) rfl ?_; refine r_v (q_moveI rfl) rfl ?_
 refine r_c rfl (x_call rfl (prog_NewShared n b h) ?_)
 clear h
 rintro _ w ⟨sh, dr, ca, st, it, m2, rfl, h⟩
 refine r_c rfl (x_call rfl (recm_New h) ?_)
 clear h
 rintro _ w ⟨jb, m1, rfl, h⟩
 replace h := (h.f 1).drop
 refine r_v (q_build rfl) rfl ?_
 refine r_c rfl (x_box h rfl fun p w h => ?_)
 refine r_v (q_assignP rfl) rfl ?_
 exact r_nil (c_ret (bq1 ⟨⟨p, sh, jb, dr, ca, st, it, m1, m2, _⟩, rfl, (((((((h.f 7).f 7).f 7).f 7).f 7).f 6).f 7).f 7⟩))
end
end Go.Proofs.YtnnehiiblfmpnaaGreatDoor

namespace Go.Proofs.YtnnehiiblfmpnaaGreatDoor
open Go.Hw Go.Lib
set_option maxHeartbeats 4000000
set_option maxRecDepth 100000
section
variable {w0 w : World} {l : List HProp} {E : EngAt} {n b : Int}
theorem engn_Job (h : St w0 (E.own n b ++ l) w) : Ret Tryz.prog 73 [.pointer (some ⟨E.p, 0, none⟩)] w fun v w' => v = .pointer (some ⟨E.jb, 0, none⟩) ∧ St w0 (E.own n b ++ l) w' := by
 refine enter Tryz.func73 rfl Tryz.results73 Tryz.ntmps73 rfl ?_
 refine c_seq (c_region ?_)
 refine r_v (q_assignP rfl) rfl ?_
 refine r_nil ?_
 refine c_seq (c_region ?_)
 refine r_v (q_moveP rfl) rfl ?_; refine r_v (q_nil rfl) rfl ?_; refine r_v (q_fa rfl) rfl ?_
 refine r_v (q_load (v := .pointer (some ⟨E.jb, 0, none⟩)) rfl (h.b 0 rfl) rfl) rfl ?_
 refine r_v (q_assignP rfl) rfl ?_
 exact r_nil (c_ret (bq1 ⟨rfl, h⟩))
theorem engn_Shared (h : St w0 (E.own n b ++ l) w) : Ret Tryz.prog 74 [.pointer (some ⟨E.p, 0, none⟩)] w fun v w' => v = .pointer (some ⟨E.sh, 0, none⟩) ∧ St w0 (E.own n b ++ l) w' := by
 refine enter Tryz.func74 rfl Tryz.results74 Tryz.ntmps74 rfl ?_
 refine c_seq (c_region ?_)
 refine r_v (q_assignP rfl) rfl ?_
 refine r_nil ?_
 refine c_seq (c_region ?_)
 refine r_v (q_moveP rfl) rfl ?_; refine r_v (q_nil rfl) rfl ?_; refine r_v (q_fa rfl) rfl ?_
 refine r_v (q_load (v := .pointer (some ⟨E.sh, 0, none⟩)) rfl (h.b 0 rfl) rfl) rfl ?_
 refine r_v (q_assignP rfl) rfl ?_
 exact r_nil (c_ret (bq1 ⟨rfl, h⟩))
theorem prog_Dir (h : St w0 (E.own n b ++ l) w) : Ret Tryz.prog 75 [.pointer (some ⟨E.sh, 0, none⟩)] w fun v w' => v = .pointer (some ⟨E.dr, 0, none⟩) ∧ St w0 (E.own n b ++ l) w' := by
 refine enter Tryz.func75 rfl Tryz.results75 Tryz.ntmps75 rfl ?_
 refine c_seq (c_region ?_)
 refine r_v (q_assignP rfl) rfl ?_
 refine r_nil ?_
 refine c_seq (c_region ?_)
 refine r_v (q_moveP rfl) rfl ?_; refine r_v (q_nil rfl) rfl ?_; refine r_v (q_fa rfl) rfl ?_
 refine r_v (q_load (v := .pointer (some ⟨E.dr, 0, none⟩)) rfl (h.b 1 rfl) rfl) rfl ?_
 refine r_v (q_assignP rfl) rfl ?_
 exact r_nil (c_ret (bq1 ⟨rfl, h⟩))
theorem prog_Cache (h : St w0 (E.own n b ++ l) w) : Ret Tryz.prog 76 [.pointer (some ⟨E.sh, 0, none⟩)] w fun v w' => v = .pointer (some ⟨E.ca, 0, none⟩) ∧ St w0 (E.own n b ++ l) w' := by
 refine enter Tryz.func76 rfl Tryz.results76 Tryz.ntmps76 rfl ?_
 refine c_seq (c_region ?_)
 refine r_v (q_assignP rfl) rfl ?_
 refine r_nil ?_
 refine c_seq (c_region ?_)
 refine r_v (q_moveP rfl) rfl ?_; refine r_v (q_nil rfl) rfl ?_; refine r_v (q_fa rfl) rfl ?_
 refine r_v (q_load (v := .pointer (some ⟨E.ca, 0, none⟩)) rfl (h.b 1 rfl) rfl) rfl ?_
 refine r_v (q_assignP rfl) rfl ?_
 exact r_nil (c_ret (bq1 ⟨rfl, h⟩))
theorem prog_Store (h : St w0 (E.own n b ++ l) w) : Ret Tryz.prog 77 [.pointer (some ⟨E.sh, 0, none⟩)] w fun v w' => v = .pointer (some ⟨E.st, 0, none⟩) ∧ St w0 (E.own n b ++ l) w' := by
 refine enter Tryz.func77 rfl Tryz.results77 Tryz.ntmps77 rfl ?_
 refine c_seq (c_region ?_)
 refine r_v (q_assignP rfl) rfl ?_
 refine r_nil ?_
 refine c_seq (c_region ?_)
 refine r_v (q_moveP rfl) rfl ?_; refine r_v (q_nil rfl) rfl ?_; refine r_v (q_fa rfl) rfl ?_
 refine r_v (q_load (v := .pointer (some ⟨E.st, 0, none⟩)) rfl (h.b 1 rfl) rfl) rfl ?_
 refine r_v (q_assignP rfl) rfl ?_
 exact r_nil (c_ret (bq1 ⟨rfl, h⟩))
theorem prog_Iters (h : St w0 (E.own n b ++ l) w) : Ret Tryz.prog 78 [.pointer (some ⟨E.sh, 0, none⟩)] w fun v w' => v = .pointer (some ⟨E.it, 0, none⟩) ∧ St w0 (E.own n b ++ l) w' := by
 refine enter Tryz.func78 rfl Tryz.results78 Tryz.ntmps78 rfl ?_
 refine c_seq (c_region ?_)
 refine r_v (q_assignP rfl) rfl ?_
 refine r_nil ?_
 refine c_seq (c_region ?_)
 refine r_v (q_moveP rfl) rfl ?_; refine r_v (q_nil rfl) rfl ?_; refine r_v (q_fa rfl) rfl ?_
 refine r_v (q_load (v := .pointer (some ⟨E.it, 0, none⟩)) rfl (h.b 1 rfl) rfl) rfl ?_
 refine r_v (q_assignP rfl) rfl ?_
 exact r_nil (c_ret (bq1 ⟨rfl, h⟩))
theorem law24_Whole (h : St w0 (E.own n b ++ l) w) : Ret Tryz.prog 39 [.pointer (some ⟨E.p, 0, none⟩)] w fun v w' => v = .bool true ∧ St w0 (E.own n b ++ l) w' := by
 refine enter Tryz.func39 rfl Tryz.results39 Tryz.ntmps39 rfl ?_
 refine c_seq (c_region ?_)
 refine r_v (q_assignB rfl) rfl ?_
 refine r_nil ?_
 refine c_seq (c_region ?_)
 refine r_v (q_moveP rfl) rfl ?_; refine r_v (q_nenil rfl rfl) rfl ?_; refine r_v (q_moveB rfl) rfl ?_; refine r_gd rfl rfl ?_; refine r_v (q_moveP rfl) rfl ?_; refine r_gd rfl rfl ?_
 refine r_c rfl (x_call rfl (engn_Job h) ?_)
 clear h
 rintro _ w ⟨rfl, h⟩
 refine r_gd rfl rfl ?_; refine r_v (q_nenil rfl rfl) rfl ?_; refine r_v (q_pick1 rfl rfl rfl) rfl ?_; refine r_v (q_moveB rfl) rfl ?_; refine r_gd rfl rfl ?_; refine r_v (q_moveP rfl) rfl ?_; refine r_gd rfl rfl ?_
 refine r_c rfl (x_call rfl (engn_Shared h) ?_)
 clear h
 rintro _ w ⟨rfl, h⟩
 refine r_gd rfl rfl ?_; refine r_v (q_nenil rfl rfl) rfl ?_; refine r_v (q_pick1 rfl rfl rfl) rfl ?_; refine r_v (q_moveB rfl) rfl ?_; refine r_gd rfl rfl ?_; refine r_v (q_moveP rfl) rfl ?_; refine r_gd rfl rfl ?_
 refine r_c rfl (x_call rfl (engn_Shared h) ?_)
 clear h
 rintro _ w ⟨rfl, h⟩
 refine r_gd rfl rfl ?_
 refine r_c rfl (x_call rfl (prog_Dir h) ?_)
 clear h
 rintro _ w ⟨rfl, h⟩
 refine r_gd rfl rfl ?_; refine r_v (q_nenil rfl rfl) rfl ?_; refine r_v (q_pick1 rfl rfl rfl) rfl ?_; refine r_v (q_moveB rfl) rfl ?_; refine r_gd rfl rfl ?_; refine r_v (q_moveP rfl) rfl ?_; refine r_gd rfl rfl ?_
 refine r_c rfl (x_call rfl (engn_Shared h) ?_)
 clear h
 rintro _ w ⟨rfl, h⟩
 refine r_gd rfl rfl ?_
 refine r_c rfl (x_call rfl (prog_Cache h) ?_)
 clear h
 rintro _ w ⟨rfl, h⟩
 refine r_gd rfl rfl ?_; refine r_v (q_nenil rfl rfl) rfl ?_; refine r_v (q_pick1 rfl rfl rfl) rfl ?_; refine r_v (q_moveB rfl) rfl ?_; refine r_gd rfl rfl ?_; refine r_v (q_moveP rfl) rfl ?_; refine r_gd rfl rfl ?_
 refine r_c rfl (x_call rfl (engn_Shared h) ?_)
 clear h
 rintro _ w ⟨rfl, h⟩
 refine r_gd rfl rfl ?_
 refine r_c rfl (x_call rfl (prog_Store h) ?_)
 clear h
 rintro _ w ⟨rfl, h⟩
 refine r_gd rfl rfl ?_; refine r_v (q_nenil rfl rfl) rfl ?_; refine r_v (q_pick1 rfl rfl rfl) rfl ?_; refine r_v (q_moveB rfl) rfl ?_; refine r_gd rfl rfl ?_; refine r_v (q_moveP rfl) rfl ?_; refine r_gd rfl rfl ?_
 refine r_c rfl (x_call rfl (engn_Shared h) ?_)
 clear h
 rintro _ w ⟨rfl, h⟩
 refine r_gd rfl rfl ?_
 refine r_c rfl (x_call rfl (prog_Iters h) ?_)
 clear h
 rintro _ w ⟨rfl, h⟩
 refine r_gd rfl rfl ?_; refine r_v (q_nenil rfl rfl) rfl ?_; refine r_v (q_pick1 rfl rfl rfl) rfl ?_; refine r_v (q_assignB rfl) rfl ?_
 exact r_nil (c_ret (bq1 ⟨rfl, h⟩))
theorem recm_Counts (h : St w0 (E.own n b ++ l) w) : Ret Tryz.prog 79 [.pointer (some ⟨E.jb, 0, none⟩)] w fun v w' => v = .tuple [.int .i64 0, .int .i64 0].toArray ∧ St w0 (E.own n b ++ l) w' := by
 refine enter Tryz.func79 rfl Tryz.results79 Tryz.ntmps79 rfl ?_
 refine c_seq (c_region ?_)
 refine r_v (q_assignI rfl) rfl ?_; refine r_v (q_assignI rfl) rfl ?_
 refine r_nil ?_
 refine c_seq (c_anyR [0, 1, 2, 3, 5, 6, 7, 8, 4, 9] none (fun w => St w0 (E.own n b ++ l) w) (by kernel_rfl) (by kernel_rfl) h.drew fun w h => ?_)
 refine cur_pure rfl rfl rfl rfl (fun _ => h) (fun _ => flt_v rfl (q_moveP rfl)) ?_; refine cur_pure rfl rfl rfl rfl (fun _ => h) (fun _ => flt_v rfl (q_nil rfl)) ?_; refine cur_pure rfl rfl rfl rfl (fun _ => h) (fun _ => flt_v rfl (q_fa rfl)) ?_
 refine cur_float rfl rfl rfl rfl h (fun _ h => flt_v rfl (q_load (v := .int .i64 0) rfl (h.b 2 rfl) rfl)) ?_
 refine cur_pure rfl rfl rfl rfl (fun _ => h) (fun _ => flt_v rfl (q_moveP rfl)) ?_; refine cur_pure rfl rfl rfl rfl (fun _ => h) (fun _ => flt_v rfl (q_nil rfl)) ?_; refine cur_pure rfl rfl rfl rfl (fun _ => h) (fun _ => flt_v rfl (q_fa rfl)) ?_
 refine cur_float rfl rfl rfl rfl h (fun _ h => flt_v rfl (q_load (v := .int .i64 0) rfl (h.b 2 rfl) rfl)) ?_
 refine cur_pure rfl rfl rfl rfl (fun _ => h) (fun _ => flt_v rfl (q_assignI rfl)) ?_; refine cur_pure rfl rfl rfl rfl (fun _ => h) (fun _ => flt_v rfl (q_assignI rfl)) ?_
 exact cur_end (c_ret (bq2 ⟨rfl, h⟩))
theorem cach_Frames0 (h : St w0 (E.own n b ++ l) w) : Ret Tryz.prog 33 [.pointer (some ⟨E.ca, 0, none⟩)] w fun v w' => v = .int .i64 0 ∧ St w0 (E.own n b ++ l) w' := by
 refine enter Tryz.func33 rfl Tryz.results33 Tryz.ntmps33 rfl ?_
 refine c_seq (c_region ?_)
 refine r_v (q_assignI rfl) rfl ?_
 refine r_nil ?_
 refine c_seq (c_region ?_)
 refine r_v (q_moveP rfl) rfl ?_; refine r_v (q_nil rfl) rfl ?_; refine r_v (q_fa rfl) rfl ?_
 refine r_v (q_load (v := .map (some E.m2)) rfl (h.b 4 rfl) rfl) rfl ?_
 refine r_v (q_lenm rfl (h.f 5).isMap) rfl ?_
 refine r_v (q_assignI rfl) rfl ?_
 exact r_nil (c_ret (bq1 ⟨rfl, h⟩))
end
end Go.Proofs.YtnnehiiblfmpnaaGreatDoor

namespace Go.Proofs.YtnnehiiblfmpnaaGreatDoor
open Go.Hw Go.Lib
set_option maxHeartbeats 4000000
set_option maxRecDepth 100000
def slotZ : List Value := [.bool false, .bool false, .int .i64 0, .int .i64 0, .bool false, .int .i64 0, .slice none 0 0, .slice none 0 0]
def openZ : List Value := [.bool false, .int .i64 0, .slice none 0 0]
section
variable {w0 w : World} {l : List HProp} {E : EngAt} {n b : Int}
theorem nil_CloneS (h : St w0 l w) : Ret Tryz.prog 64 [.slice none 0 0] w fun v w' => v = .slice none 0 0 ∧ St w0 l w' := by
 refine enter Tryz.func64 rfl Tryz.results64 Tryz.ntmps64 rfl ?_
 refine c_seq (c_region ?_)
 refine r_v (q_assignS rfl) rfl ?_
 refine r_nil (c_seq (c_seq (c_region ?_)))
 refine r_v (q_moveS rfl) rfl ?_; refine r_v (q_seqnil rfl rfl) rfl ?_
 refine r_nil (c_true rfl ?_)
 refine c_seq (c_region ?_)
 refine r_v (q_assignS rfl) rfl ?_
 exact r_nil (c_ret (bq1 ⟨rfl, h⟩))
theorem nil_CloneP (h : St w0 l w) : Ret Tryz.prog 169 [.slice none 0 0] w fun v w' => v = .slice none 0 0 ∧ St w0 l w' := by
 refine enter Tryz.func169 rfl Tryz.results169 Tryz.ntmps169 rfl ?_
 refine c_seq (c_region ?_)
 refine r_v (q_assignS rfl) rfl ?_
 refine r_nil (c_seq (c_seq (c_region ?_)))
 refine r_v (q_moveS rfl) rfl ?_; refine r_v (q_seqnil rfl rfl) rfl ?_
 refine r_nil (c_true rfl ?_)
 refine c_seq (c_region ?_)
 refine r_v (q_assignS rfl) rfl ?_
 exact r_nil (c_ret (bq1 ⟨rfl, h⟩))
theorem nil_ClipS (h : St w0 l w) : Ret Tryz.prog 193 [.slice none 0 0] w fun v w' => v = .slice none 0 0 ∧ St w0 l w' := by
 refine enter Tryz.func193 rfl Tryz.results193 Tryz.ntmps193 rfl ?_
 refine c_seq (c_region ?_)
 refine r_v (q_assignS rfl) rfl ?_
 refine r_nil (c_seq (c_region ?_))
 refine r_v (q_moveS rfl) rfl ?_; refine r_v (q_moveS rfl) rfl ?_; refine r_v (q_len rfl) rfl ?_; refine r_v (q_moveS rfl) rfl ?_; refine r_v (q_len rfl) rfl ?_
 refine r_v (q_clip (h := 0) (h' := 0) rfl rfl rfl (Nat.le_refl _) (Nat.le_refl _)) rfl ?_
 refine r_v (q_assignS rfl) rfl ?_
 exact r_nil (c_ret (bq1 ⟨rfl, h⟩))
theorem nil_ClipP (h : St w0 l w) : Ret Tryz.prog 168 [.slice none 0 0] w fun v w' => v = .slice none 0 0 ∧ St w0 l w' := by
 refine enter Tryz.func168 rfl Tryz.results168 Tryz.ntmps168 rfl ?_
 refine c_seq (c_region ?_)
 refine r_v (q_assignS rfl) rfl ?_
 refine r_nil (c_seq (c_region ?_))
 refine r_v (q_moveS rfl) rfl ?_; refine r_v (q_moveS rfl) rfl ?_; refine r_v (q_len rfl) rfl ?_; refine r_v (q_moveS rfl) rfl ?_; refine r_v (q_len rfl) rfl ?_
 refine r_v (q_clip (h := 0) (h' := 0) rfl rfl rfl (Nat.le_refl _) (Nat.le_refl _)) rfl ?_
 refine r_v (q_assignS rfl) rfl ?_
 exact r_nil (c_ret (bq1 ⟨rfl, h⟩))
theorem appd_Still0 (h : St w0 l w) : Ret Tryz.prog 167 [.agg openZ.toArray] w fun v w' => v = .agg openZ.toArray ∧ St w0 l w' := by
 refine enter Tryz.func167 rfl Tryz.results167 Tryz.ntmps167 rfl ?_
 refine c_seq (c_region ?_)
 refine r_c rfl (x_box h (show _ = Value.agg openZ.toArray from rfl) fun b1 w h => ?_)
 refine r_c rfl (x_alloc h fun b2 w h => ?_)
 replace h : St w0 (pt b2 (.cells openZ.toArray 169 (0, 0)) :: pt b1 (.cells openZ.toArray 169 (0, 0)) :: l) w := h
 refine r_nil ?_
 refine c_seq (c_region ?_)
 refine r_v (q_fa rfl) rfl ?_
 refine r_v (q_load (v := .slice none 0 0) rfl (h.b 1 rfl) rfl) rfl ?_
 refine r_c rfl (x_call rfl (by first | exact nil_CloneS h | exact nil_ClipS h) ?_)
 clear h
 rintro _ w ⟨rfl, h⟩
 refine r_c rfl (x_call rfl (by first | exact nil_CloneS h | exact nil_ClipS h) ?_)
 clear h
 rintro _ w ⟨rfl, h⟩
 refine r_v (q_fa rfl) rfl ?_
 refine r_c rfl (x_store 1 h rfl (show _ = Value.slice none 0 0 from rfl) rfl rfl rfl rfl fun w h => ?_)
 replace h : St w0 (pt b2 (.cells openZ.toArray 169 (0, 0)) :: pt b1 (.cells openZ.toArray 169 (0, 0)) :: l) w := h
 refine r_nil ?_
 refine c_seq (c_region ?_)
 refine r_v (q_loadS (l := openZ) rfl rfl (at_of (h.b 1 rfl) rfl)) rfl ?_
 refine r_c rfl (x_storeA (vs := openZ) 0 h rfl rfl rfl rfl rfl rfl rfl fun w h => ?_)
 replace h : St w0 (pt b2 (.cells openZ.toArray 169 (0, 0)) :: pt b1 (.cells openZ.toArray 169 (0, 0)) :: l) w := h
 exact r_nil (c_ret (bqS1 (l := openZ) rfl rfl (at_of (h.b 0 rfl) rfl) ⟨rfl, h.drop.drop⟩))
abbrev SlPt (b : Nat) : HProp := pt b (.cells slotZ.toArray 172 (0, 0))
theorem dire_Still0 (h : St w0 l w) : Ret Tryz.prog 123 [.agg slotZ.toArray] w fun v w' => v = .agg slotZ.toArray ∧ St w0 l w' := by
 refine enter Tryz.func123 rfl Tryz.results123 Tryz.ntmps123 rfl ?_
 refine c_seq (c_region ?_)
 refine r_c rfl (x_box h (show _ = Value.agg slotZ.toArray from rfl) fun b1 w h => ?_)
 refine r_c rfl (x_alloc h fun b2 w h => ?_)
 replace h : St w0 (SlPt b2 :: SlPt b1 :: l) w := h
 refine r_nil ?_
 refine c_seq (c_region ?_)
 refine r_v (q_fa rfl) rfl ?_
 refine r_v (q_loadS (l := openZ) rfl rfl (at_of (h.b 1 rfl) rfl)) rfl ?_
 refine r_c rfl (x_call rfl (appd_Still0 h) ?_)
 clear h
 rintro _ w ⟨rfl, h⟩
 refine r_v (q_fa rfl) rfl ?_
 refine r_c rfl (x_storeA (vs := openZ) 1 h rfl rfl rfl rfl rfl rfl rfl fun w h => ?_)
 replace h : St w0 (SlPt b2 :: SlPt b1 :: l) w := h
 refine r_nil ?_
 refine c_seq (c_region ?_)
 refine r_v (q_fa rfl) rfl ?_
 refine r_v (q_load (v := .slice none 0 0) rfl (h.b 1 rfl) rfl) rfl ?_
 refine r_c rfl (x_call rfl (by first | exact nil_CloneP h | exact nil_ClipP h) ?_)
 clear h
 rintro _ w ⟨rfl, h⟩
 refine r_c rfl (x_call rfl (by first | exact nil_CloneP h | exact nil_ClipP h) ?_)
 clear h
 rintro _ w ⟨rfl, h⟩
 refine r_v (q_fa rfl) rfl ?_
 refine r_c rfl (x_store 1 h rfl (show _ = Value.slice none 0 0 from rfl) rfl rfl rfl rfl fun w h => ?_)
 replace h : St w0 (SlPt b2 :: SlPt b1 :: l) w := h
 refine r_nil ?_
 refine c_seq (c_region ?_)
 refine r_v (q_loadS (l := slotZ) rfl rfl (at_of (h.b 1 rfl) rfl)) rfl ?_
 refine r_c rfl (x_storeA (vs := slotZ) 0 h rfl rfl rfl rfl rfl rfl rfl fun w h => ?_)
 replace h : St w0 (SlPt b2 :: SlPt b1 :: l) w := h
 exact r_nil (c_ret (bqS1 (l := slotZ) rfl rfl (at_of (h.b 0 rfl) rfl) ⟨rfl, h.drop.drop⟩))
instance undPlaces : Und Tryz.prog 272 (.array 16 235) := ⟨Tryz.underlying272⟩
theorem dire_at {d k : Nat} (hk : k < 16) (h : St w0 l w) : Ret Tryz.prog 122 [.pointer (some ⟨d, 0, none⟩), .int .i64 k] w fun v w' => v = .pointer (some ⟨d, k * 10, none⟩) ∧ St w0 l w' := by
 refine enter Tryz.func122 rfl Tryz.results122 Tryz.ntmps122 rfl ?_
 refine c_seq (c_region ?_)
 refine r_v (q_assignP rfl) rfl ?_
 refine r_nil (c_seq (c_seq (c_region ?_)))
 refine r_v (q_moveI rfl) rfl ?_; refine r_v (q_lss rfl rfl) rfl ?_
 refine r_is (.bool false) (by first | rfl | (congr 1; rw [decide_eq_false_iff_not]; omega)) ?_
 refine r_v (q_moveB rfl) rfl ?_; refine r_gd rfl rfl ?_; refine r_v (q_moveI rfl) rfl ?_; refine r_gd rfl rfl ?_; refine r_v (q_geq rfl rfl) rfl ?_
 refine r_is (.bool false) (by congr 1; rw [decide_eq_false_iff_not]; omega) ?_
 refine r_v (q_pick0 rfl rfl rfl) rfl ?_
 refine r_nil (c_false rfl (c_skip ?_))
 refine c_seq (c_region ?_)
 refine r_v (q_moveP rfl) rfl ?_; refine r_v (q_moveI rfl) rfl ?_; refine r_v (q_nil rfl) rfl ?_; refine r_v (q_fa rfl) rfl ?_
 refine r_v (q_aidx (j := k) (o' := k * 10) rfl rfl rfl hk (Nat.zero_add _)) rfl ?_
 refine r_v (q_assignP rfl) rfl ?_
 exact r_nil (c_ret (bq1 ⟨rfl, h⟩))
theorem dirZ_at : ∀ k, k < 16 → dirZ[k * 10 + 3]? = some (.int .i64 0) ∧ (dirZ.drop (k * 10)).take slotZ.length = slotZ := by
 intro k hk
 match k, hk with
 | 0, _ => exact ⟨rfl, rfl⟩
 | 1, _ => exact ⟨rfl, rfl⟩
 | 2, _ => exact ⟨rfl, rfl⟩
 | 3, _ => exact ⟨rfl, rfl⟩
 | 4, _ => exact ⟨rfl, rfl⟩
 | 5, _ => exact ⟨rfl, rfl⟩
 | 6, _ => exact ⟨rfl, rfl⟩
 | 7, _ => exact ⟨rfl, rfl⟩
 | 8, _ => exact ⟨rfl, rfl⟩
 | 9, _ => exact ⟨rfl, rfl⟩
 | 10, _ => exact ⟨rfl, rfl⟩
 | 11, _ => exact ⟨rfl, rfl⟩
 | 12, _ => exact ⟨rfl, rfl⟩
 | 13, _ => exact ⟨rfl, rfl⟩
 | 14, _ => exact ⟨rfl, rfl⟩
 | 15, _ => exact ⟨rfl, rfl⟩
 | k + 16, h => omega
theorem dire_Look0 {k : Nat} (hk : k < 16) (h : St w0 (E.own n b ++ l) w) : Ret Tryz.prog 81 [.pointer (some ⟨E.dr, 0, none⟩), .int .i64 k] w fun v w' => v = .tuple [.agg slotZ.toArray, .bool true].toArray ∧ St w0 (E.own n b ++ l) w' := by
 obtain ⟨hz1, hz2⟩ := dirZ_at k hk
 refine enter Tryz.func81 rfl Tryz.results81 Tryz.ntmps81 rfl ?_
 refine c_seq (c_region ?_)
 refine r_c rfl (x_alloc h fun b1 w h => ?_)
 replace h : St w0 (SlPt b1 :: E.own n b ++ l) w := h
 refine r_v (q_assignB rfl) rfl ?_
 refine r_nil ?_
 refine c_seq (c_region ?_)
 refine r_v (q_moveP rfl) rfl ?_; refine r_v (q_moveI rfl) rfl ?_
 refine r_c rfl (x_call rfl (dire_at hk h) ?_)
 clear h
 rintro _ w ⟨rfl, h⟩
 refine r_v (q_assignP rfl) rfl ?_
 refine r_nil (c_seq (c_seq (c_region ?_)))
 refine r_v (q_moveP rfl) rfl ?_; refine r_v (q_eqnil rfl rfl) rfl ?_; refine r_v (q_moveB rfl) rfl ?_; refine r_gd rfl rfl ?_; refine r_v (q_moveP rfl) rfl ?_; refine r_gd rfl rfl ?_; refine r_v (q_nil rfl) rfl ?_; refine r_gd rfl rfl ?_; refine r_v (q_fa rfl) rfl ?_; refine r_gd rfl rfl ?_; refine r_v (q_fa rfl) rfl ?_; refine r_gd rfl rfl ?_
 refine r_v (q_load (v := .int .i64 0) rfl (h.b 4 rfl) hz1) rfl ?_
 refine r_gd rfl rfl ?_
 refine r_v (q_is (v' := .int .i64 0) (q_rem rfl rfl (by decide)) rfl) rfl ?_
 refine r_gd rfl rfl ?_; refine r_v (q_eql rfl rfl) rfl ?_; refine r_v (q_pick0 rfl rfl rfl) rfl ?_
 refine r_nil (c_false rfl (c_skip ?_))
 refine c_seq (c_region ?_)
 refine r_v (q_moveP rfl) rfl ?_; refine r_v (q_nil rfl) rfl ?_; refine r_v (q_fa rfl) rfl ?_
 refine r_v (q_loadS (l := slotZ) rfl rfl (at_of (h.b 4 rfl) hz2)) rfl ?_
 refine r_c rfl (x_call rfl (dire_Still0 h) ?_)
 clear h
 rintro _ w ⟨rfl, h⟩
 refine r_c rfl (x_storeA (vs := slotZ) 0 h rfl rfl rfl rfl rfl rfl rfl fun w h => ?_)
 replace h : St w0 (SlPt b1 :: E.own n b ++ l) w := h
 refine r_v (q_assignB rfl) rfl ?_
 exact r_nil (c_ret (bqS2 (l := slotZ) rfl rfl (at_of (h.b 0 rfl) rfl) ⟨rfl, h.drop⟩))
end
end Go.Proofs.YtnnehiiblfmpnaaGreatDoor

namespace Go.Proofs.YtnnehiiblfmpnaaGreatDoor
open Go.Hw Go.Lib
set_option maxHeartbeats 4000000
set_option maxRecDepth 100000
def freshS : List UInt8 := [102, 114, 97, 109, 101, 115, 32, 48, 32, 117, 115, 101, 100, 32, 48, 32, 105, 116, 101, 114, 115, 32, 48, 32, 109, 97, 100, 101, 32, 48, 32, 108, 101, 102, 116, 32, 48, 10]
theorem itoa_0 : itoa 0 = [48] := by
 show (if (0 : Int) < 0 then _ else decDigits 0) = _
 rw [if_neg (by decide), decDigits_rec]; rfl
section
variable {w0 w : World} {l : List HProp} {E : EngAt} {n b : Int}
theorem eng_in {A B : HProp} (h : St w0 (A :: B :: (E.own n b ++ l)) w) : St w0 (E.own n b ++ A :: B :: l) w := (((((((h.f 9).f 9).f 9).f 9).f 9).f 9).f 9).f 9
theorem eng_out {A B : HProp} (h : St w0 (E.own n b ++ A :: B :: l) w) : St w0 (A :: B :: (E.own n b ++ l)) w := (h.f 9).f 9
theorem eng_Used (h : St w0 (E.own n b ++ l) w) : Ret Tryz.prog 59 [.pointer (some ⟨E.st, 0, none⟩)] w fun v w' => v = .int .i64 0 ∧ St w0 (E.own n b ++ l) w' :=
 (blob_UsedS (h.f 6)).mono fun _ _ h => ⟨h.1, ((((((h.2.f 6).f 6).f 6).f 6).f 6).f 6)⟩
theorem eng_Count (h : St w0 (E.own n b ++ l) w) : Ret Tryz.prog 80 [.pointer (some ⟨E.it, 0, none⟩)] w fun v w' => v = .int .i64 0 ∧ St w0 (E.own n b ++ l) w' :=
 (iter_Count (h.f 7)).mono fun _ _ h => ⟨h.1, (((((((h.2.f 7).f 7).f 7).f 7).f 7).f 7).f 7)⟩
theorem rept_State0 (hN : Nm w0) (h : St w0 (E.own n b ++ l) w) : Ret Tryz.prog 40 [.pointer (some ⟨E.p, 0, none⟩)] w fun v w' => v = .string (strB freshS) ∧ St w0 (E.own n b ++ l) w' := by
 have i0 : I64 0 := ⟨by decide, by decide⟩
 have m0 : (itoa 0).length = 1 := by rw [itoa_0]; rfl
 refine enter Tryz.func40 rfl Tryz.results40 Tryz.ntmps40 rfl ?_
 refine c_seq (c_region ?_)
 refine r_v (q_assignZ rfl) rfl ?_
 refine r_nil (c_seq (c_region ?_))
 refine r_v (q_moveP rfl) rfl ?_
 refine r_c rfl (x_call rfl (engn_Shared h) ?_)
 clear h
 rintro _ w ⟨rfl, h⟩
 refine r_v (q_assignP rfl) rfl ?_
 refine r_nil (c_seq (c_region ?_))
 refine r_v (q_moveP rfl) rfl ?_
 refine r_c rfl (x_call rfl (engn_Job h) ?_)
 clear h
 rintro _ w ⟨rfl, h⟩
 refine r_c rfl (x_call rfl (recm_Counts h) ?_)
 clear h
 rintro _ w ⟨rfl, h⟩
 refine r_v (q_moveT rfl) rfl ?_; refine r_v (q_ext rfl rfl) rfl ?_; refine r_v (q_ext rfl rfl) rfl ?_; refine r_v (q_assignI rfl) rfl ?_; refine r_v (q_assignI rfl) rfl ?_
 refine r_nil (c_seq (c_region ?_))
 refine r_c rfl (x_alloc h fun bb w h => ?_)
 replace h : St w0 (BldPt bb none none 0 0 :: OwnB none 0 [] :: (E.own n b ++ l)) w := (St.ownNil 5 1 h).f 1
 replace h := eng_in h
 refine r_nil (c_seq (c_region ?_))
 refine r_v (q_moveP rfl) rfl ?_
 refine r_c rfl (x_call rfl (prog_Cache h) ?_)
 clear h
 rintro _ w ⟨rfl, h⟩
 refine r_c rfl (x_call rfl (cach_Frames0 h) ?_)
 clear h
 rintro _ w ⟨rfl, h⟩
 refine r_c rfl (x_call rfl (rept_num hN i0 h) ?_)
 clear h
 rintro _ w ⟨rfl, h⟩
 refine r_v (q_catB rfl rfl (by simp only [List.length_append, List.length_cons, List.length_nil]; omega)) rfl ?_
 refine r_v (q_catB rfl rfl (by simp only [List.length_append, List.length_cons, List.length_nil]; omega)) rfl ?_
 refine r_v (q_moveP rfl) rfl ?_
 refine r_c rfl (x_call rfl (prog_Store h) ?_)
 clear h
 rintro _ w ⟨rfl, h⟩
 refine r_c rfl (x_call rfl (eng_Used h) ?_)
 clear h
 rintro _ w ⟨rfl, h⟩
 refine r_c rfl (x_call rfl (rept_num hN i0 h) ?_)
 clear h
 rintro _ w ⟨rfl, h⟩
 refine r_v (q_catB rfl rfl (by simp only [List.length_append, List.length_cons, List.length_nil]; omega)) rfl ?_
 refine r_v (q_catB rfl rfl (by simp only [List.length_append, List.length_cons, List.length_nil]; omega)) rfl ?_
 refine r_v (q_moveP rfl) rfl ?_
 refine r_c rfl (x_call rfl (prog_Iters h) ?_)
 clear h
 rintro _ w ⟨rfl, h⟩
 refine r_c rfl (x_call rfl (eng_Count h) ?_)
 clear h
 rintro _ w ⟨rfl, h⟩
 refine r_c rfl (x_call rfl (rept_num hN i0 h) ?_)
 clear h
 rintro _ w ⟨rfl, h⟩
 refine r_v (q_catB rfl rfl (by simp only [List.length_append, List.length_cons, List.length_nil]; omega)) rfl ?_
 refine r_v (q_catB rfl rfl (by simp only [List.length_append, List.length_cons, List.length_nil]; omega)) rfl ?_
 refine r_v (q_moveI rfl) rfl ?_
 refine r_c rfl (x_call rfl (rept_num hN i0 h) ?_)
 clear h
 rintro _ w ⟨rfl, h⟩
 refine r_v (q_catB rfl rfl (by simp only [List.length_append, List.length_cons, List.length_nil]; omega)) rfl ?_
 refine r_v (q_catB rfl rfl (by simp only [List.length_append, List.length_cons, List.length_nil]; omega)) rfl ?_
 refine r_v (q_moveI rfl) rfl ?_
 refine r_c rfl (x_call rfl (rept_num hN i0 h) ?_)
 clear h
 rintro _ w ⟨rfl, h⟩
 refine r_v (q_catB rfl rfl (by simp only [List.length_append, List.length_cons, List.length_nil]; omega)) rfl ?_
 refine r_v (q_catB rfl rfl (by simp only [List.length_append, List.length_cons, List.length_nil]; omega)) rfl ?_
 replace h := eng_out h
 refine r_c rfl (x_call rfl (bld_WriteString (bs := []) (.inl rfl) (by simp only [List.length_append, List.length_cons, List.length_nil]; omega) h) ?_)
 clear h
 rintro _ w ⟨a1, c1, h⟩
 simp only [itoa_0] at h
 replace h : St w0 (BldPt bb (some ⟨bb, 0, none⟩) a1 freshS.length c1 :: OwnB a1 c1 freshS :: (E.own n b ++ l)) w := h
 refine r_nil (c_seq (c_seq (c_region ?_)))
 refine r_v (q_moveI rfl) rfl ?_
 refine r_nil ?_
 refine c_block ?_
 refine c_loop (Γ := Nat) (fun k => [(3, .pointer (some ⟨E.sh, 0, none⟩)), (6, .pointer (some ⟨bb, 0, none⟩)), (45, .int .i64 k)])
  (fun k w => k ≤ 16 ∧ St w0 (BldPt bb (some ⟨bb, 0, none⟩) a1 freshS.length c1 :: OwnB a1 c1 freshS :: (E.own n b ++ l)) w) (fun k => 16 - k) 0 ⟨rfl, rfl, rfl, trivial⟩ ⟨Nat.zero_le _, h⟩ ?_
 clear h
 rintro k w e ⟨hk, h⟩
 refine c_seq (c_region ?_)
 refine r_v (q_lss rfl rfl) rfl ?_
 by_cases hlt : k < 16
 ·refine r_is (.bool true) (by congr 1; rw [decide_eq_true_eq]; omega) ?_
  refine r_nil (c_seq (c_true rfl (c_skip ?_)))
  refine c_seq (c_block ?_)
  refine c_seq (c_region ?_)
  refine r_v (q_moveI rfl) rfl ?_; refine r_v (q_assignI rfl) rfl ?_
  refine r_nil (c_seq (c_region ?_))
  refine r_v (q_moveP rfl) rfl ?_
  replace h := eng_in h
  refine r_c rfl (x_call rfl (prog_Dir h) ?_)
  clear h
  rintro _ w ⟨rfl, h⟩
  refine r_v (q_moveI rfl) rfl ?_
  refine r_c rfl (x_call rfl (dire_Look0 hlt h) ?_)
  clear h
  rintro _ w ⟨rfl, h⟩
  replace h := eng_out h
  refine r_v (q_moveT rfl) rfl ?_; refine r_v (q_ext rfl rfl) rfl ?_; refine r_v (q_ext rfl rfl) rfl ?_
  refine r_c rfl (x_alloc h fun b8 w h => ?_)
  refine r_c rfl (x_storeA (vs := slotZ) 0 h rfl rfl rfl rfl rfl rfl rfl fun w h => ?_)
  replace h : St w0 (SlPt b8 :: BldPt bb (some ⟨bb, 0, none⟩) a1 freshS.length c1 :: OwnB a1 c1 freshS :: (E.own n b ++ l)) w := h
  refine r_v (q_assignB rfl) rfl ?_
  refine r_nil (c_seq (c_region ?_))
  refine r_v (q_moveB rfl) rfl ?_; refine r_v (q_moveB rfl) rfl ?_; refine r_gd rfl rfl ?_; refine r_v (q_fa rfl) rfl ?_; refine r_gd rfl rfl ?_
  refine r_v (q_load (v := .bool false) rfl (h.b 0 rfl) rfl) rfl ?_
  refine r_v (q_pick1 rfl rfl rfl) rfl ?_
  refine r_nil (c_false rfl (c_skip ?_))
  refine c_region ?_
  refine r_v (q_add rfl rfl) rfl ?_
  refine r_is (.int .i64 (k + 1 : Nat)) (by rw [wrap64 (by omega) (by omega)]; congr 1) ?_
  refine r_v (q_moveI rfl) rfl ?_
  exact r_nil ⟨k + 1, ⟨rfl, rfl, rfl, trivial⟩, ⟨hlt, h.drop⟩, by omega⟩
 ·refine r_is (.bool false) (by congr 1; rw [decide_eq_false_iff_not]; omega) ?_
  refine r_nil (c_seq (c_false rfl (c_exit ?_)))
  refine c_seq (c_region ?_)
  refine r_c rfl (x_call rfl (bld_String (by decide) (by decide) h) ?_)
  clear h
  rintro _ w ⟨rfl, h⟩
  refine r_v (q_assignZ rfl) rfl ?_
  exact r_nil (c_ret (bq1 ⟨rfl, h⟩))
end
end Go.Proofs.YtnnehiiblfmpnaaGreatDoor

namespace Go.Proofs.YtnnehiiblfmpnaaGreatDoor
open Go.Hw Go.Lib
set_option maxHeartbeats 4000000
set_option maxRecDepth 100000
section
variable {w0 w : World} {l : List HProp}
instance eqiOp : EqI Tryz.prog 32 [.i64, .i64, .i64, .i64, .u64, .i64, .i64, .i64] := ⟨⟨_, Tryz.underlying32, by kernel_rfl⟩, by kernel_rfl, by kernel_rfl⟩
theorem parse_A (hR : Rp w0) (h : St w0 l w) : Ret Tryz.prog 15 [.string (strB txA)] w fun v w' => v = .tuple [.agg opA.C.toArray, .bool true].toArray ∧ St w0 l w' := by
 refine (rept_Parse hR (by decide) h).mono fun v w' ⟨o, ok, hv, ho, hy, hn, h⟩ => ?_
 cases ok with
 | false => exact absurd opA_text ((hn rfl).2 opA opA_wf (by decide) (by decide))
 | true =>
  obtain rfl : o = opA := ((hy rfl).2.2.2 opA opA_wf (by decide) (by decide) opA_text).trans rfl
  exact ⟨hv, h⟩
theorem parse_B (hR : Rp w0) (h : St w0 l w) : Ret Tryz.prog 15 [.string (strB txB)] w fun v w' => v = .tuple [.agg Opr.zero.C.toArray, .bool false].toArray ∧ St w0 l w' := by
 refine (rept_Parse hR (by decide) h).mono fun v w' ⟨o, ok, hv, ho, hy, hn, h⟩ => ?_
 cases ok with
 | false =>
  obtain ⟨rfl, _⟩ := hn rfl
  exact ⟨hv, h⟩
 | true =>
  obtain ⟨h1, h2, _⟩ := hy rfl
  have hk := opS_ne.1 (fun hh => h2 (h1.symm.trans hh))
  exact absurd h1 (txB_none o hk.1 hk.2)
def resA : Res := ⟨0, 0, [⟨-1, 16⟩]⟩
def resB : Res := ⟨9, 0, []⟩
theorem resA_text : resS resA = [111, 107, 32, 48, 32, 45, 49, 58, 49, 48] := by
 show joinW [wOk, itoa 0, itoa (-1) ++ 58 :: hexS 16] = _
 have h1 : itoa (-1) = [45, 49] := by
  show (if (-1 : Int) < 0 then 45 :: decDigits 1 else _) = _
  rw [if_pos (by decide), decDigits_rec]; rfl
 rw [itoa_0, h1, hexS_16]; rfl
theorem resB_text : resS resB = [101, 114, 114, 111, 114, 32, 57] := by
 show joinW [wErr, itoa 9] = _
 have h1 : itoa 9 = [57] := by
  show (if (9 : Int) < 0 then _ else decDigits 9) = _
  rw [if_neg (by decide), decDigits_rec]; rfl
 rw [h1]; rfl
theorem zero_text : opS Opr.zero = [] := rfl
theorem law27_awake (hR : Rp w0) (h : St w0 l w) : Ret Tryz.prog 11 [] w fun v w' => v = .bool true ∧ St w0 l w' := by
 have hN := hR.nm
 have hz : Opr.zero.Wf := ⟨⟨by decide, by decide⟩, ⟨by decide, by decide⟩, ⟨by decide, by decide⟩, ⟨by decide, by decide⟩, by decide, ⟨by decide, by decide⟩, ⟨by decide, by decide⟩, ⟨by decide, by decide⟩⟩
 refine enter Tryz.func11 rfl Tryz.results11 Tryz.ntmps11 rfl ?_
 refine c_seq (c_region ?_)
 refine r_v (q_assignB rfl) rfl ?_
 refine r_nil (c_seq (c_region ?_))
 refine r_c rfl (x_call rfl (parse_A hR h) ?_)
 clear h
 rintro _ w ⟨rfl, h⟩
 refine r_v (q_moveT rfl) rfl ?_; refine r_v (q_ext rfl rfl) rfl ?_; refine r_v (q_ext rfl rfl) rfl ?_
 refine r_c rfl (x_alloc h fun b1 w h => ?_)
 refine r_c rfl (x_storeA (vs := opA.C) 0 h rfl rfl rfl rfl rfl rfl rfl fun w h => ?_)
 replace h : St w0 (OpPt b1 opA :: l) w := h
 refine r_v (q_assignB rfl) rfl ?_
 refine r_nil (c_seq (c_region ?_))
 refine r_c rfl (x_call rfl (parse_B hR h) ?_)
 clear h
 rintro _ w ⟨rfl, h⟩
 refine r_v (q_moveT rfl) rfl ?_; refine r_v (q_ext rfl rfl) rfl ?_; refine r_v (q_ext rfl rfl) rfl ?_
 refine r_c rfl (x_alloc h fun b2 w h => ?_)
 refine r_c rfl (x_storeA (vs := Opr.zero.C) 0 h rfl rfl rfl rfl rfl rfl rfl fun w h => ?_)
 replace h : St w0 (OpPt b1 opA :: l) w := h.drop
 refine r_v (q_assignB rfl) rfl ?_
 refine r_nil (c_seq (c_region ?_))
 refine r_c rfl (x_call rfl (engn_New 2 1000 h) ?_)
 clear h
 rintro _ w ⟨E, rfl, h⟩
 refine r_v (q_assignP rfl) rfl ?_
 refine r_nil (c_seq (c_seq (c_region ?_)))
 refine r_v (q_moveP rfl) rfl ?_
 refine r_c rfl (x_call rfl (law24_Whole h) ?_)
 clear h
 rintro _ w ⟨rfl, h⟩
 refine r_v (q_not rfl) rfl ?_
 refine r_nil (c_false rfl (c_skip ?_))
 refine c_seq (c_region ?_)
 refine r_v (q_moveB rfl) rfl ?_; refine r_v (q_moveB rfl) rfl ?_; refine r_gd rfl rfl ?_
 refine r_v (q_loadS (l := opA.C) rfl rfl (at_of (h.b 8 rfl) rfl)) rfl ?_
 refine r_gd rfl rfl ?_
 refine r_v (q_build (r := opA.C) rfl) rfl ?_
 refine r_gd rfl rfl ?_
 refine r_v (q_is (v' := .bool true) (q_eqI [1, 3, 0, -5, 255, 0, 0, 0] [1, 3, 0, -5, 255, 0, 0, 0] rfl rfl rfl rfl) rfl) rfl ?_
 refine r_v (q_pick1 rfl rfl rfl) rfl ?_; refine r_v (q_moveB rfl) rfl ?_; refine r_gd rfl rfl ?_; refine r_v (q_moveB rfl) rfl ?_; refine r_gd rfl rfl ?_; refine r_v (q_not rfl) rfl ?_; refine r_v (q_pick1 rfl rfl rfl) rfl ?_; refine r_v (q_moveB rfl) rfl ?_; refine r_gd rfl rfl ?_
 refine r_v (q_loadS (l := opA.C) rfl rfl (at_of (h.b 8 rfl) rfl)) rfl ?_
 refine r_gd rfl rfl ?_
 refine r_c rfl (x_call rfl (rept_Op hN opA_wf h) ?_)
 clear h
 rintro _ w ⟨rfl, h⟩
 refine r_gd rfl rfl ?_; refine r_v (q_streq rfl rfl) rfl ?_
 refine r_is (.bool true) (congrArg Value.bool ((strB_same (opS opA) txA).trans (decide_eq_true opA_text))) ?_
 refine r_v (q_pick1 rfl rfl rfl) rfl ?_; refine r_v (q_moveB rfl) rfl ?_; refine r_gd rfl rfl ?_
 refine r_v (q_build (r := Opr.zero.C) rfl) rfl ?_
 refine r_gd rfl rfl ?_
 refine r_c rfl (x_call rfl (rept_Op hN hz h) ?_)
 clear h
 rintro _ w ⟨rfl, h⟩
 refine r_gd rfl rfl ?_; refine r_v (q_streq rfl rfl) rfl ?_
 refine r_is (.bool true) (congrArg Value.bool ((strB_same (opS Opr.zero) []).trans (decide_eq_true zero_text))) ?_
 refine r_v (q_pick1 rfl rfl rfl) rfl ?_; refine r_v (q_moveB rfl) rfl ?_; refine r_gd rfl rfl ?_
 refine r_v (q_build (r := [.int .i64 (-1), .int .u64 16]) rfl) rfl ?_
 refine r_gd rfl rfl ?_
 refine r_c rfl (x_bslice (r := [.int .i64 (-1), .int .u64 16]) h rfl rfl rfl fun bs w h => ?_)
 refine r_gd rfl rfl ?_
 refine r_v (q_build (r := resA.C (some ⟨bs, 0, none⟩) 1) rfl) rfl ?_
 refine r_gd rfl rfl ?_
 refine r_c rfl (x_call rfl (rept_Result hN (r := resA) ⟨by decide, by decide⟩ ⟨by decide, by decide⟩ (fun s hs => by rw [List.mem_singleton.1 hs]; exact ⟨⟨by decide, by decide⟩, by decide, by decide⟩) (by decide) (fun L w' h' => ⟨rfl, .inr ⟨bs, 0, rfl, at_of (h'.drops.b 0 rfl) rfl⟩⟩) h) ?_)
 clear h
 rintro _ w ⟨rfl, h⟩
 refine r_gd rfl rfl ?_; refine r_v (q_streq rfl rfl) rfl ?_
 refine r_is (.bool true) (congrArg Value.bool ((strB_same (resS resA) _).trans (decide_eq_true resA_text))) ?_
 refine r_v (q_pick1 rfl rfl rfl) rfl ?_; refine r_v (q_moveB rfl) rfl ?_; refine r_gd rfl rfl ?_
 refine r_v (q_build (r := resB.C none 0) rfl) rfl ?_
 refine r_gd rfl rfl ?_
 refine r_c rfl (x_call rfl (rept_Result hN (r := resB) ⟨by decide, by decide⟩ ⟨by decide, by decide⟩ (fun s hs => by cases hs) (by decide) (fun L w' h' => ⟨rfl, .inl rfl⟩) h) ?_)
 clear h
 rintro _ w ⟨rfl, h⟩
 refine r_gd rfl rfl ?_; refine r_v (q_streq rfl rfl) rfl ?_
 refine r_is (.bool true) (congrArg Value.bool ((strB_same (resS resB) _).trans (decide_eq_true resB_text))) ?_
 replace h := h.drop
 refine r_v (q_pick1 rfl rfl rfl) rfl ?_; refine r_v (q_moveB rfl) rfl ?_; refine r_gd rfl rfl ?_; refine r_v (q_moveP rfl) rfl ?_; refine r_gd rfl rfl ?_
 refine r_c rfl (x_call rfl (rept_State0 hN h) ?_)
 clear h
 rintro _ w ⟨rfl, h⟩
 refine r_gd rfl rfl ?_; refine r_v (q_streq rfl rfl) rfl ?_
 refine r_is (.bool true) (congrArg Value.bool ((strB_same freshS _).trans (decide_eq_true rfl))) ?_
 refine r_v (q_pick1 rfl rfl rfl) rfl ?_; refine r_v (q_assignB rfl) rfl ?_
 exact r_nil (c_ret (bq1 ⟨rfl, (h.drops (L := E.own 2 1000)).drop⟩))
end
end Go.Proofs.YtnnehiiblfmpnaaGreatDoor

namespace Go.Proofs.YtnnehiiblfmpnaaGreatDoor
open Go.Hw
set_option maxHeartbeats 4000000
instance eqiSmp : EqI Tryz.prog 58 [.i64, .u64] := ⟨⟨_, Tryz.underlying58, by kernel_rfl⟩, by kernel_rfl, by kernel_rfl⟩

section
variable {w0 w : World} {l : List HProp}
theorem ref10_Same {a1 a2 : Option Addr} {n1 n2 c1 c2 : Nat} {L1 L2 : List Smp} (h : St w0 l w) (hr1 : ∀ w', St w0 l w' → Rd w' 2 a1 n1 (smpsV L1)) (hr2 : ∀ w', St w0 l w' → Rd w' 2 a2 n2 (smpsV L2)) (hn : n1 < 9223372036854775807) :
  Ret Tryz.prog 29 [.slice a1 n1 c1, .slice a2 n2 c2] w fun v w' => v = .bool (decide (L1 = L2)) ∧ St w0 l w' := by
 have hl1 : L1.length = n1 := (hr1 w h).count smp_len (by decide)
 have hl2 : L2.length = n2 := (hr2 w h).count smp_len (by decide)
 refine enter Tryz.func29 rfl Tryz.results29 Tryz.ntmps29 rfl ?_
 refine c_seq (c_region ?_)
 refine r_v (q_assignB rfl) rfl ?_
 refine r_nil ?_
 refine c_seq (c_seq (c_region ?_))
 refine r_v (q_moveS rfl) rfl ?_; refine r_v (q_len rfl) rfl ?_; refine r_v (q_moveS rfl) rfl ?_; refine r_v (q_len rfl) rfl ?_; refine r_v (q_neq rfl rfl) rfl ?_
 refine r_nil ?_
 refine c_cond _ rfl (fun hc => ?_) (fun hc => ?_)
 ·
  refine c_seq (c_region ?_)
  refine r_v (q_assignB rfl) rfl ?_
  refine r_nil ?_
  refine c_ret (bq1 ⟨?_, h⟩)
  have : L1 ≠ L2 := by
   rintro rfl
   simp at hc
   omega
  show Value.bool false = _
  rw [decide_eq_false this]
 have hnn : n1 = n2 := by simp at hc; omega
 subst hnn
 refine c_skip ?_
 refine c_seq (c_seq (c_region ?_))
 refine r_v (q_assignI rfl) rfl ?_
 refine r_nil ?_
 refine c_block ?_
 refine c_loop (Γ := Nat) (fun k => [(0, .slice a1 n1 c1), (1, .slice a2 n1 c2), (5, .int .i64 k)]) (fun k w => k ≤ n1 ∧ L1.take k = L2.take k ∧ St w0 l w) (fun k => n1 - k) 0 ⟨rfl, rfl, rfl, trivial⟩ ⟨Nat.zero_le _, by simp, h⟩ ?_
 clear h
 rintro k w e ⟨hk, hpre, h⟩
 refine c_seq (c_seq (c_region ?_))
 refine r_v (q_moveI rfl) rfl ?_; refine r_v (q_moveS rfl) rfl ?_; refine r_v (q_len rfl) rfl ?_; refine r_v (q_lss rfl rfl) rfl ?_
 refine r_nil ?_
 refine c_cond (decide ((k : Int) < (n1 : Int))) rfl (fun hc => ?_) (fun hc => ?_)
 ·
  have hkn : k < n1 := by simp at hc; omega
  obtain ⟨b1, o1, rfl⟩ := (hr1 w h).some (by omega)
  obtain ⟨b2, o2, rfl⟩ := (hr2 w h).some (by omega)
  have hg1 := List.getElem?_eq_getElem (show k < L1.length by omega)
  have hg2 := List.getElem?_eq_getElem (show k < L2.length by omega)
  generalize L1[k] = s1 at hg1
  generalize L2[k] = s2 at hg2
  refine c_skip ?_
  refine c_seq (c_block ?_)
  refine c_seq (c_any none (fun w => St w0 _ w) (by kernel_rfl) (by kernel_rfl) h.drew fun w h => ?_)
  refine cur_pure rfl rfl rfl rfl (fun _ => h) (fun _ => flt_v rfl (q_moveS rfl)) ?_; refine cur_pure rfl rfl rfl rfl (fun _ => h) (fun _ => flt_v rfl (q_moveI rfl)) ?_
  refine cur_pure rfl rfl rfl rfl (fun _ => h) (fun _ => flt_v rfl (q_idx rfl rfl rfl hkn rfl)) ?_
  refine cur_float rfl rfl rfl rfl h (fun w h => flt_v rfl (q_loadS (l := s1.cells) rfl rfl ((hr1 w h).elem smp_len hg1))) ?_
  refine cur_pure rfl rfl rfl rfl (fun _ => h) (fun _ => flt_v rfl (q_moveS rfl)) ?_; refine cur_pure rfl rfl rfl rfl (fun _ => h) (fun _ => flt_v rfl (q_moveI rfl)) ?_
  refine cur_pure rfl rfl rfl rfl (fun _ => h) (fun _ => flt_v rfl (q_idx rfl rfl rfl hkn rfl)) ?_
  refine cur_float rfl rfl rfl rfl h (fun w h => flt_v rfl (q_loadS (l := s2.cells) rfl rfl ((hr2 w h).elem smp_len hg2))) ?_
  refine cur_pure rfl rfl rfl rfl (fun _ => h) (fun _ => flt_v rfl (q_neI [s1.T, s1.V] [s2.T, s2.V] rfl rfl rfl rfl)) ?_
  refine cur_end ?_
  refine c_cond _ rfl (fun hc => ?_) (fun hc => ?_)
  ·
   refine c_seq (c_region ?_)
   refine r_v (q_assignB rfl) rfl ?_
   refine r_nil ?_
   refine c_ret (bq1 ⟨?_, h⟩)
   have : L1 ≠ L2 := by
    rintro rfl
    rw [hg1] at hg2
    cases hg2
    simp at hc
   show Value.bool false = _
   rw [decide_eq_false this]
  ·have hss : s1 = s2 := by
    obtain ⟨T1, V1⟩ := s1
    obtain ⟨T2, V2⟩ := s2
    simp at hc
    simp [hc.1, hc.2]
   subst hss
   refine c_skip ?_
   refine c_region ?_
   refine r_v (q_moveI rfl) rfl ?_; refine r_v (q_add rfl rfl) rfl ?_
   refine r_is (.int .i64 ((k + 1 : Nat) : Int)) (by rw [wrap64 (by omega) (by omega)]; rfl) ?_
   refine r_v (q_assignI rfl) rfl ?_
   refine r_nil ⟨k + 1, ⟨rfl, rfl, rfl, trivial⟩, ⟨by omega, ?_, h⟩, by omega⟩
   rw [List.take_add_one, List.take_add_one, hpre, hg1, hg2]
 have hkn : k = n1 := by simp at hc; omega
 subst hkn
 refine c_exit ?_
 refine c_seq (c_region ?_)
 refine r_v (q_assignB rfl) rfl ?_
 refine r_nil ?_
 refine c_ret (bq1 ⟨?_, h⟩)
 have : L1 = L2 := by
  rw [List.take_of_length_le (by omega), List.take_of_length_le (by omega)] at hpre
  exact hpre
 show Value.bool true = _
 rw [decide_eq_true this]
end
end Go.Proofs.YtnnehiiblfmpnaaGreatDoor

namespace Go.Proofs.YtnnehiiblfmpnaaGreatDoor
open Go.Hw Go.Lib
set_option maxHeartbeats 4000000
set_option maxRecDepth 100000
section
variable {w0 w : World} {l : List HProp}
theorem ref14_SameResult {sa sb : Option Addr} {ca cb : Nat} {a b : Res} (hn : a.list.length ≤ 4294967296) (hra : Reads w0 l 2 sa a.list.length (smpsV a.list)) (hrb : Reads w0 l 2 sb b.list.length (smpsV b.list)) (h : St w0 l w) :
  Ret Tryz.prog 12 [.agg (a.C sa ca).toArray, .agg (b.C sb cb).toArray] w fun v w' => v = .bool (decide (a.err = b.err ∧ a.iter = b.iter ∧ a.list = b.list)) ∧ St w0 l w' := by
 refine enter Tryz.func12 rfl Tryz.results12 Tryz.ntmps12 rfl ?_
 refine c_seq (c_region ?_)
 refine r_c rfl (x_box h (show _ = Value.agg (a.C sa ca).toArray from rfl) fun b1 w h => ?_)
 refine r_c rfl (x_box h (show _ = Value.agg (b.C sb cb).toArray from rfl) fun b2 w h => ?_)
 replace h : St w0 (pt b2 (.cells [.int .i64 b.err, .int .i64 b.iter, .slice sb b.list.length cb].toArray 25 (0, 0)) :: pt b1 (.cells [.int .i64 a.err, .int .i64 a.iter, .slice sa a.list.length ca].toArray 25 (0, 0)) :: l) w := h
 refine r_v (q_assignB rfl) rfl ?_
 refine r_nil ?_
 refine c_seq (c_region ?_)
 refine r_v (q_fa rfl) rfl ?_
 refine r_v (q_load (v := .int .i64 a.err) rfl (h.b 1 rfl) rfl) rfl ?_
 refine r_v (q_fa rfl) rfl ?_
 refine r_v (q_load (v := .int .i64 b.err) rfl (h.b 0 rfl) rfl) rfl ?_
 refine r_v (q_eql rfl rfl) rfl ?_
 by_cases h1 : a.err = b.err
 ·refine r_is (.bool true) (by congr 1; rw [beq_iff_eq]; exact h1) ?_
  refine r_v (q_moveB rfl) rfl ?_; refine r_gd rfl rfl ?_; refine r_v (q_fa rfl) rfl ?_; refine r_gd rfl rfl ?_
  refine r_v (q_load (v := .int .i64 a.iter) rfl (h.b 1 rfl) rfl) rfl ?_
  refine r_gd rfl rfl ?_; refine r_v (q_fa rfl) rfl ?_; refine r_gd rfl rfl ?_
  refine r_v (q_load (v := .int .i64 b.iter) rfl (h.b 0 rfl) rfl) rfl ?_
  refine r_gd rfl rfl ?_; refine r_v (q_eql rfl rfl) rfl ?_
  by_cases h2 : a.iter = b.iter
  ·refine r_is (.bool true) (by congr 1; rw [beq_iff_eq]; exact h2) ?_
   refine r_v (q_pick1 rfl rfl rfl) rfl ?_; refine r_v (q_moveB rfl) rfl ?_; refine r_gd rfl rfl ?_; refine r_v (q_fa rfl) rfl ?_; refine r_gd rfl rfl ?_
   refine r_v (q_load (v := .slice sa a.list.length ca) rfl (h.b 1 rfl) rfl) rfl ?_
   refine r_gd rfl rfl ?_; refine r_v (q_fa rfl) rfl ?_; refine r_gd rfl rfl ?_
   refine r_v (q_load (v := .slice sb b.list.length cb) rfl (h.b 0 rfl) rfl) rfl ?_
   refine r_gd rfl rfl ?_
   refine r_c rfl (x_call rfl (ref10_Same h (hra.more [_, _]).rd (hrb.more [_, _]).rd (by omega)) ?_)
   clear h
   rintro _ w ⟨rfl, h⟩
   refine r_v (q_pick1 rfl rfl rfl) rfl ?_; refine r_v (q_assignB rfl) rfl ?_
   exact r_nil (c_ret (bq1 ⟨congrArg Value.bool (by simp [h1, h2]), h.drop.drop⟩))
  ·refine r_is (.bool false) (by congr 1; rw [beq_eq_false_iff_ne]; exact h2) ?_
   refine r_v (q_pick1 rfl rfl rfl) rfl ?_; refine r_v (q_moveB rfl) rfl ?_; refine r_gn rfl rfl rfl ?_; refine r_gn rfl rfl rfl ?_; refine r_gn rfl rfl rfl ?_; refine r_gn rfl rfl rfl ?_; refine r_gn rfl rfl rfl ?_; refine r_v (q_pick0 rfl rfl rfl) rfl ?_; refine r_v (q_assignB rfl) rfl ?_
   exact r_nil (c_ret (bq1 ⟨congrArg Value.bool (by simp [h2]), h.drop.drop⟩))
 ·refine r_is (.bool false) (by congr 1; rw [beq_eq_false_iff_ne]; exact h1) ?_
  refine r_v (q_moveB rfl) rfl ?_; refine r_gn rfl rfl rfl ?_; refine r_gn rfl rfl rfl ?_; refine r_gn rfl rfl rfl ?_; refine r_gn rfl rfl rfl ?_; refine r_gn rfl rfl rfl ?_; refine r_v (q_pick0 rfl rfl rfl) rfl ?_; refine r_v (q_moveB rfl) rfl ?_; refine r_gn rfl rfl rfl ?_; refine r_gn rfl rfl rfl ?_; refine r_gn rfl rfl rfl ?_; refine r_gn rfl rfl rfl ?_; refine r_gn rfl rfl rfl ?_; refine r_v (q_pick0 rfl rfl rfl) rfl ?_; refine r_v (q_assignB rfl) rfl ?_
  exact r_nil (c_ret (bq1 ⟨congrArg Value.bool (by simp [h1]), h.drop.drop⟩))
end
end Go.Proofs.YtnnehiiblfmpnaaGreatDoor

namespace Go.Proofs.YtnnehiiblfmpnaaGreatDoor
open Go.Hw Go.Lib
set_option maxHeartbeats 4000000
set_option maxRecDepth 100000
section
variable {w0 w : World} {l : List HProp}
theorem law27_only {o : Opr} (h : St w0 l w) : Ret Tryz.prog 16 [.agg o.C.toArray] w fun v w' => v = .agg o.only.C.toArray ∧ St w0 l w' := by
 obtain ⟨kind, series, iter, T, V, F, To, N⟩ := o
 refine enter Tryz.func16 rfl Tryz.results16 Tryz.ntmps16 rfl ?_
 refine c_seq (c_region ?_)
 refine r_c rfl (x_box h (show _ = Value.agg (Opr.mk kind series iter T V F To N).C.toArray from rfl) fun b1 w h => ?_)
 refine r_c rfl (x_alloc h fun b2 w h => ?_)
 refine r_nil ?_
 refine c_seq (c_region ?_)
 refine r_v (q_fa rfl) rfl ?_; refine r_v (q_load rfl (h.b 1) rfl) rfl ?_; refine r_v (q_build rfl) rfl ?_
 refine r_c rfl (x_alloc h fun b3 w h => ?_)
 refine r_c rfl (x_storeA (vs := (Opr.mk kind 0 0 0 0 0 0 0).C) 0 h rfl rfl rfl rfl rfl rfl rfl fun w h => ?_)
 replace h : St w0 (OpPt b3 (Opr.mk kind 0 0 0 0 0 0 0) :: OpPt b2 Opr.zero :: OpPt b1 (Opr.mk kind series iter T V F To N) :: l) w := h
 refine r_nil ?_
 refine c_cut (Γ := Unit) (fun _ => [(2, .pointer (some ⟨b2, 0, none⟩)), (3, .pointer (some ⟨b3, 0, none⟩))]) (fun _ w => St w0 (OpPt b3 (Opr.mk kind series iter T V F To N).only :: OpPt b2 Opr.zero :: OpPt b1 (Opr.mk kind series iter T V F To N) :: l) w) ?_ ?_
 ·refine c_seq (c_region ?_)
  refine r_v (q_fa rfl) rfl ?_; refine r_v (q_load rfl (h.b 2) rfl) rfl ?_
  refine r_nil ?_
  refine c_block ?_
  by_cases hk1 : kind = 1
  ·have hk := hk1
   refine c_seq (c_region ?_)
   refine r_v (q_eql rfl rfl) rfl ?_
   refine r_is (.bool true) (by congr 1; rw [beq_iff_eq]; exact hk) ?_
   refine r_v (q_assignB rfl) rfl ?_
   refine r_nil (c_true rfl ?_)
   replace h := h.drew
   have hp : ∃ q, St w0 (OpPt b3 q :: OpPt b2 Opr.zero :: OpPt b1 (Opr.mk kind series iter T V F To N) :: l) w.drew := ⟨_, h⟩
   refine c_anyW [0, 1, 4, 5, 8, 9, 2, 3, 6, 7, 10, 11] none (fun w => ∃ q, St w0 (OpPt b3 q :: OpPt b2 Opr.zero :: OpPt b1 (Opr.mk kind series iter T V F To N) :: l) w) (by kernel_rfl) (by kernel_rfl) ?_
   refine cur_pure rfl rfl rfl rfl (fun _ => hp) (fun _ => flt_v rfl (q_fa rfl)) ?_
   refine cur_float rfl rfl rfl rfl hp (fun _ h => h.elim fun _ h => flt_v rfl (q_load (v := .int .i64 series) rfl (h.b 2 rfl) rfl)) ?_
   refine cur_pure rfl rfl rfl rfl (fun _ => hp) (fun _ => flt_v rfl (q_fa rfl)) ?_
   refine cur_float rfl rfl rfl rfl hp (fun _ h => h.elim fun _ h => flt_v rfl (q_load (v := .int .i64 T) rfl (h.b 2 rfl) rfl)) ?_
   refine cur_pure rfl rfl rfl rfl (fun _ => hp) (fun _ => flt_v rfl (q_fa rfl)) ?_
   refine cur_float rfl rfl rfl rfl hp (fun _ h => h.elim fun _ h => flt_v rfl (q_load (v := .int .u64 V) rfl (h.b 2 rfl) rfl)) ?_
   refine cur_pure rfl rfl rfl rfl (fun _ => hp) (fun _ => flt_v rfl (q_fa rfl)) ?_
   refine cur_skip ?_; refine cur_skip ?_; refine cur_skip ?_; refine cur_skip ?_; refine cur_skip ?_
   refine cur_one 7 rfl rfl rfl rfl (x_store 0 h rfl (show _ = Value.int .i64 series from rfl) rfl rfl rfl rfl fun w h => ⟨fun _ => ⟨Opr.mk kind series 0 0 0 0 0 0, h⟩, ?_⟩)
   replace h : St w0 (OpPt b3 (Opr.mk kind series 0 0 0 0 0 0) :: OpPt b2 Opr.zero :: OpPt b1 (Opr.mk kind series iter T V F To N) :: l) w := h
   have hp : ∃ q, St w0 (OpPt b3 q :: OpPt b2 Opr.zero :: OpPt b1 (Opr.mk kind series iter T V F To N) :: l) w := ⟨_, h⟩
   refine cur_pure rfl rfl rfl rfl (fun _ => hp) (fun _ => flt_v rfl (q_fa rfl)) ?_
   refine cur_skip ?_; refine cur_skip ?_; refine cur_skip ?_
   refine cur_one 9 rfl rfl rfl rfl (x_store 0 h rfl (show _ = Value.int .i64 T from rfl) rfl rfl rfl rfl fun w h => ⟨fun _ => ⟨Opr.mk kind series 0 T 0 0 0 0, h⟩, ?_⟩)
   replace h : St w0 (OpPt b3 (Opr.mk kind series 0 T 0 0 0 0) :: OpPt b2 Opr.zero :: OpPt b1 (Opr.mk kind series iter T V F To N) :: l) w := h
   have hp : ∃ q, St w0 (OpPt b3 q :: OpPt b2 Opr.zero :: OpPt b1 (Opr.mk kind series iter T V F To N) :: l) w := ⟨_, h⟩
   refine cur_pure rfl rfl rfl rfl (fun _ => hp) (fun _ => flt_v rfl (q_fa rfl)) ?_
   refine cur_skip ?_
   refine cur_one 11 rfl rfl rfl rfl (x_store 0 h rfl (show _ = Value.int .u64 V from rfl) rfl rfl rfl rfl fun w h => ⟨fun _ => ⟨Opr.mk kind series 0 T V 0 0 0, h⟩, ?_⟩)
   replace h : St w0 (OpPt b3 (Opr.mk kind series 0 T V 0 0 0) :: OpPt b2 Opr.zero :: OpPt b1 (Opr.mk kind series iter T V F To N) :: l) w := h
   exact cur_end ⟨(), ⟨rfl, rfl, trivial⟩, by rw [show (Opr.mk kind series iter T V F To N).only = Opr.mk kind series 0 T V 0 0 0 by simp [Opr.only, hk]]; exact h⟩
  refine c_seq (c_region ?_)
  refine r_v (q_eql rfl rfl) rfl ?_
  refine r_is (.bool false) (by congr 1; rw [beq_eq_false_iff_ne]; exact hk1) ?_
  refine r_v (q_assignB rfl) rfl ?_
  refine r_nil (c_false rfl ?_)
  by_cases hk2 : kind = 2
  ·have hk := hk2
   refine c_seq (c_seq (c_region ?_))
   refine r_v (q_eql rfl rfl) rfl ?_
   refine r_is (.bool true) (by congr 1; rw [beq_iff_eq]; exact hk) ?_
   refine r_v (q_assignB rfl) rfl ?_
   refine r_nil (c_true rfl (c_skip ?_))
   refine c_true rfl ?_
   replace h := h.drew
   have hp : ∃ q, St w0 (OpPt b3 q :: OpPt b2 Opr.zero :: OpPt b1 (Opr.mk kind series iter T V F To N) :: l) w.drew := ⟨_, h⟩
   refine c_anyW [0, 1, 4, 5, 8, 9, 2, 3, 6, 7, 10, 11] none (fun w => ∃ q, St w0 (OpPt b3 q :: OpPt b2 Opr.zero :: OpPt b1 (Opr.mk kind series iter T V F To N) :: l) w) (by kernel_rfl) (by kernel_rfl) ?_
   refine cur_pure rfl rfl rfl rfl (fun _ => hp) (fun _ => flt_v rfl (q_fa rfl)) ?_
   refine cur_float rfl rfl rfl rfl hp (fun _ h => h.elim fun _ h => flt_v rfl (q_load (v := .int .i64 series) rfl (h.b 2 rfl) rfl)) ?_
   refine cur_pure rfl rfl rfl rfl (fun _ => hp) (fun _ => flt_v rfl (q_fa rfl)) ?_
   refine cur_float rfl rfl rfl rfl hp (fun _ h => h.elim fun _ h => flt_v rfl (q_load (v := .int .i64 F) rfl (h.b 2 rfl) rfl)) ?_
   refine cur_pure rfl rfl rfl rfl (fun _ => hp) (fun _ => flt_v rfl (q_fa rfl)) ?_
   refine cur_float rfl rfl rfl rfl hp (fun _ h => h.elim fun _ h => flt_v rfl (q_load (v := .int .i64 To) rfl (h.b 2 rfl) rfl)) ?_
   refine cur_pure rfl rfl rfl rfl (fun _ => hp) (fun _ => flt_v rfl (q_fa rfl)) ?_
   refine cur_skip ?_; refine cur_skip ?_; refine cur_skip ?_; refine cur_skip ?_; refine cur_skip ?_
   refine cur_one 7 rfl rfl rfl rfl (x_store 0 h rfl (show _ = Value.int .i64 series from rfl) rfl rfl rfl rfl fun w h => ⟨fun _ => ⟨Opr.mk kind series 0 0 0 0 0 0, h⟩, ?_⟩)
   replace h : St w0 (OpPt b3 (Opr.mk kind series 0 0 0 0 0 0) :: OpPt b2 Opr.zero :: OpPt b1 (Opr.mk kind series iter T V F To N) :: l) w := h
   have hp : ∃ q, St w0 (OpPt b3 q :: OpPt b2 Opr.zero :: OpPt b1 (Opr.mk kind series iter T V F To N) :: l) w := ⟨_, h⟩
   refine cur_pure rfl rfl rfl rfl (fun _ => hp) (fun _ => flt_v rfl (q_fa rfl)) ?_
   refine cur_skip ?_; refine cur_skip ?_; refine cur_skip ?_
   refine cur_one 9 rfl rfl rfl rfl (x_store 0 h rfl (show _ = Value.int .i64 F from rfl) rfl rfl rfl rfl fun w h => ⟨fun _ => ⟨Opr.mk kind series 0 0 0 F 0 0, h⟩, ?_⟩)
   replace h : St w0 (OpPt b3 (Opr.mk kind series 0 0 0 F 0 0) :: OpPt b2 Opr.zero :: OpPt b1 (Opr.mk kind series iter T V F To N) :: l) w := h
   have hp : ∃ q, St w0 (OpPt b3 q :: OpPt b2 Opr.zero :: OpPt b1 (Opr.mk kind series iter T V F To N) :: l) w := ⟨_, h⟩
   refine cur_pure rfl rfl rfl rfl (fun _ => hp) (fun _ => flt_v rfl (q_fa rfl)) ?_
   refine cur_skip ?_
   refine cur_one 11 rfl rfl rfl rfl (x_store 0 h rfl (show _ = Value.int .i64 To from rfl) rfl rfl rfl rfl fun w h => ⟨fun _ => ⟨Opr.mk kind series 0 0 0 F To 0, h⟩, ?_⟩)
   replace h : St w0 (OpPt b3 (Opr.mk kind series 0 0 0 F To 0) :: OpPt b2 Opr.zero :: OpPt b1 (Opr.mk kind series iter T V F To N) :: l) w := h
   exact cur_end ⟨(), ⟨rfl, rfl, trivial⟩, by rw [show (Opr.mk kind series iter T V F To N).only = Opr.mk kind series 0 0 0 F To 0 by simp [Opr.only, hk]]; exact h⟩
  by_cases hk5 : kind = 5
  ·have hk := hk5
   refine c_seq (c_seq (c_region ?_))
   refine r_v (q_eql rfl rfl) rfl ?_
   refine r_is (.bool false) (by congr 1; rw [beq_eq_false_iff_ne]; exact hk2) ?_
   refine r_v (q_assignB rfl) rfl ?_
   refine r_nil (c_false rfl ?_)
   refine c_region ?_
   refine r_v (q_eql rfl rfl) rfl ?_
   refine r_is (.bool true) (by congr 1; rw [beq_iff_eq]; exact hk) ?_
   refine r_v (q_assignB rfl) rfl ?_
   refine r_nil (c_true rfl ?_)
   replace h := h.drew
   have hp : ∃ q, St w0 (OpPt b3 q :: OpPt b2 Opr.zero :: OpPt b1 (Opr.mk kind series iter T V F To N) :: l) w.drew := ⟨_, h⟩
   refine c_anyW [0, 1, 4, 5, 8, 9, 2, 3, 6, 7, 10, 11] none (fun w => ∃ q, St w0 (OpPt b3 q :: OpPt b2 Opr.zero :: OpPt b1 (Opr.mk kind series iter T V F To N) :: l) w) (by kernel_rfl) (by kernel_rfl) ?_
   refine cur_pure rfl rfl rfl rfl (fun _ => hp) (fun _ => flt_v rfl (q_fa rfl)) ?_
   refine cur_float rfl rfl rfl rfl hp (fun _ h => h.elim fun _ h => flt_v rfl (q_load (v := .int .i64 series) rfl (h.b 2 rfl) rfl)) ?_
   refine cur_pure rfl rfl rfl rfl (fun _ => hp) (fun _ => flt_v rfl (q_fa rfl)) ?_
   refine cur_float rfl rfl rfl rfl hp (fun _ h => h.elim fun _ h => flt_v rfl (q_load (v := .int .i64 F) rfl (h.b 2 rfl) rfl)) ?_
   refine cur_pure rfl rfl rfl rfl (fun _ => hp) (fun _ => flt_v rfl (q_fa rfl)) ?_
   refine cur_float rfl rfl rfl rfl hp (fun _ h => h.elim fun _ h => flt_v rfl (q_load (v := .int .i64 To) rfl (h.b 2 rfl) rfl)) ?_
   refine cur_pure rfl rfl rfl rfl (fun _ => hp) (fun _ => flt_v rfl (q_fa rfl)) ?_
   refine cur_skip ?_; refine cur_skip ?_; refine cur_skip ?_; refine cur_skip ?_; refine cur_skip ?_
   refine cur_one 7 rfl rfl rfl rfl (x_store 0 h rfl (show _ = Value.int .i64 series from rfl) rfl rfl rfl rfl fun w h => ⟨fun _ => ⟨Opr.mk kind series 0 0 0 0 0 0, h⟩, ?_⟩)
   replace h : St w0 (OpPt b3 (Opr.mk kind series 0 0 0 0 0 0) :: OpPt b2 Opr.zero :: OpPt b1 (Opr.mk kind series iter T V F To N) :: l) w := h
   have hp : ∃ q, St w0 (OpPt b3 q :: OpPt b2 Opr.zero :: OpPt b1 (Opr.mk kind series iter T V F To N) :: l) w := ⟨_, h⟩
   refine cur_pure rfl rfl rfl rfl (fun _ => hp) (fun _ => flt_v rfl (q_fa rfl)) ?_
   refine cur_skip ?_; refine cur_skip ?_; refine cur_skip ?_
   refine cur_one 9 rfl rfl rfl rfl (x_store 0 h rfl (show _ = Value.int .i64 F from rfl) rfl rfl rfl rfl fun w h => ⟨fun _ => ⟨Opr.mk kind series 0 0 0 F 0 0, h⟩, ?_⟩)
   replace h : St w0 (OpPt b3 (Opr.mk kind series 0 0 0 F 0 0) :: OpPt b2 Opr.zero :: OpPt b1 (Opr.mk kind series iter T V F To N) :: l) w := h
   have hp : ∃ q, St w0 (OpPt b3 q :: OpPt b2 Opr.zero :: OpPt b1 (Opr.mk kind series iter T V F To N) :: l) w := ⟨_, h⟩
   refine cur_pure rfl rfl rfl rfl (fun _ => hp) (fun _ => flt_v rfl (q_fa rfl)) ?_
   refine cur_skip ?_
   refine cur_one 11 rfl rfl rfl rfl (x_store 0 h rfl (show _ = Value.int .i64 To from rfl) rfl rfl rfl rfl fun w h => ⟨fun _ => ⟨Opr.mk kind series 0 0 0 F To 0, h⟩, ?_⟩)
   replace h : St w0 (OpPt b3 (Opr.mk kind series 0 0 0 F To 0) :: OpPt b2 Opr.zero :: OpPt b1 (Opr.mk kind series iter T V F To N) :: l) w := h
   exact cur_end ⟨(), ⟨rfl, rfl, trivial⟩, by rw [show (Opr.mk kind series iter T V F To N).only = Opr.mk kind series 0 0 0 F To 0 by simp [Opr.only, hk]]; exact h⟩
  refine c_seq (c_seq (c_region ?_))
  refine r_v (q_eql rfl rfl) rfl ?_
  refine r_is (.bool false) (by congr 1; rw [beq_eq_false_iff_ne]; exact hk2) ?_
  refine r_v (q_assignB rfl) rfl ?_
  refine r_nil (c_false rfl ?_)
  refine c_region ?_
  refine r_v (q_eql rfl rfl) rfl ?_
  refine r_is (.bool false) (by congr 1; rw [beq_eq_false_iff_ne]; exact hk5) ?_
  refine r_v (q_assignB rfl) rfl ?_
  refine r_nil (c_false rfl ?_)
  by_cases hk3 : kind = 3
  ·have hk := hk3
   refine c_seq (c_seq (c_region ?_))
   refine r_v (q_eql rfl rfl) rfl ?_
   refine r_is (.bool true) (by congr 1; rw [beq_iff_eq]; exact hk) ?_
   refine r_v (q_assignB rfl) rfl ?_
   refine r_nil (c_true rfl (c_skip ?_))
   refine c_true rfl ?_
   refine c_region ?_
   refine r_v (q_fa rfl) rfl ?_; refine r_v (q_load rfl (h.b 2) rfl) rfl ?_; refine r_v (q_fa rfl) rfl ?_
   refine r_c rfl (x_store 0 h rfl (show _ = Value.int .i64 series from rfl) rfl rfl rfl rfl fun w h => ?_)
   replace h : St w0 (OpPt b3 (Opr.mk kind series 0 0 0 0 0 0) :: OpPt b2 Opr.zero :: OpPt b1 (Opr.mk kind series iter T V F To N) :: l) w := h
   exact r_nil ⟨(), ⟨rfl, rfl, trivial⟩, by rw [show (Opr.mk kind series iter T V F To N).only = Opr.mk kind series 0 0 0 0 0 0 by simp [Opr.only, hk]]; exact h⟩
  by_cases hk4 : kind = 4
  ·have hk := hk4
   refine c_seq (c_seq (c_region ?_))
   refine r_v (q_eql rfl rfl) rfl ?_
   refine r_is (.bool false) (by congr 1; rw [beq_eq_false_iff_ne]; exact hk3) ?_
   refine r_v (q_assignB rfl) rfl ?_
   refine r_nil (c_false rfl ?_)
   refine c_region ?_
   refine r_v (q_eql rfl rfl) rfl ?_
   refine r_is (.bool true) (by congr 1; rw [beq_iff_eq]; exact hk) ?_
   refine r_v (q_assignB rfl) rfl ?_
   refine r_nil (c_true rfl ?_)
   refine c_region ?_
   refine r_v (q_fa rfl) rfl ?_; refine r_v (q_load rfl (h.b 2) rfl) rfl ?_; refine r_v (q_fa rfl) rfl ?_
   refine r_c rfl (x_store 0 h rfl (show _ = Value.int .i64 series from rfl) rfl rfl rfl rfl fun w h => ?_)
   replace h : St w0 (OpPt b3 (Opr.mk kind series 0 0 0 0 0 0) :: OpPt b2 Opr.zero :: OpPt b1 (Opr.mk kind series iter T V F To N) :: l) w := h
   exact r_nil ⟨(), ⟨rfl, rfl, trivial⟩, by rw [show (Opr.mk kind series iter T V F To N).only = Opr.mk kind series 0 0 0 0 0 0 by simp [Opr.only, hk]]; exact h⟩
  refine c_seq (c_seq (c_region ?_))
  refine r_v (q_eql rfl rfl) rfl ?_
  refine r_is (.bool false) (by congr 1; rw [beq_eq_false_iff_ne]; exact hk3) ?_
  refine r_v (q_assignB rfl) rfl ?_
  refine r_nil (c_false rfl ?_)
  refine c_region ?_
  refine r_v (q_eql rfl rfl) rfl ?_
  refine r_is (.bool false) (by congr 1; rw [beq_eq_false_iff_ne]; exact hk4) ?_
  refine r_v (q_assignB rfl) rfl ?_
  refine r_nil (c_false rfl ?_)
  by_cases hk6 : kind = 6
  ·have hk := hk6
   refine c_seq (c_region ?_)
   refine r_v (q_eql rfl rfl) rfl ?_
   refine r_is (.bool true) (by congr 1; rw [beq_iff_eq]; exact hk) ?_
   refine r_v (q_assignB rfl) rfl ?_
   refine r_nil (c_true rfl ?_)
   replace h := h.drew
   have hp : ∃ q, St w0 (OpPt b3 q :: OpPt b2 Opr.zero :: OpPt b1 (Opr.mk kind series iter T V F To N) :: l) w.drew := ⟨_, h⟩
   refine c_anyW [0, 1, 4, 5, 2, 3, 6, 7] none (fun w => ∃ q, St w0 (OpPt b3 q :: OpPt b2 Opr.zero :: OpPt b1 (Opr.mk kind series iter T V F To N) :: l) w) (by kernel_rfl) (by kernel_rfl) ?_
   refine cur_pure rfl rfl rfl rfl (fun _ => hp) (fun _ => flt_v rfl (q_fa rfl)) ?_
   refine cur_float rfl rfl rfl rfl hp (fun _ h => h.elim fun _ h => flt_v rfl (q_load (v := .int .i64 iter) rfl (h.b 2 rfl) rfl)) ?_
   refine cur_pure rfl rfl rfl rfl (fun _ => hp) (fun _ => flt_v rfl (q_fa rfl)) ?_
   refine cur_float rfl rfl rfl rfl hp (fun _ h => h.elim fun _ h => flt_v rfl (q_load (v := .int .i64 N) rfl (h.b 2 rfl) rfl)) ?_
   refine cur_pure rfl rfl rfl rfl (fun _ => hp) (fun _ => flt_v rfl (q_fa rfl)) ?_
   refine cur_skip ?_; refine cur_skip ?_; refine cur_skip ?_
   refine cur_one 5 rfl rfl rfl rfl (x_store 0 h rfl (show _ = Value.int .i64 iter from rfl) rfl rfl rfl rfl fun w h => ⟨fun _ => ⟨Opr.mk kind 0 iter 0 0 0 0 0, h⟩, ?_⟩)
   replace h : St w0 (OpPt b3 (Opr.mk kind 0 iter 0 0 0 0 0) :: OpPt b2 Opr.zero :: OpPt b1 (Opr.mk kind series iter T V F To N) :: l) w := h
   have hp : ∃ q, St w0 (OpPt b3 q :: OpPt b2 Opr.zero :: OpPt b1 (Opr.mk kind series iter T V F To N) :: l) w := ⟨_, h⟩
   refine cur_pure rfl rfl rfl rfl (fun _ => hp) (fun _ => flt_v rfl (q_fa rfl)) ?_
   refine cur_skip ?_
   refine cur_one 7 rfl rfl rfl rfl (x_store 0 h rfl (show _ = Value.int .i64 N from rfl) rfl rfl rfl rfl fun w h => ⟨fun _ => ⟨Opr.mk kind 0 iter 0 0 0 0 N, h⟩, ?_⟩)
   replace h : St w0 (OpPt b3 (Opr.mk kind 0 iter 0 0 0 0 N) :: OpPt b2 Opr.zero :: OpPt b1 (Opr.mk kind series iter T V F To N) :: l) w := h
   exact cur_end ⟨(), ⟨rfl, rfl, trivial⟩, by rw [show (Opr.mk kind series iter T V F To N).only = Opr.mk kind 0 iter 0 0 0 0 N by simp [Opr.only, hk]]; exact h⟩
  refine c_seq (c_region ?_)
  refine r_v (q_eql rfl rfl) rfl ?_
  refine r_is (.bool false) (by congr 1; rw [beq_eq_false_iff_ne]; exact hk6) ?_
  refine r_v (q_assignB rfl) rfl ?_
  refine r_nil (c_false rfl ?_)
  by_cases hk7 : kind = 7
  ·have hk := hk7
   refine c_seq (c_region ?_)
   refine r_v (q_eql rfl rfl) rfl ?_
   refine r_is (.bool true) (by congr 1; rw [beq_iff_eq]; exact hk) ?_
   refine r_v (q_assignB rfl) rfl ?_
   refine r_nil (c_true rfl ?_)
   refine c_region ?_
   refine r_v (q_fa rfl) rfl ?_; refine r_v (q_load rfl (h.b 2) rfl) rfl ?_; refine r_v (q_fa rfl) rfl ?_
   refine r_c rfl (x_store 0 h rfl (show _ = Value.int .i64 iter from rfl) rfl rfl rfl rfl fun w h => ?_)
   replace h : St w0 (OpPt b3 (Opr.mk kind 0 iter 0 0 0 0 0) :: OpPt b2 Opr.zero :: OpPt b1 (Opr.mk kind series iter T V F To N) :: l) w := h
   exact r_nil ⟨(), ⟨rfl, rfl, trivial⟩, by rw [show (Opr.mk kind series iter T V F To N).only = Opr.mk kind 0 iter 0 0 0 0 0 by simp [Opr.only, hk]]; exact h⟩
  refine c_seq (c_region ?_)
  refine r_v (q_eql rfl rfl) rfl ?_
  refine r_is (.bool false) (by congr 1; rw [beq_eq_false_iff_ne]; exact hk7) ?_
  refine r_v (q_assignB rfl) rfl ?_
  refine r_nil (c_false rfl ?_)
  refine c_skip ⟨(), ⟨rfl, rfl, trivial⟩, by rw [show (Opr.mk kind series iter T V F To N).only = Opr.mk kind 0 0 0 0 0 0 0 by simp [Opr.only, *]]; exact h⟩
 clear h
 rintro ⟨⟩ w e h
 refine c_seq (c_region ?_)
 generalize (Opr.mk kind series iter T V F To N).only = q at h ⊢
 refine r_v (q_loadS (l := q.C) rfl rfl (at_of (h.b 0 rfl) rfl)) rfl ?_
 refine r_c rfl (x_storeA (vs := q.C) 1 h rfl rfl rfl rfl rfl rfl rfl fun w h => ?_)
 replace h : St w0 (OpPt b3 q :: OpPt b2 q :: OpPt b1 (Opr.mk kind series iter T V F To N) :: l) w := h
 exact r_nil (c_ret (bqS1 (l := q.C) rfl rfl (at_of (h.b 1 rfl) rfl) ⟨rfl, h.drop.drop.drop⟩))
end
end Go.Proofs.YtnnehiiblfmpnaaGreatDoor

namespace Go.Proofs.YtnnehiiblfmpnaaGreatDoor
open Go.Hw Go.Lib
set_option maxHeartbeats 4000000
set_option maxRecDepth 100000
section
variable {w0 w : World} {l : List HProp}
theorem opS_len {o : Opr} (ho : o.Wf) : (opS o).length ≤ 200 := by
 obtain ⟨i0, i1, i2, i3, i4, i5, i6, i7⟩ := ho
 have m1 := itoa_len i1
 have m2 := itoa_len i2
 have m3 := itoa_len i3
 have m4 := hexS_len o.V 16 (by decide) (by exact i4)
 have m5 := itoa_len i5
 have m6 := itoa_len i6
 have m7 := itoa_len i7
 unfold opS opW
 repeat' split
 all_goals
  simp only [joinW, List.length_append, List.length_cons, List.length_nil, wAppend, wRead, wSeal, wDelete, wOpen, wNext, wClose]
  omega
abbrev RsPt (p : Nat) (a : Option Addr) (c : Nat) (r : Res) : HProp := pt p (.cells (r.C a c).toArray 25 (0, 0))
abbrev ResWf (r : Res) : Prop := I64 r.err ∧ I64 r.iter ∧ ∀ s ∈ r.list, s.Wf
theorem law27_resTail (hR : Rp w0) {sa sb : Option Addr} {ca cb : Nat} {a b : Res} (ha : ResWf a) (hb : ResWf b) (hla : a.list.length ≤ 50) (hlb : b.list.length ≤ 50) :
  (decide (resS a = resS b) == (if a.err ≠ 0 ∨ b.err ≠ 0 then decide (a.err = b.err) else decide (a.err = b.err ∧ a.iter = b.iter ∧ a.list = b.list))) = true := by
 rw [beq_iff_eq]
 have := resS_same ha hb
 by_cases h : a.err ≠ 0 ∨ b.err ≠ 0
 ·rw [if_pos h] at this ⊢
  exact decide_eq_decide.2 this
 ·rw [if_neg h] at this ⊢
  have he : a.err = b.err := by
   have h1 : a.err = 0 := by by_cases h2 : a.err = 0; exact h2; exact absurd (.inl h2) h
   have h2 : b.err = 0 := by by_cases h3 : b.err = 0; exact h3; exact absurd (.inr h3) h
   rw [h1, h2]
  exact decide_eq_decide.2 (this.trans ⟨fun ⟨x, y⟩ => ⟨he, x, y⟩, fun ⟨_, x, y⟩ => ⟨x, y⟩⟩)
theorem law27_ReptBack (hR : Rp w0) {o : Opr} (ho : o.Wf) (n : Int) (h : St w0 l w) : Ret Tryz.prog 4 [.agg o.C.toArray, .int .i64 n] w fun v w' => v = .bool true ∧ St w0 l w' := by
 have hN := hR.nm
 obtain ⟨k, hk1, hk2⟩ : ∃ k : Int, k = (n % 256).tmod 9 ∧ 0 ≤ k ∧ k < 9 := ⟨_, rfl, by have : 0 ≤ n % 256 := Int.emod_nonneg _ (by decide); exact ⟨Int.tmod_nonneg _ this, Int.tmod_lt_of_pos _ (by decide)⟩⟩
 obtain ⟨kind, series, iter, T, V, F, To, N⟩ := o
 obtain ⟨o, hoe⟩ : ∃ o, o = Opr.mk k series iter T V F To N := ⟨_, rfl⟩
 have how : o.Wf := by rw [hoe]; exact ⟨⟨by dsimp only; omega, by dsimp only; omega⟩, ho.2⟩
 refine enter Tryz.func4 rfl Tryz.results4 Tryz.ntmps4 rfl ?_
 refine c_seq (c_region ?_)
 refine r_c rfl (x_box h (show _ = Value.agg (Opr.mk kind series iter T V F To N).C.toArray from rfl) fun b1 w h => ?_)
 replace h : St w0 (OpPt b1 (Opr.mk kind series iter T V F To N) :: l) w := h
 refine r_v (q_assignB rfl) rfl ?_
 refine r_nil (c_seq (c_region ?_))
 refine r_v (q_moveI rfl) rfl ?_
 refine r_v (q_is (v' := .int .i64 (n % 256)) (q_and rfl rfl) (congrArg (Value.int .i64) (and_mask 8 (by decide) (by decide)))) rfl ?_
 refine r_v (q_is (v' := .int .i64 k) (q_rem rfl rfl (by decide)) (by rw [hk1])) rfl ?_
 refine r_v (q_add rfl rfl) rfl ?_
 refine r_is (.int .i64 k) (by rw [wrap64 (by omega) (by omega), Int.add_zero]) ?_
 refine r_v (q_fa rfl) rfl ?_
 refine r_c rfl (x_store 0 h rfl (show _ = Value.int .i64 k from rfl) rfl rfl rfl rfl fun w h => ?_)
 replace h : St w0 (OpPt b1 o :: l) w := by rw [hoe]; exact h
 refine r_nil (c_seq (c_region ?_))
 refine r_v (q_loadS (l := o.C) rfl rfl (at_of (h.b 0 rfl) rfl)) rfl ?_
 refine r_c rfl (x_call rfl (rept_Op hN how h) ?_)
 clear h
 rintro _ w ⟨rfl, h⟩
 refine r_v (q_assignZ rfl) rfl ?_
 have hlen := opS_len how
 refine r_nil (c_seq (c_region ?_))
 refine r_v (q_moveZ rfl) rfl ?_
 refine r_c rfl (x_call rfl (rept_Parse hR (s := opS o) (by omega) h) ?_)
 clear h
 rintro _ w ⟨p, ok, rfl, hp, hy, hn, h⟩
 refine r_v (q_moveT rfl) rfl ?_; refine r_v (q_ext rfl rfl) rfl ?_; refine r_v (q_ext rfl rfl) rfl ?_
 refine r_c rfl (x_alloc h fun b6 w h => ?_)
 refine r_c rfl (x_storeA (vs := p.C) 0 h rfl rfl rfl rfl rfl rfl rfl fun w h => ?_)
 replace h : St w0 (OpPt b6 p :: OpPt b1 o :: l) w := h
 refine r_v (q_assignB rfl) rfl ?_
 have hok : o.kind = k := by rw [hoe]
 refine r_nil (c_seq (c_seq (c_region ?_)))
 refine r_v (q_fa rfl) rfl ?_
 refine r_v (q_load (v := .int .i64 k) rfl (h.b 1 rfl) (by rw [← hok]; rfl)) rfl ?_
 refine r_v (q_lss rfl rfl) rfl ?_
 by_cases h1 : k < 1
 ·refine r_is (.bool true) (by congr 1; rw [decide_eq_true_eq]; exact h1) ?_
  refine r_v (q_moveB rfl) rfl ?_; refine r_gn rfl rfl rfl ?_; refine r_gn rfl rfl rfl ?_; refine r_gn rfl rfl rfl ?_; refine r_v (q_pick1 rfl rfl rfl) rfl ?_
  refine r_nil (c_true rfl ?_)
  have hs0 : opS o = [] := by
   by_cases hh : opS o = []
   ·exact hh
   ·have := opS_ne.1 hh
    rw [hok] at this; omega
  have hb : ok = false := by
   cases ok with
   | false => rfl
   | true => exact absurd hs0 (hy rfl).2.1
  subst hb
  refine c_seq (c_region ?_)
  refine r_v (q_moveZ rfl) rfl ?_; refine r_v (q_streq rfl rfl) rfl ?_
  refine r_is (.bool true) (congrArg Value.bool ((strB_same (opS o) []).trans (decide_eq_true hs0))) ?_
  refine r_v (q_moveB rfl) rfl ?_; refine r_gd rfl rfl ?_; refine r_v (q_moveB rfl) rfl ?_; refine r_gd rfl rfl ?_; refine r_v (q_not rfl) rfl ?_; refine r_v (q_pick1 rfl rfl rfl) rfl ?_; refine r_v (q_moveB rfl) rfl ?_; refine r_gd rfl rfl ?_
  refine r_c rfl (x_call rfl (law27_awake hR h) ?_)
  clear h
  rintro _ w ⟨rfl, h⟩
  refine r_v (q_pick1 rfl rfl rfl) rfl ?_; refine r_v (q_assignB rfl) rfl ?_
  exact r_nil (c_ret (bq1 ⟨rfl, h.drop.drop⟩))
 refine r_is (.bool false) (by congr 1; rw [decide_eq_false_iff_not]; exact h1) ?_
 refine r_v (q_moveB rfl) rfl ?_; refine r_gd rfl rfl ?_; refine r_v (q_fa rfl) rfl ?_; refine r_gd rfl rfl ?_
 refine r_v (q_load (v := .int .i64 k) rfl (h.b 1 rfl) (by rw [← hok]; rfl)) rfl ?_
 refine r_gd rfl rfl ?_; refine r_v (q_gtr rfl rfl) rfl ?_
 by_cases h7 : 7 < k
 ·refine r_is (.bool true) (by congr 1; rw [decide_eq_true_eq]; exact h7) ?_
  refine r_v (q_pick0 rfl rfl rfl) rfl ?_
  refine r_nil (c_true rfl ?_)
  have hs0 : opS o = [] := by
   by_cases hh : opS o = []
   ·exact hh
   ·have := opS_ne.1 hh
    rw [hok] at this; omega
  have hb : ok = false := by
   cases ok with
   | false => rfl
   | true => exact absurd hs0 (hy rfl).2.1
  subst hb
  refine c_seq (c_region ?_)
  refine r_v (q_moveZ rfl) rfl ?_; refine r_v (q_streq rfl rfl) rfl ?_
  refine r_is (.bool true) (congrArg Value.bool ((strB_same (opS o) []).trans (decide_eq_true hs0))) ?_
  refine r_v (q_moveB rfl) rfl ?_; refine r_gd rfl rfl ?_; refine r_v (q_moveB rfl) rfl ?_; refine r_gd rfl rfl ?_; refine r_v (q_not rfl) rfl ?_; refine r_v (q_pick1 rfl rfl rfl) rfl ?_; refine r_v (q_moveB rfl) rfl ?_; refine r_gd rfl rfl ?_
  refine r_c rfl (x_call rfl (law27_awake hR h) ?_)
  clear h
  rintro _ w ⟨rfl, h⟩
  refine r_v (q_pick1 rfl rfl rfl) rfl ?_; refine r_v (q_assignB rfl) rfl ?_
  exact r_nil (c_ret (bq1 ⟨rfl, h.drop.drop⟩))
 refine r_is (.bool false) (by congr 1; rw [decide_eq_false_iff_not]; exact h7) ?_
 refine r_v (q_pick0 rfl rfl rfl) rfl ?_
 refine r_nil (c_false rfl (c_skip ?_))
 have hb : ok = true := by
  cases ok with
  | true => rfl
  | false => exact absurd rfl ((hn rfl).2 o how (by omega) (by omega))
 subst hb
 obtain rfl : p = o.only := (hy rfl).2.2.2 o how (by omega) (by omega) rfl
 have ht : opS o.only = opS o := Opr.only_told rfl (by omega) (by omega)
 refine c_seq (c_any none (fun w => St w0 (OpPt b6 o.only :: OpPt b1 o :: l) w) (by kernel_rfl) (by kernel_rfl) h.drew fun w h => ?_)
 refine cur_pure rfl rfl rfl rfl (fun _ => h) (fun _ => flt_v rfl (q_moveB rfl)) ?_; refine cur_pure rfl rfl rfl rfl (fun _ => h) (fun _ => flt_v rfl (q_moveB rfl)) ?_
 refine cur_float rfl rfl rfl rfl h (fun _ h => flt_g rfl rfl (q_loadS (l := o.only.C) rfl rfl (at_of (h.b 0 rfl) rfl))) ?_
 refine cur_float rfl rfl rfl rfl h (fun _ h => flt_g rfl rfl (q_loadS (l := o.C) rfl rfl (at_of (h.b 1 rfl) rfl))) ?_
 refine cur_skip ?_; refine cur_skip ?_; refine cur_skip ?_; refine cur_skip ?_; refine cur_skip ?_; refine cur_skip ?_; refine cur_skip ?_; refine cur_skip ?_; refine cur_skip ?_; refine cur_skip ?_; refine cur_skip ?_; refine cur_skip ?_; refine cur_skip ?_
 refine cur_one 4 rfl rfl rfl (wanted_g rfl rfl rfl) (x_call rfl (law27_only h) ?_)
 clear h
 rintro _ w ⟨rfl, h⟩
 refine ⟨fun _ => h, ?_⟩
 refine cur_pure rfl rfl rfl rfl (fun _ => h) (fun _ => flt_g rfl rfl (q_is (v' := .bool true) (q_eqI [o.only.kind, o.only.series, o.only.iter, o.only.T, o.only.V, o.only.F, o.only.To, o.only.N] [o.only.kind, o.only.series, o.only.iter, o.only.T, o.only.V, o.only.F, o.only.To, o.only.N] rfl rfl rfl rfl) (by simp))) ?_
 refine cur_pure rfl rfl rfl rfl (fun _ => h) (fun _ => flt_v rfl (q_pick1 rfl rfl rfl)) ?_; refine cur_pure rfl rfl rfl rfl (fun _ => h) (fun _ => flt_v rfl (q_moveB rfl)) ?_
 refine cur_float rfl rfl rfl rfl h (fun _ h => flt_g rfl rfl (q_loadS (l := o.only.C) rfl rfl (at_of (h.b 0 rfl) rfl))) ?_
 refine cur_skip ?_; refine cur_pure rfl rfl rfl rfl (fun _ => h) (fun _ => flt_g rfl rfl (q_moveZ rfl)) ?_; refine cur_skip ?_; refine cur_skip ?_; refine cur_skip ?_; refine cur_skip ?_; refine cur_skip ?_; refine cur_skip ?_
 refine cur_one 9 rfl rfl rfl (wanted_g rfl rfl rfl) (x_call rfl (rept_Op hN hp h) ?_)
 clear h
 rintro _ w ⟨rfl, h⟩
 refine ⟨fun _ => h, ?_⟩
 refine cur_pure rfl rfl rfl rfl (fun _ => h) (fun _ => flt_g rfl rfl (q_is (v' := .bool true) (q_streq rfl rfl) (congrArg Value.bool ((strB_same (opS o.only) (opS o)).trans (decide_eq_true ht))))) ?_
 refine cur_pure rfl rfl rfl rfl (fun _ => h) (fun _ => flt_v rfl (q_pick1 rfl rfl rfl)) ?_; refine cur_pure rfl rfl rfl rfl (fun _ => h) (fun _ => flt_v rfl (q_moveB rfl)) ?_; refine cur_skip ?_; refine cur_skip ?_; refine cur_skip ?_
 refine cur_one 14 rfl rfl rfl (wanted_g rfl rfl rfl) (x_call rfl (law27_awake hR h) ?_)
 clear h
 rintro _ w ⟨rfl, h⟩
 refine ⟨fun _ => h, ?_⟩
 refine cur_pure rfl rfl rfl rfl (fun _ => h) (fun _ => flt_v rfl (q_pick1 rfl rfl rfl)) ?_; refine cur_pure rfl rfl rfl rfl (fun _ => h) (fun _ => flt_v rfl (q_assignB rfl)) ?_
 exact cur_end (c_ret (bq1 ⟨rfl, h.drop.drop⟩))
end
end Go.Proofs.YtnnehiiblfmpnaaGreatDoor

namespace Go.Hw
open Go.Lib
def decF : Nat → Nat → List UInt8
 | 0, _ => []
 | k + 1, u => if u < 10 then [UInt8.ofNat (48 + u)] else decF k (u / 10) ++ [UInt8.ofNat (48 + u % 10)]
theorem decF_eq : ∀ (k u : Nat), u < 10 ^ (k + 1) → decF (k + 1) u = decDigits u
 | 0, u, h => by rw [decDigits_rec, decF, if_pos (by omega), if_pos (by omega)]
 | k + 1, u, h => by
  rw [decDigits_rec, decF]
  split
  ·rfl
  ·rw [decF_eq k (u / 10) (by rw [Nat.pow_succ] at h; omega)]
def itoaF (n : Int) : List UInt8 := if n < 0 then 45 :: decF 20 n.natAbs else decF 20 n.toNat
theorem itoaF_eq {n : Int} (h : I64 n) : itoaF n = itoa n := by
 obtain ⟨h1, h2⟩ := h
 unfold itoaF itoa
 split
 ·rw [decF_eq 19 _ (by omega)]
 ·rw [decF_eq 19 _ (by omega)]
def hexF : Nat → Nat → List UInt8
 | 0, _ => []
 | k + 1, u => if u < 16 then [hexDig u] else hexF k (u / 16) ++ [hexDig (u % 16)]
theorem hexF_eq : ∀ (k u : Nat), u < 16 ^ (k + 1) → hexF (k + 1) u = hexS u
 | 0, u, h => by rw [hexS_rec, hexF, if_pos (by omega), if_pos (by omega)]
 | k + 1, u, h => by
  rw [hexS_rec, hexF]
  split
  ·rfl
  ·rw [hexF_eq k (u / 16) (by rw [Nat.pow_succ] at h; omega)]
def isI (w : List UInt8) : Option Int := match parseIntB 64 w with
 | .ok n => if -9223372036854775808 ≤ n ∧ n < 9223372036854775808 ∧ itoaF n = w then some n else none
 | _ => none
theorem isI_some {w : List UInt8} {n : Int} : isI w = some n ↔ I64 n ∧ itoa n = w := by
 unfold isI
 constructor
 ·intro h
  split at h
  ·split at h
   ·rename_i hc
    cases h
    exact ⟨⟨hc.1, hc.2.1⟩, by rw [← itoaF_eq ⟨hc.1, hc.2.1⟩]; exact hc.2.2⟩
   ·cases h
  ·cases h
 ·rintro ⟨hn, rfl⟩
  rw [parse_itoa hn]
  dsimp only
  rw [if_pos ⟨hn.1, hn.2, itoaF_eq hn⟩]
def isX (w : List UInt8) : Option Nat := if hexN 0 w < 18446744073709551616 ∧ hexF 16 (hexN 0 w) = w then some (hexN 0 w) else none
theorem isX_some {w : List UInt8} {n : Nat} : isX w = some n ↔ n < 18446744073709551616 ∧ hexS n = w := by
 unfold isX
 constructor
 ·intro h
  split at h
  ·rename_i hc
   cases h
   exact ⟨hc.1, by rw [← hexF_eq 15 _ (by omega)]; exact hc.2⟩
  ·cases h
 ·rintro ⟨hn, rfl⟩
  rw [hexN_S, if_pos ⟨hn, hexF_eq 15 _ (by omega)⟩]
def opOfW : List (List UInt8) → Option Opr
 | [w, a] => (isI a).bind fun x => if w = wSeal then some ⟨3, x, 0, 0, 0, 0, 0, 0⟩ else if w = wDelete then some ⟨4, x, 0, 0, 0, 0, 0, 0⟩ else if w = wClose then some ⟨7, 0, x, 0, 0, 0, 0, 0⟩ else none
 | [w, a, b] => (isI a).bind fun x => (isI b).bind fun y => if w = wNext then some ⟨6, 0, x, 0, 0, 0, 0, y⟩ else none
 | [w, a, b, c] => (isI a).bind fun x => (isI b).bind fun y => if w = wAppend then (isX c).bind fun z => some ⟨1, x, 0, y, z, 0, 0, 0⟩ else (isI c).bind fun z => if w = wRead then some ⟨2, x, 0, 0, 0, y, z, 0⟩ else if w = wOpen then some ⟨5, x, 0, 0, 0, y, z, 0⟩ else none
 | _ => none
theorem i64_0 : I64 0 := ⟨by decide, by decide⟩
theorem opOfW_told {o : Opr} (ho : o.Wf) (k1 : 1 ≤ o.kind) (k2 : o.kind ≤ 7) : ∃ p, opOfW (opW o) = some p := by
 obtain ⟨i0, i1, i2, i3, i4, i5, i6, i7⟩ := ho
 have e1 := isI_some.2 ⟨i1, rfl⟩
 have e2 := isI_some.2 ⟨i2, rfl⟩
 have e3 := isI_some.2 ⟨i3, rfl⟩
 have e4 := isX_some.2 ⟨i4, rfl⟩
 have e5 := isI_some.2 ⟨i5, rfl⟩
 have e6 := isI_some.2 ⟨i6, rfl⟩
 have e7 := isI_some.2 ⟨i7, rfl⟩
 unfold opW
 rcases kinds k1 k2 with hk | hk | hk | hk | hk | hk | hk <;> rw [hk]
 ·exact ⟨⟨1, o.series, 0, o.T, o.V, 0, 0, 0⟩, by simp [opOfW, e1, e3, e4]⟩
 ·exact ⟨⟨2, o.series, 0, 0, 0, o.F, o.To, 0⟩, by simp [opOfW, e1, e5, e6, wRead, wAppend]⟩
 ·exact ⟨⟨3, o.series, 0, 0, 0, 0, 0, 0⟩, by simp [opOfW, e1]⟩
 ·exact ⟨⟨4, o.series, 0, 0, 0, 0, 0, 0⟩, by simp [opOfW, e1, wDelete, wSeal]⟩
 ·exact ⟨⟨5, o.series, 0, 0, 0, o.F, o.To, 0⟩, by simp [opOfW, e1, e5, e6, wRead, wAppend, wOpen]⟩
 ·exact ⟨⟨6, 0, o.iter, 0, 0, 0, 0, o.N⟩, by simp [opOfW, e2, e7]⟩
 ·exact ⟨⟨7, 0, o.iter, 0, 0, 0, 0, 0⟩, by simp [opOfW, e2, wDelete, wSeal, wClose]⟩
theorem opOfW_is {ws : List (List UInt8)} {p : Opr} (h : opOfW ws = some p) : p.Wf ∧ 1 ≤ p.kind ∧ p.kind ≤ 7 ∧ opW p = ws := by
 unfold opOfW at h
 split at h
 ·rename_i w a
  obtain ⟨x, hx, ha⟩ := Option.bind_eq_some_iff.1 h
  clear h
  obtain ⟨hx1, rfl⟩ := isI_some.1 hx
  split at ha
  ·rename_i hw; cases ha; subst hw; exact ⟨⟨⟨(by dsimp only; decide), (by dsimp only; decide)⟩, hx1, i64_0, i64_0, (by dsimp only; decide), i64_0, i64_0, i64_0⟩, (by dsimp only; decide), (by dsimp only; decide), rfl⟩
  split at ha
  ·rename_i hw; cases ha; subst hw; exact ⟨⟨⟨(by dsimp only; decide), (by dsimp only; decide)⟩, hx1, i64_0, i64_0, (by dsimp only; decide), i64_0, i64_0, i64_0⟩, (by dsimp only; decide), (by dsimp only; decide), rfl⟩
  split at ha
  ·rename_i hw; cases ha; subst hw; exact ⟨⟨⟨(by dsimp only; decide), (by dsimp only; decide)⟩, i64_0, hx1, i64_0, (by dsimp only; decide), i64_0, i64_0, i64_0⟩, (by dsimp only; decide), (by dsimp only; decide), rfl⟩
  cases ha
 ·rename_i w a b
  obtain ⟨x, hx, ha⟩ := Option.bind_eq_some_iff.1 h
  clear h
  obtain ⟨hx1, rfl⟩ := isI_some.1 hx
  obtain ⟨y, hy, hb⟩ := Option.bind_eq_some_iff.1 ha
  clear ha
  obtain ⟨hy1, rfl⟩ := isI_some.1 hy
  split at hb
  ·rename_i hw; cases hb; subst hw; exact ⟨⟨⟨(by dsimp only; decide), (by dsimp only; decide)⟩, i64_0, hx1, i64_0, (by dsimp only; decide), i64_0, i64_0, hy1⟩, (by dsimp only; decide), (by dsimp only; decide), rfl⟩
  cases hb
 ·rename_i w a b c
  obtain ⟨x, hx, ha⟩ := Option.bind_eq_some_iff.1 h
  clear h
  obtain ⟨hx1, rfl⟩ := isI_some.1 hx
  obtain ⟨y, hy, hb⟩ := Option.bind_eq_some_iff.1 ha
  clear ha
  obtain ⟨hy1, rfl⟩ := isI_some.1 hy
  split at hb
  ·rename_i hw
   obtain ⟨z, hz, hc⟩ := Option.bind_eq_some_iff.1 hb
   clear hb
   obtain ⟨hz1, rfl⟩ := isX_some.1 hz
   cases hc; subst hw; exact ⟨⟨⟨(by dsimp only; decide), (by dsimp only; decide)⟩, hx1, i64_0, hy1, hz1, i64_0, i64_0, i64_0⟩, (by dsimp only; decide), (by dsimp only; decide), rfl⟩
  ·obtain ⟨z, hz, hc⟩ := Option.bind_eq_some_iff.1 hb
   clear hb
   obtain ⟨hz1, rfl⟩ := isI_some.1 hz
   split at hc
   ·rename_i hw; cases hc; subst hw; exact ⟨⟨⟨(by dsimp only; decide), (by dsimp only; decide)⟩, hx1, i64_0, i64_0, (by dsimp only; decide), hy1, hz1, i64_0⟩, (by dsimp only; decide), (by dsimp only; decide), rfl⟩
   split at hc
   ·rename_i hw; cases hc; subst hw; exact ⟨⟨⟨(by dsimp only; decide), (by dsimp only; decide)⟩, hx1, i64_0, i64_0, (by dsimp only; decide), hy1, hz1, i64_0⟩, (by dsimp only; decide), (by dsimp only; decide), rfl⟩
   cases hc
 ·cases h
def forms : List (List UInt8 × Bool) := [([97, 112, 112, 101, 110, 100, 32, 49, 32, 50, 32, 51], true), ([97, 112, 112, 101, 110, 100, 32, 49, 32, 50], false), ([97, 112, 112, 101, 110, 100, 32, 49, 32, 50, 32, 51, 32, 52], false), ([97, 112, 112, 101, 110, 100, 32, 45, 49, 32, 50, 32, 51], true), ([97, 112, 112, 101, 110, 100, 32, 49, 32, 45, 48, 32, 51], false), ([97, 112, 112, 101, 110, 100, 32, 49, 32, 48, 50, 32, 51], false), ([97, 112, 112, 101, 110, 100, 32, 49, 32, 50, 32, 71], false), ([97, 112, 112, 101, 110, 100, 32, 49, 32, 50, 32, 70, 70], false), ([97, 112, 112, 101, 110, 100, 32, 49, 32, 50, 32, 48], true), ([97, 112, 112, 101, 110, 100, 32, 49, 32, 50, 32, 102, 102, 102, 102, 102, 102, 102, 102, 102, 102, 102, 102, 102, 102, 102, 102], true), ([97, 112, 112, 101, 110, 100, 32, 49, 32, 50, 32, 49, 48, 48, 48, 48, 48, 48, 48, 48, 48, 48, 48, 48, 48, 48, 48, 48], false), ([97, 112, 112, 101, 110, 100, 32, 49, 32, 45, 57, 50, 50, 51, 51, 55, 50, 48, 51, 54, 56, 53, 52, 55, 55, 53, 56, 48, 56, 32, 48], true), ([97, 112, 112, 101, 110, 100, 32, 49, 32, 57, 50, 50, 51, 51, 55, 50, 48, 51, 54, 56, 53, 52, 55, 55, 53, 56, 48, 56, 32, 48], false), ([114, 101, 97, 100, 32, 49, 32, 50, 32, 51], true), ([114, 101, 97, 100, 32, 49, 32, 50], false), ([115, 101, 97, 108, 32, 49], true), ([115, 101, 97, 108], false), ([100, 101, 108, 101, 116, 101, 32, 49], true), ([111, 112, 101, 110, 32, 49, 32, 45, 53, 32, 53], true), ([110, 101, 120, 116, 32, 49, 32, 50], true), ([110, 101, 120, 116, 32, 49], false), ([99, 108, 111, 115, 101, 32, 49], true), ([99, 108, 111, 115, 101, 32, 49, 32], false), ([32, 99, 108, 111, 115, 101, 32, 49], false), ([67, 108, 111, 115, 101, 32, 49], false), ([], false), ([110, 101, 120, 116, 32, 43, 49, 32, 50], false), ([99, 108, 111, 115, 101, 32, 57, 50, 50, 51, 51, 55, 50, 48, 51, 54, 56, 53, 52, 55, 55, 53, 56, 48, 56], false)]
def wordsOf : List UInt8 → List UInt8 → List (List UInt8)
 | [], acc => [acc]
 | c :: r, acc => if c = 32 then acc :: wordsOf r [] else wordsOf r (acc ++ [c])
def formOk (x : List UInt8 × Bool) : Bool := (joinW (wordsOf x.1 []) == x.1) && (wordsOf x.1 []).all (fun w => !w.contains 32) && !(wordsOf x.1 []).isEmpty && (opOfW (wordsOf x.1 [])).isSome == x.2 && Nat.ble x.1.length 65536
theorem forms_ok : ∀ x ∈ forms, formOk x = true := by
 have h : forms.all formOk = true := by decide +kernel
 exact List.all_eq_true.1 h
theorem form_no {t : List UInt8} (hm : (t, false) ∈ forms) (o : Opr) (ho : o.Wf) (k1 : 1 ≤ o.kind) (k2 : o.kind ≤ 7) : opS o ≠ t := by
 intro he
 have h := forms_ok _ hm
 simp only [formOk, Bool.and_eq_true, beq_iff_eq, List.all_eq_true, Bool.not_eq_true', List.isEmpty_eq_false_iff] at h
 obtain ⟨⟨⟨⟨h1, h2⟩, h3⟩, h4⟩, _⟩ := h
 have hw := text_words h3 (fun x hx => by have := h2 x hx; simpa using this) k1 k2 (he.trans h1.symm)
 obtain ⟨p, hp⟩ := opOfW_told ho k1 k2
 rw [hw] at hp
 rw [hp] at h4
 cases h4
theorem form_yes {t : List UInt8} (hm : (t, true) ∈ forms) : ∃ o : Opr, o.Wf ∧ 1 ≤ o.kind ∧ o.kind ≤ 7 ∧ opS o = t := by
 have h := forms_ok _ hm
 simp only [formOk, Bool.and_eq_true, beq_iff_eq, List.all_eq_true, Bool.not_eq_true', List.isEmpty_eq_false_iff] at h
 obtain ⟨⟨⟨⟨h1, h2⟩, h3⟩, h4⟩, _⟩ := h
 obtain ⟨p, hp⟩ := Option.isSome_iff_exists.1 h4
 obtain ⟨a, b, c, d⟩ := opOfW_is hp
 exact ⟨p, a, b, c, by unfold opS; rw [d]; exact h1⟩
theorem form_len {x : List UInt8 × Bool} (hm : x ∈ forms) : x.1.length ≤ 65536 := by
 have h := forms_ok _ hm
 simp only [formOk, Bool.and_eq_true, Nat.ble_eq] at h
 exact h.2
end Go.Hw

namespace Go.Proofs.YtnnehiiblfmpnaaGreatDoor
open Go.Hw Go.Lib
set_option maxHeartbeats 4000000
set_option maxRecDepth 100000
def formC (x : List UInt8 × Bool) : List Value := [.string (strB x.1), .bool x.2]
section
variable {w0 w : World} {l : List HProp}
theorem law27_ReptForms (hR : Rp w0) (n : Int) (h : St w0 l w) : Ret Tryz.prog 6 [.int .i64 n] w fun v w' => v = .bool true ∧ St w0 l w' := by
 have hN := hR.nm
 obtain ⟨k, hk1, hk2⟩ : ∃ k : Nat, (k : Int) = (n % 256).tmod 28 ∧ k < 28 := by
  have h0 : 0 ≤ n % 256 := Int.emod_nonneg _ (by decide)
  have h1 := Int.tmod_nonneg 28 h0
  have h2 := Int.tmod_lt_of_pos (n % 256) (b := 28) (by decide)
  exact ⟨((n % 256).tmod 28).toNat, by omega, by omega⟩
 obtain ⟨x, hx⟩ : ∃ x, forms[k]? = some x := ⟨forms[k]'(by exact hk2), List.getElem?_eq_getElem _⟩
 have hmem : x ∈ forms := List.mem_of_getElem? hx
 have hlen := form_len hmem
 refine enter Tryz.func6 rfl Tryz.results6 Tryz.ntmps6 rfl ?_
 refine c_seq (c_region ?_)
 refine r_v (q_assignB rfl) rfl ?_
 refine r_nil (c_seq (c_region ?_))
 refine r_v (q_build rfl) rfl ?_; refine r_v (q_build rfl) rfl ?_; refine r_v (q_build rfl) rfl ?_; refine r_v (q_build rfl) rfl ?_; refine r_v (q_build rfl) rfl ?_; refine r_v (q_build rfl) rfl ?_; refine r_v (q_build rfl) rfl ?_; refine r_v (q_build rfl) rfl ?_; refine r_v (q_build rfl) rfl ?_; refine r_v (q_build rfl) rfl ?_; refine r_v (q_build rfl) rfl ?_; refine r_v (q_build rfl) rfl ?_; refine r_v (q_build rfl) rfl ?_; refine r_v (q_build rfl) rfl ?_; refine r_v (q_build rfl) rfl ?_; refine r_v (q_build rfl) rfl ?_; refine r_v (q_build rfl) rfl ?_; refine r_v (q_build rfl) rfl ?_; refine r_v (q_build rfl) rfl ?_; refine r_v (q_build rfl) rfl ?_; refine r_v (q_build rfl) rfl ?_; refine r_v (q_build rfl) rfl ?_; refine r_v (q_build rfl) rfl ?_; refine r_v (q_build rfl) rfl ?_; refine r_v (q_build rfl) rfl ?_; refine r_v (q_build rfl) rfl ?_; refine r_v (q_build rfl) rfl ?_; refine r_v (q_build rfl) rfl ?_
 refine r_c rfl (x_bslice (r := forms.flatMap formC) h (by kernel_rfl) rfl rfl fun bs w h => ?_)
 refine r_v (q_assignS rfl) rfl ?_
 refine r_nil (c_seq (c_region ?_))
 refine r_v (q_moveS rfl) rfl ?_; refine r_v (q_moveI rfl) rfl ?_
 refine r_v (q_is (v' := .int .i64 (n % 256)) (q_and rfl rfl) (congrArg (Value.int .i64) (and_mask 8 (by decide) (by decide)))) rfl ?_
 refine r_v (q_moveS rfl) rfl ?_; refine r_v (q_len rfl) rfl ?_
 refine r_v (q_is (v' := .int .i64 k) (q_rem rfl rfl (by decide)) (by rw [hk1]; rfl)) rfl ?_
 refine r_v (q_idx (j := k) (o' := 0 + k * 2) rfl rfl rfl hk2 rfl) rfl ?_
 have hat : At w bs (0 + k * 2) (formC x) := Rd.elem (n := 28) (f := formC) (L := forms) ⟨by rw [flat_len (sz := 2) (fun _ => rfl)]; rfl, .inr ⟨bs, 0, rfl, at_of (h.b 0 rfl) (by rw [List.drop_zero, List.take_length])⟩⟩ (fun _ => rfl) hx
 refine r_v (q_loadS (l := formC x) rfl rfl hat) rfl ?_
 clear hat
 refine r_c rfl (x_alloc h fun bx w h => ?_)
 refine r_c rfl (x_storeA (vs := formC x) 0 h rfl rfl rfl rfl rfl rfl rfl fun w h => ?_)
 replace h : St w0 (pt bx (.cells [.string (strB x.1), .bool x.2].toArray 43 (0, 0)) :: l) w := h.x [1]
 refine r_nil (c_seq (c_region ?_))
 refine r_v (q_fa rfl) rfl ?_
 refine r_v (q_load (v := .string (strB x.1)) rfl (h.b 0 rfl) rfl) rfl ?_
 refine r_c rfl (x_call rfl (rept_Parse hR hlen h) ?_)
 clear h
 rintro _ w ⟨o, ok, rfl, ho, hy, hn, h⟩
 refine r_v (q_moveT rfl) rfl ?_; refine r_v (q_ext rfl rfl) rfl ?_; refine r_v (q_ext rfl rfl) rfl ?_
 refine r_c rfl (x_alloc h fun bo w h => ?_)
 refine r_c rfl (x_storeA (vs := o.C) 0 h rfl rfl rfl rfl rfl rfl rfl fun w h => ?_)
 replace h : St w0 (OpPt bo o :: pt bx (.cells [.string (strB x.1), .bool x.2].toArray 43 (0, 0)) :: l) w := h
 refine r_v (q_assignB rfl) rfl ?_
 have hok : ok = x.2 := by
  obtain ⟨t, b⟩ := x
  cases ok with
  | true =>
   cases b with
   | true => rfl
   | false =>
    obtain ⟨h1, h2, _⟩ := hy rfl
    have hk := opS_ne.1 (fun hh => h2 (h1.symm.trans hh))
    exact absurd h1 (form_no hmem o ho hk.1 hk.2)
  | false =>
   cases b with
   | false => rfl
   | true =>
    obtain ⟨p, p1, p2, p3, p4⟩ := form_yes hmem
    exact absurd p4 ((hn rfl).2 p p1 p2 p3)
 obtain ⟨t, b⟩ := x
 dsimp only at hok h hlen
 subst hok
 cases ok
 ·have ho0 := (hn rfl).1
  rw [ho0] at h
  clear hn hy ho0
  refine r_nil ?_
  refine c_seq (c_any none (fun w => St w0 (OpPt bo Opr.zero :: pt bx (.cells [.string (strB t), .bool false].toArray 43 (0, 0)) :: l) w) (by kernel_rfl) (by kernel_rfl) h.drew fun w h => ?_)
  refine cur_pure rfl rfl rfl rfl (fun _ => h) (fun _ => flt_v rfl (q_moveB rfl)) ?_; refine cur_pure rfl rfl rfl rfl (fun _ => h) (fun _ => flt_v rfl (q_fa rfl)) ?_
  refine cur_float rfl rfl rfl rfl h (fun _ h => flt_v rfl (q_load (v := .bool false) rfl (h.b 1 rfl) rfl)) ?_
  refine cur_pure rfl rfl rfl rfl (fun _ => h) (fun _ => flt_v rfl (q_is (v' := .bool true) (q_eqb rfl rfl) (congrArg Value.bool (beq_self_eq_true false)))) ?_
  refine cur_pure rfl rfl rfl rfl (fun _ => h) (fun _ => flt_v rfl (q_moveB rfl)) ?_
  refine cur_pure rfl rfl rfl rfl (fun _ => h) (fun _ => flt_g rfl rfl (q_moveB rfl)) ?_
  refine cur_pure rfl rfl rfl rfl (fun _ => h) (fun _ => flt_g rfl rfl (q_not rfl)) ?_
  refine cur_pure rfl rfl rfl rfl (fun _ => h) (fun _ => flt_g rfl rfl (q_moveB rfl)) ?_
  refine cur_float rfl rfl rfl rfl h (fun _ h => flt_g rfl rfl (q_loadS (l := Opr.zero.C) rfl rfl (at_of (h.b 0 rfl) rfl))) ?_
  refine cur_pure rfl rfl rfl rfl (fun _ => h) (fun _ => flt_g rfl rfl (q_build rfl)) ?_
  refine cur_pure rfl rfl rfl rfl (fun _ => h) (fun _ => flt_g rfl rfl (q_is (v' := .bool true) (q_eqI [0, 0, 0, 0, 0, 0, 0, 0] [0, 0, 0, 0, 0, 0, 0, 0] rfl rfl rfl rfl) rfl)) ?_
  refine cur_pure rfl rfl rfl rfl (fun _ => h) (fun _ => flt_g rfl rfl (q_pick1 rfl rfl rfl)) ?_; refine cur_pure rfl rfl rfl rfl (fun _ => h) (fun _ => flt_g rfl rfl (q_moveB rfl)) ?_; refine cur_pure rfl rfl rfl rfl (fun _ => h) (fun _ => flt_n rfl rfl) ?_; refine cur_pure rfl rfl rfl rfl (fun _ => h) (fun _ => flt_n rfl rfl) ?_; refine cur_pure rfl rfl rfl rfl (fun _ => h) (fun _ => flt_u rfl) ?_; refine cur_pure rfl rfl rfl rfl (fun _ => h) (fun _ => flt_u rfl) ?_; refine cur_pure rfl rfl rfl rfl (fun _ => h) (fun _ => flt_u rfl) ?_; refine cur_pure rfl rfl rfl rfl (fun _ => h) (fun _ => flt_u rfl) ?_; refine cur_pure rfl rfl rfl rfl (fun _ => h) (fun _ => flt_u rfl) ?_; refine cur_pure rfl rfl rfl rfl (fun _ => h) (fun _ => flt_n rfl rfl) ?_; refine cur_pure rfl rfl rfl rfl (fun _ => h) (fun _ => flt_g rfl rfl (q_pick1 rfl rfl rfl)) ?_; refine cur_pure rfl rfl rfl rfl (fun _ => h) (fun _ => flt_v rfl (q_pick1 rfl rfl rfl)) ?_; refine cur_pure rfl rfl rfl rfl (fun _ => h) (fun _ => flt_v rfl (q_moveB rfl)) ?_; refine cur_skip ?_; refine cur_skip ?_; refine cur_skip ?_
  refine cur_one 24 rfl rfl rfl (wanted_g rfl rfl rfl) (x_call rfl (law27_awake hR h) ?_)
  clear h
  rintro _ w ⟨rfl, h⟩
  refine ⟨fun _ => h, ?_⟩
  refine cur_pure rfl rfl rfl rfl (fun _ => h) (fun _ => flt_v rfl (q_pick1 rfl rfl rfl)) ?_; refine cur_pure rfl rfl rfl rfl (fun _ => h) (fun _ => flt_v rfl (q_assignB rfl)) ?_
  exact cur_end (c_ret (bq1 ⟨rfl, h.drop.drop⟩))
 ·have h1 := (hy rfl).1
  clear hn hy
  refine r_nil ?_
  refine c_seq (c_any none (fun w => St w0 (OpPt bo o :: pt bx (.cells [.string (strB t), .bool true].toArray 43 (0, 0)) :: l) w) (by kernel_rfl) (by kernel_rfl) h.drew fun w h => ?_)
  refine cur_pure rfl rfl rfl rfl (fun _ => h) (fun _ => flt_v rfl (q_moveB rfl)) ?_; refine cur_pure rfl rfl rfl rfl (fun _ => h) (fun _ => flt_v rfl (q_fa rfl)) ?_
  refine cur_float rfl rfl rfl rfl h (fun _ h => flt_v rfl (q_load (v := .bool true) rfl (h.b 1 rfl) rfl)) ?_
  refine cur_pure rfl rfl rfl rfl (fun _ => h) (fun _ => flt_v rfl (q_is (v' := .bool true) (q_eqb rfl rfl) (congrArg Value.bool (beq_self_eq_true true)))) ?_
  refine cur_pure rfl rfl rfl rfl (fun _ => h) (fun _ => flt_v rfl (q_moveB rfl)) ?_; refine cur_pure rfl rfl rfl rfl (fun _ => h) (fun _ => flt_g rfl rfl (q_moveB rfl)) ?_; refine cur_pure rfl rfl rfl rfl (fun _ => h) (fun _ => flt_g rfl rfl (q_not rfl)) ?_; refine cur_pure rfl rfl rfl rfl (fun _ => h) (fun _ => flt_g rfl rfl (q_moveB rfl)) ?_; refine cur_pure rfl rfl rfl rfl (fun _ => h) (fun _ => flt_n rfl rfl) ?_; refine cur_pure rfl rfl rfl rfl (fun _ => h) (fun _ => flt_n rfl rfl) ?_; refine cur_pure rfl rfl rfl rfl (fun _ => h) (fun _ => flt_n rfl rfl) ?_; refine cur_pure rfl rfl rfl rfl (fun _ => h) (fun _ => flt_g rfl rfl (q_pick0 rfl rfl rfl)) ?_; refine cur_pure rfl rfl rfl rfl (fun _ => h) (fun _ => flt_g rfl rfl (q_moveB rfl)) ?_; refine cur_pure rfl rfl rfl rfl (fun _ => h) (fun _ => flt_g rfl rfl (q_moveB rfl)) ?_; refine cur_pure rfl rfl rfl rfl (fun _ => h) (fun _ => flt_g rfl rfl (q_moveB rfl)) ?_
  refine cur_float rfl rfl rfl rfl h (fun _ h => flt_g rfl rfl (q_loadS (l := o.C) rfl rfl (at_of (h.b 0 rfl) rfl))) ?_
  refine cur_skip ?_; refine cur_pure rfl rfl rfl rfl (fun _ => h) (fun _ => flt_g rfl rfl (q_fa rfl)) ?_
  refine cur_float rfl rfl rfl rfl h (fun _ h => flt_g rfl rfl (q_load (v := .string (strB t)) rfl (h.b 1 rfl) rfl)) ?_
  refine cur_skip ?_; refine cur_skip ?_; refine cur_skip ?_; refine cur_skip ?_; refine cur_skip ?_; refine cur_skip ?_; refine cur_skip ?_; refine cur_skip ?_
  refine cur_one 16 rfl rfl rfl (wanted_g rfl rfl rfl) (x_call rfl (rept_Op hN ho h) ?_)
  clear h
  rintro _ w ⟨rfl, h⟩
  refine ⟨fun _ => h, ?_⟩
  refine cur_pure rfl rfl rfl rfl (fun _ => h) (fun _ => flt_g rfl rfl (q_is (v' := .bool true) (q_streq rfl rfl) (congrArg Value.bool ((strB_same (opS o) t).trans (decide_eq_true h1))))) ?_
  refine cur_pure rfl rfl rfl rfl (fun _ => h) (fun _ => flt_g rfl rfl (q_pick1 rfl rfl rfl)) ?_; refine cur_pure rfl rfl rfl rfl (fun _ => h) (fun _ => flt_g rfl rfl (q_pick0 rfl rfl rfl)) ?_; refine cur_pure rfl rfl rfl rfl (fun _ => h) (fun _ => flt_v rfl (q_pick1 rfl rfl rfl)) ?_; refine cur_pure rfl rfl rfl rfl (fun _ => h) (fun _ => flt_v rfl (q_moveB rfl)) ?_; refine cur_skip ?_; refine cur_skip ?_; refine cur_skip ?_
  refine cur_one 24 rfl rfl rfl (wanted_g rfl rfl rfl) (x_call rfl (law27_awake hR h) ?_)
  clear h
  rintro _ w ⟨rfl, h⟩
  refine ⟨fun _ => h, ?_⟩
  refine cur_pure rfl rfl rfl rfl (fun _ => h) (fun _ => flt_v rfl (q_pick1 rfl rfl rfl)) ?_; refine cur_pure rfl rfl rfl rfl (fun _ => h) (fun _ => flt_v rfl (q_assignB rfl)) ?_
  exact cur_end (c_ret (bq1 ⟨rfl, h.drop.drop⟩))
end
end Go.Proofs.YtnnehiiblfmpnaaGreatDoor
