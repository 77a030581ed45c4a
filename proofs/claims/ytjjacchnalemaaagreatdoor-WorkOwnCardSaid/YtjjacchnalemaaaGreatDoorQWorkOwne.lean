/- What the proof of WorkOwn needs, part 5: plain lemmas, and what each function does. -/
import Derived.Test.YtjjacchnalemaaaGreatDoorQWorkOwnd
namespace Go.Hw
def clampN (n : Int) : Int := min (max n 1) 65535
theorem clampN_le (n : Int) : 1 ≤ clampN n ∧ clampN n ≤ 65535 := by unfold clampN; omega
structure WkS where
 bg : Bool
 ov : Bool
 lf : Int
 bad : Bool
def WkS.step (s : WkS) (n : Int) : WkS := ⟨s.bg, s.ov || decide (s.lf - clampN n ≤ 0), if s.ov then s.lf else s.lf - clampN n, s.bad⟩
def WkS.more (s : WkS) (n : Int) : Bool := !s.ov && !decide (s.lf - clampN n ≤ 0)
def paceC (s : WkS) (rest : List Value) : List Value := .bool s.bg :: .bool s.ov :: .int .i64 s.lf :: rest
def encC (s : WkS) (tag : Int) (la : Option Addr) (n lc : Nat) (ba : Option Addr) (m bc : Nat) : List Value := paceC s [.int .i64 tag, .slice la n lc, .slice ba m bc, .bool s.bad]
def decC (s : WkS) (ba : Option Addr) (m bc : Nat) (la : Option Addr) (n lc : Nat) : List Value := paceC s [.slice ba m bc, .slice la n lc, .bool s.bad]
end Go.Hw
namespace Go.Proofs.YtjjacchnalemaaaGreatDoor
open Go.Hw
set_option maxHeartbeats 4000000
set_option maxRecDepth 100000
section
variable {w0 w : World} {l : List HProp}
theorem smps_Clone {sl : Option Addr} {c : Nat} {L : List Smp} (h : St w0 l w) (hr : Reads w0 l 2 sl L.length (smpsV L)) (hn : L.length ≤ 1073741824) :
  Ret Tryz.prog 59 [.slice sl L.length c] w fun v w' => ∃ a c', v = .slice a L.length c' ∧ St w0 (OwnS a c' L :: l) w' := by
 refine enter Tryz.func59 rfl Tryz.results59 Tryz.ntmps59 rfl ?_
 refine c_seq (c_region ?_)
 refine r_v (q_assignS rfl) rfl ?_
 refine r_nil (c_seq (c_seq (c_region ?_)))
 refine r_v (q_moveS rfl) rfl ?_
 refine r_v (q_seqnil rfl rfl) rfl ?_
 refine r_nil (c_cond sl.isNone rfl (fun hs => ?_) (fun hs => ?_))
 ·refine c_seq (c_region ?_)
  refine r_v (q_assignS rfl) rfl ?_
  obtain rfl : sl = none := by simpa using hs
  obtain ⟨h3, h4⟩ := hr.at_ h
  have h5 : L.length = 0 := by rcases h4 with h | ⟨b, o, h, _⟩; exact h; cases h
  obtain rfl : L = [] := List.eq_nil_of_length_eq_zero h5
  exact r_nil (c_ret (bq1 ⟨none, 0, rfl, St.ownNil _ _ h⟩))
 ·refine c_skip ?_
  refine c_seq (c_region ?_)
  refine r_c rfl (x_bslice (r := []) h rfl rfl rfl fun b w h => ?_)
  refine r_v (q_moveS rfl) rfl ?_
  have h1 : St w0 (Own 53 2 (some ⟨b, 0, none⟩) 0 0 [] :: l) w := St.own_mk (cur := []) h rfl rfl (Nat.le_refl _)
  refine r_c rfl (x_append' (zs := smpsV L) (m3 := L.length) h1 rfl rfl (hr.at_ h1.drop) (smps_one _) (by omega) (List.nil_append _) (by omega) (by omega) rfl fun a c' w hn h => ?_)
  refine r_v (q_assignS rfl) rfl ?_
  exact r_nil (c_ret (bq1 ⟨a, c', rfl, h⟩))
theorem pace_step {p : Nat} {s : WkS} {rest : List Value} {T : TypeId} (n : Int) (hlf : -200000 ≤ s.lf ∧ s.lf ≤ 200000) (h : St w0 (pt p (.cells (paceC s rest).toArray T (0, 0)) :: l) w) :
  Ret Tryz.prog 61 [.pointer (some ⟨p, 0, none⟩), .int .i64 n] w fun v w' => v = .bool (s.more n) ∧ St w0 (pt p (.cells (paceC (s.step n) rest).toArray T (0, 0)) :: l) w' := by
 obtain ⟨h1, h2⟩ := hlf
 obtain ⟨hc1, hc2⟩ := clampN_le n
 obtain ⟨bg, ov, lf, bd⟩ := s
 dsimp only at h1 h2
 refine enter Tryz.func61 rfl Tryz.results61 Tryz.ntmps61 rfl ?_
 refine c_seq (c_region ?_)
 refine r_v (q_assignB rfl) rfl ?_
 refine r_nil ?_
 refine c_seq (c_seq (c_region ?_))
 refine r_v (q_moveP rfl) rfl ?_; refine r_v (q_nil rfl) rfl ?_; refine r_v (q_fa rfl) rfl ?_
 refine r_v (q_load (v := .bool ov) rfl (h.b 0 rfl) rfl) rfl ?_
 refine r_nil ?_
 cases ov with
 | true =>
  refine c_true rfl ?_
  refine c_seq (c_region ?_)
  refine r_v (q_assignB rfl) rfl ?_
  refine r_nil ?_
  exact c_ret (bq1 ⟨rfl, h⟩)
 | false =>
  refine c_false rfl (c_skip ?_)
  refine c_seq (c_region ?_)
  refine r_v (q_moveP rfl) rfl ?_; refine r_v (q_nil rfl) rfl ?_; refine r_v (q_fa rfl) rfl ?_
  refine r_v (q_load (v := .int .i64 lf) rfl (h.b 0 rfl) rfl) rfl ?_
  refine r_v (q_moveI rfl) rfl ?_; refine r_v (q_max rfl rfl) rfl ?_; refine r_v (q_min rfl rfl) rfl ?_
  refine r_is (.int .i64 (clampN n)) (by unfold clampN; rfl) ?_
  refine r_v (q_sub rfl rfl) rfl ?_
  refine r_is (.int .i64 (lf - clampN n)) (by rw [wrap64 (by omega) (by omega)]) ?_
  refine r_v (q_nil rfl) rfl ?_; refine r_v (q_fa rfl) rfl ?_
  refine r_c rfl (x_store 0 h rfl (show _ = Value.int .i64 (lf - clampN n) from rfl) rfl rfl rfl rfl fun w h => ?_)
  replace h : St w0 (pt p (.cells (.bool bg :: .bool false :: .int .i64 (lf - clampN n) :: rest).toArray T (0, 0)) :: l) w := h
  refine r_nil ?_
  refine c_seq (c_region ?_)
  refine r_v (q_moveP rfl) rfl ?_; refine r_v (q_moveP rfl) rfl ?_; refine r_v (q_nil rfl) rfl ?_; refine r_v (q_fa rfl) rfl ?_
  refine r_v (q_load (v := .int .i64 (lf - clampN n)) rfl (h.b 0 rfl) rfl) rfl ?_
  refine r_v (q_leq rfl rfl) rfl ?_; refine r_v (q_nil rfl) rfl ?_; refine r_v (q_fa rfl) rfl ?_
  refine r_c rfl (x_store 0 h rfl (show _ = Value.bool (decide (lf - clampN n ≤ 0)) from rfl) rfl rfl rfl rfl fun w h => ?_)
  replace h : St w0 (pt p (.cells (.bool bg :: .bool (decide (lf - clampN n ≤ 0)) :: .int .i64 (lf - clampN n) :: rest).toArray T (0, 0)) :: l) w := h
  refine r_nil ?_
  refine c_seq (c_region ?_)
  refine r_v (q_moveP rfl) rfl ?_; refine r_v (q_nil rfl) rfl ?_; refine r_v (q_fa rfl) rfl ?_
  refine r_v (q_load (v := .bool (decide (lf - clampN n ≤ 0))) rfl (h.b 0 rfl) rfl) rfl ?_
  refine r_v (q_not rfl) rfl ?_; refine r_v (q_assignB rfl) rfl ?_
  refine r_nil ?_
  exact c_ret (bq1 ⟨rfl, h⟩)
abbrev EncPt (p : Nat) (s : WkS) (tag : Int) (la : Option Addr) (n lc : Nat) (ba : Option Addr) (m bc : Nat) : HProp := pt p (.cells (encC s tag la n lc ba m bc).toArray 99 (0, 0))
abbrev DecPt (p : Nat) (s : WkS) (ba : Option Addr) (m bc : Nat) (la : Option Addr) (n lc : Nat) : HProp := pt p (.cells (decC s ba m bc la n lc).toArray 102 (0, 0))
theorem work_NewEncoder (tag : Int) {sl : Option Addr} {c : Nat} {L : List Smp} (hn : L.length ≤ 1073741824) (hr : Reads w0 l 2 sl L.length (smpsV L)) (h : St w0 l w) :
  Ret Tryz.prog 25 [.int .i64 tag, .slice sl L.length c] w fun v w' => ∃ p la lc, v = .pointer (some ⟨p, 0, none⟩) ∧ St w0 (EncPt p ⟨false, false, 0, false⟩ tag la L.length lc none 0 0 :: OwnS la lc L :: l) w' := by
 refine enter Tryz.func25 rfl Tryz.results25 Tryz.ntmps25 rfl ?_
 refine c_seq (c_region ?_)
 refine r_v (q_assignP rfl) rfl ?_
 refine r_nil ?_
 refine c_seq (c_region ?_)
 refine r_v (q_moveI rfl) rfl ?_; refine r_v (q_moveS rfl) rfl ?_
 refine r_c rfl (x_call rfl (smps_Clone h hr hn) ?_)
 rintro _ w ⟨la, lc, rfl, h⟩
 refine r_v (q_build (r := encC ⟨false, false, 0, false⟩ tag la L.length lc none 0 0) rfl) rfl ?_
 refine r_c rfl (x_box h (show _ = Value.agg (encC ⟨false, false, 0, false⟩ tag la L.length lc none 0 0).toArray from rfl) fun p w h => ?_)
 refine r_v (q_assignP rfl) rfl ?_
 refine r_nil ?_
 exact c_ret (bq1 ⟨p, la, lc, rfl, h⟩)
def encBegin (o : Option (List UInt8)) (n : Nat) : WkS := ⟨true, false, if o.isSome = true then n else 0, !o.isSome⟩
theorem enc_Step0 (hT : Tz w0) {p : Nat} {la : Option Addr} {lc : Nat} {tag : Int} {L : List Smp} (n : Int) (hw : ∀ s ∈ L, s.Wf) (hL : L.length ≤ 65535) (h : St w0 (EncPt p ⟨false, false, 0, false⟩ tag la L.length lc none 0 0 :: OwnS la lc L :: l) w) :
  Ret Tryz.prog 27 [.pointer (some ⟨p, 0, none⟩), .int .i64 n] w fun v w' => ∃ ba bc, v = .bool ((encBegin (chMake tag L) L.length).more n) ∧ St w0 (EncPt p ((encBegin (chMake tag L) L.length).step n) tag la L.length lc ba ((chMake tag L).getD []).length bc :: OwnB ba bc ((chMake tag L).getD []) :: OwnS la lc L :: l) w' := by
 refine enter Tryz.func27 rfl Tryz.results27 Tryz.ntmps27 rfl ?_
 refine c_seq (c_region ?_)
 refine r_v (q_assignB rfl) rfl ?_
 refine r_nil ?_
 refine c_cut (Γ := Option Addr × Nat) (fun _ => [(0, .pointer (some ⟨p, 0, none⟩)), (1, .int .i64 n)]) (fun q w => St w0 (EncPt p (encBegin (chMake tag L) L.length) tag la L.length lc q.1 ((chMake tag L).getD []).length q.2 :: OwnB q.1 q.2 ((chMake tag L).getD []) :: OwnS la lc L :: l) w) ?_ ?_
 ·refine c_seq (c_region ?_)
  refine r_v (q_moveP rfl) rfl ?_; refine r_v (q_nil rfl) rfl ?_; refine r_v (q_fa rfl) rfl ?_; refine r_v (q_fa rfl) rfl ?_
  refine r_v (q_load (v := .bool false) rfl (h.b 0 rfl) rfl) rfl ?_
  refine r_v (q_not rfl) rfl ?_
  refine r_nil (c_true rfl ?_)
  refine c_cut (Γ := Option Addr × Nat) (fun q => [(0, .pointer (some ⟨p, 0, none⟩)), (1, .int .i64 n), (5, .slice q.1 ((chMake tag L).getD []).length q.2), (6, .bool (chMake tag L).isSome)]) (fun q w => St w0 (OwnB q.1 q.2 ((chMake tag L).getD []) :: EncPt p ⟨false, false, 0, false⟩ tag la L.length lc none 0 0 :: OwnS la lc L :: l) w) ?_ ?_
  ·refine c_anyW [0, 1, 2, 3, 4, 5, 6, 7, 8, 9, 10, 12, 11, 13] none (fun w => w.heap[p]? = some (.cells (encC ⟨false, false, 0, false⟩ tag la L.length lc none 0 0).toArray 99 (0, 0))) (by kernel_rfl) (by kernel_rfl) ?_
   replace h := h.drew
   generalize w.drew = w at h
   have hs := h
   replace h := hs.b 0 rfl
   refine cur_pure rfl rfl rfl rfl (fun _ => h) (fun _ => flt_v rfl (q_moveP rfl)) ?_; refine cur_pure rfl rfl rfl rfl (fun _ => h) (fun _ => flt_v rfl (q_nil rfl)) ?_; refine cur_pure rfl rfl rfl rfl (fun _ => h) (fun _ => flt_v rfl (q_fa rfl)) ?_
   refine cur_float rfl rfl rfl rfl h (fun w h => flt_v rfl (q_load (v := .int .i64 tag) rfl h rfl)) ?_
   refine cur_pure rfl rfl rfl rfl (fun _ => h) (fun _ => flt_v rfl (q_moveP rfl)) ?_; refine cur_pure rfl rfl rfl rfl (fun _ => h) (fun _ => flt_v rfl (q_nil rfl)) ?_; refine cur_pure rfl rfl rfl rfl (fun _ => h) (fun _ => flt_v rfl (q_fa rfl)) ?_
   refine cur_float rfl rfl rfl rfl h (fun w h => flt_v rfl (q_load (v := .slice la L.length lc) rfl h rfl)) ?_
   refine cur_skip ?_; refine cur_skip ?_; refine cur_skip ?_; refine cur_skip ?_; refine cur_skip ?_; refine cur_skip ?_
   refine cur_one 8 rfl rfl rfl rfl ?_
   refine (x_call rfl (chnk_Make hT tag hw (by omega) Reads.own.cons hs) ?_)
   rintro _ w ⟨xa, xc, rfl, hs⟩
   replace h := hs.b 1 rfl
   refine ⟨fun _ => h, ?_⟩
   refine cur_pure rfl rfl rfl rfl (fun _ => h) (fun _ => flt_v rfl (q_moveT rfl)) ?_; refine cur_pure rfl rfl rfl rfl (fun _ => h) (fun _ => flt_v rfl (q_ext rfl rfl)) ?_; refine cur_pure rfl rfl rfl rfl (fun _ => h) (fun _ => flt_v rfl (q_ext rfl rfl)) ?_; refine cur_pure rfl rfl rfl rfl (fun _ => h) (fun _ => flt_v rfl (q_assignS rfl)) ?_; refine cur_pure rfl rfl rfl rfl (fun _ => h) (fun _ => flt_v rfl (q_assignB rfl)) ?_
   exact cur_end ⟨(xa, xc), ⟨rfl, rfl, rfl, rfl, trivial⟩, hs⟩
  clear h
  rintro ⟨xa, xc⟩ w e h
  dsimp only at h ⊢
  refine c_seq (c_region ?_)
  refine r_v (q_moveP rfl) rfl ?_; refine r_v (q_moveP rfl) rfl ?_; refine r_v (q_moveP rfl) rfl ?_; refine r_v (q_moveS rfl) rfl ?_; refine r_v (q_moveB rfl) rfl ?_; refine r_v (q_not rfl) rfl ?_; refine r_v (q_nil rfl) rfl ?_; refine r_v (q_fa rfl) rfl ?_; refine r_v (q_fa rfl) rfl ?_
  refine r_c rfl (x_store 1 h rfl (show _ = Value.bool true from rfl) rfl rfl rfl rfl fun w h => ?_)
  refine r_v (q_nil rfl) rfl ?_; refine r_v (q_fa rfl) rfl ?_
  refine r_c rfl (x_store 1 h rfl (show _ = Value.slice xa ((chMake tag L).getD []).length xc from rfl) rfl rfl rfl rfl fun w h => ?_)
  refine r_v (q_nil rfl) rfl ?_; refine r_v (q_fa rfl) rfl ?_
  refine r_c rfl (x_store 1 h rfl (show _ = Value.bool (!(chMake tag L).isSome) from rfl) rfl rfl rfl rfl fun w h => ?_)
  replace h : St w0 (OwnB xa xc ((chMake tag L).getD []) :: EncPt p ⟨true, false, 0, !(chMake tag L).isSome⟩ tag la L.length lc xa ((chMake tag L).getD []).length xc :: OwnS la lc L :: l) w := h
  refine r_nil ?_
  refine c_seq (c_region ?_)
  refine r_v (q_moveB rfl) rfl ?_
  refine r_nil ?_
  cases hM : chMake tag L with
  | none =>
   rw [hM] at h
   refine c_false rfl (c_skip ⟨(xa, xc), ⟨rfl, rfl, trivial⟩, h.f 1⟩)
  | some b =>
   rw [hM] at h
   refine c_true rfl ?_
   refine c_region ?_
   refine r_v (q_moveP rfl) rfl ?_; refine r_v (q_moveP rfl) rfl ?_; refine r_v (q_nil rfl) rfl ?_; refine r_v (q_fa rfl) rfl ?_
   refine r_v (q_load (v := .slice la L.length lc) rfl (h.b 1 rfl) rfl) rfl ?_
   refine r_v (q_len rfl) rfl ?_; refine r_v (q_nil rfl) rfl ?_; refine r_v (q_fa rfl) rfl ?_; refine r_v (q_fa rfl) rfl ?_
   refine r_c rfl (x_store 1 h rfl (show _ = Value.int .i64 (L.length : Int) from rfl) rfl rfl rfl rfl fun w h => ?_)
   exact r_nil ⟨(xa, xc), ⟨rfl, rfl, trivial⟩, h.f 1⟩
 clear h
 rintro ⟨ba, bc⟩ w e h
 dsimp only at h ⊢
 refine c_seq (c_region ?_)
 refine r_v (q_moveP rfl) rfl ?_; refine r_v (q_nil rfl) rfl ?_; refine r_v (q_fa rfl) rfl ?_; refine r_v (q_moveI rfl) rfl ?_
 refine r_c rfl (x_call rfl (pace_step (s := encBegin (chMake tag L) L.length) n (by unfold encBegin; dsimp only; split <;> omega) h) ?_)
 rintro _ w ⟨rfl, h⟩
 refine r_v (q_assignB rfl) rfl ?_
 refine r_nil ?_
 exact c_ret (bq1 ⟨ba, bc, rfl, h⟩)
theorem enc_Step {p : Nat} {s : WkS} {la : Option Addr} {m lc : Nat} {tag : Int} {ba : Option Addr} {bm bc : Nat} (n : Int) (hb : s.bg = true) (hlf : -200000 ≤ s.lf ∧ s.lf ≤ 200000) (h : St w0 (EncPt p s tag la m lc ba bm bc :: l) w) :
  Ret Tryz.prog 27 [.pointer (some ⟨p, 0, none⟩), .int .i64 n] w fun v w' => v = .bool (s.more n) ∧ St w0 (EncPt p (s.step n) tag la m lc ba bm bc :: l) w' := by
 refine enter Tryz.func27 rfl Tryz.results27 Tryz.ntmps27 rfl ?_
 refine c_seq (c_region ?_)
 refine r_v (q_assignB rfl) rfl ?_
 refine r_nil ?_
 refine c_seq (c_seq (c_region ?_))
 refine r_v (q_moveP rfl) rfl ?_; refine r_v (q_nil rfl) rfl ?_; refine r_v (q_fa rfl) rfl ?_; refine r_v (q_fa rfl) rfl ?_
 refine r_v (q_load (v := .bool s.bg) rfl (h.b 0 rfl) rfl) rfl ?_
 rw [hb]
 refine r_v (q_not rfl) rfl ?_
 refine r_nil (c_false rfl (c_skip ?_))
 refine c_seq (c_region ?_)
 refine r_v (q_moveP rfl) rfl ?_; refine r_v (q_nil rfl) rfl ?_; refine r_v (q_fa rfl) rfl ?_; refine r_v (q_moveI rfl) rfl ?_
 refine r_c rfl (x_call rfl (pace_step (s := s) n hlf h) ?_)
 rintro _ w ⟨rfl, h⟩
 refine r_v (q_assignB rfl) rfl ?_
 refine r_nil ?_
 exact c_ret (bq1 ⟨rfl, h⟩)
theorem enc_Done {p : Nat} {s : WkS} {la : Option Addr} {m lc : Nat} {tag : Int} {ba : Option Addr} {bc : Nat} {bs : List UInt8} (hn : bs.length ≤ 140737488355328) (h : St w0 (EncPt p s tag la m lc ba bs.length bc :: OwnB ba bc bs :: l) w) :
  Ret Tryz.prog 29 [.pointer (some ⟨p, 0, none⟩)] w fun v w' => ∃ a c, v = .tuple [.slice a (if s.ov = true ∧ s.bad = false then bs else []).length c, .bool (s.ov && !s.bad)].toArray ∧ St w0 (OwnB a c (if s.ov = true ∧ s.bad = false then bs else []) :: EncPt p s tag la m lc ba bs.length bc :: OwnB ba bc bs :: l) w' := by
 obtain ⟨bg, ov, lf, bd⟩ := s
 dsimp only
 refine enter Tryz.func29 rfl Tryz.results29 Tryz.ntmps29 rfl ?_
 refine c_seq (c_region ?_)
 refine r_v (q_assignS rfl) rfl ?_; refine r_v (q_assignB rfl) rfl ?_
 refine r_nil ?_
 refine c_seq (c_seq (c_region ?_))
 refine r_v (q_moveP rfl) rfl ?_; refine r_v (q_nil rfl) rfl ?_; refine r_v (q_fa rfl) rfl ?_; refine r_v (q_fa rfl) rfl ?_
 refine r_v (q_load (v := .bool ov) rfl (h.b 0 rfl) rfl) rfl ?_
 cases ov with
 | false =>
  refine r_v (q_not rfl) rfl ?_; refine r_v (q_moveB rfl) rfl ?_; (first | refine r_gd rfl rfl ?_ | refine r_gn rfl rfl rfl ?_ | refine r_gu rfl rfl ?_ | refine r_gd rfl (by assumption) ?_ | refine r_gn rfl (by assumption) rfl ?_); (first | refine r_gd rfl rfl ?_ | refine r_gn rfl rfl rfl ?_ | refine r_gu rfl rfl ?_ | refine r_gd rfl (by assumption) ?_ | refine r_gn rfl (by assumption) rfl ?_); (first | refine r_gd rfl rfl ?_ | refine r_gn rfl rfl rfl ?_ | refine r_gu rfl rfl ?_ | refine r_gd rfl (by assumption) ?_ | refine r_gn rfl (by assumption) rfl ?_); (first | refine r_gd rfl rfl ?_ | refine r_gn rfl rfl rfl ?_ | refine r_gu rfl rfl ?_ | refine r_gd rfl (by assumption) ?_ | refine r_gn rfl (by assumption) rfl ?_); (first | refine r_v (q_pick1 rfl rfl rfl) rfl ?_ | refine r_v (q_pick0 rfl rfl rfl) rfl ?_ | refine r_v (q_pick1 rfl (by assumption) rfl) rfl ?_ | refine r_v (q_pick0 rfl (by assumption) rfl) rfl ?_ | refine r_v (q_pickB rfl rfl rfl) rfl ?_)
  refine r_nil (c_true rfl ?_)
  refine c_seq (c_region ?_)
  refine r_v (q_assignS rfl) rfl ?_; refine r_v (q_assignB rfl) rfl ?_
  refine r_nil ?_
  rw [if_neg (by simp)]
  exact c_ret (bq2 ⟨none, 0, rfl, St.ownNil _ _ h⟩)
 | true =>
  refine r_v (q_not rfl) rfl ?_; refine r_v (q_moveB rfl) rfl ?_; (first | refine r_gd rfl rfl ?_ | refine r_gn rfl rfl rfl ?_ | refine r_gu rfl rfl ?_ | refine r_gd rfl (by assumption) ?_ | refine r_gn rfl (by assumption) rfl ?_); refine r_v (q_moveP rfl) rfl ?_; (first | refine r_gd rfl rfl ?_ | refine r_gn rfl rfl rfl ?_ | refine r_gu rfl rfl ?_ | refine r_gd rfl (by assumption) ?_ | refine r_gn rfl (by assumption) rfl ?_); refine r_v (q_nil rfl) rfl ?_; (first | refine r_gd rfl rfl ?_ | refine r_gn rfl rfl rfl ?_ | refine r_gu rfl rfl ?_ | refine r_gd rfl (by assumption) ?_ | refine r_gn rfl (by assumption) rfl ?_); refine r_v (q_fa rfl) rfl ?_; (first | refine r_gd rfl rfl ?_ | refine r_gn rfl rfl rfl ?_ | refine r_gu rfl rfl ?_ | refine r_gd rfl (by assumption) ?_ | refine r_gn rfl (by assumption) rfl ?_)
  refine r_v (q_load (v := .bool bd) rfl (h.b 0 rfl) rfl) rfl ?_
  (first | refine r_v (q_pick1 rfl rfl rfl) rfl ?_ | refine r_v (q_pick0 rfl rfl rfl) rfl ?_ | refine r_v (q_pick1 rfl (by assumption) rfl) rfl ?_ | refine r_v (q_pick0 rfl (by assumption) rfl) rfl ?_ | refine r_v (q_pickB rfl rfl rfl) rfl ?_)
  cases bd with
  | true =>
   refine r_nil (c_true rfl ?_)
   refine c_seq (c_region ?_)
   refine r_v (q_assignS rfl) rfl ?_; refine r_v (q_assignB rfl) rfl ?_
   refine r_nil ?_
   rw [if_neg (by simp)]
   exact c_ret (bq2 ⟨none, 0, rfl, St.ownNil _ _ h⟩)
  | false =>
   refine r_nil (c_false rfl (c_skip ?_))
   refine c_seq (c_region ?_)
   refine r_v (q_moveP rfl) rfl ?_; refine r_v (q_nil rfl) rfl ?_; refine r_v (q_fa rfl) rfl ?_
   refine r_v (q_load (v := .slice ba bs.length bc) rfl (h.b 0 rfl) rfl) rfl ?_
   refine r_c rfl (x_call rfl (bytes_Clone h (fun w' h' => (h'.f 1).own_rd) hn) ?_)
   rintro _ w ⟨a, c, rfl, h⟩
   refine r_v (q_assignS rfl) rfl ?_; refine r_v (q_assignB rfl) rfl ?_
   refine r_nil ?_
   rw [if_pos ⟨rfl, rfl⟩]
   exact c_ret (bq2 ⟨a, c, rfl, h⟩)
theorem work_NewDecoder {sl : Option Addr} {c : Nat} {bs : List UInt8} (hn : bs.length ≤ 140737488355328) (hr : Reads w0 l 1 sl bs.length (bytesV bs)) (h : St w0 l w) :
  Ret Tryz.prog 26 [.slice sl bs.length c] w fun v w' => ∃ p ba bc, v = .pointer (some ⟨p, 0, none⟩) ∧ St w0 (DecPt p ⟨false, false, 0, false⟩ ba bs.length bc none 0 0 :: OwnB ba bc bs :: l) w' := by
 refine enter Tryz.func26 rfl Tryz.results26 Tryz.ntmps26 rfl ?_
 refine c_seq (c_region ?_)
 refine r_v (q_assignP rfl) rfl ?_
 refine r_nil ?_
 refine c_seq (c_region ?_)
 refine r_v (q_moveS rfl) rfl ?_
 refine r_c rfl (x_call rfl (bytes_Clone h hr.rd hn) ?_)
 rintro _ w ⟨ba, bc, rfl, h⟩
 refine r_v (q_build (r := decC ⟨false, false, 0, false⟩ ba bs.length bc none 0 0) rfl) rfl ?_
 refine r_c rfl (x_box h (show _ = Value.agg (decC ⟨false, false, 0, false⟩ ba bs.length bc none 0 0).toArray from rfl) fun p w h => ?_)
 refine r_v (q_assignP rfl) rfl ?_
 refine r_nil ?_
 exact c_ret (bq1 ⟨p, ba, bc, rfl, h⟩)
def decL (bs : List UInt8) : List Smp := ((chOpen bs).map Prod.fst).getD []
def decBegin (bs : List UInt8) : WkS := ⟨true, false, (decL bs).length, !(chOpen bs).isSome⟩
theorem dec_Step0 (hT : Tz w0) {p : Nat} {ba : Option Addr} {bc : Nat} {bs : List UInt8} (n : Int) (hn : bs.length ≤ 140737488355328) (h : St w0 (DecPt p ⟨false, false, 0, false⟩ ba bs.length bc none 0 0 :: OwnB ba bc bs :: l) w) :
  Ret Tryz.prog 28 [.pointer (some ⟨p, 0, none⟩), .int .i64 n] w fun v w' => ∃ la lc, v = .bool ((decBegin bs).more n) ∧ (decL bs).length ≤ 65535 ∧ St w0 (DecPt p ((decBegin bs).step n) ba bs.length bc la (decL bs).length lc :: OwnS la lc (decL bs) :: OwnB ba bc bs :: l) w' := by
 have hbc := (h.f 1).own_cases.2.1
 refine enter Tryz.func28 rfl Tryz.results28 Tryz.ntmps28 rfl ?_
 refine c_seq (c_region ?_)
 refine r_v (q_assignB rfl) rfl ?_
 refine r_nil ?_
 refine c_cut (Γ := Option Addr × Nat) (fun _ => [(0, .pointer (some ⟨p, 0, none⟩)), (1, .int .i64 n)]) (fun q w => (decL bs).length ≤ 65535 ∧ St w0 (DecPt p (decBegin bs) ba bs.length bc q.1 (decL bs).length q.2 :: OwnS q.1 q.2 (decL bs) :: OwnB ba bc bs :: l) w) ?_ ?_
 ·refine c_seq (c_region ?_)
  refine r_v (q_moveP rfl) rfl ?_; refine r_v (q_nil rfl) rfl ?_; refine r_v (q_fa rfl) rfl ?_; refine r_v (q_fa rfl) rfl ?_
  refine r_v (q_load (v := .bool false) rfl (h.b 0 rfl) rfl) rfl ?_
  refine r_v (q_not rfl) rfl ?_
  refine r_nil (c_true rfl ?_)
  refine c_seq (c_region ?_)
  refine r_v (q_moveP rfl) rfl ?_; refine r_v (q_nil rfl) rfl ?_; refine r_v (q_fa rfl) rfl ?_
  refine r_v (q_load (v := .slice ba bs.length bc) rfl (h.b 0 rfl) rfl) rfl ?_
  refine r_c rfl (x_call rfl (chnk_Open hT hn hbc Reads.own.cons h) ?_)
  rintro _ w ⟨oa, oc, rfl, hwf, h⟩
  have hl16 : (decL bs).length ≤ 65535 := by
   unfold decL
   cases hO : chOpen bs with
   | none => exact Nat.zero_le _
   | some q => obtain ⟨M, t⟩ := q; exact (hwf M t hO).1
  replace h : St w0 (OwnS oa oc (decL bs) :: DecPt p ⟨false, false, 0, false⟩ ba bs.length bc none 0 0 :: OwnB ba bc bs :: l) w := h
  show Rn _ _ _ _ _ (upd _ _ (.tuple [.slice oa (decL bs).length oc, .int .i64 _, .bool (chOpen bs).isSome].toArray)) _
  refine r_v (q_moveT rfl) rfl ?_; refine r_v (q_ext rfl rfl) rfl ?_; refine r_v (q_ext rfl rfl) rfl ?_; refine r_v (q_ext rfl rfl) rfl ?_; refine r_v (q_assignS rfl) rfl ?_; refine r_v (q_assignI rfl) rfl ?_; refine r_v (q_assignB rfl) rfl ?_
  refine r_nil ?_
  refine c_region ?_
  refine r_v (q_moveP rfl) rfl ?_; refine r_v (q_moveP rfl) rfl ?_; refine r_v (q_moveP rfl) rfl ?_; refine r_v (q_moveP rfl) rfl ?_; refine r_v (q_moveS rfl) rfl ?_; refine r_v (q_moveB rfl) rfl ?_; refine r_v (q_not rfl) rfl ?_; refine r_v (q_moveS rfl) rfl ?_; refine r_v (q_len rfl) rfl ?_; refine r_v (q_nil rfl) rfl ?_; refine r_v (q_fa rfl) rfl ?_; refine r_v (q_fa rfl) rfl ?_
  refine r_c rfl (x_store 1 h rfl (show _ = Value.bool true from rfl) rfl rfl rfl rfl fun w h => ?_)
  refine r_v (q_nil rfl) rfl ?_; refine r_v (q_fa rfl) rfl ?_
  refine r_c rfl (x_store 1 h rfl (show _ = Value.slice oa (decL bs).length oc from rfl) rfl rfl rfl rfl fun w h => ?_)
  refine r_v (q_nil rfl) rfl ?_; refine r_v (q_fa rfl) rfl ?_
  refine r_c rfl (x_store 1 h rfl (show _ = Value.bool (!(chOpen bs).isSome) from rfl) rfl rfl rfl rfl fun w h => ?_)
  refine r_v (q_nil rfl) rfl ?_; refine r_v (q_fa rfl) rfl ?_; refine r_v (q_fa rfl) rfl ?_
  refine r_c rfl (x_store 1 h rfl (show _ = Value.int .i64 ((decL bs).length : Int) from rfl) rfl rfl rfl rfl fun w h => ?_)
  replace h : St w0 (OwnS oa oc (decL bs) :: DecPt p (decBegin bs) ba bs.length bc oa (decL bs).length oc :: OwnB ba bc bs :: l) w := h
  exact r_nil ⟨(oa, oc), ⟨rfl, rfl, trivial⟩, hl16, h.f 1⟩
 clear h
 rintro ⟨la, lc⟩ w e ⟨hl16, h⟩
 dsimp only at h ⊢
 refine c_seq (c_region ?_)
 refine r_v (q_moveP rfl) rfl ?_; refine r_v (q_nil rfl) rfl ?_; refine r_v (q_fa rfl) rfl ?_; refine r_v (q_moveI rfl) rfl ?_
 refine r_c rfl (x_call rfl (pace_step (s := decBegin bs) n (by unfold decBegin; dsimp only; omega) h) ?_)
 rintro _ w ⟨rfl, h⟩
 refine r_v (q_assignB rfl) rfl ?_
 refine r_nil ?_
 exact c_ret (bq1 ⟨la, lc, rfl, hl16, h⟩)
theorem dec_Step {p : Nat} {s : WkS} {ba : Option Addr} {bm bc : Nat} {la : Option Addr} {m lc : Nat} (n : Int) (hb : s.bg = true) (hlf : -200000 ≤ s.lf ∧ s.lf ≤ 200000) (h : St w0 (DecPt p s ba bm bc la m lc :: l) w) :
  Ret Tryz.prog 28 [.pointer (some ⟨p, 0, none⟩), .int .i64 n] w fun v w' => v = .bool (s.more n) ∧ St w0 (DecPt p (s.step n) ba bm bc la m lc :: l) w' := by
 refine enter Tryz.func28 rfl Tryz.results28 Tryz.ntmps28 rfl ?_
 refine c_seq (c_region ?_)
 refine r_v (q_assignB rfl) rfl ?_
 refine r_nil ?_
 refine c_seq (c_seq (c_region ?_))
 refine r_v (q_moveP rfl) rfl ?_; refine r_v (q_nil rfl) rfl ?_; refine r_v (q_fa rfl) rfl ?_; refine r_v (q_fa rfl) rfl ?_
 refine r_v (q_load (v := .bool s.bg) rfl (h.b 0 rfl) rfl) rfl ?_
 rw [hb]
 refine r_v (q_not rfl) rfl ?_
 refine r_nil (c_false rfl (c_skip ?_))
 refine c_seq (c_region ?_)
 refine r_v (q_moveP rfl) rfl ?_; refine r_v (q_nil rfl) rfl ?_; refine r_v (q_fa rfl) rfl ?_; refine r_v (q_moveI rfl) rfl ?_
 refine r_c rfl (x_call rfl (pace_step (s := s) n hlf h) ?_)
 rintro _ w ⟨rfl, h⟩
 refine r_v (q_assignB rfl) rfl ?_
 refine r_nil ?_
 exact c_ret (bq1 ⟨rfl, h⟩)
theorem dec_Done {p : Nat} {s : WkS} {ba : Option Addr} {bm bc : Nat} {la : Option Addr} {lc : Nat} {L : List Smp} (hn : L.length ≤ 1073741824) (hr : Reads w0 (DecPt p s ba bm bc la L.length lc :: l) 2 la L.length (smpsV L)) (h : St w0 (DecPt p s ba bm bc la L.length lc :: l) w) :
  Ret Tryz.prog 30 [.pointer (some ⟨p, 0, none⟩)] w fun v w' => ∃ a c, v = .tuple [.slice a (if s.ov = true ∧ s.bad = false then L else []).length c, .bool (s.ov && !s.bad)].toArray ∧ St w0 (OwnS a c (if s.ov = true ∧ s.bad = false then L else []) :: DecPt p s ba bm bc la L.length lc :: l) w' := by
 obtain ⟨bg, ov, lf, bd⟩ := s
 dsimp only
 refine enter Tryz.func30 rfl Tryz.results30 Tryz.ntmps30 rfl ?_
 refine c_seq (c_region ?_)
 refine r_v (q_assignS rfl) rfl ?_; refine r_v (q_assignB rfl) rfl ?_
 refine r_nil ?_
 refine c_seq (c_seq (c_region ?_))
 refine r_v (q_moveP rfl) rfl ?_; refine r_v (q_nil rfl) rfl ?_; refine r_v (q_fa rfl) rfl ?_; refine r_v (q_fa rfl) rfl ?_
 refine r_v (q_load (v := .bool ov) rfl (h.b 0 rfl) rfl) rfl ?_
 cases ov with
 | false =>
  refine r_v (q_not rfl) rfl ?_; refine r_v (q_moveB rfl) rfl ?_; (first | refine r_gd rfl rfl ?_ | refine r_gn rfl rfl rfl ?_ | refine r_gu rfl rfl ?_ | refine r_gd rfl (by assumption) ?_ | refine r_gn rfl (by assumption) rfl ?_); (first | refine r_gd rfl rfl ?_ | refine r_gn rfl rfl rfl ?_ | refine r_gu rfl rfl ?_ | refine r_gd rfl (by assumption) ?_ | refine r_gn rfl (by assumption) rfl ?_); (first | refine r_gd rfl rfl ?_ | refine r_gn rfl rfl rfl ?_ | refine r_gu rfl rfl ?_ | refine r_gd rfl (by assumption) ?_ | refine r_gn rfl (by assumption) rfl ?_); (first | refine r_gd rfl rfl ?_ | refine r_gn rfl rfl rfl ?_ | refine r_gu rfl rfl ?_ | refine r_gd rfl (by assumption) ?_ | refine r_gn rfl (by assumption) rfl ?_); (first | refine r_v (q_pick1 rfl rfl rfl) rfl ?_ | refine r_v (q_pick0 rfl rfl rfl) rfl ?_ | refine r_v (q_pick1 rfl (by assumption) rfl) rfl ?_ | refine r_v (q_pick0 rfl (by assumption) rfl) rfl ?_ | refine r_v (q_pickB rfl rfl rfl) rfl ?_)
  refine r_nil (c_true rfl ?_)
  refine c_seq (c_region ?_)
  refine r_v (q_assignS rfl) rfl ?_; refine r_v (q_assignB rfl) rfl ?_
  refine r_nil ?_
  rw [if_neg (by simp)]
  exact c_ret (bq2 ⟨none, 0, rfl, St.ownNil _ _ h⟩)
 | true =>
  refine r_v (q_not rfl) rfl ?_; refine r_v (q_moveB rfl) rfl ?_; (first | refine r_gd rfl rfl ?_ | refine r_gn rfl rfl rfl ?_ | refine r_gu rfl rfl ?_ | refine r_gd rfl (by assumption) ?_ | refine r_gn rfl (by assumption) rfl ?_); refine r_v (q_moveP rfl) rfl ?_; (first | refine r_gd rfl rfl ?_ | refine r_gn rfl rfl rfl ?_ | refine r_gu rfl rfl ?_ | refine r_gd rfl (by assumption) ?_ | refine r_gn rfl (by assumption) rfl ?_); refine r_v (q_nil rfl) rfl ?_; (first | refine r_gd rfl rfl ?_ | refine r_gn rfl rfl rfl ?_ | refine r_gu rfl rfl ?_ | refine r_gd rfl (by assumption) ?_ | refine r_gn rfl (by assumption) rfl ?_); refine r_v (q_fa rfl) rfl ?_; (first | refine r_gd rfl rfl ?_ | refine r_gn rfl rfl rfl ?_ | refine r_gu rfl rfl ?_ | refine r_gd rfl (by assumption) ?_ | refine r_gn rfl (by assumption) rfl ?_)
  refine r_v (q_load (v := .bool bd) rfl (h.b 0 rfl) rfl) rfl ?_
  (first | refine r_v (q_pick1 rfl rfl rfl) rfl ?_ | refine r_v (q_pick0 rfl rfl rfl) rfl ?_ | refine r_v (q_pick1 rfl (by assumption) rfl) rfl ?_ | refine r_v (q_pick0 rfl (by assumption) rfl) rfl ?_ | refine r_v (q_pickB rfl rfl rfl) rfl ?_)
  cases bd with
  | true =>
   refine r_nil (c_true rfl ?_)
   refine c_seq (c_region ?_)
   refine r_v (q_assignS rfl) rfl ?_; refine r_v (q_assignB rfl) rfl ?_
   refine r_nil ?_
   rw [if_neg (by simp)]
   exact c_ret (bq2 ⟨none, 0, rfl, St.ownNil _ _ h⟩)
  | false =>
   refine r_nil (c_false rfl (c_skip ?_))
   refine c_seq (c_region ?_)
   refine r_v (q_moveP rfl) rfl ?_; refine r_v (q_nil rfl) rfl ?_; refine r_v (q_fa rfl) rfl ?_
   refine r_v (q_load (v := .slice la L.length lc) rfl (h.b 0 rfl) rfl) rfl ?_
   refine r_c rfl (x_call rfl (smps_Clone h hr hn) ?_)
   rintro _ w ⟨a, c, rfl, h⟩
   refine r_v (q_assignS rfl) rfl ?_; refine r_v (q_assignB rfl) rfl ?_
   refine r_nil ?_
   rw [if_pos ⟨rfl, rfl⟩]
   exact c_ret (bq2 ⟨a, c, rfl, h⟩)
theorem dec_Bad {p : Nat} {s : WkS} {ba : Option Addr} {bm bc : Nat} {la : Option Addr} {m lc : Nat} (h : St w0 (DecPt p s ba bm bc la m lc :: l) w) :
  Ret Tryz.prog 58 [.pointer (some ⟨p, 0, none⟩)] w fun v w' => v = .bool (s.ov && s.bad) ∧ St w0 (DecPt p s ba bm bc la m lc :: l) w' := by
 obtain ⟨bg, ov, lf, bd⟩ := s
 refine enter Tryz.func58 rfl Tryz.results58 Tryz.ntmps58 rfl ?_
 refine c_seq (c_region ?_)
 refine r_v (q_assignB rfl) rfl ?_
 refine r_nil ?_
 refine c_seq (c_region ?_)
 refine r_v (q_moveP rfl) rfl ?_; refine r_v (q_nil rfl) rfl ?_; refine r_v (q_fa rfl) rfl ?_; refine r_v (q_fa rfl) rfl ?_
 refine r_v (q_load (v := .bool ov) rfl (h.b 0 rfl) rfl) rfl ?_
 cases ov with
 | false =>
  refine r_v (q_moveB rfl) rfl ?_; (first | refine r_gd rfl rfl ?_ | refine r_gn rfl rfl rfl ?_ | refine r_gu rfl rfl ?_ | refine r_gd rfl (by assumption) ?_ | refine r_gn rfl (by assumption) rfl ?_); (first | refine r_gd rfl rfl ?_ | refine r_gn rfl rfl rfl ?_ | refine r_gu rfl rfl ?_ | refine r_gd rfl (by assumption) ?_ | refine r_gn rfl (by assumption) rfl ?_); (first | refine r_gd rfl rfl ?_ | refine r_gn rfl rfl rfl ?_ | refine r_gu rfl rfl ?_ | refine r_gd rfl (by assumption) ?_ | refine r_gn rfl (by assumption) rfl ?_); (first | refine r_gd rfl rfl ?_ | refine r_gn rfl rfl rfl ?_ | refine r_gu rfl rfl ?_ | refine r_gd rfl (by assumption) ?_ | refine r_gn rfl (by assumption) rfl ?_); (first | refine r_v (q_pick1 rfl rfl rfl) rfl ?_ | refine r_v (q_pick0 rfl rfl rfl) rfl ?_ | refine r_v (q_pick1 rfl (by assumption) rfl) rfl ?_ | refine r_v (q_pick0 rfl (by assumption) rfl) rfl ?_ | refine r_v (q_pickB rfl rfl rfl) rfl ?_); refine r_v (q_assignB rfl) rfl ?_
  refine r_nil ?_
  exact c_ret (bq1 ⟨rfl, h⟩)
 | true =>
  refine r_v (q_moveB rfl) rfl ?_; (first | refine r_gd rfl rfl ?_ | refine r_gn rfl rfl rfl ?_ | refine r_gu rfl rfl ?_ | refine r_gd rfl (by assumption) ?_ | refine r_gn rfl (by assumption) rfl ?_); refine r_v (q_moveP rfl) rfl ?_; (first | refine r_gd rfl rfl ?_ | refine r_gn rfl rfl rfl ?_ | refine r_gu rfl rfl ?_ | refine r_gd rfl (by assumption) ?_ | refine r_gn rfl (by assumption) rfl ?_); refine r_v (q_nil rfl) rfl ?_; (first | refine r_gd rfl rfl ?_ | refine r_gn rfl rfl rfl ?_ | refine r_gu rfl rfl ?_ | refine r_gd rfl (by assumption) ?_ | refine r_gn rfl (by assumption) rfl ?_); refine r_v (q_fa rfl) rfl ?_; (first | refine r_gd rfl rfl ?_ | refine r_gn rfl rfl rfl ?_ | refine r_gu rfl rfl ?_ | refine r_gd rfl (by assumption) ?_ | refine r_gn rfl (by assumption) rfl ?_)
  refine r_v (q_load (v := .bool bd) rfl (h.b 0 rfl) rfl) rfl ?_
  (first | refine r_v (q_pick1 rfl rfl rfl) rfl ?_ | refine r_v (q_pick0 rfl rfl rfl) rfl ?_ | refine r_v (q_pick1 rfl (by assumption) rfl) rfl ?_ | refine r_v (q_pick0 rfl (by assumption) rfl) rfl ?_ | refine r_v (q_pickB rfl rfl rfl) rfl ?_); refine r_v (q_assignB rfl) rfl ?_
  refine r_nil ?_
  exact c_ret (bq1 ⟨rfl, h⟩)
end
end Go.Proofs.YtjjacchnalemaaaGreatDoor

namespace Go.Hw
set_option maxRecDepth 100000
def L3 : List Smp := [⟨1, 7⟩, ⟨2, 7⟩, ⟨3, 9⟩]
def C3 : List UInt8 := (chMake 1 L3).getD []
theorem C3_make : chMake 1 L3 = some C3 := by
 have : (chMake 1 L3).isSome = true := by decide +kernel
 unfold C3
 cases h : chMake 1 L3 with
 | none => rw [h] at this; cases this
 | some b => rfl
theorem L3_wf : ∀ s ∈ L3, s.Wf := by
 intro s hs
 simp only [L3, List.mem_cons, List.not_mem_nil, or_false] at hs
 rcases hs with rfl | rfl | rfl <;> exact ⟨⟨by decide, by decide⟩, by decide, by decide⟩
def noCh : List UInt8 := [110, 111, 32, 99, 104, 117, 110, 107]
theorem noCh_open : chOpen noCh = none := by
 have : headDec noCh = none := headDec_tag (by decide)
 unfold chOpen
 rw [this]
theorem WkS.more_true {s : WkS} {n : Int} (ho : s.ov = false) (h : s.more n = true) : (s.step n).ov = false ∧ (s.step n).lf = s.lf - clampN n ∧ 0 < s.lf - clampN n := by
 unfold WkS.more at h
 unfold WkS.step
 rw [ho] at h ⊢
 simp only [Bool.not_false, Bool.true_and, Bool.not_eq_true', decide_eq_false_iff_not] at h
 refine ⟨by simpa using h, by simp, by omega⟩
theorem WkS.more_false {s : WkS} {n : Int} (ho : s.ov = false) (h : s.more n = false) : (s.step n).ov = true := by
 unfold WkS.more at h
 unfold WkS.step
 rw [ho] at h ⊢
 simpa using h
end Go.Hw
namespace Go.Proofs.YtjjacchnalemaaaGreatDoor
open Go.Hw
set_option maxHeartbeats 4000000
set_option maxRecDepth 100000
section
variable {w0 w : World} {l : List HProp}
theorem law12_awake (hT : Tz w0) (h : St w0 l w) : Ret Tryz.prog 24 [] w fun v w' => v = .bool true ∧ St w0 l w' := by
 have hcm := chMake_len2 L3_wf C3_make
 have hopen := chOpen_told L3_wf (by omega) C3_make
 have hdL : decL C3 = L3 := by unfold decL; rw [hopen]; rfl
 have hdN : decL noCh = [] := by unfold decL; rw [noCh_open]; rfl
 refine enter Tryz.func24 rfl Tryz.results24 Tryz.ntmps24 rfl ?_
 refine c_seq (c_region ?_)
 refine r_v (q_assignB rfl) rfl ?_
 refine r_nil ?_
 refine c_seq (c_region ?_)
 refine r_v (q_build (r := (Smp.mk 1 7).cells) rfl) rfl ?_
 refine r_v (q_build (r := (Smp.mk 2 7).cells) rfl) rfl ?_
 refine r_v (q_build (r := (Smp.mk 3 9).cells) rfl) rfl ?_
 refine r_c rfl (x_bslice (r := smpsV L3) h rfl rfl rfl fun b w h => ?_)
 have hr : ∀ M : List HProp, Reads w0 (M ++ pt b (.cells (smpsV L3).toArray 53 (0, 0)) :: l) 2 (some ⟨b, 0, none⟩) L3.length (smpsV L3) := fun M => (Reads.pt (m := 0) rfl rfl).more M
 refine r_v (q_assignS rfl) rfl ?_
 refine r_nil ?_
 refine c_seq (c_region ?_)
 refine r_v (q_moveS rfl) rfl ?_
 refine r_c rfl (x_call rfl (work_NewEncoder 1 (L := L3) (by decide) (hr []) h) ?_)
 rintro _ w ⟨p, la, lc, rfl, h⟩
 refine r_v (q_assignP rfl) rfl ?_
 refine r_nil ?_
 refine c_seq (c_seq (c_region ?_))
 refine r_v (q_moveP rfl) rfl ?_; refine r_v (q_eqnil rfl rfl) rfl ?_
 refine r_nil (c_false rfl (c_skip ?_))
 refine c_seq (c_region ?_)
 refine r_v (q_moveP rfl) rfl ?_
 refine r_c rfl (x_call rfl (enc_Step0 hT 2 L3_wf (by decide) h) ?_)
 rw [C3_make]
 rintro _ w ⟨ba, bc, rfl, h⟩
 replace h : St w0 (EncPt p ⟨true, false, 1, false⟩ 1 la L3.length lc ba C3.length bc :: OwnB ba bc C3 :: OwnS la lc L3 :: pt b (.cells (smpsV L3).toArray 53 (0, 0)) :: l) w := h
 rw [show (encBegin (some C3) L3.length).more 2 = true from rfl]
 refine r_v (q_moveP rfl) rfl ?_
 refine r_c rfl (x_call rfl (enc_Step (s := ⟨true, false, 1, false⟩) 1 rfl (by decide) h) ?_)
 rintro _ w ⟨rfl, h⟩
 replace h : St w0 (EncPt p ⟨true, true, 0, false⟩ 1 la L3.length lc ba C3.length bc :: OwnB ba bc C3 :: OwnS la lc L3 :: pt b (.cells (smpsV L3).toArray 53 (0, 0)) :: l) w := h
 rw [show (WkS.mk true false 1 false).more 1 = false from rfl]
 refine r_v (q_assignB rfl) rfl ?_; refine r_v (q_assignB rfl) rfl ?_
 refine r_nil ?_
 refine c_seq (c_region ?_)
 refine r_v (q_moveP rfl) rfl ?_
 refine r_c rfl (x_call rfl (enc_Done (bs := C3) (by omega) h) ?_)
 rintro _ w ⟨ca, cc, rfl, h⟩
 replace h : St w0 (OwnB ca cc C3 :: EncPt p ⟨true, true, 0, false⟩ 1 la L3.length lc ba C3.length bc :: OwnB ba bc C3 :: OwnS la lc L3 :: pt b (.cells (smpsV L3).toArray 53 (0, 0)) :: l) w := h
 show Rn _ _ _ _ _ (upd _ _ (.tuple [.slice ca C3.length cc, .bool true].toArray)) _
 refine r_v (q_moveT rfl) rfl ?_; refine r_v (q_ext rfl rfl) rfl ?_; refine r_v (q_ext rfl rfl) rfl ?_; refine r_v (q_assignS rfl) rfl ?_; refine r_v (q_assignB rfl) rfl ?_
 refine r_nil ?_
 refine c_seq (c_region ?_)
 refine r_v (q_moveS rfl) rfl ?_
 refine r_c rfl (x_call rfl (work_NewDecoder (bs := C3) (by omega) Reads.own h) ?_)
 rintro _ w ⟨p2, b2, c2, rfl, h⟩
 refine r_v (q_assignP rfl) rfl ?_
 refine r_nil ?_
 refine c_seq (c_seq (c_region ?_))
 refine r_v (q_moveP rfl) rfl ?_; refine r_v (q_eqnil rfl rfl) rfl ?_
 refine r_nil (c_false rfl (c_skip ?_))
 refine c_seq (c_region ?_)
 refine r_v (q_moveP rfl) rfl ?_
 refine r_c rfl (x_call rfl (dec_Done (L := []) (by decide) Reads.nil h) ?_)
 rintro _ w ⟨da, dc, rfl, h⟩
 replace h := h.drop
 show Rn _ _ _ _ _ (upd _ _ (.tuple [.slice da 0 dc, .bool false].toArray)) _
 refine r_v (q_moveT rfl) rfl ?_; refine r_v (q_ext rfl rfl) rfl ?_; refine r_v (q_ext rfl rfl) rfl ?_; refine r_v (q_assignS rfl) rfl ?_; refine r_v (q_assignB rfl) rfl ?_
 refine r_nil ?_
 refine c_seq (c_region ?_)
 refine r_v (q_moveP rfl) rfl ?_
 refine r_c rfl (x_call rfl (dec_Step0 hT 5 (by omega) h) ?_)
 have e1 : decBegin C3 = ⟨true, false, 3, false⟩ := by unfold decBegin; rw [hdL, hopen]; rfl
 rw [e1, hdL]
 rintro _ w ⟨l2, lc2, rfl, _, h⟩
 replace h : St w0 (DecPt p2 ⟨true, true, -2, false⟩ b2 C3.length c2 l2 L3.length lc2 :: OwnS l2 lc2 L3 :: OwnB b2 c2 C3 :: OwnB ca cc C3 :: EncPt p ⟨true, true, 0, false⟩ 1 la L3.length lc ba C3.length bc :: OwnB ba bc C3 :: OwnS la lc L3 :: pt b (.cells (smpsV L3).toArray 53 (0, 0)) :: l) w := h
 rw [show (WkS.mk true false 3 false).more 5 = false from rfl]
 refine r_v (q_assignB rfl) rfl ?_
 refine r_nil ?_
 refine c_seq (c_region ?_)
 refine r_v (q_moveP rfl) rfl ?_
 refine r_c rfl (x_call rfl (dec_Done (L := L3) (by decide) Reads.own.cons h) ?_)
 rintro _ w ⟨ea, ec, rfl, h⟩
 replace h : St w0 (OwnS ea ec L3 :: DecPt p2 ⟨true, true, -2, false⟩ b2 C3.length c2 l2 L3.length lc2 :: OwnS l2 lc2 L3 :: OwnB b2 c2 C3 :: OwnB ca cc C3 :: EncPt p ⟨true, true, 0, false⟩ 1 la L3.length lc ba C3.length bc :: OwnB ba bc C3 :: OwnS la lc L3 :: pt b (.cells (smpsV L3).toArray 53 (0, 0)) :: l) w := h
 show Rn _ _ _ _ _ (upd _ _ (.tuple [.slice ea L3.length ec, .bool true].toArray)) _
 refine r_v (q_moveT rfl) rfl ?_; refine r_v (q_ext rfl rfl) rfl ?_; refine r_v (q_ext rfl rfl) rfl ?_; refine r_v (q_assignS rfl) rfl ?_; refine r_v (q_assignB rfl) rfl ?_
 refine r_nil ?_
 refine c_seq (c_region ?_)
 refine r_c rfl (x_bslice (r := bytesV noCh) h rfl rfl rfl fun bn w h => ?_)
 refine r_c rfl (x_mark 0 h rfl rfl fun w h => ?_)
 refine r_c rfl (x_call rfl (work_NewDecoder (bs := noCh) (by decide) (fun L w' h' => ⟨rfl, .inr ⟨bn, 0, rfl, at_of (h'.drops.b 0 rfl) rfl⟩⟩) h) ?_)
 rintro _ w ⟨p3, b3, c3, rfl, h⟩
 replace h := (((h.f 2).drop))
 refine r_v (q_assignP rfl) rfl ?_
 refine r_nil ?_
 refine c_seq (c_seq (c_region ?_))
 refine r_v (q_moveP rfl) rfl ?_; refine r_v (q_eqnil rfl rfl) rfl ?_
 refine r_nil (c_false rfl (c_skip ?_))
 refine c_seq (c_region ?_)
 refine r_v (q_moveP rfl) rfl ?_
 refine r_c rfl (x_call rfl (dec_Step0 hT 1 (by decide) h) ?_)
 have e2 : decBegin noCh = ⟨true, false, 0, true⟩ := by unfold decBegin; rw [hdN, noCh_open]; rfl
 rw [e2, hdN]
 rintro _ w ⟨l3, lc3, rfl, _, h⟩
 replace h : St w0 (DecPt p3 ⟨true, true, -1, true⟩ b3 noCh.length c3 l3 0 lc3 :: OwnS l3 lc3 [] :: OwnB b3 c3 noCh :: OwnS ea ec L3 :: DecPt p2 ⟨true, true, -2, false⟩ b2 C3.length c2 l2 L3.length lc2 :: OwnS l2 lc2 L3 :: OwnB b2 c2 C3 :: OwnB ca cc C3 :: EncPt p ⟨true, true, 0, false⟩ 1 la L3.length lc ba C3.length bc :: OwnB ba bc C3 :: OwnS la lc L3 :: pt b (.cells (smpsV L3).toArray 53 (0, 0)) :: l) w := h
 rw [show (WkS.mk true false 0 true).more 1 = false from rfl]
 refine r_v (q_assignB rfl) rfl ?_
 refine r_nil ?_
 refine c_seq (c_region ?_)
 refine r_v (q_moveP rfl) rfl ?_
 refine r_c rfl (x_call rfl (dec_Done (L := []) (by decide) Reads.own.cons h) ?_)
 rintro _ w ⟨fa, fc, rfl, h⟩
 replace h := h.drop
 show Rn _ _ _ _ _ (upd _ _ (.tuple [.slice fa 0 fc, .bool false].toArray)) _
 refine r_v (q_moveT rfl) rfl ?_; refine r_v (q_ext rfl rfl) rfl ?_; refine r_v (q_ext rfl rfl) rfl ?_; refine r_v (q_assignS rfl) rfl ?_; refine r_v (q_assignB rfl) rfl ?_
 refine r_nil ?_
 refine c_seq (c_region ?_)
 refine r_v (q_moveB rfl) rfl ?_; refine r_v (q_moveB rfl) rfl ?_; (first | refine r_gd rfl rfl ?_ | refine r_gn rfl rfl rfl ?_ | refine r_gu rfl rfl ?_ | refine r_gd rfl (by assumption) ?_ | refine r_gn rfl (by assumption) rfl ?_); refine r_v (q_moveB rfl) rfl ?_; (first | refine r_gd rfl rfl ?_ | refine r_gn rfl rfl rfl ?_ | refine r_gu rfl rfl ?_ | refine r_gd rfl (by assumption) ?_ | refine r_gn rfl (by assumption) rfl ?_); refine r_v (q_not rfl) rfl ?_; (first | refine r_v (q_pick1 rfl rfl rfl) rfl ?_ | refine r_v (q_pick0 rfl rfl rfl) rfl ?_ | refine r_v (q_pick1 rfl (by assumption) rfl) rfl ?_ | refine r_v (q_pick0 rfl (by assumption) rfl) rfl ?_ | refine r_v (q_pickB rfl rfl rfl) rfl ?_); refine r_v (q_moveB rfl) rfl ?_; (first | refine r_gd rfl rfl ?_ | refine r_gn rfl rfl rfl ?_ | refine r_gu rfl rfl ?_ | refine r_gd rfl (by assumption) ?_ | refine r_gn rfl (by assumption) rfl ?_); refine r_v (q_moveB rfl) rfl ?_; (first | refine r_v (q_pick1 rfl rfl rfl) rfl ?_ | refine r_v (q_pick0 rfl rfl rfl) rfl ?_ | refine r_v (q_pick1 rfl (by assumption) rfl) rfl ?_ | refine r_v (q_pick0 rfl (by assumption) rfl) rfl ?_ | refine r_v (q_pickB rfl rfl rfl) rfl ?_); refine r_v (q_moveB rfl) rfl ?_; (first | refine r_gd rfl rfl ?_ | refine r_gn rfl rfl rfl ?_ | refine r_gu rfl rfl ?_ | refine r_gd rfl (by assumption) ?_ | refine r_gn rfl (by assumption) rfl ?_); refine r_v (q_moveB rfl) rfl ?_; (first | refine r_gd rfl rfl ?_ | refine r_gn rfl rfl rfl ?_ | refine r_gu rfl rfl ?_ | refine r_gd rfl (by assumption) ?_ | refine r_gn rfl (by assumption) rfl ?_); refine r_v (q_not rfl) rfl ?_; (first | refine r_v (q_pick1 rfl rfl rfl) rfl ?_ | refine r_v (q_pick0 rfl rfl rfl) rfl ?_ | refine r_v (q_pick1 rfl (by assumption) rfl) rfl ?_ | refine r_v (q_pick0 rfl (by assumption) rfl) rfl ?_ | refine r_v (q_pickB rfl rfl rfl) rfl ?_); refine r_v (q_moveB rfl) rfl ?_; (first | refine r_gd rfl rfl ?_ | refine r_gn rfl rfl rfl ?_ | refine r_gu rfl rfl ?_ | refine r_gd rfl (by assumption) ?_ | refine r_gn rfl (by assumption) rfl ?_); refine r_v (q_moveB rfl) rfl ?_; (first | refine r_gd rfl rfl ?_ | refine r_gn rfl rfl rfl ?_ | refine r_gu rfl rfl ?_ | refine r_gd rfl (by assumption) ?_ | refine r_gn rfl (by assumption) rfl ?_); refine r_v (q_not rfl) rfl ?_; (first | refine r_v (q_pick1 rfl rfl rfl) rfl ?_ | refine r_v (q_pick0 rfl rfl rfl) rfl ?_ | refine r_v (q_pick1 rfl (by assumption) rfl) rfl ?_ | refine r_v (q_pick0 rfl (by assumption) rfl) rfl ?_ | refine r_v (q_pickB rfl rfl rfl) rfl ?_); refine r_v (q_moveB rfl) rfl ?_; (first | refine r_gd rfl rfl ?_ | refine r_gn rfl rfl rfl ?_ | refine r_gu rfl rfl ?_ | refine r_gd rfl (by assumption) ?_ | refine r_gn rfl (by assumption) rfl ?_); refine r_v (q_moveB rfl) rfl ?_; (first | refine r_v (q_pick1 rfl rfl rfl) rfl ?_ | refine r_v (q_pick0 rfl rfl rfl) rfl ?_ | refine r_v (q_pick1 rfl (by assumption) rfl) rfl ?_ | refine r_v (q_pick0 rfl (by assumption) rfl) rfl ?_ | refine r_v (q_pickB rfl rfl rfl) rfl ?_); refine r_v (q_moveB rfl) rfl ?_; (first | refine r_gd rfl rfl ?_ | refine r_gn rfl rfl rfl ?_ | refine r_gu rfl rfl ?_ | refine r_gd rfl (by assumption) ?_ | refine r_gn rfl (by assumption) rfl ?_); refine r_v (q_moveS rfl) rfl ?_; (first | refine r_gd rfl rfl ?_ | refine r_gn rfl rfl rfl ?_ | refine r_gu rfl rfl ?_ | refine r_gd rfl (by assumption) ?_ | refine r_gn rfl (by assumption) rfl ?_); refine r_v (q_moveS rfl) rfl ?_; (first | refine r_gd rfl rfl ?_ | refine r_gn rfl rfl rfl ?_ | refine r_gu rfl rfl ?_ | refine r_gd rfl (by assumption) ?_ | refine r_gn rfl (by assumption) rfl ?_)
 refine r_c rfl (x_call rfl (ref10_Same (L1 := L3) (L2 := L3) h (fun w' h' => (h'.f 3).own_rd) (fun w' h' => (hr [_, _, _, _, _, _, _, _, _, _, _]).rd w' h') (by decide)) ?_)
 rintro _ w ⟨rfl, h⟩
 rw [show decide (L3 = L3) = true by simp]
 (first | refine r_v (q_pick1 rfl rfl rfl) rfl ?_ | refine r_v (q_pick0 rfl rfl rfl) rfl ?_ | refine r_v (q_pick1 rfl (by assumption) rfl) rfl ?_ | refine r_v (q_pick0 rfl (by assumption) rfl) rfl ?_ | refine r_v (q_pickB rfl rfl rfl) rfl ?_); refine r_v (q_moveB rfl) rfl ?_; (first | refine r_gd rfl rfl ?_ | refine r_gn rfl rfl rfl ?_ | refine r_gu rfl rfl ?_ | refine r_gd rfl (by assumption) ?_ | refine r_gn rfl (by assumption) rfl ?_); refine r_v (q_moveB rfl) rfl ?_; (first | refine r_gd rfl rfl ?_ | refine r_gn rfl rfl rfl ?_ | refine r_gu rfl rfl ?_ | refine r_gd rfl (by assumption) ?_ | refine r_gn rfl (by assumption) rfl ?_); refine r_v (q_not rfl) rfl ?_; (first | refine r_v (q_pick1 rfl rfl rfl) rfl ?_ | refine r_v (q_pick0 rfl rfl rfl) rfl ?_ | refine r_v (q_pick1 rfl (by assumption) rfl) rfl ?_ | refine r_v (q_pick0 rfl (by assumption) rfl) rfl ?_ | refine r_v (q_pickB rfl rfl rfl) rfl ?_); refine r_v (q_moveB rfl) rfl ?_; (first | refine r_gd rfl rfl ?_ | refine r_gn rfl rfl rfl ?_ | refine r_gu rfl rfl ?_ | refine r_gd rfl (by assumption) ?_ | refine r_gn rfl (by assumption) rfl ?_); refine r_v (q_moveB rfl) rfl ?_; (first | refine r_gd rfl rfl ?_ | refine r_gn rfl rfl rfl ?_ | refine r_gu rfl rfl ?_ | refine r_gd rfl (by assumption) ?_ | refine r_gn rfl (by assumption) rfl ?_); refine r_v (q_not rfl) rfl ?_; (first | refine r_v (q_pick1 rfl rfl rfl) rfl ?_ | refine r_v (q_pick0 rfl rfl rfl) rfl ?_ | refine r_v (q_pick1 rfl (by assumption) rfl) rfl ?_ | refine r_v (q_pick0 rfl (by assumption) rfl) rfl ?_ | refine r_v (q_pickB rfl rfl rfl) rfl ?_); refine r_v (q_moveB rfl) rfl ?_; (first | refine r_gd rfl rfl ?_ | refine r_gn rfl rfl rfl ?_ | refine r_gu rfl rfl ?_ | refine r_gd rfl (by assumption) ?_ | refine r_gn rfl (by assumption) rfl ?_); refine r_v (q_moveP rfl) rfl ?_; (first | refine r_gd rfl rfl ?_ | refine r_gn rfl rfl rfl ?_ | refine r_gu rfl rfl ?_ | refine r_gd rfl (by assumption) ?_ | refine r_gn rfl (by assumption) rfl ?_)
 refine r_c rfl (x_call rfl (dec_Bad h) ?_)
 rintro _ w ⟨rfl, h⟩
 (first | refine r_v (q_pick1 rfl rfl rfl) rfl ?_ | refine r_v (q_pick0 rfl rfl rfl) rfl ?_ | refine r_v (q_pick1 rfl (by assumption) rfl) rfl ?_ | refine r_v (q_pick0 rfl (by assumption) rfl) rfl ?_ | refine r_v (q_pickB rfl rfl rfl) rfl ?_); refine r_v (q_moveB rfl) rfl ?_; (first | refine r_gd rfl rfl ?_ | refine r_gn rfl rfl rfl ?_ | refine r_gu rfl rfl ?_ | refine r_gd rfl (by assumption) ?_ | refine r_gn rfl (by assumption) rfl ?_); refine r_v (q_moveP rfl) rfl ?_; (first | refine r_gd rfl rfl ?_ | refine r_gn rfl rfl rfl ?_ | refine r_gu rfl rfl ?_ | refine r_gd rfl (by assumption) ?_ | refine r_gn rfl (by assumption) rfl ?_)
 refine r_c rfl (x_call rfl (dec_Bad (h.f 4)) ?_)
 rintro _ w ⟨rfl, h⟩
 (first | refine r_gd rfl rfl ?_ | refine r_gn rfl rfl rfl ?_ | refine r_gu rfl rfl ?_ | refine r_gd rfl (by assumption) ?_ | refine r_gn rfl (by assumption) rfl ?_); refine r_v (q_not rfl) rfl ?_; (first | refine r_v (q_pick1 rfl rfl rfl) rfl ?_ | refine r_v (q_pick0 rfl rfl rfl) rfl ?_ | refine r_v (q_pick1 rfl (by assumption) rfl) rfl ?_ | refine r_v (q_pick0 rfl (by assumption) rfl) rfl ?_ | refine r_v (q_pickB rfl rfl rfl) rfl ?_); refine r_v (q_assignB rfl) rfl ?_
 refine r_nil ?_
 exact c_ret (bq1 ⟨rfl, h.drop.drop.drop.drop.drop.drop.drop.drop.drop.drop.drop.drop⟩)
end
end Go.Proofs.YtjjacchnalemaaaGreatDoor

namespace Go.Hw
section
variable {P : Program} {n : Nat} {ops : Array Oper} {Q : Post} {rest : List Oper} {e : Env} {w w0 : World} {l : List HProp}
theorem laidS_one {sz : Nat} {z : List Value} {v : Value} (hz : z.length = sz) (hv : (vcells v).length = sz) : laidS sz (zrow z 1) [(0, v)] = some (vcells v) := by
 subst hz
 have : Nat.ble z.length z.length = true := by rw [Nat.ble_eq]; exact Nat.le_refl _
 simp [laidS, zrow, hv, this]
theorem r_app1 {c1 c2 : Nat} {t T ty1 ty2 : TypeId} [ht : Und P t (.slice T)] {z : List Value} {agg : Bool} {bytes : Nat} [hi : Inf P T z agg bytes] {x y : Operand} {pos1 pos2 : String} {af1 af2 : Array Edge} {a : Option Addr} {m m3 c sz : Nat} {xs zs : List Value} {v : Value}
  (h : St w0 (Own T sz a m c xs :: l) w) (hx : ev e x = v) (hy : ev e y = .slice a m c) (hne : (match y with | .tmp k => Nat.beq k c1 | _ => true) = false) (hv : Nat.beq (vcells v).length sz = true) (h1 : (vcells v).all (·.oneCell') = true) (hm : m + 1 = m3) (hzs : xs ++ vcells v = zs) (hb : m3 * bytes ≤ 140737488355328) (h63 : m3 ≤ 9223372036854775807) (hz : Nat.beq z.length sz = true) (hs : Nat.ble 1 sz = true) (hs2 : Nat.ble sz 16777216 = true)
  (hd1 : Nat.blt c1 n = true) (hd2 : Nat.blt c2 n = true)
  (k : ∀ b a' c' w', (a' = none → False) → St w0 (Own T sz a' m3 c' zs :: l) w' → Rn P n ops Q rest (upd (upd e c1 (.slice (some ⟨b, 0, none⟩) 1 1)) c2 (.slice a' m3 c')) w') :
  Rn P n ops Q (⟨some c1, .buildSlice t 1 [(0, x)].toArray, ty1, pos1, af1, none⟩ :: ⟨some c2, .call ⟨.builtin .append, [y, .tmp c1].toArray, [t, t].toArray⟩, ty2, pos2, af2, none⟩ :: rest) e w := by
 have hz' : z.length = sz := Nat.eq_of_beq_eq_true hz
 have hv' : (vcells v).length = sz := Nat.eq_of_beq_eq_true hv
 have hs' := Nat.le_of_ble_eq_true hs
 have hs2' := Nat.le_of_ble_eq_true hs2
 subst hx
 refine r_c hd1 (x_bslice (r := vcells (ev e x)) h (by simpa [hz'] using laidS_one (sz := z.length) rfl (by rw [hv', hz'])) (by rw [Nat.ble_eq]; omega) (by rw [Nat.ble_eq]; omega) fun b w h => ?_)
 have hy2 : ev (upd e c1 (.slice (some ⟨b, 0, none⟩) 1 1)) y = .slice a m c := by
  cases y with
  | tmp k =>
   rw [← hy]
   refine upd_other ?_
   rintro rfl
   simp at hne
  | _ => cases hne
 refine r_c hd2 (x_append' (ys := vcells (ev e x)) (zs := zs) (m3 := m3) (h.f 1) hy2 (show ev _ (.tmp c1) = _ from upd_same _ _ _) ⟨by omega, .inr ⟨b, 0, rfl, at_of (h.b 0 rfl) (by simp)⟩⟩ (by simpa using h1) hm hzs hb h63 hz' fun a' c' w hn h => ?_)
 refine k b a' c' w (fun ha => ?_) (h.f 1).drop
 subst ha
 obtain ⟨_, _, ⟨_, _, h5, _⟩ | ⟨g, _, h5, _⟩⟩ := h.own_cases
 ·omega
 ·cases h5
end
end Go.Hw
namespace Go.Hw
section
variable {P : Program} {ops : Array Oper} {e : Env} {w : World} {d : Option Nat} {ty : TypeId} {pos : String} {af : Array Edge} {g : Option (Nat × Bool)}
theorem q_abuild {t T m : Nat} {z z2 : List Value} {agg : Bool} {bytes bytes2 : Nat} [ht : Und P t (.array m T)] [hi : Inf P t z true bytes] [he : Inf P T z2 agg bytes2] {parts : List (Nat × Operand)} {r : List Value}
  (hl : laidS z2.length z (parts.map fun (i, x) => (i, ev e x)) = some r) : Qv P e ⟨d, .build t parts.toArray, ty, pos, af, g⟩ w (.agg r.toArray) := by
 unfold Qv
 have h2 := hi.zeroValue w
 have h3 := he.sizeOf w
 have hf := fill_laidS _ _ _ _ hl
 simp only [if_true] at h2
 simp only [execOp, Instr.build, Sem.run_bind, h2, run_underlying ht.h, Result.andThen_ok, h3, Value.cells, List.map_toArray]
 simp only at hf
 rw [hf]
 rfl
end
end Go.Hw
namespace Go.Hw
def ordF : Nat → List Nat → List HProp → List HProp
 | 0, _, l => l
 | _ + 1, [], l => l
 | n + 1, k :: ks, l => match l[k]? with
  | none => l
  | some P => P :: ordF n (ks.map fun j => bif Nat.blt k j then j - 1 else j) (l.eraseIdx k)
theorem all_ordF : ∀ (n : Nat) (ks : List Nat) (l : List HProp), all (ordF n ks l) = all l
 | 0, _, _ => rfl
 | _ + 1, [], _ => rfl
 | n + 1, k :: ks, l => by
  rw [ordF]
  split
  ·rfl
  ·rename_i P hP
   rw [all_star, all_ordF n, ← all_star, ← bring_of k l hP, all_bring]
def dropN : Nat → List HProp → List HProp
 | 0, l => l
 | n + 1, _ :: l => dropN n l
 | _ + 1, [] => []
section
variable {w w0 : World} {l : List HProp}
theorem St.o (ks : List Nat) (h : St w0 l w) : St w0 (ordF ks.length ks l) w := h.of_all (all_ordF _ _ _).symm
theorem St.dropN : ∀ {n : Nat} {l : List HProp}, St w0 l w → St w0 (dropN n l) w
 | 0, _, h => h
 | _ + 1, [], h => h
 | n + 1, _ :: l, h => St.dropN (n := n) (l := l) h.drop
theorem St.x (ks : List Nat) (h : St w0 l w) : St w0 (Hw.dropN ks.length (ordF ks.length ks l)) w := (h.o ks).dropN
end
end Go.Hw
namespace Go.Hw
section
variable {P : Program} {e : Env} {w : World} {K : Env → World → Prop} {d : Option Nat} {ty : TypeId} {pos : String} {af : Array Edge} {g : Option (Nat × Bool)}
theorem q_moveF {x : Operand} {f : FuncId} (hx : ev e x = .func (.func f) #[] #[]) : Qv P e ⟨d, .move x, ty, pos, af, g⟩ w (.func (.func f) #[] #[]) := by
 unfold Qv; simp [execOp, hx]
theorem q_assignF {x : Operand} {f : FuncId} (hx : ev e x = .func (.func f) #[] #[]) : Qv P e ⟨d, .assign x, ty, pos, af, g⟩ w (.func (.func f) #[] #[]) := by
 unfold Qv; simp [execOp, hx]
theorem x_callv {c : Option Nat} {f : FuncId} {y : Operand} {xs : List Operand} {tys : Array TypeId} {vs : List Value} {φ : Value → World → Prop} [hf : FnB P f] (hy : ev e y = .func (.func f) #[] #[]) (hv : xs.map (ev e) = vs) (h : Ret P f vs w φ) (k : ∀ v w', φ v w' → K (updO e c v) w') :
  Ex P ⟨c, .call ⟨.value y, xs.toArray, tys⟩, ty, pos, af, g⟩ e w K := by
 obtain ⟨fn, h1, h2, h3⟩ := hf.h
 have hb : fn.body.isNone = false := h3
 have hrun : (execOp (ev e) ⟨c, .call ⟨.value y, xs.toArray, tys⟩, ty, pos, af, g⟩).run P w = .ok (.enter f vs.toArray) w := by
  have hp : ∀ w, (program).run P w = .ok P w := fun _ => rfl
  simp only [execOp, resolve, hy, Deferred.ofValue, invoke, callFunc, Sem.run_bind, Sem.run_pure, Result.andThen_ok, hp, h1, h2, hb, List.map_toArray, hv]
  simp
 unfold Ret at h
 unfold Ex
 rw [hrun]
 exact Calls.mono h fun _ _ ⟨v, a, b⟩ => ⟨v, a, k _ _ b⟩
end
end Go.Hw

namespace Go.Hw
def b2u (b : Bool) : UInt8 := UInt8.ofNat b.toNat
def b2us (l : List Bool) : List UInt8 := l.map b2u
theorem b2us_len (l : List Bool) : (b2us l).length = l.length := by simp [b2us]
theorem b2u_nat (b : Bool) : (b2u b).toNat = b.toNat := by cases b <;> rfl
theorem b2us_get {l : List Bool} {j : Nat} {b : Bool} (h : l[j]? = some b) : (b2us l)[j]? = some (b2u b) := by simp [b2us, h]
theorem shl_i64 {a : Int} {m : Nat} (hm : m ≤ 64) (h : I64 (a * 2 ^ m)) : IntKind.i64.wrap (a * 2 ^ (min ((m : Int)).toNat IntKind.i64.bits)) = a * 2 ^ m := by
 rw [show min ((m : Int)).toNat IntKind.i64.bits = m by simp [IntKind.bits]; omega]
 exact wrap64 h.1 h.2
theorem two_pow_int (m : Nat) : ((2 : Int) ^ m) = ((2 ^ m : Nat) : Int) := by simp
theorem lead31 (x : Nat) : (winOf x).lead = min (64 - len64 x) 31 := rfl
end Go.Hw
namespace Go.Proofs.YtjjacchnalemaaaGreatDoor
open Go.Hw
set_option maxHeartbeats 4000000
set_option maxRecDepth 100000
abbrev RwPt (p : Nat) (a : Option Addr) (n c : Nat) : HProp := pt p (.cells [.slice a n c].toArray 70 (0, 0))
def IsRW (p : Nat) (bs : List Bool) : HProp := ex fun q : Option Addr × Nat => all [RwPt p q.1 bs.length q.2, Own 5 1 q.1 bs.length q.2 (bytesV (b2us bs))]
section
variable {w0 w : World} {l : List HProp} {p : Nat} {bs : List Bool}
theorem St.rw : St w0 (IsRW p bs :: l) w ↔ ∃ a c, St w0 (RwPt p a bs.length c :: Own 5 1 a bs.length c (bytesV (b2us bs)) :: l) w := by
 unfold IsRW
 rw [St.ex]
 exact ⟨fun ⟨q, h⟩ => ⟨q.1, q.2, h.join⟩, fun ⟨a, c, h⟩ => ⟨(a, c), St.fold [_, _] h⟩⟩
theorem St.rw_new (h : St w0 (pt p (.cells [.slice none 0 0].toArray 70 (0, 0)) :: l) w) : St w0 (IsRW p [] :: l) w := St.rw.2 ⟨none, 0, (St.ownNil 5 1 h).f 1⟩

theorem rw_Put (v : Nat) (n : Int) (hv : v < 18446744073709551616) (hlen : bs.length ≤ 70368744177664) (h : St w0 (IsRW p bs :: l) w) :
  Ret Tryz.prog 79 [.pointer (some ⟨p, 0, none⟩), .int .u64 v, .int .i64 n] w fun v' w' => v' = .tuple #[] ∧ St w0 (IsRW p (bs ++ bitsOf v (heldN n)) :: l) w' := by
 refine enter Tryz.func79 rfl Tryz.results79 Tryz.ntmps79 rfl ?_
 have hle := heldN_le n
 refine c_seq (c_region ?_)
 refine r_v (q_moveI rfl) rfl ?_; refine r_v (q_max rfl rfl) rfl ?_; refine r_v (q_min rfl rfl) rfl ?_
 refine r_is (.int .i64 (heldN n)) (by unfold heldN; congr 1; omega) ?_
 refine r_v (q_sub rfl rfl) rfl ?_
 refine r_is (.int .i64 ((heldN n : Int) - 1)) (by rw [wrap64 (by omega) (by omega)]) ?_
 refine r_v (q_assignI rfl) rfl ?_
 refine r_nil ?_
 refine c_block ?_
 refine c_loop (Γ := Nat × List Bool) (fun k => [(0, .pointer (some ⟨p, 0, none⟩)), (1, .int .u64 v), (6, .int .i64 ((k.1 : Int) - 1))])
  (fun k w => k.1 ≤ 64 ∧ k.2 ++ bitsOf v k.1 = bs ++ bitsOf v (heldN n) ∧ St w0 (IsRW p k.2 :: l) w) (fun k => k.1) (heldN n, bs) ⟨rfl, rfl, rfl, trivial⟩ ⟨hle, rfl, h⟩ ?_
 clear h
 rintro ⟨k, cur⟩ w e ⟨hk, hcur, h⟩
 dsimp only at hk hcur h ⊢
 have hcl : cur.length + k = bs.length + heldN n := by
  have := congrArg List.length hcur
  simpa [bitsOf_len] using this
 refine c_seq (c_seq (c_region ?_))
 refine r_v (q_moveI rfl) rfl ?_; refine r_v (q_geq rfl rfl) rfl ?_
 cases k with
 | zero =>
  refine r_is (.bool false) (by simp) ?_
  refine r_nil (c_false rfl ?_)
  refine c_exit ?_
  rw [← hcur, bitsOf, List.append_nil]
  exact (show (packv [] : Value) = .tuple #[] ∧ _ from ⟨rfl, h⟩)
 | succ k =>
 refine r_is (.bool true) (by simp <;> omega) ?_
 refine r_nil (c_true rfl (c_skip ?_))
 obtain ⟨a, c, h⟩ := St.rw.1 h
 have hk64 : k < 64 := by omega
 refine c_seq (c_block ?_)
 refine c_region ?_
 refine r_v (q_moveP rfl) rfl ?_; refine r_v (q_moveP rfl) rfl ?_; refine r_v (q_nil rfl) rfl ?_; refine r_v (q_fa rfl) rfl ?_; refine r_v (q_load rfl (h.b 0) rfl) rfl ?_; refine r_v (q_moveI rfl) rfl ?_; refine r_v (q_moveI rfl) rfl ?_; refine r_v (q_conv rfl) rfl ?_
 refine r_is (.int .u64 (k : Int)) (by rw [show (((k + 1 : Nat) : Int) - 1) = (k : Int) by omega, wrap_u64, Nat.mod_eq_of_lt (by omega)]) ?_
 refine r_v (q_is (v' := .int .u64 ((v / 2 ^ k : Nat) : Int)) (q_shr rfl rfl (by omega)) (congrArg (Value.int .u64) (fdiv_nat v k _ (Nat.le_of_lt hk64)))) rfl ?_
 refine r_v (q_is (v' := .int .u64 (((v.testBit k).toNat : Nat) : Int)) (q_and rfl rfl) (by
  rw [show bitOp .and .u64 ((v / 2 ^ k : Nat) : Int) 1 = ((v / 2 ^ k &&& 1 : Nat) : Int) from (bit_u64 (Nat.lt_of_le_of_lt (Nat.div_le_self _ _) hv) (by decide)).1, Nat.and_one_is_mod, testBit_toNat])) rfl ?_
 refine r_v (q_is (v' := .int .u8 ((b2u (v.testBit k)).toNat : Int)) (q_conv rfl) (by rw [wrap_u8, b2u_nat]; cases v.testBit k <;> rfl)) rfl ?_
 refine r_app1 (v := .int .u8 (b2u (v.testBit k)).toNat) (m3 := cur.length + 1) (zs := bytesV (b2us (cur ++ [v.testBit k]))) (h.f 1) rfl rfl rfl rfl rfl rfl (by simp [b2us, bytesV, vcells]) (by omega) (by omega) rfl rfl rfl rfl rfl fun b a' c' w _ h => ?_
 refine r_v (q_nil rfl) rfl ?_; refine r_v (q_fa rfl) rfl ?_
 refine r_c rfl (x_store 1 h rfl (show _ = Value.slice _ _ _ from rfl) rfl rfl rfl rfl fun w h => ?_)
 refine r_nil ?_
 refine c_region ?_
 refine r_v (q_moveI rfl) rfl ?_; refine r_v (q_sub rfl rfl) rfl ?_
 refine r_is (.int .i64 ((k : Int) - 1)) (by rw [wrap64 (by omega) (by omega)]; congr 1; omega) ?_
 refine r_v (q_assignI rfl) rfl ?_
 refine r_nil ⟨(k, cur ++ [v.testBit k]), ⟨rfl, rfl, rfl, trivial⟩, ⟨by dsimp only; omega, ?_, St.rw.2 ⟨a', c', ?_⟩⟩, by dsimp only; omega⟩
 ·rw [← hcur, List.append_assoc]; rfl
 ·rw [List.length_append]
  exact h.f 1

theorem rw_Bytes (hn : bs.length ≤ 70368744177664) (h : St w0 (IsRW p bs :: l) w) :
  Ret Tryz.prog 41 [.pointer (some ⟨p, 0, none⟩)] w fun v w' => ∃ a c, v = .slice a (pack bs).length c ∧ St w0 (OwnB a c (pack bs) :: IsRW p bs :: l) w' := by
 obtain ⟨ba, bc, h⟩ := St.rw.1 h
 refine enter Tryz.func41 rfl Tryz.results41 Tryz.ntmps41 rfl ?_
 refine c_seq (c_region ?_)
 refine r_v (q_assignS rfl) rfl ?_
 refine r_nil ?_
 refine c_seq (c_region ?_)
 refine r_v (q_assignS rfl) rfl ?_
 refine r_nil ?_
 refine c_seq (c_seq (c_region ?_))
 refine r_v (q_assignI rfl) rfl ?_
 refine r_nil ?_
 refine c_block ?_
 refine c_loop (Γ := Nat × Option Addr × Nat) (fun k => [(0, .pointer (some ⟨p, 0, none⟩)), (3, .slice k.2.1 ((k.1 + 7) / 8) k.2.2), (4, .int .i64 k.1)])
  (fun k w => k.1 ≤ bs.length ∧ St w0 (Own 5 1 k.2.1 ((k.1 + 7) / 8) k.2.2 (bytesV (pack (bs.take k.1))) :: RwPt p ba bs.length bc :: Own 5 1 ba bs.length bc (bytesV (b2us bs)) :: l) w) (fun k => bs.length - k.1) (0, none, 0) ⟨rfl, rfl, rfl, trivial⟩ ⟨Nat.zero_le _, by simpa [pack, bytesV] using St.ownNil 5 1 h⟩ ?_
 clear h
 rintro ⟨i, oa, oc⟩ w e ⟨hi, h⟩
 dsimp only at hi h ⊢
 refine c_seq (c_seq (c_region ?_))
 refine r_v (q_moveI rfl) rfl ?_; refine r_v (q_moveP rfl) rfl ?_; refine r_v (q_nil rfl) rfl ?_; refine r_v (q_fa rfl) rfl ?_; refine r_v (q_load rfl (h.b 1) rfl) rfl ?_; refine r_v (q_len rfl) rfl ?_; refine r_v (q_lss rfl rfl) rfl ?_
 refine r_nil ?_
 refine c_cond (decide ((i : Int) < (bs.length : Int))) rfl (fun hc => ?_) (fun hc => ?_)
 ·
  have hlt : i < bs.length := by simp at hc; omega
  have hg := List.getElem?_eq_getElem hlt
  generalize bs[i] = x at hg
  have htl : (bs.take i).length = i := by rw [List.length_take]; omega
  have htk : bs.take (i + 1) = bs.take i ++ [x] := by rw [List.take_add_one, hg]; rfl
  refine c_skip ?_
  refine c_seq (c_block ?_)
  refine c_cut (Γ := Option Addr × Nat) (fun q => [(0, .pointer (some ⟨p, 0, none⟩)), (3, .slice q.1 (i / 8 + 1) q.2), (4, .int .i64 i)])
   (fun q w => St w0 (Own 5 1 q.1 (i / 8 + 1) q.2 (bytesV (padz (bs.take i))) :: RwPt p ba bs.length bc :: Own 5 1 ba bs.length bc (bytesV (b2us bs)) :: l) w) ?_ ?_
  ·refine c_seq (c_region ?_)
   refine r_v (q_moveI rfl) rfl ?_
   refine r_v (q_is (v' := .int .i64 ((i % 8 : Nat) : Int)) (q_rem rfl rfl (by decide)) (congrArg (Value.int .i64) (tmod_nat _ _))) rfl ?_
   refine r_v (q_eql rfl rfl) rfl ?_
   by_cases h8 : i % 8 = 0
   ·refine r_is (.bool true) (by simp [h8]) ?_
    refine r_nil (c_true rfl ?_)
    refine c_region ?_
    refine r_v (q_moveS rfl) rfl ?_
    refine r_app1 (v := .int .u8 0) (m3 := i / 8 + 1) (zs := bytesV (padz (bs.take i))) h rfl rfl rfl rfl rfl (by omega) (by rw [padz_even (by rw [htl]; exact h8)]; simp [bytesV, vcells]) (by omega) (by omega) rfl rfl rfl rfl rfl fun b a' c' w _ h => ?_
    refine r_v (q_assignS rfl) rfl ?_
    exact r_nil ⟨(a', c'), ⟨rfl, rfl, rfl, trivial⟩, h⟩
   ·refine r_is (.bool false) (by simp; omega) ?_
    refine r_nil (c_false rfl (c_skip ⟨(oa, oc), ⟨rfl, ?_, rfl, trivial⟩, ?_⟩))
    ·show Value.slice oa ((i + 7) / 8) oc = _
     rw [show (i + 7) / 8 = i / 8 + 1 by omega]
    ·rw [padz_odd (by rw [htl]; exact h8)]
     have e1 : i / 8 + 1 = (i + 7) / 8 := by omega
     rw [e1]
     exact h
  clear h
  rintro ⟨oa, oc⟩ w e h
  dsimp only at h ⊢
  obtain ⟨g, rfl⟩ := h.own_some (by omega)
  obtain ⟨g2, rfl⟩ := (h.f 2).own_some (by omega)
  have hx2 : (b2u x).toNat ≤ 1 := by cases x <;> decide
  have hx3 : (b2u x).toNat * 2 ^ (7 - i % 8) < 256 := by
   have : 2 ^ (7 - i % 8) ≤ 2 ^ 7 := Nat.pow_le_pow_right (by decide) (by omega)
   have := Nat.mul_le_mul hx2 this
   omega
  have hpz : (padz (bs.take i))[i / 8]? = some (byteAt (bs.take i) (i / 8)) := by have := padz_at (bs.take i); rwa [htl] at this
  have hq8 : Value.int .i64 (IntKind.i64.wrap ((i : Int).tdiv 8)) = .int .i64 ((i / 8 : Nat) : Int) := by rw [show (i : Int).tdiv 8 = ((i / 8 : Nat) : Int) from tdiv_nat _ 8, wrap64 (by omega) (by omega)]
  refine c_any (some 22) (fun w => St w0 _ w) (by kernel_rfl) (by kernel_rfl) h.drew fun w h => ?_
  refine cur_pure rfl rfl rfl rfl (fun _ => h) (fun _ => flt_v rfl (q_moveS rfl)) ?_; refine cur_pure rfl rfl rfl rfl (fun _ => h) (fun _ => flt_v rfl (q_moveI rfl)) ?_
  refine cur_pure rfl rfl rfl rfl (fun _ => h) (fun _ => flt_v rfl (q_is (v' := .int .i64 ((i / 8 : Nat) : Int)) (q_quo rfl rfl (by decide)) hq8)) ?_
  refine cur_pure rfl rfl rfl rfl (fun _ => h) (fun _ => flt_v rfl (q_moveS rfl)) ?_; refine cur_pure rfl rfl rfl rfl (fun _ => h) (fun _ => flt_v rfl (q_moveI rfl)) ?_
  refine cur_pure rfl rfl rfl rfl (fun _ => h) (fun _ => flt_v rfl (q_is (v' := .int .i64 ((i / 8 : Nat) : Int)) (q_quo rfl rfl (by decide)) hq8)) ?_
  refine cur_pure rfl rfl rfl rfl (fun _ => h) (fun _ => flt_v rfl (q_idx (o' := i / 8) rfl rfl rfl (by omega) (by simp))) ?_
  refine cur_float rfl rfl rfl rfl h (fun w h => flt_v rfl (q_loadc (v := .int .u8 (byteAt (bs.take i) (i / 8)).toNat) rfl (by have := h.own_rd.cell (bytesV_get hpz); simpa using this))) ?_
  refine cur_pure rfl rfl rfl rfl (fun _ => h) (fun _ => flt_v rfl (q_moveP rfl)) ?_; refine cur_pure rfl rfl rfl rfl (fun _ => h) (fun _ => flt_v rfl (q_nil rfl)) ?_; refine cur_pure rfl rfl rfl rfl (fun _ => h) (fun _ => flt_v rfl (q_fa rfl)) ?_; refine cur_float rfl rfl rfl rfl h (fun _ h => flt_v rfl (q_load rfl (h.b 1) rfl)) ?_; refine cur_pure rfl rfl rfl rfl (fun _ => h) (fun _ => flt_v rfl (q_moveI rfl)) ?_
  refine cur_pure rfl rfl rfl rfl (fun _ => h) (fun _ => flt_v rfl (q_idx (o' := i) rfl rfl rfl hlt (by simp))) ?_
  refine cur_float rfl rfl rfl rfl h (fun w h => flt_v rfl (q_loadc (v := .int .u8 (b2u x).toNat) rfl (by have := (h.f 2).own_rd.cell (bytesV_get (b2us_get hg)); simpa using this))) ?_
  refine cur_pure rfl rfl rfl rfl (fun _ => h) (fun _ => flt_v rfl (q_moveI rfl)) ?_
  refine cur_pure rfl rfl rfl rfl (fun _ => h) (fun _ => flt_v rfl (q_is (v' := .int .i64 ((i % 8 : Nat) : Int)) (q_rem rfl rfl (by decide)) (congrArg (Value.int .i64) (tmod_nat _ 8)))) ?_
  refine cur_pure rfl rfl rfl rfl (fun _ => h) (fun _ => flt_v rfl (q_is (v' := .int .i64 ((7 - i % 8 : Nat) : Int)) (q_sub rfl rfl) (by rw [wrap64 (by omega) (by omega)]; congr 1; omega))) ?_
  refine cur_pure rfl rfl rfl rfl (fun _ => h) (fun _ => flt_v rfl (q_is (v' := .int .u64 ((7 - i % 8 : Nat) : Int)) (q_conv rfl) (by rw [wrap_u64, Nat.mod_eq_of_lt (by omega)]))) ?_
  refine cur_pure rfl rfl rfl rfl (fun _ => h) (fun _ => flt_v rfl (q_is (v' := .int .u8 (((b2u x).toNat * 2 ^ (7 - i % 8) : Nat) : Int)) (q_shl rfl rfl (by omega)) (by rw [shl_u8 _ _ (by omega), Nat.mod_eq_of_lt hx3]))) ?_
  refine cur_pure rfl rfl rfl rfl (fun _ => h) (fun _ => flt_v rfl (q_is (v' := .int .u8 ((byteAt (bs.take i) (i / 8) ||| UInt8.ofNat (x.toNat * 2 ^ (7 - i % 8))).toNat : Int)) (q_or rfl rfl) (by
   rw [← or_bytes, UInt8.toNat_ofNat', b2u_nat] ; rw [b2u_nat] at hx3; rw [Nat.mod_eq_of_lt hx3]))) ?_
  refine cur_pure rfl rfl rfl rfl (fun _ => h) (fun _ => flt_v rfl (q_idx (o' := i / 8) rfl rfl rfl (by omega) (by simp))) ?_
  refine cur_skip ?_
  refine cur_last 22 rfl rfl rfl ?_
  refine x_ownset (v := .int .u8 ((byteAt (bs.take i) (i / 8) ||| UInt8.ofNat (x.toNat * 2 ^ (7 - i % 8))).toNat : Int)) h rfl rfl (by omega) rfl fun w h => ?_
  have hps := pack_snoc (bs.take i) x
  rw [htl] at hps
  rw [bytesV_set, ← hps, ← htk] at h
  refine c_region ?_
  refine r_v (q_moveI rfl) rfl ?_; refine r_v (q_add rfl rfl) rfl ?_
  refine r_is (.int .i64 ((i + 1 : Nat) : Int)) (by rw [wrap64 (by omega) (by omega)]; rfl) ?_
  refine r_v (q_assignI rfl) rfl ?_
  have e1 : i / 8 + 1 = (i + 1 + 7) / 8 := by omega
  rw [e1] at h
  refine r_nil ⟨(i + 1, some ⟨g, 0, none⟩, oc), ⟨rfl, ?_, rfl, trivial⟩, ⟨by dsimp only; omega, h⟩, by dsimp only; omega⟩
  show Value.slice _ (i / 8 + 1) _ = _
  rw [e1]
 ·have hin : i = bs.length := by simp at hc; omega
  subst hin
  rw [List.take_length] at h
  refine c_exit ?_
  refine c_seq (c_region ?_)
  refine r_v (q_moveS rfl) rfl ?_; refine r_v (q_assignS rfl) rfl ?_
  refine r_nil ?_
  refine c_ret (bq1 ⟨oa, oc, ?_, ?_⟩)
  ·show Value.slice oa ((bs.length + 7) / 8) oc = _
   rw [pack_len]
  ·rw [← pack_len] at h
   exact (St.rw.2 ⟨ba, bc, (h.f 2).f 2⟩ |>.f 1)
end
end Go.Proofs.YtjjacchnalemaaaGreatDoor

namespace Go.Hw
theorem le_lead {x n : Nat} : x / 2 ^ n = 0 ↔ len64 x ≤ n := by
 rw [len64_le, Nat.div_eq_zero_iff]
 have := Nat.two_pow_pos n
 omega
theorem tz_even {x n : Nat} (h : n < tz x) : x / 2 ^ n % 2 = 0 := by
 have h1 := tz_dvd (x := x) (t := n + 1) h
 have h2 : x / 2 ^ n = x / 2 ^ (n + 1) * 2 := by
  conv => lhs; rw [← h1]
  rw [Nat.pow_succ, Nat.mul_comm (2 ^ n) 2, ← Nat.mul_assoc, Nat.mul_div_cancel _ (Nat.two_pow_pos n), Nat.mul_comm 2 (2 ^ n), ← Nat.pow_succ]
 omega
end Go.Hw
namespace Go.Proofs.YtjjacchnalemaaaGreatDoor
open Go.Hw
set_option maxHeartbeats 4000000
set_option maxRecDepth 100000
section
variable {w0 w : World} {l : List HProp}
theorem ref1_Zig {n : Int} (hn : I64 n) (h : St w0 l w) : Ret Tryz.prog 54 [.int .i64 n] w fun v w' => v = .int .u64 (zigT n : Nat) ∧ St w0 l w' := by
 obtain ⟨h1, h2⟩ := hn
 refine enter Tryz.func54 rfl Tryz.results54 Tryz.ntmps54 rfl ?_
 refine c_seq (c_region ?_)
 refine r_v (q_assignI rfl) rfl ?_
 refine r_nil ?_
 refine c_seq (c_seq (c_region ?_))
 refine r_v (q_moveI rfl) rfl ?_; refine r_v (q_lss rfl rfl) rfl ?_
 refine r_nil ?_
 refine c_cond (decide (n < 0)) rfl (fun hc => ?_) (fun hc => ?_)
 ·
  have hc : n < 0 := by simpa using hc
  refine c_seq (c_region ?_)
  refine r_v (q_moveI rfl) rfl ?_; refine r_v (q_add rfl rfl) rfl ?_
  refine r_is (.int .i64 (n + 1)) (by rw [wrap64 (by omega) (by omega)]) ?_
  refine r_v (q_neg rfl) rfl ?_
  refine r_is (.int .i64 (-(n + 1))) (by rw [wrap64 (by omega) (by omega)]; congr 1; omega) ?_
  refine r_v (q_conv rfl) rfl ?_
  refine r_is (.int .u64 (((-(n + 1)).toNat : Nat) : Int)) (by rw [wrap_us]; unfold us; congr 1; omega) ?_
  refine r_v (q_mul rfl rfl) rfl ?_
  refine r_is (.int .u64 ((2 * (-(n + 1)).toNat : Nat) : Int)) (by rw [wrap_us]; unfold us; congr 1; omega) ?_
  refine r_v (q_add rfl rfl) rfl ?_
  refine r_is (.int .u64 ((zigT n : Nat) : Int)) (by rw [wrap_us]; unfold us zigT zigU us; congr 1; split <;> omega) ?_
  refine r_v (q_assignI rfl) rfl ?_
  refine r_nil ?_
  exact c_ret (bq1 ⟨rfl, h⟩)
 ·
  have hc : 0 ≤ n := by simpa using hc
  refine c_skip ?_
  refine c_seq (c_region ?_)
  refine r_v (q_moveI rfl) rfl ?_; refine r_v (q_conv rfl) rfl ?_
  refine r_is (.int .u64 ((n.toNat : Nat) : Int)) (by rw [wrap_us]; unfold us; congr 1; omega) ?_
  refine r_v (q_mul rfl rfl) rfl ?_
  refine r_is (.int .u64 ((zigT n : Nat) : Int)) (by rw [wrap_us]; unfold us zigT zigU us; congr 1; split <;> omega) ?_
  refine r_v (q_assignI rfl) rfl ?_
  refine r_nil ?_
  exact c_ret (bq1 ⟨rfl, h⟩)
theorem ref1_Put {sl : Option Addr} {c : Nat} {bs : List UInt8} (u : Nat) (hu : u < 18446744073709551616) (h : St w0 l w) (hr : ∀ w', St w0 l w' → Rd w' 1 sl bs.length (bytesV bs)) (hn : bs.length ≤ 70368744177664) :
  Ret Tryz.prog 42 [.slice sl bs.length c, .int .u64 u] w fun v w' => ∃ a c', v = .slice a (bs ++ vput u).length c' ∧ St w0 (OwnB a c' (bs ++ vput u) :: l) w' := by
 refine enter Tryz.func42 rfl Tryz.results42 Tryz.ntmps42 rfl ?_
 refine c_seq (c_region ?_)
 refine r_v (q_assignS rfl) rfl ?_
 refine r_nil ?_
 refine c_seq (c_region ?_)
 refine r_c rfl (x_bslice (r := []) h rfl rfl rfl fun b w h => ?_)
 refine r_v (q_moveS rfl) rfl ?_
 have h1 : St w0 (Own 5 1 (some ⟨b, 0, none⟩) 0 0 [] :: l) w := St.own_mk (cur := []) h rfl rfl (Nat.le_refl _)
 refine r_c rfl (x_append' (zs := bytesV bs) (m3 := bs.length) h1 rfl rfl (hr w h1.drop) (bytesV_one _) (by omega) (List.nil_append _) (by omega) (by omega) rfl fun a c1 w _ h => ?_)
 refine r_v (q_assignS rfl) rfl ?_
 refine r_nil ?_
 refine c_cut (Γ := Nat × List UInt8 × Option Addr × Nat) (fun k => [(1, .int .u64 k.1), (5, .slice k.2.2.1 k.2.1.length k.2.2.2)])
  (fun k w => k.1 < 128 ∧ k.2.1 ++ vput k.1 = bs ++ vput u ∧ St w0 (OwnB k.2.2.1 k.2.2.2 k.2.1 :: l) w) ?_ ?_
 ·refine c_block ?_
  refine c_loop (Γ := Nat × List UInt8 × Option Addr × Nat) (fun k => [(1, .int .u64 k.1), (5, .slice k.2.2.1 k.2.1.length k.2.2.2)])
   (fun k w => k.1 < 18446744073709551616 ∧ k.2.1 ++ vput k.1 = bs ++ vput u ∧ St w0 (OwnB k.2.2.1 k.2.2.2 k.2.1 :: l) w) (fun k => k.1) (u, bs, a, c1) ⟨rfl, rfl, trivial⟩ ⟨hu, rfl, h⟩ ?_
  clear h hu
  rintro ⟨u', out, a, c⟩ w e ⟨hu, he, h⟩
  dsimp only at hu he h ⊢
  have hlen : out.length ≤ bs.length + 10 := by
   have h1 := congrArg List.length he
   have h2 := vput_len u
   have h3 := vput_len u'
   simp only [List.length_append] at h1
   omega
  refine c_seq (c_seq (c_region ?_))
  refine r_v (q_moveI rfl) rfl ?_; refine r_v (q_gtr rfl rfl) rfl ?_
  refine r_nil (c_cond (decide ((u' : Int) > 127)) rfl (fun hc => ?_) (fun hc => ?_))
  ·
   have hge : 128 ≤ u' := by simp at hc; omega
   refine c_skip ?_
   refine c_block ?_
   refine c_seq (c_region ?_)
   refine r_v (q_moveS rfl) rfl ?_; refine r_v (q_moveI rfl) rfl ?_
   refine r_v (q_is (v' := .int .u64 ((u' % 128 : Nat) : Int)) (q_and rfl rfl) (by rw [show bitOp .and .u64 (u' : Int) 127 = ((u' &&& 127 : Nat) : Int) from (bit_u64 hu (by decide)).1, show u' &&& 127 = u' % 128 from and_low u' 7])) rfl ?_
   refine r_v (q_is (v' := .int .u64 ((u' % 128 + 128 : Nat) : Int)) (q_or rfl rfl) (by rw [show bitOp .or .u64 ((u' % 128 : Nat) : Int) 128 = ((u' % 128 ||| 128 : Nat) : Int) from (bit_u64 (by omega) (by decide)).2.1, or_more _ (by omega), Nat.mod_mod])) rfl ?_
   refine r_v (q_is (v' := .int .u8 ((UInt8.ofNat (u' % 128 + 128)).toNat : Int)) (q_conv rfl) (by rw [wrap_u8, UInt8.toNat_ofNat'])) rfl ?_
   refine r_app1 (v := .int .u8 ((UInt8.ofNat (u' % 128 + 128)).toNat : Int)) (m3 := (out ++ [UInt8.ofNat (u' % 128 + 128)]).length) (zs := bytesV (out ++ [UInt8.ofNat (u' % 128 + 128)])) h rfl rfl rfl rfl rfl (by simp) (by simp [bytesV, vcells]) (by simp; omega) (by simp; omega) rfl rfl rfl rfl rfl fun b a' c' w _ h => ?_
   refine r_v (q_assignS rfl) rfl ?_
   refine r_nil ?_
   refine c_region ?_
   refine r_v (q_moveI rfl) rfl ?_
   refine r_v (q_is (v' := .int .u64 ((u' / 128 : Nat) : Int)) (q_shr rfl rfl (by omega)) (congrArg (Value.int .u64) (fdiv_nat u' 7 64 (by decide)))) rfl ?_
   refine r_v (q_assignI rfl) rfl ?_
   refine r_nil ⟨(u' / 128, out ++ [UInt8.ofNat (u' % 128 + 128)], a', c'), ⟨rfl, rfl, trivial⟩, ⟨by dsimp only; omega, ?_, h⟩, by dsimp only; omega⟩
   rw [← he, vput_ge (by omega) hu, List.append_assoc]; rfl
  exact c_exit ⟨(u', out, a, c), ⟨rfl, rfl, trivial⟩, by simp at hc; dsimp only; omega, he, h⟩
 clear h hu
 rintro ⟨u', out, a, c⟩ w e ⟨hu, he, h⟩
 dsimp only at hu he h ⊢
 rw [vput_lt hu] at he
 have hlen : out.length ≤ bs.length + 10 := by
  have h1 := congrArg List.length he
  have h2 := vput_len u
  simp only [List.length_append, List.length_singleton] at h1
  omega
 refine c_seq (c_region ?_)
 refine r_v (q_moveS rfl) rfl ?_; refine r_v (q_moveI rfl) rfl ?_; refine r_v (q_conv rfl) rfl ?_
 refine r_is (.int .u8 ((UInt8.ofNat u').toNat : Int)) (by rw [wrap_u8, UInt8.toNat_ofNat']) ?_
 refine r_app1 (v := .int .u8 ((UInt8.ofNat u').toNat : Int)) (m3 := (bs ++ vput u).length) (zs := bytesV (bs ++ vput u)) h rfl rfl rfl rfl rfl (by rw [← he]; simp) (by rw [← he]; simp [bytesV, vcells]) (by rw [← he]; simp; omega) (by rw [← he]; simp; omega) rfl rfl rfl rfl rfl fun b a' c' w _ h => ?_
 refine r_v (q_assignS rfl) rfl ?_
 refine r_nil ?_
 exact c_ret (bq1 ⟨a', c', rfl, h⟩)

theorem ref4_within (d : Int) {m : Nat} {n : Int} (hm : m ≤ 62) (hn : n = (m : Int) + 1) (h : St w0 l w) : Ret Tryz.prog 122 [.int .i64 d, .int .i64 n] w fun v w' => v = .bool (decide (-(2 ^ m : Int) ≤ d ∧ d < 2 ^ m)) ∧ St w0 l w' := by
 subst hn
 have hp : (2 : Nat) ^ m ≤ 2 ^ 62 := Nat.pow_le_pow_right (by decide) hm
 have hp0 := Nat.two_pow_pos m
 have hpi := two_pow_int m
 refine enter Tryz.func122 rfl Tryz.results122 Tryz.ntmps122 rfl ?_
 refine c_seq (c_region ?_)
 refine r_v (q_assignB rfl) rfl ?_
 refine r_nil ?_
 refine c_seq (c_region ?_)
 refine r_v (q_moveI rfl) rfl ?_; refine r_v (q_moveI rfl) rfl ?_; refine r_v (q_sub rfl rfl) rfl ?_
 refine r_is (.int .i64 ((m : Nat) : Int)) (by rw [wrap64 (by omega) (by omega)]; congr 1; omega) ?_
 refine r_v (q_conv rfl) rfl ?_
 refine r_is (.int .u64 ((m : Nat) : Int)) (by rw [wrap_u64, Nat.mod_eq_of_lt (by omega)]) ?_
 refine r_v (q_is (v' := .int .i64 (-(2 ^ m : Int))) (q_shl rfl rfl (by omega)) (by rw [shl_i64 (by omega) ⟨by omega, by omega⟩]; congr 1; omega)) rfl ?_
 refine r_v (q_geq rfl rfl) rfl ?_
 by_cases h1 : -(2 ^ m : Int) ≤ d
 ·refine r_is (.bool true) (congrArg Value.bool (decide_eq_true h1)) ?_
  refine r_v (q_moveB rfl) rfl ?_; (first | refine r_gd rfl rfl ?_ | refine r_gn rfl rfl rfl ?_ | refine r_gu rfl rfl ?_ | refine r_gd rfl (by assumption) ?_ | refine r_gn rfl (by assumption) rfl ?_); refine r_v (q_moveI rfl) rfl ?_; (first | refine r_gd rfl rfl ?_ | refine r_gn rfl rfl rfl ?_ | refine r_gu rfl rfl ?_ | refine r_gd rfl (by assumption) ?_ | refine r_gn rfl (by assumption) rfl ?_); refine r_v (q_moveI rfl) rfl ?_; (first | refine r_gd rfl rfl ?_ | refine r_gn rfl rfl rfl ?_ | refine r_gu rfl rfl ?_ | refine r_gd rfl (by assumption) ?_ | refine r_gn rfl (by assumption) rfl ?_); refine r_v (q_sub rfl rfl) rfl ?_
  refine r_is (.int .i64 ((m : Nat) : Int)) (by rw [wrap64 (by omega) (by omega)]; congr 1; omega) ?_
  (first | refine r_gd rfl rfl ?_ | refine r_gn rfl rfl rfl ?_ | refine r_gu rfl rfl ?_ | refine r_gd rfl (by assumption) ?_ | refine r_gn rfl (by assumption) rfl ?_); refine r_v (q_conv rfl) rfl ?_
  refine r_is (.int .u64 ((m : Nat) : Int)) (by rw [wrap_u64, Nat.mod_eq_of_lt (by omega)]) ?_
  (first | refine r_gd rfl rfl ?_ | refine r_gn rfl rfl rfl ?_ | refine r_gu rfl rfl ?_ | refine r_gd rfl (by assumption) ?_ | refine r_gn rfl (by assumption) rfl ?_)
  refine r_v (q_is (v' := .int .i64 (2 ^ m : Int)) (q_shl rfl rfl (by omega)) (by rw [shl_i64 (by omega) ⟨by omega, by omega⟩]; congr 1; omega)) rfl ?_
  (first | refine r_gd rfl rfl ?_ | refine r_gn rfl rfl rfl ?_ | refine r_gu rfl rfl ?_ | refine r_gd rfl (by assumption) ?_ | refine r_gn rfl (by assumption) rfl ?_); refine r_v (q_lss rfl rfl) rfl ?_; (first | refine r_v (q_pick1 rfl rfl rfl) rfl ?_ | refine r_v (q_pick0 rfl rfl rfl) rfl ?_ | refine r_v (q_pick1 rfl (by assumption) rfl) rfl ?_ | refine r_v (q_pick0 rfl (by assumption) rfl) rfl ?_ | refine r_v (q_pickB rfl rfl rfl) rfl ?_); refine r_v (q_assignB rfl) rfl ?_
  refine r_nil ?_
  refine c_ret (bq1 ⟨?_, h⟩)
  exact congrArg Value.bool (by simp [h1])
 ·refine r_is (.bool false) (congrArg Value.bool (decide_eq_false h1)) ?_
  refine r_v (q_moveB rfl) rfl ?_; (first | refine r_gd rfl rfl ?_ | refine r_gn rfl rfl rfl ?_ | refine r_gu rfl rfl ?_ | refine r_gd rfl (by assumption) ?_ | refine r_gn rfl (by assumption) rfl ?_); (first | refine r_gd rfl rfl ?_ | refine r_gn rfl rfl rfl ?_ | refine r_gu rfl rfl ?_ | refine r_gd rfl (by assumption) ?_ | refine r_gn rfl (by assumption) rfl ?_); (first | refine r_gd rfl rfl ?_ | refine r_gn rfl rfl rfl ?_ | refine r_gu rfl rfl ?_ | refine r_gd rfl (by assumption) ?_ | refine r_gn rfl (by assumption) rfl ?_); (first | refine r_gd rfl rfl ?_ | refine r_gn rfl rfl rfl ?_ | refine r_gu rfl rfl ?_ | refine r_gd rfl (by assumption) ?_ | refine r_gn rfl (by assumption) rfl ?_); (first | refine r_gd rfl rfl ?_ | refine r_gn rfl rfl rfl ?_ | refine r_gu rfl rfl ?_ | refine r_gd rfl (by assumption) ?_ | refine r_gn rfl (by assumption) rfl ?_); (first | refine r_gd rfl rfl ?_ | refine r_gn rfl rfl rfl ?_ | refine r_gu rfl rfl ?_ | refine r_gd rfl (by assumption) ?_ | refine r_gn rfl (by assumption) rfl ?_); (first | refine r_v (q_pick1 rfl rfl rfl) rfl ?_ | refine r_v (q_pick0 rfl rfl rfl) rfl ?_ | refine r_v (q_pick1 rfl (by assumption) rfl) rfl ?_ | refine r_v (q_pick0 rfl (by assumption) rfl) rfl ?_ | refine r_v (q_pickB rfl rfl rfl) rfl ?_); refine r_v (q_assignB rfl) rfl ?_
  refine r_nil ?_
  refine c_ret (bq1 ⟨?_, h⟩)
  exact congrArg Value.bool (by simp [h1])
theorem ref4_kind (d : Int) (h : St w0 l w) : Ret Tryz.prog 80 [.int .i64 d] w fun v w' => v = .tuple [.int .i64 (which d).bits, .int .u64 (which d).ahead, .int .i64 (which d).long].toArray ∧ St w0 l w' := by
 refine enter Tryz.func80 rfl Tryz.results80 Tryz.ntmps80 rfl ?_
 refine c_seq (c_region ?_)
 refine r_v (q_assignI rfl) rfl ?_; refine r_v (q_assignI rfl) rfl ?_; refine r_v (q_assignI rfl) rfl ?_
 refine r_nil ?_
 refine c_cut (Γ := Unit) (fun _ => []) (fun _ w => which d = ⟨15, 4, 64⟩ ∧ St w0 l w) ?_ ?_
 ·refine c_block ?_
  refine c_seq (c_region ?_)
  refine r_v (q_moveI rfl) rfl ?_; refine r_v (q_eql rfl rfl) rfl ?_; refine r_v (q_assignB rfl) rfl ?_
  refine r_nil ?_
  refine c_cond (d == 0) rfl (fun hc => ?_) (fun h0 => ?_)
  ·have hw : which d = ⟨0, 1, 0⟩ := by unfold which; rw [if_pos (by simpa using hc)]
   rw [hw]
   refine c_seq (c_region ?_)
   refine r_v (q_assignI rfl) rfl ?_; refine r_v (q_assignI rfl) rfl ?_; refine r_v (q_assignI rfl) rfl ?_
   exact r_nil (c_ret (bq3 ⟨rfl, h⟩))
  have h0 : ¬ d = 0 := by simpa using h0
  refine c_seq (c_region ?_)
  refine r_v (q_moveI rfl) rfl ?_
  refine r_c rfl (x_call rfl (ref4_within d (m := 6) (by decide) rfl h) ?_)
  rintro _ w ⟨rfl, h⟩
  refine r_v (q_assignB rfl) rfl ?_
  refine r_nil ?_
  refine c_cond _ rfl (fun hc => ?_) (fun h1 => ?_)
  ·have hw : which d = ⟨2, 2, 7⟩ := by unfold which; rw [if_neg h0, if_pos (by rw [decide_eq_true_eq] at hc; omega)]
   rw [hw]
   refine c_seq (c_region ?_)
   refine r_v (q_assignI rfl) rfl ?_; refine r_v (q_assignI rfl) rfl ?_; refine r_v (q_assignI rfl) rfl ?_
   exact r_nil (c_ret (bq3 ⟨rfl, h⟩))
  have h1 : ¬ (-64 ≤ d ∧ d ≤ 63) := by rw [decide_eq_false_iff_not] at h1; omega
  refine c_seq (c_region ?_)
  refine r_v (q_moveI rfl) rfl ?_
  refine r_c rfl (x_call rfl (ref4_within d (m := 8) (by decide) rfl h) ?_)
  rintro _ w ⟨rfl, h⟩
  refine r_v (q_assignB rfl) rfl ?_
  refine r_nil ?_
  refine c_cond _ rfl (fun hc => ?_) (fun h2 => ?_)
  ·have hw : which d = ⟨6, 3, 9⟩ := by unfold which; rw [if_neg h0, if_neg h1, if_pos (by rw [decide_eq_true_eq] at hc; omega)]
   rw [hw]
   refine c_seq (c_region ?_)
   refine r_v (q_assignI rfl) rfl ?_; refine r_v (q_assignI rfl) rfl ?_; refine r_v (q_assignI rfl) rfl ?_
   exact r_nil (c_ret (bq3 ⟨rfl, h⟩))
  have h2 : ¬ (-256 ≤ d ∧ d ≤ 255) := by rw [decide_eq_false_iff_not] at h2; omega
  refine c_seq (c_region ?_)
  refine r_v (q_moveI rfl) rfl ?_
  refine r_c rfl (x_call rfl (ref4_within d (m := 11) (by decide) rfl h) ?_)
  rintro _ w ⟨rfl, h⟩
  refine r_v (q_assignB rfl) rfl ?_
  refine r_nil ?_
  refine c_cond _ rfl (fun hc => ?_) (fun h3 => ?_)
  ·have hw : which d = ⟨14, 4, 12⟩ := by unfold which; rw [if_neg h0, if_neg h1, if_neg h2, if_pos (by rw [decide_eq_true_eq] at hc; omega)]
   rw [hw]
   refine c_seq (c_region ?_)
   refine r_v (q_assignI rfl) rfl ?_; refine r_v (q_assignI rfl) rfl ?_; refine r_v (q_assignI rfl) rfl ?_
   exact r_nil (c_ret (bq3 ⟨rfl, h⟩))
  have h3 : ¬ (-2048 ≤ d ∧ d ≤ 2047) := by rw [decide_eq_false_iff_not] at h3; omega
  exact c_skip ⟨(), trivial, by unfold which; rw [if_neg h0, if_neg h1, if_neg h2, if_neg h3], h⟩
 clear h
 rintro ⟨⟩ w e ⟨hw, h⟩
 rw [hw]
 refine c_seq (c_region ?_)
 refine r_v (q_assignI rfl) rfl ?_; refine r_v (q_assignI rfl) rfl ?_; refine r_v (q_assignI rfl) rfl ?_
 exact r_nil (c_ret (bq3 ⟨rfl, h⟩))

theorem ref4_Times {p : Nat} {bs : List Bool} {sl : Option Addr} {c : Nat} {ts : List Int} (hi : ∀ t ∈ ts, I64 t) (hn : ts.length ≤ 65535) (hb : bs.length ≤ 1073741824) (h : St w0 (IsRW p bs :: l) w) (hr : Reads w0 l 1 sl ts.length (i64V ts)) :
  Ret Tryz.prog 40 [.pointer (some ⟨p, 0, none⟩), .slice sl ts.length c] w fun v w' => v = .tuple #[] ∧ St w0 (IsRW p (bs ++ timesBits ts) :: l) w' := by
 refine enter Tryz.func40 rfl Tryz.results40 Tryz.ntmps40 rfl ?_
 have htl := timesBits_len ts
 have hrd : ∀ {Q : HProp} {w' : World}, St w0 (Q :: l) w' → Rd w' 1 sl ts.length (i64V ts) := fun {Q w'} h' => hr [Q] w' h'
 refine c_seq (c_region ?_)
 refine r_v (q_assignI rfl) rfl ?_
 refine r_nil ?_
 refine c_seq (c_region ?_)
 refine r_v (q_assignI rfl) rfl ?_
 refine r_nil ?_
 refine c_block ?_
 refine c_loop (Γ := Nat × Nat × List Bool) (fun k => [(0, .pointer (some ⟨p, 0, none⟩)), (1, .slice sl ts.length c), (4, .int .u64 k.2.1), (5, .int .i64 k.1)])
  (fun k w => k.1 ≤ ts.length ∧ k.2.1 < 18446744073709551616 ∧ (k.1 = 0 → k.2.1 = 0 ∧ k.2.2 = bs) ∧ (0 < k.1 → k.2.2 ++ timesRest (us (ts.getD (k.1 - 1) 0)) k.2.1 (ts.drop k.1) = bs ++ timesBits ts) ∧ St w0 (IsRW p k.2.2 :: l) w)
  (fun k => ts.length - k.1) (0, 0, bs) ⟨rfl, rfl, rfl, rfl, trivial⟩ ⟨Nat.zero_le _, (by decide : (0 : Nat) < 18446744073709551616), fun _ => ⟨rfl, rfl⟩, (fun h => absurd h (by decide : ¬ (0 : Nat) < 0)), h⟩ ?_
 clear h
 rintro ⟨i, step, out⟩ w e ⟨hin, hstep, h00, hnz, h⟩
 dsimp only at hin hstep h00 hnz h ⊢
 refine c_seq (c_seq (c_region ?_))
 refine r_v (q_moveI rfl) rfl ?_; refine r_v (q_moveS rfl) rfl ?_; refine r_v (q_len rfl) rfl ?_; refine r_v (q_lss rfl rfl) rfl ?_
 refine r_nil ?_
 refine c_cond (decide ((i : Int) < (ts.length : Int))) rfl (fun hc => ?_) (fun hc => ?_)
 ·
  have hlt : i < ts.length := by simp at hc; omega
  have hg := List.getElem?_eq_getElem hlt
  have hdr := List.drop_eq_getElem_cons hlt
  generalize ts[i] = t at hg hdr
  have ht := hi t (List.mem_of_getElem? hg)
  have hut := us_lt t
  have hgd : ts.getD i 0 = t := by rw [List.getD, hg]; rfl
  obtain ⟨b, o, hsl⟩ := (hrd h).some (by omega)
  have hol : out.length ≤ bs.length + (timesBits ts).length := by
   rcases Nat.eq_zero_or_pos i with h0 | h0
   ·rw [(h00 h0).2]; omega
   ·have := congrArg List.length (hnz h0)
    simp only [List.length_append] at this
    omega
  refine c_skip ?_
  refine c_cut (Γ := Nat × List Bool) (fun k => [(0, .pointer (some ⟨p, 0, none⟩)), (1, .slice sl ts.length c), (4, .int .u64 k.1), (5, .int .i64 i)])
   (fun k w => k.1 < 18446744073709551616 ∧ k.2 ++ timesRest (us t) k.1 (ts.drop (i + 1)) = bs ++ timesBits ts ∧ St w0 (IsRW p k.2 :: l) w) ?_ ?_
  ·refine c_block ?_
   refine c_seq (c_seq (c_region ?_))
   refine r_v (q_moveI rfl) rfl ?_; refine r_v (q_eql rfl rfl) rfl ?_
   by_cases hi0 : i = 0
   ·refine r_is (.bool true) (by subst hi0; rfl) ?_
    refine r_nil (c_true rfl ?_)
    obtain ⟨hs0, ho0⟩ := h00 hi0
    refine c_seq (c_region ?_)
    refine r_v (q_moveP rfl) rfl ?_; refine r_v (q_moveS rfl) rfl ?_
    refine r_v (q_idx (b := b) (o := o) (m := ts.length) (c := c) (j := 0) (o' := o + 0) (by rw [← hsl]; rfl) rfl rfl (by omega) (by simp)) rfl ?_
    refine r_v (q_loadc (v := .int .i64 t) rfl ((hsl ▸ hrd h).cell (i64V_get (by rw [← hi0]; exact hg)))) rfl ?_
    refine r_v (q_conv rfl) rfl ?_
    refine r_is (.int .u64 (us t : Nat)) (by rw [wrap_us]) ?_
    refine r_c rfl (x_call rfl (rw_Put (us t) 64 hut (by omega) h) ?_)
    rintro _ w ⟨rfl, h⟩
    refine r_nil ?_
    refine c_exit ⟨(step, out ++ bitsOf (us t) (heldN 64)), ⟨rfl, rfl, rfl, rfl, trivial⟩, hstep, ?_, h⟩
    rw [hi0, List.drop_zero] at hdr
    rw [ho0, hs0, hi0, List.append_assoc]
    conv => rhs; rw [hdr, timesBits]
    rfl
   refine r_is (.bool false) (by simp; omega) ?_
   refine r_nil (c_false rfl (c_skip ?_))
   have he := hnz (by omega)
   have hg1 : ts[i - 1]? = some (ts.getD (i - 1) 0) := by
    rw [List.getD, List.getElem?_eq_getElem (show i - 1 < ts.length by omega)]; rfl
   generalize ts.getD (i - 1) 0 = t1 at hg1 he
   have hwas := us_lt t1
   rw [hdr, timesRest] at he
   refine c_seq (c_any none (fun w => St w0 _ w) (by kernel_rfl) (by kernel_rfl) h.drew fun w h => ?_)
   refine cur_pure rfl rfl rfl rfl (fun _ => h) (fun _ => flt_v rfl (q_moveS rfl)) ?_; refine cur_pure rfl rfl rfl rfl (fun _ => h) (fun _ => flt_v rfl (q_moveI rfl)) ?_
   refine cur_pure rfl rfl rfl rfl (fun _ => h) (fun _ => flt_v rfl (q_idx (b := b) (o := o) (m := ts.length) (c := c) (o' := o + i) (by rw [← hsl]; rfl) rfl rfl hlt (by simp))) ?_
   refine cur_float rfl rfl rfl rfl h (fun _ h => flt_v rfl (q_loadc (v := .int .i64 t) rfl ((hsl ▸ hrd h).cell (i64V_get hg)))) ?_
   refine cur_pure rfl rfl rfl rfl (fun _ => h) (fun _ => flt_v rfl (q_is (v' := .int .u64 (us t : Nat)) (q_conv rfl) (by rw [wrap_us]))) ?_
   refine cur_pure rfl rfl rfl rfl (fun _ => h) (fun _ => flt_v rfl (q_moveS rfl)) ?_; refine cur_pure rfl rfl rfl rfl (fun _ => h) (fun _ => flt_v rfl (q_moveI rfl)) ?_
   refine cur_pure rfl rfl rfl rfl (fun _ => h) (fun _ => flt_v rfl (q_is (v' := .int .i64 ((i - 1 : Nat) : Int)) (q_sub rfl rfl) (by rw [wrap64 (by omega) (by omega)]; congr 1; omega))) ?_
   refine cur_pure rfl rfl rfl rfl (fun _ => h) (fun _ => flt_v rfl (q_idx (b := b) (o := o) (m := ts.length) (c := c) (o' := o + (i - 1)) (by rw [← hsl]; rfl) rfl rfl (by omega) (by simp))) ?_
   refine cur_float rfl rfl rfl rfl h (fun _ h => flt_v rfl (q_loadc (v := .int .i64 t1) rfl ((hsl ▸ hrd h).cell (i64V_get hg1)))) ?_
   refine cur_pure rfl rfl rfl rfl (fun _ => h) (fun _ => flt_v rfl (q_is (v' := .int .u64 (us t1 : Nat)) (q_conv rfl) (by rw [wrap_us]))) ?_
   refine cur_pure rfl rfl rfl rfl (fun _ => h) (fun _ => flt_v rfl (q_is (v' := .int .u64 (diff (us t) (us t1) : Nat)) (q_sub rfl rfl) (by rw [wrap_diff hwas]))) ?_
   refine cur_pure rfl rfl rfl rfl (fun _ => h) (fun _ => flt_v rfl (q_assignI rfl)) ?_
   refine cur_end ?_
   have hd : diff (diff (us t) (us t1)) step < 18446744073709551616 := Nat.mod_lt _ (by decide)
   have hd1 : diff (us t) (us t1) < 18446744073709551616 := Nat.mod_lt _ (by decide)
   refine c_seq (c_region ?_)
   refine r_v (q_moveI rfl) rfl ?_; refine r_v (q_moveI rfl) rfl ?_; refine r_v (q_sub rfl rfl) rfl ?_
   refine r_is (.int .u64 (diff (diff (us t) (us t1)) step : Nat)) (by rw [wrap_diff hstep]) ?_
   generalize hde : diff (diff (us t) (us t1)) step = d at *
   obtain ⟨hf1, hf2, hf3⟩ := which_le (sg d)
   have hlen := congrArg List.length he
   simp only [List.length_append, bitsOf_len] at hlen
   refine r_v (q_conv rfl) rfl ?_
   refine r_is (.int .i64 (sg d)) (by rw [wrap_sg hd]) ?_
   refine r_v (q_assignI rfl) rfl ?_
   refine r_nil ?_
   refine c_seq (c_region ?_)
   refine r_v (q_moveI rfl) rfl ?_; refine r_v (q_assignI rfl) rfl ?_
   refine r_nil ?_
   refine c_seq (c_region ?_)
   refine r_v (q_moveI rfl) rfl ?_
   refine r_c rfl (x_call rfl (ref4_kind (sg d) h) ?_)
   rintro _ w ⟨rfl, h⟩
   refine r_v (q_moveT rfl) rfl ?_; refine r_v (q_ext rfl rfl) rfl ?_; refine r_v (q_ext rfl rfl) rfl ?_; refine r_v (q_ext rfl rfl) rfl ?_; refine r_v (q_assignI rfl) rfl ?_; refine r_v (q_assignI rfl) rfl ?_; refine r_v (q_assignI rfl) rfl ?_
   refine r_nil ?_
   refine c_seq (c_region ?_)
   refine r_v (q_moveP rfl) rfl ?_; refine r_v (q_moveI rfl) rfl ?_; refine r_v (q_moveI rfl) rfl ?_
   refine r_c rfl (x_call rfl (rw_Put (which (sg d)).ahead (which (sg d)).long (by omega) (by omega) h) ?_)
   rintro _ w ⟨rfl, h⟩
   refine r_nil ?_
   refine c_region ?_
   refine r_v (q_moveP rfl) rfl ?_; refine r_v (q_moveI rfl) rfl ?_; refine r_v (q_conv rfl) rfl ?_
   refine r_is (.int .u64 (d : Nat)) (by rw [wrap_us, us_sg hd]) ?_
   refine r_v (q_moveI rfl) rfl ?_
   refine r_c rfl (x_call rfl (rw_Put d (which (sg d)).bits hd (by rw [heldN_nat (by omega), List.length_append, bitsOf_len]; omega) h) ?_)
   rintro _ w ⟨rfl, h⟩
   refine r_nil ⟨(diff (us t) (us t1), _), ⟨rfl, rfl, rfl, rfl, trivial⟩, hd1, ?_, h⟩
   rw [heldN_nat (by omega), heldN_nat (by omega), List.append_assoc, List.append_assoc, ← he]
  clear h
  rintro ⟨step', out'⟩ w e ⟨hs', he', h⟩
  dsimp only at hs' he' h ⊢
  refine c_region ?_
  refine r_v (q_moveI rfl) rfl ?_; refine r_v (q_add rfl rfl) rfl ?_
  refine r_is (.int .i64 ((i + 1 : Nat) : Int)) (by rw [wrap64 (by omega) (by omega)]; rfl) ?_
  refine r_v (q_assignI rfl) rfl ?_
  refine r_nil ⟨(i + 1, step', out'), ⟨rfl, rfl, rfl, rfl, trivial⟩, ⟨hlt, hs', (fun h => by cases h), fun _ => ?_, h⟩, by dsimp only; omega⟩
  dsimp only
  rw [Nat.add_sub_cancel, hgd]
  exact he'
 have hin' : i = ts.length := by simp at hc; omega
 refine c_exit ?_
 have : out = bs ++ timesBits ts := by
  rcases Nat.eq_zero_or_pos i with h0 | h0
  ·rw [(h00 h0).2]
   have : ts = [] := List.eq_nil_of_length_eq_zero (by omega)
   rw [this]; simp [timesBits]
  ·have := hnz h0
   rw [hin', List.drop_length, timesRest, List.append_nil] at this
   exact this
 rw [← this]
 exact (show (packv [] : Value) = .tuple #[] ∧ _ from ⟨rfl, h⟩)

theorem ref4_ahead {x : Nat} (hx : x < 18446744073709551616) (h : St w0 l w) : Ret Tryz.prog 114 [.int .u64 x] w fun v w' => v = .int .i64 ((winOf x).lead : Nat) ∧ St w0 l w' := by
 have h64 := len64_64 hx
 refine enter Tryz.func114 rfl Tryz.results114 Tryz.ntmps114 rfl ?_
 refine c_seq (c_region ?_)
 refine r_v (q_assignI rfl) rfl ?_
 refine r_nil ?_
 refine c_seq (c_region ?_)
 refine r_v (q_assignI rfl) rfl ?_
 refine r_nil ?_
 refine c_cut (Γ := Unit) (fun _ => [(3, .int .i64 ((winOf x).lead : Nat))]) (fun _ w => St w0 l w) ?_ ?_
 ·refine c_block ?_
  refine c_loop (Γ := Nat) (fun k => [(0, .int .u64 x), (3, .int .i64 k)]) (fun k w => k ≤ 31 ∧ k ≤ 64 - len64 x ∧ St w0 l w) (fun k => 31 - k) 0 ⟨rfl, rfl, trivial⟩ ⟨Nat.zero_le _, Nat.zero_le _, h⟩ ?_
  clear h
  rintro n w e ⟨hn, hn2, h⟩
  refine c_seq (c_seq (c_region ?_))
  refine r_v (q_moveI rfl) rfl ?_; refine r_v (q_lss rfl rfl) rfl ?_
  by_cases h31 : n < 31
  ·refine r_is (.bool true) (by simp; omega) ?_
   refine r_v (q_moveB rfl) rfl ?_; (first | refine r_gd rfl rfl ?_ | refine r_gn rfl rfl rfl ?_ | refine r_gu rfl rfl ?_ | refine r_gd rfl (by assumption) ?_ | refine r_gn rfl (by assumption) rfl ?_); refine r_v (q_moveI rfl) rfl ?_; (first | refine r_gd rfl rfl ?_ | refine r_gn rfl rfl rfl ?_ | refine r_gu rfl rfl ?_ | refine r_gd rfl (by assumption) ?_ | refine r_gn rfl (by assumption) rfl ?_); refine r_v (q_moveI rfl) rfl ?_; (first | refine r_gd rfl rfl ?_ | refine r_gn rfl rfl rfl ?_ | refine r_gu rfl rfl ?_ | refine r_gd rfl (by assumption) ?_ | refine r_gn rfl (by assumption) rfl ?_); refine r_v (q_sub rfl rfl) rfl ?_
   refine r_is (.int .i64 ((63 - n : Nat) : Int)) (by rw [wrap64 (by omega) (by omega)]; congr 1; omega) ?_
   (first | refine r_gd rfl rfl ?_ | refine r_gn rfl rfl rfl ?_ | refine r_gu rfl rfl ?_ | refine r_gd rfl (by assumption) ?_ | refine r_gn rfl (by assumption) rfl ?_); refine r_v (q_conv rfl) rfl ?_
   refine r_is (.int .u64 ((63 - n : Nat) : Int)) (by rw [wrap_u64, Nat.mod_eq_of_lt (by omega)]) ?_
   (first | refine r_gd rfl rfl ?_ | refine r_gn rfl rfl rfl ?_ | refine r_gu rfl rfl ?_ | refine r_gd rfl (by assumption) ?_ | refine r_gn rfl (by assumption) rfl ?_)
   refine r_v (q_is (v' := .int .u64 ((x / 2 ^ (63 - n) : Nat) : Int)) (q_shr rfl rfl (by omega)) (congrArg (Value.int .u64) (fdiv_nat x (63 - n) _ (show 63 - n ≤ 64 by omega)))) rfl ?_
   (first | refine r_gd rfl rfl ?_ | refine r_gn rfl rfl rfl ?_ | refine r_gu rfl rfl ?_ | refine r_gd rfl (by assumption) ?_ | refine r_gn rfl (by assumption) rfl ?_); refine r_v (q_eql rfl rfl) rfl ?_
   by_cases h0 : x / 2 ^ (63 - n) = 0
   ·refine r_is (.bool true) (by rw [h0]; rfl) ?_
    (first | refine r_v (q_pick1 rfl rfl rfl) rfl ?_ | refine r_v (q_pick0 rfl rfl rfl) rfl ?_ | refine r_v (q_pick1 rfl (by assumption) rfl) rfl ?_ | refine r_v (q_pick0 rfl (by assumption) rfl) rfl ?_ | refine r_v (q_pickB rfl rfl rfl) rfl ?_)
    refine r_nil (c_true rfl (c_skip ?_))
    refine c_block ?_
    refine c_region ?_
    refine r_v (q_moveI rfl) rfl ?_; refine r_v (q_add rfl rfl) rfl ?_
    refine r_is (.int .i64 ((n + 1 : Nat) : Int)) (by rw [wrap64 (by omega) (by omega)]; rfl) ?_
    refine r_v (q_assignI rfl) rfl ?_
    have := le_lead.1 h0
    exact r_nil ⟨n + 1, ⟨rfl, rfl, trivial⟩, ⟨by omega, by omega, h⟩, by omega⟩
   ·refine r_is (.bool false) (by congr 1; rw [beq_eq_false_iff_ne]; omega) ?_
    (first | refine r_v (q_pick1 rfl rfl rfl) rfl ?_ | refine r_v (q_pick0 rfl rfl rfl) rfl ?_ | refine r_v (q_pick1 rfl (by assumption) rfl) rfl ?_ | refine r_v (q_pick0 rfl (by assumption) rfl) rfl ?_ | refine r_v (q_pickB rfl rfl rfl) rfl ?_)
    refine r_nil (c_false rfl ?_)
    have : ¬ len64 x ≤ 63 - n := fun hh => h0 (le_lead.2 hh)
    refine c_exit ⟨(), ⟨?_, trivial⟩, h⟩
    show Value.int .i64 (n : Int) = _
    rw [lead31]; congr 1; omega
  ·refine r_is (.bool false) (by simp; omega) ?_
   refine r_v (q_moveB rfl) rfl ?_; (first | refine r_gd rfl rfl ?_ | refine r_gn rfl rfl rfl ?_ | refine r_gu rfl rfl ?_ | refine r_gd rfl (by assumption) ?_ | refine r_gn rfl (by assumption) rfl ?_); (first | refine r_gd rfl rfl ?_ | refine r_gn rfl rfl rfl ?_ | refine r_gu rfl rfl ?_ | refine r_gd rfl (by assumption) ?_ | refine r_gn rfl (by assumption) rfl ?_); (first | refine r_gd rfl rfl ?_ | refine r_gn rfl rfl rfl ?_ | refine r_gu rfl rfl ?_ | refine r_gd rfl (by assumption) ?_ | refine r_gn rfl (by assumption) rfl ?_); (first | refine r_gd rfl rfl ?_ | refine r_gn rfl rfl rfl ?_ | refine r_gu rfl rfl ?_ | refine r_gd rfl (by assumption) ?_ | refine r_gn rfl (by assumption) rfl ?_); (first | refine r_gd rfl rfl ?_ | refine r_gn rfl rfl rfl ?_ | refine r_gu rfl rfl ?_ | refine r_gd rfl (by assumption) ?_ | refine r_gn rfl (by assumption) rfl ?_); (first | refine r_gd rfl rfl ?_ | refine r_gn rfl rfl rfl ?_ | refine r_gu rfl rfl ?_ | refine r_gd rfl (by assumption) ?_ | refine r_gn rfl (by assumption) rfl ?_); (first | refine r_v (q_pick1 rfl rfl rfl) rfl ?_ | refine r_v (q_pick0 rfl rfl rfl) rfl ?_ | refine r_v (q_pick1 rfl (by assumption) rfl) rfl ?_ | refine r_v (q_pick0 rfl (by assumption) rfl) rfl ?_ | refine r_v (q_pickB rfl rfl rfl) rfl ?_)
   refine r_nil (c_false rfl ?_)
   refine c_exit ⟨(), ⟨?_, trivial⟩, h⟩
   show Value.int .i64 (n : Int) = _
   rw [lead31]; congr 1; omega
 clear h
 rintro ⟨⟩ w e h
 refine c_seq (c_region ?_)
 refine r_v (q_moveI rfl) rfl ?_; refine r_v (q_assignI rfl) rfl ?_
 exact r_nil (c_ret (bq1 ⟨rfl, h⟩))
theorem ref4_behind {x : Nat} (h0 : x ≠ 0) (hx : x < 18446744073709551616) (h : St w0 l w) : Ret Tryz.prog 115 [.int .u64 x] w fun v w' => v = .int .i64 (tz x : Nat) ∧ St w0 l w' := by
 obtain ⟨ht1, ht2⟩ := tzA_odd 64 x h0 hx
 have ht1 : x / 2 ^ tz x % 2 = 1 := ht1
 have ht2 : tz x < 64 := ht2
 refine enter Tryz.func115 rfl Tryz.results115 Tryz.ntmps115 rfl ?_
 refine c_seq (c_region ?_)
 refine r_v (q_assignI rfl) rfl ?_
 refine r_nil ?_
 refine c_seq (c_region ?_)
 refine r_v (q_assignI rfl) rfl ?_
 refine r_nil ?_
 refine c_cut (Γ := Unit) (fun _ => [(3, .int .i64 (tz x : Nat))]) (fun _ w => St w0 l w) ?_ ?_
 ·refine c_block ?_
  refine c_loop (Γ := Nat) (fun k => [(0, .int .u64 x), (3, .int .i64 k)]) (fun k w => k ≤ tz x ∧ St w0 l w) (fun k => tz x - k) 0 ⟨rfl, rfl, trivial⟩ ⟨Nat.zero_le _, h⟩ ?_
  clear h
  rintro n w e ⟨hn, h⟩
  refine c_seq (c_seq (c_region ?_))
  refine r_v (q_moveI rfl) rfl ?_; refine r_v (q_moveI rfl) rfl ?_; refine r_v (q_conv rfl) rfl ?_
  refine r_is (.int .u64 (n : Int)) (by rw [wrap_u64, Nat.mod_eq_of_lt (by omega)]) ?_
  refine r_v (q_is (v' := .int .u64 ((x / 2 ^ n : Nat) : Int)) (q_shr rfl rfl (by omega)) (congrArg (Value.int .u64) (fdiv_nat x n _ (show n ≤ 64 by omega)))) rfl ?_
  refine r_v (q_is (v' := .int .u64 ((x / 2 ^ n % 2 : Nat) : Int)) (q_and rfl rfl) (by
   rw [show bitOp .and .u64 ((x / 2 ^ n : Nat) : Int) 1 = ((x / 2 ^ n &&& 1 : Nat) : Int) from (bit_u64 (Nat.lt_of_le_of_lt (Nat.div_le_self _ _) hx) (by decide)).1, Nat.and_one_is_mod])) rfl ?_
  refine r_v (q_eql rfl rfl) rfl ?_
  by_cases hlt : n < tz x
  ·rw [tz_even hlt]
   refine r_nil (c_true rfl (c_skip ?_))
   refine c_block ?_
   refine c_region ?_
   refine r_v (q_moveI rfl) rfl ?_; refine r_v (q_add rfl rfl) rfl ?_
   refine r_is (.int .i64 ((n + 1 : Nat) : Int)) (by rw [wrap64 (by omega) (by omega)]; rfl) ?_
   refine r_v (q_assignI rfl) rfl ?_
   exact r_nil ⟨n + 1, ⟨rfl, rfl, trivial⟩, ⟨by omega, h⟩, by omega⟩
  ·obtain rfl : n = tz x := by omega
   rw [ht1]
   refine r_nil (c_false rfl ?_)
   exact c_exit ⟨(), ⟨rfl, trivial⟩, h⟩
 clear h
 rintro ⟨⟩ w e h
 refine c_seq (c_region ?_)
 refine r_v (q_moveI rfl) rfl ?_; refine r_v (q_assignI rfl) rfl ?_
 exact r_nil (c_ret (bq1 ⟨rfl, h⟩))
end
end Go.Proofs.YtjjacchnalemaaaGreatDoor

namespace Go.Hw
def kNum (k : Nat) : Nat := (kindsL.getD k (0, 0)).1
def kBit (k : Nat) : Nat := (kindsL.getD k (0, 0)).2
abbrev intsV (l : List Nat) : List Value := l.map fun v : Nat => Value.int .i64 (v : Int)
def numsL : List Nat := [240, 120, 60, 30, 20, 15, 12, 10, 8, 7, 6, 5, 4, 3, 2, 1]
def bitsL : List Nat := [0, 0, 1, 2, 3, 4, 5, 6, 7, 8, 10, 12, 15, 20, 30, 60]
theorem numsL_get : ∀ k, k < 16 → numsL[k]? = some (kNum k) := by decide
theorem bitsL_get : ∀ k, k < 16 → bitsL[k]? = some (kBit k) := by decide
theorem intsV_get {l : List Nat} {j v : Nat} (h : l[j]? = some v) : (intsV l)[j]? = some (.int .i64 (v : Int)) := by simp [intsV, h]
theorem kinds_at {k : Nat} (h : k < 16) : kindsL[k]? = some (kNum k, kBit k) := by
 rw [List.getElem?_eq_getElem (show k < kindsL.length from h)]
 unfold kNum kBit
 rw [List.getD, List.getElem?_eq_getElem (show k < kindsL.length from h)]
 rfl
theorem kinds_two : ∀ k, k < 16 → (k < 2 ↔ kBit k = 0) := by decide
theorem kinds_le : ∀ k, k < 16 → kNum k ≤ 240 ∧ kBit k ≤ 60 ∧ 0 < kNum k ∧ kBit k * kNum k ≤ 60 := by decide
theorem idx_lead (x : Nat) (r : List Nat) {j : Nat} (h : j < lead x r) : r[j]? = some x := by
 have h1 := lead_split x r
 rw [← h1, List.getElem?_append_left (by simpa using h)]
 simp [h]
theorem idx_lead_end (x : Nat) (r : List Nat) : r[lead x r]? ≠ some x := by
 have := lead_head x r
 rwa [List.head?_drop] at this
end Go.Hw
namespace Go.Proofs.YtjjacchnalemaaaGreatDoor
open Go.Hw
set_option maxHeartbeats 4000000
set_option maxRecDepth 100000
instance und16 : Und Tryz.prog 166 (.array 16 3) := ⟨Tryz.underlying166⟩
section
variable {w0 w : World} {l : List HProp}
theorem ref4_Values {p : Nat} {bs : List Bool} {sl : Option Addr} {c : Nat} {vs : List Nat} (hv : ∀ v ∈ vs, v < 18446744073709551616) (hn : vs.length ≤ 65535) (hb : bs.length ≤ 1073741824) (h : St w0 (IsRW p bs :: l) w) (hr : Reads w0 l 1 sl vs.length (u64V vs)) :
  Ret Tryz.prog 73 [.pointer (some ⟨p, 0, none⟩), .slice sl vs.length c] w fun v w' => v = .tuple #[] ∧ St w0 (IsRW p (bs ++ xorBits vs) :: l) w' := by
 have htl := xorBits_len vs
 have hrd : ∀ {Q : HProp} {w' : World}, St w0 (Q :: l) w' → Rd w' 1 sl vs.length (u64V vs) := fun {Q w'} h' => hr [Q] w' h'
 refine enter Tryz.func73 rfl Tryz.results73 Tryz.ntmps73 rfl ?_
 refine c_seq (c_region ?_)
 refine r_v (q_assignB rfl) rfl ?_; refine r_v (q_assignI rfl) rfl ?_; refine r_v (q_assignI rfl) rfl ?_
 refine r_nil ?_
 refine c_seq (c_region ?_)
 refine r_v (q_assignI rfl) rfl ?_
 refine r_nil ?_
 refine c_block ?_
 refine c_loop (Γ := Nat × Win × List Bool) (fun k => [(0, .pointer (some ⟨p, 0, none⟩)), (1, .slice sl vs.length c), (4, .bool k.2.1.is), (5, .int .i64 k.2.1.lead), (6, .int .i64 k.2.1.trail), (7, .int .i64 k.1)])
  (fun k w => k.1 ≤ vs.length ∧ WinOk k.2.1 ∧ (k.1 = 0 → k.2.1 = ⟨false, 0, 0⟩ ∧ k.2.2 = bs) ∧ (0 < k.1 → k.2.2 ++ xorRest k.2.1 (vs.getD (k.1 - 1) 0) (vs.drop k.1) = bs ++ xorBits vs) ∧ St w0 (IsRW p k.2.2 :: l) w)
  (fun k => vs.length - k.1) (0, ⟨false, 0, 0⟩, bs) ⟨rfl, rfl, rfl, rfl, rfl, rfl, trivial⟩ ⟨Nat.zero_le _, (show (0 : Nat) + 0 ≤ 63 by decide), fun _ => ⟨rfl, rfl⟩, (fun h => absurd h (by decide : ¬ (0 : Nat) < 0)), h⟩ ?_
 clear h
 rintro ⟨i, win, out⟩ w e ⟨hin, hwo, h00, hnz, h⟩
 dsimp only at hin hwo h00 hnz h ⊢
 refine c_seq (c_seq (c_region ?_))
 refine r_v (q_moveI rfl) rfl ?_; refine r_v (q_moveS rfl) rfl ?_; refine r_v (q_len rfl) rfl ?_; refine r_v (q_lss rfl rfl) rfl ?_
 refine r_nil ?_
 refine c_cond (decide ((i : Int) < (vs.length : Int))) rfl (fun hc => ?_) (fun hc => ?_)
 ·
  have hlt : i < vs.length := by simp at hc; omega
  have hg := List.getElem?_eq_getElem hlt
  have hdr := List.drop_eq_getElem_cons hlt
  generalize vs[i] = now at hg hdr
  have hnow := hv now (List.mem_of_getElem? hg)
  have hgd : vs.getD i 0 = now := by rw [List.getD, hg]; rfl
  obtain ⟨bs_, o, hsl⟩ := (hrd h).some (by omega)
  have hol : out.length ≤ bs.length + (xorBits vs).length := by
   rcases Nat.eq_zero_or_pos i with h0 | h0
   ·rw [(h00 h0).2]; omega
   ·have := congrArg List.length (hnz h0)
    simp only [List.length_append] at this
    omega
  refine c_skip ?_
  refine c_cut (Γ := Win × List Bool) (fun k => [(0, .pointer (some ⟨p, 0, none⟩)), (1, .slice sl vs.length c), (4, .bool k.1.is), (5, .int .i64 k.1.lead), (6, .int .i64 k.1.trail), (7, .int .i64 i)])
   (fun k w => WinOk k.1 ∧ k.2 ++ xorRest k.1 now (vs.drop (i + 1)) = bs ++ xorBits vs ∧ St w0 (IsRW p k.2 :: l) w) ?_ ?_
  ·refine c_block ?_
   refine c_seq (c_seq (c_region ?_))
   refine r_v (q_moveI rfl) rfl ?_; refine r_v (q_eql rfl rfl) rfl ?_
   by_cases hi0 : i = 0
   ·refine r_is (.bool true) (by subst hi0; rfl) ?_
    refine r_nil (c_true rfl ?_)
    obtain ⟨hw0, ho0⟩ := h00 hi0
    refine c_seq (c_region ?_)
    refine r_v (q_moveP rfl) rfl ?_; refine r_v (q_moveS rfl) rfl ?_
    refine r_v (q_idx (b := bs_) (o := o) (m := vs.length) (c := c) (j := 0) (o' := o + 0) (by rw [← hsl]; rfl) rfl rfl (by omega) (by simp)) rfl ?_
    refine r_v (q_loadc (v := .int .u64 now) rfl ((hsl ▸ hrd h).cell (u64V_get (by rw [← hi0]; exact hg)))) rfl ?_
    refine r_c rfl (x_call rfl (rw_Put now 64 hnow (by omega) h) ?_)
    rintro _ w ⟨rfl, h⟩
    refine r_nil ?_
    refine c_exit ⟨(win, out ++ bitsOf now (heldN 64)), ⟨rfl, rfl, rfl, rfl, rfl, rfl, trivial⟩, hwo, ?_, h⟩
    rw [hi0, List.drop_zero] at hdr
    rw [ho0, hw0, hi0, List.append_assoc]
    conv => rhs; rw [hdr, xorBits]
    rfl
   refine r_is (.bool false) (by simp; omega) ?_
   refine r_nil (c_false rfl (c_skip ?_))
   have he := hnz (by omega)
   have hg1 : vs[i - 1]? = some (vs.getD (i - 1) 0) := by
    rw [List.getD, List.getElem?_eq_getElem (show i - 1 < vs.length by omega)]; rfl
   generalize vs.getD (i - 1) 0 = was at hg1 he
   have hwas := hv was (List.mem_of_getElem? hg1)
   have hx : now ^^^ was < 18446744073709551616 := Nat.xor_lt_two_pow (n := 64) hnow hwas
   rw [hdr, xorRest] at he
   refine c_seq (c_any none (fun w => St w0 _ w) (by kernel_rfl) (by kernel_rfl) h.drew fun w h => ?_)
   refine cur_pure rfl rfl rfl rfl (fun _ => h) (fun _ => flt_v rfl (q_moveS rfl)) ?_; refine cur_pure rfl rfl rfl rfl (fun _ => h) (fun _ => flt_v rfl (q_moveI rfl)) ?_
   refine cur_pure rfl rfl rfl rfl (fun _ => h) (fun _ => flt_v rfl (q_idx (b := bs_) (o := o) (m := vs.length) (c := c) (o' := o + i) (by rw [← hsl]; rfl) rfl rfl hlt (by simp))) ?_
   refine cur_float rfl rfl rfl rfl h (fun _ h => flt_v rfl (q_loadc (v := .int .u64 now) rfl ((hsl ▸ hrd h).cell (u64V_get hg)))) ?_
   refine cur_pure rfl rfl rfl rfl (fun _ => h) (fun _ => flt_v rfl (q_moveS rfl)) ?_; refine cur_pure rfl rfl rfl rfl (fun _ => h) (fun _ => flt_v rfl (q_moveI rfl)) ?_
   refine cur_pure rfl rfl rfl rfl (fun _ => h) (fun _ => flt_v rfl (q_is (v' := .int .i64 ((i - 1 : Nat) : Int)) (q_sub rfl rfl) (by rw [wrap64 (by omega) (by omega)]; congr 1; omega))) ?_
   refine cur_pure rfl rfl rfl rfl (fun _ => h) (fun _ => flt_v rfl (q_idx (b := bs_) (o := o) (m := vs.length) (c := c) (o' := o + (i - 1)) (by rw [← hsl]; rfl) rfl rfl (by omega) (by simp))) ?_
   refine cur_float rfl rfl rfl rfl h (fun _ h => flt_v rfl (q_loadc (v := .int .u64 was) rfl ((hsl ▸ hrd h).cell (u64V_get hg1)))) ?_
   refine cur_pure rfl rfl rfl rfl (fun _ => h) (fun _ => flt_v rfl (q_is (v' := .int .u64 ((now ^^^ was : Nat) : Int)) (q_xor rfl rfl) (by rw [(bit_u64 hnow hwas).2.2]))) ?_
   refine cur_pure rfl rfl rfl rfl (fun _ => h) (fun _ => flt_v rfl (q_assignI rfl)) ?_
   refine cur_end ?_
   generalize now ^^^ was = x at hx he
   refine c_seq (c_seq (c_region ?_))
   refine r_v (q_moveI rfl) rfl ?_; refine r_v (q_eql rfl rfl) rfl ?_
   by_cases hx0 : x = 0
   ·refine r_is (.bool true) (by rw [hx0]; rfl) ?_
    refine r_nil (c_true rfl ?_)
    rw [if_pos hx0] at he
    refine c_seq (c_region ?_)
    refine r_v (q_moveP rfl) rfl ?_
    refine r_c rfl (x_call rfl (rw_Put 0 1 (by decide) (by omega) h) ?_)
    rintro _ w ⟨rfl, h⟩
    refine r_nil ?_
    refine c_exit ⟨(win, out ++ bitsOf 0 (heldN 1)), ⟨rfl, rfl, rfl, rfl, rfl, rfl, trivial⟩, hwo, ?_, h⟩
    rw [← he, List.append_assoc]; rfl
   refine r_is (.bool false) (by congr 1; rw [beq_eq_false_iff_ne]; omega) ?_
   refine r_nil (c_false rfl (c_skip ?_))
   rw [if_neg hx0] at he
   obtain ⟨l1, l2, l3, l4⟩ := winOf_long hx0 hx
   refine c_seq (c_region ?_)
   refine r_v (q_moveP rfl) rfl ?_
   refine r_c rfl (x_call rfl (rw_Put 1 1 (by decide) (by omega) h) ?_)
   rintro _ w ⟨rfl, h⟩
   refine r_nil ?_
   have hl1 : (out ++ bitsOf 1 (heldN 1)).length = out.length + 1 := by rw [List.length_append]; rfl
   refine c_seq (c_cut (Γ := Bool) (fun k => [(0, .pointer (some ⟨p, 0, none⟩)), (1, .slice sl vs.length c), (4, .bool win.is), (5, .int .i64 win.lead), (6, .int .i64 win.trail), (7, .int .i64 i), (8, .int .u64 x), (50, .bool k)])
    (fun k w => k = win.fits x ∧ St w0 (IsRW p (out ++ bitsOf 1 (heldN 1)) :: l) w) ?_ ?_)
   ·refine c_region ?_
    have hfit : win.fits x = (win.is && decide (win.lead ≤ (winOf x).lead) && decide (win.trail ≤ (winOf x).trail)) := rfl
    cases hi : win.is with
    | false =>
     refine r_v (q_moveB rfl) rfl ?_; refine r_v (q_moveB rfl) rfl ?_; (first | refine r_gd rfl rfl ?_ | refine r_gn rfl rfl rfl ?_ | refine r_gu rfl rfl ?_ | refine r_gd rfl (by assumption) ?_ | refine r_gn rfl (by assumption) rfl ?_); (first | refine r_gd rfl rfl ?_ | refine r_gn rfl rfl rfl ?_ | refine r_gu rfl rfl ?_ | refine r_gd rfl (by assumption) ?_ | refine r_gn rfl (by assumption) rfl ?_); (first | refine r_gd rfl rfl ?_ | refine r_gn rfl rfl rfl ?_ | refine r_gu rfl rfl ?_ | refine r_gd rfl (by assumption) ?_ | refine r_gn rfl (by assumption) rfl ?_); (first | refine r_gd rfl rfl ?_ | refine r_gn rfl rfl rfl ?_ | refine r_gu rfl rfl ?_ | refine r_gd rfl (by assumption) ?_ | refine r_gn rfl (by assumption) rfl ?_); (first | refine r_v (q_pick1 rfl rfl rfl) rfl ?_ | refine r_v (q_pick0 rfl rfl rfl) rfl ?_ | refine r_v (q_pick1 rfl (by assumption) rfl) rfl ?_ | refine r_v (q_pick0 rfl (by assumption) rfl) rfl ?_ | refine r_v (q_pickB rfl rfl rfl) rfl ?_); refine r_v (q_moveB rfl) rfl ?_; (first | refine r_gd rfl rfl ?_ | refine r_gn rfl rfl rfl ?_ | refine r_gu rfl rfl ?_ | refine r_gd rfl (by assumption) ?_ | refine r_gn rfl (by assumption) rfl ?_); (first | refine r_gd rfl rfl ?_ | refine r_gn rfl rfl rfl ?_ | refine r_gu rfl rfl ?_ | refine r_gd rfl (by assumption) ?_ | refine r_gn rfl (by assumption) rfl ?_); (first | refine r_gd rfl rfl ?_ | refine r_gn rfl rfl rfl ?_ | refine r_gu rfl rfl ?_ | refine r_gd rfl (by assumption) ?_ | refine r_gn rfl (by assumption) rfl ?_); (first | refine r_gd rfl rfl ?_ | refine r_gn rfl rfl rfl ?_ | refine r_gu rfl rfl ?_ | refine r_gd rfl (by assumption) ?_ | refine r_gn rfl (by assumption) rfl ?_); (first | refine r_v (q_pick1 rfl rfl rfl) rfl ?_ | refine r_v (q_pick0 rfl rfl rfl) rfl ?_ | refine r_v (q_pick1 rfl (by assumption) rfl) rfl ?_ | refine r_v (q_pick0 rfl (by assumption) rfl) rfl ?_ | refine r_v (q_pickB rfl rfl rfl) rfl ?_)
     exact r_nil ⟨false, ⟨rfl, rfl, rfl, rfl, rfl, rfl, rfl, rfl, trivial⟩, by rw [hfit, hi]; rfl, h⟩
    | true =>
     refine r_v (q_moveB rfl) rfl ?_; refine r_v (q_moveB rfl) rfl ?_; (first | refine r_gd rfl rfl ?_ | refine r_gn rfl rfl rfl ?_ | refine r_gu rfl rfl ?_ | refine r_gd rfl (by assumption) ?_ | refine r_gn rfl (by assumption) rfl ?_); refine r_v (q_moveI rfl) rfl ?_; (first | refine r_gd rfl rfl ?_ | refine r_gn rfl rfl rfl ?_ | refine r_gu rfl rfl ?_ | refine r_gd rfl (by assumption) ?_ | refine r_gn rfl (by assumption) rfl ?_)
     refine r_c rfl (x_call rfl (ref4_ahead hx h) ?_)
     rintro _ w ⟨rfl, h⟩
     (first | refine r_gd rfl rfl ?_ | refine r_gn rfl rfl rfl ?_ | refine r_gu rfl rfl ?_ | refine r_gd rfl (by assumption) ?_ | refine r_gn rfl (by assumption) rfl ?_); refine r_v (q_moveI rfl) rfl ?_; (first | refine r_gd rfl rfl ?_ | refine r_gn rfl rfl rfl ?_ | refine r_gu rfl rfl ?_ | refine r_gd rfl (by assumption) ?_ | refine r_gn rfl (by assumption) rfl ?_); refine r_v (q_geq rfl rfl) rfl ?_; (first | refine r_v (q_pick1 rfl rfl rfl) rfl ?_ | refine r_v (q_pick0 rfl rfl rfl) rfl ?_ | refine r_v (q_pick1 rfl (by assumption) rfl) rfl ?_ | refine r_v (q_pick0 rfl (by assumption) rfl) rfl ?_ | refine r_v (q_pickB rfl rfl rfl) rfl ?_)
     by_cases h1 : win.lead ≤ (winOf x).lead
     ·refine r_is (.bool true) (by congr 1; rw [decide_eq_true_eq]; omega) ?_
      refine r_v (q_moveB rfl) rfl ?_; (first | refine r_gd rfl rfl ?_ | refine r_gn rfl rfl rfl ?_ | refine r_gu rfl rfl ?_ | refine r_gd rfl (by assumption) ?_ | refine r_gn rfl (by assumption) rfl ?_); refine r_v (q_moveI rfl) rfl ?_; (first | refine r_gd rfl rfl ?_ | refine r_gn rfl rfl rfl ?_ | refine r_gu rfl rfl ?_ | refine r_gd rfl (by assumption) ?_ | refine r_gn rfl (by assumption) rfl ?_)
      refine r_c rfl (x_call rfl (ref4_behind hx0 hx h) ?_)
      rintro _ w ⟨rfl, h⟩
      (first | refine r_gd rfl rfl ?_ | refine r_gn rfl rfl rfl ?_ | refine r_gu rfl rfl ?_ | refine r_gd rfl (by assumption) ?_ | refine r_gn rfl (by assumption) rfl ?_); refine r_v (q_moveI rfl) rfl ?_; (first | refine r_gd rfl rfl ?_ | refine r_gn rfl rfl rfl ?_ | refine r_gu rfl rfl ?_ | refine r_gd rfl (by assumption) ?_ | refine r_gn rfl (by assumption) rfl ?_); refine r_v (q_geq rfl rfl) rfl ?_; (first | refine r_v (q_pick1 rfl rfl rfl) rfl ?_ | refine r_v (q_pick0 rfl rfl rfl) rfl ?_ | refine r_v (q_pick1 rfl (by assumption) rfl) rfl ?_ | refine r_v (q_pick0 rfl (by assumption) rfl) rfl ?_ | refine r_v (q_pickB rfl rfl rfl) rfl ?_)
      refine r_nil ⟨decide (win.trail ≤ (winOf x).trail), ⟨rfl, rfl, rfl, rfl, rfl, rfl, rfl, ?_, trivial⟩, by rw [hfit, hi, decide_eq_true h1]; rfl, h⟩
      show Value.bool _ = _
      congr 1
      rw [decide_eq_decide]
      show (tz x : Int) ≥ _ ↔ win.trail ≤ tz x
      omega
     ·refine r_is (.bool false) (by congr 1; rw [decide_eq_false_iff_not]; omega) ?_
      refine r_v (q_moveB rfl) rfl ?_; (first | refine r_gd rfl rfl ?_ | refine r_gn rfl rfl rfl ?_ | refine r_gu rfl rfl ?_ | refine r_gd rfl (by assumption) ?_ | refine r_gn rfl (by assumption) rfl ?_); (first | refine r_gd rfl rfl ?_ | refine r_gn rfl rfl rfl ?_ | refine r_gu rfl rfl ?_ | refine r_gd rfl (by assumption) ?_ | refine r_gn rfl (by assumption) rfl ?_); (first | refine r_gd rfl rfl ?_ | refine r_gn rfl rfl rfl ?_ | refine r_gu rfl rfl ?_ | refine r_gd rfl (by assumption) ?_ | refine r_gn rfl (by assumption) rfl ?_); (first | refine r_gd rfl rfl ?_ | refine r_gn rfl rfl rfl ?_ | refine r_gu rfl rfl ?_ | refine r_gd rfl (by assumption) ?_ | refine r_gn rfl (by assumption) rfl ?_); (first | refine r_v (q_pick1 rfl rfl rfl) rfl ?_ | refine r_v (q_pick0 rfl rfl rfl) rfl ?_ | refine r_v (q_pick1 rfl (by assumption) rfl) rfl ?_ | refine r_v (q_pick0 rfl (by assumption) rfl) rfl ?_ | refine r_v (q_pickB rfl rfl rfl) rfl ?_)
      exact r_nil ⟨false, ⟨rfl, rfl, rfl, rfl, rfl, rfl, rfl, rfl, trivial⟩, by rw [hfit, hi, decide_eq_false h1]; rfl, h⟩
   clear h
   rintro k w e ⟨hk, h⟩
   have hw1 := hwo
   unfold WinOk at hw1
   refine c_cond k rfl (fun hc => ?_) (fun hc => ?_)
   ·
    rw [if_pos (by rw [← hk]; exact hc)] at he
    refine c_seq (c_region ?_)
    refine r_v (q_moveP rfl) rfl ?_
    refine r_c rfl (x_call rfl (rw_Put 0 1 (by decide) (by omega) h) ?_)
    rintro _ w ⟨rfl, h⟩
    refine r_nil ?_
    refine c_seq (c_region ?_)
    refine r_v (q_moveP rfl) rfl ?_; refine r_v (q_moveI rfl) rfl ?_; refine r_v (q_moveI rfl) rfl ?_; refine r_v (q_conv rfl) rfl ?_
    refine r_is (.int .u64 (win.trail : Int)) (by rw [wrap_u64, Nat.mod_eq_of_lt (by omega)]) ?_
    refine r_v (q_is (v' := .int .u64 ((x / 2 ^ win.trail : Nat) : Int)) (q_shr rfl rfl (by omega)) (congrArg (Value.int .u64) (fdiv_nat x win.trail _ (show win.trail ≤ 64 by omega)))) rfl ?_
    refine r_v (q_moveI rfl) rfl ?_; refine r_v (q_sub rfl rfl) rfl ?_
    refine r_is (.int .i64 ((64 - win.lead : Nat) : Int)) (by rw [wrap64 (by omega) (by omega)]; congr 1; omega) ?_
    refine r_v (q_moveI rfl) rfl ?_; refine r_v (q_sub rfl rfl) rfl ?_
    refine r_is (.int .i64 ((win.long : Nat) : Int)) (by unfold Win.long; rw [wrap64 (by omega) (by omega)]; congr 1; omega) ?_
    refine r_c rfl (x_call rfl (rw_Put (x / 2 ^ win.trail) win.long (Nat.lt_of_le_of_lt (Nat.div_le_self _ _) hx) (by rw [List.length_append, hl1, bitsOf_len, show heldN 1 = 1 from rfl]; omega) h) ?_)
    rintro _ w ⟨rfl, h⟩
    refine r_nil ?_
    refine c_exit ⟨(win, _), ⟨rfl, rfl, rfl, rfl, rfl, rfl, trivial⟩, hwo, ?_, h⟩
    rw [heldN_nat (win_long_le win), ← he]
    simp only [List.append_assoc]
    rfl
   rw [if_neg (by rw [← hk, hc]; simp)] at he
   refine c_skip ?_
   refine c_seq (c_region ?_)
   refine r_v (q_moveI rfl) rfl ?_
   refine r_c rfl (x_call rfl (ref4_ahead hx h) ?_)
   rintro _ w ⟨rfl, h⟩
   refine r_v (q_moveI rfl) rfl ?_
   refine r_c rfl (x_call rfl (ref4_behind hx0 hx h) ?_)
   rintro _ w ⟨rfl, h⟩
   replace l1 : (winOf x).lead + tz x + (winOf x).long = 64 := l1
   refine r_v (q_assignB rfl) rfl ?_; refine r_v (q_assignI rfl) rfl ?_; refine r_v (q_assignI rfl) rfl ?_
   refine r_nil ?_
   refine c_seq (c_region ?_)
   refine r_v (q_moveP rfl) rfl ?_
   refine r_c rfl (x_call rfl (rw_Put 1 1 (by decide) (by omega) h) ?_)
   rintro _ w ⟨rfl, h⟩
   have hl2 : (out ++ bitsOf 1 (heldN 1) ++ bitsOf 1 (heldN 1)).length = out.length + 2 := by rw [List.length_append, hl1]; rfl
   refine r_nil ?_
   refine c_seq (c_region ?_)
   refine r_v (q_moveP rfl) rfl ?_; refine r_v (q_moveI rfl) rfl ?_; refine r_v (q_conv rfl) rfl ?_
   refine r_is (.int .u64 ((winOf x).lead : Int)) (by rw [wrap_u64, Nat.mod_eq_of_lt (by omega)]) ?_
   refine r_c rfl (x_call rfl (rw_Put (winOf x).lead 5 (by omega) (by omega) h) ?_)
   rintro _ w ⟨rfl, h⟩
   refine r_nil ?_
   refine c_seq (c_region ?_)
   refine r_v (q_moveP rfl) rfl ?_; refine r_v (q_moveI rfl) rfl ?_; refine r_v (q_sub rfl rfl) rfl ?_
   refine r_is (.int .i64 ((63 - (winOf x).lead : Nat) : Int)) (by rw [wrap64 (by omega) (by omega)]; congr 1; omega) ?_
   refine r_v (q_moveI rfl) rfl ?_; refine r_v (q_sub rfl rfl) rfl ?_
   refine r_is (.int .i64 (((winOf x).long - 1 : Nat) : Int)) (by rw [wrap64 (by omega) (by omega)]; congr 1; omega) ?_
   refine r_v (q_conv rfl) rfl ?_
   refine r_is (.int .u64 (((winOf x).long - 1 : Nat) : Int)) (by rw [wrap_u64, Nat.mod_eq_of_lt (by omega)]) ?_
   refine r_c rfl (x_call rfl (rw_Put ((winOf x).long - 1) 6 (by omega) (by rw [List.length_append, hl2, bitsOf_len, show heldN 5 = 5 from rfl]; omega) h) ?_)
   rintro _ w ⟨rfl, h⟩
   refine r_nil ?_
   refine c_region ?_
   refine r_v (q_moveP rfl) rfl ?_; refine r_v (q_moveI rfl) rfl ?_; refine r_v (q_moveI rfl) rfl ?_; refine r_v (q_conv rfl) rfl ?_
   refine r_is (.int .u64 (tz x : Int)) (by rw [wrap_u64, Nat.mod_eq_of_lt (by omega)]) ?_
   refine r_v (q_is (v' := .int .u64 ((x / 2 ^ tz x : Nat) : Int)) (q_shr rfl rfl (by omega)) (congrArg (Value.int .u64) (fdiv_nat x (tz x) _ (show tz x ≤ 64 by omega)))) rfl ?_
   refine r_v (q_moveI rfl) rfl ?_; refine r_v (q_sub rfl rfl) rfl ?_
   refine r_is (.int .i64 ((64 - (winOf x).lead : Nat) : Int)) (by rw [wrap64 (by omega) (by omega)]; congr 1; omega) ?_
   refine r_v (q_moveI rfl) rfl ?_; refine r_v (q_sub rfl rfl) rfl ?_
   refine r_is (.int .i64 (((winOf x).long : Nat) : Int)) (by rw [wrap64 (by omega) (by omega)]; congr 1; omega) ?_
   refine r_c rfl (x_call rfl (rw_Put (x / 2 ^ tz x) (winOf x).long (Nat.lt_of_le_of_lt (Nat.div_le_self _ _) hx) (by rw [List.length_append, List.length_append, hl2, bitsOf_len, bitsOf_len, show heldN 5 = 5 from rfl, show heldN 6 = 6 from rfl]; omega) h) ?_)
   rintro _ w ⟨rfl, h⟩
   refine r_nil ⟨(winOf x, _), ⟨rfl, rfl, rfl, rfl, rfl, rfl, trivial⟩, winOk_of hx0 hx, ?_, h⟩
   rw [heldN_nat (by omega), ← he]
   simp only [List.append_assoc]
   rfl
  clear h
  rintro ⟨win, out⟩ w e ⟨hwo, he, h⟩
  dsimp only at hwo he h ⊢
  refine c_region ?_
  refine r_v (q_moveI rfl) rfl ?_; refine r_v (q_add rfl rfl) rfl ?_
  refine r_is (.int .i64 ((i + 1 : Nat) : Int)) (by rw [wrap64 (by omega) (by omega)]; rfl) ?_
  refine r_v (q_assignI rfl) rfl ?_
  refine r_nil ⟨(i + 1, win, out), ⟨rfl, rfl, rfl, rfl, rfl, rfl, trivial⟩, ⟨hlt, hwo, (fun h => by cases h), fun _ => ?_, h⟩, by dsimp only; omega⟩
  dsimp only
  rw [Nat.add_sub_cancel, hgd]
  exact he
 have hin' : i = vs.length := by simp at hc; omega
 refine c_exit ?_
 have : out = bs ++ xorBits vs := by
  rcases Nat.eq_zero_or_pos i with h0 | h0
  ·rw [(h00 h0).2]
   have : vs = [] := List.eq_nil_of_length_eq_zero (by omega)
   rw [this]; simp [xorBits]
  ·have := hnz h0
   rw [hin', List.drop_length, xorRest, List.append_nil] at this
   exact this
 rw [← this]
 exact (show (packv [] : Value) = .tuple #[] ∧ _ from ⟨rfl, h⟩)

theorem ref4_numbers {k : Nat} (hk : k < 16) (h : St w0 l w) : Ret Tryz.prog 117 [.int .i64 k] w fun v w' => v = .int .i64 (kNum k) ∧ St w0 l w' := by
 refine enter Tryz.func117 rfl Tryz.results117 Tryz.ntmps117 rfl ?_
 refine c_seq (c_region ?_)
 refine r_v (q_assignI rfl) rfl ?_
 refine r_nil ?_
 refine c_seq (c_region ?_)
 refine r_v (q_abuild (m := 16) (r := intsV numsL) (by kernel_rfl)) rfl ?_
 refine r_c rfl (x_alloc h fun b w h => ?_)
 refine r_c rfl (x_storeA (vs := intsV numsL) 0 h rfl rfl rfl rfl rfl rfl rfl fun w h => ?_)
 replace h : St w0 (pt b (.cells (intsV numsL).toArray 166 (0, 0)) :: l) w := h
 refine r_nil ?_
 refine c_seq (c_region ?_)
 refine r_v (q_moveI rfl) rfl ?_
 refine r_v (q_aidx (m := 16) (o' := k) rfl rfl rfl hk (by simp)) rfl ?_
 refine r_v (q_load (v := .int .i64 (kNum k)) rfl (h.b 0 rfl) (intsV_get (numsL_get k hk))) rfl ?_
 refine r_v (q_assignI rfl) rfl ?_
 exact r_nil (c_ret (bq1 ⟨rfl, h.drop⟩))
theorem ref4_bits {k : Nat} (hk : k < 16) (h : St w0 l w) : Ret Tryz.prog 118 [.int .i64 k] w fun v w' => v = .int .i64 (kBit k) ∧ St w0 l w' := by
 refine enter Tryz.func118 rfl Tryz.results118 Tryz.ntmps118 rfl ?_
 refine c_seq (c_region ?_)
 refine r_v (q_assignI rfl) rfl ?_
 refine r_nil ?_
 refine c_seq (c_region ?_)
 refine r_v (q_abuild (m := 16) (r := intsV bitsL) (by kernel_rfl)) rfl ?_
 refine r_c rfl (x_alloc h fun b w h => ?_)
 refine r_c rfl (x_storeA (vs := intsV bitsL) 0 h rfl rfl rfl rfl rfl rfl rfl fun w h => ?_)
 replace h : St w0 (pt b (.cells (intsV bitsL).toArray 166 (0, 0)) :: l) w := h
 refine r_nil ?_
 refine c_seq (c_region ?_)
 refine r_v (q_moveI rfl) rfl ?_
 refine r_v (q_aidx (m := 16) (o' := k) rfl rfl rfl hk (by simp)) rfl ?_
 refine r_v (q_load (v := .int .i64 (kBit k)) rfl (h.b 0 rfl) (intsV_get (bitsL_get k hk))) rfl ?_
 refine r_v (q_assignI rfl) rfl ?_
 exact r_nil (c_ret (bq1 ⟨rfl, h.drop⟩))

theorem ref4_fits {k : Nat} (hk : k < 16) {sl : Option Addr} {c : Nat} {u : List Nat} (hu : ∀ x ∈ u, x < 18446744073709551616) (hn : u.length ≤ 65535) (hr : Reads w0 l 1 sl u.length (u64V u)) (h : St w0 l w) :
  Ret Tryz.prog 116 [.slice sl u.length c, .int .i64 k] w fun v w' => v = .bool (fitsK (kNum k, kBit k) u).isSome ∧ St w0 l w' := by
 obtain ⟨k1, k2, k3, _⟩ := kinds_le k hk
 have k4 := kinds_two k hk
 refine enter Tryz.func116 rfl Tryz.results116 Tryz.ntmps116 rfl ?_
 refine c_seq (c_region ?_)
 refine r_v (q_assignB rfl) rfl ?_
 refine r_nil ?_
 refine c_cut (Γ := Unit) (fun _ => [(0, .slice sl u.length c), (1, .int .i64 k)]) (fun _ w => ¬ (kBit k = 0 ∧ u.length < kNum k) ∧ St w0 l w) ?_ ?_
 ·refine c_seq (c_region ?_)
  refine r_v (q_moveI rfl) rfl ?_; refine r_v (q_lss rfl rfl) rfl ?_
  by_cases h2 : k < 2
  ·refine r_is (.bool true) (by simp; omega) ?_
   refine r_v (q_moveB rfl) rfl ?_; (first | refine r_gd rfl rfl ?_ | refine r_gn rfl rfl rfl ?_ | refine r_gu rfl rfl ?_ | refine r_gd rfl (by assumption) ?_ | refine r_gn rfl (by assumption) rfl ?_); refine r_v (q_moveS rfl) rfl ?_; (first | refine r_gd rfl rfl ?_ | refine r_gn rfl rfl rfl ?_ | refine r_gu rfl rfl ?_ | refine r_gd rfl (by assumption) ?_ | refine r_gn rfl (by assumption) rfl ?_); refine r_v (q_len rfl) rfl ?_; (first | refine r_gd rfl rfl ?_ | refine r_gn rfl rfl rfl ?_ | refine r_gu rfl rfl ?_ | refine r_gd rfl (by assumption) ?_ | refine r_gn rfl (by assumption) rfl ?_); refine r_v (q_moveI rfl) rfl ?_; (first | refine r_gd rfl rfl ?_ | refine r_gn rfl rfl rfl ?_ | refine r_gu rfl rfl ?_ | refine r_gd rfl (by assumption) ?_ | refine r_gn rfl (by assumption) rfl ?_)
   refine r_c rfl (x_call rfl (ref4_numbers hk h) ?_)
   rintro _ w ⟨rfl, h⟩
   (first | refine r_gd rfl rfl ?_ | refine r_gn rfl rfl rfl ?_ | refine r_gu rfl rfl ?_ | refine r_gd rfl (by assumption) ?_ | refine r_gn rfl (by assumption) rfl ?_); refine r_v (q_lss rfl rfl) rfl ?_; (first | refine r_v (q_pick1 rfl rfl rfl) rfl ?_ | refine r_v (q_pick0 rfl rfl rfl) rfl ?_ | refine r_v (q_pick1 rfl (by assumption) rfl) rfl ?_ | refine r_v (q_pick0 rfl (by assumption) rfl) rfl ?_ | refine r_v (q_pickB rfl rfl rfl) rfl ?_)
   by_cases h3 : u.length < kNum k
   ·refine r_is (.bool true) (by simp; omega) ?_
    refine r_nil (c_true rfl ?_)
    refine c_seq (c_region ?_)
    refine r_v (q_assignB rfl) rfl ?_
    refine r_nil (c_ret (bq1 ⟨?_, h⟩))
    unfold fitsK
    rw [if_pos ⟨k4.1 h2, h3⟩]; rfl
   ·refine r_is (.bool false) (by simp; omega) ?_
    refine r_nil (c_false rfl (c_skip ⟨(), ⟨rfl, rfl, trivial⟩, fun hh => h3 hh.2, h⟩))
  ·refine r_is (.bool false) (by simp; omega) ?_
   refine r_v (q_moveB rfl) rfl ?_; (first | refine r_gd rfl rfl ?_ | refine r_gn rfl rfl rfl ?_ | refine r_gu rfl rfl ?_ | refine r_gd rfl (by assumption) ?_ | refine r_gn rfl (by assumption) rfl ?_); (first | refine r_gd rfl rfl ?_ | refine r_gn rfl rfl rfl ?_ | refine r_gu rfl rfl ?_ | refine r_gd rfl (by assumption) ?_ | refine r_gn rfl (by assumption) rfl ?_); (first | refine r_gd rfl rfl ?_ | refine r_gn rfl rfl rfl ?_ | refine r_gu rfl rfl ?_ | refine r_gd rfl (by assumption) ?_ | refine r_gn rfl (by assumption) rfl ?_); (first | refine r_gd rfl rfl ?_ | refine r_gn rfl rfl rfl ?_ | refine r_gu rfl rfl ?_ | refine r_gd rfl (by assumption) ?_ | refine r_gn rfl (by assumption) rfl ?_); (first | refine r_gd rfl rfl ?_ | refine r_gn rfl rfl rfl ?_ | refine r_gu rfl rfl ?_ | refine r_gd rfl (by assumption) ?_ | refine r_gn rfl (by assumption) rfl ?_); (first | refine r_v (q_pick1 rfl rfl rfl) rfl ?_ | refine r_v (q_pick0 rfl rfl rfl) rfl ?_ | refine r_v (q_pick1 rfl (by assumption) rfl) rfl ?_ | refine r_v (q_pick0 rfl (by assumption) rfl) rfl ?_ | refine r_v (q_pickB rfl rfl rfl) rfl ?_)
   refine r_nil (c_false rfl (c_skip ⟨(), ⟨rfl, rfl, trivial⟩, fun hh => h2 (k4.2 hh.1), h⟩))
 clear h
 rintro ⟨⟩ w e ⟨hno, h⟩
 have hfit : fitsK (kNum k, kBit k) u = if (u.take (kNum k)).all (fun x => decide (len64 x ≤ kBit k)) = true then some (min u.length (kNum k)) else none := by
  unfold fitsK
  rw [if_neg hno]
 refine c_cut (Γ := Unit) (fun _ => []) (fun _ w => (fitsK (kNum k, kBit k) u).isSome = true ∧ St w0 l w) ?_ ?_
 ·refine c_seq (c_region ?_)
  refine r_v (q_assignI rfl) rfl ?_
  refine r_nil ?_
  refine c_block ?_
  refine c_loop (Γ := Nat) (fun j => [(0, .slice sl u.length c), (1, .int .i64 k), (5, .int .i64 j)]) (fun j w => j ≤ u.length ∧ j ≤ kNum k ∧ (u.take j).all (fun x => decide (len64 x ≤ kBit k)) = true ∧ St w0 l w) (fun j => u.length - j) 0 ⟨rfl, rfl, rfl, trivial⟩ ⟨Nat.zero_le _, Nat.zero_le _, rfl, h⟩ ?_
  clear h
  rintro j w e ⟨hj, hj2, hall, h⟩
  refine c_seq (c_seq (c_region ?_))
  refine r_v (q_moveI rfl) rfl ?_; refine r_v (q_moveS rfl) rfl ?_; refine r_v (q_len rfl) rfl ?_; refine r_v (q_lss rfl rfl) rfl ?_
  by_cases hlt : j < u.length
  ·refine r_is (.bool true) (by simp; omega) ?_
   refine r_v (q_moveB rfl) rfl ?_; (first | refine r_gd rfl rfl ?_ | refine r_gn rfl rfl rfl ?_ | refine r_gu rfl rfl ?_ | refine r_gd rfl (by assumption) ?_ | refine r_gn rfl (by assumption) rfl ?_); refine r_v (q_moveI rfl) rfl ?_; (first | refine r_gd rfl rfl ?_ | refine r_gn rfl rfl rfl ?_ | refine r_gu rfl rfl ?_ | refine r_gd rfl (by assumption) ?_ | refine r_gn rfl (by assumption) rfl ?_); refine r_v (q_moveI rfl) rfl ?_; (first | refine r_gd rfl rfl ?_ | refine r_gn rfl rfl rfl ?_ | refine r_gu rfl rfl ?_ | refine r_gd rfl (by assumption) ?_ | refine r_gn rfl (by assumption) rfl ?_)
   refine r_c rfl (x_call rfl (ref4_numbers hk h) ?_)
   rintro _ w ⟨rfl, h⟩
   (first | refine r_gd rfl rfl ?_ | refine r_gn rfl rfl rfl ?_ | refine r_gu rfl rfl ?_ | refine r_gd rfl (by assumption) ?_ | refine r_gn rfl (by assumption) rfl ?_); refine r_v (q_lss rfl rfl) rfl ?_; (first | refine r_v (q_pick1 rfl rfl rfl) rfl ?_ | refine r_v (q_pick0 rfl rfl rfl) rfl ?_ | refine r_v (q_pick1 rfl (by assumption) rfl) rfl ?_ | refine r_v (q_pick0 rfl (by assumption) rfl) rfl ?_ | refine r_v (q_pickB rfl rfl rfl) rfl ?_)
   by_cases hlk : j < kNum k
   ·refine r_is (.bool true) (by simp; omega) ?_
    refine r_nil (c_true rfl (c_skip ?_))
    have hg := List.getElem?_eq_getElem hlt
    generalize u[j] = x at hg
    have hx := hu x (List.mem_of_getElem? hg)
    obtain ⟨b, o, hsl⟩ := (hr.at_ h).some (by omega)
    refine c_seq (c_block ?_)
    refine c_seq (c_any none (fun w => St w0 l w) (by kernel_rfl) (by kernel_rfl) h.drew fun w h => ?_)
    refine cur_pure rfl rfl rfl rfl (fun _ => h) (fun _ => flt_v rfl (q_moveS rfl)) ?_; refine cur_pure rfl rfl rfl rfl (fun _ => h) (fun _ => flt_v rfl (q_moveI rfl)) ?_
    refine cur_pure rfl rfl rfl rfl (fun _ => h) (fun _ => flt_v rfl (q_idx (b := b) (o := o) (m := u.length) (c := c) (o' := o + j) (by rw [← hsl]; rfl) rfl rfl hlt (by simp))) ?_
    refine cur_float rfl rfl rfl rfl h (fun _ h => flt_v rfl (q_loadc (v := .int .u64 x) rfl ((hsl ▸ hr.at_ h).cell (u64V_get hg)))) ?_
    refine cur_pure rfl rfl rfl rfl (fun _ => h) (fun _ => flt_v rfl (q_moveI rfl)) ?_; refine cur_skip ?_; refine cur_skip ?_; refine cur_skip ?_; refine cur_skip ?_
    refine cur_one 5 rfl rfl rfl rfl ?_
    refine (x_call rfl (ref4_bits hk h) ?_)
    rintro _ w ⟨rfl, h⟩
    refine ⟨fun _ => h, ?_⟩
    refine cur_pure rfl rfl rfl rfl (fun _ => h) (fun _ => flt_v rfl (q_is (v' := .int .u64 (kBit k : Int)) (q_conv rfl) (by rw [wrap_u64, Nat.mod_eq_of_lt (by omega)]))) ?_
    refine cur_pure rfl rfl rfl rfl (fun _ => h) (fun _ => flt_v rfl (q_is (v' := .int .u64 ((x / 2 ^ kBit k : Nat) : Int)) (q_shr rfl rfl (by omega)) (congrArg (Value.int .u64) (fdiv_nat x (kBit k) _ (show kBit k ≤ 64 by omega))))) ?_
    refine cur_pure rfl rfl rfl rfl (fun _ => h) (fun _ => flt_v rfl (q_neq rfl rfl)) ?_
    refine cur_end ?_
    refine c_cond (((x / 2 ^ kBit k : Nat) : Int) != 0) rfl (fun hc => ?_) (fun hc => ?_)
    ·have hb : ¬ len64 x ≤ kBit k := fun hh => by rw [le_lead.2 hh] at hc; simp at hc
     refine c_seq (c_region ?_)
     refine r_v (q_assignB rfl) rfl ?_
     refine r_nil (c_ret (bq1 ⟨?_, h⟩))
     rw [hfit, if_neg]
     ·rfl
     ·intro hh
      rw [List.all_eq_true] at hh
      have hm : x ∈ u.take (kNum k) := by
       have : (u.take (kNum k))[j]? = some x := by rw [List.getElem?_take, if_pos hlk, hg]
       exact List.mem_of_getElem? this
      exact hb (by simpa using hh x hm)
    ·have hb : len64 x ≤ kBit k := le_lead.1 (by rw [bne_eq_false_iff_eq] at hc; omega)
     refine c_skip ?_
     refine c_region ?_
     refine r_v (q_moveI rfl) rfl ?_; refine r_v (q_add rfl rfl) rfl ?_
     refine r_is (.int .i64 ((j + 1 : Nat) : Int)) (by rw [wrap64 (by omega) (by omega)]; rfl) ?_
     refine r_v (q_assignI rfl) rfl ?_
     exact r_nil ⟨j + 1, ⟨rfl, rfl, rfl, trivial⟩, ⟨hlt, hlk, all_take_succ _ hg hall (by simpa using hb), h⟩, by omega⟩
   ·refine r_is (.bool false) (by simp; omega) ?_
    obtain rfl : j = kNum k := by omega
    refine r_nil (c_false rfl (c_exit ⟨(), trivial, ?_, h⟩))
    rw [hfit, if_pos hall]; rfl
  ·refine r_is (.bool false) (by simp; omega) ?_
   refine r_v (q_moveB rfl) rfl ?_; (first | refine r_gd rfl rfl ?_ | refine r_gn rfl rfl rfl ?_ | refine r_gu rfl rfl ?_ | refine r_gd rfl (by assumption) ?_ | refine r_gn rfl (by assumption) rfl ?_); (first | refine r_gd rfl rfl ?_ | refine r_gn rfl rfl rfl ?_ | refine r_gu rfl rfl ?_ | refine r_gd rfl (by assumption) ?_ | refine r_gn rfl (by assumption) rfl ?_); (first | refine r_gd rfl rfl ?_ | refine r_gn rfl rfl rfl ?_ | refine r_gu rfl rfl ?_ | refine r_gd rfl (by assumption) ?_ | refine r_gn rfl (by assumption) rfl ?_); (first | refine r_gd rfl rfl ?_ | refine r_gn rfl rfl rfl ?_ | refine r_gu rfl rfl ?_ | refine r_gd rfl (by assumption) ?_ | refine r_gn rfl (by assumption) rfl ?_); (first | refine r_v (q_pick1 rfl rfl rfl) rfl ?_ | refine r_v (q_pick0 rfl rfl rfl) rfl ?_ | refine r_v (q_pick1 rfl (by assumption) rfl) rfl ?_ | refine r_v (q_pick0 rfl (by assumption) rfl) rfl ?_ | refine r_v (q_pickB rfl rfl rfl) rfl ?_)
   refine r_nil (c_false rfl (c_exit ⟨(), trivial, ?_, h⟩))
   rw [hfit, if_pos]
   ·rfl
   ·rw [List.take_of_length_le (by omega)] at hall ⊢; exact hall
 clear h
 rintro ⟨⟩ w e ⟨hs, h⟩
 rw [hs]
 refine c_seq (c_region ?_)
 refine r_v (q_assignB rfl) rfl ?_
 exact r_nil (c_ret (bq1 ⟨rfl, h⟩))

theorem ref4_width {x : Nat} (hx : x < 18446744073709551616) (h : St w0 l w) : Ret Tryz.prog 120 [.int .u64 x] w fun v w' => v = .int .i64 (len64 x) ∧ St w0 l w' := by
 have h64 := len64_64 hx
 refine enter Tryz.func120 rfl Tryz.results120 Tryz.ntmps120 rfl ?_
 refine c_seq (c_region ?_)
 refine r_v (q_assignI rfl) rfl ?_
 refine r_nil ?_
 refine c_seq (c_region ?_)
 refine r_v (q_assignI rfl) rfl ?_
 refine r_nil ?_
 refine c_cut (Γ := Unit) (fun _ => [(3, .int .i64 (len64 x : Nat))]) (fun _ w => St w0 l w) ?_ ?_
 ·refine c_block ?_
  refine c_loop (Γ := Nat) (fun k => [(0, .int .u64 x), (3, .int .i64 k)]) (fun k w => k ≤ len64 x ∧ St w0 l w) (fun k => 64 - k) 0 ⟨rfl, rfl, trivial⟩ ⟨Nat.zero_le _, h⟩ ?_
  clear h
  rintro n w e ⟨hn, h⟩
  refine c_seq (c_seq (c_region ?_))
  refine r_v (q_moveI rfl) rfl ?_; refine r_v (q_lss rfl rfl) rfl ?_
  by_cases hl : n < 64
  ·refine r_is (.bool true) (by simp; omega) ?_
   refine r_v (q_moveB rfl) rfl ?_; (first | refine r_gd rfl rfl ?_ | refine r_gn rfl rfl rfl ?_ | refine r_gu rfl rfl ?_ | refine r_gd rfl (by assumption) ?_ | refine r_gn rfl (by assumption) rfl ?_); refine r_v (q_moveI rfl) rfl ?_; (first | refine r_gd rfl rfl ?_ | refine r_gn rfl rfl rfl ?_ | refine r_gu rfl rfl ?_ | refine r_gd rfl (by assumption) ?_ | refine r_gn rfl (by assumption) rfl ?_); refine r_v (q_moveI rfl) rfl ?_; (first | refine r_gd rfl rfl ?_ | refine r_gn rfl rfl rfl ?_ | refine r_gu rfl rfl ?_ | refine r_gd rfl (by assumption) ?_ | refine r_gn rfl (by assumption) rfl ?_); refine r_v (q_conv rfl) rfl ?_
   refine r_is (.int .u64 (n : Int)) (by rw [wrap_u64, Nat.mod_eq_of_lt (by omega)]) ?_
   (first | refine r_gd rfl rfl ?_ | refine r_gn rfl rfl rfl ?_ | refine r_gu rfl rfl ?_ | refine r_gd rfl (by assumption) ?_ | refine r_gn rfl (by assumption) rfl ?_)
   refine r_v (q_is (v' := .int .u64 ((x / 2 ^ n : Nat) : Int)) (q_shr rfl rfl (by omega)) (congrArg (Value.int .u64) (fdiv_nat x n _ (show n ≤ 64 by omega)))) rfl ?_
   (first | refine r_gd rfl rfl ?_ | refine r_gn rfl rfl rfl ?_ | refine r_gu rfl rfl ?_ | refine r_gd rfl (by assumption) ?_ | refine r_gn rfl (by assumption) rfl ?_); refine r_v (q_neq rfl rfl) rfl ?_; (first | refine r_v (q_pick1 rfl rfl rfl) rfl ?_ | refine r_v (q_pick0 rfl rfl rfl) rfl ?_ | refine r_v (q_pick1 rfl (by assumption) rfl) rfl ?_ | refine r_v (q_pick0 rfl (by assumption) rfl) rfl ?_ | refine r_v (q_pickB rfl rfl rfl) rfl ?_)
   by_cases h0 : x / 2 ^ n = 0
   ·refine r_is (.bool false) (by rw [h0]; rfl) ?_
    have := le_lead.1 h0
    obtain rfl : n = len64 x := by omega
    exact r_nil (c_false rfl (c_exit ⟨(), ⟨rfl, trivial⟩, h⟩))
   ·refine r_is (.bool true) (by congr 1; rw [bne_iff_ne]; omega) ?_
    have : ¬ len64 x ≤ n := fun hh => h0 (le_lead.2 hh)
    refine r_nil (c_true rfl (c_skip ?_))
    refine c_block ?_
    refine c_region ?_
    refine r_v (q_moveI rfl) rfl ?_; refine r_v (q_add rfl rfl) rfl ?_
    refine r_is (.int .i64 ((n + 1 : Nat) : Int)) (by rw [wrap64 (by omega) (by omega)]; rfl) ?_
    refine r_v (q_assignI rfl) rfl ?_
    exact r_nil ⟨n + 1, ⟨rfl, rfl, trivial⟩, ⟨by omega, h⟩, by omega⟩
  ·refine r_is (.bool false) (by simp; omega) ?_
   refine r_v (q_moveB rfl) rfl ?_; (first | refine r_gd rfl rfl ?_ | refine r_gn rfl rfl rfl ?_ | refine r_gu rfl rfl ?_ | refine r_gd rfl (by assumption) ?_ | refine r_gn rfl (by assumption) rfl ?_); (first | refine r_gd rfl rfl ?_ | refine r_gn rfl rfl rfl ?_ | refine r_gu rfl rfl ?_ | refine r_gd rfl (by assumption) ?_ | refine r_gn rfl (by assumption) rfl ?_); (first | refine r_gd rfl rfl ?_ | refine r_gn rfl rfl rfl ?_ | refine r_gu rfl rfl ?_ | refine r_gd rfl (by assumption) ?_ | refine r_gn rfl (by assumption) rfl ?_); (first | refine r_gd rfl rfl ?_ | refine r_gn rfl rfl rfl ?_ | refine r_gu rfl rfl ?_ | refine r_gd rfl (by assumption) ?_ | refine r_gn rfl (by assumption) rfl ?_); (first | refine r_gd rfl rfl ?_ | refine r_gn rfl rfl rfl ?_ | refine r_gu rfl rfl ?_ | refine r_gd rfl (by assumption) ?_ | refine r_gn rfl (by assumption) rfl ?_); (first | refine r_v (q_pick1 rfl rfl rfl) rfl ?_ | refine r_v (q_pick0 rfl rfl rfl) rfl ?_ | refine r_v (q_pick1 rfl (by assumption) rfl) rfl ?_ | refine r_v (q_pick0 rfl (by assumption) rfl) rfl ?_ | refine r_v (q_pickB rfl rfl rfl) rfl ?_)
   obtain rfl : n = len64 x := by omega
   exact r_nil (c_false rfl (c_exit ⟨(), ⟨rfl, trivial⟩, h⟩))
 clear h
 rintro ⟨⟩ w e h
 refine c_seq (c_region ?_)
 refine r_v (q_moveI rfl) rfl ?_; refine r_v (q_assignI rfl) rfl ?_
 exact r_nil (c_ret (bq1 ⟨rfl, h⟩))
theorem ref4_place {sl : Option Addr} {c : Nat} {m : List Nat} (v : Nat) (hn : m.length ≤ 65535) (hr : Reads w0 l 1 sl m.length (u64V m)) (h : St w0 l w) :
  Ret Tryz.prog 121 [.slice sl m.length c, .int .u64 v] w fun r w' => r = .int .i64 (if v ∈ m then ((m.idxOf v : Nat) : Int) else -1) ∧ St w0 l w' := by
 refine enter Tryz.func121 rfl Tryz.results121 Tryz.ntmps121 rfl ?_
 refine c_seq (c_region ?_)
 refine r_v (q_assignI rfl) rfl ?_
 refine r_nil ?_
 refine c_cut (Γ := Unit) (fun _ => []) (fun _ w => v ∉ m ∧ St w0 l w) ?_ ?_
 ·refine c_seq (c_region ?_)
  refine r_v (q_assignI rfl) rfl ?_
  refine r_nil ?_
  refine c_block ?_
  refine c_loop (Γ := Nat) (fun k => [(0, .slice sl m.length c), (1, .int .u64 v), (5, .int .i64 k)]) (fun k w => k ≤ m.length ∧ v ∉ m.take k ∧ St w0 l w) (fun k => m.length - k) 0 ⟨rfl, rfl, rfl, trivial⟩ ⟨Nat.zero_le _, by simp, h⟩ ?_
  clear h
  rintro k w e ⟨hk, hno, h⟩
  refine c_seq (c_seq (c_region ?_))
  refine r_v (q_moveI rfl) rfl ?_; refine r_v (q_moveS rfl) rfl ?_; refine r_v (q_len rfl) rfl ?_; refine r_v (q_lss rfl rfl) rfl ?_
  refine r_nil ?_
  refine c_cond (decide ((k : Int) < (m.length : Int))) rfl (fun hc => ?_) (fun hc => ?_)
  ·have hlt : k < m.length := by simp at hc; omega
   have hg := List.getElem?_eq_getElem hlt
   have hdr := List.drop_eq_getElem_cons hlt
   generalize m[k] = x at hg hdr
   obtain ⟨b, o, hsl⟩ := (hr.at_ h).some (by omega)
   refine c_skip ?_
   refine c_seq (c_block ?_)
   refine c_seq (c_region ?_)
   refine r_v (q_moveS rfl) rfl ?_; refine r_v (q_moveI rfl) rfl ?_
   refine r_v (q_idx (b := b) (o := o) (m := m.length) (c := c) (o' := o + k) (by rw [← hsl]; rfl) rfl rfl hlt (by simp)) rfl ?_
   refine r_v (q_loadc (v := .int .u64 x) rfl ((hsl ▸ hr.at_ h).cell (u64V_get hg))) rfl ?_
   refine r_v (q_moveI rfl) rfl ?_; refine r_v (q_eql rfl rfl) rfl ?_
   by_cases hx : x = v
   ·refine r_is (.bool true) (by rw [hx]; simp) ?_
    refine r_nil (c_true rfl ?_)
    refine c_seq (c_region ?_)
    refine r_v (q_moveI rfl) rfl ?_; refine r_v (q_assignI rfl) rfl ?_
    refine r_nil (c_ret (bq1 ⟨?_, h⟩))
    have hsp : m = m.take k ++ (x :: m.drop (k + 1)) := by rw [← hdr, List.take_append_drop]
    have hmem : v ∈ m := by rw [hsp, hx]; simp
    have hidx : m.idxOf v = k := by
     rw [hsp, List.idxOf_append, if_neg hno, hx, List.idxOf_cons_self, List.length_take]
     omega
    rw [if_pos hmem, hidx]
    rfl
   ·refine r_is (.bool false) (by congr 1; rw [beq_eq_false_iff_ne]; omega) ?_
    refine r_nil (c_false rfl (c_skip ?_))
    refine c_region ?_
    refine r_v (q_moveI rfl) rfl ?_; refine r_v (q_add rfl rfl) rfl ?_
    refine r_is (.int .i64 ((k + 1 : Nat) : Int)) (by rw [wrap64 (by omega) (by omega)]; rfl) ?_
    refine r_v (q_assignI rfl) rfl ?_
    refine r_nil ⟨k + 1, ⟨rfl, rfl, rfl, trivial⟩, ⟨hlt, ?_, h⟩, by omega⟩
    rw [List.take_add_one, hg]
    simp only [List.mem_append, not_or]
    exact ⟨hno, by simpa using fun hh => hx hh.symm⟩
  ·obtain rfl : k = m.length := by simp at hc; omega
   rw [List.take_length] at hno
   exact c_exit ⟨(), trivial, hno, h⟩
 clear h
 rintro ⟨⟩ w e ⟨hno, h⟩
 rw [if_neg hno]
 refine c_seq (c_region ?_)
 refine r_v (q_assignI rfl) rfl ?_
 exact r_nil (c_ret (bq1 ⟨rfl, h⟩))
end
end Go.Proofs.YtjjacchnalemaaaGreatDoor

namespace Go.Proofs.YtjjacchnalemaaaGreatDoor
open Go.Hw
set_option maxHeartbeats 4000000
set_option maxRecDepth 100000
section
variable {w0 w : World} {l : List HProp}
theorem ref4_Simple {sl : Option Addr} {c : Nat} {u : List Nat} (hu : ∀ x ∈ u, x < 18446744073709551616) (hn : u.length ≤ 65535) (hcl : u.length ≤ c) (hr : Reads w0 l 1 sl u.length (u64V u)) (h : St w0 l w) :
  Ret Tryz.prog 74 [.slice sl u.length c] w fun v w' => ∃ a c', v = .tuple [.slice a ((simpEnc u).getD []).length c', .bool (simpEnc u).isSome].toArray ∧ St w0 (OwnU a c' ((simpEnc u).getD []) :: l) w' := by
 refine enter Tryz.func74 rfl Tryz.results74 Tryz.ntmps74 rfl ?_
 refine c_seq (c_region ?_)
 refine r_v (q_assignS rfl) rfl ?_; refine r_v (q_assignB rfl) rfl ?_
 refine r_nil ?_
 refine c_seq (c_region ?_)
 refine r_v (q_assignS rfl) rfl ?_
 refine r_nil ?_
 refine c_cut (Γ := List Nat × Option Addr × Nat) (fun q => [(4, .slice q.2.1 q.1.length q.2.2)]) (fun q w => simpEnc u = some q.1 ∧ St w0 (OwnU q.2.1 q.2.2 q.1 :: l) w) ?_ ?_
 ·refine c_seq (c_region ?_)
  refine r_v (q_assignI rfl) rfl ?_
  refine r_nil ?_
  refine c_block ?_
  refine c_loop (Γ := Nat × List Nat × Option Addr × Nat) (fun k => [(0, .slice sl u.length c), (4, .slice k.2.2.1 k.2.1.length k.2.2.2), (5, .int .i64 k.1)])
   (fun k w => k.1 ≤ u.length ∧ k.2.1.length ≤ k.1 ∧ (simpEnc (u.drop k.1)).map (fun r => k.2.1 ++ r) = simpEnc u ∧ St w0 (OwnU k.2.2.1 k.2.2.2 k.2.1 :: l) w) (fun k => u.length - k.1) (0, [], none, 0) ⟨rfl, rfl, rfl, trivial⟩ ⟨Nat.zero_le _, Nat.zero_le _, by simp, St.ownNil 51 1 h⟩ ?_
  clear h
  rintro ⟨at', out, oa, oc⟩ w e ⟨hat, hol, he, h⟩
  dsimp only at hat hol he h ⊢
  refine c_seq (c_seq (c_region ?_))
  refine r_v (q_moveI rfl) rfl ?_; refine r_v (q_moveS rfl) rfl ?_; refine r_v (q_len rfl) rfl ?_; refine r_v (q_lss rfl rfl) rfl ?_
  refine r_nil ?_
  refine c_cond (decide ((at' : Int) < (u.length : Int))) rfl (fun hc => ?_) (fun hc => ?_)
  ·have hlt : at' < u.length := by simp at hc; omega
   have hne : u.drop at' ≠ [] := fun hh => by have := congrArg List.length hh; simp at this; omega
   have hdl : (u.drop at').length = u.length - at' := List.length_drop
   have hud : ∀ x ∈ u.drop at', x < 18446744073709551616 := fun x hx => hu x (List.mem_of_mem_drop hx)
   refine c_skip ?_
   refine c_block ?_
   refine c_seq (c_region ?_)
   refine r_v (q_assignI rfl) rfl ?_
   refine r_nil ?_
   refine c_cut (Γ := Nat) (fun k => [(0, .slice sl u.length c), (4, .slice oa out.length oc), (5, .int .i64 at'), (6, .int .i64 k)])
    (fun k w => k ≤ 16 ∧ wordA k (kindsL.drop k) (u.drop at') = wordA 0 kindsL (u.drop at') ∧ (k < 16 → (fitsK (kNum k, kBit k) (u.drop at')).isSome = true) ∧ St w0 (OwnU oa oc out :: l) w) ?_ ?_
   ·refine c_block ?_
    refine c_loop (Γ := Nat) (fun k => [(0, .slice sl u.length c), (4, .slice oa out.length oc), (5, .int .i64 at'), (6, .int .i64 k)])
     (fun k w => k ≤ 16 ∧ wordA k (kindsL.drop k) (u.drop at') = wordA 0 kindsL (u.drop at') ∧ St w0 (OwnU oa oc out :: l) w) (fun k => 16 - k) 0 ⟨rfl, rfl, rfl, rfl, trivial⟩ ⟨Nat.zero_le _, rfl, h⟩ ?_
    clear h
    rintro k w e ⟨hk, hw, h⟩
    refine c_seq (c_seq (c_region ?_))
    refine r_v (q_moveI rfl) rfl ?_; refine r_v (q_lss rfl rfl) rfl ?_
    by_cases hlk : k < 16
    ·refine r_is (.bool true) (by simp; omega) ?_
     have hdr := List.drop_eq_getElem_cons (show k < kindsL.length from hlk)
     have hka := kinds_at hlk
     rw [List.getElem?_eq_getElem (show k < kindsL.length from hlk)] at hka
     rw [Option.some.inj hka] at hdr
     rw [hdr, wordA] at hw
     refine r_v (q_moveB rfl) rfl ?_; (first | refine r_gd rfl rfl ?_ | refine r_gn rfl rfl rfl ?_ | refine r_gu rfl rfl ?_ | refine r_gd rfl (by assumption) ?_ | refine r_gn rfl (by assumption) rfl ?_); refine r_v (q_moveS rfl) rfl ?_; (first | refine r_gd rfl rfl ?_ | refine r_gn rfl rfl rfl ?_ | refine r_gu rfl rfl ?_ | refine r_gd rfl (by assumption) ?_ | refine r_gn rfl (by assumption) rfl ?_); refine r_v (q_moveI rfl) rfl ?_; (first | refine r_gd rfl rfl ?_ | refine r_gn rfl rfl rfl ?_ | refine r_gu rfl rfl ?_ | refine r_gd rfl (by assumption) ?_ | refine r_gn rfl (by assumption) rfl ?_)
     refine r_v (q_tail (i := at') rfl rfl hat) rfl ?_
     refine r_is (.slice (adv sl (at' * 1) (Nat.beq c at')) (u.drop at').length (c - at')) (by rw [hdl]; rfl) ?_
     (first | refine r_gd rfl rfl ?_ | refine r_gn rfl rfl rfl ?_ | refine r_gu rfl rfl ?_ | refine r_gd rfl (by assumption) ?_ | refine r_gn rfl (by assumption) rfl ?_); refine r_v (q_moveI rfl) rfl ?_; (first | refine r_gd rfl rfl ?_ | refine r_gn rfl rfl rfl ?_ | refine r_gu rfl rfl ?_ | refine r_gd rfl (by assumption) ?_ | refine r_gn rfl (by assumption) rfl ?_)
     refine r_c rfl (x_call rfl (ref4_fits hlk hud (by omega) (reads_drop hr.cons hat hcl) h) ?_)
     rintro _ w ⟨rfl, h⟩
     (first | refine r_gd rfl rfl ?_ | refine r_gn rfl rfl rfl ?_ | refine r_gu rfl rfl ?_ | refine r_gd rfl (by assumption) ?_ | refine r_gn rfl (by assumption) rfl ?_); refine r_v (q_not rfl) rfl ?_; (first | refine r_v (q_pick1 rfl rfl rfl) rfl ?_ | refine r_v (q_pick0 rfl rfl rfl) rfl ?_ | refine r_v (q_pick1 rfl (by assumption) rfl) rfl ?_ | refine r_v (q_pick0 rfl (by assumption) rfl) rfl ?_ | refine r_v (q_pickB rfl rfl rfl) rfl ?_)
     cases hf : fitsK (kNum k, kBit k) (u.drop at') with
     | none =>
      rw [hf] at hw
      refine r_nil (c_true rfl (c_skip ?_))
      refine c_block ?_
      refine c_region ?_
      refine r_v (q_moveI rfl) rfl ?_; refine r_v (q_add rfl rfl) rfl ?_
      refine r_is (.int .i64 ((k + 1 : Nat) : Int)) (by rw [wrap64 (by omega) (by omega)]; rfl) ?_
      refine r_v (q_assignI rfl) rfl ?_
      exact r_nil ⟨k + 1, ⟨rfl, rfl, rfl, rfl, trivial⟩, ⟨hlk, hw, h⟩, by omega⟩
     | some n =>
      refine r_nil (c_false rfl (c_exit ⟨k, ⟨rfl, rfl, rfl, rfl, trivial⟩, hk, ?_, fun _ => by rw [hf]; rfl, h⟩))
      rw [hdr, wordA]
      exact hw
    ·refine r_is (.bool false) (by simp; omega) ?_
     refine r_v (q_moveB rfl) rfl ?_; (first | refine r_gd rfl rfl ?_ | refine r_gn rfl rfl rfl ?_ | refine r_gu rfl rfl ?_ | refine r_gd rfl (by assumption) ?_ | refine r_gn rfl (by assumption) rfl ?_); (first | refine r_gd rfl rfl ?_ | refine r_gn rfl rfl rfl ?_ | refine r_gu rfl rfl ?_ | refine r_gd rfl (by assumption) ?_ | refine r_gn rfl (by assumption) rfl ?_); (first | refine r_gd rfl rfl ?_ | refine r_gn rfl rfl rfl ?_ | refine r_gu rfl rfl ?_ | refine r_gd rfl (by assumption) ?_ | refine r_gn rfl (by assumption) rfl ?_); (first | refine r_gd rfl rfl ?_ | refine r_gn rfl rfl rfl ?_ | refine r_gu rfl rfl ?_ | refine r_gd rfl (by assumption) ?_ | refine r_gn rfl (by assumption) rfl ?_); (first | refine r_gd rfl rfl ?_ | refine r_gn rfl rfl rfl ?_ | refine r_gu rfl rfl ?_ | refine r_gd rfl (by assumption) ?_ | refine r_gn rfl (by assumption) rfl ?_); (first | refine r_gd rfl rfl ?_ | refine r_gn rfl rfl rfl ?_ | refine r_gu rfl rfl ?_ | refine r_gd rfl (by assumption) ?_ | refine r_gn rfl (by assumption) rfl ?_); (first | refine r_v (q_pick1 rfl rfl rfl) rfl ?_ | refine r_v (q_pick0 rfl rfl rfl) rfl ?_ | refine r_v (q_pick1 rfl (by assumption) rfl) rfl ?_ | refine r_v (q_pick0 rfl (by assumption) rfl) rfl ?_ | refine r_v (q_pickB rfl rfl rfl) rfl ?_)
     exact r_nil (c_false rfl (c_exit ⟨k, ⟨rfl, rfl, rfl, rfl, trivial⟩, hk, hw, fun hh => absurd hh hlk, h⟩))
   clear h
   rintro k w e ⟨hk, hw, hfit, h⟩
   refine c_seq (c_seq (c_region ?_))
   refine r_v (q_moveI rfl) rfl ?_; refine r_v (q_eql rfl rfl) rfl ?_
   by_cases h16 : k = 16
   ·refine r_is (.bool true) (by rw [h16]; rfl) ?_
    refine r_nil (c_true rfl ?_)
    refine c_seq (c_region ?_)
    refine r_v (q_assignS rfl) rfl ?_; refine r_v (q_assignB rfl) rfl ?_
    refine r_nil ?_
    rw [h16] at hw
    rw [simpEnc_none hne hw.symm] at he
    rw [← he]
    exact c_ret (bq2 ⟨none, 0, rfl, St.ownNil _ _ h.drop⟩)
   refine r_is (.bool false) (by congr 1; rw [beq_eq_false_iff_ne]; omega) ?_
   refine r_nil (c_false rfl (c_skip ?_))
   have hlk : k < 16 := by omega
   obtain ⟨k1, k2, k3, k60⟩ := kinds_le k hlk
   have hdr := List.drop_eq_getElem_cons (show k < kindsL.length from hlk)
   have hka := kinds_at hlk
   rw [List.getElem?_eq_getElem (show k < kindsL.length from hlk)] at hka
   rw [Option.some.inj hka] at hdr
   rw [hdr, wordA] at hw
   obtain ⟨m, hf⟩ := Option.isSome_iff_exists.1 (hfit hlk)
   rw [hf] at hw
   obtain ⟨f1, f2, f3⟩ := fitsK_some hf
   dsimp only at f1 f2
   rw [hdl] at f1
   rw [simpEnc_some hne hw.symm, Option.map_map, List.drop_drop] at he
   refine c_seq (c_region ?_)
   refine r_v (q_moveI rfl) rfl ?_; refine r_v (q_conv rfl) rfl ?_
   refine r_is (.int .u64 (k : Int)) (by rw [wrap_u64, Nat.mod_eq_of_lt (by omega)]) ?_
   refine r_v (q_is (v' := .int .u64 ((k * 1152921504606846976 + packW (kBit k) ((u.drop at').take 0) : Nat) : Int)) (q_shl rfl rfl (by omega)) (by rw [show IntKind.u64.wrap ((k : Int) * 2 ^ (min (60 : Int).toNat IntKind.u64.bits)) = ((k * 2 ^ 60 % 18446744073709551616 : Nat) : Int) from shl_u64 k 60 (by decide), Nat.mod_eq_of_lt (by omega)]; simp [packW])) rfl ?_
   refine r_v (q_assignI rfl) rfl ?_
   refine r_nil ?_
   refine c_seq (c_region ?_)
   refine r_v (q_moveI rfl) rfl ?_
   refine r_c rfl (x_call rfl (ref4_numbers hlk h) ?_)
   rintro _ w ⟨rfl, h⟩
   refine r_v (q_moveS rfl) rfl ?_; refine r_v (q_len rfl) rfl ?_; refine r_v (q_moveI rfl) rfl ?_; refine r_v (q_sub rfl rfl) rfl ?_
   refine r_is (.int .i64 ((u.length - at' : Nat) : Int)) (by rw [wrap64 (by omega) (by omega)]; congr 1; omega) ?_
   refine r_v (q_min rfl rfl) rfl ?_
   refine r_is (.int .i64 ((m : Nat) : Int)) (by congr 1; omega) ?_
   refine r_v (q_assignI rfl) rfl ?_
   refine r_nil ?_
   have hm1 : 0 < m := by omega
   refine c_cut (Γ := Unit) (fun _ => [(0, .slice sl u.length c), (4, .slice oa out.length oc), (5, .int .i64 at'), (7, .int .u64 ((k * 1152921504606846976 + packW (kBit k) ((u.drop at').take m) : Nat) : Int)), (8, .int .i64 m)]) (fun _ w => St w0 (OwnU oa oc out :: l) w) ?_ ?_
   ·refine c_seq (c_region ?_)
    refine r_v (q_assignI rfl) rfl ?_
    refine r_nil ?_
    refine c_block ?_
    refine c_loop (Γ := Nat) (fun j => [(0, .slice sl u.length c), (4, .slice oa out.length oc), (5, .int .i64 at'), (6, .int .i64 k), (7, .int .u64 ((k * 1152921504606846976 + packW (kBit k) ((u.drop at').take j) : Nat) : Int)), (8, .int .i64 m), (9, .int .i64 j)])
     (fun j w => j ≤ m ∧ St w0 (OwnU oa oc out :: l) w) (fun j => m - j) 0 ⟨rfl, rfl, rfl, rfl, rfl, rfl, rfl, trivial⟩ ⟨Nat.zero_le _, h⟩ ?_
    clear h
    rintro j w e ⟨hj, h⟩
    refine c_seq (c_seq (c_region ?_))
    refine r_v (q_moveI rfl) rfl ?_; refine r_v (q_moveI rfl) rfl ?_; refine r_v (q_lss rfl rfl) rfl ?_
    refine r_nil ?_
    refine c_cond (decide ((j : Int) < (m : Int))) rfl (fun hc => ?_) (fun hc => ?_)
    ·have hjm : j < m := by simp at hc; omega
     have hgu : (u.drop at')[j]? = some (u[at' + j]'(by omega)) := by rw [List.getElem?_drop, List.getElem?_eq_getElem]
     have hgx : u[at' + j]? = some (u[at' + j]'(by omega)) := List.getElem?_eq_getElem _
     generalize u[at' + j]'(by omega) = x at hgu hgx
     have hxb : x < 2 ^ kBit k := f2 x (by
      have : ((u.drop at').take m)[j]? = some x := by rw [List.getElem?_take, if_pos hjm, hgu]
      exact List.mem_of_getElem? this)
     have hsum : packW (kBit k) ((u.drop at').take (j + 1)) = packW (kBit k) ((u.drop at').take j) + 2 ^ (kBit k * j) * x := by
      rw [List.take_add_one, hgu]
      show packW (kBit k) ((u.drop at').take j ++ [x]) = _
      rw [packW_snoc, List.length_take, Nat.min_eq_left (by omega)]
     have hjk : j * kBit k ≤ 60 := by
      have : j * kBit k ≤ kNum k * kBit k := Nat.mul_le_mul_right _ (by omega)
      rw [Nat.mul_comm (kNum k)] at this; omega
     have hlt60 : packW (kBit k) ((u.drop at').take (j + 1)) < 1152921504606846976 := by
      refine Nat.lt_of_lt_of_le (packW_lt (fun y hy => f2 y (by
       have hp : (u.drop at').take (j + 1) = ((u.drop at').take m).take (j + 1) := by rw [List.take_take, Nat.min_eq_left (by omega)]
       rw [hp] at hy; exact List.mem_of_mem_take hy))) ?_
      have : kBit k * ((u.drop at').take (j + 1)).length ≤ 60 := by
       rw [List.length_take]
       exact Nat.le_trans (Nat.mul_le_mul_left _ (by omega)) k60
      exact Nat.pow_le_pow_right (by decide) this
     have hpl : packW (kBit k) ((u.drop at').take j) < 2 ^ (j * kBit k) := by
      have := packW_lt (b := kBit k) (l := (u.drop at').take j) (fun y hy => f2 y (by
       have hp : (u.drop at').take j = ((u.drop at').take m).take j := by rw [List.take_take, Nat.min_eq_left (by omega)]
       rw [hp] at hy; exact List.mem_of_mem_take hy))
      rwa [List.length_take, Nat.min_eq_left (by omega), Nat.mul_comm] at this
     rw [Nat.mul_comm (kBit k) j, Nat.mul_comm (2 ^ (j * kBit k)) x] at hsum
     obtain ⟨bs, o, hsl⟩ := (hr.cons.at_ h).some (by omega)
     refine c_skip ?_
     refine c_seq (c_block ?_)
     refine c_any none (fun w => St w0 (OwnU oa oc out :: l) w) (by kernel_rfl) (by kernel_rfl) h.drew fun w h => ?_
     refine cur_pure rfl rfl rfl rfl (fun _ => h) (fun _ => flt_v rfl (q_moveI rfl)) ?_; refine cur_pure rfl rfl rfl rfl (fun _ => h) (fun _ => flt_v rfl (q_moveS rfl)) ?_; refine cur_pure rfl rfl rfl rfl (fun _ => h) (fun _ => flt_v rfl (q_moveI rfl)) ?_; refine cur_pure rfl rfl rfl rfl (fun _ => h) (fun _ => flt_v rfl (q_moveI rfl)) ?_
     refine cur_pure rfl rfl rfl rfl (fun _ => h) (fun _ => flt_v rfl (q_is (v' := .int .i64 ((at' + j : Nat) : Int)) (q_add rfl rfl) (by rw [wrap64 (by omega) (by omega)]; congr 1))) ?_
     refine cur_pure rfl rfl rfl rfl (fun _ => h) (fun _ => flt_v rfl (q_idx (b := bs) (o := o) (m := u.length) (c := c) (o' := o + (at' + j)) (by rw [← hsl]; rfl) rfl rfl (by omega) (by simp))) ?_
     refine cur_float rfl rfl rfl rfl h (fun _ h => flt_v rfl (q_loadc (v := .int .u64 x) rfl ((hsl ▸ hr.cons.at_ h).cell (u64V_get hgx)))) ?_
     refine cur_pure rfl rfl rfl rfl (fun _ => h) (fun _ => flt_v rfl (q_moveI rfl)) ?_; refine cur_pure rfl rfl rfl rfl (fun _ => h) (fun _ => flt_v rfl (q_moveI rfl)) ?_; refine cur_skip ?_; refine cur_skip ?_; refine cur_skip ?_; refine cur_skip ?_; refine cur_skip ?_; refine cur_skip ?_
     refine cur_one 9 rfl rfl rfl rfl ?_
     refine (x_call rfl (ref4_bits hlk h) ?_)
     rintro _ w ⟨rfl, h⟩
     refine ⟨fun _ => h, ?_⟩
     refine cur_pure rfl rfl rfl rfl (fun _ => h) (fun _ => flt_v rfl (q_is (v' := .int .i64 ((j * kBit k : Nat) : Int)) (q_mul rfl rfl) (by rw [← Int.natCast_mul, wrap64 (by omega) (by omega)]))) ?_
     refine cur_pure rfl rfl rfl rfl (fun _ => h) (fun _ => flt_v rfl (q_is (v' := .int .u64 ((j * kBit k : Nat) : Int)) (q_conv rfl) (by rw [wrap_u64, Nat.mod_eq_of_lt (by omega)]))) ?_
     refine cur_pure rfl rfl rfl rfl (fun _ => h) (fun _ => flt_v rfl (q_is (v' := .int .u64 ((x * 2 ^ (j * kBit k) : Nat) : Int)) (q_shl rfl rfl (by omega)) (by rw [shl_u64 _ _ (by omega), Nat.mod_eq_of_lt (by omega)]))) ?_
     refine cur_pure rfl rfl rfl rfl (fun _ => h) (fun _ => flt_v rfl (q_is (v' := .int .u64 ((k * 1152921504606846976 + packW (kBit k) ((u.drop at').take (j + 1)) : Nat) : Int)) (q_or rfl rfl) (by
      rw [(bit_u64 (by omega) (by omega)).2.1, hsum, or_three hpl (by omega)]))) ?_
     refine cur_pure rfl rfl rfl rfl (fun _ => h) (fun _ => flt_v rfl (q_assignI rfl)) ?_
     refine cur_end ?_
     refine c_region ?_
     refine r_v (q_moveI rfl) rfl ?_; refine r_v (q_add rfl rfl) rfl ?_
     refine r_is (.int .i64 ((j + 1 : Nat) : Int)) (by rw [wrap64 (by omega) (by omega)]; rfl) ?_
     refine r_v (q_assignI rfl) rfl ?_
     exact r_nil ⟨j + 1, ⟨rfl, rfl, rfl, rfl, rfl, rfl, rfl, trivial⟩, ⟨hjm, h⟩, by omega⟩
    ·obtain rfl : j = m := by simp at hc; omega
     exact c_exit ⟨(), ⟨rfl, rfl, rfl, rfl, rfl, trivial⟩, h⟩
   clear h
   rintro ⟨⟩ w e h
   generalize hx : k * 1152921504606846976 + packW (kBit k) ((u.drop at').take m) = x at *
   refine c_seq (c_region ?_)
   refine r_v (q_moveS rfl) rfl ?_; refine r_v (q_moveI rfl) rfl ?_
   refine r_app1 (v := .int .u64 (x : Int)) (m3 := (out ++ [x]).length) (zs := u64V (out ++ [x])) h rfl rfl rfl rfl rfl (by simp) (by simp [u64V, vcells]) (by simp; omega) (by simp; omega) rfl rfl rfl rfl rfl fun b a' c' w _ h => ?_
   refine r_v (q_assignS rfl) rfl ?_
   refine r_nil ?_
   refine c_region ?_
   refine r_v (q_moveI rfl) rfl ?_; refine r_v (q_moveI rfl) rfl ?_; refine r_v (q_add rfl rfl) rfl ?_
   refine r_is (.int .i64 ((at' + m : Nat) : Int)) (by rw [wrap64 (by omega) (by omega)]; congr 1) ?_
   refine r_v (q_assignI rfl) rfl ?_
   refine r_nil ⟨(at' + m, out ++ [x], a', c'), ⟨rfl, rfl, rfl, trivial⟩, ⟨by dsimp only; omega, by simp; omega, ?_, h⟩, by dsimp only; omega⟩
   rw [← he]
   congr 1
   funext r
   simp
  ·have hin : at' = u.length := by simp at hc; omega
   rw [hin, List.drop_length, simpEnc_nil, Option.map_some, List.append_nil] at he
   exact c_exit ⟨(out, oa, oc), ⟨rfl, trivial⟩, he.symm, h⟩
 clear h
 rintro ⟨out, oa, oc⟩ w e ⟨he, h⟩
 dsimp only at he h ⊢
 rw [he]
 refine c_seq (c_region ?_)
 refine r_v (q_moveS rfl) rfl ?_; refine r_v (q_assignS rfl) rfl ?_; refine r_v (q_assignB rfl) rfl ?_
 exact r_nil (c_ret (bq2 ⟨oa, oc, rfl, h⟩))

theorem ref4_pack {ba la : Option Addr} {bc lc : Nat} {bs : List UInt8} {ls : List Nat} {n : Nat} (hn : n ≤ 64) (hll : ls.length ≤ 65535) (hbl : bs.length ≤ 1073741824) (hu : ∀ x ∈ ls, x < 18446744073709551616) (hr : Reads w0 l 1 ba bs.length (bytesV bs)) (hr2 : Reads w0 l 1 la ls.length (u64V ls)) (h : St w0 l w) :
  Ret Tryz.prog 119 [.slice ba bs.length bc, .slice la ls.length lc, .int .i64 n] w fun v w' => ∃ a c', v = .slice a (bs ++ pack (ls.flatMap fun y => bitsOf y n)).length c' ∧ St w0 (OwnB a c' (bs ++ pack (ls.flatMap fun y => bitsOf y n)) :: l) w' := by
 have hflat := flat_bits_len (fun y => y) n ls
 have hwl : n * ls.length ≤ 64 * 65535 := Nat.mul_le_mul hn hll
 refine enter Tryz.func119 rfl Tryz.results119 Tryz.ntmps119 rfl ?_
 refine c_seq (c_region ?_)
 refine r_v (q_assignS rfl) rfl ?_
 refine r_nil ?_
 refine c_seq (c_region ?_)
 refine r_v (q_build (r := [.slice none 0 0]) rfl) rfl ?_
 refine r_c rfl (x_box h (show _ = Value.agg [.slice none 0 0].toArray from rfl) fun p w h => ?_)
 replace h : St w0 (IsRW p [] :: l) w := St.rw_new h
 refine r_v (q_assignP rfl) rfl ?_
 refine r_nil ?_
 refine c_cut (Γ := Unit) (fun _ => [(0, .slice ba bs.length bc), (7, .pointer (some ⟨p, 0, none⟩))]) (fun _ w => St w0 (IsRW p (ls.flatMap fun y => bitsOf y n) :: l) w) ?_ ?_
 ·refine c_seq (c_region ?_)
  refine r_v (q_assignI rfl) rfl ?_
  refine r_nil ?_
  refine c_block ?_
  refine c_loop (Γ := Nat) (fun k => [(0, .slice ba bs.length bc), (1, .slice la ls.length lc), (2, .int .i64 n), (7, .pointer (some ⟨p, 0, none⟩)), (8, .int .i64 k)]) (fun k w => k ≤ ls.length ∧ St w0 (IsRW p ((ls.take k).flatMap fun y => bitsOf y n) :: l) w) (fun k => ls.length - k) 0 ⟨rfl, rfl, rfl, rfl, rfl, trivial⟩ ⟨Nat.zero_le _, h⟩ ?_
  clear h
  rintro k w e ⟨hk, h⟩
  refine c_seq (c_seq (c_region ?_))
  refine r_v (q_moveI rfl) rfl ?_; refine r_v (q_moveS rfl) rfl ?_; refine r_v (q_len rfl) rfl ?_; refine r_v (q_lss rfl rfl) rfl ?_
  refine r_nil ?_
  refine c_cond (decide ((k : Int) < (ls.length : Int))) rfl (fun hc => ?_) (fun hc => ?_)
  ·have hlt : k < ls.length := by simp at hc; omega
   have hg := List.getElem?_eq_getElem hlt
   generalize ls[k] = y at hg
   have hyu := hu y (List.mem_of_getElem? hg)
   have htl := flat_bits_len (fun y => y) n (ls.take k)
   rw [List.length_take, Nat.min_eq_left (Nat.le_of_lt hlt)] at htl
   have hwk : n * k ≤ n * ls.length := Nat.mul_le_mul_left _ hk
   obtain ⟨b, o, hsl⟩ := (hr2.cons.at_ h).some (by omega)
   refine c_skip ?_
   refine c_seq (c_block ?_)
   refine c_region ?_
   refine r_v (q_moveP rfl) rfl ?_; refine r_v (q_moveS rfl) rfl ?_; refine r_v (q_moveI rfl) rfl ?_
   refine r_v (q_idx (b := b) (o := o) (m := ls.length) (c := lc) (o' := o + k) (by rw [← hsl]; rfl) rfl rfl hlt (by simp)) rfl ?_
   refine r_v (q_loadc (v := .int .u64 y) rfl ((hsl ▸ hr2.cons.at_ h).cell (u64V_get hg))) rfl ?_
   refine r_v (q_moveI rfl) rfl ?_
   refine r_c rfl (x_call rfl (rw_Put y n hyu (by rw [htl]; omega) h) ?_)
   rintro _ w ⟨rfl, h⟩
   refine r_nil ?_
   refine c_region ?_
   refine r_v (q_moveI rfl) rfl ?_; refine r_v (q_add rfl rfl) rfl ?_
   refine r_is (.int .i64 ((k + 1 : Nat) : Int)) (by rw [wrap64 (by omega) (by omega)]; rfl) ?_
   refine r_v (q_assignI rfl) rfl ?_
   refine r_nil ⟨k + 1, ⟨rfl, rfl, rfl, rfl, rfl, trivial⟩, ⟨hlt, ?_⟩, by omega⟩
   rw [heldN_nat hn] at h
   rw [List.take_add_one, hg, List.flatMap_append]
   simpa using h
  ·obtain rfl : k = ls.length := by simp at hc; omega
   rw [List.take_length] at h
   exact c_exit ⟨(), ⟨rfl, rfl, trivial⟩, h⟩
 clear h
 rintro ⟨⟩ w e h
 have hpl := pack_len (ls.flatMap fun y => bitsOf y n)
 refine c_seq (c_region ?_)
 refine r_c rfl (x_bslice (r := []) h rfl rfl rfl fun b w h => ?_)
 refine r_v (q_moveS rfl) rfl ?_
 have h1 : St w0 (Own 5 1 (some ⟨b, 0, none⟩) 0 0 [] :: IsRW p (ls.flatMap fun y => bitsOf y n) :: l) w := St.own_mk (cur := []) h rfl rfl (Nat.le_refl _)
 refine r_c rfl (x_append' (zs := bytesV bs) (m3 := bs.length) h1 rfl rfl (hr [_] _ h1.drop) (bytesV_one _) (by omega) (List.nil_append _) (by omega) (by omega) rfl fun a c1 w _ h => ?_)
 refine r_v (q_moveP rfl) rfl ?_
 refine r_c rfl (x_call rfl (rw_Bytes (by omega) (h.f 1)) ?_)
 rintro _ w ⟨a3, c3, rfl, h⟩
 refine r_c rfl (x_append' (ys := bytesV (pack (ls.flatMap fun y => bitsOf y n))) (zs := bytesV (bs ++ pack (ls.flatMap fun y => bitsOf y n))) (m3 := (bs ++ pack (ls.flatMap fun y => bitsOf y n)).length) (h.f 2) rfl rfl h.own_rd (bytesV_one _) (by simp) (by simp [bytesV]) (by simp; omega) (by simp; omega) rfl fun a4 c4 w _ h => ?_)
 refine r_v (q_assignS rfl) rfl ?_
 refine r_nil ?_
 exact c_ret (bq1 ⟨a4, c4, rfl, ((h.f 1).drop.f 1).drop⟩)

theorem ref4_Runs {sl : Option Addr} {c : Nat} {u : List Nat} (hu : ∀ x ∈ u, x < 18446744073709551616) (hn : u.length ≤ 65535) (hr : Reads w0 l 1 sl u.length (u64V u)) (h : St w0 l w) :
  Ret Tryz.prog 76 [.slice sl u.length c] w fun v w' => ∃ a c', v = .slice a (runsEnc u).length c' ∧ St w0 (OwnB a c' (runsEnc u) :: l) w' := by
 have hrl := runsEnc_len u
 refine enter Tryz.func76 rfl Tryz.results76 Tryz.ntmps76 rfl ?_
 refine c_seq (c_region ?_)
 refine r_v (q_assignS rfl) rfl ?_
 refine r_nil ?_
 refine c_seq (c_region ?_)
 refine r_v (q_assignS rfl) rfl ?_
 refine r_nil ?_
 refine c_cut (Γ := Option Addr × Nat) (fun q => [(3, .slice q.1 (runsEnc u).length q.2)]) (fun q w => St w0 (OwnB q.1 q.2 (runsEnc u) :: l) w) ?_ ?_
 ·refine c_seq (c_region ?_)
  refine r_v (q_assignI rfl) rfl ?_
  refine r_nil ?_
  refine c_block ?_
  refine c_loop (Γ := Nat × List UInt8 × Option Addr × Nat) (fun k => [(0, .slice sl u.length c), (3, .slice k.2.2.1 k.2.1.length k.2.2.2), (4, .int .i64 k.1)])
   (fun k w => k.1 ≤ u.length ∧ k.2.1 ++ runsEnc (u.drop k.1) = runsEnc u ∧ St w0 (OwnB k.2.2.1 k.2.2.2 k.2.1 :: l) w) (fun k => u.length - k.1) (0, [], none, 0) ⟨rfl, rfl, rfl, trivial⟩ ⟨Nat.zero_le _, rfl, St.ownNil _ _ h⟩ ?_
  clear h
  rintro ⟨i, out, oa, oc⟩ w e ⟨hi, he, h⟩
  dsimp only at hi he h ⊢
  refine c_seq (c_seq (c_region ?_))
  refine r_v (q_moveI rfl) rfl ?_; refine r_v (q_moveS rfl) rfl ?_; refine r_v (q_len rfl) rfl ?_; refine r_v (q_lss rfl rfl) rfl ?_
  refine r_nil ?_
  refine c_cond (decide ((i : Int) < (u.length : Int))) rfl (fun hc => ?_) (fun hc => ?_)
  ·have hlt : i < u.length := by simp at hc; omega
   have hg := List.getElem?_eq_getElem hlt
   have hdr := List.drop_eq_getElem_cons hlt
   generalize u[i] = x at hg hdr
   have hx := hu x (List.mem_of_getElem? hg)
   have hrd : ∀ {Q : HProp} {w' : World}, St w0 (Q :: l) w' → Rd w' 1 sl u.length (u64V u) := fun {Q w'} h' => hr [Q] w' h'
   obtain ⟨b, o, hsl⟩ := (hrd h).some (by omega)
   have hle := lead_le x (u.drop (i + 1))
   rw [List.length_drop] at hle
   have hin : ∀ j, j < lead x (u.drop (i + 1)) → u[i + 1 + j]? = some x := fun j hj => by
    have := idx_lead x _ hj
    rwa [List.getElem?_drop] at this
   have hend : u[i + 1 + lead x (u.drop (i + 1))]? ≠ some x := by
    have := idx_lead_end x (u.drop (i + 1))
    rwa [List.getElem?_drop] at this
   rw [hdr, runsEnc_cons, List.drop_drop] at he
   generalize hL : lead x (u.drop (i + 1)) = L at *
   refine c_skip ?_
   refine c_block ?_
   refine c_seq (c_region ?_)
   refine r_v (q_moveI rfl) rfl ?_; refine r_v (q_assignI rfl) rfl ?_
   refine r_nil ?_
   refine c_cut (Γ := Unit) (fun _ => [(0, .slice sl u.length c), (3, .slice oa out.length oc), (4, .int .i64 i), (5, .int .i64 ((i + 1 + L : Nat) : Int))]) (fun _ w => St w0 (OwnB oa oc out :: l) w) ?_ ?_
   ·refine c_block ?_
    refine c_loop (Γ := Nat) (fun k => [(0, .slice sl u.length c), (3, .slice oa out.length oc), (4, .int .i64 i), (5, .int .i64 k)]) (fun k w => i ≤ k ∧ k ≤ i + 1 + L ∧ St w0 (OwnB oa oc out :: l) w) (fun k => u.length - k) i ⟨rfl, rfl, rfl, rfl, trivial⟩ ⟨Nat.le_refl _, by omega, h⟩ ?_
    clear h
    rintro k w e ⟨hik, hkL, h⟩
    by_cases hku : k < u.length
    ·have hgk := List.getElem?_eq_getElem hku
     generalize u[k] = y at hgk
     have hyx : y = x ↔ k < i + 1 + L := by
      constructor
      ·intro hh
       rcases Nat.lt_or_ge k (i + 1 + L) with h2 | h2
       ·exact h2
       ·obtain rfl : k = i + 1 + L := by omega
        rw [hgk, hh] at hend
        exact absurd rfl hend
      ·intro hh
       rcases Nat.eq_or_lt_of_le hik with h2 | h2
       ·subst h2; rw [hg] at hgk; exact (Option.some.inj hgk).symm
       ·have := hin (k - (i + 1)) (by omega)
        rw [show i + 1 + (k - (i + 1)) = k by omega, hgk] at this
        exact Option.some.inj this
     refine c_seq (c_seq (c_any none (fun w => St w0 (OwnB oa oc out :: l) w) (by kernel_rfl) (by kernel_rfl) h.drew fun w h => ?_))
     refine cur_pure rfl rfl rfl rfl (fun _ => h) (fun _ => flt_v rfl (q_moveI rfl)) ?_; refine cur_pure rfl rfl rfl rfl (fun _ => h) (fun _ => flt_v rfl (q_moveS rfl)) ?_; refine cur_pure rfl rfl rfl rfl (fun _ => h) (fun _ => flt_v rfl (q_len rfl)) ?_
     refine cur_pure rfl rfl rfl rfl (fun _ => h) (fun _ => flt_v rfl (q_is (v' := .bool true) (q_lss rfl rfl) (by simp; omega))) ?_
     refine cur_pure rfl rfl rfl rfl (fun _ => h) (fun _ => flt_v rfl (q_moveB rfl)) ?_; (first | refine cur_pure rfl rfl rfl rfl (fun _ => h) (fun _ => flt_g rfl rfl (q_moveS rfl)) ?_ | refine cur_pure rfl rfl rfl rfl (fun _ => h) (fun _ => flt_g rfl (by assumption) (q_moveS rfl)) ?_ | refine cur_pure rfl rfl rfl rfl (fun _ => h) (fun _ => flt_n rfl rfl) ?_ | refine cur_pure rfl rfl rfl rfl (fun _ => h) (fun _ => flt_n rfl (by assumption)) ?_); (first | refine cur_pure rfl rfl rfl rfl (fun _ => h) (fun _ => flt_g rfl rfl (q_moveI rfl)) ?_ | refine cur_pure rfl rfl rfl rfl (fun _ => h) (fun _ => flt_g rfl (by assumption) (q_moveI rfl)) ?_ | refine cur_pure rfl rfl rfl rfl (fun _ => h) (fun _ => flt_n rfl rfl) ?_ | refine cur_pure rfl rfl rfl rfl (fun _ => h) (fun _ => flt_n rfl (by assumption)) ?_)
     refine cur_pure rfl rfl rfl rfl (fun _ => h) (fun _ => flt_g rfl rfl (q_idx (b := b) (o := o) (m := u.length) (c := c) (o' := o + k) (by rw [← hsl]; rfl) rfl rfl hku (by simp))) ?_
     refine cur_float rfl rfl rfl rfl h (fun _ h => flt_g rfl rfl (q_loadc (v := .int .u64 y) rfl ((hsl ▸ hrd h).cell (u64V_get hgk)))) ?_
     (first | refine cur_pure rfl rfl rfl rfl (fun _ => h) (fun _ => flt_g rfl rfl (q_moveS rfl)) ?_ | refine cur_pure rfl rfl rfl rfl (fun _ => h) (fun _ => flt_g rfl (by assumption) (q_moveS rfl)) ?_ | refine cur_pure rfl rfl rfl rfl (fun _ => h) (fun _ => flt_n rfl rfl) ?_ | refine cur_pure rfl rfl rfl rfl (fun _ => h) (fun _ => flt_n rfl (by assumption)) ?_); (first | refine cur_pure rfl rfl rfl rfl (fun _ => h) (fun _ => flt_g rfl rfl (q_moveI rfl)) ?_ | refine cur_pure rfl rfl rfl rfl (fun _ => h) (fun _ => flt_g rfl (by assumption) (q_moveI rfl)) ?_ | refine cur_pure rfl rfl rfl rfl (fun _ => h) (fun _ => flt_n rfl rfl) ?_ | refine cur_pure rfl rfl rfl rfl (fun _ => h) (fun _ => flt_n rfl (by assumption)) ?_)
     refine cur_pure rfl rfl rfl rfl (fun _ => h) (fun _ => flt_g rfl rfl (q_idx (b := b) (o := o) (m := u.length) (c := c) (o' := o + i) (by rw [← hsl]; rfl) rfl rfl hlt (by simp))) ?_
     refine cur_float rfl rfl rfl rfl h (fun _ h => flt_g rfl rfl (q_loadc (v := .int .u64 x) rfl ((hsl ▸ hrd h).cell (u64V_get hg)))) ?_
     (first | refine cur_pure rfl rfl rfl rfl (fun _ => h) (fun _ => flt_g rfl rfl (q_eql rfl rfl)) ?_ | refine cur_pure rfl rfl rfl rfl (fun _ => h) (fun _ => flt_g rfl (by assumption) (q_eql rfl rfl)) ?_ | refine cur_pure rfl rfl rfl rfl (fun _ => h) (fun _ => flt_n rfl rfl) ?_ | refine cur_pure rfl rfl rfl rfl (fun _ => h) (fun _ => flt_n rfl (by assumption)) ?_); (first | refine cur_pure rfl rfl rfl rfl (fun _ => h) (fun _ => flt_v rfl (q_pick1 rfl rfl rfl)) ?_ | refine cur_pure rfl rfl rfl rfl (fun _ => h) (fun _ => flt_v rfl (q_pick0 rfl rfl rfl)) ?_ | refine cur_pure rfl rfl rfl rfl (fun _ => h) (fun _ => flt_v rfl (q_pick1 rfl (by assumption) rfl)) ?_ | refine cur_pure rfl rfl rfl rfl (fun _ => h) (fun _ => flt_v rfl (q_pick0 rfl (by assumption) rfl)) ?_ | refine cur_pure rfl rfl rfl rfl (fun _ => h) (fun _ => flt_v rfl (q_pickB rfl rfl rfl)) ?_)
     refine cur_end ?_
     refine c_cond ((y : Int) == (x : Int)) rfl (fun hc => ?_) (fun hc => ?_)
     ·have hk2 := hyx.1 (by rw [beq_iff_eq] at hc; omega)
      refine c_skip ?_
      refine c_block ?_
      refine c_region ?_
      refine r_v (q_moveI rfl) rfl ?_; refine r_v (q_add rfl rfl) rfl ?_
      refine r_is (.int .i64 ((k + 1 : Nat) : Int)) (by rw [wrap64 (by omega) (by omega)]; rfl) ?_
      refine r_v (q_assignI rfl) rfl ?_
      exact r_nil ⟨k + 1, ⟨rfl, rfl, rfl, rfl, trivial⟩, ⟨by omega, by omega, h⟩, by omega⟩
     ·have hk2 : ¬ k < i + 1 + L := fun hh => by rw [beq_eq_false_iff_ne] at hc; have := hyx.2 hh; omega
      obtain rfl : k = i + 1 + L := by omega
      exact c_exit ⟨(), ⟨rfl, rfl, rfl, rfl, trivial⟩, h⟩
    ·obtain rfl : k = i + 1 + L := by omega
     refine c_seq (c_seq (c_any none (fun w => St w0 (OwnB oa oc out :: l) w) (by kernel_rfl) (by kernel_rfl) h.drew fun w h => ?_))
     refine cur_pure rfl rfl rfl rfl (fun _ => h) (fun _ => flt_v rfl (q_moveI rfl)) ?_; refine cur_pure rfl rfl rfl rfl (fun _ => h) (fun _ => flt_v rfl (q_moveS rfl)) ?_; refine cur_pure rfl rfl rfl rfl (fun _ => h) (fun _ => flt_v rfl (q_len rfl)) ?_
     refine cur_pure rfl rfl rfl rfl (fun _ => h) (fun _ => flt_v rfl (q_is (v' := .bool false) (q_lss rfl rfl) (by simp; omega))) ?_
     refine cur_pure rfl rfl rfl rfl (fun _ => h) (fun _ => flt_v rfl (q_moveB rfl)) ?_; (first | refine cur_pure rfl rfl rfl rfl (fun _ => h) (fun _ => flt_g rfl rfl (q_moveS rfl)) ?_ | refine cur_pure rfl rfl rfl rfl (fun _ => h) (fun _ => flt_g rfl (by assumption) (q_moveS rfl)) ?_ | refine cur_pure rfl rfl rfl rfl (fun _ => h) (fun _ => flt_n rfl rfl) ?_ | refine cur_pure rfl rfl rfl rfl (fun _ => h) (fun _ => flt_n rfl (by assumption)) ?_); (first | refine cur_pure rfl rfl rfl rfl (fun _ => h) (fun _ => flt_g rfl rfl (q_moveI rfl)) ?_ | refine cur_pure rfl rfl rfl rfl (fun _ => h) (fun _ => flt_g rfl (by assumption) (q_moveI rfl)) ?_ | refine cur_pure rfl rfl rfl rfl (fun _ => h) (fun _ => flt_n rfl rfl) ?_ | refine cur_pure rfl rfl rfl rfl (fun _ => h) (fun _ => flt_n rfl (by assumption)) ?_); (first | refine cur_float rfl rfl rfl rfl h (fun _ h => flt_g rfl rfl (q_load rfl (h.b 0) rfl)) ?_ | refine cur_float rfl rfl rfl rfl h (fun _ h => flt_g rfl rfl (q_load rfl (h.b 1) rfl)) ?_ | refine cur_float rfl rfl rfl rfl h (fun _ h => flt_g rfl rfl (q_load rfl (h.b 2) rfl)) ?_ | refine cur_float rfl rfl rfl rfl h (fun _ h => flt_g rfl rfl (q_load rfl (h.b 3) rfl)) ?_ | refine cur_float rfl rfl rfl rfl h (fun _ h => flt_g rfl rfl (q_load rfl (h.b 4) rfl)) ?_ | refine cur_float rfl rfl rfl rfl h (fun _ h => flt_g rfl rfl (q_load rfl (h.b 5) rfl)) ?_ | refine cur_float rfl rfl rfl rfl h (fun _ h => flt_g rfl (by assumption) (q_load rfl (h.b 0) rfl)) ?_ | refine cur_float rfl rfl rfl rfl h (fun _ h => flt_g rfl (by assumption) (q_load rfl (h.b 1) rfl)) ?_ | refine cur_float rfl rfl rfl rfl h (fun _ h => flt_g rfl (by assumption) (q_load rfl (h.b 2) rfl)) ?_ | refine cur_float rfl rfl rfl rfl h (fun _ h => flt_g rfl (by assumption) (q_load rfl (h.b 3) rfl)) ?_ | refine cur_float rfl rfl rfl rfl h (fun _ h => flt_g rfl (by assumption) (q_load rfl (h.b 4) rfl)) ?_ | refine cur_float rfl rfl rfl rfl h (fun _ h => flt_g rfl (by assumption) (q_load rfl (h.b 5) rfl)) ?_ | refine cur_pure rfl rfl rfl rfl (fun _ => h) (fun _ => flt_n rfl rfl) ?_ | refine cur_pure rfl rfl rfl rfl (fun _ => h) (fun _ => flt_n rfl (by assumption)) ?_); (first | refine cur_float rfl rfl rfl rfl h (fun _ h => flt_g rfl rfl (q_load rfl (h.b 0) rfl)) ?_ | refine cur_float rfl rfl rfl rfl h (fun _ h => flt_g rfl rfl (q_load rfl (h.b 1) rfl)) ?_ | refine cur_float rfl rfl rfl rfl h (fun _ h => flt_g rfl rfl (q_load rfl (h.b 2) rfl)) ?_ | refine cur_float rfl rfl rfl rfl h (fun _ h => flt_g rfl rfl (q_load rfl (h.b 3) rfl)) ?_ | refine cur_float rfl rfl rfl rfl h (fun _ h => flt_g rfl rfl (q_load rfl (h.b 4) rfl)) ?_ | refine cur_float rfl rfl rfl rfl h (fun _ h => flt_g rfl rfl (q_load rfl (h.b 5) rfl)) ?_ | refine cur_float rfl rfl rfl rfl h (fun _ h => flt_g rfl (by assumption) (q_load rfl (h.b 0) rfl)) ?_ | refine cur_float rfl rfl rfl rfl h (fun _ h => flt_g rfl (by assumption) (q_load rfl (h.b 1) rfl)) ?_ | refine cur_float rfl rfl rfl rfl h (fun _ h => flt_g rfl (by assumption) (q_load rfl (h.b 2) rfl)) ?_ | refine cur_float rfl rfl rfl rfl h (fun _ h => flt_g rfl (by assumption) (q_load rfl (h.b 3) rfl)) ?_ | refine cur_float rfl rfl rfl rfl h (fun _ h => flt_g rfl (by assumption) (q_load rfl (h.b 4) rfl)) ?_ | refine cur_float rfl rfl rfl rfl h (fun _ h => flt_g rfl (by assumption) (q_load rfl (h.b 5) rfl)) ?_ | refine cur_pure rfl rfl rfl rfl (fun _ => h) (fun _ => flt_n rfl rfl) ?_ | refine cur_pure rfl rfl rfl rfl (fun _ => h) (fun _ => flt_n rfl (by assumption)) ?_); (first | refine cur_pure rfl rfl rfl rfl (fun _ => h) (fun _ => flt_g rfl rfl (q_moveS rfl)) ?_ | refine cur_pure rfl rfl rfl rfl (fun _ => h) (fun _ => flt_g rfl (by assumption) (q_moveS rfl)) ?_ | refine cur_pure rfl rfl rfl rfl (fun _ => h) (fun _ => flt_n rfl rfl) ?_ | refine cur_pure rfl rfl rfl rfl (fun _ => h) (fun _ => flt_n rfl (by assumption)) ?_); (first | refine cur_pure rfl rfl rfl rfl (fun _ => h) (fun _ => flt_g rfl rfl (q_moveI rfl)) ?_ | refine cur_pure rfl rfl rfl rfl (fun _ => h) (fun _ => flt_g rfl (by assumption) (q_moveI rfl)) ?_ | refine cur_pure rfl rfl rfl rfl (fun _ => h) (fun _ => flt_n rfl rfl) ?_ | refine cur_pure rfl rfl rfl rfl (fun _ => h) (fun _ => flt_n rfl (by assumption)) ?_); (first | refine cur_float rfl rfl rfl rfl h (fun _ h => flt_g rfl rfl (q_load rfl (h.b 0) rfl)) ?_ | refine cur_float rfl rfl rfl rfl h (fun _ h => flt_g rfl rfl (q_load rfl (h.b 1) rfl)) ?_ | refine cur_float rfl rfl rfl rfl h (fun _ h => flt_g rfl rfl (q_load rfl (h.b 2) rfl)) ?_ | refine cur_float rfl rfl rfl rfl h (fun _ h => flt_g rfl rfl (q_load rfl (h.b 3) rfl)) ?_ | refine cur_float rfl rfl rfl rfl h (fun _ h => flt_g rfl rfl (q_load rfl (h.b 4) rfl)) ?_ | refine cur_float rfl rfl rfl rfl h (fun _ h => flt_g rfl rfl (q_load rfl (h.b 5) rfl)) ?_ | refine cur_float rfl rfl rfl rfl h (fun _ h => flt_g rfl (by assumption) (q_load rfl (h.b 0) rfl)) ?_ | refine cur_float rfl rfl rfl rfl h (fun _ h => flt_g rfl (by assumption) (q_load rfl (h.b 1) rfl)) ?_ | refine cur_float rfl rfl rfl rfl h (fun _ h => flt_g rfl (by assumption) (q_load rfl (h.b 2) rfl)) ?_ | refine cur_float rfl rfl rfl rfl h (fun _ h => flt_g rfl (by assumption) (q_load rfl (h.b 3) rfl)) ?_ | refine cur_float rfl rfl rfl rfl h (fun _ h => flt_g rfl (by assumption) (q_load rfl (h.b 4) rfl)) ?_ | refine cur_float rfl rfl rfl rfl h (fun _ h => flt_g rfl (by assumption) (q_load rfl (h.b 5) rfl)) ?_ | refine cur_pure rfl rfl rfl rfl (fun _ => h) (fun _ => flt_n rfl rfl) ?_ | refine cur_pure rfl rfl rfl rfl (fun _ => h) (fun _ => flt_n rfl (by assumption)) ?_); (first | refine cur_float rfl rfl rfl rfl h (fun _ h => flt_g rfl rfl (q_load rfl (h.b 0) rfl)) ?_ | refine cur_float rfl rfl rfl rfl h (fun _ h => flt_g rfl rfl (q_load rfl (h.b 1) rfl)) ?_ | refine cur_float rfl rfl rfl rfl h (fun _ h => flt_g rfl rfl (q_load rfl (h.b 2) rfl)) ?_ | refine cur_float rfl rfl rfl rfl h (fun _ h => flt_g rfl rfl (q_load rfl (h.b 3) rfl)) ?_ | refine cur_float rfl rfl rfl rfl h (fun _ h => flt_g rfl rfl (q_load rfl (h.b 4) rfl)) ?_ | refine cur_float rfl rfl rfl rfl h (fun _ h => flt_g rfl rfl (q_load rfl (h.b 5) rfl)) ?_ | refine cur_float rfl rfl rfl rfl h (fun _ h => flt_g rfl (by assumption) (q_load rfl (h.b 0) rfl)) ?_ | refine cur_float rfl rfl rfl rfl h (fun _ h => flt_g rfl (by assumption) (q_load rfl (h.b 1) rfl)) ?_ | refine cur_float rfl rfl rfl rfl h (fun _ h => flt_g rfl (by assumption) (q_load rfl (h.b 2) rfl)) ?_ | refine cur_float rfl rfl rfl rfl h (fun _ h => flt_g rfl (by assumption) (q_load rfl (h.b 3) rfl)) ?_ | refine cur_float rfl rfl rfl rfl h (fun _ h => flt_g rfl (by assumption) (q_load rfl (h.b 4) rfl)) ?_ | refine cur_float rfl rfl rfl rfl h (fun _ h => flt_g rfl (by assumption) (q_load rfl (h.b 5) rfl)) ?_ | refine cur_pure rfl rfl rfl rfl (fun _ => h) (fun _ => flt_n rfl rfl) ?_ | refine cur_pure rfl rfl rfl rfl (fun _ => h) (fun _ => flt_n rfl (by assumption)) ?_); (first | refine cur_pure rfl rfl rfl rfl (fun _ => h) (fun _ => flt_g rfl rfl (q_eql rfl rfl)) ?_ | refine cur_pure rfl rfl rfl rfl (fun _ => h) (fun _ => flt_g rfl (by assumption) (q_eql rfl rfl)) ?_ | refine cur_pure rfl rfl rfl rfl (fun _ => h) (fun _ => flt_n rfl rfl) ?_ | refine cur_pure rfl rfl rfl rfl (fun _ => h) (fun _ => flt_n rfl (by assumption)) ?_); (first | refine cur_pure rfl rfl rfl rfl (fun _ => h) (fun _ => flt_v rfl (q_pick1 rfl rfl rfl)) ?_ | refine cur_pure rfl rfl rfl rfl (fun _ => h) (fun _ => flt_v rfl (q_pick0 rfl rfl rfl)) ?_ | refine cur_pure rfl rfl rfl rfl (fun _ => h) (fun _ => flt_v rfl (q_pick1 rfl (by assumption) rfl)) ?_ | refine cur_pure rfl rfl rfl rfl (fun _ => h) (fun _ => flt_v rfl (q_pick0 rfl (by assumption) rfl)) ?_ | refine cur_pure rfl rfl rfl rfl (fun _ => h) (fun _ => flt_v rfl (q_pickB rfl rfl rfl)) ?_)
     refine cur_end ?_
     exact c_false rfl (c_exit ⟨(), ⟨rfl, rfl, rfl, rfl, trivial⟩, h⟩)
   clear h
   rintro ⟨⟩ w e h
   have hlen := congrArg List.length he
   simp only [List.length_append] at hlen
   refine c_seq (c_anyW [0, 1, 2, 3, 4, 5, 6, 7, 8, 9, 10, 11] none (fun w => ∃ M, St w0 (M ++ l) w) (by kernel_rfl) (by kernel_rfl) ?_)
   replace h := h.drew
   generalize w.drew = w at h
   have hs := h
   replace h : ∃ M, St w0 (M ++ l) w := ⟨[_], hs⟩
   refine cur_pure rfl rfl rfl rfl (fun _ => h) (fun _ => flt_v rfl (q_moveS rfl)) ?_; refine cur_pure rfl rfl rfl rfl (fun _ => h) (fun _ => flt_v rfl (q_moveI rfl)) ?_; refine cur_pure rfl rfl rfl rfl (fun _ => h) (fun _ => flt_v rfl (q_moveI rfl)) ?_
   refine cur_pure rfl rfl rfl rfl (fun _ => h) (fun _ => flt_v rfl (q_is (v' := .int .i64 ((1 + L : Nat) : Int)) (q_sub rfl rfl) (by rw [wrap64 (by omega) (by omega)]; congr 1; omega))) ?_
   refine cur_pure rfl rfl rfl rfl (fun _ => h) (fun _ => flt_v rfl (q_is (v' := .int .u64 ((1 + L : Nat) : Int)) (q_conv rfl) (by rw [wrap_u64, Nat.mod_eq_of_lt (by omega)]))) ?_
   refine cur_skip ?_; refine cur_pure rfl rfl rfl rfl (fun _ => h) (fun _ => flt_v rfl (q_moveS rfl)) ?_; refine cur_pure rfl rfl rfl rfl (fun _ => h) (fun _ => flt_v rfl (q_moveI rfl)) ?_
   refine cur_pure rfl rfl rfl rfl (fun _ => h) (fun _ => flt_v rfl (q_idx (b := b) (o := o) (m := u.length) (c := c) (o' := o + i) (by rw [← hsl]; rfl) rfl rfl hlt (by simp))) ?_
   refine cur_float rfl rfl rfl rfl h (fun w h => flt_v rfl (q_loadc (v := .int .u64 x) rfl (by obtain ⟨M, h⟩ := h; exact (hsl ▸ hr M w h).cell (u64V_get hg)))) ?_
   refine cur_skip ?_; refine cur_skip ?_
   refine cur_one 5 rfl rfl rfl rfl ?_
   refine (x_call rfl (ref1_Put (1 + L) (by omega) hs (fun w' h' => h'.own_rd) (by omega)) ?_)
   rintro _ w ⟨a1, c1, rfl, hs⟩
   replace h : ∃ M, St w0 (M ++ l) w := ⟨[_, _], hs⟩
   refine ⟨fun _ => h, ?_⟩
   refine cur_skip ?_; refine cur_skip ?_
   refine cur_one 10 rfl rfl rfl rfl ?_
   refine (x_call rfl (ref1_Put x hx hs (fun w' h' => h'.own_rd) (by simp; omega)) ?_)
   rintro _ w ⟨a2, c2, rfl, hs⟩
   replace h : ∃ M, St w0 (M ++ l) w := ⟨[_, _, _], hs⟩
   refine ⟨fun _ => h, ?_⟩
   refine cur_pure rfl rfl rfl rfl (fun _ => h) (fun _ => flt_v rfl (q_assignS rfl)) ?_
   refine cur_end ?_
   refine c_region ?_
   refine r_v (q_moveI rfl) rfl ?_; refine r_v (q_assignI rfl) rfl ?_
   refine r_nil ⟨(i + 1 + L, out ++ vput (1 + L) ++ vput x, a2, c2), ⟨rfl, rfl, rfl, trivial⟩, ⟨by dsimp only; omega, ?_, (hs.f 1).drop.f 1 |>.drop⟩, by dsimp only; omega⟩
   dsimp only
   rw [← he, List.append_assoc, List.append_assoc]
  ·have hin : i = u.length := by simp at hc; omega
   rw [hin, List.drop_length, runsEnc, List.append_nil] at he
   refine c_exit ⟨(oa, oc), ⟨?_, trivial⟩, he ▸ h⟩
   rw [← he]
   rfl
 clear h
 rintro ⟨oa, oc⟩ w e h
 refine c_seq (c_region ?_)
 refine r_v (q_moveS rfl) rfl ?_; refine r_v (q_assignS rfl) rfl ?_
 exact r_nil (c_ret (bq1 ⟨oa, oc, rfl, h⟩))
end
end Go.Proofs.YtjjacchnalemaaaGreatDoor

namespace Go.Hw
theorem flat_map_bits (f : Nat → Nat) (n : Nat) (v : List Nat) : (v.map f).flatMap (fun y => bitsOf y n) = v.flatMap fun y => bitsOf (f y) n := by
 induction v with
 | nil => rfl
 | cons x v ih => rw [List.map_cons, List.flatMap_cons, List.flatMap_cons, ih]
theorem idxOf_append_of_mem {l t : List Nat} {x : Nat} (h : x ∈ l) : (l ++ t).idxOf x = l.idxOf x := by rw [List.idxOf_append, if_pos h]
end Go.Hw
namespace Go.Proofs.YtjjacchnalemaaaGreatDoor
open Go.Hw
set_option maxHeartbeats 4000000
set_option maxRecDepth 100000
section
variable {w0 w : World} {l : List HProp}
theorem ref4_Frame {sl : Option Addr} {c : Nat} {u : List Nat} (hu : ∀ x ∈ u, x < 18446744073709551616) (hn : u.length ≤ 65535) (hr : Reads w0 l 1 sl u.length (u64V u)) (h : St w0 l w) :
  Ret Tryz.prog 77 [.slice sl u.length c] w fun v w' => ∃ a c', v = .slice a (frameEnc u).length c' ∧ St w0 (OwnB a c' (frameEnc u) :: l) w' := by
 refine enter Tryz.func77 rfl Tryz.results77 Tryz.ntmps77 rfl ?_
 refine c_seq (c_region ?_)
 refine r_v (q_assignS rfl) rfl ?_
 refine r_nil ?_
 refine c_seq (c_seq (c_region ?_))
 refine r_v (q_moveS rfl) rfl ?_; refine r_v (q_len rfl) rfl ?_; refine r_v (q_eql rfl rfl) rfl ?_
 cases u with
 | nil =>
  refine r_is (.bool true) rfl ?_
  refine r_nil (c_true rfl ?_)
  refine c_seq (c_region ?_)
  refine r_v (q_assignS rfl) rfl ?_
  refine r_nil ?_
  exact c_ret (bq1 ⟨none, 0, rfl, St.ownNil _ _ h⟩)
 | cons x r =>
 have hx := hu x (List.mem_cons_self ..)
 have hlst := leastA_lt r x hx
 have hgt := greatA_lt r x hx fun y hy => hu y (List.mem_cons_of_mem _ hy)
 have hlg : leastA x r ≤ greatA x r := Nat.le_trans (leastA_le r x).1 (greatA_ge r x).1
 have hw64 : len64 (greatA x r - leastA x r) ≤ 64 := len64_64 (by omega)
 refine r_is (.bool false) (by simp; omega) ?_
 refine r_nil (c_false rfl (c_skip ?_))
 have hfe : frameEnc (x :: r) = vput (leastA x r) ++ (UInt8.ofNat (len64 (greatA x r - leastA x r)) :: pack ((x :: r).flatMap fun y => bitsOf (y - leastA x r) (len64 (greatA x r - leastA x r)))) := rfl
 have hmem : ∀ y ∈ x :: r, leastA x r ≤ y := by
  intro y hy
  rcases List.mem_cons.1 hy with rfl | hy
  ·exact (leastA_le r y).1
  ·exact (leastA_le r x).2 y hy
 have hl0 : leastA x (x :: r) = leastA x r := by rw [leastA, Nat.min_self]
 have hg0 : greatA x (x :: r) = greatA x r := by rw [greatA, Nat.max_self]
 have hgx : (x :: r)[0]? = some x := rfl
 rw [hfe]
 generalize hlo : leastA x r = lo at *
 generalize hhi : greatA x r = hi at *
 have hpos : 0 < (x :: r).length := by simp
 generalize hU : x :: r = u at *
 clear hfe
 have hrd : ∀ {M : List HProp} {w' : World}, St w0 (M ++ l) w' → Rd w' 1 sl u.length (u64V u) := fun {M w'} h' => hr M w' h'
 obtain ⟨b, o, hsl⟩ := (hrd (M := []) h).some hpos
 refine c_seq (c_anyR [0, 1, 2, 4, 5, 6, 3, 7] none (fun w => St w0 l w) (by kernel_rfl) (by kernel_rfl) h.drew fun w h => ?_)
 refine cur_pure rfl rfl rfl rfl (fun _ => h) (fun _ => flt_v rfl (q_moveS rfl)) ?_
 refine cur_pure rfl rfl rfl rfl (fun _ => h) (fun _ => flt_v rfl (q_idx (b := b) (o := o) (m := u.length) (c := c) (j := 0) (o' := o + 0) (by rw [← hsl]; rfl) rfl rfl hpos (by simp))) ?_
 refine cur_float rfl rfl rfl rfl h (fun w h => flt_v rfl (q_loadc (v := .int .u64 x) rfl ((hsl ▸ hrd (M := []) h).cell (u64V_get hgx)))) ?_
 refine cur_pure rfl rfl rfl rfl (fun _ => h) (fun _ => flt_v rfl (q_moveS rfl)) ?_
 refine cur_pure rfl rfl rfl rfl (fun _ => h) (fun _ => flt_v rfl (q_idx (b := b) (o := o) (m := u.length) (c := c) (j := 0) (o' := o + 0) (by rw [← hsl]; rfl) rfl rfl hpos (by simp))) ?_
 refine cur_float rfl rfl rfl rfl h (fun w h => flt_v rfl (q_loadc (v := .int .u64 x) rfl ((hsl ▸ hrd (M := []) h).cell (u64V_get hgx)))) ?_
 refine cur_pure rfl rfl rfl rfl (fun _ => h) (fun _ => flt_v rfl (q_assignI rfl)) ?_; refine cur_pure rfl rfl rfl rfl (fun _ => h) (fun _ => flt_v rfl (q_assignI rfl)) ?_
 refine cur_end ?_
 refine c_cut (Γ := Unit) (fun _ => [(0, .slice sl u.length c), (3, .int .u64 lo), (4, .int .u64 hi)]) (fun _ w => St w0 l w) ?_ ?_
 ·refine c_seq (c_region ?_)
  refine r_v (q_assignI rfl) rfl ?_
  refine r_nil ?_
  refine c_block ?_
  refine c_loop (Γ := Nat × Nat × Nat) (fun k => [(0, .slice sl u.length c), (3, .int .u64 k.2.1), (4, .int .u64 k.2.2), (5, .int .i64 k.1)])
   (fun k w => k.1 ≤ u.length ∧ leastA k.2.1 (u.drop k.1) = lo ∧ greatA k.2.2 (u.drop k.1) = hi ∧ St w0 l w) (fun k => u.length - k.1) (0, x, x) ⟨rfl, rfl, rfl, rfl, trivial⟩ ⟨Nat.zero_le _, hl0, hg0, h⟩ ?_
  clear h
  rintro ⟨k, a, z⟩ w e ⟨hk, ha, hz, h⟩
  dsimp only at hk ha hz h ⊢
  refine c_seq (c_seq (c_region ?_))
  refine r_v (q_moveI rfl) rfl ?_; refine r_v (q_moveS rfl) rfl ?_; refine r_v (q_len rfl) rfl ?_; refine r_v (q_lss rfl rfl) rfl ?_
  refine r_nil ?_
  refine c_cond (decide ((k : Int) < (u.length : Int))) rfl (fun hc => ?_) (fun hc => ?_)
  ·have hlt : k < u.length := by simp at hc; omega
   have hg := List.getElem?_eq_getElem hlt
   have hdr := List.drop_eq_getElem_cons hlt
   generalize u[k] = y at hg hdr
   rw [hdr] at ha hz
   rw [leastA] at ha
   rw [greatA] at hz
   refine c_skip ?_
   refine c_seq (c_block ?_)
   refine c_any none (fun w => St w0 l w) (by kernel_rfl) (by kernel_rfl) h.drew fun w h => ?_
   refine cur_pure rfl rfl rfl rfl (fun _ => h) (fun _ => flt_v rfl (q_moveI rfl)) ?_; refine cur_pure rfl rfl rfl rfl (fun _ => h) (fun _ => flt_v rfl (q_moveS rfl)) ?_; refine cur_pure rfl rfl rfl rfl (fun _ => h) (fun _ => flt_v rfl (q_moveI rfl)) ?_
   refine cur_pure rfl rfl rfl rfl (fun _ => h) (fun _ => flt_v rfl (q_idx (b := b) (o := o) (m := u.length) (c := c) (o' := o + k) (by rw [← hsl]; rfl) rfl rfl hlt (by simp))) ?_
   refine cur_float rfl rfl rfl rfl h (fun w h => flt_v rfl (q_loadc (v := .int .u64 y) rfl ((hsl ▸ hrd (M := []) h).cell (u64V_get hg)))) ?_
   refine cur_pure rfl rfl rfl rfl (fun _ => h) (fun _ => flt_v rfl (q_is (v' := .int .u64 ((min a y : Nat) : Int)) (q_min rfl rfl) (by congr 1; omega))) ?_
   refine cur_pure rfl rfl rfl rfl (fun _ => h) (fun _ => flt_v rfl (q_moveI rfl)) ?_; refine cur_pure rfl rfl rfl rfl (fun _ => h) (fun _ => flt_v rfl (q_moveS rfl)) ?_; refine cur_pure rfl rfl rfl rfl (fun _ => h) (fun _ => flt_v rfl (q_moveI rfl)) ?_
   refine cur_pure rfl rfl rfl rfl (fun _ => h) (fun _ => flt_v rfl (q_idx (b := b) (o := o) (m := u.length) (c := c) (o' := o + k) (by rw [← hsl]; rfl) rfl rfl hlt (by simp))) ?_
   refine cur_float rfl rfl rfl rfl h (fun w h => flt_v rfl (q_loadc (v := .int .u64 y) rfl ((hsl ▸ hrd (M := []) h).cell (u64V_get hg)))) ?_
   refine cur_pure rfl rfl rfl rfl (fun _ => h) (fun _ => flt_v rfl (q_is (v' := .int .u64 ((max z y : Nat) : Int)) (q_max rfl rfl) (by congr 1; omega))) ?_
   refine cur_pure rfl rfl rfl rfl (fun _ => h) (fun _ => flt_v rfl (q_assignI rfl)) ?_; refine cur_pure rfl rfl rfl rfl (fun _ => h) (fun _ => flt_v rfl (q_assignI rfl)) ?_
   refine cur_end ?_
   refine c_region ?_
   refine r_v (q_moveI rfl) rfl ?_; refine r_v (q_add rfl rfl) rfl ?_
   refine r_is (.int .i64 ((k + 1 : Nat) : Int)) (by rw [wrap64 (by omega) (by omega)]; rfl) ?_
   refine r_v (q_assignI rfl) rfl ?_
   exact r_nil ⟨(k + 1, min a y, max z y), ⟨rfl, rfl, rfl, rfl, trivial⟩, ⟨hlt, ha, hz, h⟩, by dsimp only; omega⟩
  ·obtain rfl : k = u.length := by simp at hc; omega
   rw [List.drop_length, leastA] at ha
   rw [List.drop_length, greatA] at hz
   subst ha hz
   exact c_exit ⟨(), ⟨rfl, rfl, rfl, trivial⟩, h⟩
 clear h
 rintro ⟨⟩ w e h
 refine c_seq (c_region ?_)
 refine r_v (q_assignS rfl) rfl ?_
 refine r_nil ?_
 refine c_cut (Γ := Option Addr × Nat) (fun q => [(3, .int .u64 lo), (4, .int .u64 hi), (6, .slice q.1 (u.map fun y => y - lo).length q.2)]) (fun q w => St w0 (OwnU q.1 q.2 (u.map fun y => y - lo) :: l) w) ?_ ?_
 ·refine c_seq (c_region ?_)
  refine r_v (q_assignI rfl) rfl ?_
  refine r_nil ?_
  refine c_block ?_
  refine c_loop (Γ := Nat × Option Addr × Nat) (fun k => [(0, .slice sl u.length c), (3, .int .u64 lo), (4, .int .u64 hi), (6, .slice k.2.1 ((u.take k.1).map fun y => y - lo).length k.2.2), (7, .int .i64 k.1)])
   (fun k w => k.1 ≤ u.length ∧ St w0 (OwnU k.2.1 k.2.2 ((u.take k.1).map fun y => y - lo) :: l) w) (fun k => u.length - k.1) (0, none, 0) ⟨rfl, rfl, rfl, rfl, rfl, trivial⟩ ⟨Nat.zero_le _, St.ownNil 51 1 h⟩ ?_
  clear h
  rintro ⟨k, oa, oc⟩ w e ⟨hk, h⟩
  dsimp only at hk h ⊢
  refine c_seq (c_seq (c_region ?_))
  refine r_v (q_moveI rfl) rfl ?_; refine r_v (q_moveS rfl) rfl ?_; refine r_v (q_len rfl) rfl ?_; refine r_v (q_lss rfl rfl) rfl ?_
  refine r_nil ?_
  refine c_cond (decide ((k : Int) < (u.length : Int))) rfl (fun hc => ?_) (fun hc => ?_)
  ·have hlt : k < u.length := by simp at hc; omega
   have hg := List.getElem?_eq_getElem hlt
   generalize u[k] = y at hg
   have hyl := hmem y (List.mem_of_getElem? hg)
   have hyu := hu y (List.mem_of_getElem? hg)
   refine c_skip ?_
   refine c_seq (c_block ?_)
   refine c_region ?_
   refine r_v (q_moveS rfl) rfl ?_; refine r_v (q_moveS rfl) rfl ?_; refine r_v (q_moveI rfl) rfl ?_
   refine r_v (q_idx (b := b) (o := o) (m := u.length) (c := c) (o' := o + k) (by rw [← hsl]; rfl) rfl rfl hlt (by simp)) rfl ?_
   refine r_v (q_loadc (v := .int .u64 y) rfl ((hsl ▸ hrd (M := [_]) h).cell (u64V_get hg))) rfl ?_
   refine r_v (q_moveI rfl) rfl ?_; refine r_v (q_sub rfl rfl) rfl ?_
   refine r_is (.int .u64 ((y - lo : Nat) : Int)) (by rw [wrap_us]; unfold us; congr 1; omega) ?_
   refine r_app1 (v := .int .u64 ((y - lo : Nat) : Int)) (m3 := ((u.take (k + 1)).map fun y => y - lo).length) (zs := u64V ((u.take (k + 1)).map fun y => y - lo)) h rfl rfl rfl rfl rfl (by simp; omega) (by rw [List.take_add_one, hg]; simp [u64V, vcells]) (by simp; omega) (by simp; omega) rfl rfl rfl rfl rfl fun b a' c' w _ h => ?_
   refine r_v (q_assignS rfl) rfl ?_
   refine r_nil ?_
   refine c_region ?_
   refine r_v (q_moveI rfl) rfl ?_; refine r_v (q_add rfl rfl) rfl ?_
   refine r_is (.int .i64 ((k + 1 : Nat) : Int)) (by rw [wrap64 (by omega) (by omega)]; rfl) ?_
   refine r_v (q_assignI rfl) rfl ?_
   exact r_nil ⟨(k + 1, a', c'), ⟨rfl, rfl, rfl, rfl, rfl, trivial⟩, ⟨hlt, h⟩, by dsimp only; omega⟩
  ·obtain rfl : k = u.length := by simp at hc; omega
   rw [List.take_length] at h
   refine c_exit ⟨(oa, oc), ⟨rfl, rfl, ?_, trivial⟩, h⟩
   show Value.slice oa ((u.take u.length).map fun y => y - lo).length oc = _
   rw [List.take_length]
 clear h
 rintro ⟨oa, oc⟩ w e h
 dsimp only at h ⊢
 have hv := vput_len lo
 refine c_seq (c_region ?_)
 refine r_v (q_moveI rfl) rfl ?_
 refine r_c rfl (x_call rfl (ref1_Put (bs := []) lo hlst h (fun w' h' => Reads.nil.at_ h') (by simp)) ?_)
 rintro _ w ⟨a1, c1, rfl, h⟩
 rw [List.nil_append] at h ⊢
 refine r_v (q_moveI rfl) rfl ?_; refine r_v (q_moveI rfl) rfl ?_; refine r_v (q_sub rfl rfl) rfl ?_
 refine r_is (.int .u64 ((hi - lo : Nat) : Int)) (by rw [wrap_us]; unfold us; congr 1; omega) ?_
 refine r_c rfl (x_call rfl (ref4_width (by omega) h) ?_)
 rintro _ w ⟨rfl, h⟩
 refine r_v (q_conv rfl) rfl ?_
 refine r_is (.int .u8 ((UInt8.ofNat (len64 (hi - lo))).toNat : Int)) (by rw [wrap_u8, UInt8.toNat_ofNat']) ?_
 refine r_app1 (v := .int .u8 ((UInt8.ofNat (len64 (hi - lo))).toNat : Int)) (m3 := (vput lo ++ [UInt8.ofNat (len64 (hi - lo))]).length) (zs := bytesV (vput lo ++ [UInt8.ofNat (len64 (hi - lo))])) h rfl rfl rfl rfl rfl (by simp) (by simp [bytesV, vcells]) (by simp; omega) (by simp; omega) rfl rfl rfl rfl rfl fun b2 a2 c2 w _ h => ?_
 refine r_v (q_moveS rfl) rfl ?_; refine r_v (q_moveI rfl) rfl ?_; refine r_v (q_moveI rfl) rfl ?_; refine r_v (q_sub rfl rfl) rfl ?_
 refine r_is (.int .u64 ((hi - lo : Nat) : Int)) (by rw [wrap_us]; unfold us; congr 1; omega) ?_
 refine r_c rfl (x_call rfl (ref4_width (by omega) h) ?_)
 rintro _ w ⟨rfl, h⟩
 refine r_c rfl (x_call rfl (ref4_pack (ls := u.map fun y => y - lo) hw64 (by simp; exact hn) (by simp; omega) (fun y hy => by obtain ⟨z, hz, rfl⟩ := List.mem_map.1 hy; have := hu z hz; omega) Reads.own Reads.own.cons h) ?_)
 rintro _ w ⟨a3, c3, rfl, h⟩
 rw [flat_map_bits, List.append_assoc] at h
 refine r_v (q_assignS rfl) rfl ?_
 refine r_nil ?_
 refine c_ret (bq1 ⟨a3, c3, ?_, (h.f 1).drop.f 1 |>.drop⟩)
 rw [flat_map_bits, List.append_assoc]
 rfl

theorem ref4_Dict {sl : Option Addr} {c : Nat} {u : List Nat} (hu : ∀ x ∈ u, x < 18446744073709551616) (hn : u.length ≤ 65535) (hr : Reads w0 l 1 sl u.length (u64V u)) (h : St w0 l w) :
  Ret Tryz.prog 78 [.slice sl u.length c] w fun v w' => ∃ a c', v = .tuple [.slice a ((dictEnc u).getD []).length c', .bool (dictEnc u).isSome].toArray ∧ St w0 (OwnB a c' ((dictEnc u).getD []) :: l) w' := by
 have hrd : ∀ {M : List HProp} {w' : World}, St w0 (M ++ l) w' → Rd w' 1 sl u.length (u64V u) := fun {M w'} h' => hr M w' h'
 refine enter Tryz.func78 rfl Tryz.results78 Tryz.ntmps78 rfl ?_
 refine c_seq (c_region ?_)
 refine r_v (q_assignS rfl) rfl ?_; refine r_v (q_assignB rfl) rfl ?_
 refine r_nil ?_
 refine c_seq (c_region ?_)
 refine r_v (q_assignS rfl) rfl ?_; refine r_v (q_assignS rfl) rfl ?_
 refine r_nil ?_
 refine c_cut (Γ := List Nat × Option Addr × Nat × Option Addr × Nat) (fun q => [(0, .slice sl u.length c), (4, .slice q.2.1 q.1.length q.2.2.1), (5, .slice q.2.2.2.1 (u.map fun x => q.1.idxOf x).length q.2.2.2.2)])
  (fun q w => unlikeA [] u = some q.1 ∧ St w0 (OwnU q.2.1 q.2.2.1 q.1 :: OwnU q.2.2.2.1 q.2.2.2.2 (u.map fun x => q.1.idxOf x) :: l) w) ?_ ?_
 ·refine c_seq (c_region ?_)
  refine r_v (q_assignI rfl) rfl ?_
  refine r_nil ?_
  refine c_block ?_
  refine c_loop (Γ := Nat × List Nat × Option Addr × Nat × Option Addr × Nat) (fun k => [(0, .slice sl u.length c), (4, .slice k.2.2.1 k.2.1.length k.2.2.2.1), (5, .slice k.2.2.2.2.1 ((u.take k.1).map fun x => k.2.1.idxOf x).length k.2.2.2.2.2), (6, .int .i64 k.1)])
   (fun k w => k.1 ≤ u.length ∧ k.2.1.length ≤ 256 ∧ (∀ x ∈ u.take k.1, x ∈ k.2.1) ∧ unlikeA k.2.1 (u.drop k.1) = unlikeA [] u ∧ St w0 (OwnU k.2.2.1 k.2.2.2.1 k.2.1 :: OwnU k.2.2.2.2.1 k.2.2.2.2.2 ((u.take k.1).map fun x => k.2.1.idxOf x) :: l) w)
   (fun k => u.length - k.1) (0, [], none, 0, none, 0) ⟨rfl, rfl, rfl, rfl, trivial⟩ ⟨Nat.zero_le _, by decide, (fun _ h => by cases h), rfl, St.ownNil 51 1 (St.ownNil 51 1 h)⟩ ?_
  clear h
  rintro ⟨i, m, ma, mc, ia, ic⟩ w e ⟨hi, hm, hall, he, h⟩
  dsimp only at hi hm hall he h ⊢
  refine c_seq (c_seq (c_region ?_))
  refine r_v (q_moveI rfl) rfl ?_; refine r_v (q_moveS rfl) rfl ?_; refine r_v (q_len rfl) rfl ?_; refine r_v (q_lss rfl rfl) rfl ?_
  refine r_nil ?_
  refine c_cond (decide ((i : Int) < (u.length : Int))) rfl (fun hc => ?_) (fun hc => ?_)
  ·have hlt : i < u.length := by simp at hc; omega
   have hg := List.getElem?_eq_getElem hlt
   have hdr := List.drop_eq_getElem_cons hlt
   generalize u[i] = x at hg hdr
   have hx := hu x (List.mem_of_getElem? hg)
   obtain ⟨b, o, hsl⟩ := (hrd (M := [_, _]) h).some (by omega)
   rw [hdr, unlikeA] at he
   refine c_skip ?_
   refine c_seq (c_block ?_)
   refine c_cut (Γ := List Nat × Option Addr × Nat) (fun q => [(0, .slice sl u.length c), (4, .slice q.2.1 q.1.length q.2.2), (5, .slice ia ((u.take i).map fun x => q.1.idxOf x).length ic), (6, .int .i64 i)])
    (fun q w => q.1.length ≤ 257 ∧ x ∈ q.1 ∧ (∀ y ∈ u.take i, y ∈ q.1) ∧ (if 256 < q.1.length then none else unlikeA q.1 (u.drop (i + 1))) = unlikeA [] u ∧ St w0 (OwnU q.2.1 q.2.2 q.1 :: OwnU ia ic ((u.take i).map fun x => q.1.idxOf x) :: l) w) ?_ ?_
   ·refine c_seq (c_region ?_)
    refine r_v (q_moveS rfl) rfl ?_; refine r_v (q_moveS rfl) rfl ?_; refine r_v (q_moveI rfl) rfl ?_
    refine r_v (q_idx (b := b) (o := o) (m := u.length) (c := c) (o' := o + i) (by rw [← hsl]; rfl) rfl rfl hlt (by simp)) rfl ?_
    refine r_v (q_loadc (v := .int .u64 x) rfl ((hsl ▸ hrd (M := [_, _]) h).cell (u64V_get hg))) rfl ?_
    refine r_c rfl (x_call rfl (ref4_place x (by omega) Reads.own h) ?_)
    rintro _ w ⟨rfl, h⟩
    refine r_v (q_lss rfl rfl) rfl ?_
    by_cases hxm : x ∈ m
    ·rw [if_pos hxm] at he
     refine r_is (.bool false) (by rw [if_pos hxm]; exact congrArg Value.bool (decide_eq_false (by omega))) ?_
     refine r_nil (c_false rfl (c_skip ⟨(m, ma, mc), ⟨rfl, rfl, rfl, rfl, trivial⟩, by dsimp only; omega, hxm, hall, ?_, h⟩))
     dsimp only
     rw [if_neg (by omega)]
     exact he
    ·rw [if_neg hxm] at he
     refine r_is (.bool true) (by rw [if_neg hxm]; rfl) ?_
     refine r_nil (c_true rfl ?_)
     refine c_region ?_
     refine r_v (q_moveS rfl) rfl ?_; refine r_v (q_moveS rfl) rfl ?_; refine r_v (q_moveI rfl) rfl ?_
     refine r_v (q_idx (b := b) (o := o) (m := u.length) (c := c) (o' := o + i) (by rw [← hsl]; rfl) rfl rfl hlt (by simp)) rfl ?_
     refine r_v (q_loadc (v := .int .u64 x) rfl ((hsl ▸ hrd (M := [_, _]) h).cell (u64V_get hg))) rfl ?_
     refine r_app1 (v := .int .u64 (x : Int)) (m3 := (m ++ [x]).length) (zs := u64V (m ++ [x])) h rfl rfl rfl rfl rfl (by simp) (by simp [u64V, vcells]) (by simp; omega) (by simp; omega) rfl rfl rfl rfl rfl fun b a' c' w _ h => ?_
     refine r_v (q_assignS rfl) rfl ?_
     have hmap : ((u.take i).map fun y => m.idxOf y) = (u.take i).map fun y => (m ++ [x]).idxOf y := List.map_congr_left fun y hy => (idxOf_append_of_mem (hall y hy)).symm
     refine r_nil ⟨(m ++ [x], a', c'), ⟨rfl, rfl, ?_, rfl, trivial⟩, by simp; omega, by simp, fun y hy => List.mem_append_left _ (hall y hy), ?_, ?_⟩
     ·show Value.slice ia _ ic = _
      rw [← hmap]
     ·dsimp only
      rw [← he, List.length_append, List.length_singleton]
      by_cases h6 : m.length = 256
      ·rw [if_pos (by omega), if_pos h6]
      ·rw [if_neg (by omega), if_neg h6]
     ·dsimp only
      rw [← hmap]
      exact h
   clear h he hall hm
   rintro ⟨m, ma, mc⟩ w e ⟨hm, hxm, hall, he, h⟩
   dsimp only at hm hxm hall he h ⊢
   have hix := List.idxOf_lt_length_of_mem hxm
   refine c_seq (c_region ?_)
   refine r_v (q_moveS rfl) rfl ?_; refine r_v (q_moveS rfl) rfl ?_; refine r_v (q_moveS rfl) rfl ?_; refine r_v (q_moveI rfl) rfl ?_
   refine r_v (q_idx (b := b) (o := o) (m := u.length) (c := c) (o' := o + i) (by rw [← hsl]; rfl) rfl rfl hlt (by simp)) rfl ?_
   refine r_v (q_loadc (v := .int .u64 x) rfl ((hsl ▸ hrd (M := [_, _]) h).cell (u64V_get hg))) rfl ?_
   refine r_c rfl (x_call rfl (ref4_place x (by omega) Reads.own h) ?_)
   rintro _ w ⟨rfl, h⟩
   rw [if_pos hxm]
   refine r_v (q_conv rfl) rfl ?_
   refine r_is (.int .u64 ((m.idxOf x : Nat) : Int)) (by rw [wrap_u64, Nat.mod_eq_of_lt (by omega)]) ?_
   refine r_app1 (v := .int .u64 ((m.idxOf x : Nat) : Int)) (m3 := ((u.take (i + 1)).map fun y => m.idxOf y).length) (zs := u64V ((u.take (i + 1)).map fun y => m.idxOf y)) (h.f 1) rfl rfl rfl rfl rfl (by simp; omega) (by rw [List.take_add_one, hg]; simp [u64V, vcells]) (by simp; omega) (by simp; omega) rfl rfl rfl rfl rfl fun b a' c' w _ h => ?_
   refine r_v (q_assignS rfl) rfl ?_
   refine r_nil ?_
   refine c_seq (c_region ?_)
   refine r_v (q_moveS rfl) rfl ?_; refine r_v (q_len rfl) rfl ?_; refine r_v (q_gtr rfl rfl) rfl ?_
   refine r_nil ?_
   refine c_cond (decide ((m.length : Int) > 256)) rfl (fun hc => ?_) (fun hc => ?_)
   ·rw [if_pos (by simp at hc; omega)] at he
    have hd : dictEnc u = none := by unfold dictEnc; rw [← he]
    rw [hd]
    refine c_seq (c_region ?_)
    refine r_v (q_assignS rfl) rfl ?_; refine r_v (q_assignB rfl) rfl ?_
    exact r_nil (c_ret (bq2 ⟨none, 0, rfl, St.ownNil _ _ h.drop.drop⟩))
   ·rw [if_neg (by simp at hc; omega)] at he
    refine c_skip ?_
    refine c_region ?_
    refine r_v (q_moveI rfl) rfl ?_; refine r_v (q_add rfl rfl) rfl ?_
    refine r_is (.int .i64 ((i + 1 : Nat) : Int)) (by rw [wrap64 (by omega) (by omega)]; rfl) ?_
    refine r_v (q_assignI rfl) rfl ?_
    refine r_nil ⟨(i + 1, m, ma, mc, a', c'), ⟨rfl, rfl, rfl, rfl, trivial⟩, ⟨hlt, by simp at hc; dsimp only; omega, fun y hy => ?_, he, h.f 1⟩, by dsimp only; omega⟩
    dsimp only at hy ⊢
    rw [List.take_add_one, hg] at hy
    rcases List.mem_append.1 hy with hy | hy
    ·exact hall y hy
    ·have : y = x := by simpa using hy
     rw [this]; exact hxm
  ·obtain rfl : i = u.length := by simp at hc; omega
   rw [List.drop_length, unlikeA] at he
   rw [List.take_length] at h
   refine c_exit ⟨(m, ma, mc, ia, ic), ⟨rfl, rfl, ?_, trivial⟩, he.symm, h⟩
   show Value.slice ia ((u.take u.length).map _).length ic = _
   rw [List.take_length]
 clear h
 rintro ⟨m, ma, mc, ia, ic⟩ w e ⟨hso, h⟩
 dsimp only at hso h ⊢
 obtain ⟨_, hmem, hm256, hfrom⟩ := unlikeA_some u [] m hso (by simp)
 have hm64 : ∀ x ∈ m, x < 18446744073709551616 := fun x hx => by
  rcases hfrom x hx with h | h
  ·cases h
  ·exact hu x h
 refine c_seq (c_seq (c_region ?_))
 refine r_v (q_moveS rfl) rfl ?_; refine r_v (q_len rfl) rfl ?_; refine r_v (q_eql rfl rfl) rfl ?_
 by_cases hu0 : u.length = 0
 ·refine r_is (.bool true) (by rw [hu0]; rfl) ?_
  refine r_nil (c_true rfl ?_)
  have hd : dictEnc u = some [] := by unfold dictEnc; rw [hso]; exact if_pos (List.eq_nil_of_length_eq_zero hu0)
  rw [hd]
  refine c_seq (c_region ?_)
  refine r_v (q_assignS rfl) rfl ?_; refine r_v (q_assignB rfl) rfl ?_
  exact r_nil (c_ret (bq2 ⟨none, 0, rfl, St.ownNil _ _ h.drop.drop⟩))
 have hd : dictEnc u = some (dictBytes m u) := by unfold dictEnc; rw [hso]; dsimp only; rw [if_neg (fun hh => hu0 (by rw [hh]; rfl))]
 rw [hd]
 have hmpos : 0 < m.length := by
  have hg := List.getElem?_eq_getElem (show 0 < u.length by omega)
  exact List.length_pos_of_mem (hmem _ (List.mem_of_getElem? hg))
 refine r_is (.bool false) (by congr 1; rw [beq_eq_false_iff_ne]; omega) ?_
 refine r_nil (c_false rfl (c_skip ?_))
 have hvl := vput_len m.length
 refine c_seq (c_region ?_)
 refine r_v (q_moveS rfl) rfl ?_; refine r_v (q_len rfl) rfl ?_; refine r_v (q_conv rfl) rfl ?_
 refine r_is (.int .u64 (m.length : Int)) (by rw [wrap_u64, Nat.mod_eq_of_lt (by omega)]) ?_
 refine r_c rfl (x_call rfl (ref1_Put (bs := []) m.length (by omega) h (fun w' h' => Reads.nil.at_ h') (by simp)) ?_)
 rintro _ w ⟨a1, c1, rfl, h⟩
 rw [List.nil_append] at h ⊢
 refine r_v (q_assignS rfl) rfl ?_
 refine r_nil ?_
 refine c_cut (Γ := Option Addr × Nat) (fun q => [(4, .slice ma m.length mc), (5, .slice ia (u.map fun x => m.idxOf x).length ic), (7, .slice q.1 (vput m.length ++ m.flatMap vput).length q.2)]) (fun q w => St w0 (OwnB q.1 q.2 (vput m.length ++ m.flatMap vput) :: OwnU ma mc m :: OwnU ia ic (u.map fun x => m.idxOf x) :: l) w) ?_ ?_
 ·refine c_seq (c_region ?_)
  refine r_v (q_assignI rfl) rfl ?_
  refine r_nil ?_
  refine c_block ?_
  refine c_loop (Γ := Nat × Option Addr × Nat) (fun k => [(4, .slice ma m.length mc), (5, .slice ia (u.map fun x => m.idxOf x).length ic), (7, .slice k.2.1 (vput m.length ++ (m.take k.1).flatMap vput).length k.2.2), (8, .int .i64 k.1)])
   (fun k w => k.1 ≤ m.length ∧ St w0 (OwnB k.2.1 k.2.2 (vput m.length ++ (m.take k.1).flatMap vput) :: OwnU ma mc m :: OwnU ia ic (u.map fun x => m.idxOf x) :: l) w) (fun k => m.length - k.1) (0, a1, c1) ⟨rfl, rfl, by simp; rfl, rfl, trivial⟩ ⟨Nat.zero_le _, by simpa using h⟩ ?_
  clear h
  rintro ⟨k, a1, c1⟩ w e ⟨hk, h⟩
  dsimp only at hk h ⊢
  refine c_seq (c_seq (c_region ?_))
  refine r_v (q_moveI rfl) rfl ?_; refine r_v (q_moveS rfl) rfl ?_; refine r_v (q_len rfl) rfl ?_; refine r_v (q_lss rfl rfl) rfl ?_
  refine r_nil ?_
  refine c_cond (decide ((k : Int) < (m.length : Int))) rfl (fun hc => ?_) (fun hc => ?_)
  ·have hlt : k < m.length := by simp at hc; omega
   have hg := List.getElem?_eq_getElem hlt
   generalize m[k] = y at hg
   have hvs := vputs_len (m.take k)
   rw [List.length_take, Nat.min_eq_left hk] at hvs
   obtain ⟨g, rfl⟩ := (h.f 1).own_some (by omega)
   refine c_skip ?_
   refine c_seq (c_block ?_)
   refine c_region ?_
   refine r_v (q_moveS rfl) rfl ?_; refine r_v (q_moveS rfl) rfl ?_; refine r_v (q_moveI rfl) rfl ?_
   refine r_v (q_idx (b := g) (o := 0) (m := m.length) (c := mc) (o' := k) rfl rfl rfl hlt (by simp)) rfl ?_
   refine r_v (q_loadc (v := .int .u64 y) rfl (by have := (h.f 1).own_rd.cell (u64V_get hg); simpa using this)) rfl ?_
   refine r_c rfl (x_call rfl (ref1_Put y (hm64 y (List.mem_of_getElem? hg)) h (fun w' h' => h'.own_rd) (by rw [List.length_append]; omega)) ?_)
   rintro _ w ⟨a2, c2, rfl, h⟩
   have e1 : vput m.length ++ (m.take k).flatMap vput ++ vput y = vput m.length ++ (m.take (k + 1)).flatMap vput := by rw [List.take_add_one, hg]; simp
   rw [e1] at h ⊢
   refine r_v (q_assignS rfl) rfl ?_
   refine r_nil ?_
   refine c_region ?_
   refine r_v (q_moveI rfl) rfl ?_; refine r_v (q_add rfl rfl) rfl ?_
   refine r_is (.int .i64 ((k + 1 : Nat) : Int)) (by rw [wrap64 (by omega) (by omega)]; rfl) ?_
   refine r_v (q_assignI rfl) rfl ?_
   exact r_nil ⟨(k + 1, a2, c2), ⟨rfl, rfl, rfl, rfl, trivial⟩, ⟨hlt, (h.f 1).drop⟩, by dsimp only; omega⟩
  ·obtain rfl : k = m.length := by simp at hc; omega
   rw [List.take_length] at h
   refine c_exit ⟨(a1, c1), ⟨rfl, rfl, ?_, trivial⟩, h⟩
   show Value.slice a1 (vput m.length ++ (m.take m.length).flatMap vput).length c1 = _
   rw [List.take_length]
 clear h
 rintro ⟨a2, c2⟩ w e h
 dsimp only at h ⊢
 have hvs := vputs_len m
 have hw64 : len64 (m.length - 1) ≤ 64 := len64_64 (by omega)
 refine c_seq (c_region ?_)
 refine r_v (q_moveS rfl) rfl ?_; refine r_v (q_moveS rfl) rfl ?_; refine r_v (q_moveS rfl) rfl ?_; refine r_v (q_len rfl) rfl ?_; refine r_v (q_sub rfl rfl) rfl ?_
 refine r_is (.int .i64 ((m.length - 1 : Nat) : Int)) (by rw [wrap64 (by omega) (by omega)]; congr 1; omega) ?_
 refine r_v (q_conv rfl) rfl ?_
 refine r_is (.int .u64 ((m.length - 1 : Nat) : Int)) (by rw [wrap_u64, Nat.mod_eq_of_lt (by omega)]) ?_
 refine r_c rfl (x_call rfl (ref4_width (by omega) h) ?_)
 rintro _ w ⟨rfl, h⟩
 refine r_c rfl (x_call rfl (ref4_pack (ls := u.map fun x => m.idxOf x) hw64 (by simp; exact hn) (by rw [List.length_append]; omega) (fun y hy => by obtain ⟨z, hz, rfl⟩ := List.mem_map.1 hy; have := List.idxOf_lt_length_of_mem (hmem z hz); omega) Reads.own Reads.own.cons.cons h) ?_)
 rintro _ w ⟨a3, c3, rfl, h⟩
 have e2 : vput m.length ++ m.flatMap vput ++ pack ((u.map fun x => m.idxOf x).flatMap fun y => bitsOf y (len64 (m.length - 1))) = dictBytes m u := by rw [flat_map_bits, List.append_assoc]; rfl
 rw [e2] at h ⊢
 refine r_v (q_assignS rfl) rfl ?_; refine r_v (q_assignB rfl) rfl ?_
 exact r_nil (c_ret (bq2 ⟨a3, c3, rfl, ((h.f 1).drop.f 1).drop.f 1 |>.drop⟩))
end
end Go.Proofs.YtjjacchnalemaaaGreatDoor

namespace Go.Hw
theorem tags_drop {k : Nat} (h : k < 6) : ([1, 2, 3, 4, 5, 6] : List Int).drop k = ((k + 1 : Nat) : Int) :: ([1, 2, 3, 4, 5, 6] : List Int).drop (k + 1) := by
 rcases (by omega : k = 0 ∨ k = 1 ∨ k = 2 ∨ k = 3 ∨ k = 4 ∨ k = 5) with rfl | rfl | rfl | rfl | rfl | rfl <;> rfl
end Go.Hw
namespace Go.Proofs.YtjjacchnalemaaaGreatDoor
open Go.Hw
set_option maxHeartbeats 4000000
set_option maxRecDepth 100000
section
variable {w0 w : World} {l : List HProp}
theorem suit_Best (hT : Tz w0) {sl : Option Addr} {c : Nat} {L : List Smp} (hw : ∀ s ∈ L, s.Wf) (hn : L.length ≤ 1073741824) (hr : Reads w0 l 2 sl L.length (smpsV L)) (h : St w0 l w) :
  Ret Tryz.prog 10 [.slice sl L.length c] w fun v w' => ∃ a c', v = .tuple [.int .i64 (suitBest L).1, .slice a (suitBest L).2.length c'].toArray ∧ St w0 (OwnB a c' (suitBest L).2 :: l) w' := by
 refine enter Tryz.func10 rfl Tryz.results10 Tryz.ntmps10 rfl ?_
 refine c_seq (c_region ?_)
 refine r_v (q_assignI rfl) rfl ?_; refine r_v (q_assignS rfl) rfl ?_
 refine r_nil ?_
 refine c_seq (c_region ?_)
 refine r_v (q_assignI rfl) rfl ?_; refine r_v (q_assignS rfl) rfl ?_
 refine r_nil ?_
 refine c_seq (c_seq (c_region ?_))
 refine r_v (q_assignI rfl) rfl ?_
 refine r_nil ?_
 refine c_block ?_
 refine c_loop (Γ := Nat × Int × List UInt8 × Option Addr × Nat) (fun k => [(0, .slice sl L.length c), (4, .int .i64 k.2.1), (5, .slice k.2.2.2.1 k.2.2.1.length k.2.2.2.2), (6, .int .i64 ((k.1 + 1 : Nat) : Int))])
  (fun k w => k.1 ≤ 6 ∧ bestA L (([1, 2, 3, 4, 5, 6] : List Int).drop k.1) k.2.1 k.2.2.1 = suitBest L ∧ St w0 (OwnB k.2.2.2.1 k.2.2.2.2 k.2.2.1 :: l) w) (fun k => 6 - k.1) (0, 0, [], none, 0) ⟨rfl, rfl, rfl, rfl, trivial⟩ ⟨Nat.zero_le _, rfl, St.ownNil _ _ h⟩ ?_
 clear h
 rintro ⟨k, best, out, a, c1⟩ w e ⟨hk, he, h⟩
 dsimp only at hk he h ⊢
 refine c_seq (c_seq (c_region ?_))
 refine r_v (q_moveI rfl) rfl ?_; refine r_v (q_leq rfl rfl) rfl ?_
 by_cases hlt : k < 6
 ·refine r_is (.bool true) (by simp; omega) ?_
  refine r_nil (c_true rfl (c_skip ?_))
  rw [tags_drop hlt, bestA] at he
  refine c_cut (Γ := Int × List UInt8 × Option Addr × Nat) (fun q => [(0, .slice sl L.length c), (4, .int .i64 q.1), (5, .slice q.2.2.1 q.2.1.length q.2.2.2), (6, .int .i64 ((k + 1 : Nat) : Int))])
   (fun q w => bestA L (([1, 2, 3, 4, 5, 6] : List Int).drop (k + 1)) q.1 q.2.1 = suitBest L ∧ St w0 (OwnB q.2.2.1 q.2.2.2 q.2.1 :: l) w) ?_ ?_
  ·refine c_block ?_
   refine c_seq (c_region ?_)
   refine r_v (q_moveI rfl) rfl ?_; refine r_v (q_moveS rfl) rfl ?_
   refine r_c rfl (x_call rfl (suit_Encode hT ((k + 1 : Nat) : Int) hw hn hr.cons h) ?_)
   rintro _ w ⟨a2, c2, rfl, h⟩
   refine r_v (q_moveT rfl) rfl ?_; refine r_v (q_ext rfl rfl) rfl ?_; refine r_v (q_ext rfl rfl) rfl ?_; refine r_v (q_assignS rfl) rfl ?_; refine r_v (q_assignB rfl) rfl ?_
   refine r_nil ?_
   refine c_seq (c_region ?_)
   cases hE : suitEnc ((k + 1 : Nat) : Int) L with
   | none =>
    rw [hE] at he h
    refine r_v (q_moveB rfl) rfl ?_; refine r_v (q_moveB rfl) rfl ?_; (first | refine r_gd rfl rfl ?_ | refine r_gn rfl rfl rfl ?_ | refine r_gu rfl rfl ?_ | refine r_gd rfl (by assumption) ?_ | refine r_gn rfl (by assumption) rfl ?_); (first | refine r_gd rfl rfl ?_ | refine r_gn rfl rfl rfl ?_ | refine r_gu rfl rfl ?_ | refine r_gd rfl (by assumption) ?_ | refine r_gn rfl (by assumption) rfl ?_); (first | refine r_gd rfl rfl ?_ | refine r_gn rfl rfl rfl ?_ | refine r_gu rfl rfl ?_ | refine r_gd rfl (by assumption) ?_ | refine r_gn rfl (by assumption) rfl ?_); (first | refine r_gd rfl rfl ?_ | refine r_gn rfl rfl rfl ?_ | refine r_gu rfl rfl ?_ | refine r_gd rfl (by assumption) ?_ | refine r_gn rfl (by assumption) rfl ?_); (first | refine r_gd rfl rfl ?_ | refine r_gn rfl rfl rfl ?_ | refine r_gu rfl rfl ?_ | refine r_gd rfl (by assumption) ?_ | refine r_gn rfl (by assumption) rfl ?_); (first | refine r_gd rfl rfl ?_ | refine r_gn rfl rfl rfl ?_ | refine r_gu rfl rfl ?_ | refine r_gd rfl (by assumption) ?_ | refine r_gn rfl (by assumption) rfl ?_); (first | refine r_gd rfl rfl ?_ | refine r_gn rfl rfl rfl ?_ | refine r_gu rfl rfl ?_ | refine r_gd rfl (by assumption) ?_ | refine r_gn rfl (by assumption) rfl ?_); (first | refine r_gd rfl rfl ?_ | refine r_gn rfl rfl rfl ?_ | refine r_gu rfl rfl ?_ | refine r_gd rfl (by assumption) ?_ | refine r_gn rfl (by assumption) rfl ?_); (first | refine r_gd rfl rfl ?_ | refine r_gn rfl rfl rfl ?_ | refine r_gu rfl rfl ?_ | refine r_gd rfl (by assumption) ?_ | refine r_gn rfl (by assumption) rfl ?_); (first | refine r_v (q_pick1 rfl rfl rfl) rfl ?_ | refine r_v (q_pick0 rfl rfl rfl) rfl ?_ | refine r_v (q_pick1 rfl (by assumption) rfl) rfl ?_ | refine r_v (q_pick0 rfl (by assumption) rfl) rfl ?_ | refine r_v (q_pickB rfl rfl rfl) rfl ?_)
    refine r_nil (c_false rfl (c_skip ?_))
    exact ⟨(best, out, a, c1), ⟨rfl, rfl, rfl, rfl, trivial⟩, he, h.drop⟩
   | some b =>
    rw [hE] at he h
    dsimp only at he
    have take : (best = 0 ∨ b.length < out.length) → bestA L (([1, 2, 3, 4, 5, 6] : List Int).drop (k + 1)) ((k + 1 : Nat) : Int) b = suitBest L := fun hh => by rw [if_pos hh] at he; exact he
    by_cases hb : best = 0
    ·refine r_v (q_moveB rfl) rfl ?_; refine r_v (q_moveB rfl) rfl ?_; (first | refine r_gd rfl rfl ?_ | refine r_gn rfl rfl rfl ?_ | refine r_gu rfl rfl ?_ | refine r_gd rfl (by assumption) ?_ | refine r_gn rfl (by assumption) rfl ?_); refine r_v (q_moveI rfl) rfl ?_; (first | refine r_gd rfl rfl ?_ | refine r_gn rfl rfl rfl ?_ | refine r_gu rfl rfl ?_ | refine r_gd rfl (by assumption) ?_ | refine r_gn rfl (by assumption) rfl ?_)
     refine r_v (q_is (v' := .bool true) (q_eql rfl rfl) (by rw [hb]; rfl)) rfl ?_
     (first | refine r_gd rfl rfl ?_ | refine r_gn rfl rfl rfl ?_ | refine r_gu rfl rfl ?_ | refine r_gd rfl (by assumption) ?_ | refine r_gn rfl (by assumption) rfl ?_); refine r_v (q_moveB rfl) rfl ?_; (first | refine r_gd rfl rfl ?_ | refine r_gn rfl rfl rfl ?_ | refine r_gu rfl rfl ?_ | refine r_gd rfl (by assumption) ?_ | refine r_gn rfl (by assumption) rfl ?_); (first | refine r_gd rfl rfl ?_ | refine r_gn rfl rfl rfl ?_ | refine r_gu rfl rfl ?_ | refine r_gd rfl (by assumption) ?_ | refine r_gn rfl (by assumption) rfl ?_); (first | refine r_gd rfl rfl ?_ | refine r_gn rfl rfl rfl ?_ | refine r_gu rfl rfl ?_ | refine r_gd rfl (by assumption) ?_ | refine r_gn rfl (by assumption) rfl ?_); (first | refine r_gd rfl rfl ?_ | refine r_gn rfl rfl rfl ?_ | refine r_gu rfl rfl ?_ | refine r_gd rfl (by assumption) ?_ | refine r_gn rfl (by assumption) rfl ?_); (first | refine r_gd rfl rfl ?_ | refine r_gn rfl rfl rfl ?_ | refine r_gu rfl rfl ?_ | refine r_gd rfl (by assumption) ?_ | refine r_gn rfl (by assumption) rfl ?_); (first | refine r_gd rfl rfl ?_ | refine r_gn rfl rfl rfl ?_ | refine r_gu rfl rfl ?_ | refine r_gd rfl (by assumption) ?_ | refine r_gn rfl (by assumption) rfl ?_); (first | refine r_v (q_pick1 rfl rfl rfl) rfl ?_ | refine r_v (q_pick0 rfl rfl rfl) rfl ?_ | refine r_v (q_pick1 rfl (by assumption) rfl) rfl ?_ | refine r_v (q_pick0 rfl (by assumption) rfl) rfl ?_ | refine r_v (q_pickB rfl rfl rfl) rfl ?_); (first | refine r_v (q_pick1 rfl rfl rfl) rfl ?_ | refine r_v (q_pick0 rfl rfl rfl) rfl ?_ | refine r_v (q_pick1 rfl (by assumption) rfl) rfl ?_ | refine r_v (q_pick0 rfl (by assumption) rfl) rfl ?_ | refine r_v (q_pickB rfl rfl rfl) rfl ?_)
     refine r_nil (c_true rfl ?_)
     refine c_region ?_
     refine r_v (q_moveI rfl) rfl ?_; refine r_v (q_moveS rfl) rfl ?_; refine r_v (q_assignI rfl) rfl ?_; refine r_v (q_assignS rfl) rfl ?_
     exact r_nil ⟨(((k + 1 : Nat) : Int), b, a2, c2), ⟨rfl, rfl, rfl, rfl, trivial⟩, take (.inl hb), (h.f 1).drop⟩
    ·refine r_v (q_moveB rfl) rfl ?_; refine r_v (q_moveB rfl) rfl ?_; (first | refine r_gd rfl rfl ?_ | refine r_gn rfl rfl rfl ?_ | refine r_gu rfl rfl ?_ | refine r_gd rfl (by assumption) ?_ | refine r_gn rfl (by assumption) rfl ?_); refine r_v (q_moveI rfl) rfl ?_; (first | refine r_gd rfl rfl ?_ | refine r_gn rfl rfl rfl ?_ | refine r_gu rfl rfl ?_ | refine r_gd rfl (by assumption) ?_ | refine r_gn rfl (by assumption) rfl ?_)
     refine r_v (q_is (v' := .bool false) (q_eql rfl rfl) (by congr 1; rw [beq_eq_false_iff_ne]; exact hb)) rfl ?_
     (first | refine r_gd rfl rfl ?_ | refine r_gn rfl rfl rfl ?_ | refine r_gu rfl rfl ?_ | refine r_gd rfl (by assumption) ?_ | refine r_gn rfl (by assumption) rfl ?_); refine r_v (q_moveB rfl) rfl ?_; (first | refine r_gd rfl rfl ?_ | refine r_gn rfl rfl rfl ?_ | refine r_gu rfl rfl ?_ | refine r_gd rfl (by assumption) ?_ | refine r_gn rfl (by assumption) rfl ?_); refine r_v (q_moveS rfl) rfl ?_; (first | refine r_gd rfl rfl ?_ | refine r_gn rfl rfl rfl ?_ | refine r_gu rfl rfl ?_ | refine r_gd rfl (by assumption) ?_ | refine r_gn rfl (by assumption) rfl ?_); refine r_v (q_len rfl) rfl ?_; (first | refine r_gd rfl rfl ?_ | refine r_gn rfl rfl rfl ?_ | refine r_gu rfl rfl ?_ | refine r_gd rfl (by assumption) ?_ | refine r_gn rfl (by assumption) rfl ?_); refine r_v (q_moveS rfl) rfl ?_; (first | refine r_gd rfl rfl ?_ | refine r_gn rfl rfl rfl ?_ | refine r_gu rfl rfl ?_ | refine r_gd rfl (by assumption) ?_ | refine r_gn rfl (by assumption) rfl ?_); refine r_v (q_len rfl) rfl ?_; (first | refine r_gd rfl rfl ?_ | refine r_gn rfl rfl rfl ?_ | refine r_gu rfl rfl ?_ | refine r_gd rfl (by assumption) ?_ | refine r_gn rfl (by assumption) rfl ?_); refine r_v (q_lss rfl rfl) rfl ?_; (first | refine r_gd rfl rfl ?_ | refine r_gn rfl rfl rfl ?_ | refine r_gu rfl rfl ?_ | refine r_gd rfl (by assumption) ?_ | refine r_gn rfl (by assumption) rfl ?_); (first | refine r_v (q_pick1 rfl rfl rfl) rfl ?_ | refine r_v (q_pick0 rfl rfl rfl) rfl ?_ | refine r_v (q_pick1 rfl (by assumption) rfl) rfl ?_ | refine r_v (q_pick0 rfl (by assumption) rfl) rfl ?_ | refine r_v (q_pickB rfl rfl rfl) rfl ?_); (first | refine r_v (q_pick1 rfl rfl rfl) rfl ?_ | refine r_v (q_pick0 rfl rfl rfl) rfl ?_ | refine r_v (q_pick1 rfl (by assumption) rfl) rfl ?_ | refine r_v (q_pick0 rfl (by assumption) rfl) rfl ?_ | refine r_v (q_pickB rfl rfl rfl) rfl ?_)
     refine r_nil (c_cond (decide ((b.length : Int) < (out.length : Int))) rfl (fun hc => ?_) (fun hc => ?_))
     ·refine c_region ?_
      refine r_v (q_moveI rfl) rfl ?_; refine r_v (q_moveS rfl) rfl ?_; refine r_v (q_assignI rfl) rfl ?_; refine r_v (q_assignS rfl) rfl ?_
      exact r_nil ⟨(((k + 1 : Nat) : Int), b, a2, c2), ⟨rfl, rfl, rfl, rfl, trivial⟩, take (.inr (by simpa using hc)), (h.f 1).drop⟩
     ·refine c_skip ⟨(best, out, a, c1), ⟨rfl, rfl, rfl, rfl, trivial⟩, ?_, h.drop⟩
      rw [if_neg] at he
      ·exact he
      ·rintro (h | h)
       ·exact hb h
       ·simp at hc; omega
  clear h he
  rintro ⟨best, out, a, c1⟩ w e ⟨he, h⟩
  dsimp only at he h ⊢
  refine c_region ?_
  refine r_v (q_moveI rfl) rfl ?_; refine r_v (q_add rfl rfl) rfl ?_
  refine r_is (.int .i64 ((k + 1 + 1 : Nat) : Int)) (by rw [wrap64 (by omega) (by omega)]; rfl) ?_
  refine r_v (q_assignI rfl) rfl ?_
  exact r_nil ⟨(k + 1, best, out, a, c1), ⟨rfl, rfl, rfl, rfl, trivial⟩, ⟨hlt, he, h⟩, by dsimp only; omega⟩
 refine r_is (.bool false) (by simp; omega) ?_
 refine r_nil (c_false rfl ?_)
 have hk6 : k = 6 := by omega
 subst hk6
 have he : (best, out) = suitBest L := he
 refine c_exit ?_
 refine c_seq (c_region ?_)
 refine r_v (q_moveI rfl) rfl ?_; refine r_v (q_moveS rfl) rfl ?_; refine r_v (q_assignI rfl) rfl ?_; refine r_v (q_assignS rfl) rfl ?_
 refine r_nil ?_
 rw [← he]
 exact c_ret (bq2 ⟨a, c1, rfl, h⟩)
end
end Go.Proofs.YtjjacchnalemaaaGreatDoor
