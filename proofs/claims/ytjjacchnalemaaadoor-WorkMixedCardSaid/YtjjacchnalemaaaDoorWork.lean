/- work: encoders and decoders by steps. -/
import Derived.Test.YtjjacchnalemaaaDoorLaw11
namespace Go.Hw
def clampN (n : Int) : Int := min (max n 1) 65535
theorem clampN_le (n : Int) : 1 ≤ clampN n ∧ clampN n ≤ 65535 := by unfold clampN; omega
/-- How far some work is. -/
structure WkS where
  bg : Bool
  ov : Bool
  lf : Int
  bad : Bool
def WkS.step (s : WkS) (n : Int) : WkS := ⟨s.bg, s.ov || decide (s.lf - clampN n ≤ 0), if s.ov then s.lf else s.lf - clampN n, s.bad⟩
def WkS.more (s : WkS) (n : Int) : Bool := !s.ov && !decide (s.lf - clampN n ≤ 0)
def paceC (s : WkS) (rest : List Value) : List Value := .bool s.bg :: .bool s.ov :: .int .i64 s.lf :: rest
def encC (s : WkS) (tag : Int) (la : Option Addr) (n lc : Nat) (ba : Option Addr) (m bc : Nat) : List Value := paceC s [.int .i64 tag, .slice la n lc, .slice ba m bc, .bool s.bad]
def decC (s : WkS) (ba : Option Addr) (m bc : Nat) (la : Option Addr) (n lc : Nat) : List Value := paceC s [.slice ba m bc, .slice la n lc, .bool s.bad]
end Go.Hw
namespace Go.Proofs.YtjjacchnalemaaaDoor
open Go.Hw
set_option maxHeartbeats 4000000
set_option maxRecDepth 100000
section
variable {w0 w : World} {l : List HProp}
theorem smps_Clone {sl : Option Addr} {c : Nat} {L : List Smp} (h : St w0 l w) (hr : Reads w0 l 2 sl L.length (smpsV L)) (hn : L.length ≤ 1073741824) :
    Ret Tryd.prog 55 [.slice sl L.length c] w fun v w' => ∃ a c', v = .slice a L.length c' ∧ St w0 (OwnS a c' L :: l) w' := by
  refine enter Tryd.func55 rfl Tryd.results55 Tryd.ntmps55 rfl ?_
  refine c_seq (c_region ?_)
  refine r_v (q_assignS rfl) rfl ?_
  refine r_nil (c_seq (c_seq (c_region ?_)))
  refine r_v (q_moveS rfl) rfl ?_
  refine r_v (q_seqnil rfl rfl) rfl ?_
  refine r_nil (c_cond sl.isNone rfl (fun hs => ?_) (fun hs => ?_))
  · refine c_seq (c_region ?_)
    refine r_v (q_assignS rfl) rfl ?_
    obtain rfl : sl = none := by simpa using hs
    obtain ⟨h3, h4⟩ := hr.at_ h
    have h5 : L.length = 0 := by rcases h4 with h | ⟨b, o, h, _⟩; exact h; cases h
    obtain rfl : L = [] := List.eq_nil_of_length_eq_zero h5
    exact r_nil (c_ret (bq1 ⟨none, 0, rfl, St.ownNil _ _ h⟩))
  · refine c_skip ?_
    refine c_seq (c_region ?_)
    refine r_c rfl (x_bslice (r := []) h rfl rfl rfl fun b w h => ?_)
    refine r_v (q_moveS rfl) rfl ?_
    have h1 : St w0 (Own 25 2 (some ⟨b, 0, none⟩) 0 0 [] :: l) w := St.own_mk (cur := []) h rfl rfl (Nat.le_refl _)
    refine r_c rfl (x_append' (zs := smpsV L) (m3 := L.length) h1 rfl rfl (hr.at_ h1.drop) (smps_one _) (by omega) (List.nil_append _) (by omega) (by omega) rfl fun a c' w hn h => ?_)
    refine r_v (q_assignS rfl) rfl ?_
    exact r_nil (c_ret (bq1 ⟨a, c', rfl, h⟩))
theorem pace_step {p : Nat} {s : WkS} {rest : List Value} {T : TypeId} (n : Int) (hlf : -200000 ≤ s.lf ∧ s.lf ≤ 200000) (h : St w0 (pt p (.cells (paceC s rest).toArray T (0, 0)) :: l) w) :
    Ret Tryd.prog 56 [.pointer (some ⟨p, 0, none⟩), .int .i64 n] w fun v w' => v = .bool (s.more n) ∧ St w0 (pt p (.cells (paceC (s.step n) rest).toArray T (0, 0)) :: l) w' := by
  obtain ⟨h1, h2⟩ := hlf
  obtain ⟨hc1, hc2⟩ := clampN_le n
  obtain ⟨bg, ov, lf, bd⟩ := s
  dsimp only at h1 h2
  refine enter Tryd.func56 rfl Tryd.results56 Tryd.ntmps56 rfl ?_
  refine c_seq (c_region ?_)
  refine r_v (q_assignB rfl) rfl ?_
  refine r_nil ?_
  refine c_seq (c_seq (c_region ?_))
  refine r_v (q_moveP rfl) rfl ?_; refine r_v (q_nil rfl) rfl ?_; refine r_v (q_fa rfl) rfl ?_
  refine r_v (q_load (v := .bool ov) rfl (h.b 0 rfl) rfl) rfl ?_
  refine r_nil ?_
  cases ov with
  | true =>
    refine c_true rfl ?_
    refine c_seq (c_region ?_)
    refine r_v (q_assignB rfl) rfl ?_
    refine r_nil ?_
    exact c_ret (bq1 ⟨rfl, h⟩)
  | false =>
    refine c_false rfl (c_skip ?_)
    refine c_seq (c_region ?_)
    refine r_v (q_moveP rfl) rfl ?_; refine r_v (q_nil rfl) rfl ?_; refine r_v (q_fa rfl) rfl ?_
    refine r_v (q_load (v := .int .i64 lf) rfl (h.b 0 rfl) rfl) rfl ?_
    refine r_v (q_moveI rfl) rfl ?_; refine r_v (q_max rfl rfl) rfl ?_; refine r_v (q_min rfl rfl) rfl ?_
    refine r_is (.int .i64 (clampN n)) (by unfold clampN; rfl) ?_
    refine r_v (q_sub rfl rfl) rfl ?_
    refine r_is (.int .i64 (lf - clampN n)) (by rw [wrap64 (by omega) (by omega)]) ?_
    refine r_v (q_nil rfl) rfl ?_; refine r_v (q_fa rfl) rfl ?_
    refine r_c rfl (x_store 0 h rfl (show _ = Value.int .i64 (lf - clampN n) from rfl) rfl rfl rfl rfl fun w h => ?_)
    replace h : St w0 (pt p (.cells (.bool bg :: .bool false :: .int .i64 (lf - clampN n) :: rest).toArray T (0, 0)) :: l) w := h
    refine r_nil ?_
    refine c_seq (c_region ?_)
    refine r_v (q_moveP rfl) rfl ?_; refine r_v (q_moveP rfl) rfl ?_; refine r_v (q_nil rfl) rfl ?_; refine r_v (q_fa rfl) rfl ?_
    refine r_v (q_load (v := .int .i64 (lf - clampN n)) rfl (h.b 0 rfl) rfl) rfl ?_
    refine r_v (q_leq rfl rfl) rfl ?_; refine r_v (q_nil rfl) rfl ?_; refine r_v (q_fa rfl) rfl ?_
    refine r_c rfl (x_store 0 h rfl (show _ = Value.bool (decide (lf - clampN n ≤ 0)) from rfl) rfl rfl rfl rfl fun w h => ?_)
    replace h : St w0 (pt p (.cells (.bool bg :: .bool (decide (lf - clampN n ≤ 0)) :: .int .i64 (lf - clampN n) :: rest).toArray T (0, 0)) :: l) w := h
    refine r_nil ?_
    refine c_seq (c_region ?_)
    refine r_v (q_moveP rfl) rfl ?_; refine r_v (q_nil rfl) rfl ?_; refine r_v (q_fa rfl) rfl ?_
    refine r_v (q_load (v := .bool (decide (lf - clampN n ≤ 0))) rfl (h.b 0 rfl) rfl) rfl ?_
    refine r_v (q_not rfl) rfl ?_; refine r_v (q_assignB rfl) rfl ?_
    refine r_nil ?_
    exact c_ret (bq1 ⟨rfl, h⟩)
abbrev EncPt (p : Nat) (s : WkS) (tag : Int) (la : Option Addr) (n lc : Nat) (ba : Option Addr) (m bc : Nat) : HProp := pt p (.cells (encC s tag la n lc ba m bc).toArray 95 (0, 0))
abbrev DecPt (p : Nat) (s : WkS) (ba : Option Addr) (m bc : Nat) (la : Option Addr) (n lc : Nat) : HProp := pt p (.cells (decC s ba m bc la n lc).toArray 98 (0, 0))
theorem work_NewEncoder (tag : Int) {sl : Option Addr} {c : Nat} {L : List Smp} (hn : L.length ≤ 1073741824) (hr : Reads w0 l 2 sl L.length (smpsV L)) (h : St w0 l w) :
    Ret Tryd.prog 24 [.int .i64 tag, .slice sl L.length c] w fun v w' => ∃ p la lc, v = .pointer (some ⟨p, 0, none⟩) ∧ St w0 (EncPt p ⟨false, false, 0, false⟩ tag la L.length lc none 0 0 :: OwnS la lc L :: l) w' := by
  refine enter Tryd.func24 rfl Tryd.results24 Tryd.ntmps24 rfl ?_
  refine c_seq (c_region ?_)
  refine r_v (q_assignP rfl) rfl ?_
  refine r_nil ?_
  refine c_seq (c_region ?_)
  refine r_v (q_moveI rfl) rfl ?_; refine r_v (q_moveS rfl) rfl ?_
  refine r_c rfl (x_call rfl (smps_Clone h hr hn) ?_)
  rintro _ w ⟨la, lc, rfl, h⟩
  refine r_v (q_build (r := encC ⟨false, false, 0, false⟩ tag la L.length lc none 0 0) rfl) rfl ?_
  refine r_c rfl (x_box h (show _ = Value.agg (encC ⟨false, false, 0, false⟩ tag la L.length lc none 0 0).toArray from rfl) fun p w h => ?_)
  refine r_v (q_assignP rfl) rfl ?_
  refine r_nil ?_
  exact c_ret (bq1 ⟨p, la, lc, rfl, h⟩)
/-- An encoder's state behind the first step's beginning. -/
def encBegin (o : Option (List UInt8)) (n : Nat) : WkS := ⟨true, false, if o.isSome = true then n else 0, !o.isSome⟩
theorem enc_Step0 (hT : Tz w0) {p : Nat} {la : Option Addr} {lc : Nat} {tag : Int} {L : List Smp} (n : Int) (hw : ∀ s ∈ L, s.Wf) (hL : L.length ≤ 65535) (h : St w0 (EncPt p ⟨false, false, 0, false⟩ tag la L.length lc none 0 0 :: OwnS la lc L :: l) w) :
    Ret Tryd.prog 25 [.pointer (some ⟨p, 0, none⟩), .int .i64 n] w fun v w' => ∃ ba bc, v = .bool ((encBegin (chMake tag L) L.length).more n) ∧ St w0 (EncPt p ((encBegin (chMake tag L) L.length).step n) tag la L.length lc ba ((chMake tag L).getD []).length bc :: OwnB ba bc ((chMake tag L).getD []) :: OwnS la lc L :: l) w' := by
  refine enter Tryd.func25 rfl Tryd.results25 Tryd.ntmps25 rfl ?_
  refine c_seq (c_region ?_)
  refine r_v (q_assignB rfl) rfl ?_
  refine r_nil ?_
  refine c_cut (Γ := Option Addr × Nat) (fun _ => [(0, .pointer (some ⟨p, 0, none⟩)), (1, .int .i64 n)]) (fun q w => St w0 (EncPt p (encBegin (chMake tag L) L.length) tag la L.length lc q.1 ((chMake tag L).getD []).length q.2 :: OwnB q.1 q.2 ((chMake tag L).getD []) :: OwnS la lc L :: l) w) ?_ ?_
  · refine c_seq (c_region ?_)
    refine r_v (q_moveP rfl) rfl ?_; refine r_v (q_nil rfl) rfl ?_; refine r_v (q_fa rfl) rfl ?_; refine r_v (q_fa rfl) rfl ?_
    refine r_v (q_load (v := .bool false) rfl (h.b 0 rfl) rfl) rfl ?_
    refine r_v (q_not rfl) rfl ?_
    refine r_nil (c_true rfl ?_)
    refine c_cut (Γ := Option Addr × Nat) (fun q => [(0, .pointer (some ⟨p, 0, none⟩)), (1, .int .i64 n), (5, .slice q.1 ((chMake tag L).getD []).length q.2), (6, .bool (chMake tag L).isSome)]) (fun q w => St w0 (OwnB q.1 q.2 ((chMake tag L).getD []) :: EncPt p ⟨false, false, 0, false⟩ tag la L.length lc none 0 0 :: OwnS la lc L :: l) w) ?_ ?_
    · refine c_anyW [0, 1, 2, 3, 4, 5, 6, 7, 8, 9, 10, 12, 11, 13] none (fun w => w.heap[p]? = some (.cells (encC ⟨false, false, 0, false⟩ tag la L.length lc none 0 0).toArray 95 (0, 0))) (by kernel_rfl) (by kernel_rfl) ?_
      replace h := h.drew
      generalize w.drew = w at h
      have hs := h
      replace h := hs.b 0 rfl
      refine cur_pure rfl rfl rfl rfl (fun _ => h) (fun _ => flt_v rfl (q_moveP rfl)) ?_; refine cur_pure rfl rfl rfl rfl (fun _ => h) (fun _ => flt_v rfl (q_nil rfl)) ?_; refine cur_pure rfl rfl rfl rfl (fun _ => h) (fun _ => flt_v rfl (q_fa rfl)) ?_
      refine cur_float rfl rfl rfl rfl h (fun w h => flt_v rfl (q_load (v := .int .i64 tag) rfl h rfl)) ?_
      refine cur_pure rfl rfl rfl rfl (fun _ => h) (fun _ => flt_v rfl (q_moveP rfl)) ?_; refine cur_pure rfl rfl rfl rfl (fun _ => h) (fun _ => flt_v rfl (q_nil rfl)) ?_; refine cur_pure rfl rfl rfl rfl (fun _ => h) (fun _ => flt_v rfl (q_fa rfl)) ?_
      refine cur_float rfl rfl rfl rfl h (fun w h => flt_v rfl (q_load (v := .slice la L.length lc) rfl h rfl)) ?_
      refine cur_skip ?_; refine cur_skip ?_; refine cur_skip ?_; refine cur_skip ?_; refine cur_skip ?_; refine cur_skip ?_
      refine cur_one 8 rfl rfl rfl rfl ?_
      refine (x_call rfl (chnk_Make hT tag hw (by omega) Reads.own.cons hs) ?_)
      rintro _ w ⟨xa, xc, rfl, hs⟩
      replace h := hs.b 1 rfl
      refine ⟨fun _ => h, ?_⟩
      refine cur_pure rfl rfl rfl rfl (fun _ => h) (fun _ => flt_v rfl (q_moveT rfl)) ?_; refine cur_pure rfl rfl rfl rfl (fun _ => h) (fun _ => flt_v rfl (q_ext rfl rfl)) ?_; refine cur_pure rfl rfl rfl rfl (fun _ => h) (fun _ => flt_v rfl (q_ext rfl rfl)) ?_; refine cur_pure rfl rfl rfl rfl (fun _ => h) (fun _ => flt_v rfl (q_assignS rfl)) ?_; refine cur_pure rfl rfl rfl rfl (fun _ => h) (fun _ => flt_v rfl (q_assignB rfl)) ?_
      exact cur_end ⟨(xa, xc), ⟨rfl, rfl, rfl, rfl, trivial⟩, hs⟩
    clear h
    rintro ⟨xa, xc⟩ w e h
    dsimp only at h ⊢
    refine c_seq (c_region ?_)
    refine r_v (q_moveP rfl) rfl ?_; refine r_v (q_moveP rfl) rfl ?_; refine r_v (q_moveP rfl) rfl ?_; refine r_v (q_moveS rfl) rfl ?_; refine r_v (q_moveB rfl) rfl ?_; refine r_v (q_not rfl) rfl ?_; refine r_v (q_nil rfl) rfl ?_; refine r_v (q_fa rfl) rfl ?_; refine r_v (q_fa rfl) rfl ?_
    refine r_c rfl (x_store 1 h rfl (show _ = Value.bool true from rfl) rfl rfl rfl rfl fun w h => ?_)
    refine r_v (q_nil rfl) rfl ?_; refine r_v (q_fa rfl) rfl ?_
    refine r_c rfl (x_store 1 h rfl (show _ = Value.slice xa ((chMake tag L).getD []).length xc from rfl) rfl rfl rfl rfl fun w h => ?_)
    refine r_v (q_nil rfl) rfl ?_; refine r_v (q_fa rfl) rfl ?_
    refine r_c rfl (x_store 1 h rfl (show _ = Value.bool (!(chMake tag L).isSome) from rfl) rfl rfl rfl rfl fun w h => ?_)
    replace h : St w0 (OwnB xa xc ((chMake tag L).getD []) :: EncPt p ⟨true, false, 0, !(chMake tag L).isSome⟩ tag la L.length lc xa ((chMake tag L).getD []).length xc :: OwnS la lc L :: l) w := h
    refine r_nil ?_
    refine c_seq (c_region ?_)
    refine r_v (q_moveB rfl) rfl ?_
    refine r_nil ?_
    cases hM : chMake tag L with
    | none =>
      rw [hM] at h
      refine c_false rfl (c_skip ⟨(xa, xc), ⟨rfl, rfl, trivial⟩, h.f 1⟩)
    | some b =>
      rw [hM] at h
      refine c_true rfl ?_
      refine c_region ?_
      refine r_v (q_moveP rfl) rfl ?_; refine r_v (q_moveP rfl) rfl ?_; refine r_v (q_nil rfl) rfl ?_; refine r_v (q_fa rfl) rfl ?_
      refine r_v (q_load (v := .slice la L.length lc) rfl (h.b 1 rfl) rfl) rfl ?_
      refine r_v (q_len rfl) rfl ?_; refine r_v (q_nil rfl) rfl ?_; refine r_v (q_fa rfl) rfl ?_; refine r_v (q_fa rfl) rfl ?_
      refine r_c rfl (x_store 1 h rfl (show _ = Value.int .i64 (L.length : Int) from rfl) rfl rfl rfl rfl fun w h => ?_)
      exact r_nil ⟨(xa, xc), ⟨rfl, rfl, trivial⟩, h.f 1⟩
  clear h
  rintro ⟨ba, bc⟩ w e h
  dsimp only at h ⊢
  refine c_seq (c_region ?_)
  refine r_v (q_moveP rfl) rfl ?_; refine r_v (q_nil rfl) rfl ?_; refine r_v (q_fa rfl) rfl ?_; refine r_v (q_moveI rfl) rfl ?_
  refine r_c rfl (x_call rfl (pace_step (s := encBegin (chMake tag L) L.length) n (by unfold encBegin; dsimp only; split <;> omega) h) ?_)
  rintro _ w ⟨rfl, h⟩
  refine r_v (q_assignB rfl) rfl ?_
  refine r_nil ?_
  exact c_ret (bq1 ⟨ba, bc, rfl, h⟩)
theorem enc_Step {p : Nat} {s : WkS} {la : Option Addr} {m lc : Nat} {tag : Int} {ba : Option Addr} {bm bc : Nat} (n : Int) (hb : s.bg = true) (hlf : -200000 ≤ s.lf ∧ s.lf ≤ 200000) (h : St w0 (EncPt p s tag la m lc ba bm bc :: l) w) :
    Ret Tryd.prog 25 [.pointer (some ⟨p, 0, none⟩), .int .i64 n] w fun v w' => v = .bool (s.more n) ∧ St w0 (EncPt p (s.step n) tag la m lc ba bm bc :: l) w' := by
  refine enter Tryd.func25 rfl Tryd.results25 Tryd.ntmps25 rfl ?_
  refine c_seq (c_region ?_)
  refine r_v (q_assignB rfl) rfl ?_
  refine r_nil ?_
  refine c_seq (c_seq (c_region ?_))
  refine r_v (q_moveP rfl) rfl ?_; refine r_v (q_nil rfl) rfl ?_; refine r_v (q_fa rfl) rfl ?_; refine r_v (q_fa rfl) rfl ?_
  refine r_v (q_load (v := .bool s.bg) rfl (h.b 0 rfl) rfl) rfl ?_
  rw [hb]
  refine r_v (q_not rfl) rfl ?_
  refine r_nil (c_false rfl (c_skip ?_))
  refine c_seq (c_region ?_)
  refine r_v (q_moveP rfl) rfl ?_; refine r_v (q_nil rfl) rfl ?_; refine r_v (q_fa rfl) rfl ?_; refine r_v (q_moveI rfl) rfl ?_
  refine r_c rfl (x_call rfl (pace_step (s := s) n hlf h) ?_)
  rintro _ w ⟨rfl, h⟩
  refine r_v (q_assignB rfl) rfl ?_
  refine r_nil ?_
  exact c_ret (bq1 ⟨rfl, h⟩)
theorem enc_Done {p : Nat} {s : WkS} {la : Option Addr} {m lc : Nat} {tag : Int} {ba : Option Addr} {bc : Nat} {bs : List UInt8} (hn : bs.length ≤ 140737488355328) (h : St w0 (EncPt p s tag la m lc ba bs.length bc :: OwnB ba bc bs :: l) w) :
    Ret Tryd.prog 26 [.pointer (some ⟨p, 0, none⟩)] w fun v w' => ∃ a c, v = .tuple [.slice a (if s.ov = true ∧ s.bad = false then bs else []).length c, .bool (s.ov && !s.bad)].toArray ∧ St w0 (OwnB a c (if s.ov = true ∧ s.bad = false then bs else []) :: EncPt p s tag la m lc ba bs.length bc :: OwnB ba bc bs :: l) w' := by
  obtain ⟨bg, ov, lf, bd⟩ := s
  dsimp only
  refine enter Tryd.func26 rfl Tryd.results26 Tryd.ntmps26 rfl ?_
  refine c_seq (c_region ?_)
  refine r_v (q_assignS rfl) rfl ?_; refine r_v (q_assignB rfl) rfl ?_
  refine r_nil ?_
  refine c_seq (c_seq (c_region ?_))
  refine r_v (q_moveP rfl) rfl ?_; refine r_v (q_nil rfl) rfl ?_; refine r_v (q_fa rfl) rfl ?_; refine r_v (q_fa rfl) rfl ?_
  refine r_v (q_load (v := .bool ov) rfl (h.b 0 rfl) rfl) rfl ?_
  cases ov with
  | false =>
    refine r_v (q_not rfl) rfl ?_; refine r_v (q_moveB rfl) rfl ?_; (first | refine r_gd rfl rfl ?_ | refine r_gn rfl rfl rfl ?_ | refine r_gu rfl rfl ?_ | refine r_gd rfl (by assumption) ?_ | refine r_gn rfl (by assumption) rfl ?_); (first | refine r_gd rfl rfl ?_ | refine r_gn rfl rfl rfl ?_ | refine r_gu rfl rfl ?_ | refine r_gd rfl (by assumption) ?_ | refine r_gn rfl (by assumption) rfl ?_); (first | refine r_gd rfl rfl ?_ | refine r_gn rfl rfl rfl ?_ | refine r_gu rfl rfl ?_ | refine r_gd rfl (by assumption) ?_ | refine r_gn rfl (by assumption) rfl ?_); (first | refine r_gd rfl rfl ?_ | refine r_gn rfl rfl rfl ?_ | refine r_gu rfl rfl ?_ | refine r_gd rfl (by assumption) ?_ | refine r_gn rfl (by assumption) rfl ?_); (first | refine r_v (q_pick1 rfl rfl rfl) rfl ?_ | refine r_v (q_pick0 rfl rfl rfl) rfl ?_ | refine r_v (q_pick1 rfl (by assumption) rfl) rfl ?_ | refine r_v (q_pick0 rfl (by assumption) rfl) rfl ?_ | refine r_v (q_pickB rfl rfl rfl) rfl ?_)
    refine r_nil (c_true rfl ?_)
    refine c_seq (c_region ?_)
    refine r_v (q_assignS rfl) rfl ?_; refine r_v (q_assignB rfl) rfl ?_
    refine r_nil ?_
    rw [if_neg (by simp)]
    exact c_ret (bq2 ⟨none, 0, rfl, St.ownNil _ _ h⟩)
  | true =>
    refine r_v (q_not rfl) rfl ?_; refine r_v (q_moveB rfl) rfl ?_; (first | refine r_gd rfl rfl ?_ | refine r_gn rfl rfl rfl ?_ | refine r_gu rfl rfl ?_ | refine r_gd rfl (by assumption) ?_ | refine r_gn rfl (by assumption) rfl ?_); refine r_v (q_moveP rfl) rfl ?_; (first | refine r_gd rfl rfl ?_ | refine r_gn rfl rfl rfl ?_ | refine r_gu rfl rfl ?_ | refine r_gd rfl (by assumption) ?_ | refine r_gn rfl (by assumption) rfl ?_); refine r_v (q_nil rfl) rfl ?_; (first | refine r_gd rfl rfl ?_ | refine r_gn rfl rfl rfl ?_ | refine r_gu rfl rfl ?_ | refine r_gd rfl (by assumption) ?_ | refine r_gn rfl (by assumption) rfl ?_); refine r_v (q_fa rfl) rfl ?_; (first | refine r_gd rfl rfl ?_ | refine r_gn rfl rfl rfl ?_ | refine r_gu rfl rfl ?_ | refine r_gd rfl (by assumption) ?_ | refine r_gn rfl (by assumption) rfl ?_)
    refine r_v (q_load (v := .bool bd) rfl (h.b 0 rfl) rfl) rfl ?_
    (first | refine r_v (q_pick1 rfl rfl rfl) rfl ?_ | refine r_v (q_pick0 rfl rfl rfl) rfl ?_ | refine r_v (q_pick1 rfl (by assumption) rfl) rfl ?_ | refine r_v (q_pick0 rfl (by assumption) rfl) rfl ?_ | refine r_v (q_pickB rfl rfl rfl) rfl ?_)
    cases bd with
    | true =>
      refine r_nil (c_true rfl ?_)
      refine c_seq (c_region ?_)
      refine r_v (q_assignS rfl) rfl ?_; refine r_v (q_assignB rfl) rfl ?_
      refine r_nil ?_
      rw [if_neg (by simp)]
      exact c_ret (bq2 ⟨none, 0, rfl, St.ownNil _ _ h⟩)
    | false =>
      refine r_nil (c_false rfl (c_skip ?_))
      refine c_seq (c_region ?_)
      refine r_v (q_moveP rfl) rfl ?_; refine r_v (q_nil rfl) rfl ?_; refine r_v (q_fa rfl) rfl ?_
      refine r_v (q_load (v := .slice ba bs.length bc) rfl (h.b 0 rfl) rfl) rfl ?_
      refine r_c rfl (x_call rfl (bytes_Clone h (fun w' h' => (h'.f 1).own_rd) hn) ?_)
      rintro _ w ⟨a, c, rfl, h⟩
      refine r_v (q_assignS rfl) rfl ?_; refine r_v (q_assignB rfl) rfl ?_
      refine r_nil ?_
      rw [if_pos ⟨rfl, rfl⟩]
      exact c_ret (bq2 ⟨a, c, rfl, h⟩)
theorem enc_Bad {p : Nat} {s : WkS} {la : Option Addr} {m lc : Nat} {tag : Int} {ba : Option Addr} {bm bc : Nat} (h : St w0 (EncPt p s tag la m lc ba bm bc :: l) w) :
    Ret Tryd.prog 27 [.pointer (some ⟨p, 0, none⟩)] w fun v w' => v = .bool (s.ov && s.bad) ∧ St w0 (EncPt p s tag la m lc ba bm bc :: l) w' := by
  obtain ⟨bg, ov, lf, bd⟩ := s
  refine enter Tryd.func27 rfl Tryd.results27 Tryd.ntmps27 rfl ?_
  refine c_seq (c_region ?_)
  refine r_v (q_assignB rfl) rfl ?_
  refine r_nil ?_
  refine c_seq (c_region ?_)
  refine r_v (q_moveP rfl) rfl ?_; refine r_v (q_nil rfl) rfl ?_; refine r_v (q_fa rfl) rfl ?_; refine r_v (q_fa rfl) rfl ?_
  refine r_v (q_load (v := .bool ov) rfl (h.b 0 rfl) rfl) rfl ?_
  cases ov with
  | false =>
    refine r_v (q_moveB rfl) rfl ?_; (first | refine r_gd rfl rfl ?_ | refine r_gn rfl rfl rfl ?_ | refine r_gu rfl rfl ?_ | refine r_gd rfl (by assumption) ?_ | refine r_gn rfl (by assumption) rfl ?_); (first | refine r_gd rfl rfl ?_ | refine r_gn rfl rfl rfl ?_ | refine r_gu rfl rfl ?_ | refine r_gd rfl (by assumption) ?_ | refine r_gn rfl (by assumption) rfl ?_); (first | refine r_gd rfl rfl ?_ | refine r_gn rfl rfl rfl ?_ | refine r_gu rfl rfl ?_ | refine r_gd rfl (by assumption) ?_ | refine r_gn rfl (by assumption) rfl ?_); (first | refine r_gd rfl rfl ?_ | refine r_gn rfl rfl rfl ?_ | refine r_gu rfl rfl ?_ | refine r_gd rfl (by assumption) ?_ | refine r_gn rfl (by assumption) rfl ?_); (first | refine r_v (q_pick1 rfl rfl rfl) rfl ?_ | refine r_v (q_pick0 rfl rfl rfl) rfl ?_ | refine r_v (q_pick1 rfl (by assumption) rfl) rfl ?_ | refine r_v (q_pick0 rfl (by assumption) rfl) rfl ?_ | refine r_v (q_pickB rfl rfl rfl) rfl ?_); refine r_v (q_assignB rfl) rfl ?_
    refine r_nil ?_
    exact c_ret (bq1 ⟨rfl, h⟩)
  | true =>
    refine r_v (q_moveB rfl) rfl ?_; (first | refine r_gd rfl rfl ?_ | refine r_gn rfl rfl rfl ?_ | refine r_gu rfl rfl ?_ | refine r_gd rfl (by assumption) ?_ | refine r_gn rfl (by assumption) rfl ?_); refine r_v (q_moveP rfl) rfl ?_; (first | refine r_gd rfl rfl ?_ | refine r_gn rfl rfl rfl ?_ | refine r_gu rfl rfl ?_ | refine r_gd rfl (by assumption) ?_ | refine r_gn rfl (by assumption) rfl ?_); refine r_v (q_nil rfl) rfl ?_; (first | refine r_gd rfl rfl ?_ | refine r_gn rfl rfl rfl ?_ | refine r_gu rfl rfl ?_ | refine r_gd rfl (by assumption) ?_ | refine r_gn rfl (by assumption) rfl ?_); refine r_v (q_fa rfl) rfl ?_; (first | refine r_gd rfl rfl ?_ | refine r_gn rfl rfl rfl ?_ | refine r_gu rfl rfl ?_ | refine r_gd rfl (by assumption) ?_ | refine r_gn rfl (by assumption) rfl ?_)
    refine r_v (q_load (v := .bool bd) rfl (h.b 0 rfl) rfl) rfl ?_
    (first | refine r_v (q_pick1 rfl rfl rfl) rfl ?_ | refine r_v (q_pick0 rfl rfl rfl) rfl ?_ | refine r_v (q_pick1 rfl (by assumption) rfl) rfl ?_ | refine r_v (q_pick0 rfl (by assumption) rfl) rfl ?_ | refine r_v (q_pickB rfl rfl rfl) rfl ?_); refine r_v (q_assignB rfl) rfl ?_
    refine r_nil ?_
    exact c_ret (bq1 ⟨rfl, h⟩)
theorem work_NewDecoder {sl : Option Addr} {c : Nat} {bs : List UInt8} (hn : bs.length ≤ 140737488355328) (hr : Reads w0 l 1 sl bs.length (bytesV bs)) (h : St w0 l w) :
    Ret Tryd.prog 29 [.slice sl bs.length c] w fun v w' => ∃ p ba bc, v = .pointer (some ⟨p, 0, none⟩) ∧ St w0 (DecPt p ⟨false, false, 0, false⟩ ba bs.length bc none 0 0 :: OwnB ba bc bs :: l) w' := by
  refine enter Tryd.func29 rfl Tryd.results29 Tryd.ntmps29 rfl ?_
  refine c_seq (c_region ?_)
  refine r_v (q_assignP rfl) rfl ?_
  refine r_nil ?_
  refine c_seq (c_region ?_)
  refine r_v (q_moveS rfl) rfl ?_
  refine r_c rfl (x_call rfl (bytes_Clone h hr.rd hn) ?_)
  rintro _ w ⟨ba, bc, rfl, h⟩
  refine r_v (q_build (r := decC ⟨false, false, 0, false⟩ ba bs.length bc none 0 0) rfl) rfl ?_
  refine r_c rfl (x_box h (show _ = Value.agg (decC ⟨false, false, 0, false⟩ ba bs.length bc none 0 0).toArray from rfl) fun p w h => ?_)
  refine r_v (q_assignP rfl) rfl ?_
  refine r_nil ?_
  exact c_ret (bq1 ⟨p, ba, bc, rfl, h⟩)
/-- What a decoder's bytes hold. -/
def decL (bs : List UInt8) : List Smp := ((chOpen bs).map Prod.fst).getD []
def decBegin (bs : List UInt8) : WkS := ⟨true, false, (decL bs).length, !(chOpen bs).isSome⟩
theorem dec_Step0 (hT : Tz w0) {p : Nat} {ba : Option Addr} {bc : Nat} {bs : List UInt8} (n : Int) (hn : bs.length ≤ 140737488355328) (h : St w0 (DecPt p ⟨false, false, 0, false⟩ ba bs.length bc none 0 0 :: OwnB ba bc bs :: l) w) :
    Ret Tryd.prog 30 [.pointer (some ⟨p, 0, none⟩), .int .i64 n] w fun v w' => ∃ la lc, v = .bool ((decBegin bs).more n) ∧ (decL bs).length ≤ 65535 ∧ St w0 (DecPt p ((decBegin bs).step n) ba bs.length bc la (decL bs).length lc :: OwnS la lc (decL bs) :: OwnB ba bc bs :: l) w' := by
  have hbc := (h.f 1).own_cases.2.1
  refine enter Tryd.func30 rfl Tryd.results30 Tryd.ntmps30 rfl ?_
  refine c_seq (c_region ?_)
  refine r_v (q_assignB rfl) rfl ?_
  refine r_nil ?_
  refine c_cut (Γ := Option Addr × Nat) (fun _ => [(0, .pointer (some ⟨p, 0, none⟩)), (1, .int .i64 n)]) (fun q w => (decL bs).length ≤ 65535 ∧ St w0 (DecPt p (decBegin bs) ba bs.length bc q.1 (decL bs).length q.2 :: OwnS q.1 q.2 (decL bs) :: OwnB ba bc bs :: l) w) ?_ ?_
  · refine c_seq (c_region ?_)
    refine r_v (q_moveP rfl) rfl ?_; refine r_v (q_nil rfl) rfl ?_; refine r_v (q_fa rfl) rfl ?_; refine r_v (q_fa rfl) rfl ?_
    refine r_v (q_load (v := .bool false) rfl (h.b 0 rfl) rfl) rfl ?_
    refine r_v (q_not rfl) rfl ?_
    refine r_nil (c_true rfl ?_)
    refine c_seq (c_region ?_)
    refine r_v (q_moveP rfl) rfl ?_; refine r_v (q_nil rfl) rfl ?_; refine r_v (q_fa rfl) rfl ?_
    refine r_v (q_load (v := .slice ba bs.length bc) rfl (h.b 0 rfl) rfl) rfl ?_
    refine r_c rfl (x_call rfl (chnk_Open hT hn hbc Reads.own.cons h) ?_)
    rintro _ w ⟨oa, oc, rfl, hwf, h⟩
    have hl16 : (decL bs).length ≤ 65535 := by
      unfold decL
      cases hO : chOpen bs with
      | none => exact Nat.zero_le _
      | some q => obtain ⟨M, t⟩ := q; exact (hwf M t hO).1
    replace h : St w0 (OwnS oa oc (decL bs) :: DecPt p ⟨false, false, 0, false⟩ ba bs.length bc none 0 0 :: OwnB ba bc bs :: l) w := h
    show Rn _ _ _ _ _ (upd _ _ (.tuple [.slice oa (decL bs).length oc, .int .i64 _, .bool (chOpen bs).isSome].toArray)) _
    refine r_v (q_moveT rfl) rfl ?_; refine r_v (q_ext rfl rfl) rfl ?_; refine r_v (q_ext rfl rfl) rfl ?_; refine r_v (q_ext rfl rfl) rfl ?_; refine r_v (q_assignS rfl) rfl ?_; refine r_v (q_assignI rfl) rfl ?_; refine r_v (q_assignB rfl) rfl ?_
    refine r_nil ?_
    refine c_region ?_
    refine r_v (q_moveP rfl) rfl ?_; refine r_v (q_moveP rfl) rfl ?_; refine r_v (q_moveP rfl) rfl ?_; refine r_v (q_moveP rfl) rfl ?_; refine r_v (q_moveS rfl) rfl ?_; refine r_v (q_moveB rfl) rfl ?_; refine r_v (q_not rfl) rfl ?_; refine r_v (q_moveS rfl) rfl ?_; refine r_v (q_len rfl) rfl ?_; refine r_v (q_nil rfl) rfl ?_; refine r_v (q_fa rfl) rfl ?_; refine r_v (q_fa rfl) rfl ?_
    refine r_c rfl (x_store 1 h rfl (show _ = Value.bool true from rfl) rfl rfl rfl rfl fun w h => ?_)
    refine r_v (q_nil rfl) rfl ?_; refine r_v (q_fa rfl) rfl ?_
    refine r_c rfl (x_store 1 h rfl (show _ = Value.slice oa (decL bs).length oc from rfl) rfl rfl rfl rfl fun w h => ?_)
    refine r_v (q_nil rfl) rfl ?_; refine r_v (q_fa rfl) rfl ?_
    refine r_c rfl (x_store 1 h rfl (show _ = Value.bool (!(chOpen bs).isSome) from rfl) rfl rfl rfl rfl fun w h => ?_)
    refine r_v (q_nil rfl) rfl ?_; refine r_v (q_fa rfl) rfl ?_; refine r_v (q_fa rfl) rfl ?_
    refine r_c rfl (x_store 1 h rfl (show _ = Value.int .i64 ((decL bs).length : Int) from rfl) rfl rfl rfl rfl fun w h => ?_)
    replace h : St w0 (OwnS oa oc (decL bs) :: DecPt p (decBegin bs) ba bs.length bc oa (decL bs).length oc :: OwnB ba bc bs :: l) w := h
    exact r_nil ⟨(oa, oc), ⟨rfl, rfl, trivial⟩, hl16, h.f 1⟩
  clear h
  rintro ⟨la, lc⟩ w e ⟨hl16, h⟩
  dsimp only at h ⊢
  refine c_seq (c_region ?_)
  refine r_v (q_moveP rfl) rfl ?_; refine r_v (q_nil rfl) rfl ?_; refine r_v (q_fa rfl) rfl ?_; refine r_v (q_moveI rfl) rfl ?_
  refine r_c rfl (x_call rfl (pace_step (s := decBegin bs) n (by unfold decBegin; dsimp only; omega) h) ?_)
  rintro _ w ⟨rfl, h⟩
  refine r_v (q_assignB rfl) rfl ?_
  refine r_nil ?_
  exact c_ret (bq1 ⟨la, lc, rfl, hl16, h⟩)
theorem dec_Step {p : Nat} {s : WkS} {ba : Option Addr} {bm bc : Nat} {la : Option Addr} {m lc : Nat} (n : Int) (hb : s.bg = true) (hlf : -200000 ≤ s.lf ∧ s.lf ≤ 200000) (h : St w0 (DecPt p s ba bm bc la m lc :: l) w) :
    Ret Tryd.prog 30 [.pointer (some ⟨p, 0, none⟩), .int .i64 n] w fun v w' => v = .bool (s.more n) ∧ St w0 (DecPt p (s.step n) ba bm bc la m lc :: l) w' := by
  refine enter Tryd.func30 rfl Tryd.results30 Tryd.ntmps30 rfl ?_
  refine c_seq (c_region ?_)
  refine r_v (q_assignB rfl) rfl ?_
  refine r_nil ?_
  refine c_seq (c_seq (c_region ?_))
  refine r_v (q_moveP rfl) rfl ?_; refine r_v (q_nil rfl) rfl ?_; refine r_v (q_fa rfl) rfl ?_; refine r_v (q_fa rfl) rfl ?_
  refine r_v (q_load (v := .bool s.bg) rfl (h.b 0 rfl) rfl) rfl ?_
  rw [hb]
  refine r_v (q_not rfl) rfl ?_
  refine r_nil (c_false rfl (c_skip ?_))
  refine c_seq (c_region ?_)
  refine r_v (q_moveP rfl) rfl ?_; refine r_v (q_nil rfl) rfl ?_; refine r_v (q_fa rfl) rfl ?_; refine r_v (q_moveI rfl) rfl ?_
  refine r_c rfl (x_call rfl (pace_step (s := s) n hlf h) ?_)
  rintro _ w ⟨rfl, h⟩
  refine r_v (q_assignB rfl) rfl ?_
  refine r_nil ?_
  exact c_ret (bq1 ⟨rfl, h⟩)
theorem dec_Done {p : Nat} {s : WkS} {ba : Option Addr} {bm bc : Nat} {la : Option Addr} {lc : Nat} {L : List Smp} (hn : L.length ≤ 1073741824) (hr : Reads w0 (DecPt p s ba bm bc la L.length lc :: l) 2 la L.length (smpsV L)) (h : St w0 (DecPt p s ba bm bc la L.length lc :: l) w) :
    Ret Tryd.prog 31 [.pointer (some ⟨p, 0, none⟩)] w fun v w' => ∃ a c, v = .tuple [.slice a (if s.ov = true ∧ s.bad = false then L else []).length c, .bool (s.ov && !s.bad)].toArray ∧ St w0 (OwnS a c (if s.ov = true ∧ s.bad = false then L else []) :: DecPt p s ba bm bc la L.length lc :: l) w' := by
  obtain ⟨bg, ov, lf, bd⟩ := s
  dsimp only
  refine enter Tryd.func31 rfl Tryd.results31 Tryd.ntmps31 rfl ?_
  refine c_seq (c_region ?_)
  refine r_v (q_assignS rfl) rfl ?_; refine r_v (q_assignB rfl) rfl ?_
  refine r_nil ?_
  refine c_seq (c_seq (c_region ?_))
  refine r_v (q_moveP rfl) rfl ?_; refine r_v (q_nil rfl) rfl ?_; refine r_v (q_fa rfl) rfl ?_; refine r_v (q_fa rfl) rfl ?_
  refine r_v (q_load (v := .bool ov) rfl (h.b 0 rfl) rfl) rfl ?_
  cases ov with
  | false =>
    refine r_v (q_not rfl) rfl ?_; refine r_v (q_moveB rfl) rfl ?_; (first | refine r_gd rfl rfl ?_ | refine r_gn rfl rfl rfl ?_ | refine r_gu rfl rfl ?_ | refine r_gd rfl (by assumption) ?_ | refine r_gn rfl (by assumption) rfl ?_); (first | refine r_gd rfl rfl ?_ | refine r_gn rfl rfl rfl ?_ | refine r_gu rfl rfl ?_ | refine r_gd rfl (by assumption) ?_ | refine r_gn rfl (by assumption) rfl ?_); (first | refine r_gd rfl rfl ?_ | refine r_gn rfl rfl rfl ?_ | refine r_gu rfl rfl ?_ | refine r_gd rfl (by assumption) ?_ | refine r_gn rfl (by assumption) rfl ?_); (first | refine r_gd rfl rfl ?_ | refine r_gn rfl rfl rfl ?_ | refine r_gu rfl rfl ?_ | refine r_gd rfl (by assumption) ?_ | refine r_gn rfl (by assumption) rfl ?_); (first | refine r_v (q_pick1 rfl rfl rfl) rfl ?_ | refine r_v (q_pick0 rfl rfl rfl) rfl ?_ | refine r_v (q_pick1 rfl (by assumption) rfl) rfl ?_ | refine r_v (q_pick0 rfl (by assumption) rfl) rfl ?_ | refine r_v (q_pickB rfl rfl rfl) rfl ?_)
    refine r_nil (c_true rfl ?_)
    refine c_seq (c_region ?_)
    refine r_v (q_assignS rfl) rfl ?_; refine r_v (q_assignB rfl) rfl ?_
    refine r_nil ?_
    rw [if_neg (by simp)]
    exact c_ret (bq2 ⟨none, 0, rfl, St.ownNil _ _ h⟩)
  | true =>
    refine r_v (q_not rfl) rfl ?_; refine r_v (q_moveB rfl) rfl ?_; (first | refine r_gd rfl rfl ?_ | refine r_gn rfl rfl rfl ?_ | refine r_gu rfl rfl ?_ | refine r_gd rfl (by assumption) ?_ | refine r_gn rfl (by assumption) rfl ?_); refine r_v (q_moveP rfl) rfl ?_; (first | refine r_gd rfl rfl ?_ | refine r_gn rfl rfl rfl ?_ | refine r_gu rfl rfl ?_ | refine r_gd rfl (by assumption) ?_ | refine r_gn rfl (by assumption) rfl ?_); refine r_v (q_nil rfl) rfl ?_; (first | refine r_gd rfl rfl ?_ | refine r_gn rfl rfl rfl ?_ | refine r_gu rfl rfl ?_ | refine r_gd rfl (by assumption) ?_ | refine r_gn rfl (by assumption) rfl ?_); refine r_v (q_fa rfl) rfl ?_; (first | refine r_gd rfl rfl ?_ | refine r_gn rfl rfl rfl ?_ | refine r_gu rfl rfl ?_ | refine r_gd rfl (by assumption) ?_ | refine r_gn rfl (by assumption) rfl ?_)
    refine r_v (q_load (v := .bool bd) rfl (h.b 0 rfl) rfl) rfl ?_
    (first | refine r_v (q_pick1 rfl rfl rfl) rfl ?_ | refine r_v (q_pick0 rfl rfl rfl) rfl ?_ | refine r_v (q_pick1 rfl (by assumption) rfl) rfl ?_ | refine r_v (q_pick0 rfl (by assumption) rfl) rfl ?_ | refine r_v (q_pickB rfl rfl rfl) rfl ?_)
    cases bd with
    | true =>
      refine r_nil (c_true rfl ?_)
      refine c_seq (c_region ?_)
      refine r_v (q_assignS rfl) rfl ?_; refine r_v (q_assignB rfl) rfl ?_
      refine r_nil ?_
      rw [if_neg (by simp)]
      exact c_ret (bq2 ⟨none, 0, rfl, St.ownNil _ _ h⟩)
    | false =>
      refine r_nil (c_false rfl (c_skip ?_))
      refine c_seq (c_region ?_)
      refine r_v (q_moveP rfl) rfl ?_; refine r_v (q_nil rfl) rfl ?_; refine r_v (q_fa rfl) rfl ?_
      refine r_v (q_load (v := .slice la L.length lc) rfl (h.b 0 rfl) rfl) rfl ?_
      refine r_c rfl (x_call rfl (smps_Clone h hr hn) ?_)
      rintro _ w ⟨a, c, rfl, h⟩
      refine r_v (q_assignS rfl) rfl ?_; refine r_v (q_assignB rfl) rfl ?_
      refine r_nil ?_
      rw [if_pos ⟨rfl, rfl⟩]
      exact c_ret (bq2 ⟨a, c, rfl, h⟩)
theorem dec_Bad {p : Nat} {s : WkS} {ba : Option Addr} {bm bc : Nat} {la : Option Addr} {m lc : Nat} (h : St w0 (DecPt p s ba bm bc la m lc :: l) w) :
    Ret Tryd.prog 32 [.pointer (some ⟨p, 0, none⟩)] w fun v w' => v = .bool (s.ov && s.bad) ∧ St w0 (DecPt p s ba bm bc la m lc :: l) w' := by
  obtain ⟨bg, ov, lf, bd⟩ := s
  refine enter Tryd.func32 rfl Tryd.results32 Tryd.ntmps32 rfl ?_
  refine c_seq (c_region ?_)
  refine r_v (q_assignB rfl) rfl ?_
  refine r_nil ?_
  refine c_seq (c_region ?_)
  refine r_v (q_moveP rfl) rfl ?_; refine r_v (q_nil rfl) rfl ?_; refine r_v (q_fa rfl) rfl ?_; refine r_v (q_fa rfl) rfl ?_
  refine r_v (q_load (v := .bool ov) rfl (h.b 0 rfl) rfl) rfl ?_
  cases ov with
  | false =>
    refine r_v (q_moveB rfl) rfl ?_; (first | refine r_gd rfl rfl ?_ | refine r_gn rfl rfl rfl ?_ | refine r_gu rfl rfl ?_ | refine r_gd rfl (by assumption) ?_ | refine r_gn rfl (by assumption) rfl ?_); (first | refine r_gd rfl rfl ?_ | refine r_gn rfl rfl rfl ?_ | refine r_gu rfl rfl ?_ | refine r_gd rfl (by assumption) ?_ | refine r_gn rfl (by assumption) rfl ?_); (first | refine r_gd rfl rfl ?_ | refine r_gn rfl rfl rfl ?_ | refine r_gu rfl rfl ?_ | refine r_gd rfl (by assumption) ?_ | refine r_gn rfl (by assumption) rfl ?_); (first | refine r_gd rfl rfl ?_ | refine r_gn rfl rfl rfl ?_ | refine r_gu rfl rfl ?_ | refine r_gd rfl (by assumption) ?_ | refine r_gn rfl (by assumption) rfl ?_); (first | refine r_v (q_pick1 rfl rfl rfl) rfl ?_ | refine r_v (q_pick0 rfl rfl rfl) rfl ?_ | refine r_v (q_pick1 rfl (by assumption) rfl) rfl ?_ | refine r_v (q_pick0 rfl (by assumption) rfl) rfl ?_ | refine r_v (q_pickB rfl rfl rfl) rfl ?_); refine r_v (q_assignB rfl) rfl ?_
    refine r_nil ?_
    exact c_ret (bq1 ⟨rfl, h⟩)
  | true =>
    refine r_v (q_moveB rfl) rfl ?_; (first | refine r_gd rfl rfl ?_ | refine r_gn rfl rfl rfl ?_ | refine r_gu rfl rfl ?_ | refine r_gd rfl (by assumption) ?_ | refine r_gn rfl (by assumption) rfl ?_); refine r_v (q_moveP rfl) rfl ?_; (first | refine r_gd rfl rfl ?_ | refine r_gn rfl rfl rfl ?_ | refine r_gu rfl rfl ?_ | refine r_gd rfl (by assumption) ?_ | refine r_gn rfl (by assumption) rfl ?_); refine r_v (q_nil rfl) rfl ?_; (first | refine r_gd rfl rfl ?_ | refine r_gn rfl rfl rfl ?_ | refine r_gu rfl rfl ?_ | refine r_gd rfl (by assumption) ?_ | refine r_gn rfl (by assumption) rfl ?_); refine r_v (q_fa rfl) rfl ?_; (first | refine r_gd rfl rfl ?_ | refine r_gn rfl rfl rfl ?_ | refine r_gu rfl rfl ?_ | refine r_gd rfl (by assumption) ?_ | refine r_gn rfl (by assumption) rfl ?_)
    refine r_v (q_load (v := .bool bd) rfl (h.b 0 rfl) rfl) rfl ?_
    (first | refine r_v (q_pick1 rfl rfl rfl) rfl ?_ | refine r_v (q_pick0 rfl rfl rfl) rfl ?_ | refine r_v (q_pick1 rfl (by assumption) rfl) rfl ?_ | refine r_v (q_pick0 rfl (by assumption) rfl) rfl ?_ | refine r_v (q_pickB rfl rfl rfl) rfl ?_); refine r_v (q_assignB rfl) rfl ?_
    refine r_nil ?_
    exact c_ret (bq1 ⟨rfl, h⟩)
end
end Go.Proofs.YtjjacchnalemaaaDoor
