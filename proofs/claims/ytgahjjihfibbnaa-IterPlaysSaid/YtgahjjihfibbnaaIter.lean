/- Iterators: what each method does. -/
import Derived.Test.YtgahjjihfibbnaaTy
import Derived.Test.YtgahjjihfibbnaaHb
import Derived.KernelRfl
namespace Go.Proofs.Ytgahjjihfibbnaa
open Go.Hw
set_option maxHeartbeats 4000000

theorem clone_parts {w0 w : World} {l : List HProp} {sl : Option Addr} {n c : Nat} {xs : List Value} (h : St w0 l w) (hr : ∀ w', St w0 l w' → Rd w' 5 sl n xs) (hx : ∀ u ∈ xs, u.oneCell' = true) (hn : n * 40 ≤ 140737488355328) : Ret Try.prog 43 [.slice sl n c] w fun v w' => ∃ a c', v = .slice a n c' ∧ (a = none ↔ sl = none) ∧ St w0 (Own 53 5 a n c' xs :: l) w' := by
  refine enter Try.func43 rfl Try.results43 Try.ntmps43 rfl ?_
  refine c_seq (c_region ?_)
  refine r_v (q_assignS rfl) rfl ?_
  refine r_nil (c_seq (c_seq (c_region ?_)))
  refine r_v (q_moveS rfl) rfl ?_
  refine r_v (q_seqnil rfl rfl) rfl ?_
  refine r_nil (c_cond sl.isNone rfl (fun hs => ?_) (fun hs => ?_))
  · refine c_seq (c_region ?_)
    refine r_v (q_assignS rfl) rfl ?_
    obtain rfl : sl = none := by simpa using hs
    have h2 := hr w h
    obtain ⟨h3, h4⟩ := h2
    obtain rfl : n = 0 := by rcases h4 with h | ⟨b, o, h, _⟩; exact h; cases h
    obtain rfl : xs = [] := List.eq_nil_of_length_eq_zero (by simpa using h3)
    refine r_nil (c_ret (bq1 ⟨none, 0, rfl, by simp, St.ownNil _ _ h⟩))
  · refine c_skip ?_
    refine c_seq (c_region ?_)
    refine r_c rfl (x_bslice (r := []) h rfl rfl rfl fun b w h => ?_)
    refine r_v (q_moveS rfl) rfl ?_
    have h1 : St w0 (Own 53 5 (some ⟨b, 0, none⟩) 0 0 [] :: l) w := St.own_mk (cur := []) h rfl rfl (Nat.le_refl _)
    refine r_c rfl (x_append' h1 rfl rfl (hr w h1.drop) hx (Nat.zero_add n) (List.nil_append _) hn (by omega) rfl fun a c' w hn h => ?_)
    refine r_v (q_assignS rfl) rfl ?_
    refine r_nil (c_ret (bq1 ⟨a, c', rfl, ?_, h⟩))
    exact ⟨(fun h => by cases hn h), (fun h => by rw [h] at hs; cases hs)⟩

theorem clone_smps {w0 w : World} {l : List HProp} {sl : Option Addr} {n c : Nat} {xs : List Value} (h : St w0 l w) (hr : ∀ w', St w0 l w' → Rd w' 2 sl n xs) (hx : ∀ u ∈ xs, u.oneCell' = true) (hn : n * 16 ≤ 140737488355328) : Ret Try.prog 41 [.slice sl n c] w fun v w' => ∃ a c', v = .slice a n c' ∧ (a = none ↔ sl = none) ∧ St w0 (Own 56 2 a n c' xs :: l) w' := by
  refine enter Try.func41 rfl Try.results41 Try.ntmps41 rfl ?_
  refine c_seq (c_region ?_)
  refine r_v (q_assignS rfl) rfl ?_
  refine r_nil (c_seq (c_seq (c_region ?_)))
  refine r_v (q_moveS rfl) rfl ?_
  refine r_v (q_seqnil rfl rfl) rfl ?_
  refine r_nil (c_cond sl.isNone rfl (fun hs => ?_) (fun hs => ?_))
  · refine c_seq (c_region ?_)
    refine r_v (q_assignS rfl) rfl ?_
    obtain rfl : sl = none := by simpa using hs
    have h2 := hr w h
    obtain ⟨h3, h4⟩ := h2
    obtain rfl : n = 0 := by rcases h4 with h | ⟨b, o, h, _⟩; exact h; cases h
    obtain rfl : xs = [] := List.eq_nil_of_length_eq_zero (by simpa using h3)
    refine r_nil (c_ret (bq1 ⟨none, 0, rfl, by simp, St.ownNil _ _ h⟩))
  · refine c_skip ?_
    refine c_seq (c_region ?_)
    refine r_c rfl (x_bslice (r := []) h rfl rfl rfl fun b w h => ?_)
    refine r_v (q_moveS rfl) rfl ?_
    have h1 : St w0 (Own 56 2 (some ⟨b, 0, none⟩) 0 0 [] :: l) w := St.own_mk (cur := []) h rfl rfl (Nat.le_refl _)
    refine r_c rfl (x_append' h1 rfl rfl (hr w h1.drop) hx (Nat.zero_add n) (List.nil_append _) hn (by omega) rfl fun a c' w hn h => ?_)
    refine r_v (q_assignS rfl) rfl ?_
    refine r_nil (c_ret (bq1 ⟨a, c', rfl, ?_, h⟩))
    exact ⟨(fun h => by cases hn h), (fun h => by rw [h] at hs; cases hs)⟩

/-- A snap: its parts and its tail, cell by cell. -/
structure SnapV where
  life : Int
  ver : Int
  frm : Int
  upto : Int
  pn : Nat
  pc : List Value
  tn : Nat
  tc : List Value
abbrev SnapV.cells (x : SnapV) (a1 : Option Addr) (c1 : Nat) (a2 : Option Addr) (c2 : Nat) : List Value := [.int .i64 x.life, .int .i64 x.ver, .int .i64 x.frm, .int .i64 x.upto, .slice a1 x.pn c1, .slice a2 x.tn c2]
structure SnapV.Wf (x : SnapV) : Prop where
  p1 : ∀ u ∈ x.pc, u.oneCell' = true
  t1 : ∀ u ∈ x.tc, u.oneCell' = true
  pn : x.pn * 40 ≤ 140737488355328
  tn : x.tn * 16 ≤ 140737488355328
structure One where
  series : Int
  told : Int
  x : SnapV
  used : Bool
  who : Int
abbrev One.cells (o : One) (a1 : Option Addr) (c1 : Nat) (a2 : Option Addr) (c2 : Nat) : List Value := [.int .i64 o.series, .int .i64 o.told, .int .i64 o.x.life, .int .i64 o.x.ver, .int .i64 o.x.frm, .int .i64 o.x.upto, .slice a1 o.x.pn c1, .slice a2 o.x.tn c2, .bool o.used, .int .i64 o.who]
abbrev OwnP (x : SnapV) (a1 : Option Addr) (c1 : Nat) : HProp := Own 53 5 a1 x.pn c1 x.pc
abbrev OwnT (x : SnapV) (a2 : Option Addr) (c2 : Nat) : HProp := Own 56 2 a2 x.tn c2 x.tc
def IsOne (e : Nat) (o : One) : HProp := ex fun q : Option Addr × Nat × Option Addr × Nat => all [pt e (.cells (o.cells q.1 q.2.1 q.2.2.1 q.2.2.2).toArray 89 (0, 0)), OwnP o.x q.1 q.2.1, OwnT o.x q.2.2.1 q.2.2.2, lift o.x.Wf]
theorem St.one {w0 w : World} {l : List HProp} {e : Nat} {o : One} : St w0 (IsOne e o :: l) w ↔ o.x.Wf ∧ ∃ a1 c1 a2 c2, St w0 (pt e (.cells (o.cells a1 c1 a2 c2).toArray 89 (0, 0)) :: OwnP o.x a1 c1 :: OwnT o.x a2 c2 :: l) w := by
  unfold IsOne
  rw [St.ex]
  constructor
  · rintro ⟨⟨a1, c1, a2, c2⟩, h⟩
    have h1 := (h.join.f 3)
    obtain ⟨hw, h2⟩ := St.lift.1 h1
    exact ⟨hw, a1, c1, a2, c2, h2⟩
  · rintro ⟨hw, a1, c1, a2, c2, h⟩
    have h1 := (St.lift.2 ⟨hw, h⟩)
    have h2 : St w0 ([pt e (.cells (o.cells a1 c1 a2 c2).toArray 89 (0, 0)), OwnP o.x a1 c1, OwnT o.x a2 c2, lift o.x.Wf] ++ l) w := h1.of_all (by simp only [List.cons_append, List.nil_append, all_star]; ac_rfl)
    exact ⟨(a1, c1, a2, c2), St.fold _ h2⟩
structure Tab where
  last : Int
  l : List (Int × One)
abbrev TabPt (p m : Nat) (T : Tab) : HProp := pt p (.cells [.int .i64 T.last, .map (some m)].toArray 85 (0, 0))
def IsTab (p : Nat) (T : Tab) : HProp := ex fun m : Nat => all [TabPt p m T, PMap (Value.int .i64) m IsOne T.l]
theorem St.tab {w0 w : World} {l : List HProp} {p : Nat} {T : Tab} : St w0 (IsTab p T :: l) w ↔ ∃ m, St w0 (TabPt p m T :: PMap (Value.int .i64) m IsOne T.l :: l) w := by
  unfold IsTab
  rw [St.ex]
  exact ⟨fun ⟨m, h⟩ => ⟨m, h.join⟩, fun ⟨m, h⟩ => ⟨m, St.fold [_, _] h⟩⟩

section
variable {w0 w : World} {l : List HProp} {p m : Nat} {T : Tab}

theorem iter_still {x : SnapV} (wf : x.Wf) {a1 a2 : Option Addr} {c1 c2 : Nat} (h : St w0 l w) (hr1 : ∀ w', St w0 l w' → Rd w' 5 a1 x.pn x.pc) (hr2 : ∀ w', St w0 l w' → Rd w' 2 a2 x.tn x.tc) :
    Ret Try.prog 37 [.agg (x.cells a1 c1 a2 c2).toArray] w fun v w' => ∃ a1' c1' a2' c2', v = .agg (x.cells a1' c1' a2' c2').toArray ∧ St w0 (OwnP x a1' c1' :: OwnT x a2' c2' :: l) w' := by
  refine enter Try.func37 rfl Try.results37 Try.ntmps37 rfl ?_
  refine c_seq (c_region ?_)
  refine r_c rfl (x_box h (show _ = Value.agg (x.cells a1 c1 a2 c2).toArray from rfl) fun b w h => ?_)
  refine r_c rfl (x_alloc h fun r w h => ?_)
  replace h : St w0 (pt r _ :: pt b (.cells (x.cells a1 c1 a2 c2).toArray 43 (0, 0)) :: l) w := h
  refine r_nil ?_
  refine c_seq (c_any (some 7) (fun w => St w0 _ w) (by kernel_rfl) (by kernel_rfl) h.drew fun w h => ?_)
  refine cur_pure rfl rfl rfl rfl (fun _ => h) (fun _ => flt_v rfl (q_fa rfl)) ?_; (first | refine cur_float rfl rfl rfl rfl h (fun _ h => flt_v rfl (q_load rfl (h.b 0) rfl)) ?_ | refine cur_float rfl rfl rfl rfl h (fun _ h => flt_v rfl (q_load rfl (h.b 1) rfl)) ?_ | refine cur_float rfl rfl rfl rfl h (fun _ h => flt_v rfl (q_load rfl (h.b 2) rfl)) ?_ | refine cur_float rfl rfl rfl rfl h (fun _ h => flt_v rfl (q_load rfl (h.b 3) rfl)) ?_ | refine cur_float rfl rfl rfl rfl h (fun _ h => flt_v rfl (q_load rfl (h.b 4) rfl)) ?_ | refine cur_float rfl rfl rfl rfl h (fun _ h => flt_v rfl (q_load rfl (h.b 5) rfl)) ?_); refine cur_skip ?_; refine cur_pure rfl rfl rfl rfl (fun _ => h) (fun _ => flt_v rfl (q_fa rfl)) ?_; (first | refine cur_float rfl rfl rfl rfl h (fun _ h => flt_v rfl (q_load rfl (h.b 0) rfl)) ?_ | refine cur_float rfl rfl rfl rfl h (fun _ h => flt_v rfl (q_load rfl (h.b 1) rfl)) ?_ | refine cur_float rfl rfl rfl rfl h (fun _ h => flt_v rfl (q_load rfl (h.b 2) rfl)) ?_ | refine cur_float rfl rfl rfl rfl h (fun _ h => flt_v rfl (q_load rfl (h.b 3) rfl)) ?_ | refine cur_float rfl rfl rfl rfl h (fun _ h => flt_v rfl (q_load rfl (h.b 4) rfl)) ?_ | refine cur_float rfl rfl rfl rfl h (fun _ h => flt_v rfl (q_load rfl (h.b 5) rfl)) ?_); refine cur_skip ?_; refine cur_skip ?_; refine cur_skip ?_; refine cur_skip ?_; refine cur_skip ?_
  refine cur_one 2 rfl rfl rfl rfl ?_
  refine (x_call rfl (clone_parts h (fun w' h' => hr1 w' h'.drop.drop) wf.p1 wf.pn) ?_)
  rintro _ w ⟨a1', c1', rfl, _, h1⟩
  refine ⟨fun _ => h1.drop, ?_⟩
  replace h := h1.drop
  refine cur_skip ?_; refine cur_pure rfl rfl rfl rfl (fun _ => h) (fun _ => flt_v rfl (q_fa rfl)) ?_; refine cur_skip ?_; refine cur_skip ?_; refine cur_skip ?_
  refine cur_one 5 rfl rfl rfl rfl ?_
  refine (x_call rfl (clone_smps h1 (fun w' h' => hr2 w' h'.drop.drop.drop) wf.t1 wf.tn) ?_)
  rintro _ w ⟨a2', c2', rfl, _, h2⟩
  refine ⟨fun _ => h2.drop.drop, ?_⟩
  replace h := h2.drop.drop
  refine cur_skip ?_; refine cur_skip ?_; refine cur_skip ?_
  refine cur_step 7 (some 9) rfl rfl rfl rfl ?_
  refine x_store 3 h2 rfl (show _ = Value.slice _ _ _ from rfl) rfl rfl rfl rfl fun w h => ?_
  refine cur_from h ?_
  refine cur_pure rfl rfl rfl rfl (fun _ => h) (fun _ => flt_v rfl (q_fa rfl)) ?_; refine cur_skip ?_
  refine cur_last 9 rfl rfl rfl ?_
  refine x_store 3 h rfl (show _ = Value.slice _ _ _ from rfl) rfl rfl rfl rfl fun w h => ?_
  replace h : St w0 (OwnT x a2' c2' :: OwnP x a1' c1' :: pt r _ :: pt b (.cells (x.cells a1' c1' a2' c2').toArray 43 (0, 0)) :: l) w := h
  refine c_seq (c_region ?_)
  refine r_v (q_loadS (l := x.cells a1' c1' a2' c2') rfl rfl (at_of (h.b 3 rfl) rfl)) rfl ?_
  refine r_c rfl (x_storeA (vs := x.cells a1' c1' a2' c2') 2 h rfl rfl rfl rfl rfl rfl rfl fun w h => ?_)
  replace h : St w0 (OwnT x a2' c2' :: OwnP x a1' c1' :: pt r (.cells (x.cells a1' c1' a2' c2').toArray 43 (0, 0)) :: _ :: l) w := h
  refine r_nil ?_
  refine c_ret (bqS1 (l := x.cells a1' c1' a2' c2') rfl rfl (at_of (h.b 2 rfl) rfl) ⟨_, _, _, _, rfl, ?_⟩)
  exact ((h.f 2).drop.f 2).drop.f 1

theorem iter_New (h : St w0 l w) : Ret Try.prog 21 [] w fun v w' => ∃ p, v = .pointer (some ⟨p, 0, none⟩) ∧ St w0 (IsTab p ⟨0, []⟩ :: l) w' := by
  refine enter Try.func21 rfl Try.results21 Try.ntmps21 rfl ?_
  refine c_seq (c_region ?_)
  refine r_v (q_assignP rfl) rfl ?_
  refine r_nil ?_
  refine c_seq (c_region ?_)
  refine r_c rfl (x_pmake (Value.int .i64) IsOne h fun m w h => ?_)
  refine r_v (q_build rfl) rfl ?_
  refine r_c rfl (x_box h rfl fun p w h => ?_)
  refine r_v (q_assignP rfl) rfl ?_
  refine r_nil (c_ret (bq1 ⟨p, rfl, ?_⟩))
  exact St.tab.2 ⟨m, h⟩
theorem iter_Count (h : St w0 (IsTab p T :: l) w) : Ret Try.prog 26 [.pointer (some ⟨p, 0, none⟩)] w fun v w' => v = .int .i64 T.l.length ∧ St w0 (IsTab p T :: l) w' := by
  obtain ⟨m, h⟩ := St.tab.1 h
  refine enter Try.func26 rfl Try.results26 Try.ntmps26 rfl ?_
  refine c_seq (c_region ?_)
  refine r_v (q_assignI rfl) rfl ?_
  refine r_nil ?_
  refine c_seq (c_region ?_)
  refine r_v (q_moveP rfl) rfl ?_; refine r_v (q_nil rfl) rfl ?_; refine r_v (q_fa rfl) rfl ?_; (first | refine r_v (q_load rfl (h.b 0) rfl) rfl ?_ | refine r_v (q_load rfl (h.b 1) rfl) rfl ?_ | refine r_v (q_load rfl (h.b 2) rfl) rfl ?_ | refine r_v (q_load rfl (h.b 3) rfl) rfl ?_ | refine r_v (q_load rfl (h.b 4) rfl) rfl ?_ | refine r_v (q_load rfl (h.b 5) rfl) rfl ?_)
  refine r_v (q_plen (h.f 1) rfl) rfl ?_
  refine r_v (q_assignI rfl) rfl ?_
  refine r_nil ?_
  exact c_ret (bq1 ⟨rfl, St.tab.2 ⟨m, h⟩⟩)

theorem iter_Open0 {x : SnapV} {a1 a2 : Option Addr} {c1 c2 : Nat} (series : Int) (h : St w0 (IsTab p T :: l) w) (h8 : 8 ≤ T.l.length) :
    Ret Try.prog 22 [.pointer (some ⟨p, 0, none⟩), .int .i64 series, .agg (x.cells a1 c1 a2 c2).toArray] w fun v w' => v = .tuple [.int .i64 0, .bool false].toArray ∧ St w0 (IsTab p T :: l) w' := by
  obtain ⟨m, h⟩ := St.tab.1 h
  refine enter Try.func22 rfl Try.results22 Try.ntmps22 rfl ?_
  refine c_seq (c_region ?_)
  refine r_c rfl (x_box h (show _ = Value.agg (x.cells a1 c1 a2 c2).toArray from rfl) fun b w h => ?_)
  refine r_v (q_assignI rfl) rfl ?_; refine r_v (q_assignB rfl) rfl ?_
  refine r_nil ?_
  refine c_seq (c_seq (c_region ?_))
  refine r_v (q_moveP rfl) rfl ?_; refine r_v (q_nil rfl) rfl ?_; refine r_v (q_fa rfl) rfl ?_; (first | refine r_v (q_load rfl (h.b 0) rfl) rfl ?_ | refine r_v (q_load rfl (h.b 1) rfl) rfl ?_ | refine r_v (q_load rfl (h.b 2) rfl) rfl ?_ | refine r_v (q_load rfl (h.b 3) rfl) rfl ?_ | refine r_v (q_load rfl (h.b 4) rfl) rfl ?_ | refine r_v (q_load rfl (h.b 5) rfl) rfl ?_)
  refine r_v (q_plen (h.f 2) rfl) rfl ?_
  refine r_v (q_geq rfl rfl) rfl ?_
  refine r_is (.bool true) (by simp; omega) ?_
  refine r_nil ?_
  refine c_true rfl ?_
  refine c_seq (c_region ?_)
  refine r_v (q_assignI rfl) rfl ?_; refine r_v (q_assignB rfl) rfl ?_
  refine r_nil ?_
  exact c_ret (bq2 ⟨rfl, St.tab.2 ⟨m, h.drop⟩⟩)
theorem iter_Open1 {x : SnapV} (wf : x.Wf) {a1 a2 : Option Addr} {c1 c2 : Nat} (series : Int) (h : St w0 (IsTab p T :: l) w) (h8 : T.l.length < 8) (hfree : mget (T.last + 1) T.l = none) (hl0 : 0 ≤ T.last) (hl1 : T.last < 4611686018427387904)
    (hr1 : ∀ w', St w0 l w' → Rd w' 5 a1 x.pn x.pc) (hr2 : ∀ w', St w0 l w' → Rd w' 2 a2 x.tn x.tc) :
    Ret Try.prog 22 [.pointer (some ⟨p, 0, none⟩), .int .i64 series, .agg (x.cells a1 c1 a2 c2).toArray] w fun v w' =>
    v = .tuple [.int .i64 (T.last + 1), .bool true].toArray ∧ St w0 (IsTab p ⟨T.last + 1, mset (T.last + 1) ⟨series, 0, x, false, 0⟩ T.l⟩ :: l) w' := by
  obtain ⟨m, h⟩ := St.tab.1 h
  refine enter Try.func22 rfl Try.results22 Try.ntmps22 rfl ?_
  refine c_seq (c_region ?_)
  refine r_c rfl (x_box h (show _ = Value.agg (x.cells a1 c1 a2 c2).toArray from rfl) fun b w h => ?_)
  refine r_v (q_assignI rfl) rfl ?_; refine r_v (q_assignB rfl) rfl ?_
  refine r_nil ?_
  refine c_seq (c_seq (c_region ?_))
  refine r_v (q_moveP rfl) rfl ?_; refine r_v (q_nil rfl) rfl ?_; refine r_v (q_fa rfl) rfl ?_; (first | refine r_v (q_load rfl (h.b 0) rfl) rfl ?_ | refine r_v (q_load rfl (h.b 1) rfl) rfl ?_ | refine r_v (q_load rfl (h.b 2) rfl) rfl ?_ | refine r_v (q_load rfl (h.b 3) rfl) rfl ?_ | refine r_v (q_load rfl (h.b 4) rfl) rfl ?_ | refine r_v (q_load rfl (h.b 5) rfl) rfl ?_)
  refine r_v (q_plen (h.f 2) rfl) rfl ?_
  refine r_v (q_geq rfl rfl) rfl ?_
  refine r_is (.bool false) (by simp; omega) ?_
  refine r_nil ?_
  refine c_false rfl (c_skip ?_)
  refine c_seq (c_region ?_)
  refine r_v (q_moveP rfl) rfl ?_; refine r_v (q_nil rfl) rfl ?_; refine r_v (q_fa rfl) rfl ?_; (first | refine r_v (q_load rfl (h.b 0) rfl) rfl ?_ | refine r_v (q_load rfl (h.b 1) rfl) rfl ?_ | refine r_v (q_load rfl (h.b 2) rfl) rfl ?_ | refine r_v (q_load rfl (h.b 3) rfl) rfl ?_ | refine r_v (q_load rfl (h.b 4) rfl) rfl ?_ | refine r_v (q_load rfl (h.b 5) rfl) rfl ?_); refine r_v (q_add rfl rfl) rfl ?_
  refine r_is (.int .i64 (T.last + 1)) (by rw [wrap64 (by omega) (by omega)]) ?_
  refine r_v (q_nil rfl) rfl ?_; refine r_v (q_fa rfl) rfl ?_
  refine r_c rfl (x_store 1 h rfl (show _ = Value.int .i64 (T.last + 1) from rfl) rfl rfl rfl rfl fun w h => ?_)
  replace h : St w0 (pt b (.cells (x.cells a1 c1 a2 c2).toArray 43 (0, 0)) :: TabPt p m ⟨T.last + 1, T.l⟩ :: PMap (Value.int .i64) m IsOne T.l :: l) w := h
  refine r_nil ?_
  refine c_seq (c_any (some 13) (fun w => St w0 _ w) (by kernel_rfl) (by kernel_rfl) h.drew fun w h => ?_)
  refine cur_pure rfl rfl rfl rfl (fun _ => h) (fun _ => flt_v rfl (q_moveP rfl)) ?_; refine cur_pure rfl rfl rfl rfl (fun _ => h) (fun _ => flt_v rfl (q_nil rfl)) ?_; refine cur_pure rfl rfl rfl rfl (fun _ => h) (fun _ => flt_v rfl (q_fa rfl)) ?_; (first | refine cur_float rfl rfl rfl rfl h (fun _ h => flt_v rfl (q_load rfl (h.b 0) rfl)) ?_ | refine cur_float rfl rfl rfl rfl h (fun _ h => flt_v rfl (q_load rfl (h.b 1) rfl)) ?_ | refine cur_float rfl rfl rfl rfl h (fun _ h => flt_v rfl (q_load rfl (h.b 2) rfl)) ?_ | refine cur_float rfl rfl rfl rfl h (fun _ h => flt_v rfl (q_load rfl (h.b 3) rfl)) ?_ | refine cur_float rfl rfl rfl rfl h (fun _ h => flt_v rfl (q_load rfl (h.b 4) rfl)) ?_ | refine cur_float rfl rfl rfl rfl h (fun _ h => flt_v rfl (q_load rfl (h.b 5) rfl)) ?_); refine cur_pure rfl rfl rfl rfl (fun _ => h) (fun _ => flt_v rfl (q_moveP rfl)) ?_; refine cur_pure rfl rfl rfl rfl (fun _ => h) (fun _ => flt_v rfl (q_nil rfl)) ?_; refine cur_pure rfl rfl rfl rfl (fun _ => h) (fun _ => flt_v rfl (q_fa rfl)) ?_; (first | refine cur_float rfl rfl rfl rfl h (fun _ h => flt_v rfl (q_load rfl (h.b 0) rfl)) ?_ | refine cur_float rfl rfl rfl rfl h (fun _ h => flt_v rfl (q_load rfl (h.b 1) rfl)) ?_ | refine cur_float rfl rfl rfl rfl h (fun _ h => flt_v rfl (q_load rfl (h.b 2) rfl)) ?_ | refine cur_float rfl rfl rfl rfl h (fun _ h => flt_v rfl (q_load rfl (h.b 3) rfl)) ?_ | refine cur_float rfl rfl rfl rfl h (fun _ h => flt_v rfl (q_load rfl (h.b 4) rfl)) ?_ | refine cur_float rfl rfl rfl rfl h (fun _ h => flt_v rfl (q_load rfl (h.b 5) rfl)) ?_); refine cur_pure rfl rfl rfl rfl (fun _ => h) (fun _ => flt_v rfl (q_moveI rfl)) ?_
  refine cur_float rfl rfl rfl rfl h (fun _ h => flt_v rfl (q_loadS (l := x.cells a1 c1 a2 c2) rfl rfl (at_of (h.b 0 rfl) rfl))) ?_
  refine cur_skip ?_; refine cur_skip ?_; refine cur_skip ?_; refine cur_skip ?_
  refine cur_one 10 rfl rfl rfl rfl ?_
  refine (x_call rfl (iter_still wf h (fun w' h' => hr1 w' h'.drop.drop.drop) (fun w' h' => hr2 w' h'.drop.drop.drop)) ?_)
  rintro _ w ⟨a1', c1', a2', c2', rfl, h1⟩
  refine ⟨fun _ => h1.drop.drop, ?_⟩
  replace h := h1.drop.drop
  refine cur_pure rfl rfl rfl rfl (fun _ => h) (fun _ => flt_v rfl (q_build (r := (One.mk series 0 x false 0).cells a1' c1' a2' c2') rfl)) ?_
  refine cur_skip ?_; refine cur_skip ?_
  refine cur_one 12 rfl rfl rfl rfl ?_
  refine (x_box h1 (show _ = Value.agg ((One.mk series 0 x false 0).cells a1' c1' a2' c2').toArray from rfl) fun q w h1 => ?_)
  refine ⟨fun _ => h1.drop.drop.drop, ?_⟩
  replace h := h1.drop.drop.drop
  refine cur_skip ?_
  refine cur_last 13 rfl rfl rfl ?_
  have h2 := (St.one (o := ⟨series, 0, x, false, 0⟩)).2 ⟨wf, a1', c1', a2', c2', h1⟩
  refine x_pset ((h2.f 3).f 1) hfree rfl rfl rfl fun w h => ?_
  replace h := h.f 2
  refine c_seq (c_region ?_)
  refine r_v (q_moveP rfl) rfl ?_; refine r_v (q_nil rfl) rfl ?_; refine r_v (q_fa rfl) rfl ?_; (first | refine r_v (q_load rfl (h.b 0) rfl) rfl ?_ | refine r_v (q_load rfl (h.b 1) rfl) rfl ?_ | refine r_v (q_load rfl (h.b 2) rfl) rfl ?_ | refine r_v (q_load rfl (h.b 3) rfl) rfl ?_ | refine r_v (q_load rfl (h.b 4) rfl) rfl ?_ | refine r_v (q_load rfl (h.b 5) rfl) rfl ?_); refine r_v (q_assignI rfl) rfl ?_; refine r_v (q_assignB rfl) rfl ?_
  refine r_nil ?_
  exact c_ret (bq2 ⟨rfl, St.tab.2 ⟨m, ((h.f 1).f 2).drop.f 1⟩⟩)

theorem iter_Use0 (id who : Int) (h : St w0 (IsTab p T :: l) w) (hg : mget id T.l = none) : Ret Try.prog 23 [.pointer (some ⟨p, 0, none⟩), .int .i64 id, .int .i64 who] w fun v w' => v = .int .i64 3 ∧ St w0 (IsTab p T :: l) w' := by
  obtain ⟨m, h⟩ := St.tab.1 h
  refine enter Try.func23 rfl Try.results23 Try.ntmps23 rfl ?_
  refine c_seq (c_region ?_)
  refine r_v (q_assignI rfl) rfl ?_
  refine r_nil ?_
  refine c_seq (c_region ?_)
  refine r_v (q_moveP rfl) rfl ?_; refine r_v (q_nil rfl) rfl ?_; refine r_v (q_fa rfl) rfl ?_; (first | refine r_v (q_load rfl (h.b 0) rfl) rfl ?_ | refine r_v (q_load rfl (h.b 1) rfl) rfl ?_ | refine r_v (q_load rfl (h.b 2) rfl) rfl ?_ | refine r_v (q_load rfl (h.b 3) rfl) rfl ?_ | refine r_v (q_load rfl (h.b 4) rfl) rfl ?_ | refine r_v (q_load rfl (h.b 5) rfl) rfl ?_); refine r_v (q_moveI rfl) rfl ?_
  refine r_v (q_plookup0 (h.f 1) rfl rfl hg) rfl ?_
  refine r_v (q_moveT rfl) rfl ?_; refine r_v (q_ext rfl rfl) rfl ?_; refine r_v (q_ext rfl rfl) rfl ?_; refine r_v (q_assignP rfl) rfl ?_; refine r_v (q_assignB rfl) rfl ?_
  refine r_nil ?_
  refine c_seq (c_block ?_)
  refine c_seq (c_region ?_)
  refine r_v (q_moveB rfl) rfl ?_; refine r_v (q_not rfl) rfl ?_; refine r_v (q_assignB rfl) rfl ?_
  refine r_nil ?_
  refine c_true rfl ?_
  refine c_seq (c_region ?_)
  refine r_v (q_assignI rfl) rfl ?_
  refine r_nil ?_
  exact c_ret (bq1 ⟨rfl, St.tab.2 ⟨m, h⟩⟩)
theorem iter_UseW (id who : Int) {o : One} (h : St w0 (IsTab p T :: l) w) (hg : mget id T.l = some o) (hu : o.used = true) (hw : o.who ≠ who) :
    Ret Try.prog 23 [.pointer (some ⟨p, 0, none⟩), .int .i64 id, .int .i64 who] w fun v w' => v = .int .i64 8 ∧ St w0 (IsTab p T :: l) w' := by
  obtain ⟨m, h⟩ := St.tab.1 h
  obtain ⟨e0, h⟩ := St.popen (h.f 1) hg
  obtain ⟨wf, a1, c1, a2, c2, h⟩ := St.one.1 h
  obtain ⟨series, told, x, used, who'⟩ := o
  dsimp only at hu hw wf
  subst hu
  refine enter Try.func23 rfl Try.results23 Try.ntmps23 rfl ?_
  refine c_seq (c_region ?_)
  refine r_v (q_assignI rfl) rfl ?_
  refine r_nil ?_
  refine c_seq (c_region ?_)
  refine r_v (q_moveP rfl) rfl ?_; refine r_v (q_nil rfl) rfl ?_; refine r_v (q_fa rfl) rfl ?_; (first | refine r_v (q_load rfl (h.b 0) rfl) rfl ?_ | refine r_v (q_load rfl (h.b 1) rfl) rfl ?_ | refine r_v (q_load rfl (h.b 2) rfl) rfl ?_ | refine r_v (q_load rfl (h.b 3) rfl) rfl ?_ | refine r_v (q_load rfl (h.b 4) rfl) rfl ?_ | refine r_v (q_load rfl (h.b 5) rfl) rfl ?_); refine r_v (q_moveI rfl) rfl ?_
  refine r_v (q_plookup1 (h.f 3) rfl rfl) rfl ?_
  refine r_v (q_moveT rfl) rfl ?_; refine r_v (q_ext rfl rfl) rfl ?_; refine r_v (q_ext rfl rfl) rfl ?_; refine r_v (q_assignP rfl) rfl ?_; refine r_v (q_assignB rfl) rfl ?_
  refine r_nil ?_
  refine c_seq (c_block ?_)
  refine c_seq (c_region ?_)
  refine r_v (q_moveB rfl) rfl ?_; refine r_v (q_not rfl) rfl ?_; refine r_v (q_assignB rfl) rfl ?_
  refine r_nil ?_
  refine c_false rfl ?_
  refine c_seq (c_region ?_)
  refine r_v (q_moveP rfl) rfl ?_; refine r_v (q_nil rfl) rfl ?_; refine r_v (q_fa rfl) rfl ?_; (first | refine r_v (q_load rfl (h.b 0) rfl) rfl ?_ | refine r_v (q_load rfl (h.b 1) rfl) rfl ?_ | refine r_v (q_load rfl (h.b 2) rfl) rfl ?_ | refine r_v (q_load rfl (h.b 3) rfl) rfl ?_ | refine r_v (q_load rfl (h.b 4) rfl) rfl ?_ | refine r_v (q_load rfl (h.b 5) rfl) rfl ?_); refine r_v (q_moveB rfl) rfl ?_; (first | refine r_gd rfl rfl ?_ | refine r_gn rfl rfl rfl ?_ | refine r_gu rfl rfl ?_ | refine r_gd rfl (by assumption) ?_ | refine r_gn rfl (by assumption) rfl ?_); refine r_v (q_moveP rfl) rfl ?_; (first | refine r_gd rfl rfl ?_ | refine r_gn rfl rfl rfl ?_ | refine r_gu rfl rfl ?_ | refine r_gd rfl (by assumption) ?_ | refine r_gn rfl (by assumption) rfl ?_); refine r_v (q_nil rfl) rfl ?_; (first | refine r_gd rfl rfl ?_ | refine r_gn rfl rfl rfl ?_ | refine r_gu rfl rfl ?_ | refine r_gd rfl (by assumption) ?_ | refine r_gn rfl (by assumption) rfl ?_); refine r_v (q_fa rfl) rfl ?_; (first | refine r_gd rfl rfl ?_ | refine r_gn rfl rfl rfl ?_ | refine r_gu rfl rfl ?_ | refine r_gd rfl (by assumption) ?_ | refine r_gn rfl (by assumption) rfl ?_); (first | refine r_v (q_load rfl (h.b 0) rfl) rfl ?_ | refine r_v (q_load rfl (h.b 1) rfl) rfl ?_ | refine r_v (q_load rfl (h.b 2) rfl) rfl ?_ | refine r_v (q_load rfl (h.b 3) rfl) rfl ?_ | refine r_v (q_load rfl (h.b 4) rfl) rfl ?_ | refine r_v (q_load rfl (h.b 5) rfl) rfl ?_); (first | refine r_gd rfl rfl ?_ | refine r_gn rfl rfl rfl ?_ | refine r_gu rfl rfl ?_ | refine r_gd rfl (by assumption) ?_ | refine r_gn rfl (by assumption) rfl ?_); refine r_v (q_moveI rfl) rfl ?_; (first | refine r_gd rfl rfl ?_ | refine r_gn rfl rfl rfl ?_ | refine r_gu rfl rfl ?_ | refine r_gd rfl (by assumption) ?_ | refine r_gn rfl (by assumption) rfl ?_); refine r_v (q_neq rfl rfl) rfl ?_
  refine r_is (.bool true) (by simp [hw]) ?_
  (first | refine r_v (q_pick1 rfl rfl rfl) rfl ?_ | refine r_v (q_pick0 rfl rfl rfl) rfl ?_ | refine r_v (q_pick1 rfl (by assumption) rfl) rfl ?_ | refine r_v (q_pick0 rfl (by assumption) rfl) rfl ?_ | refine r_v (q_pickB rfl rfl rfl) rfl ?_); refine r_v (q_assignB rfl) rfl ?_
  refine r_nil ?_
  refine c_true rfl ?_
  refine c_seq (c_region ?_)
  refine r_v (q_assignI rfl) rfl ?_
  refine r_nil ?_
  exact c_ret (bq1 ⟨rfl, St.tab.2 ⟨m, (St.psame hg (St.one.2 ⟨wf, a1, c1, a2, c2, h⟩)).f 1⟩⟩)
theorem iter_Use1 (id who : Int) {o : One} (h : St w0 (IsTab p T :: l) w) (hg : mget id T.l = some o) (hu : o.used = true → o.who = who) :
    Ret Try.prog 23 [.pointer (some ⟨p, 0, none⟩), .int .i64 id, .int .i64 who] w fun v w' => v = .int .i64 0 ∧ St w0 (IsTab p ⟨T.last, mset id { o with used := true, who := who } T.l⟩ :: l) w' := by
  obtain ⟨m, h⟩ := St.tab.1 h
  obtain ⟨e0, h⟩ := St.popen (h.f 1) hg
  obtain ⟨wf, a1, c1, a2, c2, h⟩ := St.one.1 h
  obtain ⟨series, told, x, used, who'⟩ := o
  dsimp only at hu wf
  refine enter Try.func23 rfl Try.results23 Try.ntmps23 rfl ?_
  refine c_seq (c_region ?_)
  refine r_v (q_assignI rfl) rfl ?_
  refine r_nil ?_
  refine c_seq (c_region ?_)
  refine r_v (q_moveP rfl) rfl ?_; refine r_v (q_nil rfl) rfl ?_; refine r_v (q_fa rfl) rfl ?_; (first | refine r_v (q_load rfl (h.b 0) rfl) rfl ?_ | refine r_v (q_load rfl (h.b 1) rfl) rfl ?_ | refine r_v (q_load rfl (h.b 2) rfl) rfl ?_ | refine r_v (q_load rfl (h.b 3) rfl) rfl ?_ | refine r_v (q_load rfl (h.b 4) rfl) rfl ?_ | refine r_v (q_load rfl (h.b 5) rfl) rfl ?_); refine r_v (q_moveI rfl) rfl ?_
  refine r_v (q_plookup1 (h.f 3) rfl rfl) rfl ?_
  refine r_v (q_moveT rfl) rfl ?_; refine r_v (q_ext rfl rfl) rfl ?_; refine r_v (q_ext rfl rfl) rfl ?_; refine r_v (q_assignP rfl) rfl ?_; refine r_v (q_assignB rfl) rfl ?_
  refine r_nil ?_
  refine c_cut (Γ := Unit) (fun _ => [(2, .int .i64 who), (7, .pointer (some ⟨e0, 0, none⟩))]) (fun _ w => St w0 (pt e0 (.cells ((One.mk series told x used who').cells a1 c1 a2 c2).toArray 89 (0, 0)) :: OwnP x a1 c1 :: OwnT x a2 c2 :: PHole (Value.int .i64) m IsOne id e0 T.l :: TabPt p m T :: l) w) ?_ ?_
  · refine c_block ?_
    refine c_seq (c_region ?_)
    refine r_v (q_moveB rfl) rfl ?_; refine r_v (q_not rfl) rfl ?_; refine r_v (q_assignB rfl) rfl ?_
    refine r_nil ?_
    refine c_false rfl ?_
    cases used with
    | true =>
      have hu := hu rfl
      subst hu
      refine c_seq (c_region ?_)
      refine r_v (q_moveP rfl) rfl ?_; refine r_v (q_nil rfl) rfl ?_; refine r_v (q_fa rfl) rfl ?_; (first | refine r_v (q_load rfl (h.b 0) rfl) rfl ?_ | refine r_v (q_load rfl (h.b 1) rfl) rfl ?_ | refine r_v (q_load rfl (h.b 2) rfl) rfl ?_ | refine r_v (q_load rfl (h.b 3) rfl) rfl ?_ | refine r_v (q_load rfl (h.b 4) rfl) rfl ?_ | refine r_v (q_load rfl (h.b 5) rfl) rfl ?_); refine r_v (q_moveB rfl) rfl ?_; (first | refine r_gd rfl rfl ?_ | refine r_gn rfl rfl rfl ?_ | refine r_gu rfl rfl ?_ | refine r_gd rfl (by assumption) ?_ | refine r_gn rfl (by assumption) rfl ?_); refine r_v (q_moveP rfl) rfl ?_; (first | refine r_gd rfl rfl ?_ | refine r_gn rfl rfl rfl ?_ | refine r_gu rfl rfl ?_ | refine r_gd rfl (by assumption) ?_ | refine r_gn rfl (by assumption) rfl ?_); refine r_v (q_nil rfl) rfl ?_; (first | refine r_gd rfl rfl ?_ | refine r_gn rfl rfl rfl ?_ | refine r_gu rfl rfl ?_ | refine r_gd rfl (by assumption) ?_ | refine r_gn rfl (by assumption) rfl ?_); refine r_v (q_fa rfl) rfl ?_; (first | refine r_gd rfl rfl ?_ | refine r_gn rfl rfl rfl ?_ | refine r_gu rfl rfl ?_ | refine r_gd rfl (by assumption) ?_ | refine r_gn rfl (by assumption) rfl ?_); (first | refine r_v (q_load rfl (h.b 0) rfl) rfl ?_ | refine r_v (q_load rfl (h.b 1) rfl) rfl ?_ | refine r_v (q_load rfl (h.b 2) rfl) rfl ?_ | refine r_v (q_load rfl (h.b 3) rfl) rfl ?_ | refine r_v (q_load rfl (h.b 4) rfl) rfl ?_ | refine r_v (q_load rfl (h.b 5) rfl) rfl ?_); (first | refine r_gd rfl rfl ?_ | refine r_gn rfl rfl rfl ?_ | refine r_gu rfl rfl ?_ | refine r_gd rfl (by assumption) ?_ | refine r_gn rfl (by assumption) rfl ?_); refine r_v (q_moveI rfl) rfl ?_; (first | refine r_gd rfl rfl ?_ | refine r_gn rfl rfl rfl ?_ | refine r_gu rfl rfl ?_ | refine r_gd rfl (by assumption) ?_ | refine r_gn rfl (by assumption) rfl ?_); refine r_v (q_neq rfl rfl) rfl ?_
      refine r_is (.bool false) (by simp) ?_
      (first | refine r_v (q_pick1 rfl rfl rfl) rfl ?_ | refine r_v (q_pick0 rfl rfl rfl) rfl ?_ | refine r_v (q_pick1 rfl (by assumption) rfl) rfl ?_ | refine r_v (q_pick0 rfl (by assumption) rfl) rfl ?_ | refine r_v (q_pickB rfl rfl rfl) rfl ?_); refine r_v (q_assignB rfl) rfl ?_
      refine r_nil ?_
      refine c_false rfl ?_
      exact c_skip ⟨(), ⟨rfl, rfl, trivial⟩, h⟩
    | false =>
      refine c_seq (c_region ?_)
      refine r_v (q_moveP rfl) rfl ?_; refine r_v (q_nil rfl) rfl ?_; refine r_v (q_fa rfl) rfl ?_; (first | refine r_v (q_load rfl (h.b 0) rfl) rfl ?_ | refine r_v (q_load rfl (h.b 1) rfl) rfl ?_ | refine r_v (q_load rfl (h.b 2) rfl) rfl ?_ | refine r_v (q_load rfl (h.b 3) rfl) rfl ?_ | refine r_v (q_load rfl (h.b 4) rfl) rfl ?_ | refine r_v (q_load rfl (h.b 5) rfl) rfl ?_); refine r_v (q_moveB rfl) rfl ?_; (first | refine r_gd rfl rfl ?_ | refine r_gn rfl rfl rfl ?_ | refine r_gu rfl rfl ?_ | refine r_gd rfl (by assumption) ?_ | refine r_gn rfl (by assumption) rfl ?_); (first | refine r_gd rfl rfl ?_ | refine r_gn rfl rfl rfl ?_ | refine r_gu rfl rfl ?_ | refine r_gd rfl (by assumption) ?_ | refine r_gn rfl (by assumption) rfl ?_); (first | refine r_gd rfl rfl ?_ | refine r_gn rfl rfl rfl ?_ | refine r_gu rfl rfl ?_ | refine r_gd rfl (by assumption) ?_ | refine r_gn rfl (by assumption) rfl ?_); (first | refine r_gd rfl rfl ?_ | refine r_gn rfl rfl rfl ?_ | refine r_gu rfl rfl ?_ | refine r_gd rfl (by assumption) ?_ | refine r_gn rfl (by assumption) rfl ?_); (first | refine r_gd rfl rfl ?_ | refine r_gn rfl rfl rfl ?_ | refine r_gu rfl rfl ?_ | refine r_gd rfl (by assumption) ?_ | refine r_gn rfl (by assumption) rfl ?_); (first | refine r_gd rfl rfl ?_ | refine r_gn rfl rfl rfl ?_ | refine r_gu rfl rfl ?_ | refine r_gd rfl (by assumption) ?_ | refine r_gn rfl (by assumption) rfl ?_); (first | refine r_v (q_pick1 rfl rfl rfl) rfl ?_ | refine r_v (q_pick0 rfl rfl rfl) rfl ?_ | refine r_v (q_pick1 rfl (by assumption) rfl) rfl ?_ | refine r_v (q_pick0 rfl (by assumption) rfl) rfl ?_ | refine r_v (q_pickB rfl rfl rfl) rfl ?_); refine r_v (q_assignB rfl) rfl ?_
      refine r_nil ?_
      refine c_false rfl ?_
      exact c_skip ⟨(), ⟨rfl, rfl, trivial⟩, h⟩
  clear h
  rintro ⟨⟩ w e h
  refine c_seq (c_region ?_)
  refine r_v (q_moveP rfl) rfl ?_; refine r_v (q_moveP rfl) rfl ?_; refine r_v (q_moveI rfl) rfl ?_; refine r_v (q_nil rfl) rfl ?_; refine r_v (q_fa rfl) rfl ?_
  refine r_c rfl (x_store 0 h rfl (show _ = Value.bool true from rfl) rfl rfl rfl rfl fun w h => ?_)
  refine r_v (q_nil rfl) rfl ?_; refine r_v (q_fa rfl) rfl ?_
  refine r_c rfl (x_store 0 h rfl (show _ = Value.int .i64 who from rfl) rfl rfl rfl rfl fun w h => ?_)
  refine r_nil ?_
  refine c_seq (c_region ?_)
  refine r_v (q_assignI rfl) rfl ?_
  refine r_nil ?_
  exact c_ret (bq1 ⟨rfl, St.tab.2 ⟨m, (St.pclose ((St.one (o := ⟨series, told, x, true, who⟩)).2 ⟨wf, a1, c1, a2, c2, h⟩)).f 1⟩⟩)

/-- Who uses it. -/
def One.by (o : One) (who : Int) : Prop := o.used = true ∧ o.who = who
theorem iter_of0 (id who : Int) (h : St w0 (TabPt p m T :: PMap (Value.int .i64) m IsOne T.l :: l) w) (hg : ∀ o, mget id T.l = some o → ¬ o.by who) :
    Ret Try.prog 38 [.pointer (some ⟨p, 0, none⟩), .int .i64 id, .int .i64 who] w fun v w' => v = .pointer none ∧ St w0 (TabPt p m T :: PMap (Value.int .i64) m IsOne T.l :: l) w' := by
  refine enter Try.func38 rfl Try.results38 Try.ntmps38 rfl ?_
  refine c_seq (c_region ?_)
  refine r_v (q_assignP rfl) rfl ?_
  refine r_nil ?_
  refine c_seq (c_region ?_)
  refine r_v (q_moveP rfl) rfl ?_; refine r_v (q_nil rfl) rfl ?_; refine r_v (q_fa rfl) rfl ?_; (first | refine r_v (q_load rfl (h.b 0) rfl) rfl ?_ | refine r_v (q_load rfl (h.b 1) rfl) rfl ?_ | refine r_v (q_load rfl (h.b 2) rfl) rfl ?_ | refine r_v (q_load rfl (h.b 3) rfl) rfl ?_ | refine r_v (q_load rfl (h.b 4) rfl) rfl ?_ | refine r_v (q_load rfl (h.b 5) rfl) rfl ?_); refine r_v (q_moveI rfl) rfl ?_
  cases hgg : mget id T.l with
  | none =>
    refine r_v (q_plookup0 (h.f 1) rfl rfl hgg) rfl ?_
    refine r_v (q_moveT rfl) rfl ?_; refine r_v (q_ext rfl rfl) rfl ?_; refine r_v (q_ext rfl rfl) rfl ?_; refine r_v (q_assignP rfl) rfl ?_; refine r_v (q_assignB rfl) rfl ?_
    refine r_nil ?_
    refine c_seq (c_seq (c_region ?_))
    refine r_v (q_moveB rfl) rfl ?_; refine r_v (q_not rfl) rfl ?_; refine r_v (q_moveB rfl) rfl ?_; (first | refine r_gd rfl rfl ?_ | refine r_gn rfl rfl rfl ?_ | refine r_gu rfl rfl ?_ | refine r_gd rfl (by assumption) ?_ | refine r_gn rfl (by assumption) rfl ?_); (first | refine r_gd rfl rfl ?_ | refine r_gn rfl rfl rfl ?_ | refine r_gu rfl rfl ?_ | refine r_gd rfl (by assumption) ?_ | refine r_gn rfl (by assumption) rfl ?_); (first | refine r_gd rfl rfl ?_ | refine r_gn rfl rfl rfl ?_ | refine r_gu rfl rfl ?_ | refine r_gd rfl (by assumption) ?_ | refine r_gn rfl (by assumption) rfl ?_); (first | refine r_gd rfl rfl ?_ | refine r_gn rfl rfl rfl ?_ | refine r_gu rfl rfl ?_ | refine r_gd rfl (by assumption) ?_ | refine r_gn rfl (by assumption) rfl ?_); (first | refine r_gd rfl rfl ?_ | refine r_gn rfl rfl rfl ?_ | refine r_gu rfl rfl ?_ | refine r_gd rfl (by assumption) ?_ | refine r_gn rfl (by assumption) rfl ?_); (first | refine r_v (q_pick1 rfl rfl rfl) rfl ?_ | refine r_v (q_pick0 rfl rfl rfl) rfl ?_ | refine r_v (q_pick1 rfl (by assumption) rfl) rfl ?_ | refine r_v (q_pick0 rfl (by assumption) rfl) rfl ?_ | refine r_v (q_pickB rfl rfl rfl) rfl ?_); refine r_v (q_moveB rfl) rfl ?_; (first | refine r_gd rfl rfl ?_ | refine r_gn rfl rfl rfl ?_ | refine r_gu rfl rfl ?_ | refine r_gd rfl (by assumption) ?_ | refine r_gn rfl (by assumption) rfl ?_); (first | refine r_gd rfl rfl ?_ | refine r_gn rfl rfl rfl ?_ | refine r_gu rfl rfl ?_ | refine r_gd rfl (by assumption) ?_ | refine r_gn rfl (by assumption) rfl ?_); (first | refine r_gd rfl rfl ?_ | refine r_gn rfl rfl rfl ?_ | refine r_gu rfl rfl ?_ | refine r_gd rfl (by assumption) ?_ | refine r_gn rfl (by assumption) rfl ?_); (first | refine r_gd rfl rfl ?_ | refine r_gn rfl rfl rfl ?_ | refine r_gu rfl rfl ?_ | refine r_gd rfl (by assumption) ?_ | refine r_gn rfl (by assumption) rfl ?_); (first | refine r_gd rfl rfl ?_ | refine r_gn rfl rfl rfl ?_ | refine r_gu rfl rfl ?_ | refine r_gd rfl (by assumption) ?_ | refine r_gn rfl (by assumption) rfl ?_); (first | refine r_gd rfl rfl ?_ | refine r_gn rfl rfl rfl ?_ | refine r_gu rfl rfl ?_ | refine r_gd rfl (by assumption) ?_ | refine r_gn rfl (by assumption) rfl ?_); (first | refine r_v (q_pick1 rfl rfl rfl) rfl ?_ | refine r_v (q_pick0 rfl rfl rfl) rfl ?_ | refine r_v (q_pick1 rfl (by assumption) rfl) rfl ?_ | refine r_v (q_pick0 rfl (by assumption) rfl) rfl ?_ | refine r_v (q_pickB rfl rfl rfl) rfl ?_)
    refine r_nil ?_
    refine c_true rfl ?_
    refine c_seq (c_region ?_)
    refine r_v (q_assignP rfl) rfl ?_
    refine r_nil ?_
    exact c_ret (bq1 ⟨rfl, h⟩)
  | some o =>
    have hno := hg o hgg
    obtain ⟨e0, h⟩ := St.popen (h.f 1) hgg
    obtain ⟨wf, a1, c1, a2, c2, h⟩ := St.one.1 h
    obtain ⟨series, told, x, used, who'⟩ := o
    unfold One.by at hno
    dsimp only at hno wf
    refine r_v (q_plookup1 (h.f 3) rfl rfl) rfl ?_
    refine r_v (q_moveT rfl) rfl ?_; refine r_v (q_ext rfl rfl) rfl ?_; refine r_v (q_ext rfl rfl) rfl ?_; refine r_v (q_assignP rfl) rfl ?_; refine r_v (q_assignB rfl) rfl ?_
    refine r_nil ?_
    refine c_seq (c_seq (c_region ?_))
    cases used with
    | true =>
      refine r_v (q_moveB rfl) rfl ?_; refine r_v (q_not rfl) rfl ?_; refine r_v (q_moveB rfl) rfl ?_; (first | refine r_gd rfl rfl ?_ | refine r_gn rfl rfl rfl ?_ | refine r_gu rfl rfl ?_ | refine r_gd rfl (by assumption) ?_ | refine r_gn rfl (by assumption) rfl ?_); refine r_v (q_moveP rfl) rfl ?_; (first | refine r_gd rfl rfl ?_ | refine r_gn rfl rfl rfl ?_ | refine r_gu rfl rfl ?_ | refine r_gd rfl (by assumption) ?_ | refine r_gn rfl (by assumption) rfl ?_); refine r_v (q_nil rfl) rfl ?_; (first | refine r_gd rfl rfl ?_ | refine r_gn rfl rfl rfl ?_ | refine r_gu rfl rfl ?_ | refine r_gd rfl (by assumption) ?_ | refine r_gn rfl (by assumption) rfl ?_); refine r_v (q_fa rfl) rfl ?_; (first | refine r_gd rfl rfl ?_ | refine r_gn rfl rfl rfl ?_ | refine r_gu rfl rfl ?_ | refine r_gd rfl (by assumption) ?_ | refine r_gn rfl (by assumption) rfl ?_); (first | refine r_v (q_load rfl (h.b 0) rfl) rfl ?_ | refine r_v (q_load rfl (h.b 1) rfl) rfl ?_ | refine r_v (q_load rfl (h.b 2) rfl) rfl ?_ | refine r_v (q_load rfl (h.b 3) rfl) rfl ?_ | refine r_v (q_load rfl (h.b 4) rfl) rfl ?_ | refine r_v (q_load rfl (h.b 5) rfl) rfl ?_); (first | refine r_gd rfl rfl ?_ | refine r_gn rfl rfl rfl ?_ | refine r_gu rfl rfl ?_ | refine r_gd rfl (by assumption) ?_ | refine r_gn rfl (by assumption) rfl ?_); refine r_v (q_not rfl) rfl ?_; (first | refine r_v (q_pick1 rfl rfl rfl) rfl ?_ | refine r_v (q_pick0 rfl rfl rfl) rfl ?_ | refine r_v (q_pick1 rfl (by assumption) rfl) rfl ?_ | refine r_v (q_pick0 rfl (by assumption) rfl) rfl ?_ | refine r_v (q_pickB rfl rfl rfl) rfl ?_); refine r_v (q_moveB rfl) rfl ?_; (first | refine r_gd rfl rfl ?_ | refine r_gn rfl rfl rfl ?_ | refine r_gu rfl rfl ?_ | refine r_gd rfl (by assumption) ?_ | refine r_gn rfl (by assumption) rfl ?_); refine r_v (q_moveP rfl) rfl ?_; (first | refine r_gd rfl rfl ?_ | refine r_gn rfl rfl rfl ?_ | refine r_gu rfl rfl ?_ | refine r_gd rfl (by assumption) ?_ | refine r_gn rfl (by assumption) rfl ?_); refine r_v (q_nil rfl) rfl ?_; (first | refine r_gd rfl rfl ?_ | refine r_gn rfl rfl rfl ?_ | refine r_gu rfl rfl ?_ | refine r_gd rfl (by assumption) ?_ | refine r_gn rfl (by assumption) rfl ?_); refine r_v (q_fa rfl) rfl ?_; (first | refine r_gd rfl rfl ?_ | refine r_gn rfl rfl rfl ?_ | refine r_gu rfl rfl ?_ | refine r_gd rfl (by assumption) ?_ | refine r_gn rfl (by assumption) rfl ?_); (first | refine r_v (q_load rfl (h.b 0) rfl) rfl ?_ | refine r_v (q_load rfl (h.b 1) rfl) rfl ?_ | refine r_v (q_load rfl (h.b 2) rfl) rfl ?_ | refine r_v (q_load rfl (h.b 3) rfl) rfl ?_ | refine r_v (q_load rfl (h.b 4) rfl) rfl ?_ | refine r_v (q_load rfl (h.b 5) rfl) rfl ?_); (first | refine r_gd rfl rfl ?_ | refine r_gn rfl rfl rfl ?_ | refine r_gu rfl rfl ?_ | refine r_gd rfl (by assumption) ?_ | refine r_gn rfl (by assumption) rfl ?_); refine r_v (q_moveI rfl) rfl ?_; (first | refine r_gd rfl rfl ?_ | refine r_gn rfl rfl rfl ?_ | refine r_gu rfl rfl ?_ | refine r_gd rfl (by assumption) ?_ | refine r_gn rfl (by assumption) rfl ?_); refine r_v (q_neq rfl rfl) rfl ?_
      refine r_is (.bool true) (by simp at hno; simp [hno]) ?_
      (first | refine r_v (q_pick1 rfl rfl rfl) rfl ?_ | refine r_v (q_pick0 rfl rfl rfl) rfl ?_ | refine r_v (q_pick1 rfl (by assumption) rfl) rfl ?_ | refine r_v (q_pick0 rfl (by assumption) rfl) rfl ?_ | refine r_v (q_pickB rfl rfl rfl) rfl ?_)
      refine r_nil ?_
      refine c_true rfl ?_
      refine c_seq (c_region ?_)
      refine r_v (q_assignP rfl) rfl ?_
      refine r_nil ?_
      exact c_ret (bq1 ⟨rfl, (St.psame hgg (St.one.2 ⟨wf, a1, c1, a2, c2, h⟩)).f 1⟩)
    | false =>
      refine r_v (q_moveB rfl) rfl ?_; refine r_v (q_not rfl) rfl ?_; refine r_v (q_moveB rfl) rfl ?_; (first | refine r_gd rfl rfl ?_ | refine r_gn rfl rfl rfl ?_ | refine r_gu rfl rfl ?_ | refine r_gd rfl (by assumption) ?_ | refine r_gn rfl (by assumption) rfl ?_); refine r_v (q_moveP rfl) rfl ?_; (first | refine r_gd rfl rfl ?_ | refine r_gn rfl rfl rfl ?_ | refine r_gu rfl rfl ?_ | refine r_gd rfl (by assumption) ?_ | refine r_gn rfl (by assumption) rfl ?_); refine r_v (q_nil rfl) rfl ?_; (first | refine r_gd rfl rfl ?_ | refine r_gn rfl rfl rfl ?_ | refine r_gu rfl rfl ?_ | refine r_gd rfl (by assumption) ?_ | refine r_gn rfl (by assumption) rfl ?_); refine r_v (q_fa rfl) rfl ?_; (first | refine r_gd rfl rfl ?_ | refine r_gn rfl rfl rfl ?_ | refine r_gu rfl rfl ?_ | refine r_gd rfl (by assumption) ?_ | refine r_gn rfl (by assumption) rfl ?_); (first | refine r_v (q_load rfl (h.b 0) rfl) rfl ?_ | refine r_v (q_load rfl (h.b 1) rfl) rfl ?_ | refine r_v (q_load rfl (h.b 2) rfl) rfl ?_ | refine r_v (q_load rfl (h.b 3) rfl) rfl ?_ | refine r_v (q_load rfl (h.b 4) rfl) rfl ?_ | refine r_v (q_load rfl (h.b 5) rfl) rfl ?_); (first | refine r_gd rfl rfl ?_ | refine r_gn rfl rfl rfl ?_ | refine r_gu rfl rfl ?_ | refine r_gd rfl (by assumption) ?_ | refine r_gn rfl (by assumption) rfl ?_); refine r_v (q_not rfl) rfl ?_; (first | refine r_v (q_pick1 rfl rfl rfl) rfl ?_ | refine r_v (q_pick0 rfl rfl rfl) rfl ?_ | refine r_v (q_pick1 rfl (by assumption) rfl) rfl ?_ | refine r_v (q_pick0 rfl (by assumption) rfl) rfl ?_ | refine r_v (q_pickB rfl rfl rfl) rfl ?_); refine r_v (q_moveB rfl) rfl ?_; (first | refine r_gd rfl rfl ?_ | refine r_gn rfl rfl rfl ?_ | refine r_gu rfl rfl ?_ | refine r_gd rfl (by assumption) ?_ | refine r_gn rfl (by assumption) rfl ?_); (first | refine r_gd rfl rfl ?_ | refine r_gn rfl rfl rfl ?_ | refine r_gu rfl rfl ?_ | refine r_gd rfl (by assumption) ?_ | refine r_gn rfl (by assumption) rfl ?_); (first | refine r_gd rfl rfl ?_ | refine r_gn rfl rfl rfl ?_ | refine r_gu rfl rfl ?_ | refine r_gd rfl (by assumption) ?_ | refine r_gn rfl (by assumption) rfl ?_); (first | refine r_gd rfl rfl ?_ | refine r_gn rfl rfl rfl ?_ | refine r_gu rfl rfl ?_ | refine r_gd rfl (by assumption) ?_ | refine r_gn rfl (by assumption) rfl ?_); (first | refine r_gd rfl rfl ?_ | refine r_gn rfl rfl rfl ?_ | refine r_gu rfl rfl ?_ | refine r_gd rfl (by assumption) ?_ | refine r_gn rfl (by assumption) rfl ?_); (first | refine r_gd rfl rfl ?_ | refine r_gn rfl rfl rfl ?_ | refine r_gu rfl rfl ?_ | refine r_gd rfl (by assumption) ?_ | refine r_gn rfl (by assumption) rfl ?_); (first | refine r_v (q_pick1 rfl rfl rfl) rfl ?_ | refine r_v (q_pick0 rfl rfl rfl) rfl ?_ | refine r_v (q_pick1 rfl (by assumption) rfl) rfl ?_ | refine r_v (q_pick0 rfl (by assumption) rfl) rfl ?_ | refine r_v (q_pickB rfl rfl rfl) rfl ?_)
      refine r_nil ?_
      refine c_true rfl ?_
      refine c_seq (c_region ?_)
      refine r_v (q_assignP rfl) rfl ?_
      refine r_nil ?_
      exact c_ret (bq1 ⟨rfl, (St.psame hgg (St.one.2 ⟨wf, a1, c1, a2, c2, h⟩)).f 1⟩)
theorem iter_of1 (id who : Int) {o : One} (h : St w0 (TabPt p m T :: PMap (Value.int .i64) m IsOne T.l :: l) w) (hg : mget id T.l = some o) (hu : o.by who) :
    Ret Try.prog 38 [.pointer (some ⟨p, 0, none⟩), .int .i64 id, .int .i64 who] w fun v w' => ∃ e, v = .pointer (some ⟨e, 0, none⟩) ∧ St w0 (IsOne e o :: PHole (Value.int .i64) m IsOne id e T.l :: TabPt p m T :: l) w' := by
  obtain ⟨e0, h⟩ := St.popen (h.f 1) hg
  obtain ⟨wf, a1, c1, a2, c2, h⟩ := St.one.1 h
  obtain ⟨series, told, x, used, who'⟩ := o
  obtain ⟨hu, hw⟩ := hu
  dsimp only at hu hw wf
  subst hu hw
  refine enter Try.func38 rfl Try.results38 Try.ntmps38 rfl ?_
  refine c_seq (c_region ?_)
  refine r_v (q_assignP rfl) rfl ?_
  refine r_nil ?_
  refine c_seq (c_region ?_)
  refine r_v (q_moveP rfl) rfl ?_; refine r_v (q_nil rfl) rfl ?_; refine r_v (q_fa rfl) rfl ?_; (first | refine r_v (q_load rfl (h.b 0) rfl) rfl ?_ | refine r_v (q_load rfl (h.b 1) rfl) rfl ?_ | refine r_v (q_load rfl (h.b 2) rfl) rfl ?_ | refine r_v (q_load rfl (h.b 3) rfl) rfl ?_ | refine r_v (q_load rfl (h.b 4) rfl) rfl ?_ | refine r_v (q_load rfl (h.b 5) rfl) rfl ?_); refine r_v (q_moveI rfl) rfl ?_
  refine r_v (q_plookup1 (h.f 3) rfl rfl) rfl ?_
  refine r_v (q_moveT rfl) rfl ?_; refine r_v (q_ext rfl rfl) rfl ?_; refine r_v (q_ext rfl rfl) rfl ?_; refine r_v (q_assignP rfl) rfl ?_; refine r_v (q_assignB rfl) rfl ?_
  refine r_nil ?_
  refine c_seq (c_seq (c_region ?_))
  refine r_v (q_moveB rfl) rfl ?_; refine r_v (q_not rfl) rfl ?_; refine r_v (q_moveB rfl) rfl ?_; (first | refine r_gd rfl rfl ?_ | refine r_gn rfl rfl rfl ?_ | refine r_gu rfl rfl ?_ | refine r_gd rfl (by assumption) ?_ | refine r_gn rfl (by assumption) rfl ?_); refine r_v (q_moveP rfl) rfl ?_; (first | refine r_gd rfl rfl ?_ | refine r_gn rfl rfl rfl ?_ | refine r_gu rfl rfl ?_ | refine r_gd rfl (by assumption) ?_ | refine r_gn rfl (by assumption) rfl ?_); refine r_v (q_nil rfl) rfl ?_; (first | refine r_gd rfl rfl ?_ | refine r_gn rfl rfl rfl ?_ | refine r_gu rfl rfl ?_ | refine r_gd rfl (by assumption) ?_ | refine r_gn rfl (by assumption) rfl ?_); refine r_v (q_fa rfl) rfl ?_; (first | refine r_gd rfl rfl ?_ | refine r_gn rfl rfl rfl ?_ | refine r_gu rfl rfl ?_ | refine r_gd rfl (by assumption) ?_ | refine r_gn rfl (by assumption) rfl ?_); (first | refine r_v (q_load rfl (h.b 0) rfl) rfl ?_ | refine r_v (q_load rfl (h.b 1) rfl) rfl ?_ | refine r_v (q_load rfl (h.b 2) rfl) rfl ?_ | refine r_v (q_load rfl (h.b 3) rfl) rfl ?_ | refine r_v (q_load rfl (h.b 4) rfl) rfl ?_ | refine r_v (q_load rfl (h.b 5) rfl) rfl ?_); (first | refine r_gd rfl rfl ?_ | refine r_gn rfl rfl rfl ?_ | refine r_gu rfl rfl ?_ | refine r_gd rfl (by assumption) ?_ | refine r_gn rfl (by assumption) rfl ?_); refine r_v (q_not rfl) rfl ?_; (first | refine r_v (q_pick1 rfl rfl rfl) rfl ?_ | refine r_v (q_pick0 rfl rfl rfl) rfl ?_ | refine r_v (q_pick1 rfl (by assumption) rfl) rfl ?_ | refine r_v (q_pick0 rfl (by assumption) rfl) rfl ?_ | refine r_v (q_pickB rfl rfl rfl) rfl ?_); refine r_v (q_moveB rfl) rfl ?_; (first | refine r_gd rfl rfl ?_ | refine r_gn rfl rfl rfl ?_ | refine r_gu rfl rfl ?_ | refine r_gd rfl (by assumption) ?_ | refine r_gn rfl (by assumption) rfl ?_); refine r_v (q_moveP rfl) rfl ?_; (first | refine r_gd rfl rfl ?_ | refine r_gn rfl rfl rfl ?_ | refine r_gu rfl rfl ?_ | refine r_gd rfl (by assumption) ?_ | refine r_gn rfl (by assumption) rfl ?_); refine r_v (q_nil rfl) rfl ?_; (first | refine r_gd rfl rfl ?_ | refine r_gn rfl rfl rfl ?_ | refine r_gu rfl rfl ?_ | refine r_gd rfl (by assumption) ?_ | refine r_gn rfl (by assumption) rfl ?_); refine r_v (q_fa rfl) rfl ?_; (first | refine r_gd rfl rfl ?_ | refine r_gn rfl rfl rfl ?_ | refine r_gu rfl rfl ?_ | refine r_gd rfl (by assumption) ?_ | refine r_gn rfl (by assumption) rfl ?_); (first | refine r_v (q_load rfl (h.b 0) rfl) rfl ?_ | refine r_v (q_load rfl (h.b 1) rfl) rfl ?_ | refine r_v (q_load rfl (h.b 2) rfl) rfl ?_ | refine r_v (q_load rfl (h.b 3) rfl) rfl ?_ | refine r_v (q_load rfl (h.b 4) rfl) rfl ?_ | refine r_v (q_load rfl (h.b 5) rfl) rfl ?_); (first | refine r_gd rfl rfl ?_ | refine r_gn rfl rfl rfl ?_ | refine r_gu rfl rfl ?_ | refine r_gd rfl (by assumption) ?_ | refine r_gn rfl (by assumption) rfl ?_); refine r_v (q_moveI rfl) rfl ?_; (first | refine r_gd rfl rfl ?_ | refine r_gn rfl rfl rfl ?_ | refine r_gu rfl rfl ?_ | refine r_gd rfl (by assumption) ?_ | refine r_gn rfl (by assumption) rfl ?_); refine r_v (q_neq rfl rfl) rfl ?_
  refine r_is (.bool false) (by simp) ?_
  (first | refine r_v (q_pick1 rfl rfl rfl) rfl ?_ | refine r_v (q_pick0 rfl rfl rfl) rfl ?_ | refine r_v (q_pick1 rfl (by assumption) rfl) rfl ?_ | refine r_v (q_pick0 rfl (by assumption) rfl) rfl ?_ | refine r_v (q_pickB rfl rfl rfl) rfl ?_)
  refine r_nil ?_
  refine c_false rfl (c_skip ?_)
  refine c_seq (c_region ?_)
  refine r_v (q_moveP rfl) rfl ?_; refine r_v (q_assignP rfl) rfl ?_
  refine r_nil ?_
  exact c_ret (bq1 ⟨e0, rfl, St.one.2 ⟨wf, a1, c1, a2, c2, h⟩⟩)

theorem iter_Free0 (id who : Int) (h : St w0 (IsTab p T :: l) w) (hg : ∀ o, mget id T.l = some o → ¬ o.by who) :
    Ret Try.prog 29 [.pointer (some ⟨p, 0, none⟩), .int .i64 id, .int .i64 who] w fun v w' => v = .bool false ∧ St w0 (IsTab p T :: l) w' := by
  obtain ⟨m, h⟩ := St.tab.1 h
  refine enter Try.func29 rfl Try.results29 Try.ntmps29 rfl ?_
  refine c_seq (c_region ?_)
  refine r_v (q_assignB rfl) rfl ?_
  refine r_nil ?_
  refine c_seq (c_region ?_)
  refine r_v (q_moveP rfl) rfl ?_; refine r_v (q_moveI rfl) rfl ?_; refine r_v (q_moveI rfl) rfl ?_
  refine r_c rfl (x_call rfl (iter_of0 id who h hg) ?_)
  rintro _ w ⟨rfl, h⟩
  refine r_v (q_assignP rfl) rfl ?_
  refine r_nil ?_
  refine c_seq (c_seq (c_region ?_))
  refine r_v (q_moveP rfl) rfl ?_; refine r_v (q_eqnil rfl rfl) rfl ?_
  refine r_nil ?_
  refine c_true rfl ?_
  refine c_seq (c_region ?_)
  refine r_v (q_assignB rfl) rfl ?_
  refine r_nil ?_
  exact c_ret (bq1 ⟨rfl, St.tab.2 ⟨m, h⟩⟩)
theorem iter_Free1 (id who : Int) {o : One} (h : St w0 (IsTab p T :: l) w) (hg : mget id T.l = some o) (hu : o.by who) :
    Ret Try.prog 29 [.pointer (some ⟨p, 0, none⟩), .int .i64 id, .int .i64 who] w fun v w' => v = .bool true ∧ St w0 (IsTab p ⟨T.last, mset id { o with used := false } T.l⟩ :: l) w' := by
  obtain ⟨m, h⟩ := St.tab.1 h
  refine enter Try.func29 rfl Try.results29 Try.ntmps29 rfl ?_
  refine c_seq (c_region ?_)
  refine r_v (q_assignB rfl) rfl ?_
  refine r_nil ?_
  refine c_seq (c_region ?_)
  refine r_v (q_moveP rfl) rfl ?_; refine r_v (q_moveI rfl) rfl ?_; refine r_v (q_moveI rfl) rfl ?_
  refine r_c rfl (x_call rfl (iter_of1 id who h hg hu) ?_)
  rintro _ w ⟨e0, rfl, h⟩
  refine r_v (q_assignP rfl) rfl ?_
  refine r_nil ?_
  refine c_seq (c_seq (c_region ?_))
  refine r_v (q_moveP rfl) rfl ?_; refine r_v (q_eqnil rfl rfl) rfl ?_
  refine r_nil ?_
  refine c_false rfl (c_skip ?_)
  obtain ⟨wf, a1, c1, a2, c2, h⟩ := St.one.1 h
  refine c_seq (c_region ?_)
  refine r_v (q_moveP rfl) rfl ?_; refine r_v (q_nil rfl) rfl ?_; refine r_v (q_fa rfl) rfl ?_
  refine r_c rfl (x_store 0 h rfl (show _ = Value.bool false from rfl) rfl rfl rfl rfl fun w h => ?_)
  refine r_nil ?_
  refine c_seq (c_region ?_)
  refine r_v (q_assignB rfl) rfl ?_
  refine r_nil ?_
  exact c_ret (bq1 ⟨rfl, St.tab.2 ⟨m, (St.pclose ((St.one (o := { o with used := false })).2 ⟨wf, a1, c1, a2, c2, h⟩)).f 1⟩⟩)
theorem iter_Move0 (id who n : Int) (h : St w0 (IsTab p T :: l) w) (hg : ∀ o, mget id T.l = some o → ¬ o.by who) :
    Ret Try.prog 28 [.pointer (some ⟨p, 0, none⟩), .int .i64 id, .int .i64 who, .int .i64 n] w fun v w' => v = .bool false ∧ St w0 (IsTab p T :: l) w' := by
  obtain ⟨m, h⟩ := St.tab.1 h
  refine enter Try.func28 rfl Try.results28 Try.ntmps28 rfl ?_
  refine c_seq (c_region ?_)
  refine r_v (q_assignB rfl) rfl ?_
  refine r_nil ?_
  refine c_seq (c_region ?_)
  refine r_v (q_moveP rfl) rfl ?_; refine r_v (q_moveI rfl) rfl ?_; refine r_v (q_moveI rfl) rfl ?_
  refine r_c rfl (x_call rfl (iter_of0 id who h hg) ?_)
  rintro _ w ⟨rfl, h⟩
  refine r_v (q_assignP rfl) rfl ?_
  refine r_nil ?_
  refine c_seq (c_seq (c_region ?_))
  refine r_v (q_moveP rfl) rfl ?_; refine r_v (q_eqnil rfl rfl) rfl ?_
  refine r_nil ?_
  refine c_true rfl ?_
  refine c_seq (c_region ?_)
  refine r_v (q_assignB rfl) rfl ?_
  refine r_nil ?_
  exact c_ret (bq1 ⟨rfl, St.tab.2 ⟨m, h⟩⟩)
theorem iter_Move1 (id who n : Int) {o : One} (h : St w0 (IsTab p T :: l) w) (hg : mget id T.l = some o) (hu : o.by who) :
    Ret Try.prog 28 [.pointer (some ⟨p, 0, none⟩), .int .i64 id, .int .i64 who, .int .i64 n] w fun v w' => v = .bool true ∧ St w0 (IsTab p ⟨T.last, mset id { o with told := IntKind.i64.wrap (o.told + max n 0) } T.l⟩ :: l) w' := by
  obtain ⟨m, h⟩ := St.tab.1 h
  refine enter Try.func28 rfl Try.results28 Try.ntmps28 rfl ?_
  refine c_seq (c_region ?_)
  refine r_v (q_assignB rfl) rfl ?_
  refine r_nil ?_
  refine c_seq (c_region ?_)
  refine r_v (q_moveP rfl) rfl ?_; refine r_v (q_moveI rfl) rfl ?_; refine r_v (q_moveI rfl) rfl ?_
  refine r_c rfl (x_call rfl (iter_of1 id who h hg hu) ?_)
  rintro _ w ⟨e0, rfl, h⟩
  refine r_v (q_assignP rfl) rfl ?_
  refine r_nil ?_
  refine c_seq (c_seq (c_region ?_))
  refine r_v (q_moveP rfl) rfl ?_; refine r_v (q_eqnil rfl rfl) rfl ?_
  refine r_nil ?_
  refine c_false rfl (c_skip ?_)
  obtain ⟨wf, a1, c1, a2, c2, h⟩ := St.one.1 h
  refine c_seq (c_region ?_)
  refine r_v (q_moveP rfl) rfl ?_; refine r_v (q_nil rfl) rfl ?_; refine r_v (q_fa rfl) rfl ?_; (first | refine r_v (q_load rfl (h.b 0) rfl) rfl ?_ | refine r_v (q_load rfl (h.b 1) rfl) rfl ?_ | refine r_v (q_load rfl (h.b 2) rfl) rfl ?_ | refine r_v (q_load rfl (h.b 3) rfl) rfl ?_ | refine r_v (q_load rfl (h.b 4) rfl) rfl ?_ | refine r_v (q_load rfl (h.b 5) rfl) rfl ?_); refine r_v (q_moveI rfl) rfl ?_; refine r_v (q_max rfl rfl) rfl ?_; refine r_v (q_add rfl rfl) rfl ?_; refine r_v (q_nil rfl) rfl ?_; refine r_v (q_fa rfl) rfl ?_
  refine r_c rfl (x_store 0 h rfl (show _ = Value.int .i64 _ from rfl) rfl rfl rfl rfl fun w h => ?_)
  refine r_nil ?_
  refine c_seq (c_region ?_)
  refine r_v (q_assignB rfl) rfl ?_
  refine r_nil ?_
  exact c_ret (bq1 ⟨rfl, St.tab.2 ⟨m, (St.pclose ((St.one (o := { o with told := IntKind.i64.wrap (o.told + max n 0) })).2 ⟨wf, a1, c1, a2, c2, h⟩)).f 1⟩⟩)
/-- No snap. -/
abbrev snap0 : List Value := [.int .i64 0, .int .i64 0, .int .i64 0, .int .i64 0, .slice none 0 0, .slice none 0 0]
theorem iter_Close0 (id who : Int) (h : St w0 (IsTab p T :: l) w) (hg : ∀ o, mget id T.l = some o → ¬ o.by who) :
    Ret Try.prog 24 [.pointer (some ⟨p, 0, none⟩), .int .i64 id, .int .i64 who] w fun v w' => v = .tuple [.agg snap0.toArray, .bool false].toArray ∧ St w0 (IsTab p T :: l) w' := by
  obtain ⟨m, h⟩ := St.tab.1 h
  refine enter Try.func24 rfl Try.results24 Try.ntmps24 rfl ?_
  refine c_seq (c_region ?_)
  refine r_c rfl (x_alloc h fun r w h => ?_)
  refine r_v (q_assignB rfl) rfl ?_
  refine r_nil ?_
  refine c_seq (c_region ?_)
  refine r_v (q_moveP rfl) rfl ?_; refine r_v (q_moveI rfl) rfl ?_; refine r_v (q_moveI rfl) rfl ?_
  refine r_c rfl (x_call rfl (iter_of0 id who ((h.f 1).f 2 |>.f 1) hg) ?_)
  rintro _ w ⟨rfl, h⟩
  refine r_v (q_assignP rfl) rfl ?_
  refine r_nil ?_
  refine c_seq (c_seq (c_region ?_))
  refine r_v (q_moveP rfl) rfl ?_; refine r_v (q_eqnil rfl rfl) rfl ?_
  refine r_nil ?_
  refine c_true rfl ?_
  refine c_seq (c_region ?_)
  refine r_v (q_build (r := snap0) rfl) rfl ?_
  refine r_c rfl (x_storeA (vs := snap0) 2 h rfl rfl rfl rfl rfl rfl rfl fun w h => ?_)
  replace h : St w0 (TabPt p m T :: PMap (Value.int .i64) m IsOne T.l :: pt r (.cells snap0.toArray 43 (0, 0)) :: l) w := h
  refine r_v (q_assignB rfl) rfl ?_
  refine r_nil ?_
  exact c_ret (bqS2 (l := snap0) rfl rfl (at_of (h.b 2 rfl) rfl) ⟨rfl, St.tab.2 ⟨m, ((h.f 2).drop)⟩⟩)
theorem iter_Close1 (id who : Int) {o : One} (h : St w0 (IsTab p T :: l) w) (hg : mget id T.l = some o) (hu : o.by who) :
    Ret Try.prog 24 [.pointer (some ⟨p, 0, none⟩), .int .i64 id, .int .i64 who] w fun v w' => ∃ a1 c1 a2 c2, v = .tuple [.agg (o.x.cells a1 c1 a2 c2).toArray, .bool true].toArray ∧
      St w0 (OwnP o.x a1 c1 :: OwnT o.x a2 c2 :: IsTab p ⟨T.last, mdel id T.l⟩ :: l) w' := by
  obtain ⟨m, h⟩ := St.tab.1 h
  refine enter Try.func24 rfl Try.results24 Try.ntmps24 rfl ?_
  refine c_seq (c_region ?_)
  refine r_c rfl (x_alloc h fun r w h => ?_)
  refine r_v (q_assignB rfl) rfl ?_
  refine r_nil ?_
  refine c_seq (c_region ?_)
  refine r_v (q_moveP rfl) rfl ?_; refine r_v (q_moveI rfl) rfl ?_; refine r_v (q_moveI rfl) rfl ?_
  refine r_c rfl (x_call rfl (iter_of1 id who ((h.f 1).f 2 |>.f 1) hg hu) ?_)
  rintro _ w ⟨e0, rfl, h⟩
  refine r_v (q_assignP rfl) rfl ?_
  refine r_nil ?_
  refine c_seq (c_seq (c_region ?_))
  refine r_v (q_moveP rfl) rfl ?_; refine r_v (q_eqnil rfl rfl) rfl ?_
  refine r_nil ?_
  refine c_false rfl (c_skip ?_)
  obtain ⟨wf, a1, c1, a2, c2, h⟩ := St.one.1 h
  refine c_seq (c_region ?_)
  refine r_v (q_moveP rfl) rfl ?_; refine r_v (q_nil rfl) rfl ?_; refine r_v (q_fa rfl) rfl ?_; (first | refine r_v (q_load rfl (h.b 0) rfl) rfl ?_ | refine r_v (q_load rfl (h.b 1) rfl) rfl ?_ | refine r_v (q_load rfl (h.b 2) rfl) rfl ?_ | refine r_v (q_load rfl (h.b 3) rfl) rfl ?_ | refine r_v (q_load rfl (h.b 4) rfl) rfl ?_ | refine r_v (q_load rfl (h.b 5) rfl) rfl ?_); refine r_v (q_moveI rfl) rfl ?_
  refine r_c rfl (x_pdel (h.f 3) rfl rfl fun w h => ?_)
  refine r_nil ?_
  replace h : St w0 (PMap (Value.int .i64) m IsOne (mdel id T.l) :: pt e0 (.cells (o.cells a1 c1 a2 c2).toArray 89 (0, 0)) :: OwnP o.x a1 c1 :: OwnT o.x a2 c2 :: TabPt p m T :: pt r _ :: l) w := h
  refine c_seq (c_region ?_)
  refine r_v (q_moveP rfl) rfl ?_; refine r_v (q_nil rfl) rfl ?_; refine r_v (q_fa rfl) rfl ?_
  refine r_v (q_loadS (l := o.x.cells a1 c1 a2 c2) rfl rfl (at_of (h.b 1 rfl) rfl)) rfl ?_
  refine r_c rfl (x_storeA (vs := o.x.cells a1 c1 a2 c2) 5 h rfl rfl rfl rfl rfl rfl rfl fun w h => ?_)
  replace h : St w0 (PMap (Value.int .i64) m IsOne (mdel id T.l) :: pt e0 (.cells (o.cells a1 c1 a2 c2).toArray 89 (0, 0)) :: OwnP o.x a1 c1 :: OwnT o.x a2 c2 :: TabPt p m T :: pt r (.cells (o.x.cells a1 c1 a2 c2).toArray 43 (0, 0)) :: l) w := h
  refine r_v (q_assignB rfl) rfl ?_
  refine r_nil ?_
  refine c_ret (bqS2 (l := o.x.cells a1 c1 a2 c2) rfl rfl (at_of (h.b 5 rfl) rfl) ⟨a1, c1, a2, c2, rfl, ?_⟩)
  replace h := ((h.f 5).drop.f 1).drop
  replace h : St w0 (TabPt p m ⟨T.last, mdel id T.l⟩ :: PMap (Value.int .i64) m IsOne (mdel id T.l) :: OwnP o.x a1 c1 :: OwnT o.x a2 c2 :: l) w := h.f 3
  exact ((St.tab.2 ⟨m, h⟩).f 2).f 2
theorem iter_At0 (id : Int) (h : St w0 (IsTab p T :: l) w) (hg : mget id T.l = none) :
    Ret Try.prog 25 [.pointer (some ⟨p, 0, none⟩), .int .i64 id] w fun v w' => v = .tuple [.int .i64 0, .agg snap0.toArray, .int .i64 0, .bool false].toArray ∧ St w0 (IsTab p T :: l) w' := by
  obtain ⟨m, h⟩ := St.tab.1 h
  refine enter Try.func25 rfl Try.results25 Try.ntmps25 rfl ?_
  refine c_seq (c_region ?_)
  refine r_v (q_assignI rfl) rfl ?_
  refine r_c rfl (x_alloc h fun r w h => ?_)
  refine r_v (q_assignI rfl) rfl ?_; refine r_v (q_assignB rfl) rfl ?_
  refine r_nil ?_
  refine c_seq (c_region ?_)
  refine r_v (q_moveP rfl) rfl ?_; refine r_v (q_nil rfl) rfl ?_; refine r_v (q_fa rfl) rfl ?_; (first | refine r_v (q_load rfl (h.b 0) rfl) rfl ?_ | refine r_v (q_load rfl (h.b 1) rfl) rfl ?_ | refine r_v (q_load rfl (h.b 2) rfl) rfl ?_ | refine r_v (q_load rfl (h.b 3) rfl) rfl ?_ | refine r_v (q_load rfl (h.b 4) rfl) rfl ?_ | refine r_v (q_load rfl (h.b 5) rfl) rfl ?_); refine r_v (q_moveI rfl) rfl ?_
  refine r_v (q_plookup0 (h.f 2) rfl rfl hg) rfl ?_
  refine r_v (q_moveT rfl) rfl ?_; refine r_v (q_ext rfl rfl) rfl ?_; refine r_v (q_ext rfl rfl) rfl ?_; refine r_v (q_assignP rfl) rfl ?_; refine r_v (q_assignB rfl) rfl ?_
  refine r_nil ?_
  refine c_seq (c_seq (c_region ?_))
  refine r_v (q_moveB rfl) rfl ?_; refine r_v (q_not rfl) rfl ?_
  refine r_nil ?_
  refine c_true rfl ?_
  refine c_seq (c_region ?_)
  refine r_v (q_build (r := snap0) rfl) rfl ?_
  refine r_v (q_assignI rfl) rfl ?_
  refine r_c rfl (x_storeA (vs := snap0) 0 h rfl rfl rfl rfl rfl rfl rfl fun w h => ?_)
  replace h : St w0 (pt r (.cells snap0.toArray 43 (0, 0)) :: TabPt p m T :: PMap (Value.int .i64) m IsOne T.l :: l) w := h
  refine r_v (q_assignI rfl) rfl ?_; refine r_v (q_assignB rfl) rfl ?_
  refine r_nil ?_
  exact c_ret (bqS4 (l := snap0) rfl rfl (at_of (h.b 0 rfl) rfl) ⟨rfl, St.tab.2 ⟨m, h.drop⟩⟩)
theorem iter_At1 (id : Int) {o : One} (h : St w0 (IsTab p T :: l) w) (hg : mget id T.l = some o) :
    Ret Try.prog 25 [.pointer (some ⟨p, 0, none⟩), .int .i64 id] w fun v w' => ∃ a1 c1 a2 c2, v = .tuple [.int .i64 o.series, .agg (o.x.cells a1 c1 a2 c2).toArray, .int .i64 o.told, .bool true].toArray ∧
      St w0 (OwnP o.x a1 c1 :: OwnT o.x a2 c2 :: IsTab p T :: l) w' := by
  obtain ⟨m, h⟩ := St.tab.1 h
  refine enter Try.func25 rfl Try.results25 Try.ntmps25 rfl ?_
  refine c_seq (c_region ?_)
  refine r_v (q_assignI rfl) rfl ?_
  refine r_c rfl (x_alloc h fun r w h => ?_)
  refine r_v (q_assignI rfl) rfl ?_; refine r_v (q_assignB rfl) rfl ?_
  refine r_nil ?_
  obtain ⟨e0, h⟩ := St.popen (h.f 2) hg
  obtain ⟨wf, a1, c1, a2, c2, h⟩ := St.one.1 h
  refine c_seq (c_region ?_)
  refine r_v (q_moveP rfl) rfl ?_; refine r_v (q_nil rfl) rfl ?_; refine r_v (q_fa rfl) rfl ?_; (first | refine r_v (q_load rfl (h.b 0) rfl) rfl ?_ | refine r_v (q_load rfl (h.b 1) rfl) rfl ?_ | refine r_v (q_load rfl (h.b 2) rfl) rfl ?_ | refine r_v (q_load rfl (h.b 3) rfl) rfl ?_ | refine r_v (q_load rfl (h.b 4) rfl) rfl ?_ | refine r_v (q_load rfl (h.b 5) rfl) rfl ?_); refine r_v (q_moveI rfl) rfl ?_
  refine r_v (q_plookup1 (h.f 3) rfl rfl) rfl ?_
  refine r_v (q_moveT rfl) rfl ?_; refine r_v (q_ext rfl rfl) rfl ?_; refine r_v (q_ext rfl rfl) rfl ?_; refine r_v (q_assignP rfl) rfl ?_; refine r_v (q_assignB rfl) rfl ?_
  refine r_nil ?_
  refine c_seq (c_seq (c_region ?_))
  refine r_v (q_moveB rfl) rfl ?_; refine r_v (q_not rfl) rfl ?_
  refine r_nil ?_
  refine c_false rfl (c_skip ?_)
  refine c_seq (c_anyW [0, 1, 2, 3, 4, 5, 6, 7, 8, 11, 12, 13, 14, 9, 10, 15, 16] none (fun w => w.heap[e0]? = some (.cells (o.cells a1 c1 a2 c2).toArray 89 (0, 0))) (by kernel_rfl) (by kernel_rfl) ?_)
  replace h := h.drew
  generalize w.drew = w at h
  have hs := h
  replace h := hs.b 0 rfl
  refine cur_pure rfl rfl rfl rfl (fun _ => h) (fun _ => flt_v rfl (q_moveP rfl)) ?_; refine cur_pure rfl rfl rfl rfl (fun _ => h) (fun _ => flt_v rfl (q_nil rfl)) ?_; refine cur_pure rfl rfl rfl rfl (fun _ => h) (fun _ => flt_v rfl (q_fa rfl)) ?_
  refine cur_float rfl rfl rfl rfl h (fun _ h => flt_v rfl (q_load rfl h rfl)) ?_
  refine cur_pure rfl rfl rfl rfl (fun _ => h) (fun _ => flt_v rfl (q_moveP rfl)) ?_; refine cur_pure rfl rfl rfl rfl (fun _ => h) (fun _ => flt_v rfl (q_nil rfl)) ?_; refine cur_pure rfl rfl rfl rfl (fun _ => h) (fun _ => flt_v rfl (q_fa rfl)) ?_
  refine cur_float rfl rfl rfl rfl h (fun _ h => flt_v rfl (q_loadS (l := o.x.cells a1 c1 a2 c2) rfl rfl (at_of h rfl))) ?_
  refine cur_skip ?_; refine cur_pure rfl rfl rfl rfl (fun _ => h) (fun _ => flt_v rfl (q_moveP rfl)) ?_; refine cur_pure rfl rfl rfl rfl (fun _ => h) (fun _ => flt_v rfl (q_nil rfl)) ?_; refine cur_pure rfl rfl rfl rfl (fun _ => h) (fun _ => flt_v rfl (q_fa rfl)) ?_
  refine cur_float rfl rfl rfl rfl h (fun _ h => flt_v rfl (q_load rfl h rfl)) ?_
  refine cur_skip ?_; refine cur_skip ?_; refine cur_skip ?_; refine cur_skip ?_
  refine cur_one 8 rfl rfl rfl rfl ?_
  refine (x_call rfl (iter_still wf hs (fun w' h' => (h'.f 1).own_rd) (fun w' h' => (h'.f 2).own_rd)) ?_)
  rintro _ w ⟨a1', c1', a2', c2', rfl, hs⟩
  refine ⟨fun _ => hs.b 2 rfl, ?_⟩
  replace h := hs.b 2 rfl
  refine cur_pure rfl rfl rfl rfl (fun _ => h) (fun _ => flt_v rfl (q_assignI rfl)) ?_; refine cur_skip ?_; refine cur_skip ?_; refine cur_skip ?_
  refine cur_one 14 rfl rfl rfl rfl ?_
  refine x_storeA (vs := o.x.cells a1' c1' a2' c2') 6 hs rfl rfl rfl rfl rfl rfl rfl fun w hs => ?_
  refine ⟨fun _ => hs.b 2 rfl, ?_⟩
  replace h := hs.b 2 rfl
  refine cur_pure rfl rfl rfl rfl (fun _ => h) (fun _ => flt_v rfl (q_assignI rfl)) ?_; refine cur_pure rfl rfl rfl rfl (fun _ => h) (fun _ => flt_v rfl (q_assignB rfl)) ?_
  refine cur_end ?_
  replace h : St w0 (OwnP o.x a1' c1' :: OwnT o.x a2' c2' :: pt e0 (.cells (o.cells a1 c1 a2 c2).toArray 89 (0, 0)) :: OwnP o.x a1 c1 :: OwnT o.x a2 c2 :: PHole (Value.int .i64) m IsOne id e0 T.l :: pt r (.cells (o.x.cells a1' c1' a2' c2').toArray 43 (0, 0)) :: TabPt p m T :: l) w := hs
  refine c_ret (bqS4 (l := o.x.cells a1' c1' a2' c2') rfl rfl (at_of (h.b 6 rfl) rfl) ⟨a1', c1', a2', c2', rfl, ?_⟩)
  replace h := (h.f 6).drop
  have h2 : St w0 (pt e0 (.cells (o.cells a1 c1 a2 c2).toArray 89 (0, 0)) :: OwnP o.x a1 c1 :: OwnT o.x a2 c2 :: PHole (Value.int .i64) m IsOne id e0 T.l :: TabPt p m T :: OwnP o.x a1' c1' :: OwnT o.x a2' c2' :: l) w := h.of_all (by simp only [all_star]; ac_rfl)
  have h3 := (St.psame hg (St.one.2 ⟨wf, a1, c1, a2, c2, h2⟩)).f 1
  exact ((St.tab.2 ⟨m, h3⟩).f 2).f 2
end
end Go.Proofs.Ytgahjjihfibbnaa
