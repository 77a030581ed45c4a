/- The store of bytes: what each of its methods does. -/
import Derived.Test.YtgahjjihfibbnaaTy
import Derived.KernelRfl
namespace Go.Proofs.Ytgahjjihfibbnaa
open Go.Hw
set_option maxHeartbeats 4000000

structure Kept where
  bs : List UInt8
  holds : Int
def IsKept (e : Nat) (x : Kept) : HProp := ex fun q : Option Addr × Nat => all [pt e (.cells [.slice q.1 x.bs.length q.2, .int .i64 x.holds].toArray 81 (0, 0)), Own 5 1 q.1 x.bs.length q.2 (bytesV x.bs)]
structure Sto where
  budget : Int
  last : Int
  bytes : Int
  charged : Int
  l : List (Int × Kept)
abbrev stCells (S : Sto) (m : Nat) : List Value := [.int .i64 S.budget, .int .i64 S.last, .int .i64 S.bytes, .int .i64 S.charged, .map (some m)]
abbrev StoPt (p m : Nat) (S : Sto) : HProp := pt p (.cells (stCells S m).toArray 77 (0, 0))
def IsStore (p : Nat) (S : Sto) : HProp := ex fun m : Nat => all [StoPt p m S, PMap (Value.int .i64) m IsKept S.l]
theorem St.store {w0 w : World} {l : List HProp} {p : Nat} {S : Sto} : St w0 (IsStore p S :: l) w ↔ ∃ m, St w0 (StoPt p m S :: PMap (Value.int .i64) m IsKept S.l :: l) w := by
  unfold IsStore
  rw [St.ex]
  exact ⟨fun ⟨m, h⟩ => ⟨m, h.join⟩, fun ⟨m, h⟩ => ⟨m, St.fold [_, _] h⟩⟩
theorem St.kept {w0 w : World} {l : List HProp} {e : Nat} {x : Kept} : St w0 (IsKept e x :: l) w ↔ ∃ a c, St w0 (pt e (.cells [.slice a x.bs.length c, .int .i64 x.holds].toArray 81 (0, 0)) :: Own 5 1 a x.bs.length c (bytesV x.bs) :: l) w := by
  unfold IsKept
  rw [St.ex]
  exact ⟨fun ⟨q, h⟩ => ⟨q.1, q.2, h.join⟩, fun ⟨a, c, h⟩ => ⟨(a, c), St.fold [_, _] h⟩⟩

section
variable {w0 w : World} {l : List HProp} {p m : Nat} {S : Sto}

theorem blob_New (n : Int) (h : St w0 l w) : Ret Try.prog 13 [.int .i64 n] w fun v w' => ∃ p, v = .pointer (some ⟨p, 0, none⟩) ∧ St w0 (IsStore p ⟨min (max n 0) 1073741824, 0, 0, 0, []⟩ :: l) w' := by
  refine enter Try.func13 rfl Try.results13 Try.ntmps13 rfl ?_
  refine c_seq (c_region ?_)
  refine r_v (q_assignP rfl) rfl ?_
  refine r_nil (c_seq (c_region ?_))
  refine r_v (q_moveI rfl) rfl ?_; refine r_v (q_max rfl rfl) rfl ?_; refine r_v (q_min rfl rfl) rfl ?_
  refine r_c rfl (x_pmake (Value.int .i64) IsKept h fun m w h => ?_)
  refine r_v (q_build rfl) rfl ?_
  refine r_c rfl (x_box h rfl fun p w h => ?_)
  refine r_v (q_assignP rfl) rfl ?_
  refine r_nil (c_ret (bq1 ⟨p, rfl, ?_⟩))
  exact St.store.2 ⟨m, h⟩

theorem blob_Used (h : St w0 (StoPt p m S :: l) w) : Ret Try.prog 18 [.pointer (some ⟨p, 0, none⟩)] w fun v w' => v = .int .i64 (IntKind.i64.wrap (S.bytes + S.charged)) ∧ St w0 (StoPt p m S :: l) w' := by
  refine enter Try.func18 rfl Try.results18 Try.ntmps18 rfl ?_
  refine c_seq (c_region ?_)
  refine r_v (q_assignI rfl) rfl ?_
  refine r_nil (c_seq (c_any none (fun w => St w0 (StoPt p m S :: l) w) (by kernel_rfl) (by kernel_rfl) h.drew fun w h => ?_))
  refine cur_pure rfl rfl rfl rfl (fun _ => h) (fun _ => flt_v rfl (q_moveP rfl)) ?_; refine cur_pure rfl rfl rfl rfl (fun _ => h) (fun _ => flt_v rfl (q_nil rfl)) ?_; refine cur_pure rfl rfl rfl rfl (fun _ => h) (fun _ => flt_v rfl (q_fa rfl)) ?_; refine cur_float rfl rfl rfl rfl h (fun _ h => flt_v rfl (q_load rfl (h.b 0) rfl)) ?_; refine cur_pure rfl rfl rfl rfl (fun _ => h) (fun _ => flt_v rfl (q_moveP rfl)) ?_; refine cur_pure rfl rfl rfl rfl (fun _ => h) (fun _ => flt_v rfl (q_nil rfl)) ?_; refine cur_pure rfl rfl rfl rfl (fun _ => h) (fun _ => flt_v rfl (q_fa rfl)) ?_; refine cur_float rfl rfl rfl rfl h (fun _ h => flt_v rfl (q_load rfl (h.b 0) rfl)) ?_; refine cur_pure rfl rfl rfl rfl (fun _ => h) (fun _ => flt_v rfl (q_add rfl rfl)) ?_; refine cur_pure rfl rfl rfl rfl (fun _ => h) (fun _ => flt_v rfl (q_assignI rfl)) ?_
  exact cur_end (c_ret (bq1 ⟨rfl, h⟩))

theorem blob_UsedS (h : St w0 (IsStore p S :: l) w) : Ret Try.prog 18 [.pointer (some ⟨p, 0, none⟩)] w fun v w' => v = .int .i64 (IntKind.i64.wrap (S.bytes + S.charged)) ∧ St w0 (IsStore p S :: l) w' := by
  obtain ⟨m, h⟩ := St.store.1 h
  exact (blob_Used h).mono fun _ _ h => ⟨h.1, St.store.2 ⟨m, h.2⟩⟩

theorem clone_bytes {sl : Option Addr} {n c : Nat} {xs : List Value} (h : St w0 l w) (hr : ∀ w', St w0 l w' → Rd w' 1 sl n xs) (hx : ∀ u ∈ xs, u.oneCell' = true) (hn : n ≤ 140737488355328) : Ret Try.prog 36 [.slice sl n c] w fun v w' => ∃ a c', v = .slice a n c' ∧ (a = none ↔ sl = none) ∧ St w0 (Own 5 1 a n c' xs :: l) w' := by
  refine enter Try.func36 rfl Try.results36 Try.ntmps36 rfl ?_
  refine c_seq (c_region ?_)
  refine r_v (q_assignS rfl) rfl ?_
  refine r_nil (c_seq (c_seq (c_region ?_)))
  refine r_v (q_moveS rfl) rfl ?_
  refine r_v (q_seqnil rfl rfl) rfl ?_
  refine r_nil (c_cond sl.isNone rfl (fun hs => ?_) (fun hs => ?_))
  · refine c_seq (c_region ?_)
    refine r_v (q_assignS rfl) rfl ?_
    obtain rfl : sl = none := by simpa using hs
    have h2 := hr w h
    obtain ⟨h3, h4⟩ := h2
    obtain rfl : n = 0 := by rcases h4 with h | ⟨b, o, h, _⟩; exact h; cases h
    obtain rfl : xs = [] := List.eq_nil_of_length_eq_zero (by simpa using h3)
    refine r_nil (c_ret (bq1 ⟨none, 0, rfl, by simp, St.ownNil _ _ h⟩))
  · refine c_skip ?_
    refine c_seq (c_region ?_)
    refine r_c rfl (x_bslice h rfl rfl rfl fun b w h => ?_)
    refine r_v (q_moveS rfl) rfl ?_
    have h1 : St w0 (Own 5 1 (some ⟨b, 0, none⟩) 0 0 [] :: l) w := St.own_mk (cur := []) h rfl rfl (Nat.le_refl _)
    refine r_c rfl (x_append (ys := xs) h1 rfl rfl (hr w h1.drop) hx (by omega) (by omega) rfl fun a c' w hn h => ?_)
    refine r_v (q_assignS rfl) rfl ?_
    refine r_nil (c_ret (bq1 ⟨a, c', ?_, ?_, ?_⟩))
    · exact congrArg (fun n => Value.slice a n c') (Nat.zero_add n)
    · exact ⟨(fun h => by cases hn h), (fun h => by rw [h] at hs; cases hs)⟩
    · rw [Nat.zero_add] at h; exact h

/-- The ops on numbers that stay within bounds. -/
theorem wrap_id {x : Int} (h1 : -9223372036854775808 ≤ x) (h2 : x < 9223372036854775808) : IntKind.i64.wrap x = x := by
  unfold IntKind.wrap
  simp [IntKind.signed, IntKind.bits]
  omega

theorem blob_Holds (id : Int) (h : St w0 (IsStore p S :: l) w) : Ret Try.prog 16 [.pointer (some ⟨p, 0, none⟩), .int .i64 id] w fun v w' => v = .int .i64 (((mget id S.l).map (·.holds)).getD 0) ∧ St w0 (IsStore p S :: l) w' := by
  obtain ⟨m, h⟩ := St.store.1 h
  refine enter Try.func16 rfl Try.results16 Try.ntmps16 rfl ?_
  refine c_seq (c_region ?_)
  refine r_v (q_assignI rfl) rfl ?_
  refine r_nil (c_seq (c_region ?_))
  refine r_v (q_moveP rfl) rfl ?_; refine r_v (q_nil rfl) rfl ?_; refine r_v (q_fa rfl) rfl ?_; (first | refine r_v (q_load rfl (h.b 0) rfl) rfl ?_ | refine r_v (q_load rfl (h.b 1) rfl) rfl ?_ | refine r_v (q_load rfl (h.b 2) rfl) rfl ?_ | refine r_v (q_load rfl (h.b 3) rfl) rfl ?_ | refine r_v (q_load rfl (h.b 4) rfl) rfl ?_ | refine r_v (q_load rfl (h.b 5) rfl) rfl ?_); refine r_v (q_moveI rfl) rfl ?_
  cases hg : mget id S.l with
  | none =>
    refine r_v (q_plookup0 (h.f 1) rfl rfl hg) rfl ?_
    refine r_v (q_moveT rfl) rfl ?_; refine r_v (q_ext rfl rfl) rfl ?_; refine r_v (q_ext rfl rfl) rfl ?_; refine r_v (q_assignP rfl) rfl ?_; refine r_v (q_assignB rfl) rfl ?_
    refine r_nil (c_seq (c_seq (c_region ?_)))
    refine r_v (q_moveB rfl) rfl ?_; refine r_v (q_not rfl) rfl ?_
    refine r_nil (c_true rfl (c_seq (c_region ?_)))
    refine r_v (q_assignI rfl) rfl ?_
    exact r_nil (c_ret (bq1 ⟨rfl, St.store.2 ⟨m, h⟩⟩))
  | some x =>
    obtain ⟨e, h⟩ := St.popen (h.f 1) hg
    obtain ⟨a, c, h⟩ := St.kept.1 h
    refine r_v (q_plookup1 (h.f 2) rfl rfl) rfl ?_
    refine r_v (q_moveT rfl) rfl ?_; refine r_v (q_ext rfl rfl) rfl ?_; refine r_v (q_ext rfl rfl) rfl ?_; refine r_v (q_assignP rfl) rfl ?_; refine r_v (q_assignB rfl) rfl ?_
    refine r_nil (c_seq (c_seq (c_region ?_)))
    refine r_v (q_moveB rfl) rfl ?_; refine r_v (q_not rfl) rfl ?_
    refine r_nil (c_false rfl (c_skip (c_seq (c_region ?_))))
    refine r_v (q_moveP rfl) rfl ?_; refine r_v (q_nil rfl) rfl ?_; refine r_v (q_fa rfl) rfl ?_; (first | refine r_v (q_load rfl (h.b 0) rfl) rfl ?_ | refine r_v (q_load rfl (h.b 1) rfl) rfl ?_ | refine r_v (q_load rfl (h.b 2) rfl) rfl ?_ | refine r_v (q_load rfl (h.b 3) rfl) rfl ?_ | refine r_v (q_load rfl (h.b 4) rfl) rfl ?_ | refine r_v (q_load rfl (h.b 5) rfl) rfl ?_); refine r_v (q_assignI rfl) rfl ?_
    exact r_nil (c_ret (bq1 ⟨rfl, St.store.2 ⟨m, (St.psame hg (St.kept.2 ⟨a, c, h⟩)).f 1⟩⟩))

/-- What a hold does. -/
def Sto.put (S : Sto) (id : Int) (x : Kept) : Sto := { S with l := mset id x S.l }
theorem blob_Hold0 (id : Int) (h : St w0 (IsStore p S :: l) w) (hg : mget id S.l = none) : Ret Try.prog 15 [.pointer (some ⟨p, 0, none⟩), .int .i64 id] w fun v w' => v = .bool false ∧ St w0 (IsStore p S :: l) w' := by
  obtain ⟨m, h⟩ := St.store.1 h
  refine enter Try.func15 rfl Try.results15 Try.ntmps15 rfl ?_
  refine c_seq (c_region ?_)
  refine r_v (q_assignB rfl) rfl ?_
  refine r_nil (c_seq (c_region ?_))
  refine r_v (q_moveP rfl) rfl ?_; refine r_v (q_nil rfl) rfl ?_; refine r_v (q_fa rfl) rfl ?_; (first | refine r_v (q_load rfl (h.b 0) rfl) rfl ?_ | refine r_v (q_load rfl (h.b 1) rfl) rfl ?_ | refine r_v (q_load rfl (h.b 2) rfl) rfl ?_ | refine r_v (q_load rfl (h.b 3) rfl) rfl ?_ | refine r_v (q_load rfl (h.b 4) rfl) rfl ?_ | refine r_v (q_load rfl (h.b 5) rfl) rfl ?_); refine r_v (q_moveI rfl) rfl ?_
  refine r_v (q_plookup0 (h.f 1) rfl rfl hg) rfl ?_
  refine r_v (q_moveT rfl) rfl ?_; refine r_v (q_ext rfl rfl) rfl ?_; refine r_v (q_ext rfl rfl) rfl ?_; refine r_v (q_assignP rfl) rfl ?_; refine r_v (q_assignB rfl) rfl ?_
  refine r_nil (c_seq (c_seq (c_region ?_)))
  refine r_v (q_moveB rfl) rfl ?_
  refine r_nil (c_false rfl (c_skip (c_seq (c_region ?_))))
  refine r_v (q_moveB rfl) rfl ?_; refine r_v (q_assignB rfl) rfl ?_
  exact r_nil (c_ret (bq1 ⟨rfl, St.store.2 ⟨m, h⟩⟩))
theorem blob_Hold1 (id : Int) {x : Kept} (h : St w0 (IsStore p S :: l) w) (hg : mget id S.l = some x) : Ret Try.prog 15 [.pointer (some ⟨p, 0, none⟩), .int .i64 id] w fun v w' => v = .bool true ∧ St w0 (IsStore p (S.put id ⟨x.bs, IntKind.i64.wrap (x.holds + 1)⟩) :: l) w' := by
  obtain ⟨m, h⟩ := St.store.1 h
  obtain ⟨e, h⟩ := St.popen (h.f 1) hg
  obtain ⟨a, c, h⟩ := St.kept.1 h
  refine enter Try.func15 rfl Try.results15 Try.ntmps15 rfl ?_
  refine c_seq (c_region ?_)
  refine r_v (q_assignB rfl) rfl ?_
  refine r_nil (c_seq (c_region ?_))
  refine r_v (q_moveP rfl) rfl ?_; refine r_v (q_nil rfl) rfl ?_; refine r_v (q_fa rfl) rfl ?_; (first | refine r_v (q_load rfl (h.b 0) rfl) rfl ?_ | refine r_v (q_load rfl (h.b 1) rfl) rfl ?_ | refine r_v (q_load rfl (h.b 2) rfl) rfl ?_ | refine r_v (q_load rfl (h.b 3) rfl) rfl ?_ | refine r_v (q_load rfl (h.b 4) rfl) rfl ?_ | refine r_v (q_load rfl (h.b 5) rfl) rfl ?_); refine r_v (q_moveI rfl) rfl ?_
  refine r_v (q_plookup1 (h.f 2) rfl rfl) rfl ?_
  refine r_v (q_moveT rfl) rfl ?_; refine r_v (q_ext rfl rfl) rfl ?_; refine r_v (q_ext rfl rfl) rfl ?_; refine r_v (q_assignP rfl) rfl ?_; refine r_v (q_assignB rfl) rfl ?_
  refine r_nil (c_seq (c_seq (c_region ?_)))
  refine r_v (q_moveB rfl) rfl ?_
  refine r_nil (c_true rfl (c_region ?_))
  refine r_v (q_moveP rfl) rfl ?_; refine r_v (q_nil rfl) rfl ?_; refine r_v (q_fa rfl) rfl ?_; (first | refine r_v (q_load rfl (h.b 0) rfl) rfl ?_ | refine r_v (q_load rfl (h.b 1) rfl) rfl ?_ | refine r_v (q_load rfl (h.b 2) rfl) rfl ?_ | refine r_v (q_load rfl (h.b 3) rfl) rfl ?_ | refine r_v (q_load rfl (h.b 4) rfl) rfl ?_ | refine r_v (q_load rfl (h.b 5) rfl) rfl ?_); refine r_v (q_add rfl rfl) rfl ?_; refine r_v (q_nil rfl) rfl ?_; refine r_v (q_fa rfl) rfl ?_
  (first | refine r_c rfl (x_store 0 h rfl (show _ = Value.int _ _ from rfl) rfl rfl rfl rfl fun w h => ?_) | refine r_c rfl (x_store 0 h rfl (show _ = Value.bool _ from rfl) rfl rfl rfl rfl fun w h => ?_) | refine r_c rfl (x_store 0 h rfl (show _ = Value.slice _ _ _ from rfl) rfl rfl rfl rfl fun w h => ?_) | refine r_c rfl (x_store 0 h rfl (show _ = Value.pointer _ from rfl) rfl rfl rfl rfl fun w h => ?_) | refine r_c rfl (x_store 0 h rfl (show _ = Value.map _ from rfl) rfl rfl rfl rfl fun w h => ?_) | refine r_c rfl (x_store 0 h rfl (show _ = Value.string _ from rfl) rfl rfl rfl rfl fun w h => ?_) | refine r_c rfl (x_store 0 h rfl (rfl) rfl rfl rfl rfl fun w h => ?_) | refine r_c rfl (x_storeA 0 h rfl rfl rfl rfl rfl rfl fun w h => ?_)); simp only [List.set_cons_zero, List.set_cons_succ, Nat.reduceAdd, Nat.zero_add, List.take_succ_cons, List.take_zero, List.drop_succ_cons, List.drop_zero, List.cons_append, List.nil_append, List.append_nil, List.length_cons, List.length_nil] at h
  refine r_nil (c_seq (c_region ?_))
  refine r_v (q_moveB rfl) rfl ?_; refine r_v (q_assignB rfl) rfl ?_
  refine r_nil (c_ret (bq1 ⟨rfl, St.store.2 ⟨m, ?_⟩⟩))
  exact (St.pclose (x := ⟨x.bs, IntKind.i64.wrap (x.holds + 1)⟩) (St.kept.2 ⟨a, c, h⟩)).f 1
theorem blob_Get0 (id : Int) (h : St w0 (IsStore p S :: l) w) (hg : mget id S.l = none) : Ret Try.prog 17 [.pointer (some ⟨p, 0, none⟩), .int .i64 id] w fun v w' => v = .tuple [.slice none 0 0, .bool false].toArray ∧ St w0 (IsStore p S :: l) w' := by
  obtain ⟨m, h⟩ := St.store.1 h
  refine enter Try.func17 rfl Try.results17 Try.ntmps17 rfl ?_
  refine c_seq (c_region ?_)
  refine r_v (q_assignS rfl) rfl ?_; refine r_v (q_assignB rfl) rfl ?_
  refine r_nil (c_seq (c_region ?_))
  refine r_v (q_moveP rfl) rfl ?_; refine r_v (q_nil rfl) rfl ?_; refine r_v (q_fa rfl) rfl ?_; (first | refine r_v (q_load rfl (h.b 0) rfl) rfl ?_ | refine r_v (q_load rfl (h.b 1) rfl) rfl ?_ | refine r_v (q_load rfl (h.b 2) rfl) rfl ?_ | refine r_v (q_load rfl (h.b 3) rfl) rfl ?_ | refine r_v (q_load rfl (h.b 4) rfl) rfl ?_ | refine r_v (q_load rfl (h.b 5) rfl) rfl ?_); refine r_v (q_moveI rfl) rfl ?_
  refine r_v (q_plookup0 (h.f 1) rfl rfl hg) rfl ?_
  refine r_v (q_moveT rfl) rfl ?_; refine r_v (q_ext rfl rfl) rfl ?_; refine r_v (q_ext rfl rfl) rfl ?_; refine r_v (q_assignP rfl) rfl ?_; refine r_v (q_assignB rfl) rfl ?_
  refine r_nil (c_seq (c_seq (c_region ?_)))
  refine r_v (q_moveB rfl) rfl ?_; refine r_v (q_not rfl) rfl ?_
  refine r_nil (c_true rfl (c_seq (c_region ?_)))
  refine r_v (q_assignS rfl) rfl ?_; refine r_v (q_assignB rfl) rfl ?_
  exact r_nil (c_ret (bq2 ⟨rfl, St.store.2 ⟨m, h⟩⟩))
theorem blob_Get1 (id : Int) {x : Kept} (h : St w0 (IsStore p S :: l) w) (hg : mget id S.l = some x) (hn : x.bs.length ≤ 140737488355328) : Ret Try.prog 17 [.pointer (some ⟨p, 0, none⟩), .int .i64 id] w fun v w' =>
    ∃ a c, v = .tuple [.slice a x.bs.length c, .bool true].toArray ∧ St w0 (Own 5 1 a x.bs.length c (bytesV x.bs) :: IsStore p S :: l) w' := by
  obtain ⟨m, h⟩ := St.store.1 h
  obtain ⟨e, h⟩ := St.popen (h.f 1) hg
  obtain ⟨a, c, h⟩ := St.kept.1 h
  refine enter Try.func17 rfl Try.results17 Try.ntmps17 rfl ?_
  refine c_seq (c_region ?_)
  refine r_v (q_assignS rfl) rfl ?_; refine r_v (q_assignB rfl) rfl ?_
  refine r_nil (c_seq (c_region ?_))
  refine r_v (q_moveP rfl) rfl ?_; refine r_v (q_nil rfl) rfl ?_; refine r_v (q_fa rfl) rfl ?_; (first | refine r_v (q_load rfl (h.b 0) rfl) rfl ?_ | refine r_v (q_load rfl (h.b 1) rfl) rfl ?_ | refine r_v (q_load rfl (h.b 2) rfl) rfl ?_ | refine r_v (q_load rfl (h.b 3) rfl) rfl ?_ | refine r_v (q_load rfl (h.b 4) rfl) rfl ?_ | refine r_v (q_load rfl (h.b 5) rfl) rfl ?_); refine r_v (q_moveI rfl) rfl ?_
  refine r_v (q_plookup1 (h.f 2) rfl rfl) rfl ?_
  refine r_v (q_moveT rfl) rfl ?_; refine r_v (q_ext rfl rfl) rfl ?_; refine r_v (q_ext rfl rfl) rfl ?_; refine r_v (q_assignP rfl) rfl ?_; refine r_v (q_assignB rfl) rfl ?_
  refine r_nil (c_seq (c_seq (c_region ?_)))
  refine r_v (q_moveB rfl) rfl ?_; refine r_v (q_not rfl) rfl ?_
  refine r_nil (c_false rfl (c_skip (c_seq (c_region ?_))))
  refine r_v (q_moveP rfl) rfl ?_; refine r_v (q_nil rfl) rfl ?_; refine r_v (q_fa rfl) rfl ?_; (first | refine r_v (q_load rfl (h.b 0) rfl) rfl ?_ | refine r_v (q_load rfl (h.b 1) rfl) rfl ?_ | refine r_v (q_load rfl (h.b 2) rfl) rfl ?_ | refine r_v (q_load rfl (h.b 3) rfl) rfl ?_ | refine r_v (q_load rfl (h.b 4) rfl) rfl ?_ | refine r_v (q_load rfl (h.b 5) rfl) rfl ?_)
  refine r_c rfl (x_call rfl (clone_bytes h (fun w' h' => (h'.f 1).own_rd) (bytesV_one _) hn) ?_)
  rintro _ w ⟨a', c', rfl, _, h⟩
  refine r_v (q_assignS rfl) rfl ?_; refine r_v (q_assignB rfl) rfl ?_
  refine r_nil (c_ret (bq2 ⟨a', c', rfl, ?_⟩))
  exact (St.store.2 ⟨m, (St.psame hg (((St.kept.2 ⟨a, c, ((h.f 1).f 2).f 1⟩).f 2).f 1)).f 2⟩).f 1
/-- What a leave does. -/
def Sto.left (S : Sto) (id : Int) (x : Kept) : Sto :=
  if IntKind.i64.wrap (x.holds - 1) = 0 then { S with bytes := IntKind.i64.wrap (S.bytes - x.bs.length), l := mdel id S.l } else S.put id ⟨x.bs, IntKind.i64.wrap (x.holds - 1)⟩
theorem blob_Leave0 (id : Int) (h : St w0 (IsStore p S :: l) w) (hg : mget id S.l = none) : Ret Try.prog 19 [.pointer (some ⟨p, 0, none⟩), .int .i64 id] w fun v w' => v = .bool false ∧ St w0 (IsStore p S :: l) w' := by
  obtain ⟨m, h⟩ := St.store.1 h
  refine enter Try.func19 rfl Try.results19 Try.ntmps19 rfl ?_
  refine c_seq (c_region ?_)
  refine r_v (q_assignB rfl) rfl ?_
  refine r_nil (c_seq (c_region ?_))
  refine r_v (q_moveP rfl) rfl ?_; refine r_v (q_nil rfl) rfl ?_; refine r_v (q_fa rfl) rfl ?_; (first | refine r_v (q_load rfl (h.b 0) rfl) rfl ?_ | refine r_v (q_load rfl (h.b 1) rfl) rfl ?_ | refine r_v (q_load rfl (h.b 2) rfl) rfl ?_ | refine r_v (q_load rfl (h.b 3) rfl) rfl ?_ | refine r_v (q_load rfl (h.b 4) rfl) rfl ?_ | refine r_v (q_load rfl (h.b 5) rfl) rfl ?_); refine r_v (q_moveI rfl) rfl ?_
  refine r_v (q_plookup0 (h.f 1) rfl rfl hg) rfl ?_
  refine r_v (q_moveT rfl) rfl ?_; refine r_v (q_ext rfl rfl) rfl ?_; refine r_v (q_ext rfl rfl) rfl ?_; refine r_v (q_assignP rfl) rfl ?_; refine r_v (q_assignB rfl) rfl ?_
  refine r_nil (c_seq (c_seq (c_region ?_)))
  refine r_v (q_moveB rfl) rfl ?_; refine r_v (q_not rfl) rfl ?_
  refine r_nil (c_true rfl (c_seq (c_region ?_)))
  refine r_v (q_assignB rfl) rfl ?_
  exact r_nil (c_ret (bq1 ⟨rfl, St.store.2 ⟨m, h⟩⟩))
theorem blob_Leave1 (id : Int) {x : Kept} (h : St w0 (IsStore p S :: l) w) (hg : mget id S.l = some x) : Ret Try.prog 19 [.pointer (some ⟨p, 0, none⟩), .int .i64 id] w fun v w' =>
    v = .bool true ∧ St w0 (IsStore p (S.left id x) :: l) w' := by
  obtain ⟨m, h⟩ := St.store.1 h
  obtain ⟨e, h⟩ := St.popen (h.f 1) hg
  obtain ⟨a, c, h⟩ := St.kept.1 h
  refine enter Try.func19 rfl Try.results19 Try.ntmps19 rfl ?_
  refine c_seq (c_region ?_)
  refine r_v (q_assignB rfl) rfl ?_
  refine r_nil (c_seq (c_region ?_))
  refine r_v (q_moveP rfl) rfl ?_; refine r_v (q_nil rfl) rfl ?_; refine r_v (q_fa rfl) rfl ?_; (first | refine r_v (q_load rfl (h.b 0) rfl) rfl ?_ | refine r_v (q_load rfl (h.b 1) rfl) rfl ?_ | refine r_v (q_load rfl (h.b 2) rfl) rfl ?_ | refine r_v (q_load rfl (h.b 3) rfl) rfl ?_ | refine r_v (q_load rfl (h.b 4) rfl) rfl ?_ | refine r_v (q_load rfl (h.b 5) rfl) rfl ?_); refine r_v (q_moveI rfl) rfl ?_
  refine r_v (q_plookup1 (h.f 2) rfl rfl) rfl ?_
  refine r_v (q_moveT rfl) rfl ?_; refine r_v (q_ext rfl rfl) rfl ?_; refine r_v (q_ext rfl rfl) rfl ?_; refine r_v (q_assignP rfl) rfl ?_; refine r_v (q_assignB rfl) rfl ?_
  refine r_nil (c_seq (c_seq (c_region ?_)))
  refine r_v (q_moveB rfl) rfl ?_; refine r_v (q_not rfl) rfl ?_
  refine r_nil (c_false rfl (c_skip (c_seq (c_region ?_))))
  refine r_v (q_moveP rfl) rfl ?_; refine r_v (q_nil rfl) rfl ?_; refine r_v (q_fa rfl) rfl ?_; (first | refine r_v (q_load rfl (h.b 0) rfl) rfl ?_ | refine r_v (q_load rfl (h.b 1) rfl) rfl ?_ | refine r_v (q_load rfl (h.b 2) rfl) rfl ?_ | refine r_v (q_load rfl (h.b 3) rfl) rfl ?_ | refine r_v (q_load rfl (h.b 4) rfl) rfl ?_ | refine r_v (q_load rfl (h.b 5) rfl) rfl ?_); refine r_v (q_sub rfl rfl) rfl ?_; refine r_v (q_nil rfl) rfl ?_; refine r_v (q_fa rfl) rfl ?_
  (first | refine r_c rfl (x_store 0 h rfl (show _ = Value.int _ _ from rfl) rfl rfl rfl rfl fun w h => ?_) | refine r_c rfl (x_store 0 h rfl (show _ = Value.bool _ from rfl) rfl rfl rfl rfl fun w h => ?_) | refine r_c rfl (x_store 0 h rfl (show _ = Value.slice _ _ _ from rfl) rfl rfl rfl rfl fun w h => ?_) | refine r_c rfl (x_store 0 h rfl (show _ = Value.pointer _ from rfl) rfl rfl rfl rfl fun w h => ?_) | refine r_c rfl (x_store 0 h rfl (show _ = Value.map _ from rfl) rfl rfl rfl rfl fun w h => ?_) | refine r_c rfl (x_store 0 h rfl (show _ = Value.string _ from rfl) rfl rfl rfl rfl fun w h => ?_) | refine r_c rfl (x_store 0 h rfl (rfl) rfl rfl rfl rfl fun w h => ?_) | refine r_c rfl (x_storeA 0 h rfl rfl rfl rfl rfl rfl fun w h => ?_)); simp only [List.set_cons_zero, List.set_cons_succ, Nat.reduceAdd, Nat.zero_add, List.take_succ_cons, List.take_zero, List.drop_succ_cons, List.drop_zero, List.cons_append, List.nil_append, List.append_nil, List.length_cons, List.length_nil] at h
  refine r_nil (c_seq (c_seq (c_region ?_)))
  refine r_v (q_moveP rfl) rfl ?_; refine r_v (q_nil rfl) rfl ?_; refine r_v (q_fa rfl) rfl ?_; (first | refine r_v (q_load rfl (h.b 0) rfl) rfl ?_ | refine r_v (q_load rfl (h.b 1) rfl) rfl ?_ | refine r_v (q_load rfl (h.b 2) rfl) rfl ?_ | refine r_v (q_load rfl (h.b 3) rfl) rfl ?_ | refine r_v (q_load rfl (h.b 4) rfl) rfl ?_ | refine r_v (q_load rfl (h.b 5) rfl) rfl ?_); refine r_v (q_eql rfl rfl) rfl ?_
  refine r_nil (c_cond (IntKind.i64.wrap (x.holds - 1) == 0) rfl (fun hz => ?_) (fun hz => ?_))
  · have hz' : IntKind.i64.wrap (x.holds - 1) = 0 := by simpa using hz
    refine c_seq (c_any (some 12) (fun w => St w0 _ w) (by kernel_rfl) (by kernel_rfl) h.drew fun w h => ?_)
    refine cur_pure rfl rfl rfl rfl (fun _ => h) (fun _ => flt_v rfl (q_moveP rfl)) ?_; refine cur_pure rfl rfl rfl rfl (fun _ => h) (fun _ => flt_v rfl (q_nil rfl)) ?_; refine cur_pure rfl rfl rfl rfl (fun _ => h) (fun _ => flt_v rfl (q_fa rfl)) ?_; (first | refine cur_float rfl rfl rfl rfl h (fun _ h => flt_v rfl (q_load rfl (h.b 0) rfl)) ?_ | refine cur_float rfl rfl rfl rfl h (fun _ h => flt_v rfl (q_load rfl (h.b 1) rfl)) ?_ | refine cur_float rfl rfl rfl rfl h (fun _ h => flt_v rfl (q_load rfl (h.b 2) rfl)) ?_ | refine cur_float rfl rfl rfl rfl h (fun _ h => flt_v rfl (q_load rfl (h.b 3) rfl)) ?_ | refine cur_float rfl rfl rfl rfl h (fun _ h => flt_v rfl (q_load rfl (h.b 4) rfl)) ?_ | refine cur_float rfl rfl rfl rfl h (fun _ h => flt_v rfl (q_load rfl (h.b 5) rfl)) ?_); refine cur_pure rfl rfl rfl rfl (fun _ => h) (fun _ => flt_v rfl (q_moveP rfl)) ?_; refine cur_pure rfl rfl rfl rfl (fun _ => h) (fun _ => flt_v rfl (q_nil rfl)) ?_; refine cur_pure rfl rfl rfl rfl (fun _ => h) (fun _ => flt_v rfl (q_fa rfl)) ?_; (first | refine cur_float rfl rfl rfl rfl h (fun _ h => flt_v rfl (q_load rfl (h.b 0) rfl)) ?_ | refine cur_float rfl rfl rfl rfl h (fun _ h => flt_v rfl (q_load rfl (h.b 1) rfl)) ?_ | refine cur_float rfl rfl rfl rfl h (fun _ h => flt_v rfl (q_load rfl (h.b 2) rfl)) ?_ | refine cur_float rfl rfl rfl rfl h (fun _ h => flt_v rfl (q_load rfl (h.b 3) rfl)) ?_ | refine cur_float rfl rfl rfl rfl h (fun _ h => flt_v rfl (q_load rfl (h.b 4) rfl)) ?_ | refine cur_float rfl rfl rfl rfl h (fun _ h => flt_v rfl (q_load rfl (h.b 5) rfl)) ?_); refine cur_pure rfl rfl rfl rfl (fun _ => h) (fun _ => flt_v rfl (q_len rfl)) ?_; refine cur_pure rfl rfl rfl rfl (fun _ => h) (fun _ => flt_v rfl (q_sub rfl rfl)) ?_; refine cur_pure rfl rfl rfl rfl (fun _ => h) (fun _ => flt_v rfl (q_nil rfl)) ?_; refine cur_pure rfl rfl rfl rfl (fun _ => h) (fun _ => flt_v rfl (q_fa rfl)) ?_; refine cur_skip ?_
    refine cur_last 12 rfl rfl rfl ?_
    refine x_store 3 h rfl (show _ = Value.int _ _ from rfl) rfl rfl rfl rfl fun w h => ?_
    simp only [List.set_cons_zero, List.set_cons_succ] at h
    refine c_region ?_
    refine r_v (q_moveP rfl) rfl ?_; refine r_v (q_nil rfl) rfl ?_; refine r_v (q_fa rfl) rfl ?_; (first | refine r_v (q_load rfl (h.b 0) rfl) rfl ?_ | refine r_v (q_load rfl (h.b 1) rfl) rfl ?_ | refine r_v (q_load rfl (h.b 2) rfl) rfl ?_ | refine r_v (q_load rfl (h.b 3) rfl) rfl ?_ | refine r_v (q_load rfl (h.b 4) rfl) rfl ?_ | refine r_v (q_load rfl (h.b 5) rfl) rfl ?_); refine r_v (q_moveI rfl) rfl ?_
    refine r_c rfl (x_pdel (h.f 2) rfl rfl fun w h => ?_)
    refine r_nil (c_seq (c_region ?_))
    refine r_v (q_assignB rfl) rfl ?_
    refine r_nil (c_ret (bq1 ⟨rfl, ?_⟩))
    rw [Sto.left, if_pos hz']
    exact St.store.2 ⟨m, (((h.f 1).drop.f 1).drop).f 1⟩
  · have hz' : ¬ IntKind.i64.wrap (x.holds - 1) = 0 := by simpa using hz
    refine c_skip (c_seq (c_region ?_))
    refine r_v (q_assignB rfl) rfl ?_
    refine r_nil (c_ret (bq1 ⟨rfl, ?_⟩))
    rw [Sto.left, if_neg hz']
    exact St.store.2 ⟨m, (St.pclose (x := ⟨x.bs, IntKind.i64.wrap (x.holds - 1)⟩) (St.kept.2 ⟨a, c, h⟩)).f 1⟩

theorem blob_Add {sl : Option Addr} {n c : Nat} {bs : List UInt8} (h : St w0 (IsStore p S :: l) w) (hr : ∀ w', St w0 l w' → Rd w' 1 sl n (bytesV bs)) (hn : n ≤ 140737488355328) (hfree : mget (IntKind.i64.wrap (S.last + 1)) S.l = none) :
    Ret Try.prog 14 [.pointer (some ⟨p, 0, none⟩), .slice sl n c] w fun v w' =>
    if IntKind.i64.wrap (S.budget - IntKind.i64.wrap (S.bytes + S.charged)) < n then v = .tuple [.int .i64 0, .bool false].toArray ∧ St w0 (IsStore p S :: l) w'
    else v = .tuple [.int .i64 (IntKind.i64.wrap (S.last + 1)), .bool true].toArray ∧
      St w0 (IsStore p ⟨S.budget, IntKind.i64.wrap (S.last + 1), IntKind.i64.wrap (S.bytes + n), S.charged, mset (IntKind.i64.wrap (S.last + 1)) ⟨bs, 1⟩ S.l⟩ :: l) w' := by
  obtain ⟨m, h⟩ := St.store.1 h
  have hbs : bs.length = n := by
    have := (hr w (h.drop.drop)).1
    rw [bytesV_len] at this; omega
  refine enter Try.func14 rfl Try.results14 Try.ntmps14 rfl ?_
  refine c_seq (c_region ?_)
  refine r_v (q_assignI rfl) rfl ?_; refine r_v (q_assignB rfl) rfl ?_
  refine r_nil ?_
  refine c_seq (c_seq (c_any none (fun w => St w0 (StoPt p m S :: PMap (Value.int .i64) m IsKept S.l :: l) w) (by kernel_rfl) (by kernel_rfl) h.drew fun w h => ?_))
  refine cur_pure rfl rfl rfl rfl (fun _ => h) (fun _ => flt_v rfl (q_moveS rfl)) ?_; refine cur_pure rfl rfl rfl rfl (fun _ => h) (fun _ => flt_v rfl (q_len rfl)) ?_; refine cur_pure rfl rfl rfl rfl (fun _ => h) (fun _ => flt_v rfl (q_moveP rfl)) ?_; refine cur_pure rfl rfl rfl rfl (fun _ => h) (fun _ => flt_v rfl (q_nil rfl)) ?_; refine cur_pure rfl rfl rfl rfl (fun _ => h) (fun _ => flt_v rfl (q_fa rfl)) ?_; (first | refine cur_float rfl rfl rfl rfl h (fun _ h => flt_v rfl (q_load rfl (h.b 0) rfl)) ?_ | refine cur_float rfl rfl rfl rfl h (fun _ h => flt_v rfl (q_load rfl (h.b 1) rfl)) ?_ | refine cur_float rfl rfl rfl rfl h (fun _ h => flt_v rfl (q_load rfl (h.b 2) rfl)) ?_ | refine cur_float rfl rfl rfl rfl h (fun _ h => flt_v rfl (q_load rfl (h.b 3) rfl)) ?_ | refine cur_float rfl rfl rfl rfl h (fun _ h => flt_v rfl (q_load rfl (h.b 4) rfl)) ?_ | refine cur_float rfl rfl rfl rfl h (fun _ h => flt_v rfl (q_load rfl (h.b 5) rfl)) ?_); refine cur_pure rfl rfl rfl rfl (fun _ => h) (fun _ => flt_v rfl (q_moveP rfl)) ?_; refine cur_skip ?_; refine cur_skip ?_; refine cur_skip ?_
  refine cur_one 7 rfl rfl rfl rfl ?_
  refine x_call rfl (blob_Used h) ?_
  rintro _ w ⟨rfl, h⟩
  refine ⟨fun _ => h, ?_⟩
  refine cur_pure rfl rfl rfl rfl (fun _ => h) (fun _ => flt_v rfl (q_sub rfl rfl)) ?_; refine cur_pure rfl rfl rfl rfl (fun _ => h) (fun _ => flt_v rfl (q_gtr rfl rfl)) ?_
  refine cur_end ?_
  refine c_cond _ rfl (fun hc => ?_) (fun hc => ?_)
  · have hc' : IntKind.i64.wrap (S.budget - IntKind.i64.wrap (S.bytes + S.charged)) < n := by simpa using hc
    refine c_seq (c_region ?_)
    refine r_v (q_assignI rfl) rfl ?_; refine r_v (q_assignB rfl) rfl ?_
    refine r_nil ?_
    refine c_ret (bq2 ?_)
    rw [if_pos hc']
    exact ⟨rfl, St.store.2 ⟨m, h⟩⟩
  have hc' : ¬ IntKind.i64.wrap (S.budget - IntKind.i64.wrap (S.bytes + S.charged)) < n := by simpa using hc
  refine c_skip ?_
  refine c_seq (c_region ?_)
  refine r_v (q_moveP rfl) rfl ?_; refine r_v (q_nil rfl) rfl ?_; refine r_v (q_fa rfl) rfl ?_; (first | refine r_v (q_load rfl (h.b 0) rfl) rfl ?_ | refine r_v (q_load rfl (h.b 1) rfl) rfl ?_ | refine r_v (q_load rfl (h.b 2) rfl) rfl ?_ | refine r_v (q_load rfl (h.b 3) rfl) rfl ?_ | refine r_v (q_load rfl (h.b 4) rfl) rfl ?_ | refine r_v (q_load rfl (h.b 5) rfl) rfl ?_); refine r_v (q_add rfl rfl) rfl ?_; refine r_v (q_nil rfl) rfl ?_; refine r_v (q_fa rfl) rfl ?_
  (first | refine r_c rfl (x_store 0 h rfl (show _ = Value.int _ _ from rfl) rfl rfl rfl rfl fun w h => ?_) | refine r_c rfl (x_store 0 h rfl (show _ = Value.bool _ from rfl) rfl rfl rfl rfl fun w h => ?_) | refine r_c rfl (x_store 0 h rfl (show _ = Value.slice _ _ _ from rfl) rfl rfl rfl rfl fun w h => ?_) | refine r_c rfl (x_store 0 h rfl (show _ = Value.pointer _ from rfl) rfl rfl rfl rfl fun w h => ?_) | refine r_c rfl (x_store 0 h rfl (show _ = Value.map _ from rfl) rfl rfl rfl rfl fun w h => ?_) | refine r_c rfl (x_store 0 h rfl (show _ = Value.string _ from rfl) rfl rfl rfl rfl fun w h => ?_) | refine r_c rfl (x_store 0 h rfl (rfl) rfl rfl rfl rfl fun w h => ?_) | refine r_c rfl (x_storeA 0 h rfl rfl rfl rfl rfl rfl fun w h => ?_)); simp only [List.set_cons_zero, List.set_cons_succ, Nat.reduceAdd, Nat.zero_add, List.take_succ_cons, List.take_zero, List.drop_succ_cons, List.drop_zero, List.cons_append, List.nil_append, List.append_nil, List.length_cons, List.length_nil] at h
  refine r_nil ?_
  refine c_seq (c_any (some 12) (fun w => St w0 _ w) (by kernel_rfl) (by kernel_rfl) h.drew fun w h => ?_)
  refine cur_pure rfl rfl rfl rfl (fun _ => h) (fun _ => flt_v rfl (q_moveP rfl)) ?_; refine cur_pure rfl rfl rfl rfl (fun _ => h) (fun _ => flt_v rfl (q_nil rfl)) ?_; refine cur_pure rfl rfl rfl rfl (fun _ => h) (fun _ => flt_v rfl (q_fa rfl)) ?_; (first | refine cur_float rfl rfl rfl rfl h (fun _ h => flt_v rfl (q_load rfl (h.b 0) rfl)) ?_ | refine cur_float rfl rfl rfl rfl h (fun _ h => flt_v rfl (q_load rfl (h.b 1) rfl)) ?_ | refine cur_float rfl rfl rfl rfl h (fun _ h => flt_v rfl (q_load rfl (h.b 2) rfl)) ?_ | refine cur_float rfl rfl rfl rfl h (fun _ h => flt_v rfl (q_load rfl (h.b 3) rfl)) ?_ | refine cur_float rfl rfl rfl rfl h (fun _ h => flt_v rfl (q_load rfl (h.b 4) rfl)) ?_ | refine cur_float rfl rfl rfl rfl h (fun _ h => flt_v rfl (q_load rfl (h.b 5) rfl)) ?_); refine cur_pure rfl rfl rfl rfl (fun _ => h) (fun _ => flt_v rfl (q_moveP rfl)) ?_; refine cur_pure rfl rfl rfl rfl (fun _ => h) (fun _ => flt_v rfl (q_nil rfl)) ?_; refine cur_pure rfl rfl rfl rfl (fun _ => h) (fun _ => flt_v rfl (q_fa rfl)) ?_; (first | refine cur_float rfl rfl rfl rfl h (fun _ h => flt_v rfl (q_load rfl (h.b 0) rfl)) ?_ | refine cur_float rfl rfl rfl rfl h (fun _ h => flt_v rfl (q_load rfl (h.b 1) rfl)) ?_ | refine cur_float rfl rfl rfl rfl h (fun _ h => flt_v rfl (q_load rfl (h.b 2) rfl)) ?_ | refine cur_float rfl rfl rfl rfl h (fun _ h => flt_v rfl (q_load rfl (h.b 3) rfl)) ?_ | refine cur_float rfl rfl rfl rfl h (fun _ h => flt_v rfl (q_load rfl (h.b 4) rfl)) ?_ | refine cur_float rfl rfl rfl rfl h (fun _ h => flt_v rfl (q_load rfl (h.b 5) rfl)) ?_); refine cur_pure rfl rfl rfl rfl (fun _ => h) (fun _ => flt_v rfl (q_moveS rfl)) ?_; refine cur_skip ?_; refine cur_skip ?_; refine cur_skip ?_; refine cur_skip ?_
  refine cur_one 9 rfl rfl rfl rfl ?_
  refine x_call rfl (clone_bytes h (fun w' h' => hr w' (h'.drop.drop)) (bytesV_one _) hn) ?_
  rintro _ w ⟨a, c', rfl, _, h⟩
  refine ⟨fun _ => h.drop, ?_⟩
  have h0 := h
  replace h := h0.drop
  refine cur_pure rfl rfl rfl rfl (fun _ => h) (fun _ => flt_v rfl (q_build rfl)) ?_; refine cur_skip ?_; refine cur_skip ?_
  refine cur_one 11 rfl rfl rfl rfl ?_
  refine x_box h0 (show _ = Value.agg [.slice a n c', .int .i64 1].toArray from rfl) fun e w h0 => ⟨fun _ => h0.drop.drop, ?_⟩
  have h := h0.drop.drop
  refine cur_skip ?_
  refine cur_last 12 rfl rfl rfl ?_
  have h1 := (St.kept (x := ⟨bs, 1⟩)).2 ⟨a, c', by rw [hbs]; exact h0⟩
  refine x_pset ((h1.f 2).f 1) hfree rfl rfl rfl fun w h => ?_
  replace h := h.f 1
  refine c_seq (c_region ?_)
  refine r_v (q_moveP rfl) rfl ?_; refine r_v (q_nil rfl) rfl ?_; refine r_v (q_fa rfl) rfl ?_; (first | refine r_v (q_load rfl (h.b 0) rfl) rfl ?_ | refine r_v (q_load rfl (h.b 1) rfl) rfl ?_ | refine r_v (q_load rfl (h.b 2) rfl) rfl ?_ | refine r_v (q_load rfl (h.b 3) rfl) rfl ?_ | refine r_v (q_load rfl (h.b 4) rfl) rfl ?_ | refine r_v (q_load rfl (h.b 5) rfl) rfl ?_); refine r_v (q_moveS rfl) rfl ?_; refine r_v (q_len rfl) rfl ?_; refine r_v (q_add rfl rfl) rfl ?_; refine r_v (q_nil rfl) rfl ?_; refine r_v (q_fa rfl) rfl ?_
  (first | refine r_c rfl (x_store 0 h rfl (show _ = Value.int _ _ from rfl) rfl rfl rfl rfl fun w h => ?_) | refine r_c rfl (x_store 0 h rfl (show _ = Value.bool _ from rfl) rfl rfl rfl rfl fun w h => ?_) | refine r_c rfl (x_store 0 h rfl (show _ = Value.slice _ _ _ from rfl) rfl rfl rfl rfl fun w h => ?_) | refine r_c rfl (x_store 0 h rfl (show _ = Value.pointer _ from rfl) rfl rfl rfl rfl fun w h => ?_) | refine r_c rfl (x_store 0 h rfl (show _ = Value.map _ from rfl) rfl rfl rfl rfl fun w h => ?_) | refine r_c rfl (x_store 0 h rfl (show _ = Value.string _ from rfl) rfl rfl rfl rfl fun w h => ?_) | refine r_c rfl (x_store 0 h rfl (rfl) rfl rfl rfl rfl fun w h => ?_) | refine r_c rfl (x_storeA 0 h rfl rfl rfl rfl rfl rfl fun w h => ?_)); simp only [List.set_cons_zero, List.set_cons_succ, Nat.reduceAdd, Nat.zero_add, List.take_succ_cons, List.take_zero, List.drop_succ_cons, List.drop_zero, List.cons_append, List.nil_append, List.append_nil, List.length_cons, List.length_nil] at h
  refine r_nil ?_
  refine c_seq (c_region ?_)
  refine r_v (q_moveP rfl) rfl ?_; refine r_v (q_nil rfl) rfl ?_; refine r_v (q_fa rfl) rfl ?_; (first | refine r_v (q_load rfl (h.b 0) rfl) rfl ?_ | refine r_v (q_load rfl (h.b 1) rfl) rfl ?_ | refine r_v (q_load rfl (h.b 2) rfl) rfl ?_ | refine r_v (q_load rfl (h.b 3) rfl) rfl ?_ | refine r_v (q_load rfl (h.b 4) rfl) rfl ?_ | refine r_v (q_load rfl (h.b 5) rfl) rfl ?_); refine r_v (q_assignI rfl) rfl ?_; refine r_v (q_assignB rfl) rfl ?_
  refine r_nil ?_
  refine c_ret (bq2 ?_)
  rw [if_neg hc']
  exact ⟨rfl, St.store.2 ⟨m, h⟩⟩

/-- A charge. -/
def Sto.charge (S : Sto) (n : Int) : Sto :=
  let k := if n < IntKind.i64.wrap (0 - S.charged) then IntKind.i64.wrap (0 - S.charged) else n
  { S with charged := IntKind.i64.wrap (S.charged + k) }
theorem blob_Charge (n : Int) (h : St w0 (IsStore p S :: l) w) : Ret Try.prog 20 [.pointer (some ⟨p, 0, none⟩), .int .i64 n] w fun v w' =>
    if n > 0 ∧ n > IntKind.i64.wrap (S.budget - IntKind.i64.wrap (S.bytes + S.charged)) then v = .bool false ∧ St w0 (IsStore p S :: l) w'
    else v = .bool true ∧ St w0 (IsStore p (S.charge n) :: l) w' := by
  obtain ⟨m, h⟩ := St.store.1 h
  refine enter Try.func20 rfl Try.results20 Try.ntmps20 rfl ?_
  refine c_seq (c_region ?_)
  refine r_v (q_assignB rfl) rfl ?_
  refine r_nil ?_
  refine c_cut (Γ := Unit) (fun _ => [(0, .pointer (some ⟨p, 0, none⟩)), (1, .int .i64 n)]) (fun _ w => ¬ (n > 0 ∧ n > IntKind.i64.wrap (S.budget - IntKind.i64.wrap (S.bytes + S.charged))) ∧ St w0 (StoPt p m S :: PMap (Value.int .i64) m IsKept S.l :: l) w) ?_ ?_
  · refine c_seq (c_any none (fun w => St w0 (StoPt p m S :: PMap (Value.int .i64) m IsKept S.l :: l) w) (by kernel_rfl) (by kernel_rfl) h.drew fun w h => ?_)
    by_cases hn : n > 0
    · have hn1 : decide (n > 0) = true := by simpa using hn
      refine cur_pure rfl rfl rfl rfl (fun _ => h) (fun _ => flt_v rfl (q_moveI rfl)) ?_; refine cur_pure rfl rfl rfl rfl (fun _ => h) (fun _ => flt_v rfl (q_gtr rfl rfl)) ?_; refine cur_pure rfl rfl rfl rfl (fun _ => h) (fun _ => flt_v rfl (q_moveB rfl)) ?_; (first | refine cur_pure rfl rfl rfl rfl (fun _ => h) (fun _ => flt_g rfl rfl (q_moveI rfl)) ?_ | refine cur_pure rfl rfl rfl rfl (fun _ => h) (fun _ => flt_g rfl (by assumption) (q_moveI rfl)) ?_ | refine cur_pure rfl rfl rfl rfl (fun _ => h) (fun _ => flt_n rfl rfl) ?_ | refine cur_pure rfl rfl rfl rfl (fun _ => h) (fun _ => flt_n rfl (by assumption)) ?_); (first | refine cur_pure rfl rfl rfl rfl (fun _ => h) (fun _ => flt_g rfl rfl (q_moveP rfl)) ?_ | refine cur_pure rfl rfl rfl rfl (fun _ => h) (fun _ => flt_g rfl (by assumption) (q_moveP rfl)) ?_ | refine cur_pure rfl rfl rfl rfl (fun _ => h) (fun _ => flt_n rfl rfl) ?_ | refine cur_pure rfl rfl rfl rfl (fun _ => h) (fun _ => flt_n rfl (by assumption)) ?_); (first | refine cur_pure rfl rfl rfl rfl (fun _ => h) (fun _ => flt_g rfl rfl (q_nil rfl)) ?_ | refine cur_pure rfl rfl rfl rfl (fun _ => h) (fun _ => flt_g rfl (by assumption) (q_nil rfl)) ?_ | refine cur_pure rfl rfl rfl rfl (fun _ => h) (fun _ => flt_n rfl rfl) ?_ | refine cur_pure rfl rfl rfl rfl (fun _ => h) (fun _ => flt_n rfl (by assumption)) ?_); (first | refine cur_pure rfl rfl rfl rfl (fun _ => h) (fun _ => flt_g rfl rfl (q_fa rfl)) ?_ | refine cur_pure rfl rfl rfl rfl (fun _ => h) (fun _ => flt_g rfl (by assumption) (q_fa rfl)) ?_ | refine cur_pure rfl rfl rfl rfl (fun _ => h) (fun _ => flt_n rfl rfl) ?_ | refine cur_pure rfl rfl rfl rfl (fun _ => h) (fun _ => flt_n rfl (by assumption)) ?_); (first | refine cur_float rfl rfl rfl rfl h (fun _ h => flt_g rfl rfl (q_load rfl (h.b 0) rfl)) ?_ | refine cur_float rfl rfl rfl rfl h (fun _ h => flt_g rfl rfl (q_load rfl (h.b 1) rfl)) ?_ | refine cur_float rfl rfl rfl rfl h (fun _ h => flt_g rfl rfl (q_load rfl (h.b 2) rfl)) ?_ | refine cur_float rfl rfl rfl rfl h (fun _ h => flt_g rfl rfl (q_load rfl (h.b 3) rfl)) ?_ | refine cur_float rfl rfl rfl rfl h (fun _ h => flt_g rfl rfl (q_load rfl (h.b 4) rfl)) ?_ | refine cur_float rfl rfl rfl rfl h (fun _ h => flt_g rfl rfl (q_load rfl (h.b 5) rfl)) ?_ | refine cur_float rfl rfl rfl rfl h (fun _ h => flt_g rfl (by assumption) (q_load rfl (h.b 0) rfl)) ?_ | refine cur_float rfl rfl rfl rfl h (fun _ h => flt_g rfl (by assumption) (q_load rfl (h.b 1) rfl)) ?_ | refine cur_float rfl rfl rfl rfl h (fun _ h => flt_g rfl (by assumption) (q_load rfl (h.b 2) rfl)) ?_ | refine cur_float rfl rfl rfl rfl h (fun _ h => flt_g rfl (by assumption) (q_load rfl (h.b 3) rfl)) ?_ | refine cur_float rfl rfl rfl rfl h (fun _ h => flt_g rfl (by assumption) (q_load rfl (h.b 4) rfl)) ?_ | refine cur_float rfl rfl rfl rfl h (fun _ h => flt_g rfl (by assumption) (q_load rfl (h.b 5) rfl)) ?_ | refine cur_pure rfl rfl rfl rfl (fun _ => h) (fun _ => flt_n rfl rfl) ?_ | refine cur_pure rfl rfl rfl rfl (fun _ => h) (fun _ => flt_n rfl (by assumption)) ?_); (first | refine cur_pure rfl rfl rfl rfl (fun _ => h) (fun _ => flt_g rfl rfl (q_moveP rfl)) ?_ | refine cur_pure rfl rfl rfl rfl (fun _ => h) (fun _ => flt_g rfl (by assumption) (q_moveP rfl)) ?_ | refine cur_pure rfl rfl rfl rfl (fun _ => h) (fun _ => flt_n rfl rfl) ?_ | refine cur_pure rfl rfl rfl rfl (fun _ => h) (fun _ => flt_n rfl (by assumption)) ?_); refine cur_skip ?_; refine cur_skip ?_; refine cur_skip ?_; refine cur_skip ?_
      refine cur_one 9 rfl rfl rfl (wanted_g rfl rfl hn1) ?_
      refine x_call rfl (blob_Used h) ?_
      rintro _ w ⟨rfl, h⟩
      refine ⟨fun _ => h, ?_⟩
      (first | refine cur_pure rfl rfl rfl rfl (fun _ => h) (fun _ => flt_g rfl rfl (q_sub rfl rfl)) ?_ | refine cur_pure rfl rfl rfl rfl (fun _ => h) (fun _ => flt_g rfl (by assumption) (q_sub rfl rfl)) ?_ | refine cur_pure rfl rfl rfl rfl (fun _ => h) (fun _ => flt_n rfl rfl) ?_ | refine cur_pure rfl rfl rfl rfl (fun _ => h) (fun _ => flt_n rfl (by assumption)) ?_); (first | refine cur_pure rfl rfl rfl rfl (fun _ => h) (fun _ => flt_g rfl rfl (q_gtr rfl rfl)) ?_ | refine cur_pure rfl rfl rfl rfl (fun _ => h) (fun _ => flt_g rfl (by assumption) (q_gtr rfl rfl)) ?_ | refine cur_pure rfl rfl rfl rfl (fun _ => h) (fun _ => flt_n rfl rfl) ?_ | refine cur_pure rfl rfl rfl rfl (fun _ => h) (fun _ => flt_n rfl (by assumption)) ?_); (first | refine cur_pure rfl rfl rfl rfl (fun _ => h) (fun _ => flt_v rfl (q_pick1 rfl rfl rfl)) ?_ | refine cur_pure rfl rfl rfl rfl (fun _ => h) (fun _ => flt_v rfl (q_pick0 rfl rfl rfl)) ?_ | refine cur_pure rfl rfl rfl rfl (fun _ => h) (fun _ => flt_v rfl (q_pick1 rfl (by assumption) rfl)) ?_ | refine cur_pure rfl rfl rfl rfl (fun _ => h) (fun _ => flt_v rfl (q_pick0 rfl (by assumption) rfl)) ?_ | refine cur_pure rfl rfl rfl rfl (fun _ => h) (fun _ => flt_v rfl (q_pickB rfl rfl rfl)) ?_)
      refine cur_end ?_
      refine c_cond _ rfl (fun hc => ?_) (fun hc => ?_)
      · have hc' : n > 0 ∧ n > IntKind.i64.wrap (S.budget - IntKind.i64.wrap (S.bytes + S.charged)) := ⟨hn, by simpa using hc⟩
        refine c_seq (c_region ?_)
        refine r_v (q_assignB rfl) rfl ?_
        refine r_nil ?_
        refine c_ret (bq1 ?_)
        rw [if_pos hc']
        exact ⟨rfl, St.store.2 ⟨m, h⟩⟩
      · refine c_skip ⟨(), ⟨rfl, rfl, trivial⟩, fun h => ?_, h⟩
        have := h.2
        simp at hc
        omega
    · have hn1 : decide (n > 0) = false := by simpa using hn
      refine cur_pure rfl rfl rfl rfl (fun _ => h) (fun _ => flt_v rfl (q_moveI rfl)) ?_; refine cur_pure rfl rfl rfl rfl (fun _ => h) (fun _ => flt_v rfl (q_gtr rfl rfl)) ?_; refine cur_pure rfl rfl rfl rfl (fun _ => h) (fun _ => flt_v rfl (q_moveB rfl)) ?_; (first | refine cur_pure rfl rfl rfl rfl (fun _ => h) (fun _ => flt_g rfl rfl (q_moveI rfl)) ?_ | refine cur_pure rfl rfl rfl rfl (fun _ => h) (fun _ => flt_g rfl (by assumption) (q_moveI rfl)) ?_ | refine cur_pure rfl rfl rfl rfl (fun _ => h) (fun _ => flt_n rfl rfl) ?_ | refine cur_pure rfl rfl rfl rfl (fun _ => h) (fun _ => flt_n rfl (by assumption)) ?_); (first | refine cur_pure rfl rfl rfl rfl (fun _ => h) (fun _ => flt_g rfl rfl (q_moveP rfl)) ?_ | refine cur_pure rfl rfl rfl rfl (fun _ => h) (fun _ => flt_g rfl (by assumption) (q_moveP rfl)) ?_ | refine cur_pure rfl rfl rfl rfl (fun _ => h) (fun _ => flt_n rfl rfl) ?_ | refine cur_pure rfl rfl rfl rfl (fun _ => h) (fun _ => flt_n rfl (by assumption)) ?_); (first | refine cur_pure rfl rfl rfl rfl (fun _ => h) (fun _ => flt_g rfl rfl (q_nil rfl)) ?_ | refine cur_pure rfl rfl rfl rfl (fun _ => h) (fun _ => flt_g rfl (by assumption) (q_nil rfl)) ?_ | refine cur_pure rfl rfl rfl rfl (fun _ => h) (fun _ => flt_n rfl rfl) ?_ | refine cur_pure rfl rfl rfl rfl (fun _ => h) (fun _ => flt_n rfl (by assumption)) ?_); (first | refine cur_pure rfl rfl rfl rfl (fun _ => h) (fun _ => flt_g rfl rfl (q_fa rfl)) ?_ | refine cur_pure rfl rfl rfl rfl (fun _ => h) (fun _ => flt_g rfl (by assumption) (q_fa rfl)) ?_ | refine cur_pure rfl rfl rfl rfl (fun _ => h) (fun _ => flt_n rfl rfl) ?_ | refine cur_pure rfl rfl rfl rfl (fun _ => h) (fun _ => flt_n rfl (by assumption)) ?_); (first | refine cur_float rfl rfl rfl rfl h (fun _ h => flt_g rfl rfl (q_load rfl (h.b 0) rfl)) ?_ | refine cur_float rfl rfl rfl rfl h (fun _ h => flt_g rfl rfl (q_load rfl (h.b 1) rfl)) ?_ | refine cur_float rfl rfl rfl rfl h (fun _ h => flt_g rfl rfl (q_load rfl (h.b 2) rfl)) ?_ | refine cur_float rfl rfl rfl rfl h (fun _ h => flt_g rfl rfl (q_load rfl (h.b 3) rfl)) ?_ | refine cur_float rfl rfl rfl rfl h (fun _ h => flt_g rfl rfl (q_load rfl (h.b 4) rfl)) ?_ | refine cur_float rfl rfl rfl rfl h (fun _ h => flt_g rfl rfl (q_load rfl (h.b 5) rfl)) ?_ | refine cur_float rfl rfl rfl rfl h (fun _ h => flt_g rfl (by assumption) (q_load rfl (h.b 0) rfl)) ?_ | refine cur_float rfl rfl rfl rfl h (fun _ h => flt_g rfl (by assumption) (q_load rfl (h.b 1) rfl)) ?_ | refine cur_float rfl rfl rfl rfl h (fun _ h => flt_g rfl (by assumption) (q_load rfl (h.b 2) rfl)) ?_ | refine cur_float rfl rfl rfl rfl h (fun _ h => flt_g rfl (by assumption) (q_load rfl (h.b 3) rfl)) ?_ | refine cur_float rfl rfl rfl rfl h (fun _ h => flt_g rfl (by assumption) (q_load rfl (h.b 4) rfl)) ?_ | refine cur_float rfl rfl rfl rfl h (fun _ h => flt_g rfl (by assumption) (q_load rfl (h.b 5) rfl)) ?_ | refine cur_pure rfl rfl rfl rfl (fun _ => h) (fun _ => flt_n rfl rfl) ?_ | refine cur_pure rfl rfl rfl rfl (fun _ => h) (fun _ => flt_n rfl (by assumption)) ?_); (first | refine cur_pure rfl rfl rfl rfl (fun _ => h) (fun _ => flt_g rfl rfl (q_moveP rfl)) ?_ | refine cur_pure rfl rfl rfl rfl (fun _ => h) (fun _ => flt_g rfl (by assumption) (q_moveP rfl)) ?_ | refine cur_pure rfl rfl rfl rfl (fun _ => h) (fun _ => flt_n rfl rfl) ?_ | refine cur_pure rfl rfl rfl rfl (fun _ => h) (fun _ => flt_n rfl (by assumption)) ?_); (first | refine cur_pure rfl rfl rfl rfl (fun _ => h) (fun _ => flt_g rfl rfl (q_moveI rfl)) ?_ | refine cur_pure rfl rfl rfl rfl (fun _ => h) (fun _ => flt_g rfl (by assumption) (q_moveI rfl)) ?_ | refine cur_pure rfl rfl rfl rfl (fun _ => h) (fun _ => flt_n rfl rfl) ?_ | refine cur_pure rfl rfl rfl rfl (fun _ => h) (fun _ => flt_n rfl (by assumption)) ?_); (first | refine cur_pure rfl rfl rfl rfl (fun _ => h) (fun _ => flt_g rfl rfl (q_sub rfl rfl)) ?_ | refine cur_pure rfl rfl rfl rfl (fun _ => h) (fun _ => flt_g rfl (by assumption) (q_sub rfl rfl)) ?_ | refine cur_pure rfl rfl rfl rfl (fun _ => h) (fun _ => flt_n rfl rfl) ?_ | refine cur_pure rfl rfl rfl rfl (fun _ => h) (fun _ => flt_n rfl (by assumption)) ?_); (first | refine cur_pure rfl rfl rfl rfl (fun _ => h) (fun _ => flt_g rfl rfl (q_gtr rfl rfl)) ?_ | refine cur_pure rfl rfl rfl rfl (fun _ => h) (fun _ => flt_g rfl (by assumption) (q_gtr rfl rfl)) ?_ | refine cur_pure rfl rfl rfl rfl (fun _ => h) (fun _ => flt_n rfl rfl) ?_ | refine cur_pure rfl rfl rfl rfl (fun _ => h) (fun _ => flt_n rfl (by assumption)) ?_); (first | refine cur_pure rfl rfl rfl rfl (fun _ => h) (fun _ => flt_v rfl (q_pick1 rfl rfl rfl)) ?_ | refine cur_pure rfl rfl rfl rfl (fun _ => h) (fun _ => flt_v rfl (q_pick0 rfl rfl rfl)) ?_ | refine cur_pure rfl rfl rfl rfl (fun _ => h) (fun _ => flt_v rfl (q_pick1 rfl (by assumption) rfl)) ?_ | refine cur_pure rfl rfl rfl rfl (fun _ => h) (fun _ => flt_v rfl (q_pick0 rfl (by assumption) rfl)) ?_ | refine cur_pure rfl rfl rfl rfl (fun _ => h) (fun _ => flt_v rfl (q_pickB rfl rfl rfl)) ?_)
      refine cur_end ?_
      refine c_false rfl ?_
      refine c_skip ⟨(), ⟨rfl, rfl, trivial⟩, fun h => hn h.1, h⟩
  · rintro - w e ⟨hc, h⟩
    refine c_cut (Γ := Int) (fun k => [(0, .pointer (some ⟨p, 0, none⟩)), (1, .int .i64 k)]) (fun k w => k = (if n < IntKind.i64.wrap (0 - S.charged) then IntKind.i64.wrap (0 - S.charged) else n) ∧ St w0 (StoPt p m S :: PMap (Value.int .i64) m IsKept S.l :: l) w) ?_ ?_
    · refine c_seq (c_region ?_)
      refine r_v (q_moveI rfl) rfl ?_; refine r_v (q_moveP rfl) rfl ?_; refine r_v (q_nil rfl) rfl ?_; refine r_v (q_fa rfl) rfl ?_; (first | refine r_v (q_load rfl (h.b 0) rfl) rfl ?_ | refine r_v (q_load rfl (h.b 1) rfl) rfl ?_ | refine r_v (q_load rfl (h.b 2) rfl) rfl ?_ | refine r_v (q_load rfl (h.b 3) rfl) rfl ?_ | refine r_v (q_load rfl (h.b 4) rfl) rfl ?_ | refine r_v (q_load rfl (h.b 5) rfl) rfl ?_); refine r_v (q_neg rfl) rfl ?_; refine r_v (q_lss rfl rfl) rfl ?_
      refine r_nil ?_
      refine c_cond _ rfl (fun hc => ?_) (fun hc => ?_)
      · refine c_region ?_
        refine r_v (q_moveP rfl) rfl ?_; refine r_v (q_nil rfl) rfl ?_; refine r_v (q_fa rfl) rfl ?_; (first | refine r_v (q_load rfl (h.b 0) rfl) rfl ?_ | refine r_v (q_load rfl (h.b 1) rfl) rfl ?_ | refine r_v (q_load rfl (h.b 2) rfl) rfl ?_ | refine r_v (q_load rfl (h.b 3) rfl) rfl ?_ | refine r_v (q_load rfl (h.b 4) rfl) rfl ?_ | refine r_v (q_load rfl (h.b 5) rfl) rfl ?_); refine r_v (q_neg rfl) rfl ?_; refine r_v (q_assignI rfl) rfl ?_
        exact r_nil ⟨_, ⟨rfl, rfl, trivial⟩, by rw [if_pos (by simpa using hc)], h⟩
      · exact c_skip ⟨_, ⟨rfl, rfl, trivial⟩, by rw [if_neg (by simpa using hc)], h⟩
    · rintro k w e ⟨hk, h⟩
      refine c_seq (c_region ?_)
      refine r_v (q_moveP rfl) rfl ?_; refine r_v (q_nil rfl) rfl ?_; refine r_v (q_fa rfl) rfl ?_; (first | refine r_v (q_load rfl (h.b 0) rfl) rfl ?_ | refine r_v (q_load rfl (h.b 1) rfl) rfl ?_ | refine r_v (q_load rfl (h.b 2) rfl) rfl ?_ | refine r_v (q_load rfl (h.b 3) rfl) rfl ?_ | refine r_v (q_load rfl (h.b 4) rfl) rfl ?_ | refine r_v (q_load rfl (h.b 5) rfl) rfl ?_); refine r_v (q_moveI rfl) rfl ?_; refine r_v (q_add rfl rfl) rfl ?_; refine r_v (q_nil rfl) rfl ?_; refine r_v (q_fa rfl) rfl ?_
      (first | refine r_c rfl (x_store 0 h rfl (show _ = Value.int _ _ from rfl) rfl rfl rfl rfl fun w h => ?_) | refine r_c rfl (x_store 0 h rfl (show _ = Value.bool _ from rfl) rfl rfl rfl rfl fun w h => ?_) | refine r_c rfl (x_store 0 h rfl (show _ = Value.slice _ _ _ from rfl) rfl rfl rfl rfl fun w h => ?_) | refine r_c rfl (x_store 0 h rfl (show _ = Value.pointer _ from rfl) rfl rfl rfl rfl fun w h => ?_) | refine r_c rfl (x_store 0 h rfl (show _ = Value.map _ from rfl) rfl rfl rfl rfl fun w h => ?_) | refine r_c rfl (x_store 0 h rfl (show _ = Value.string _ from rfl) rfl rfl rfl rfl fun w h => ?_) | refine r_c rfl (x_store 0 h rfl (rfl) rfl rfl rfl rfl fun w h => ?_) | refine r_c rfl (x_storeA 0 h rfl rfl rfl rfl rfl rfl fun w h => ?_)); simp only [List.set_cons_zero, List.set_cons_succ, Nat.reduceAdd, Nat.zero_add, List.take_succ_cons, List.take_zero, List.drop_succ_cons, List.drop_zero, List.cons_append, List.nil_append, List.append_nil, List.length_cons, List.length_nil] at h
      refine r_nil ?_
      refine c_seq (c_region ?_)
      refine r_v (q_assignB rfl) rfl ?_
      refine r_nil ?_
      refine c_ret (bq1 ?_)
      rw [if_neg hc]
      refine ⟨rfl, St.store.2 ⟨m, ?_⟩⟩
      simp only [Sto.charge, ← hk]
      exact h
end
end Go.Proofs.Ytgahjjihfibbnaa
