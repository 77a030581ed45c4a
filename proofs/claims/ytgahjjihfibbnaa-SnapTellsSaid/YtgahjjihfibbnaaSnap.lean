/- Snaps: what each function does. -/
import Derived.Test.YtgahjjihfibbnaaBlob
import Derived.Test.YtgahjjihfibbnaaIter
import Derived.Test.YtgahjjihfibbnaaHe
namespace Go.Proofs.Ytgahjjihfibbnaa
open Go.Hw
set_option maxHeartbeats 4000000

section
variable {w0 w : World} {l : List HProp}

theorem clip_parts {a : Option Addr} {n c : Nat} (h : St w0 l w) (hc : n ≤ c) : Ret Try.prog 39 [.slice a n c] w fun v w' => v = .slice a n n ∧ St w0 l w' := by
  refine enter Try.func39 rfl Try.results39 Try.ntmps39 rfl ?_
  refine c_seq (c_region ?_)
  refine r_v (q_assignS rfl) rfl ?_
  refine r_nil ?_
  refine c_seq (c_region ?_)
  refine r_v (q_moveS rfl) rfl ?_; refine r_v (q_moveS rfl) rfl ?_; refine r_v (q_len rfl) rfl ?_; refine r_v (q_moveS rfl) rfl ?_; refine r_v (q_len rfl) rfl ?_
  refine r_v (q_clip rfl rfl rfl (Nat.le_refl _) hc) rfl ?_
  refine r_v (q_assignS rfl) rfl ?_
  refine r_nil ?_
  exact c_ret (bq1 ⟨rfl, h⟩)
theorem clip_smps {a : Option Addr} {n c : Nat} (h : St w0 l w) (hc : n ≤ c) : Ret Try.prog 40 [.slice a n c] w fun v w' => v = .slice a n n ∧ St w0 l w' := by
  refine enter Try.func40 rfl Try.results40 Try.ntmps40 rfl ?_
  refine c_seq (c_region ?_)
  refine r_v (q_assignS rfl) rfl ?_
  refine r_nil ?_
  refine c_seq (c_region ?_)
  refine r_v (q_moveS rfl) rfl ?_; refine r_v (q_moveS rfl) rfl ?_; refine r_v (q_len rfl) rfl ?_; refine r_v (q_moveS rfl) rfl ?_; refine r_v (q_len rfl) rfl ?_
  refine r_v (q_clip rfl rfl rfl (Nat.le_refl _) hc) rfl ?_
  refine r_v (q_assignS rfl) rfl ?_
  refine r_nil ?_
  exact c_ret (bq1 ⟨rfl, h⟩)

theorem snap_Tail {x : SnapV} (wf : x.Wf) {a1 a2 : Option Addr} {c1 c2 : Nat} (h : St w0 l w) (hr2 : ∀ w', St w0 l w' → Rd w' 2 a2 x.tn x.tc) :
    Ret Try.prog 33 [.agg (x.cells a1 c1 a2 c2).toArray] w fun v w' => ∃ a c, v = .slice a x.tn c ∧ St w0 (OwnT x a c :: l) w' := by
  refine enter Try.func33 rfl Try.results33 Try.ntmps33 rfl ?_
  refine c_seq (c_region ?_)
  refine r_c rfl (x_box h (show _ = Value.agg (x.cells a1 c1 a2 c2).toArray from rfl) fun b w h => ?_)
  refine r_v (q_assignS rfl) rfl ?_
  refine r_nil ?_
  refine c_seq (c_region ?_)
  refine r_v (q_fa rfl) rfl ?_; (first | refine r_v (q_load rfl (h.b 0) rfl) rfl ?_ | refine r_v (q_load rfl (h.b 1) rfl) rfl ?_ | refine r_v (q_load rfl (h.b 2) rfl) rfl ?_ | refine r_v (q_load rfl (h.b 3) rfl) rfl ?_ | refine r_v (q_load rfl (h.b 4) rfl) rfl ?_ | refine r_v (q_load rfl (h.b 5) rfl) rfl ?_)
  refine r_c rfl (x_call rfl (clone_smps h (fun w' h' => hr2 w' h'.drop) wf.t1 wf.tn) ?_)
  rintro _ w ⟨a, c, rfl, _, h⟩
  refine r_v (q_assignS rfl) rfl ?_
  refine r_nil ?_
  exact c_ret (bq1 ⟨a, c, rfl, (h.f 1).drop⟩)

/-- All parts are left. -/
def Sto.leave (S : Sto) : List Prt → Sto
  | [] => S
  | p :: ps => Sto.leave (match mget p.blob S.l with | none => S | some x => S.left p.blob x) ps
theorem Sto.leave_append (ps qs : List Prt) : ∀ S : Sto, S.leave (ps ++ qs) = (S.leave ps).leave qs := by
  induction ps with
  | nil => intro S; rfl
  | cons p ps ih => intro S; exact ih _
theorem blob_LeaveAny {p : Nat} {S : Sto} (id : Int) (h : St w0 (IsStore p S :: l) w) : Ret Try.prog 19 [.pointer (some ⟨p, 0, none⟩), .int .i64 id] w fun v w' =>
    St w0 (IsStore p (match mget id S.l with | none => S | some x => S.left id x) :: l) w' := by
  cases hg : mget id S.l with
  | none => exact (blob_Leave0 id h hg).mono fun _ _ h => h.2
  | some x => exact (blob_Leave1 id h hg).mono fun _ _ h => h.2
theorem snap_leave {p : Nat} {S : Sto} {a : Option Addr} {n c : Nat} {Ps : List Prt} (h : St w0 (IsStore p S :: l) w) (hr : ∀ w', St w0 l w' → Rd w' 5 a n (prtsV Ps)) (hn : n < 9223372036854775807) :
    Ret Try.prog 42 [.pointer (some ⟨p, 0, none⟩), .slice a n c] w fun v w' => v = .tuple #[] ∧ St w0 (IsStore p (S.leave Ps) :: l) w' := by
  have hl : Ps.length = n := (hr w h.drop).count prt_len (by decide)
  refine enter Try.func42 rfl Try.results42 Try.ntmps42 rfl ?_
  refine c_seq (c_region ?_)
  refine r_v (q_moveS rfl) rfl ?_; refine r_v (q_len rfl) rfl ?_; refine r_v (q_moveI rfl) rfl ?_
  refine r_nil ?_
  refine c_block ?_
  refine c_loop (Γ := Nat) (fun k => [(0, .pointer (some ⟨p, 0, none⟩)), (6, .slice a n c), (7, .int .i64 n), (8, .int .i64 k)]) (fun k w => k ≤ n ∧ St w0 (IsStore p (S.leave (Ps.take k)) :: l) w) (fun k => n - k) 0 ⟨rfl, rfl, rfl, rfl, trivial⟩ ⟨Nat.zero_le _, h⟩ ?_
  clear h
  rintro k w e ⟨hk, h⟩
  refine c_seq (c_region ?_)
  refine r_v (q_lss rfl rfl) rfl ?_
  refine r_nil ?_
  refine c_seq (c_cond (decide ((k : Int) < (n : Int))) rfl (fun hc => ?_) (fun hc => ?_))
  ·
    have hkn : k < n := by simp at hc; omega
    obtain ⟨b, o, rfl⟩ := (hr w h.drop).some (by omega)
    have hget := List.getElem?_eq_getElem (show k < Ps.length by omega)
    generalize Ps[k] = q at hget
    refine c_skip ?_
    refine c_seq (c_block ?_)
    refine c_seq (c_region ?_)
    refine r_v (q_idx rfl rfl rfl hkn rfl) rfl ?_
    refine r_v (q_loadS (l := q.cells) rfl rfl ((hr w h.drop).elem prt_len hget)) rfl ?_
    refine r_c rfl (x_alloc h fun r w h => ?_)
    refine r_c rfl (x_storeA (vs := q.cells) 0 h rfl rfl rfl rfl rfl rfl rfl fun w h => ?_)
    replace h : St w0 (pt r (.cells q.cells.toArray 53 (0, 0)) :: IsStore p (S.leave (Ps.take k)) :: l) w := h
    refine r_nil ?_
    refine c_region ?_
    refine r_v (q_moveP rfl) rfl ?_; refine r_v (q_fa rfl) rfl ?_
    refine r_v (q_load (v := .int .i64 q.blob) rfl (h.b 0) rfl) rfl ?_
    refine r_c rfl (x_call rfl (blob_LeaveAny q.blob (h.f 1)) ?_)
    intro _ w h
    refine r_nil ?_
    refine c_region ?_
    refine r_v (q_add rfl rfl) rfl ?_
    refine r_is (.int .i64 ((k + 1 : Nat) : Int)) (by rw [wrap64 (by omega) (by omega)]; rfl) ?_
    refine r_v (q_moveI rfl) rfl ?_
    refine r_nil ⟨k + 1, ⟨rfl, rfl, rfl, rfl, trivial⟩, ⟨by omega, ?_⟩, by omega⟩
    have e1 : S.leave (Ps.take (k + 1)) = (match mget q.blob (S.leave (Ps.take k)).l with | none => S.leave (Ps.take k) | some x => (S.leave (Ps.take k)).left q.blob x) := by
      rw [List.take_add_one, hget, Sto.leave_append]; rfl
    rw [e1]
    exact (h.f 1).drop
  have hkn : k = n := by simp at hc; omega
  subst hkn
  refine c_exit ?_
  rw [List.take_of_length_le (by omega)] at h
  exact (show (packv [] : Value) = .tuple #[] ∧ St w0 (IsStore p (S.leave Ps) :: l) w from ⟨rfl, h⟩)

/-- All parts are held, or none. -/
def Sto.hold (S : Sto) : List Prt → List Prt → Bool × Sto
  | _, [] => (true, S)
  | done, p :: ps => match mget p.blob S.l with
    | none => (false, S.leave done)
    | some x => Sto.hold (S.put p.blob ⟨x.bs, IntKind.i64.wrap (x.holds + 1)⟩) (done ++ [p]) ps
theorem rd_head {w : World} {a : Option Addr} {n k : Nat} {Ps : List Prt} (h : Rd w 5 a n (prtsV Ps)) (hk : k ≤ n) : Rd w 5 a k (prtsV (Ps.take k)) := by
  have hl := h.count prt_len (by decide)
  refine ⟨by rw [flat_len prt_len, List.length_take, Nat.min_eq_left (by omega)], ?_⟩
  rcases h.2 with h0 | ⟨b, o, rfl, hat⟩
  · exact .inl (by omega)
  · refine .inr ⟨b, o, rfl, fun j v hj => hat j v ?_⟩
    have e : prtsV Ps = prtsV (Ps.take k) ++ prtsV (Ps.drop k) := by rw [← List.flatMap_append, List.take_append_drop]
    rw [e, List.getElem?_append_left (List.getElem?_eq_some_iff.1 hj).1]
    exact hj
theorem snap_Hold {p : Nat} {S : Sto} {x : SnapV} {Ps : List Prt} (hx : x.pc = prtsV Ps) (hn : x.pn < 9223372036854775807) {a1 a2 : Option Addr} {c1 c2 : Nat} (hc1 : x.pn ≤ c1) (h : St w0 (IsStore p S :: l) w) (hr : ∀ w', St w0 l w' → Rd w' 5 a1 x.pn x.pc) :
    Ret Try.prog 34 [.pointer (some ⟨p, 0, none⟩), .agg (x.cells a1 c1 a2 c2).toArray] w fun v w' => v = .bool (S.hold [] Ps).1 ∧ St w0 (IsStore p (S.hold [] Ps).2 :: l) w' := by
  obtain ⟨life, ver, frm, upto, n, pc, tn, tc⟩ := x
  dsimp only at hx hn hr hc1
  subst hx
  have hl : Ps.length = n := (hr w h.drop).count prt_len (by decide)
  refine enter Try.func34 rfl Try.results34 Try.ntmps34 rfl ?_
  refine c_seq (c_region ?_)
  refine r_c rfl (x_box h (show _ = Value.agg ((SnapV.mk life ver frm upto n (prtsV Ps) tn tc).cells a1 c1 a2 c2).toArray from rfl) fun r3 w h => ?_)
  replace h : St w0 (pt r3 (.cells ((SnapV.mk life ver frm upto n (prtsV Ps) tn tc).cells a1 c1 a2 c2).toArray 43 (0, 0)) :: IsStore p S :: l) w := h
  refine r_v (q_assignB rfl) rfl ?_
  refine r_nil ?_
  refine c_seq (c_seq (c_region ?_))
  refine r_v (q_fa rfl) rfl ?_; refine r_v (q_load rfl (h.b 0) rfl) rfl ?_; refine r_v (q_len rfl) rfl ?_; refine r_v (q_moveI rfl) rfl ?_
  refine r_nil ?_
  refine c_block ?_
  refine c_loop (Γ := Nat × Sto) (fun k => [(0, .pointer (some ⟨p, 0, none⟩)), (3, .pointer (some ⟨r3, 0, none⟩)), (8, .slice a1 n c1), (9, .int .i64 n), (10, .int .i64 k.1)])
    (fun k w => k.1 ≤ n ∧ S.hold [] Ps = k.2.hold (Ps.take k.1) (Ps.drop k.1) ∧ St w0 (pt r3 (.cells ((SnapV.mk life ver frm upto n (prtsV Ps) tn tc).cells a1 c1 a2 c2).toArray 43 (0, 0)) :: IsStore p k.2 :: l) w) (fun k => n - k.1) (0, S) ⟨rfl, rfl, rfl, rfl, rfl, trivial⟩ ⟨Nat.zero_le _, rfl, h⟩ ?_
  clear h
  rintro ⟨k, S'⟩ w e ⟨hk, hS, h⟩
  dsimp only at hk hS h ⊢
  refine c_seq (c_region ?_)
  refine r_v (q_lss rfl rfl) rfl ?_
  refine r_nil ?_
  refine c_seq (c_cond (decide ((k : Int) < (n : Int))) rfl (fun hc => ?_) (fun hc => ?_))
  ·
    have hkn : k < n := by simp at hc; omega
    obtain ⟨b, o, rfl⟩ := (hr w h.drop.drop).some (by omega)
    have hget := List.getElem?_eq_getElem (show k < Ps.length by omega)
    have hdrop : Ps.drop k = Ps[k] :: Ps.drop (k + 1) := List.drop_eq_getElem_cons (by omega)
    generalize Ps[k] = q at hget hdrop
    rw [hdrop] at hS
    refine c_skip ?_
    refine c_seq (c_block ?_)
    refine c_seq (c_region ?_)
    refine r_v (q_moveI rfl) rfl ?_
    refine r_v (q_idx rfl rfl rfl hkn rfl) rfl ?_
    refine r_v (q_loadS (l := q.cells) rfl rfl ((hr w h.drop.drop).elem prt_len hget)) rfl ?_
    refine r_c rfl (x_alloc h fun r w h => ?_)
    refine r_v (q_assignI rfl) rfl ?_
    refine r_c rfl (x_storeA (vs := q.cells) 0 h rfl rfl rfl rfl rfl rfl rfl fun w h => ?_)
    replace h : St w0 (pt r (.cells q.cells.toArray 53 (0, 0)) :: pt r3 (.cells ((SnapV.mk life ver frm upto n (prtsV Ps) tn tc).cells (some ⟨b, o, none⟩) c1 a2 c2).toArray 43 (0, 0)) :: IsStore p S' :: l) w := h
    refine r_nil ?_
    refine c_seq (c_region ?_)
    refine r_v (q_moveP rfl) rfl ?_; refine r_v (q_fa rfl) rfl ?_
    refine r_v (q_load (v := .int .i64 q.blob) rfl (h.b 0) rfl) rfl ?_
    cases hg : mget q.blob S'.l with
    | none =>
      have hS2 : S.hold [] Ps = (false, S'.leave (Ps.take k)) := by rw [hS]; simp only [Sto.hold, hg]
      refine r_c rfl (x_call rfl (blob_Hold0 q.blob (h.f 2) hg) ?_)
      rintro _ w ⟨rfl, h⟩
      refine r_v (q_not rfl) rfl ?_
      refine r_nil ?_
      refine c_true rfl ?_
      refine c_seq (c_region ?_)
      refine r_v (q_moveP rfl) rfl ?_; refine r_v (q_fa rfl) rfl ?_
      refine r_v (q_load (v := .slice (some ⟨b, o, none⟩) n c1) rfl (h.b 2) rfl) rfl ?_
      refine r_v (q_moveI rfl) rfl ?_
      refine r_v (q_head rfl rfl (by omega)) rfl ?_
      refine r_c rfl (x_call rfl (snap_leave h (fun w' h' => rd_head (hr w' h'.drop.drop) hk) (by omega)) ?_)
      rintro _ w ⟨rfl, h⟩
      refine r_nil ?_
      refine c_seq (c_region ?_)
      refine r_v (q_assignB rfl) rfl ?_
      refine r_nil ?_
      refine c_ret (bq1 ⟨?_, ?_⟩)
      · rw [hS2]; rfl
      · rw [hS2]; exact ((h.f 1).drop.f 1).drop
    | some x =>
      refine r_c rfl (x_call rfl (blob_Hold1 q.blob (h.f 2) hg) ?_)
      rintro _ w ⟨rfl, h⟩
      refine r_v (q_not rfl) rfl ?_
      refine r_nil ?_
      refine c_false rfl (c_skip ?_)
      refine c_region ?_
      refine r_v (q_add rfl rfl) rfl ?_
      refine r_is (.int .i64 ((k + 1 : Nat) : Int)) (by rw [wrap64 (by omega) (by omega)]; rfl) ?_
      refine r_v (q_moveI rfl) rfl ?_
      refine r_nil ⟨(k + 1, S'.put q.blob ⟨x.bs, IntKind.i64.wrap (x.holds + 1)⟩), ⟨rfl, rfl, rfl, rfl, rfl, trivial⟩, ⟨by dsimp only; omega, ?_, ?_⟩, by dsimp only; omega⟩
      · rw [hS]
        simp only [Sto.hold, hg, List.take_add_one, hget, Option.toList_some]
      · exact ((h.f 1).drop).f 1
  have hkn : k = n := by simp at hc; omega
  subst hkn
  refine c_exit ?_
  rw [List.drop_eq_nil_of_le (by omega)] at hS
  refine c_seq (c_region ?_)
  refine r_v (q_assignB rfl) rfl ?_
  refine r_nil ?_
  refine c_ret (bq1 ⟨?_, ?_⟩)
  · rw [hS]; rfl
  · rw [hS]; exact h.drop
theorem snap_Leave {p : Nat} {S : Sto} {x : SnapV} {Ps : List Prt} (hx : x.pc = prtsV Ps) (hn : x.pn < 9223372036854775807) {a1 a2 : Option Addr} {c1 c2 : Nat} (h : St w0 (IsStore p S :: l) w) (hr : ∀ w', St w0 l w' → Rd w' 5 a1 x.pn x.pc) :
    Ret Try.prog 35 [.pointer (some ⟨p, 0, none⟩), .agg (x.cells a1 c1 a2 c2).toArray] w fun v w' => v = .tuple #[] ∧ St w0 (IsStore p (S.leave Ps) :: l) w' := by
  refine enter Try.func35 rfl Try.results35 Try.ntmps35 rfl ?_
  refine c_seq (c_region ?_)
  refine r_c rfl (x_box h (show _ = Value.agg (x.cells a1 c1 a2 c2).toArray from rfl) fun b w h => ?_)
  refine r_nil ?_
  refine c_region ?_
  refine r_v (q_moveP rfl) rfl ?_; refine r_v (q_fa rfl) rfl ?_; refine r_v (q_load rfl (h.b 0) rfl) rfl ?_
  refine r_c rfl (x_call rfl (snap_leave (h.f 1) (fun w' h' => hx ▸ hr w' h'.drop) hn) ?_)
  rintro _ w ⟨rfl, h⟩
  exact r_nil (bq0n ⟨rfl, (h.f 1).drop⟩)
end
end Go.Proofs.Ytgahjjihfibbnaa
