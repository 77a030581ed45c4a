/- Layer 21: the walk of 'IterOwn'. -/
import Derived.Test.YtgahjjihfibbnaaLaw21a
import Derived.Test.YtgahjjihfibbnaaSame
namespace Go.Proofs.Ytgahjjihfibbnaa
open Go.Hw
set_option maxHeartbeats 4000000
section
variable {w : World} {sl : Option Addr} {n c : Nat} {L : List Smp}

/-- The snap that is given. -/
abbrev ownX (n : Nat) (L : List Smp) : SnapV := ⟨0, 0, 0, 0, 1, prtsV [⟨5, 0, 0, 0, 0⟩], n, smpsV L⟩
theorem ownX_wf (hn : n ≤ 40) : (ownX n L).Wf := ⟨prts_one _, smps_one _, by simp, by simp; omega⟩
abbrev ownT (n : Nat) (L : List Smp) : Tab := ⟨1, [(1, ⟨1, 0, ownX n L, false, 0⟩)]⟩

theorem law21_IterOwn (hr : Rd w 2 sl n (smpsV L)) (hb : ∀ b o, sl = some ⟨b, o, none⟩ → 0 < n → b < w.heap.size) : Ret Try.prog 8 [.slice sl n c] w fun v w' => v = .bool true ∧ St w [] w' := by
  have h := St.init w
  generalize hw0 : w = w0 at h
  rw [hw0] at hr hb
  have hrd : ∀ {l w'}, St w0 l w' → Rd w' 2 sl n (smpsV L) := fun h => Rd.old h hr hb
  have hlen : L.length = n := hr.count smp_len (by decide)
  clear hw0
  refine enter Try.func8 rfl Try.results8 Try.ntmps8 rfl ?_
  refine c_seq (c_region ?_)
  refine r_v (q_assignB rfl) rfl ?_
  refine r_nil ?_
  refine c_seq (c_seq (c_region ?_))
  refine r_v (q_moveS rfl) rfl ?_; refine r_v (q_len rfl) rfl ?_; refine r_v (q_gtr rfl rfl) rfl ?_
  refine r_nil ?_
  refine c_cond _ rfl (fun hc => ?_) (fun hc => ?_)
  ·
    refine c_seq (c_region ?_)
    refine r_c rfl (x_call rfl (law21_awake h) ?_)
    rintro _ w ⟨rfl, h⟩
    refine r_v (q_assignB rfl) rfl ?_
    refine r_nil ?_
    exact c_ret (bq1 ⟨rfl, h⟩)
  have hn : n ≤ 40 := by simp at hc; omega
  refine c_skip ?_
  refine c_seq (c_region ?_)
  refine r_c rfl (x_call rfl (iter_New h) ?_)
  rintro _ w ⟨p, rfl, h⟩
  refine r_v (q_assignP rfl) rfl ?_
  refine r_nil ?_
  refine c_seq (c_seq (c_region ?_))
  refine r_v (q_moveP rfl) rfl ?_; refine r_v (q_eqnil rfl rfl) rfl ?_
  refine r_nil ?_
  refine c_false rfl (c_skip ?_)
  refine c_seq (c_region ?_)
  refine r_c rfl (x_bslice (r := []) h rfl rfl rfl fun b w h => ?_)
  refine r_v (q_moveS rfl) rfl ?_
  have h1 : St w0 (Own 56 2 (some ⟨b, 0, none⟩) 0 0 [] :: [IsTab p ⟨0, []⟩]) w := St.own_mk (cur := []) h rfl rfl (Nat.le_refl _)
  refine r_c rfl (x_append' h1 rfl rfl (hrd h1) (smps_one _) (Nat.zero_add n) (List.nil_append _) (by omega) (by omega) rfl fun a c1 w _ h => ?_)
  refine r_v (q_assignS rfl) rfl ?_
  refine r_nil ?_
  refine c_seq (c_region ?_)
  refine r_v (q_moveP rfl) rfl ?_; refine r_v (q_moveS rfl) rfl ?_
  refine r_v (q_build (r := (Prt.mk 5 0 0 0 0).cells) rfl) rfl ?_
  refine r_c rfl (x_bslice (r := (Prt.mk 5 0 0 0 0).cells) h rfl rfl rfl fun bp w h => ?_)
  refine r_v (q_build (r := (ownX n L).cells (some ⟨bp, 0, none⟩) 1 a c1) rfl) rfl ?_
  refine r_c rfl (x_call rfl (iter_Open1 (ownX_wf hn) 1 (h.f 2) (by decide) rfl (by decide) (by decide) (fun w' h' => ⟨rfl, .inr ⟨bp, 0, rfl, at_of (h'.b 0 rfl) rfl⟩⟩) (fun w' h' => (h'.f 1).own_rd)) ?_)
  rintro _ w ⟨rfl, h⟩
  replace h : St w0 [Own 56 2 a n c1 (smpsV L), IsTab p (ownT n L)] w := ((h.f 1).drop).f 1
  refine r_v (q_moveT rfl) rfl ?_; refine r_v (q_ext rfl rfl) rfl ?_; refine r_v (q_ext rfl rfl) rfl ?_; refine r_v (q_assignI rfl) rfl ?_; refine r_v (q_assignB rfl) rfl ?_
  refine r_nil ?_
  refine c_seq (c_seq (c_region ?_))
  refine r_v (q_moveS rfl) rfl ?_; refine r_v (q_len rfl) rfl ?_; refine r_v (q_moveI rfl) rfl ?_
  refine r_nil ?_
  refine c_block ?_
  refine c_loop (Γ := Nat × List Smp) (fun k => [(0, .slice sl n c), (3, .pointer (some ⟨p, 0, none⟩)), (4, .slice a n c1), (5, .int .i64 1), (6, .bool true), (38, .int .i64 n), (39, .int .i64 k.1)])
    (fun k w => k.1 ≤ n ∧ k.2.length = n ∧ St w0 [Own 56 2 a n c1 (smpsV k.2), IsTab p (ownT n L)] w) (fun k => n - k.1) (0, L) ⟨rfl, rfl, rfl, rfl, rfl, rfl, rfl, trivial⟩ ⟨by omega, hlen, h⟩ ?_
  clear h h1
  rintro ⟨k, M⟩ w e ⟨hk, hM, h⟩
  dsimp only at hk hM h ⊢
  refine c_seq (c_region ?_)
  refine r_v (q_lss rfl rfl) rfl ?_
  refine r_nil ?_
  refine c_seq (c_cond (decide ((k : Int) < (n : Int))) rfl (fun hc => ?_) (fun hc => ?_))
  ·
    have hkn : k < n := by simp at hc; omega
    obtain ⟨g, rfl⟩ := h.own_some (by omega : 0 < n)
    have hget := List.getElem?_eq_getElem (show k < M.length by omega)
    generalize M[k] = s at hget
    refine c_skip ?_
    refine c_seq (c_block ?_)
    refine c_seq (c_region ?_)
    refine r_v (q_moveI rfl) rfl ?_; refine r_v (q_assignI rfl) rfl ?_
    refine r_nil ?_
    refine c_region ?_
    refine r_v (q_moveS rfl) rfl ?_; refine r_v (q_moveI rfl) rfl ?_
    refine r_v (q_idx rfl rfl rfl hkn (Nat.zero_add _)) rfl ?_
    refine r_v (q_fa rfl) rfl ?_
    refine r_v (q_loadc (v := .int .u64 s.V) rfl (by have := h.own_rd.elem smp_len hget 1 _ rfl; simpa using this)) rfl ?_
    refine r_v (q_add rfl rfl) rfl ?_
    refine r_v (q_idx rfl rfl rfl hkn (Nat.zero_add _)) rfl ?_
    refine r_v (q_fa rfl) rfl ?_
    refine r_c rfl (x_ownset (v := .int .u64 (IntKind.u64.wrap (s.V + 1))) h rfl rfl (by simp; omega) rfl fun w h => ?_)
    replace h : St w0 [Own 56 2 (some ⟨g, 0, none⟩) n c1 ((M.flatMap Smp.cells).set (k * 2 + 1) (.int .u64 (IntKind.u64.wrap (s.V + 1)))), IsTab p (ownT n L)] w := h
    have hfs := flat_set smp_len M k s ⟨s.T, IntKind.u64.wrap (s.V + 1)⟩ 1 (.int .u64 (IntKind.u64.wrap (s.V + 1))) hget (by decide) rfl
    rw [hfs] at h
    refine r_nil ?_
    refine c_region ?_
    refine r_v (q_add rfl rfl) rfl ?_
    refine r_is (.int .i64 ((k + 1 : Nat) : Int)) (by rw [wrap64 (by omega) (by omega)]; rfl) ?_
    refine r_v (q_moveI rfl) rfl ?_
    exact r_nil ⟨(k + 1, _), ⟨rfl, rfl, rfl, rfl, rfl, rfl, rfl, trivial⟩, ⟨by dsimp only; omega, by simpa using hM, h⟩, by dsimp only; omega⟩
  clear hc
  refine c_exit ?_
  replace h := h.drop
  refine c_seq (c_region ?_)
  refine r_v (q_moveP rfl) rfl ?_; refine r_v (q_moveI rfl) rfl ?_
  refine r_c rfl (x_call rfl (iter_At1 1 h rfl) ?_)
  rintro _ w ⟨a1, c1', a2, c2, rfl, h⟩
  dsimp only at h ⊢
  refine r_v (q_moveT rfl) rfl ?_; refine r_v (q_ext rfl rfl) rfl ?_; refine r_v (q_ext rfl rfl) rfl ?_; refine r_v (q_ext rfl rfl) rfl ?_; refine r_v (q_ext rfl rfl) rfl ?_
  refine r_c rfl (x_alloc h fun r9 w h => ?_)
  refine r_v (q_assignI rfl) rfl ?_
  refine r_c rfl (x_storeA (vs := (ownX n L).cells a1 c1' a2 c2) 0 h rfl rfl rfl rfl rfl rfl rfl fun w h => ?_)
  replace h : St w0 [pt r9 (.cells ((ownX n L).cells a1 c1' a2 c2).toArray 43 (0, 0)), Own 56 2 a2 n c2 (smpsV L), Own 53 5 a1 1 c1' (prtsV [⟨5, 0, 0, 0, 0⟩]), IsTab p (ownT n L)] w := ((h.f 2).f 1)
  refine r_v (q_assignI rfl) rfl ?_; refine r_v (q_assignB rfl) rfl ?_
  refine r_nil ?_
  refine c_seq (c_seq (c_region ?_))
  refine r_v (q_fa rfl) rfl ?_; refine r_v (q_load rfl (h.b 0) rfl) rfl ?_; refine r_v (q_len rfl) rfl ?_; refine r_v (q_moveI rfl) rfl ?_
  refine r_nil ?_
  refine c_block ?_
  refine c_loop (Γ := Nat × List Smp) (fun k => [(0, .slice sl n c), (3, .pointer (some ⟨p, 0, none⟩)), (5, .int .i64 1), (6, .bool true), (9, .pointer (some ⟨r9, 0, none⟩)), (11, .bool true), (61, .int .i64 n), (62, .int .i64 k.1)])
    (fun k w => k.1 ≤ n ∧ k.2.length = n ∧ St w0 [pt r9 (.cells ((ownX n L).cells a1 c1' a2 c2).toArray 43 (0, 0)), Own 56 2 a2 n c2 (smpsV k.2), Own 53 5 a1 1 c1' (prtsV [⟨5, 0, 0, 0, 0⟩]), IsTab p (ownT n L)] w) (fun k => n - k.1) (0, L) ⟨rfl, rfl, rfl, rfl, rfl, rfl, rfl, rfl, trivial⟩ ⟨by omega, hlen, h⟩ ?_
  clear h hk hM
  rintro ⟨k, M⟩ w e ⟨hk, hM, h⟩
  dsimp only at hk hM h ⊢
  refine c_seq (c_region ?_)
  refine r_v (q_lss rfl rfl) rfl ?_
  refine r_nil ?_
  refine c_seq (c_cond (decide ((k : Int) < (n : Int))) rfl (fun hc => ?_) (fun hc => ?_))
  ·
    have hkn : k < n := by simp at hc; omega
    obtain ⟨g, rfl⟩ := (h.f 1).own_some (by omega : 0 < n)
    have hget := List.getElem?_eq_getElem (show k < M.length by omega)
    generalize M[k] = s at hget
    refine c_skip ?_
    refine c_seq (c_block ?_)
    refine c_seq (c_region ?_)
    refine r_v (q_moveI rfl) rfl ?_; refine r_v (q_assignI rfl) rfl ?_
    refine r_nil ?_
    refine c_region ?_
    refine r_v (q_fa rfl) rfl ?_; refine r_v (q_load rfl (h.b 0) rfl) rfl ?_; refine r_v (q_moveI rfl) rfl ?_
    refine r_v (q_idx rfl rfl rfl hkn (Nat.zero_add _)) rfl ?_
    refine r_v (q_fa rfl) rfl ?_
    refine r_v (q_loadc (v := .int .i64 s.T) rfl (by have := (h.f 1).own_rd.elem smp_len hget 0 _ rfl; simpa using this)) rfl ?_
    refine r_v (q_add rfl rfl) rfl ?_
    refine r_v (q_idx rfl rfl rfl hkn (Nat.zero_add _)) rfl ?_
    refine r_v (q_fa rfl) rfl ?_
    refine r_c rfl (x_ownset (v := .int .i64 (IntKind.i64.wrap (s.T + 1))) (h.f 1) rfl rfl (by simp; omega) rfl fun w h => ?_)
    rw [show smpsV M = M.flatMap Smp.cells from rfl] at h
    have hfs := flat_set smp_len M k s ⟨IntKind.i64.wrap (s.T + 1), s.V⟩ 0 (.int .i64 (IntKind.i64.wrap (s.T + 1))) hget (by decide) rfl
    rw [Nat.add_zero] at hfs
    refine r_nil ?_
    refine c_region ?_
    refine r_v (q_add rfl rfl) rfl ?_
    refine r_is (.int .i64 ((k + 1 : Nat) : Int)) (by rw [wrap64 (by omega) (by omega)]; rfl) ?_
    refine r_v (q_moveI rfl) rfl ?_
    refine r_nil ⟨(k + 1, M.set k ⟨IntKind.i64.wrap (s.T + 1), s.V⟩), ⟨rfl, rfl, rfl, rfl, rfl, rfl, rfl, rfl, trivial⟩, ⟨by dsimp only; omega, by simpa using hM, ?_⟩, by dsimp only; omega⟩
    show St w0 [_, Own 56 2 (some ⟨g, 0, none⟩) n c2 ((M.set k ⟨IntKind.i64.wrap (s.T + 1), s.V⟩).flatMap Smp.cells), _, _] w
    rw [← hfs]
    exact h.f 1
  clear hc
  refine c_exit ?_
  refine c_seq (c_seq (c_region ?_))
  refine r_v (q_fa rfl) rfl ?_; refine r_v (q_load rfl (h.b 0) rfl) rfl ?_; refine r_v (q_len rfl) rfl ?_; refine r_v (q_moveI rfl) rfl ?_
  refine r_nil ?_
  refine c_block ?_
  refine c_loop (Γ := Nat × Int) (fun k => [(0, .slice sl n c), (3, .pointer (some ⟨p, 0, none⟩)), (5, .int .i64 1), (6, .bool true), (9, .pointer (some ⟨r9, 0, none⟩)), (11, .bool true), (77, .int .i64 1), (78, .int .i64 k.1)])
    (fun k w => k.1 ≤ 1 ∧ St w0 [pt r9 (.cells ((ownX n L).cells a1 c1' a2 c2).toArray 43 (0, 0)), Own 53 5 a1 1 c1' (prtsV [⟨k.2, 0, 0, 0, 0⟩]), Own 56 2 a2 n c2 (smpsV M), IsTab p (ownT n L)] w) (fun k => 1 - k.1) (0, 5) ⟨rfl, rfl, rfl, rfl, rfl, rfl, rfl, rfl, trivial⟩ ⟨by omega, (h.f 2).f 1⟩ ?_
  clear h hk
  rintro ⟨k, m⟩ w e ⟨hk, h⟩
  dsimp only at hk h ⊢
  refine c_seq (c_region ?_)
  refine r_v (q_lss rfl rfl) rfl ?_
  refine r_nil ?_
  refine c_seq (c_cond (decide ((k : Int) < 1)) rfl (fun hc => ?_) (fun hc => ?_))
  ·
    obtain rfl : k = 0 := by simp at hc; omega
    obtain ⟨g, rfl⟩ := (h.f 1).own_some (by omega : 0 < 1)
    refine c_skip ?_
    refine c_seq (c_block ?_)
    refine c_seq (c_region ?_)
    refine r_v (q_moveI rfl) rfl ?_; refine r_v (q_assignI rfl) rfl ?_
    refine r_nil ?_
    refine c_region ?_
    refine r_v (q_fa rfl) rfl ?_; refine r_v (q_load rfl (h.b 0) rfl) rfl ?_; refine r_v (q_moveI rfl) rfl ?_
    refine r_v (q_idx (j := 0) rfl rfl rfl (Nat.zero_lt_one) rfl) rfl ?_
    refine r_v (q_fa rfl) rfl ?_
    refine r_c rfl (x_ownset (v := .int .i64 9) (h.f 1) rfl rfl (by decide) rfl fun w h => ?_)
    replace h : St w0 [Own 53 5 (some ⟨g, 0, none⟩) 1 c1' (prtsV [⟨9, 0, 0, 0, 0⟩]), pt r9 (.cells ((ownX n L).cells (some ⟨g, 0, none⟩) c1' a2 c2).toArray 43 (0, 0)), Own 56 2 a2 n c2 (smpsV M), IsTab p (ownT n L)] w := h
    refine r_nil ?_
    refine c_region ?_
    refine r_v (q_add rfl rfl) rfl ?_; refine r_v (q_moveI rfl) rfl ?_
    exact r_nil ⟨(1, 9), ⟨rfl, rfl, rfl, rfl, rfl, rfl, rfl, rfl, trivial⟩, ⟨by decide, h.f 1⟩, by decide⟩
  clear hc
  refine c_exit ?_
  replace h : St w0 [IsTab p (ownT n L)] w := h.drop.drop.drop
  refine c_seq (c_region ?_)
  refine r_v (q_moveP rfl) rfl ?_; refine r_v (q_moveI rfl) rfl ?_
  refine r_c rfl (x_call rfl (iter_At1 1 h rfl) ?_)
  rintro _ w ⟨a3, c3, a4, c4, rfl, h⟩
  dsimp only at h ⊢
  refine r_v (q_moveT rfl) rfl ?_; refine r_v (q_ext rfl rfl) rfl ?_; refine r_v (q_ext rfl rfl) rfl ?_; refine r_v (q_ext rfl rfl) rfl ?_; refine r_v (q_ext rfl rfl) rfl ?_
  refine r_c rfl (x_alloc h fun r15 w h => ?_)
  refine r_v (q_assignI rfl) rfl ?_
  refine r_c rfl (x_storeA (vs := (ownX n L).cells a3 c3 a4 c4) 0 h rfl rfl rfl rfl rfl rfl rfl fun w h => ?_)
  replace h : St w0 [pt r15 (.cells ((ownX n L).cells a3 c3 a4 c4).toArray 43 (0, 0)), Own 53 5 a3 1 c3 (prtsV [⟨5, 0, 0, 0, 0⟩]), Own 56 2 a4 n c4 (smpsV L), IsTab p (ownT n L)] w := h
  obtain ⟨g3, rfl⟩ := (h.f 1).own_some (by omega : 0 < 1)
  refine r_v (q_assignI rfl) rfl ?_; refine r_v (q_assignB rfl) rfl ?_
  refine r_nil ?_
  refine c_seq (c_region ?_)
  refine r_v (q_moveB rfl) rfl ?_; refine r_v (q_moveB rfl) rfl ?_; (first | refine r_gd rfl rfl ?_ | refine r_gn rfl rfl rfl ?_ | refine r_gu rfl rfl ?_ | refine r_gd rfl (by assumption) ?_ | refine r_gn rfl (by assumption) rfl ?_); refine r_v (q_moveB rfl) rfl ?_; (first | refine r_v (q_pick1 rfl rfl rfl) rfl ?_ | refine r_v (q_pick0 rfl rfl rfl) rfl ?_ | refine r_v (q_pick1 rfl (by assumption) rfl) rfl ?_ | refine r_v (q_pick0 rfl (by assumption) rfl) rfl ?_ | refine r_v (q_pickB rfl rfl rfl) rfl ?_); refine r_v (q_moveB rfl) rfl ?_; (first | refine r_gd rfl rfl ?_ | refine r_gn rfl rfl rfl ?_ | refine r_gu rfl rfl ?_ | refine r_gd rfl (by assumption) ?_ | refine r_gn rfl (by assumption) rfl ?_); refine r_v (q_moveB rfl) rfl ?_; (first | refine r_v (q_pick1 rfl rfl rfl) rfl ?_ | refine r_v (q_pick0 rfl rfl rfl) rfl ?_ | refine r_v (q_pick1 rfl (by assumption) rfl) rfl ?_ | refine r_v (q_pick0 rfl (by assumption) rfl) rfl ?_ | refine r_v (q_pickB rfl rfl rfl) rfl ?_); refine r_v (q_moveB rfl) rfl ?_; (first | refine r_gd rfl rfl ?_ | refine r_gn rfl rfl rfl ?_ | refine r_gu rfl rfl ?_ | refine r_gd rfl (by assumption) ?_ | refine r_gn rfl (by assumption) rfl ?_); refine r_v (q_fa rfl) rfl ?_; (first | refine r_gd rfl rfl ?_ | refine r_gn rfl rfl rfl ?_ | refine r_gu rfl rfl ?_ | refine r_gd rfl (by assumption) ?_ | refine r_gn rfl (by assumption) rfl ?_); refine r_v (q_load rfl (h.b 0) rfl) rfl ?_; (first | refine r_gd rfl rfl ?_ | refine r_gn rfl rfl rfl ?_ | refine r_gu rfl rfl ?_ | refine r_gd rfl (by assumption) ?_ | refine r_gn rfl (by assumption) rfl ?_); refine r_v (q_moveS rfl) rfl ?_; (first | refine r_gd rfl rfl ?_ | refine r_gn rfl rfl rfl ?_ | refine r_gu rfl rfl ?_ | refine r_gd rfl (by assumption) ?_ | refine r_gn rfl (by assumption) rfl ?_)
  refine r_c rfl (x_call rfl (ref10_Same h (fun w' h' => (h'.f 2).own_rd) (fun w' h' => hrd h') (by show n < _; omega)) ?_)
  rintro _ w ⟨rfl, h⟩
  rw [decide_eq_true rfl]
  (first | refine r_v (q_pick1 rfl rfl rfl) rfl ?_ | refine r_v (q_pick0 rfl rfl rfl) rfl ?_ | refine r_v (q_pick1 rfl (by assumption) rfl) rfl ?_ | refine r_v (q_pick0 rfl (by assumption) rfl) rfl ?_ | refine r_v (q_pickB rfl rfl rfl) rfl ?_); refine r_v (q_moveB rfl) rfl ?_; (first | refine r_gd rfl rfl ?_ | refine r_gn rfl rfl rfl ?_ | refine r_gu rfl rfl ?_ | refine r_gd rfl (by assumption) ?_ | refine r_gn rfl (by assumption) rfl ?_); refine r_v (q_fa rfl) rfl ?_; (first | refine r_gd rfl rfl ?_ | refine r_gn rfl rfl rfl ?_ | refine r_gu rfl rfl ?_ | refine r_gd rfl (by assumption) ?_ | refine r_gn rfl (by assumption) rfl ?_); refine r_v (q_load rfl (h.b 0) rfl) rfl ?_; (first | refine r_gd rfl rfl ?_ | refine r_gn rfl rfl rfl ?_ | refine r_gu rfl rfl ?_ | refine r_gd rfl (by assumption) ?_ | refine r_gn rfl (by assumption) rfl ?_); refine r_v (q_len rfl) rfl ?_; (first | refine r_gd rfl rfl ?_ | refine r_gn rfl rfl rfl ?_ | refine r_gu rfl rfl ?_ | refine r_gd rfl (by assumption) ?_ | refine r_gn rfl (by assumption) rfl ?_); refine r_v (q_eql rfl rfl) rfl ?_; (first | refine r_v (q_pick1 rfl rfl rfl) rfl ?_ | refine r_v (q_pick0 rfl rfl rfl) rfl ?_ | refine r_v (q_pick1 rfl (by assumption) rfl) rfl ?_ | refine r_v (q_pick0 rfl (by assumption) rfl) rfl ?_ | refine r_v (q_pickB rfl rfl rfl) rfl ?_); refine r_v (q_moveB rfl) rfl ?_; (first | refine r_gd rfl rfl ?_ | refine r_gn rfl rfl rfl ?_ | refine r_gu rfl rfl ?_ | refine r_gd rfl (by assumption) ?_ | refine r_gn rfl (by assumption) rfl ?_); refine r_v (q_fa rfl) rfl ?_; (first | refine r_gd rfl rfl ?_ | refine r_gn rfl rfl rfl ?_ | refine r_gu rfl rfl ?_ | refine r_gd rfl (by assumption) ?_ | refine r_gn rfl (by assumption) rfl ?_); refine r_v (q_load rfl (h.b 0) rfl) rfl ?_; (first | refine r_gd rfl rfl ?_ | refine r_gn rfl rfl rfl ?_ | refine r_gu rfl rfl ?_ | refine r_gd rfl (by assumption) ?_ | refine r_gn rfl (by assumption) rfl ?_)
  refine r_v (q_idx (j := 0) rfl rfl rfl (Nat.zero_lt_one) rfl) rfl ?_
  (first | refine r_gd rfl rfl ?_ | refine r_gn rfl rfl rfl ?_ | refine r_gu rfl rfl ?_ | refine r_gd rfl (by assumption) ?_ | refine r_gn rfl (by assumption) rfl ?_); refine r_v (q_fa rfl) rfl ?_; (first | refine r_gd rfl rfl ?_ | refine r_gn rfl rfl rfl ?_ | refine r_gu rfl rfl ?_ | refine r_gd rfl (by assumption) ?_ | refine r_gn rfl (by assumption) rfl ?_)
  refine r_v (q_loadc (v := .int .i64 5) rfl ((h.f 1).own_rd.cell (j := 0) rfl)) rfl ?_
  (first | refine r_gd rfl rfl ?_ | refine r_gn rfl rfl rfl ?_ | refine r_gu rfl rfl ?_ | refine r_gd rfl (by assumption) ?_ | refine r_gn rfl (by assumption) rfl ?_); refine r_v (q_eql rfl rfl) rfl ?_; (first | refine r_v (q_pick1 rfl rfl rfl) rfl ?_ | refine r_v (q_pick0 rfl rfl rfl) rfl ?_ | refine r_v (q_pick1 rfl (by assumption) rfl) rfl ?_ | refine r_v (q_pick0 rfl (by assumption) rfl) rfl ?_ | refine r_v (q_pickB rfl rfl rfl) rfl ?_); refine r_v (q_moveB rfl) rfl ?_; (first | refine r_gd rfl rfl ?_ | refine r_gn rfl rfl rfl ?_ | refine r_gu rfl rfl ?_ | refine r_gd rfl (by assumption) ?_ | refine r_gn rfl (by assumption) rfl ?_)
  refine r_c rfl (x_call rfl (law21_awake h) ?_)
  rintro _ w ⟨rfl, h⟩
  (first | refine r_v (q_pick1 rfl rfl rfl) rfl ?_ | refine r_v (q_pick0 rfl rfl rfl) rfl ?_ | refine r_v (q_pick1 rfl (by assumption) rfl) rfl ?_ | refine r_v (q_pick0 rfl (by assumption) rfl) rfl ?_ | refine r_v (q_pickB rfl rfl rfl) rfl ?_); refine r_v (q_assignB rfl) rfl ?_
  refine r_nil ?_
  exact c_ret (bq1 ⟨rfl, h.drop.drop.drop.drop⟩)
end
end Go.Proofs.Ytgahjjihfibbnaa
