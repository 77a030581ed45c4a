/- Layer 19: the walk of 'SnapOwn'. -/
import Derived.Test.YtgahjjihfibbnaaLaw19a
import Derived.Test.YtgahjjihfibbnaaSame
namespace Go.Proofs.Ytgahjjihfibbnaa
open Go.Hw
set_option maxHeartbeats 8000000
section
variable {w : World} {sl : Option Addr} {c : Nat} {L : List Smp}
abbrev oS (L : List Smp) : SlotV := ⟨true, false, 0, 0, false, 0, L, [⟨1, 0, 0, 0, 5⟩]⟩
abbrev oX (L : List Smp) : SnapV := ofX (oS L) (-9223372036854775808) 9223372036854775807 [⟨1, 0, 0, 0, 5⟩] L
abbrev oP (a : Option Addr) (m : Int) : HProp := Own 53 5 a 1 1 (prtsV [⟨m, 0, 0, 0, 5⟩])
abbrev oT (L : List Smp) (a : Option Addr) (c : Nat) (M : List Smp) : HProp := Own 56 2 a L.length c (smpsV M)
abbrev oR (r : Nat) (cs : List Value) : HProp := pt r (.cells cs.toArray 43 (0, 0))

theorem law19_SnapOwn (hr : Rd w 2 sl L.length (smpsV L)) (hb : ∀ b o, sl = some ⟨b, o, none⟩ → 0 < L.length → b < w.heap.size) (hT : ∀ s ∈ L, -9223372036854775808 ≤ s.T ∧ s.T ≤ 9223372036854775807) :
    Ret Try.prog 10 [.slice sl L.length c] w fun v w' => v = .bool true ∧ St w [] w' := by
  have h := St.init w
  generalize hw0 : w = w0 at h
  rw [hw0] at hr hb
  have hrd : ∀ {l w'}, St w0 l w' → Rd w' 2 sl L.length (smpsV L) := fun h => Rd.old h hr hb
  clear hw0
  refine enter Try.func10 rfl Try.results10 Try.ntmps10 rfl ?_
  refine c_seq (c_region ?_)
  refine r_v (q_assignB rfl) rfl ?_
  refine r_nil ?_
  refine c_seq (c_seq (c_region ?_))
  refine r_v (q_moveS rfl) rfl ?_; refine r_v (q_len rfl) rfl ?_; refine r_v (q_gtr rfl rfl) rfl ?_
  refine r_nil ?_
  refine c_cond _ rfl (fun hc => ?_) (fun hc => ?_)
  ·
    refine c_seq (c_region ?_)
    refine r_c rfl (x_call rfl (law19_awake h) ?_)
    rintro _ w ⟨rfl, h⟩
    refine r_v (q_assignB rfl) rfl ?_
    refine r_nil ?_
    exact c_ret (bq1 ⟨rfl, h⟩)
  have hn : L.length ≤ 50 := by simp at hc; omega
  refine c_skip ?_
  refine c_seq (c_region ?_)
  refine r_c rfl (x_bslice (r := []) h rfl rfl rfl fun b w h => ?_)
  refine r_v (q_moveS rfl) rfl ?_
  have h1 : St w0 [Own 56 2 (some ⟨b, 0, none⟩) 0 0 []] w := St.own_mk (cur := []) h rfl rfl (Nat.le_refl _)
  refine r_c rfl (x_append' h1 rfl rfl (hrd h1) (smps_one _) (Nat.zero_add _) (List.nil_append _) (by omega) (by omega) rfl fun a c1 w _ h => ?_)
  refine r_v (q_assignS rfl) rfl ?_
  refine r_nil ?_
  refine c_seq (c_region ?_)
  refine r_v (q_moveS rfl) rfl ?_
  refine r_v (q_build (r := [.bool false, .int .i64 0, .slice a L.length c1]) rfl) rfl ?_
  refine r_v (q_build (r := (Prt.mk 1 0 0 0 5).cells) rfl) rfl ?_
  refine r_c rfl (x_bslice (r := prtsV [⟨1, 0, 0, 0, 5⟩]) h rfl rfl rfl fun bp w h => ?_)
  refine r_v (q_build (r := (oS L).cells a c1 (some ⟨bp, 0, none⟩) 1) rfl) rfl ?_
  refine r_c rfl (x_alloc h fun r4 w h => ?_)
  refine r_c rfl (x_storeA (vs := (oS L).cells a c1 (some ⟨bp, 0, none⟩) 1) 0 h rfl rfl rfl rfl rfl rfl rfl fun w h => ?_)
  replace h : St w0 [pt r4 (.cells ((oS L).cells a c1 (some ⟨bp, 0, none⟩) 1).toArray 69 (0, 0)), pt bp (.cells (prtsV [⟨1, 0, 0, 0, 5⟩]).toArray 53 (0, 0)), oT L a c1 L] w := h
  refine r_nil ?_
  refine c_seq (c_region ?_)
  refine r_v (q_loadS (l := (oS L).cells a c1 (some ⟨bp, 0, none⟩) 1) rfl rfl (at_of (h.b 0 rfl) rfl)) rfl ?_
  refine r_c rfl (x_call rfl (snap_Of (s := oS L) (-9223372036854775808) 9223372036854775807 h (fun w' h' => (h'.f 2).own_rd) (fun w' h' => ⟨rfl, .inr ⟨bp, 0, rfl, at_of (h'.b 1 rfl) rfl⟩⟩) (by dsimp only; omega) (by show (1 + 1) * 40 ≤ _; decide)) ?_)
  rintro _ w ⟨a1, a2, rfl, h⟩
  have e1 : partsIn (-9223372036854775808) 9223372036854775807 (oS L).chunks = [⟨1, 0, 0, 0, 5⟩] := by show partsIn _ _ [⟨1, 0, 0, 0, 5⟩] = _; decide
  have e2 : tailIn (-9223372036854775808) 9223372036854775807 (oS L).opn = L := by
    unfold tailIn
    rw [List.filter_eq_self]
    intro s hs
    have := hT s hs
    simp; omega
  rw [e1, e2] at h ⊢
  refine r_c rfl (x_alloc h fun r5 w h => ?_)
  refine r_c rfl (x_storeA (vs := (oX L).cells a1 1 a2 L.length) 0 h rfl rfl rfl rfl rfl rfl rfl fun w h => ?_)
  replace h : St w0 [oR r5 ((oX L).cells a1 1 a2 L.length), oP a1 1, oT L a2 L.length L, pt r4 (.cells ((oS L).cells a c1 (some ⟨bp, 0, none⟩) 1).toArray 69 (0, 0)), pt bp (.cells (prtsV [⟨1, 0, 0, 0, 5⟩]).toArray 53 (0, 0)), oT L a c1 L] w := h
  refine r_nil ?_
  generalize hR : pt r4 (.cells ((oS L).cells a c1 (some ⟨bp, 0, none⟩) 1).toArray 69 (0, 0)) = R4 at h
  generalize hRp : pt bp (.cells (prtsV [⟨1, 0, 0, 0, 5⟩]).toArray 53 (0, 0)) = Rp at h
  refine c_seq (c_seq (c_region ?_))
  refine r_v (q_fa rfl) rfl ?_; refine r_v (q_load rfl (h.b 0) rfl) rfl ?_; refine r_v (q_len rfl) rfl ?_; refine r_v (q_moveI rfl) rfl ?_
  refine r_nil ?_
  refine c_block ?_
  refine c_loop (Γ := Nat × Int) (fun k => [(0, .slice sl L.length c), (3, .slice a L.length c1), (4, .pointer (some ⟨r4, 0, none⟩)), (5, .pointer (some ⟨r5, 0, none⟩)), (27, .int .i64 1), (28, .int .i64 k.1)])
    (fun k w => k.1 ≤ 1 ∧ St w0 [oR r5 ((oX L).cells a1 1 a2 L.length), oP a1 k.2, oT L a2 L.length L, R4, Rp, oT L a c1 L] w) (fun k => 1 - k.1) (0, 1) ⟨rfl, rfl, rfl, rfl, rfl, rfl, trivial⟩ ⟨by omega, h⟩ ?_
  clear h
  rintro ⟨k, m⟩ w e ⟨hk, h⟩
  dsimp only at hk h ⊢
  refine c_seq (c_region ?_)
  refine r_v (q_lss rfl rfl) rfl ?_
  refine r_nil ?_
  refine c_seq (c_cond (decide ((k : Int) < 1)) rfl (fun hc => ?_) (fun hc => ?_))
  ·
    obtain rfl : k = 0 := by simp at hc; omega
    obtain ⟨g, rfl⟩ := (h.f 1).own_some (by omega : 0 < 1)
    refine c_skip ?_
    refine c_seq (c_block ?_)
    refine c_seq (c_region ?_)
    refine r_v (q_moveI rfl) rfl ?_; refine r_v (q_assignI rfl) rfl ?_
    refine r_nil ?_
    refine c_region ?_
    refine r_v (q_fa rfl) rfl ?_; refine r_v (q_load rfl (h.b 0) rfl) rfl ?_; refine r_v (q_moveI rfl) rfl ?_
    refine r_v (q_idx (j := 0) rfl rfl rfl (Nat.zero_lt_one) rfl) rfl ?_
    refine r_v (q_fa rfl) rfl ?_
    refine r_c rfl (x_ownset (v := .int .i64 9) (h.f 1) rfl rfl (by decide) rfl fun w h => ?_)
    replace h : St w0 [oP (some ⟨g, 0, none⟩) 9, oR r5 ((oX L).cells (some ⟨g, 0, none⟩) 1 a2 L.length), oT L a2 L.length L, R4, Rp, oT L a c1 L] w := h
    refine r_nil ?_
    refine c_region ?_
    refine r_v (q_add rfl rfl) rfl ?_; refine r_v (q_moveI rfl) rfl ?_
    exact r_nil ⟨(1, 9), ⟨rfl, rfl, rfl, rfl, rfl, rfl, trivial⟩, ⟨by decide, h.f 1⟩, by decide⟩
  clear hc
  refine c_exit ?_
  have hXwf : (oX L).Wf := ofX_wf (by show 1 * 40 ≤ _; decide) (by omega)
  refine c_seq (c_region ?_)
  refine r_v (q_loadS (l := (oX L).cells a1 1 a2 L.length) rfl rfl (at_of (h.b 0 rfl) rfl)) rfl ?_
  refine r_c rfl (x_call rfl (snap_Tail (x := oX L) hXwf h (fun w' h' => (h'.f 2).own_rd)) ?_)
  rintro _ w ⟨a7, c7, rfl, h⟩
  replace h : St w0 [oT L a7 c7 L, oR r5 ((oX L).cells a1 1 a2 L.length), oP a1 m, oT L a2 L.length L, R4, Rp, oT L a c1 L] w := h
  refine r_v (q_assignS rfl) rfl ?_
  refine r_nil ?_
  refine c_seq (c_seq (c_region ?_))
  refine r_v (q_moveS rfl) rfl ?_; refine r_v (q_len rfl) rfl ?_; refine r_v (q_moveI rfl) rfl ?_
  refine r_nil ?_
  refine c_block ?_
  refine c_loop (Γ := Nat × List Smp) (fun k => [(0, .slice sl L.length c), (3, .slice a L.length c1), (4, .pointer (some ⟨r4, 0, none⟩)), (5, .pointer (some ⟨r5, 0, none⟩)), (7, .slice a7 L.length c7), (40, .int .i64 L.length), (41, .int .i64 k.1)])
    (fun k w => k.1 ≤ L.length ∧ k.2.length = L.length ∧ St w0 [oT L a7 c7 k.2, oR r5 ((oX L).cells a1 1 a2 L.length), oP a1 m, oT L a2 L.length L, R4, Rp, oT L a c1 L] w) (fun k => L.length - k.1) (0, L) ⟨rfl, rfl, rfl, rfl, rfl, rfl, rfl, trivial⟩ ⟨by omega, rfl, h⟩ ?_
  clear h hk
  rintro ⟨k, M⟩ w e ⟨hk, hM, h⟩
  dsimp only at hk hM h ⊢
  refine c_seq (c_region ?_)
  refine r_v (q_lss rfl rfl) rfl ?_
  refine r_nil ?_
  refine c_seq (c_cond (decide ((k : Int) < (L.length : Int))) rfl (fun hc => ?_) (fun hc => ?_))
  ·
    have hkn : k < L.length := by simp at hc; omega
    obtain ⟨g, rfl⟩ := h.own_some (by omega : 0 < L.length)
    have hget := List.getElem?_eq_getElem (show k < M.length by omega)
    generalize M[k] = s at hget
    refine c_skip ?_
    refine c_seq (c_block ?_)
    refine c_seq (c_region ?_)
    refine r_v (q_moveI rfl) rfl ?_; refine r_v (q_assignI rfl) rfl ?_
    refine r_nil ?_
    refine c_region ?_
    refine r_v (q_moveS rfl) rfl ?_; refine r_v (q_moveI rfl) rfl ?_
    refine r_v (q_idx rfl rfl rfl hkn (Nat.zero_add _)) rfl ?_
    refine r_v (q_fa rfl) rfl ?_
    refine r_v (q_loadc (v := .int .u64 s.V) rfl (by have := h.own_rd.elem smp_len hget 1 _ rfl; simpa using this)) rfl ?_
    refine r_v (q_add rfl rfl) rfl ?_
    refine r_v (q_idx rfl rfl rfl hkn (Nat.zero_add _)) rfl ?_
    refine r_v (q_fa rfl) rfl ?_
    refine r_c rfl (x_ownset (v := .int .u64 (IntKind.u64.wrap (s.V + 1))) h rfl rfl (by simp; omega) rfl fun w h => ?_)
    replace h : St w0 [Own 56 2 (some ⟨g, 0, none⟩) L.length c7 ((M.flatMap Smp.cells).set (k * 2 + 1) (.int .u64 (IntKind.u64.wrap (s.V + 1)))), oR r5 ((oX L).cells a1 1 a2 L.length), oP a1 m, oT L a2 L.length L, R4, Rp, oT L a c1 L] w := h
    have hfs := flat_set smp_len M k s ⟨s.T, IntKind.u64.wrap (s.V + 1)⟩ 1 (.int .u64 (IntKind.u64.wrap (s.V + 1))) hget (by decide) rfl
    rw [hfs] at h
    refine r_nil ?_
    refine c_region ?_
    refine r_v (q_add rfl rfl) rfl ?_
    refine r_is (.int .i64 ((k + 1 : Nat) : Int)) (by rw [wrap64 (by omega) (by omega)]; rfl) ?_
    refine r_v (q_moveI rfl) rfl ?_
    exact r_nil ⟨(k + 1, _), ⟨rfl, rfl, rfl, rfl, rfl, rfl, rfl, trivial⟩, ⟨by dsimp only; omega, by simpa using hM, h⟩, by dsimp only; omega⟩
  clear hc hk hM
  refine c_exit ?_
  replace h := h.drop
  refine c_seq (c_region ?_)
  refine r_v (q_loadS (l := (oX L).cells a1 1 a2 L.length) rfl rfl (at_of (h.b 0 rfl) rfl)) rfl ?_
  refine r_c rfl (x_call rfl (snap_Tail (x := oX L) hXwf h (fun w' h' => (h'.f 2).own_rd)) ?_)
  rintro _ w ⟨a9, c9, rfl, h⟩
  replace h : St w0 [oR r5 ((oX L).cells a1 1 a2 L.length), oT L a2 L.length L, oT L a9 c9 L, R4, Rp, oT L a c1 L] w := ((h.f 2).drop.f 2).f 2 |>.of_all (by simp only [bring, all_star] <;> ac_rfl)
  refine r_v (q_assignS rfl) rfl ?_
  refine r_nil ?_
  refine c_seq (c_seq (c_region ?_))
  refine r_v (q_fa rfl) rfl ?_; refine r_v (q_load rfl (h.b 0) rfl) rfl ?_; refine r_v (q_len rfl) rfl ?_; refine r_v (q_moveI rfl) rfl ?_
  refine r_nil ?_
  refine c_block ?_
  refine c_loop (Γ := Nat × List Smp) (fun k => [(0, .slice sl L.length c), (3, .slice a L.length c1), (4, .pointer (some ⟨r4, 0, none⟩)), (5, .pointer (some ⟨r5, 0, none⟩)), (9, .slice a9 L.length c9), (57, .int .i64 L.length), (58, .int .i64 k.1)])
    (fun k w => k.1 ≤ L.length ∧ k.2.length = L.length ∧ St w0 [oR r5 ((oX L).cells a1 1 a2 L.length), oT L a2 L.length k.2, oT L a9 c9 L, R4, Rp, oT L a c1 L] w) (fun k => L.length - k.1) (0, L) ⟨rfl, rfl, rfl, rfl, rfl, rfl, rfl, trivial⟩ ⟨by omega, rfl, h⟩ ?_
  clear h
  rintro ⟨k, M⟩ w e ⟨hk, hM, h⟩
  dsimp only at hk hM h ⊢
  refine c_seq (c_region ?_)
  refine r_v (q_lss rfl rfl) rfl ?_
  refine r_nil ?_
  refine c_seq (c_cond (decide ((k : Int) < (L.length : Int))) rfl (fun hc => ?_) (fun hc => ?_))
  ·
    have hkn : k < L.length := by simp at hc; omega
    obtain ⟨g, rfl⟩ := (h.f 1).own_some (by omega : 0 < L.length)
    have hget := List.getElem?_eq_getElem (show k < M.length by omega)
    generalize M[k] = s at hget
    refine c_skip ?_
    refine c_seq (c_block ?_)
    refine c_seq (c_region ?_)
    refine r_v (q_moveI rfl) rfl ?_; refine r_v (q_assignI rfl) rfl ?_
    refine r_nil ?_
    refine c_region ?_
    refine r_v (q_fa rfl) rfl ?_; refine r_v (q_load rfl (h.b 0) rfl) rfl ?_; refine r_v (q_moveI rfl) rfl ?_
    refine r_v (q_idx rfl rfl rfl hkn (Nat.zero_add _)) rfl ?_
    refine r_v (q_fa rfl) rfl ?_
    refine r_v (q_loadc (v := .int .i64 s.T) rfl (by have := (h.f 1).own_rd.elem smp_len hget 0 _ rfl; simpa using this)) rfl ?_
    refine r_v (q_add rfl rfl) rfl ?_
    refine r_v (q_idx rfl rfl rfl hkn (Nat.zero_add _)) rfl ?_
    refine r_v (q_fa rfl) rfl ?_
    refine r_c rfl (x_ownset (v := .int .i64 (IntKind.i64.wrap (s.T + 1))) (h.f 1) rfl rfl (by simp; omega) rfl fun w h => ?_)
    rw [show smpsV M = M.flatMap Smp.cells from rfl] at h
    have hfs := flat_set smp_len M k s ⟨IntKind.i64.wrap (s.T + 1), s.V⟩ 0 (.int .i64 (IntKind.i64.wrap (s.T + 1))) hget (by decide) rfl
    rw [Nat.add_zero] at hfs
    refine r_nil ?_
    refine c_region ?_
    refine r_v (q_add rfl rfl) rfl ?_
    refine r_is (.int .i64 ((k + 1 : Nat) : Int)) (by rw [wrap64 (by omega) (by omega)]; rfl) ?_
    refine r_v (q_moveI rfl) rfl ?_
    refine r_nil ⟨(k + 1, M.set k ⟨IntKind.i64.wrap (s.T + 1), s.V⟩), ⟨rfl, rfl, rfl, rfl, rfl, rfl, rfl, trivial⟩, ⟨by dsimp only; omega, by simpa using hM, ?_⟩, by dsimp only; omega⟩
    show St w0 [_, Own 56 2 (some ⟨g, 0, none⟩) L.length L.length ((M.set k ⟨IntKind.i64.wrap (s.T + 1), s.V⟩).flatMap Smp.cells), _, _, _, _] w
    rw [← hfs]
    exact h.f 1
  clear hc
  refine c_exit ?_
  subst hR hRp
  replace h := h.drop.drop
  refine c_seq (c_region ?_)
  refine r_v (q_moveS rfl) rfl ?_; refine r_v (q_moveS rfl) rfl ?_
  refine r_c rfl (x_call rfl (ref10_Same h (fun w' h' => (h'.f 3).own_rd) (fun w' h' => hrd h') (by omega)) ?_)
  rintro _ w ⟨rfl, h⟩
  rw [decide_eq_true rfl]
  refine r_v (q_moveB rfl) rfl ?_; (first | refine r_gd rfl rfl ?_ | refine r_gn rfl rfl rfl ?_ | refine r_gu rfl rfl ?_ | refine r_gd rfl (by assumption) ?_ | refine r_gn rfl (by assumption) rfl ?_); refine r_v (q_fa rfl) rfl ?_; (first | refine r_gd rfl rfl ?_ | refine r_gn rfl rfl rfl ?_ | refine r_gu rfl rfl ?_ | refine r_gd rfl (by assumption) ?_ | refine r_gn rfl (by assumption) rfl ?_); refine r_v (q_load rfl (h.b 1) rfl) rfl ?_; (first | refine r_gd rfl rfl ?_ | refine r_gn rfl rfl rfl ?_ | refine r_gu rfl rfl ?_ | refine r_gd rfl (by assumption) ?_ | refine r_gn rfl (by assumption) rfl ?_)
  refine r_v (q_idx (j := 0) rfl rfl rfl (Nat.zero_lt_one) rfl) rfl ?_
  (first | refine r_gd rfl rfl ?_ | refine r_gn rfl rfl rfl ?_ | refine r_gu rfl rfl ?_ | refine r_gd rfl (by assumption) ?_ | refine r_gn rfl (by assumption) rfl ?_); refine r_v (q_fa rfl) rfl ?_; (first | refine r_gd rfl rfl ?_ | refine r_gn rfl rfl rfl ?_ | refine r_gu rfl rfl ?_ | refine r_gd rfl (by assumption) ?_ | refine r_gn rfl (by assumption) rfl ?_)
  refine r_v (q_load (v := .int .i64 1) rfl (h.b 2) rfl) rfl ?_
  (first | refine r_gd rfl rfl ?_ | refine r_gn rfl rfl rfl ?_ | refine r_gu rfl rfl ?_ | refine r_gd rfl (by assumption) ?_ | refine r_gn rfl (by assumption) rfl ?_); refine r_v (q_eql rfl rfl) rfl ?_; (first | refine r_v (q_pick1 rfl rfl rfl) rfl ?_ | refine r_v (q_pick0 rfl rfl rfl) rfl ?_ | refine r_v (q_pick1 rfl (by assumption) rfl) rfl ?_ | refine r_v (q_pick0 rfl (by assumption) rfl) rfl ?_ | refine r_v (q_pickB rfl rfl rfl) rfl ?_); refine r_v (q_moveB rfl) rfl ?_; (first | refine r_gd rfl rfl ?_ | refine r_gn rfl rfl rfl ?_ | refine r_gu rfl rfl ?_ | refine r_gd rfl (by assumption) ?_ | refine r_gn rfl (by assumption) rfl ?_); refine r_v (q_moveS rfl) rfl ?_; (first | refine r_gd rfl rfl ?_ | refine r_gn rfl rfl rfl ?_ | refine r_gu rfl rfl ?_ | refine r_gd rfl (by assumption) ?_ | refine r_gn rfl (by assumption) rfl ?_); refine r_v (q_moveS rfl) rfl ?_; (first | refine r_gd rfl rfl ?_ | refine r_gn rfl rfl rfl ?_ | refine r_gu rfl rfl ?_ | refine r_gd rfl (by assumption) ?_ | refine r_gn rfl (by assumption) rfl ?_)
  refine r_c rfl (x_call rfl (ref10_Same h (fun w' h' => h'.own_rd) (fun w' h' => hrd h') (by omega)) ?_)
  rintro _ w ⟨rfl, h⟩
  rw [decide_eq_true rfl]
  (first | refine r_v (q_pick1 rfl rfl rfl) rfl ?_ | refine r_v (q_pick0 rfl rfl rfl) rfl ?_ | refine r_v (q_pick1 rfl (by assumption) rfl) rfl ?_ | refine r_v (q_pick0 rfl (by assumption) rfl) rfl ?_ | refine r_v (q_pickB rfl rfl rfl) rfl ?_); refine r_v (q_moveB rfl) rfl ?_; (first | refine r_gd rfl rfl ?_ | refine r_gn rfl rfl rfl ?_ | refine r_gu rfl rfl ?_ | refine r_gd rfl (by assumption) ?_ | refine r_gn rfl (by assumption) rfl ?_)
  refine r_c rfl (x_call rfl (law19_awake h) ?_)
  rintro _ w ⟨rfl, h⟩
  (first | refine r_v (q_pick1 rfl rfl rfl) rfl ?_ | refine r_v (q_pick0 rfl rfl rfl) rfl ?_ | refine r_v (q_pick1 rfl (by assumption) rfl) rfl ?_ | refine r_v (q_pick0 rfl (by assumption) rfl) rfl ?_ | refine r_v (q_pickB rfl rfl rfl) rfl ?_); refine r_v (q_assignB rfl) rfl ?_
  refine r_nil ?_
  exact c_ret (bq1 ⟨rfl, h.drop.drop.drop.drop⟩)
end
end Go.Proofs.Ytgahjjihfibbnaa
