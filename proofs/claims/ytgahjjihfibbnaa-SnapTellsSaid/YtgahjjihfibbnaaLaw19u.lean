/- Layer 19: the walk of 'SnapTells'. -/
import Derived.Test.YtgahjjihfibbnaaLaw19t
namespace Go.Proofs.Ytgahjjihfibbnaa
open Go.Hw
set_option maxHeartbeats 16000000
section
variable {w : World} {a0 a1 : Option Addr} {n0 c0 c1 : Nat} {ts : List Int} {L : List Smp}
abbrev tS (L : List Smp) (Ps : List Prt) : SlotV := ⟨true, false, 3, 8, false, 0, L, Ps⟩
abbrev tR (r : Nat) (L : List Smp) (Ps : List Prt) (a1 : Option Addr) (c1 : Nat) (ac : Option Addr) (cc : Nat) : HProp := pt r (.cells ((tS L Ps).cells a1 c1 ac cc).toArray 69 (0, 0))
abbrev tX (r : Nat) (cs : List Value) : HProp := pt r (.cells cs.toArray 43 (0, 0))
abbrev tO (Ps : List Prt) (ac : Option Addr) (cc : Nat) : HProp := Own 53 5 ac Ps.length cc (prtsV Ps)

instance eqiPrt : EqI Try.prog 53 [.i64, .i64, .i64, .i64, .i64] := ⟨⟨_, Try.underlying53, by kernel_rfl⟩, by kernel_rfl, by kernel_rfl⟩

theorem law19_SnapTells (f0 t0 : Int) (small : Bool) (there : Int) (hr0 : Rd w 1 a0 n0 (ts.map (Value.int .i64))) (hb0 : ∀ b o, a0 = some ⟨b, o, none⟩ → 0 < n0 → b < w.heap.size)
    (hr1 : Rd w 2 a1 L.length (smpsV L)) (hb1 : ∀ b o, a1 = some ⟨b, o, none⟩ → 0 < L.length → b < w.heap.size) (hn0 : n0 ≤ 9223372036854775807) :
    Ret Try.prog 11 [.slice a0 n0 c0, .slice a1 L.length c1, .int .i64 f0, .int .i64 t0, .bool small, .int .i64 there] w fun v w' => v = .bool true ∧ St w [] w' := by
  have h := St.init w
  generalize hw0 : w = w0 at h
  rw [hw0] at hr0 hb0 hr1 hb1
  have hrt : ∀ {l w'}, St w0 l w' → Rd w' 1 a0 n0 (ts.map (Value.int .i64)) := fun h => Rd.old h hr0 hb0
  have hrl : ∀ {l w'}, St w0 l w' → Rd w' 2 a1 L.length (smpsV L) := fun h => Rd.old h hr1 hb1
  have hlt : ts.length = n0 := by have := hr0.1; simpa using this
  clear hw0
  refine enter Try.func11 rfl Try.results11 Try.ntmps11 rfl ?_
  refine c_seq (c_region ?_)
  refine r_v (q_assignB rfl) rfl ?_
  refine r_nil ?_
  refine c_seq (c_seq (c_region ?_))
  refine r_v (q_moveS rfl) rfl ?_; refine r_v (q_len rfl) rfl ?_; refine r_v (q_gtr rfl rfl) rfl ?_
  refine r_nil ?_
  refine c_cond _ rfl (fun hc => ?_) (fun hc => ?_)
  ·
    refine c_seq (c_region ?_)
    refine r_c rfl (x_call rfl (law19_awake h) ?_)
    rintro _ w ⟨rfl, h⟩
    refine r_v (q_assignB rfl) rfl ?_
    refine r_nil ?_
    exact c_ret (bq1 ⟨rfl, h⟩)
  have hn : L.length ≤ 30 := by simp at hc; omega
  refine c_skip ?_
  refine c_cut (Γ := Int × Int) (fun k => [(0, .slice a0 n0 c0), (1, .slice a1 L.length c1), (2, .int .i64 k.1), (3, .int .i64 k.2), (5, .int .i64 there)]) (fun _ w => St w0 [] w) ?_ ?_
  · refine c_seq (c_region ?_)
    refine r_v (q_moveB rfl) rfl ?_
    refine r_nil ?_
    refine c_cond small rfl (fun hc => ?_) (fun hc => ?_)
    · refine c_region ?_
      refine r_v (q_moveI rfl) rfl ?_; refine r_v (q_and rfl rfl) rfl ?_; refine r_v (q_moveI rfl) rfl ?_; refine r_v (q_and rfl rfl) rfl ?_; refine r_v (q_assignI rfl) rfl ?_; refine r_v (q_assignI rfl) rfl ?_
      exact r_nil ⟨(_, _), ⟨rfl, rfl, rfl, rfl, rfl, trivial⟩, h⟩
    · exact c_skip ⟨(f0, t0), ⟨rfl, rfl, rfl, rfl, rfl, trivial⟩, h⟩
  clear h hc
  rintro ⟨f, t⟩ w e h
  refine c_seq (c_region ?_)
  refine r_c rfl (x_call rfl (blob_New _ h) ?_)
  rintro _ w ⟨p, rfl, h⟩
  replace h : St w0 [IsStore p ⟨1000, 0, 0, 0, []⟩] w := h
  refine r_v (q_assignP rfl) rfl ?_
  refine r_nil ?_
  refine c_seq (c_seq (c_region ?_))
  refine r_v (q_moveP rfl) rfl ?_; refine r_v (q_eqnil rfl rfl) rfl ?_
  refine r_nil ?_
  refine c_false rfl (c_skip ?_)
  refine c_seq (c_region ?_)
  refine r_v (q_moveS rfl) rfl ?_
  refine r_v (q_build (r := [.bool false, .int .i64 0, .slice a1 L.length c1]) rfl) rfl ?_
  refine r_v (q_build (r := (tS L []).cells a1 c1 none 0) rfl) rfl ?_
  refine r_c rfl (x_alloc h fun r14 w h => ?_)
  refine r_c rfl (x_storeA (vs := (tS L []).cells a1 c1 none 0) 0 h rfl rfl rfl rfl rfl rfl rfl fun w h => ?_)
  replace h : St w0 [tR r14 L [] a1 c1 none 0, IsStore p ⟨1000, 0, 0, 0, []⟩] w := h
  refine r_nil ?_
  refine c_seq (c_region ?_)
  refine r_v (q_assignS rfl) rfl ?_
  refine r_nil ?_
  refine c_seq (c_region ?_)
  refine r_v (q_assignB rfl) rfl ?_
  refine r_nil ?_
  refine c_cut (Γ := Nat × List Prt × List Prt × Bool × Sto × Option Addr × Nat × Option Addr × Nat) (fun γ => match γ with
      | (k, Ps, W, all, S, ac, cc, aw, cw) => [(1, .slice a1 L.length c1), (2, .int .i64 f), (3, .int .i64 t), (5, .int .i64 there), (13, .pointer (some ⟨p, 0, none⟩)), (14, .pointer (some ⟨r14, 0, none⟩)), (15, .slice aw W.length cw), (16, .bool all)])
    (fun γ w => match γ with
      | (k, Ps, W, all, S, ac, cc, aw, cw) => TellInv f t there k Ps W all S ∧ St w0 [tO Ps ac cc, tR r14 L Ps a1 c1 ac cc, tO W aw cw, IsStore p S] w) ?_ ?_
  refine c_seq (c_region ?_)
  refine r_v (q_assignI rfl) rfl ?_
  refine r_nil ?_
  have inv0 : TellInv f t there 0 [] [] true ⟨1000, 0, 0, 0, []⟩ := by
    refine ⟨rfl, fun j q hq => by simp at hq, by decide, rfl, rfl, rfl, rfl, by decide, by decide, rfl, List.nodup_nil, fun id => ?_⟩
    rw [if_neg (by omega)]; rfl
  refine c_block ?_
  refine c_loop (Γ := Nat × List Prt × List Prt × Bool × Sto × Option Addr × Nat × Option Addr × Nat) (fun γ => match γ with
      | (k, Ps, W, all, S, ac, cc, aw, cw) => [(0, .slice a0 n0 c0), (1, .slice a1 L.length c1), (2, .int .i64 f), (3, .int .i64 t), (5, .int .i64 there), (13, .pointer (some ⟨p, 0, none⟩)), (14, .pointer (some ⟨r14, 0, none⟩)), (15, .slice aw W.length cw), (16, .bool all), (17, .int .i64 (2 * (k : Int)))])
    (fun γ w => match γ with
      | (k, Ps, W, all, S, ac, cc, aw, cw) => TellInv f t there k Ps W all S ∧ St w0 [tO Ps ac cc, tR r14 L Ps a1 c1 ac cc, tO W aw cw, IsStore p S] w)
    (fun γ => 8 - γ.1) (0, [], [], true, ⟨1000, 0, 0, 0, []⟩, none, 0, none, 0) ⟨rfl, rfl, rfl, rfl, rfl, rfl, rfl, rfl, rfl, rfl, trivial⟩ ⟨inv0, (St.ownNil _ _ ((St.ownNil _ _ h).f 1)).of_all (by simp only [bring, all_star]; ac_rfl)⟩ ?_
  clear h inv0
  rintro ⟨k, Ps, W, all, S, ac, cc, aw, cw⟩ w e ⟨inv, h⟩
  dsimp only at inv h ⊢
  have hk8 := inv.k8
  refine c_seq (c_seq (c_region ?_))
  refine r_v (q_moveI rfl) rfl ?_; refine r_v (q_add rfl rfl) rfl ?_
  refine r_is (.int .i64 (2 * (k : Int) + 1)) (by rw [wrap64 (by omega) (by omega)]) ?_
  refine r_v (q_moveS rfl) rfl ?_; refine r_v (q_len rfl) rfl ?_; refine r_v (q_lss rfl rfl) rfl ?_
  by_cases h1 : 2 * k + 1 < n0
  · refine r_is (.bool true) (by simp; omega) ?_
    refine r_v (q_moveB rfl) rfl ?_; (first | refine r_gd rfl rfl ?_ | refine r_gn rfl rfl rfl ?_ | refine r_gu rfl rfl ?_ | refine r_gd rfl (by assumption) ?_ | refine r_gn rfl (by assumption) rfl ?_); refine r_v (q_moveI rfl) rfl ?_; (first | refine r_gd rfl rfl ?_ | refine r_gn rfl rfl rfl ?_ | refine r_gu rfl rfl ?_ | refine r_gd rfl (by assumption) ?_ | refine r_gn rfl (by assumption) rfl ?_); refine r_v (q_lss rfl rfl) rfl ?_
    refine r_bool' fun b hb => ?_
    (first | refine r_v (q_pick1 rfl rfl rfl) rfl ?_ | refine r_v (q_pick0 rfl rfl rfl) rfl ?_ | refine r_v (q_pick1 rfl (by assumption) rfl) rfl ?_ | refine r_v (q_pick0 rfl (by assumption) rfl) rfl ?_ | refine r_v (q_pickB rfl rfl rfl) rfl ?_)
    refine r_nil ?_
    refine c_cond b rfl (fun hc => ?_) (fun hc => ?_)
    ·
      subst hc
      have hk16 : k < 8 := by simp at hb; omega
      clear hb
      have hcur := h
      obtain ⟨b0, o0, rfl⟩ := (hrt h).some (by omega)
      replace h := hcur
      clear hcur
      have hx0 : (ts.map (Value.int .i64))[2 * k]? = some (.int .i64 (ts[2 * k]'(by omega))) := by simp [show 2 * k < ts.length by omega]
      have hx1 : (ts.map (Value.int .i64))[2 * k + 1]? = some (.int .i64 (ts[2 * k + 1]'(by omega))) := by simp [show 2 * k + 1 < ts.length by omega]
      generalize ts[2 * k]'(by omega) = x0 at hx0
      generalize ts[2 * k + 1]'(by omega) = x1 at hx1
      refine c_skip ?_
      refine c_seq (c_block ?_)
      refine c_seq (c_region ?_)
      refine r_v (q_moveI rfl) rfl ?_
      refine r_v (q_quo rfl rfl (by decide)) rfl ?_
      refine r_is (.int .i64 k) (by rw [Int.tdiv_eq_ediv_of_nonneg (by omega), wrap64 (by omega) (by omega)]; congr 1; omega) ?_
      refine r_v (q_add rfl rfl) rfl ?_
      refine r_is (.int .i64 ((k : Int) + 1)) (by rw [wrap64 (by omega) (by omega)]) ?_
      refine r_v (q_moveI rfl) rfl ?_; refine r_v (q_moveS rfl) rfl ?_; refine r_v (q_moveI rfl) rfl ?_
      refine r_v (q_idx (j := 2 * k) rfl rfl (by omega) (by omega) rfl) rfl ?_
      refine r_v (q_loadc (v := .int .i64 x0) rfl (by have := (hrt h).cell hx0; simpa using this)) rfl ?_
      refine r_v (q_and rfl rfl) rfl ?_
      have hF := and_mask (a := x0) (m := 63) 6 (by decide) (by decide)
      generalize bitOp .and .i64 x0 63 = F at hF ⊢
      have hF' : 0 ≤ F ∧ F < 64 := by omega
      clear hF
      refine r_v (q_build (r := (Prt.mk (k + 1) 1 (2 * k) F 0).cells) rfl) rfl ?_
      refine r_c rfl (x_alloc h fun r18 w h => ?_)
      refine r_c rfl (x_storeA (vs := (Prt.mk (k + 1) 1 (2 * k) F 0).cells) 0 h rfl rfl rfl rfl rfl rfl rfl fun w h => ?_)
      replace h : St w0 [pt r18 (.cells (Prt.mk (k + 1) 1 (2 * k) F 0).cells.toArray 53 (0, 0)), tO Ps ac cc, tR r14 L Ps a1 c1 ac cc, tO W aw cw, IsStore p S] w := h
      refine r_nil ?_
      refine c_seq (c_any (some 10) (fun w => St w0 _ w) (by kernel_rfl) (by kernel_rfl) h.drew fun w h => ?_)
      refine cur_pure rfl rfl rfl rfl (fun _ => h) (fun _ => flt_v rfl (q_fa rfl)) ?_; refine cur_float rfl rfl rfl rfl h (fun _ h => flt_v rfl (q_load rfl (h.b 0) rfl)) ?_; refine cur_pure rfl rfl rfl rfl (fun _ => h) (fun _ => flt_v rfl (q_moveS rfl)) ?_; refine cur_pure rfl rfl rfl rfl (fun _ => h) (fun _ => flt_v rfl (q_moveI rfl)) ?_; refine cur_pure rfl rfl rfl rfl (fun _ => h) (fun _ => flt_v rfl (q_add rfl rfl)) ?_
      refine cur_pure rfl rfl rfl rfl (fun _ => h) (fun _ => flt_v rfl (q_idx (j := 2 * k + 1) rfl rfl (by rw [wrap64 (by omega) (by omega)]; omega) h1 rfl)) ?_
      refine cur_float rfl rfl rfl rfl h (fun w h => flt_v rfl (q_loadc (v := .int .i64 x1) rfl (by have := (hrt h).cell hx1; simpa using this))) ?_
      refine cur_pure rfl rfl rfl rfl (fun _ => h) (fun _ => flt_v rfl (q_and rfl rfl)) ?_; refine cur_pure rfl rfl rfl rfl (fun _ => h) (fun _ => flt_v rfl (q_add rfl rfl)) ?_; refine cur_pure rfl rfl rfl rfl (fun _ => h) (fun _ => flt_v rfl (q_fa rfl)) ?_; refine cur_skip ?_
      refine cur_last 10 rfl rfl rfl ?_
      refine x_store 0 h rfl (show _ = Value.int .i64 _ from rfl) rfl rfl rfl rfl fun w h => ?_
      have hG := and_mask (a := x1) (m := 15) 4 (by decide) (by decide)
      replace h : St w0 [pt r18 (.cells (Prt.mk (k + 1) 1 (2 * k) F (IntKind.i64.wrap (F + bitOp .and .i64 x1 15))).cells.toArray 53 (0, 0)), tO Ps ac cc, tR r14 L Ps a1 c1 ac cc, tO W aw cw, IsStore p S] w := h
      rw [wrap64 (x := F + _) (by omega) (by omega)] at h
      generalize bitOp .and .i64 x1 15 = G at hG h
      have hG' : 0 ≤ G ∧ G < 16 := by omega
      clear hG
      generalize hq : (Prt.mk (k + 1) 1 (2 * k) F (F + G)) = q at h
      have hqb : q.blob = k + 1 := by subst hq; rfl
      have hqf : q.frm ≤ q.upto := by subst hq; dsimp only; omega
      clear hq
      refine c_seq (c_region ?_)
      refine r_v (q_fa rfl) rfl ?_; refine r_v (q_load rfl (h.b 2) rfl) rfl ?_
      refine r_v (q_loadS (l := q.cells) rfl rfl (at_of (h.b 0 rfl) rfl)) rfl ?_
      refine r_c rfl (x_bslice (r := q.cells) h rfl rfl rfl fun bs w h => ?_)
      have hPl : Ps.length ≤ 8 := by rw [inv.len]; omega
      have hWl : W.length ≤ 8 := by rw [inv.want]; exact Nat.le_trans (partsIn_le _ _ _) hPl
      refine r_c rfl (x_append' (ys := q.cells) (zs := prtsV (Ps ++ [q])) (m3 := (Ps ++ [q]).length) (h.f 2) rfl rfl ⟨rfl, .inr ⟨bs, 0, rfl, at_of (h.b 0 rfl) rfl⟩⟩ (fun u hu => by have := prts_one [q] u; simpa using this (by simpa using hu)) (by simp) (by simp [prtsV]) (by simp; omega) (by simp; omega) rfl fun ac' cc' w _ h => ?_)
      replace h : St w0 [tO (Ps ++ [q]) ac' cc', pt bs _, pt r18 (.cells q.cells.toArray 53 (0, 0)), tR r14 L Ps a1 c1 ac cc, tO W aw cw, IsStore p S] w := h
      refine r_v (q_fa rfl) rfl ?_
      refine r_c rfl (x_store 3 h rfl (show _ = Value.slice _ _ _ from rfl) rfl rfl rfl rfl fun w h => ?_)
      replace h : St w0 [pt r18 (.cells q.cells.toArray 53 (0, 0)), tO (Ps ++ [q]) ac' cc', tR r14 L (Ps ++ [q]) a1 c1 ac' cc', tO W aw cw, IsStore p S] w := ((h.f 1).drop).f 1
      refine r_nil ?_
      refine c_seq (c_seq (c_region ?_))
      refine r_v (q_moveP rfl) rfl ?_
      refine r_c rfl (x_bslice (r := [.int .u8 1]) h rfl rfl rfl fun bb w h => ?_)
      have hlast := inv.last
      have hfree : mget (S.last + 1) S.l = none := by
        rw [show mget (S.last + 1) S.l = S.view (S.last + 1) from rfl, inv.view, if_neg (by omega)]
      have hch := inv.ch; have hbu := inv.budget; have hy0 := inv.y0; have hy1 := inv.y1
      refine r_c rfl (x_call rfl (blob_AddT (n := 1) (bs := [1]) inv.ok (h.f 5) (fun w' h' => ⟨rfl, .inr ⟨bb, 0, rfl, at_of (h'.b 0 rfl) rfl⟩⟩) (by dsimp only [Sto.room]; omega) hfree) ?_)
      rintro _ w ⟨rfl, h⟩
      replace h : St w0 [pt r18 (.cells q.cells.toArray 53 (0, 0)), IsStore p ⟨S.budget, S.last + 1, S.bytes + 1, S.charged, mset (S.last + 1) ⟨[1], 1⟩ S.l⟩, tO (Ps ++ [q]) ac' cc', tR r14 L (Ps ++ [q]) a1 c1 ac' cc', tO W aw cw] w := ((h.f 1).drop).f 1
      refine r_v (q_moveT rfl) rfl ?_; refine r_v (q_ext rfl rfl) rfl ?_; refine r_v (q_ext rfl rfl) rfl ?_; refine r_v (q_assignI rfl) rfl ?_; refine r_v (q_assignB rfl) rfl ?_
      refine r_nil ?_
      refine c_seq (c_region ?_)
      refine r_v (q_moveB rfl) rfl ?_; refine r_v (q_not rfl) rfl ?_; refine r_v (q_moveB rfl) rfl ?_; (first | refine r_gd rfl rfl ?_ | refine r_gn rfl rfl rfl ?_ | refine r_gu rfl rfl ?_ | refine r_gd rfl (by assumption) ?_ | refine r_gn rfl (by assumption) rfl ?_); refine r_v (q_moveI rfl) rfl ?_; (first | refine r_gd rfl rfl ?_ | refine r_gn rfl rfl rfl ?_ | refine r_gu rfl rfl ?_ | refine r_gd rfl (by assumption) ?_ | refine r_gn rfl (by assumption) rfl ?_); refine r_v (q_fa rfl) rfl ?_; (first | refine r_gd rfl rfl ?_ | refine r_gn rfl rfl rfl ?_ | refine r_gu rfl rfl ?_ | refine r_gd rfl (by assumption) ?_ | refine r_gn rfl (by assumption) rfl ?_)
      refine r_v (q_load (v := .int .i64 q.blob) rfl (h.b 0) rfl) rfl ?_
      (first | refine r_gd rfl rfl ?_ | refine r_gn rfl rfl rfl ?_ | refine r_gu rfl rfl ?_ | refine r_gd rfl (by assumption) ?_ | refine r_gn rfl (by assumption) rfl ?_); refine r_v (q_neq rfl rfl) rfl ?_
      refine r_is (.bool false) (by simp; omega) ?_
      (first | refine r_v (q_pick1 rfl rfl rfl) rfl ?_ | refine r_v (q_pick0 rfl rfl rfl) rfl ?_ | refine r_v (q_pick1 rfl (by assumption) rfl) rfl ?_ | refine r_v (q_pick0 rfl (by assumption) rfl) rfl ?_ | refine r_v (q_pickB rfl rfl rfl) rfl ?_)
      refine r_nil ?_
      refine c_false rfl (c_skip ?_)
      have hsh := bit_shift (there := there) (i := 2 * (k : Int)) (j := k) rfl hk16
      refine c_cut (Γ := Sto) (fun _ => [(0, .slice (some ⟨b0, o0, none⟩) n0 c0), (1, .slice a1 L.length c1), (2, .int .i64 f), (3, .int .i64 t), (5, .int .i64 there), (13, .pointer (some ⟨p, 0, none⟩)), (14, .pointer (some ⟨r14, 0, none⟩)), (15, .slice aw W.length cw), (16, .bool all), (17, .int .i64 (2 * (k : Int))), (18, .pointer (some ⟨r18, 0, none⟩))])
        (fun S' w => StoreInv there (k + 1) S' ∧ St w0 [pt r18 (.cells q.cells.toArray 53 (0, 0)), IsStore p S', tO (Ps ++ [q]) ac' cc', tR r14 L (Ps ++ [q]) a1 c1 ac' cc', tO W aw cw] w) ?_ ?_
      · refine c_seq (c_region ?_)
        refine r_v (q_moveI rfl) rfl ?_; refine r_v (q_moveI rfl) rfl ?_; refine r_v (q_and rfl rfl) rfl ?_
        refine r_is (.int .i64 (2 * (k : Int))) (by rw [hsh.1]) ?_
        refine r_v (q_conv rfl) rfl ?_
        refine r_is (.int .u64 (2 * (k : Int))) (by rw [hsh.2.1]) ?_
        refine r_v (q_shr rfl rfl (by omega)) rfl ?_
        rw [hsh.2.2]
        refine r_v (q_and rfl rfl) rfl ?_
        refine r_is (.int .i64 (bitN there k)) rfl ?_
        refine r_v (q_eql rfl rfl) rfl ?_
        rcases bitN_cases there k with hbit | hbit
        · refine r_is (.bool false) (by rw [hbit]; rfl) ?_
          refine r_v (q_moveB rfl) rfl ?_; (first | refine r_gd rfl rfl ?_ | refine r_gn rfl rfl rfl ?_ | refine r_gu rfl rfl ?_ | refine r_gd rfl (by assumption) ?_ | refine r_gn rfl (by assumption) rfl ?_); (first | refine r_gd rfl rfl ?_ | refine r_gn rfl rfl rfl ?_ | refine r_gu rfl rfl ?_ | refine r_gd rfl (by assumption) ?_ | refine r_gn rfl (by assumption) rfl ?_); (first | refine r_gd rfl rfl ?_ | refine r_gn rfl rfl rfl ?_ | refine r_gu rfl rfl ?_ | refine r_gd rfl (by assumption) ?_ | refine r_gn rfl (by assumption) rfl ?_); (first | refine r_gd rfl rfl ?_ | refine r_gn rfl rfl rfl ?_ | refine r_gu rfl rfl ?_ | refine r_gd rfl (by assumption) ?_ | refine r_gn rfl (by assumption) rfl ?_); (first | refine r_gd rfl rfl ?_ | refine r_gn rfl rfl rfl ?_ | refine r_gu rfl rfl ?_ | refine r_gd rfl (by assumption) ?_ | refine r_gn rfl (by assumption) rfl ?_); (first | refine r_v (q_pick1 rfl rfl rfl) rfl ?_ | refine r_v (q_pick0 rfl rfl rfl) rfl ?_ | refine r_v (q_pick1 rfl (by assumption) rfl) rfl ?_ | refine r_v (q_pick0 rfl (by assumption) rfl) rfl ?_ | refine r_v (q_pickB rfl rfl rfl) rfl ?_)
          refine r_nil ?_
          exact c_false rfl (c_skip ⟨_, ⟨rfl, rfl, rfl, rfl, rfl, rfl, rfl, rfl, rfl, rfl, rfl, trivial⟩, StoreInv.kept inv hbit, h⟩)
        · refine r_is (.bool true) (by rw [hbit]; rfl) ?_
          refine r_v (q_moveB rfl) rfl ?_; (first | refine r_gd rfl rfl ?_ | refine r_gn rfl rfl rfl ?_ | refine r_gu rfl rfl ?_ | refine r_gd rfl (by assumption) ?_ | refine r_gn rfl (by assumption) rfl ?_); refine r_v (q_moveP rfl) rfl ?_; (first | refine r_gd rfl rfl ?_ | refine r_gn rfl rfl rfl ?_ | refine r_gu rfl rfl ?_ | refine r_gd rfl (by assumption) ?_ | refine r_gn rfl (by assumption) rfl ?_); refine r_v (q_fa rfl) rfl ?_; (first | refine r_gd rfl rfl ?_ | refine r_gn rfl rfl rfl ?_ | refine r_gu rfl rfl ?_ | refine r_gd rfl (by assumption) ?_ | refine r_gn rfl (by assumption) rfl ?_)
          refine r_v (q_load (v := .int .i64 q.blob) rfl (h.b 0) rfl) rfl ?_
          refine r_is (.int .i64 (S.last + 1)) (by rw [hqb, hlast]) ?_
          (first | refine r_gd rfl rfl ?_ | refine r_gn rfl rfl rfl ?_ | refine r_gu rfl rfl ?_ | refine r_gd rfl (by assumption) ?_ | refine r_gn rfl (by assumption) rfl ?_)
          refine r_c rfl (x_call rfl (blob_LeaveL (x := ⟨[1], 1⟩) (by constructor <;> dsimp only <;> omega) (S.last + 1) (h.f 1) (by dsimp only; rw [mget_mset, if_pos rfl]) rfl (by dsimp only [List.length_cons, List.length_nil]; omega)) ?_)
          rintro _ w ⟨rfl, h⟩
          (first | refine r_gd rfl rfl ?_ | refine r_gn rfl rfl rfl ?_ | refine r_gu rfl rfl ?_ | refine r_gd rfl (by assumption) ?_ | refine r_gn rfl (by assumption) rfl ?_); refine r_v (q_not rfl) rfl ?_; (first | refine r_v (q_pick1 rfl rfl rfl) rfl ?_ | refine r_v (q_pick0 rfl rfl rfl) rfl ?_ | refine r_v (q_pick1 rfl (by assumption) rfl) rfl ?_ | refine r_v (q_pick0 rfl (by assumption) rfl) rfl ?_ | refine r_v (q_pickB rfl rfl rfl) rfl ?_)
          refine r_nil ?_
          exact c_false rfl (c_skip ⟨_, ⟨rfl, rfl, rfl, rfl, rfl, rfl, rfl, rfl, rfl, rfl, rfl, trivial⟩, StoreInv.gone inv (by omega), h.f 1⟩)
      clear h
      rintro S' w e ⟨hS', h⟩
      have hstep := inv.step hk16 hS' hqb hqf
      refine c_cut (Γ := Bool) (fun b => [(0, .slice (some ⟨b0, o0, none⟩) n0 c0), (1, .slice a1 L.length c1), (2, .int .i64 f), (3, .int .i64 t), (5, .int .i64 there), (13, .pointer (some ⟨p, 0, none⟩)), (14, .pointer (some ⟨r14, 0, none⟩)), (15, .slice aw W.length cw), (16, .bool all), (17, .int .i64 (2 * (k : Int))), (18, .pointer (some ⟨r18, 0, none⟩)), (126, .bool b)])
        (fun b w => b = decide (q.frm ≤ t ∧ q.upto ≥ f ∧ f ≤ t) ∧ St w0 [pt r18 (.cells q.cells.toArray 53 (0, 0)), IsStore p S', tO (Ps ++ [q]) ac' cc', tR r14 L (Ps ++ [q]) a1 c1 ac' cc', tO W aw cw] w) ?_ ?_
      · refine c_region ?_
        refine r_v (q_fa rfl) rfl ?_
        refine r_v (q_load (v := .int .i64 q.frm) rfl (h.b 0) rfl) rfl ?_
        refine r_v (q_moveI rfl) rfl ?_; refine r_v (q_leq rfl rfl) rfl ?_
        by_cases hc1 : q.frm ≤ t
        · refine r_is (.bool true) (by simp [hc1]) ?_
          refine r_v (q_moveB rfl) rfl ?_; (first | refine r_gd rfl rfl ?_ | refine r_gn rfl rfl rfl ?_ | refine r_gu rfl rfl ?_ | refine r_gd rfl (by assumption) ?_ | refine r_gn rfl (by assumption) rfl ?_); refine r_v (q_fa rfl) rfl ?_; (first | refine r_gd rfl rfl ?_ | refine r_gn rfl rfl rfl ?_ | refine r_gu rfl rfl ?_ | refine r_gd rfl (by assumption) ?_ | refine r_gn rfl (by assumption) rfl ?_)
          refine r_v (q_load (v := .int .i64 q.upto) rfl (h.b 0) rfl) rfl ?_
          (first | refine r_gd rfl rfl ?_ | refine r_gn rfl rfl rfl ?_ | refine r_gu rfl rfl ?_ | refine r_gd rfl (by assumption) ?_ | refine r_gn rfl (by assumption) rfl ?_); refine r_v (q_moveI rfl) rfl ?_; (first | refine r_gd rfl rfl ?_ | refine r_gn rfl rfl rfl ?_ | refine r_gu rfl rfl ?_ | refine r_gd rfl (by assumption) ?_ | refine r_gn rfl (by assumption) rfl ?_); refine r_v (q_geq rfl rfl) rfl ?_
          by_cases hc2 : q.upto ≥ f
          · refine r_is (.bool true) (by simp; omega) ?_
            (first | refine r_v (q_pick1 rfl rfl rfl) rfl ?_ | refine r_v (q_pick0 rfl rfl rfl) rfl ?_ | refine r_v (q_pick1 rfl (by assumption) rfl) rfl ?_ | refine r_v (q_pick0 rfl (by assumption) rfl) rfl ?_ | refine r_v (q_pickB rfl rfl rfl) rfl ?_); refine r_v (q_moveB rfl) rfl ?_; (first | refine r_gd rfl rfl ?_ | refine r_gn rfl rfl rfl ?_ | refine r_gu rfl rfl ?_ | refine r_gd rfl (by assumption) ?_ | refine r_gn rfl (by assumption) rfl ?_); refine r_v (q_moveI rfl) rfl ?_; (first | refine r_gd rfl rfl ?_ | refine r_gn rfl rfl rfl ?_ | refine r_gu rfl rfl ?_ | refine r_gd rfl (by assumption) ?_ | refine r_gn rfl (by assumption) rfl ?_); refine r_v (q_moveI rfl) rfl ?_; (first | refine r_gd rfl rfl ?_ | refine r_gn rfl rfl rfl ?_ | refine r_gu rfl rfl ?_ | refine r_gd rfl (by assumption) ?_ | refine r_gn rfl (by assumption) rfl ?_); refine r_v (q_leq rfl rfl) rfl ?_
            refine r_bool' fun b hb => ?_
            (first | refine r_v (q_pick1 rfl rfl rfl) rfl ?_ | refine r_v (q_pick0 rfl rfl rfl) rfl ?_ | refine r_v (q_pick1 rfl (by assumption) rfl) rfl ?_ | refine r_v (q_pick0 rfl (by assumption) rfl) rfl ?_ | refine r_v (q_pickB rfl rfl rfl) rfl ?_)
            refine r_nil ⟨b, ⟨rfl, rfl, rfl, rfl, rfl, rfl, rfl, rfl, rfl, rfl, rfl, rfl, trivial⟩, ?_, h⟩
            rw [hb]; simp [hc1, hc2]
          · refine r_is (.bool false) (by simp; omega) ?_
            (first | refine r_v (q_pick1 rfl rfl rfl) rfl ?_ | refine r_v (q_pick0 rfl rfl rfl) rfl ?_ | refine r_v (q_pick1 rfl (by assumption) rfl) rfl ?_ | refine r_v (q_pick0 rfl (by assumption) rfl) rfl ?_ | refine r_v (q_pickB rfl rfl rfl) rfl ?_); refine r_v (q_moveB rfl) rfl ?_; (first | refine r_gd rfl rfl ?_ | refine r_gn rfl rfl rfl ?_ | refine r_gu rfl rfl ?_ | refine r_gd rfl (by assumption) ?_ | refine r_gn rfl (by assumption) rfl ?_); (first | refine r_gd rfl rfl ?_ | refine r_gn rfl rfl rfl ?_ | refine r_gu rfl rfl ?_ | refine r_gd rfl (by assumption) ?_ | refine r_gn rfl (by assumption) rfl ?_); (first | refine r_gd rfl rfl ?_ | refine r_gn rfl rfl rfl ?_ | refine r_gu rfl rfl ?_ | refine r_gd rfl (by assumption) ?_ | refine r_gn rfl (by assumption) rfl ?_); (first | refine r_v (q_pick1 rfl rfl rfl) rfl ?_ | refine r_v (q_pick0 rfl rfl rfl) rfl ?_ | refine r_v (q_pick1 rfl (by assumption) rfl) rfl ?_ | refine r_v (q_pick0 rfl (by assumption) rfl) rfl ?_ | refine r_v (q_pickB rfl rfl rfl) rfl ?_)
            refine r_nil ⟨false, ⟨rfl, rfl, rfl, rfl, rfl, rfl, rfl, rfl, rfl, rfl, rfl, rfl, trivial⟩, ?_, h⟩
            simp [hc2]
        · refine r_is (.bool false) (by simp; omega) ?_
          refine r_v (q_moveB rfl) rfl ?_; (first | refine r_gd rfl rfl ?_ | refine r_gn rfl rfl rfl ?_ | refine r_gu rfl rfl ?_ | refine r_gd rfl (by assumption) ?_ | refine r_gn rfl (by assumption) rfl ?_); (first | refine r_gd rfl rfl ?_ | refine r_gn rfl rfl rfl ?_ | refine r_gu rfl rfl ?_ | refine r_gd rfl (by assumption) ?_ | refine r_gn rfl (by assumption) rfl ?_); (first | refine r_gd rfl rfl ?_ | refine r_gn rfl rfl rfl ?_ | refine r_gu rfl rfl ?_ | refine r_gd rfl (by assumption) ?_ | refine r_gn rfl (by assumption) rfl ?_); (first | refine r_gd rfl rfl ?_ | refine r_gn rfl rfl rfl ?_ | refine r_gu rfl rfl ?_ | refine r_gd rfl (by assumption) ?_ | refine r_gn rfl (by assumption) rfl ?_); (first | refine r_v (q_pick1 rfl rfl rfl) rfl ?_ | refine r_v (q_pick0 rfl rfl rfl) rfl ?_ | refine r_v (q_pick1 rfl (by assumption) rfl) rfl ?_ | refine r_v (q_pick0 rfl (by assumption) rfl) rfl ?_ | refine r_v (q_pickB rfl rfl rfl) rfl ?_); refine r_v (q_moveB rfl) rfl ?_; (first | refine r_gd rfl rfl ?_ | refine r_gn rfl rfl rfl ?_ | refine r_gu rfl rfl ?_ | refine r_gd rfl (by assumption) ?_ | refine r_gn rfl (by assumption) rfl ?_); (first | refine r_gd rfl rfl ?_ | refine r_gn rfl rfl rfl ?_ | refine r_gu rfl rfl ?_ | refine r_gd rfl (by assumption) ?_ | refine r_gn rfl (by assumption) rfl ?_); (first | refine r_gd rfl rfl ?_ | refine r_gn rfl rfl rfl ?_ | refine r_gu rfl rfl ?_ | refine r_gd rfl (by assumption) ?_ | refine r_gn rfl (by assumption) rfl ?_); (first | refine r_v (q_pick1 rfl rfl rfl) rfl ?_ | refine r_v (q_pick0 rfl rfl rfl) rfl ?_ | refine r_v (q_pick1 rfl (by assumption) rfl) rfl ?_ | refine r_v (q_pick0 rfl (by assumption) rfl) rfl ?_ | refine r_v (q_pickB rfl rfl rfl) rfl ?_)
          refine r_nil ⟨false, ⟨rfl, rfl, rfl, rfl, rfl, rfl, rfl, rfl, rfl, rfl, rfl, rfl, trivial⟩, ?_, h⟩
          simp [hc1]
      clear h
      rintro b w e ⟨hb, h⟩
      refine c_cond b rfl (fun hc => ?_) (fun hc => ?_)
      · have hin : q.frm ≤ t ∧ q.upto ≥ f ∧ f ≤ t := by rw [hc] at hb; simpa using hb.symm
        rw [if_pos hin, if_pos hin] at hstep
        refine c_seq (c_region ?_)
        refine r_v (q_moveS rfl) rfl ?_
        refine r_v (q_loadS (l := q.cells) rfl rfl (at_of (h.b 0 rfl) rfl)) rfl ?_
        refine r_c rfl (x_bslice (r := q.cells) h rfl rfl rfl fun bs w h => ?_)
        refine r_c rfl (x_append' (ys := q.cells) (zs := prtsV (W ++ [q])) (m3 := (W ++ [q]).length) (h.f 5) rfl rfl ⟨rfl, .inr ⟨bs, 0, rfl, at_of (h.b 0 rfl) rfl⟩⟩ (fun u hu => by have := prts_one [q] u; simpa using this (by simpa using hu)) (by simp) (by simp [prtsV]) (by simp; omega) (by simp; omega) rfl fun aw' cw' w _ h => ?_)
        replace h : St w0 [tO (Ps ++ [q]) ac' cc', tR r14 L (Ps ++ [q]) a1 c1 ac' cc', tO (W ++ [q]) aw' cw', IsStore p S'] w := ((((h.f 1).drop.f 1).drop.f 2).f 3).of_all (by simp only [bring, all_star]; ac_rfl)
        refine r_v (q_assignS rfl) rfl ?_
        refine r_nil ?_
        refine c_region ?_
        cases all with
        | true =>
          refine r_v (q_moveB rfl) rfl ?_; refine r_v (q_moveB rfl) rfl ?_; (first | refine r_gd rfl rfl ?_ | refine r_gn rfl rfl rfl ?_ | refine r_gu rfl rfl ?_ | refine r_gd rfl (by assumption) ?_ | refine r_gn rfl (by assumption) rfl ?_); refine r_v (q_moveI rfl) rfl ?_; (first | refine r_gd rfl rfl ?_ | refine r_gn rfl rfl rfl ?_ | refine r_gu rfl rfl ?_ | refine r_gd rfl (by assumption) ?_ | refine r_gn rfl (by assumption) rfl ?_); refine r_v (q_moveI rfl) rfl ?_; (first | refine r_gd rfl rfl ?_ | refine r_gn rfl rfl rfl ?_ | refine r_gu rfl rfl ?_ | refine r_gd rfl (by assumption) ?_ | refine r_gn rfl (by assumption) rfl ?_); refine r_v (q_and rfl rfl) rfl ?_
          refine r_is (.int .i64 (2 * (k : Int))) (by rw [hsh.1]) ?_
          (first | refine r_gd rfl rfl ?_ | refine r_gn rfl rfl rfl ?_ | refine r_gu rfl rfl ?_ | refine r_gd rfl (by assumption) ?_ | refine r_gn rfl (by assumption) rfl ?_); refine r_v (q_conv rfl) rfl ?_
          refine r_is (.int .u64 (2 * (k : Int))) (by rw [hsh.2.1]) ?_
          (first | refine r_gd rfl rfl ?_ | refine r_gn rfl rfl rfl ?_ | refine r_gu rfl rfl ?_ | refine r_gd rfl (by assumption) ?_ | refine r_gn rfl (by assumption) rfl ?_)
          refine r_v (q_shr rfl rfl (by omega)) rfl ?_
          rw [hsh.2.2]
          (first | refine r_gd rfl rfl ?_ | refine r_gn rfl rfl rfl ?_ | refine r_gu rfl rfl ?_ | refine r_gd rfl (by assumption) ?_ | refine r_gn rfl (by assumption) rfl ?_); refine r_v (q_and rfl rfl) rfl ?_
          refine r_is (.int .i64 (bitN there k)) rfl ?_
          (first | refine r_gd rfl rfl ?_ | refine r_gn rfl rfl rfl ?_ | refine r_gu rfl rfl ?_ | refine r_gd rfl (by assumption) ?_ | refine r_gn rfl (by assumption) rfl ?_); refine r_v (q_eql rfl rfl) rfl ?_; (first | refine r_v (q_pick1 rfl rfl rfl) rfl ?_ | refine r_v (q_pick0 rfl rfl rfl) rfl ?_ | refine r_v (q_pick1 rfl (by assumption) rfl) rfl ?_ | refine r_v (q_pick0 rfl (by assumption) rfl) rfl ?_ | refine r_v (q_pickB rfl rfl rfl) rfl ?_); refine r_v (q_assignB rfl) rfl ?_
          refine r_nil ?_
          refine c_region ?_
          refine r_v (q_moveI rfl) rfl ?_; refine r_v (q_add rfl rfl) rfl ?_
          refine r_is (.int .i64 (2 * ((k + 1 : Nat) : Int))) (by rw [wrap64 (by omega) (by omega)]; congr 1) ?_
          refine r_v (q_assignI rfl) rfl ?_
          exact r_nil ⟨(k + 1, Ps ++ [q], W ++ [q], _, S', ac', cc', aw', cw'), ⟨rfl, rfl, rfl, rfl, rfl, rfl, rfl, rfl, rfl, rfl, trivial⟩, ⟨by simpa using hstep, h⟩, by dsimp only; omega⟩
        | false =>
          refine r_v (q_moveB rfl) rfl ?_; refine r_v (q_moveB rfl) rfl ?_; (first | refine r_gd rfl rfl ?_ | refine r_gn rfl rfl rfl ?_ | refine r_gu rfl rfl ?_ | refine r_gd rfl (by assumption) ?_ | refine r_gn rfl (by assumption) rfl ?_); (first | refine r_gd rfl rfl ?_ | refine r_gn rfl rfl rfl ?_ | refine r_gu rfl rfl ?_ | refine r_gd rfl (by assumption) ?_ | refine r_gn rfl (by assumption) rfl ?_); (first | refine r_gd rfl rfl ?_ | refine r_gn rfl rfl rfl ?_ | refine r_gu rfl rfl ?_ | refine r_gd rfl (by assumption) ?_ | refine r_gn rfl (by assumption) rfl ?_); (first | refine r_gd rfl rfl ?_ | refine r_gn rfl rfl rfl ?_ | refine r_gu rfl rfl ?_ | refine r_gd rfl (by assumption) ?_ | refine r_gn rfl (by assumption) rfl ?_); (first | refine r_gd rfl rfl ?_ | refine r_gn rfl rfl rfl ?_ | refine r_gu rfl rfl ?_ | refine r_gd rfl (by assumption) ?_ | refine r_gn rfl (by assumption) rfl ?_); (first | refine r_gd rfl rfl ?_ | refine r_gn rfl rfl rfl ?_ | refine r_gu rfl rfl ?_ | refine r_gd rfl (by assumption) ?_ | refine r_gn rfl (by assumption) rfl ?_); (first | refine r_gd rfl rfl ?_ | refine r_gn rfl rfl rfl ?_ | refine r_gu rfl rfl ?_ | refine r_gd rfl (by assumption) ?_ | refine r_gn rfl (by assumption) rfl ?_); (first | refine r_v (q_pick1 rfl rfl rfl) rfl ?_ | refine r_v (q_pick0 rfl rfl rfl) rfl ?_ | refine r_v (q_pick1 rfl (by assumption) rfl) rfl ?_ | refine r_v (q_pick0 rfl (by assumption) rfl) rfl ?_ | refine r_v (q_pickB rfl rfl rfl) rfl ?_); refine r_v (q_assignB rfl) rfl ?_
          refine r_nil ?_
          refine c_region ?_
          refine r_v (q_moveI rfl) rfl ?_; refine r_v (q_add rfl rfl) rfl ?_
          refine r_is (.int .i64 (2 * ((k + 1 : Nat) : Int))) (by rw [wrap64 (by omega) (by omega)]; congr 1) ?_
          refine r_v (q_assignI rfl) rfl ?_
          exact r_nil ⟨(k + 1, Ps ++ [q], W ++ [q], false, S', ac', cc', aw', cw'), ⟨rfl, rfl, rfl, rfl, rfl, rfl, rfl, rfl, rfl, rfl, trivial⟩, ⟨by simpa using hstep, h⟩, by dsimp only; omega⟩
      · have hin : ¬ (q.frm ≤ t ∧ q.upto ≥ f ∧ f ≤ t) := by rw [hc] at hb; simpa using hb.symm
        rw [if_neg hin, if_neg hin] at hstep
        refine c_skip ?_
        refine c_region ?_
        refine r_v (q_moveI rfl) rfl ?_; refine r_v (q_add rfl rfl) rfl ?_
        refine r_is (.int .i64 (2 * ((k + 1 : Nat) : Int))) (by rw [wrap64 (by omega) (by omega)]; congr 1) ?_
        refine r_v (q_assignI rfl) rfl ?_
        replace h : St w0 [tO (Ps ++ [q]) ac' cc', tR r14 L (Ps ++ [q]) a1 c1 ac' cc', tO W aw cw, IsStore p S'] w := (h.drop).of_all (by simp only [all_star]; ac_rfl)
        exact r_nil ⟨(k + 1, Ps ++ [q], W, all, S', ac', cc', aw, cw), ⟨rfl, rfl, rfl, rfl, rfl, rfl, rfl, rfl, rfl, rfl, trivial⟩, ⟨hstep, h⟩, by dsimp only; omega⟩
    · exact c_exit ⟨(k, Ps, W, all, S, ac, cc, aw, cw), ⟨rfl, rfl, rfl, rfl, rfl, rfl, rfl, rfl, trivial⟩, inv, h⟩
  · refine r_is (.bool false) (by simp; omega) ?_
    refine r_v (q_moveB rfl) rfl ?_; (first | refine r_gd rfl rfl ?_ | refine r_gn rfl rfl rfl ?_ | refine r_gu rfl rfl ?_ | refine r_gd rfl (by assumption) ?_ | refine r_gn rfl (by assumption) rfl ?_); (first | refine r_gd rfl rfl ?_ | refine r_gn rfl rfl rfl ?_ | refine r_gu rfl rfl ?_ | refine r_gd rfl (by assumption) ?_ | refine r_gn rfl (by assumption) rfl ?_); (first | refine r_v (q_pick1 rfl rfl rfl) rfl ?_ | refine r_v (q_pick0 rfl rfl rfl) rfl ?_ | refine r_v (q_pick1 rfl (by assumption) rfl) rfl ?_ | refine r_v (q_pick0 rfl (by assumption) rfl) rfl ?_ | refine r_v (q_pickB rfl rfl rfl) rfl ?_)
    refine r_nil ?_
    exact c_false rfl (c_exit ⟨(k, Ps, W, all, S, ac, cc, aw, cw), ⟨rfl, rfl, rfl, rfl, rfl, rfl, rfl, rfl, trivial⟩, inv, h⟩)
  clear h
  rintro ⟨k, Ps, W, all, S, ac, cc, aw, cw⟩ w e ⟨inv, h⟩
  dsimp only at inv h ⊢
  have hPl : Ps.length ≤ 8 := by rw [inv.len]; exact inv.k8
  obtain rfl := inv.want
  have hVl : (partsIn f t Ps).length ≤ 8 := Nat.le_trans (partsIn_le _ _ _) hPl
  have hTl : (tailIn f t L).length ≤ 30 := Nat.le_trans (tailIn_le _ _ _) hn
  have hXwf : (ofX (tS L Ps) f t (partsIn f t Ps) (tailIn f t L)).Wf := ofX_wf (by omega) (by omega)
  refine c_seq (c_region ?_)
  refine r_v (q_loadS (l := (tS L Ps).cells a1 c1 ac cc) rfl rfl (at_of (h.b 1 rfl) rfl)) rfl ?_
  refine r_v (q_moveI rfl) rfl ?_; refine r_v (q_moveI rfl) rfl ?_
  refine r_c rfl (x_call rfl (snap_Of (s := tS L Ps) f t h (fun w' h' => hrl h') (fun w' h' => h'.own_rd) (by dsimp only; omega) (by dsimp only; omega)) ?_)
  rintro _ w ⟨x1, x2, rfl, h⟩
  refine r_c rfl (x_alloc h fun r21 w h => ?_)
  refine r_c rfl (x_storeA (vs := (ofX (tS L Ps) f t (partsIn f t Ps) (tailIn f t L)).cells x1 (partsIn f t Ps).length x2 (tailIn f t L).length) 0 h rfl rfl rfl rfl rfl rfl rfl fun w h => ?_)
  replace h : St w0 [tX r21 ((ofX (tS L Ps) f t (partsIn f t Ps) (tailIn f t L)).cells x1 (partsIn f t Ps).length x2 (tailIn f t L).length), tO (partsIn f t Ps) x1 (partsIn f t Ps).length, Own 56 2 x2 (tailIn f t L).length (tailIn f t L).length (smpsV (tailIn f t L)), tO Ps ac cc, tR r14 L Ps a1 c1 ac cc, tO (partsIn f t Ps) aw cw, IsStore p S] w := h
  refine r_nil ?_
  generalize hR1 : tX r21 ((ofX (tS L Ps) f t (partsIn f t Ps) (tailIn f t L)).cells x1 (partsIn f t Ps).length x2 (tailIn f t L).length) = R1 at h
  refine c_seq (c_region ?_)
  refine r_v (q_assignS rfl) rfl ?_
  refine r_nil ?_
  refine c_cut (Γ := Option Addr × Nat) (fun γ => [(2, .int .i64 f), (3, .int .i64 t), (5, .int .i64 there), (13, .pointer (some ⟨p, 0, none⟩)), (14, .pointer (some ⟨r14, 0, none⟩)), (15, .slice aw (partsIn f t Ps).length cw), (16, .bool all), (21, .pointer (some ⟨r21, 0, none⟩)), (22, .slice γ.1 (tailIn f t L).length γ.2)])
    (fun γ w => St w0 [R1, tO (partsIn f t Ps) x1 (partsIn f t Ps).length, Own 56 2 x2 (tailIn f t L).length (tailIn f t L).length (smpsV (tailIn f t L)), tO Ps ac cc, tR r14 L Ps a1 c1 ac cc, tO (partsIn f t Ps) aw cw, IsStore p S, Own 56 2 γ.1 (tailIn f t L).length γ.2 (smpsV (tailIn f t L))] w) ?_ ?_
  · refine c_seq (c_region ?_)
    refine r_v (q_moveS rfl) rfl ?_; refine r_v (q_len rfl) rfl ?_; refine r_v (q_moveI rfl) rfl ?_
    refine r_nil ?_
    refine c_block ?_
    refine c_loop (Γ := Nat × Option Addr × Nat × List Smp) (fun γ => [(2, .int .i64 f), (3, .int .i64 t), (5, .int .i64 there), (13, .pointer (some ⟨p, 0, none⟩)), (14, .pointer (some ⟨r14, 0, none⟩)), (15, .slice aw (partsIn f t Ps).length cw), (16, .bool all), (21, .pointer (some ⟨r21, 0, none⟩)), (22, .slice γ.2.1 γ.2.2.2.length γ.2.2.1), (145, .slice a1 L.length c1), (146, .int .i64 L.length), (147, .int .i64 γ.1)])
      (fun γ w => γ.1 ≤ L.length ∧ γ.2.2.2 = tailIn f t (L.take γ.1) ∧ St w0 [Own 56 2 γ.2.1 γ.2.2.2.length γ.2.2.1 (smpsV γ.2.2.2), R1, tO (partsIn f t Ps) x1 (partsIn f t Ps).length, Own 56 2 x2 (tailIn f t L).length (tailIn f t L).length (smpsV (tailIn f t L)), tO Ps ac cc, tR r14 L Ps a1 c1 ac cc, tO (partsIn f t Ps) aw cw, IsStore p S] w)
      (fun γ => L.length - γ.1) (0, none, 0, []) ⟨rfl, rfl, rfl, rfl, rfl, rfl, rfl, rfl, rfl, rfl, rfl, rfl, trivial⟩ ⟨Nat.zero_le _, rfl, St.ownNil _ _ h⟩ ?_
    clear h
    rintro ⟨j, at', ct, T⟩ w e ⟨hj, hT, h⟩
    dsimp only at hj hT h ⊢
    refine c_seq (c_region ?_)
    refine r_v (q_lss rfl rfl) rfl ?_
    refine r_nil ?_
    refine c_seq (c_cond (decide ((j : Int) < (L.length : Int))) rfl (fun hc => ?_) (fun hc => ?_))
    ·
      have hjn : j < L.length := by simp at hc; omega
      have hcur := h
      obtain ⟨b4, o4, rfl⟩ := (hrl h).some (by omega)
      replace h := hcur
      clear hcur
      have hget := List.getElem?_eq_getElem hjn
      generalize L[j] = q at hget
      have hstep := tailIn_step f t hget
      have hTl2 : T.length ≤ L.length := by rw [hT]; exact Nat.le_trans (tailIn_le _ _ _) (by simp; omega)
      refine c_skip ?_
      refine c_seq (c_block ?_)
      refine c_seq (c_region ?_)
      refine r_v (q_idx rfl rfl rfl hjn rfl) rfl ?_
      refine r_v (q_loadS (l := q.cells) rfl rfl ((hrl h).elem smp_len hget)) rfl ?_
      refine r_c rfl (x_alloc h fun r24 w h => ?_)
      refine r_c rfl (x_storeA (vs := q.cells) 0 h rfl rfl rfl rfl rfl rfl rfl fun w h => ?_)
      replace h : St w0 [pt r24 (.cells q.cells.toArray 56 (0, 0)), Own 56 2 at' T.length ct (smpsV T), R1, tO (partsIn f t Ps) x1 (partsIn f t Ps).length, Own 56 2 x2 (tailIn f t L).length (tailIn f t L).length (smpsV (tailIn f t L)), tO Ps ac cc, tR r14 L Ps (some ⟨b4, o4, none⟩) c1 ac cc, tO (partsIn f t Ps) aw cw, IsStore p S] w := h
      refine r_nil ?_
      refine c_seq (c_region ?_)
      refine r_v (q_fa rfl) rfl ?_
      refine r_v (q_load (v := .int .i64 q.T) rfl (h.b 0) rfl) rfl ?_
      refine r_v (q_moveI rfl) rfl ?_; refine r_v (q_geq rfl rfl) rfl ?_
      by_cases hge : q.T ≥ f
      · refine r_is (.bool true) (by simpa using hge) ?_
        refine r_v (q_moveB rfl) rfl ?_; (first | refine r_gd rfl rfl ?_ | refine r_gn rfl rfl rfl ?_ | refine r_gu rfl rfl ?_ | refine r_gd rfl (by assumption) ?_ | refine r_gn rfl (by assumption) rfl ?_); refine r_v (q_fa rfl) rfl ?_; (first | refine r_gd rfl rfl ?_ | refine r_gn rfl rfl rfl ?_ | refine r_gu rfl rfl ?_ | refine r_gd rfl (by assumption) ?_ | refine r_gn rfl (by assumption) rfl ?_)
        refine r_v (q_load (v := .int .i64 q.T) rfl (h.b 0) rfl) rfl ?_
        (first | refine r_gd rfl rfl ?_ | refine r_gn rfl rfl rfl ?_ | refine r_gu rfl rfl ?_ | refine r_gd rfl (by assumption) ?_ | refine r_gn rfl (by assumption) rfl ?_); refine r_v (q_moveI rfl) rfl ?_; (first | refine r_gd rfl rfl ?_ | refine r_gn rfl rfl rfl ?_ | refine r_gu rfl rfl ?_ | refine r_gd rfl (by assumption) ?_ | refine r_gn rfl (by assumption) rfl ?_); refine r_v (q_leq rfl rfl) rfl ?_; (first | refine r_v (q_pick1 rfl rfl rfl) rfl ?_ | refine r_v (q_pick0 rfl rfl rfl) rfl ?_ | refine r_v (q_pick1 rfl (by assumption) rfl) rfl ?_ | refine r_v (q_pick0 rfl (by assumption) rfl) rfl ?_ | refine r_v (q_pickB rfl rfl rfl) rfl ?_)
        refine r_nil ?_
        refine c_cond _ rfl (fun hc => ?_) (fun hc => ?_)
        ·
          have hin : q.T ≥ f ∧ q.T ≤ t := ⟨hge, by simpa using hc⟩
          rw [if_pos hin, ← hT] at hstep
          refine c_region ?_
          refine r_v (q_moveS rfl) rfl ?_
          refine r_v (q_loadS (l := q.cells) rfl rfl (at_of (h.b 0 rfl) rfl)) rfl ?_
          refine r_c rfl (x_bslice (r := q.cells) h rfl rfl rfl fun bs w h => ?_)
          refine r_c rfl (x_append' (ys := q.cells) (zs := smpsV (T ++ [q])) (m3 := (T ++ [q]).length) (h.f 2) rfl rfl ⟨rfl, .inr ⟨bs, 0, rfl, at_of (h.b 0 rfl) rfl⟩⟩ (fun u hu => by have := smps_one [q] u; simpa using this (by simpa using hu)) (by simp) (by simp [smpsV]) (by simp; omega) (by simp; omega) rfl fun at2 ct2 w _ h => ?_)
          replace h := ((h.f 1).drop.f 1).drop
          refine r_v (q_assignS rfl) rfl ?_
          refine r_nil ?_
          refine c_region ?_
          refine r_v (q_add rfl rfl) rfl ?_
          refine r_is (.int .i64 ((j + 1 : Nat) : Int)) (by rw [wrap64 (by omega) (by omega)]; rfl) ?_
          refine r_v (q_moveI rfl) rfl ?_
          exact r_nil ⟨(j + 1, at2, ct2, T ++ [q]), ⟨rfl, rfl, rfl, rfl, rfl, rfl, rfl, rfl, rfl, rfl, rfl, rfl, trivial⟩, ⟨by dsimp only; omega, hstep.symm, h⟩, by dsimp only; omega⟩
        ·
          have hin : ¬ (q.T ≥ f ∧ q.T ≤ t) := fun h => by simp at hc; omega
          rw [if_neg hin, ← hT] at hstep
          refine c_skip ?_
          refine c_region ?_
          refine r_v (q_add rfl rfl) rfl ?_
          refine r_is (.int .i64 ((j + 1 : Nat) : Int)) (by rw [wrap64 (by omega) (by omega)]; rfl) ?_
          refine r_v (q_moveI rfl) rfl ?_
          exact r_nil ⟨(j + 1, at', ct, T), ⟨rfl, rfl, rfl, rfl, rfl, rfl, rfl, rfl, rfl, rfl, rfl, rfl, trivial⟩, ⟨by dsimp only; omega, hstep.symm, h.drop⟩, by dsimp only; omega⟩
      · refine r_is (.bool false) (by simpa using hge) ?_
        refine r_v (q_moveB rfl) rfl ?_; (first | refine r_gd rfl rfl ?_ | refine r_gn rfl rfl rfl ?_ | refine r_gu rfl rfl ?_ | refine r_gd rfl (by assumption) ?_ | refine r_gn rfl (by assumption) rfl ?_); (first | refine r_gd rfl rfl ?_ | refine r_gn rfl rfl rfl ?_ | refine r_gu rfl rfl ?_ | refine r_gd rfl (by assumption) ?_ | refine r_gn rfl (by assumption) rfl ?_); (first | refine r_gd rfl rfl ?_ | refine r_gn rfl rfl rfl ?_ | refine r_gu rfl rfl ?_ | refine r_gd rfl (by assumption) ?_ | refine r_gn rfl (by assumption) rfl ?_); (first | refine r_gd rfl rfl ?_ | refine r_gn rfl rfl rfl ?_ | refine r_gu rfl rfl ?_ | refine r_gd rfl (by assumption) ?_ | refine r_gn rfl (by assumption) rfl ?_); (first | refine r_v (q_pick1 rfl rfl rfl) rfl ?_ | refine r_v (q_pick0 rfl rfl rfl) rfl ?_ | refine r_v (q_pick1 rfl (by assumption) rfl) rfl ?_ | refine r_v (q_pick0 rfl (by assumption) rfl) rfl ?_ | refine r_v (q_pickB rfl rfl rfl) rfl ?_)
        refine r_nil ?_
        refine c_false rfl ?_
        have hin : ¬ (q.T ≥ f ∧ q.T ≤ t) := fun h => hge h.1
        rw [if_neg hin, ← hT] at hstep
        refine c_skip ?_
        refine c_region ?_
        refine r_v (q_add rfl rfl) rfl ?_
        refine r_is (.int .i64 ((j + 1 : Nat) : Int)) (by rw [wrap64 (by omega) (by omega)]; rfl) ?_
        refine r_v (q_moveI rfl) rfl ?_
        exact r_nil ⟨(j + 1, at', ct, T), ⟨rfl, rfl, rfl, rfl, rfl, rfl, rfl, rfl, rfl, rfl, rfl, rfl, trivial⟩, ⟨by dsimp only; omega, hstep.symm, h.drop⟩, by dsimp only; omega⟩
    have hjn : j = L.length := by simp at hc; omega
    rw [hjn, List.take_of_length_le (Nat.le_refl _)] at hT
    subst hT
    exact c_exit ⟨(at', ct), ⟨rfl, rfl, rfl, rfl, rfl, rfl, rfl, rfl, rfl, trivial⟩, h.of_all (by simp only [all_star]; ac_rfl)⟩
  clear h
  rintro ⟨at', ct⟩ w e h
  dsimp only at h ⊢
  subst hR1
  refine c_seq (c_seq (c_region ?_))
  refine r_v (q_fa rfl) rfl ?_; refine r_v (q_load rfl (h.b 0) rfl) rfl ?_; refine r_v (q_neq rfl rfl) rfl ?_; refine r_v (q_moveB rfl) rfl ?_; (first | refine r_gd rfl rfl ?_ | refine r_gn rfl rfl rfl ?_ | refine r_gu rfl rfl ?_ | refine r_gd rfl (by assumption) ?_ | refine r_gn rfl (by assumption) rfl ?_); refine r_v (q_fa rfl) rfl ?_; (first | refine r_gd rfl rfl ?_ | refine r_gn rfl rfl rfl ?_ | refine r_gu rfl rfl ?_ | refine r_gd rfl (by assumption) ?_ | refine r_gn rfl (by assumption) rfl ?_); refine r_v (q_load rfl (h.b 0) rfl) rfl ?_; (first | refine r_gd rfl rfl ?_ | refine r_gn rfl rfl rfl ?_ | refine r_gu rfl rfl ?_ | refine r_gd rfl (by assumption) ?_ | refine r_gn rfl (by assumption) rfl ?_); refine r_v (q_neq rfl rfl) rfl ?_; (first | refine r_v (q_pick1 rfl rfl rfl) rfl ?_ | refine r_v (q_pick0 rfl rfl rfl) rfl ?_ | refine r_v (q_pick1 rfl (by assumption) rfl) rfl ?_ | refine r_v (q_pick0 rfl (by assumption) rfl) rfl ?_ | refine r_v (q_pickB rfl rfl rfl) rfl ?_); refine r_v (q_moveB rfl) rfl ?_; (first | refine r_gd rfl rfl ?_ | refine r_gn rfl rfl rfl ?_ | refine r_gu rfl rfl ?_ | refine r_gd rfl (by assumption) ?_ | refine r_gn rfl (by assumption) rfl ?_); refine r_v (q_fa rfl) rfl ?_; (first | refine r_gd rfl rfl ?_ | refine r_gn rfl rfl rfl ?_ | refine r_gu rfl rfl ?_ | refine r_gd rfl (by assumption) ?_ | refine r_gn rfl (by assumption) rfl ?_); refine r_v (q_load rfl (h.b 0) rfl) rfl ?_; (first | refine r_gd rfl rfl ?_ | refine r_gn rfl rfl rfl ?_ | refine r_gu rfl rfl ?_ | refine r_gd rfl (by assumption) ?_ | refine r_gn rfl (by assumption) rfl ?_); refine r_v (q_moveI rfl) rfl ?_; (first | refine r_gd rfl rfl ?_ | refine r_gn rfl rfl rfl ?_ | refine r_gu rfl rfl ?_ | refine r_gd rfl (by assumption) ?_ | refine r_gn rfl (by assumption) rfl ?_); refine r_v (q_neq rfl rfl) rfl ?_
  refine r_is (.bool false) (by simp) ?_
  (first | refine r_v (q_pick1 rfl rfl rfl) rfl ?_ | refine r_v (q_pick0 rfl rfl rfl) rfl ?_ | refine r_v (q_pick1 rfl (by assumption) rfl) rfl ?_ | refine r_v (q_pick0 rfl (by assumption) rfl) rfl ?_ | refine r_v (q_pickB rfl rfl rfl) rfl ?_); refine r_v (q_moveB rfl) rfl ?_; (first | refine r_gd rfl rfl ?_ | refine r_gn rfl rfl rfl ?_ | refine r_gu rfl rfl ?_ | refine r_gd rfl (by assumption) ?_ | refine r_gn rfl (by assumption) rfl ?_); refine r_v (q_fa rfl) rfl ?_; (first | refine r_gd rfl rfl ?_ | refine r_gn rfl rfl rfl ?_ | refine r_gu rfl rfl ?_ | refine r_gd rfl (by assumption) ?_ | refine r_gn rfl (by assumption) rfl ?_); refine r_v (q_load rfl (h.b 0) rfl) rfl ?_; (first | refine r_gd rfl rfl ?_ | refine r_gn rfl rfl rfl ?_ | refine r_gu rfl rfl ?_ | refine r_gd rfl (by assumption) ?_ | refine r_gn rfl (by assumption) rfl ?_); refine r_v (q_moveI rfl) rfl ?_; (first | refine r_gd rfl rfl ?_ | refine r_gn rfl rfl rfl ?_ | refine r_gu rfl rfl ?_ | refine r_gd rfl (by assumption) ?_ | refine r_gn rfl (by assumption) rfl ?_); refine r_v (q_neq rfl rfl) rfl ?_
  refine r_is (.bool false) (by simp) ?_
  (first | refine r_v (q_pick1 rfl rfl rfl) rfl ?_ | refine r_v (q_pick0 rfl rfl rfl) rfl ?_ | refine r_v (q_pick1 rfl (by assumption) rfl) rfl ?_ | refine r_v (q_pick0 rfl (by assumption) rfl) rfl ?_ | refine r_v (q_pickB rfl rfl rfl) rfl ?_); refine r_v (q_moveB rfl) rfl ?_; (first | refine r_gd rfl rfl ?_ | refine r_gn rfl rfl rfl ?_ | refine r_gu rfl rfl ?_ | refine r_gd rfl (by assumption) ?_ | refine r_gn rfl (by assumption) rfl ?_); refine r_v (q_fa rfl) rfl ?_; (first | refine r_gd rfl rfl ?_ | refine r_gn rfl rfl rfl ?_ | refine r_gu rfl rfl ?_ | refine r_gd rfl (by assumption) ?_ | refine r_gn rfl (by assumption) rfl ?_); refine r_v (q_load rfl (h.b 0) rfl) rfl ?_; (first | refine r_gd rfl rfl ?_ | refine r_gn rfl rfl rfl ?_ | refine r_gu rfl rfl ?_ | refine r_gd rfl (by assumption) ?_ | refine r_gn rfl (by assumption) rfl ?_); refine r_v (q_len rfl) rfl ?_; (first | refine r_gd rfl rfl ?_ | refine r_gn rfl rfl rfl ?_ | refine r_gu rfl rfl ?_ | refine r_gd rfl (by assumption) ?_ | refine r_gn rfl (by assumption) rfl ?_); refine r_v (q_moveS rfl) rfl ?_; (first | refine r_gd rfl rfl ?_ | refine r_gn rfl rfl rfl ?_ | refine r_gu rfl rfl ?_ | refine r_gd rfl (by assumption) ?_ | refine r_gn rfl (by assumption) rfl ?_); refine r_v (q_len rfl) rfl ?_; (first | refine r_gd rfl rfl ?_ | refine r_gn rfl rfl rfl ?_ | refine r_gu rfl rfl ?_ | refine r_gd rfl (by assumption) ?_ | refine r_gn rfl (by assumption) rfl ?_); refine r_v (q_neq rfl rfl) rfl ?_
  refine r_is (.bool false) (by simp) ?_
  (first | refine r_v (q_pick1 rfl rfl rfl) rfl ?_ | refine r_v (q_pick0 rfl rfl rfl) rfl ?_ | refine r_v (q_pick1 rfl (by assumption) rfl) rfl ?_ | refine r_v (q_pick0 rfl (by assumption) rfl) rfl ?_ | refine r_v (q_pickB rfl rfl rfl) rfl ?_); refine r_v (q_moveB rfl) rfl ?_; (first | refine r_gd rfl rfl ?_ | refine r_gn rfl rfl rfl ?_ | refine r_gu rfl rfl ?_ | refine r_gd rfl (by assumption) ?_ | refine r_gn rfl (by assumption) rfl ?_)
  refine r_v (q_loadS (l := (ofX (tS L Ps) f t (partsIn f t Ps) (tailIn f t L)).cells x1 (partsIn f t Ps).length x2 (tailIn f t L).length) rfl rfl (at_of (h.b 0 rfl) rfl)) rfl ?_
  (first | refine r_gd rfl rfl ?_ | refine r_gn rfl rfl rfl ?_ | refine r_gu rfl rfl ?_ | refine r_gd rfl (by assumption) ?_ | refine r_gn rfl (by assumption) rfl ?_)
  refine r_c rfl (x_call rfl (snap_Tail (x := ofX (tS L Ps) f t (partsIn f t Ps) (tailIn f t L)) hXwf h (fun w' h' => (h'.f 2).own_rd)) ?_)
  rintro _ w ⟨a3, c3, rfl, h⟩
  (first | refine r_gd rfl rfl ?_ | refine r_gn rfl rfl rfl ?_ | refine r_gu rfl rfl ?_ | refine r_gd rfl (by assumption) ?_ | refine r_gn rfl (by assumption) rfl ?_); refine r_v (q_moveS rfl) rfl ?_; (first | refine r_gd rfl rfl ?_ | refine r_gn rfl rfl rfl ?_ | refine r_gu rfl rfl ?_ | refine r_gd rfl (by assumption) ?_ | refine r_gn rfl (by assumption) rfl ?_)
  refine r_c rfl (x_call rfl (ref10_Same (L1 := tailIn f t L) (L2 := tailIn f t L) h (fun w' h' => h'.own_rd) (fun w' h' => (h'.f 8).own_rd) (by show (tailIn f t L).length < _; omega)) ?_)
  rintro _ w ⟨rfl, h⟩
  rw [decide_eq_true rfl]
  replace h := h.drop
  (first | refine r_gd rfl rfl ?_ | refine r_gn rfl rfl rfl ?_ | refine r_gu rfl rfl ?_ | refine r_gd rfl (by assumption) ?_ | refine r_gn rfl (by assumption) rfl ?_); refine r_v (q_not rfl) rfl ?_; (first | refine r_v (q_pick1 rfl rfl rfl) rfl ?_ | refine r_v (q_pick0 rfl rfl rfl) rfl ?_ | refine r_v (q_pick1 rfl (by assumption) rfl) rfl ?_ | refine r_v (q_pick0 rfl (by assumption) rfl) rfl ?_ | refine r_v (q_pickB rfl rfl rfl) rfl ?_); refine r_v (q_moveB rfl) rfl ?_; (first | refine r_gd rfl rfl ?_ | refine r_gn rfl rfl rfl ?_ | refine r_gu rfl rfl ?_ | refine r_gd rfl (by assumption) ?_ | refine r_gn rfl (by assumption) rfl ?_); refine r_v (q_fa rfl) rfl ?_; (first | refine r_gd rfl rfl ?_ | refine r_gn rfl rfl rfl ?_ | refine r_gu rfl rfl ?_ | refine r_gd rfl (by assumption) ?_ | refine r_gn rfl (by assumption) rfl ?_); refine r_v (q_load rfl (h.b 0) rfl) rfl ?_; (first | refine r_gd rfl rfl ?_ | refine r_gn rfl rfl rfl ?_ | refine r_gu rfl rfl ?_ | refine r_gd rfl (by assumption) ?_ | refine r_gn rfl (by assumption) rfl ?_); refine r_v (q_moveS rfl) rfl ?_; (first | refine r_gd rfl rfl ?_ | refine r_gn rfl rfl rfl ?_ | refine r_gu rfl rfl ?_ | refine r_gd rfl (by assumption) ?_ | refine r_gn rfl (by assumption) rfl ?_)
  refine r_c rfl (x_call rfl (ref10_Same (L1 := tailIn f t L) (L2 := tailIn f t L) h (fun w' h' => (h'.f 2).own_rd) (fun w' h' => (h'.f 7).own_rd) (by show (tailIn f t L).length < _; omega)) ?_)
  rintro _ w ⟨rfl, h⟩
  rw [decide_eq_true rfl]
  (first | refine r_gd rfl rfl ?_ | refine r_gn rfl rfl rfl ?_ | refine r_gu rfl rfl ?_ | refine r_gd rfl (by assumption) ?_ | refine r_gn rfl (by assumption) rfl ?_); refine r_v (q_not rfl) rfl ?_; (first | refine r_v (q_pick1 rfl rfl rfl) rfl ?_ | refine r_v (q_pick0 rfl rfl rfl) rfl ?_ | refine r_v (q_pick1 rfl (by assumption) rfl) rfl ?_ | refine r_v (q_pick0 rfl (by assumption) rfl) rfl ?_ | refine r_v (q_pickB rfl rfl rfl) rfl ?_)
  refine r_nil ?_
  refine c_false rfl (c_skip ?_)
  replace h : St w0 [tX r21 ((ofX (tS L Ps) f t (partsIn f t Ps) (tailIn f t L)).cells x1 (partsIn f t Ps).length x2 (tailIn f t L).length), tO (partsIn f t Ps) x1 (partsIn f t Ps).length, tO Ps ac cc, tR r14 L Ps a1 c1 ac cc, tO (partsIn f t Ps) aw cw, IsStore p S] w := (((h.f 7).drop.f 2).drop)
  refine c_seq (c_seq (c_region ?_))
  refine r_v (q_moveS rfl) rfl ?_; refine r_v (q_len rfl) rfl ?_; refine r_v (q_moveI rfl) rfl ?_
  refine r_nil ?_
  refine c_block ?_
  refine c_loop (Γ := Nat) (fun j => [(5, .int .i64 there), (13, .pointer (some ⟨p, 0, none⟩)), (14, .pointer (some ⟨r14, 0, none⟩)), (15, .slice aw (partsIn f t Ps).length cw), (16, .bool all), (21, .pointer (some ⟨r21, 0, none⟩)), (209, .int .i64 (partsIn f t Ps).length), (210, .int .i64 j)])
    (fun j w => j ≤ (partsIn f t Ps).length ∧ St w0 [tX r21 ((ofX (tS L Ps) f t (partsIn f t Ps) (tailIn f t L)).cells x1 (partsIn f t Ps).length x2 (tailIn f t L).length), tO (partsIn f t Ps) x1 (partsIn f t Ps).length, tO Ps ac cc, tR r14 L Ps a1 c1 ac cc, tO (partsIn f t Ps) aw cw, IsStore p S] w)
    (fun j => (partsIn f t Ps).length - j) 0 ⟨rfl, rfl, rfl, rfl, rfl, rfl, rfl, rfl, trivial⟩ ⟨Nat.zero_le _, h⟩ ?_
  clear h
  rintro j w e ⟨hj, h⟩
  refine c_seq (c_region ?_)
  refine r_v (q_lss rfl rfl) rfl ?_
  refine r_nil ?_
  refine c_seq (c_cond (decide ((j : Int) < ((partsIn f t Ps).length : Int))) rfl (fun hc => ?_) (fun hc => ?_))
  ·
    have hjn : j < (partsIn f t Ps).length := by simp at hc; omega
    obtain ⟨g1, rfl⟩ := (h.f 1).own_some (by omega)
    obtain ⟨g2, rfl⟩ := (h.f 4).own_some (by omega)
    have hget := List.getElem?_eq_getElem hjn
    generalize (partsIn f t Ps)[j] = q at hget
    refine c_skip ?_
    refine c_seq (c_block ?_)
    refine c_seq (c_region ?_)
    refine r_v (q_moveI rfl) rfl ?_; refine r_v (q_assignI rfl) rfl ?_
    refine r_nil ?_
    refine c_seq (c_any none (fun w => St w0 _ w) (by kernel_rfl) (by kernel_rfl) h.drew fun w h => ?_)
    refine cur_pure rfl rfl rfl rfl (fun _ => h) (fun _ => flt_v rfl (q_fa rfl)) ?_; refine cur_float rfl rfl rfl rfl h (fun _ h => flt_v rfl (q_load rfl (h.b 0) rfl)) ?_; refine cur_pure rfl rfl rfl rfl (fun _ => h) (fun _ => flt_v rfl (q_moveI rfl)) ?_
    refine cur_pure rfl rfl rfl rfl (fun _ => h) (fun _ => flt_v rfl (q_idx rfl rfl rfl hjn rfl)) ?_
    refine cur_float rfl rfl rfl rfl h (fun w h => flt_v rfl (q_loadS (l := q.cells) rfl rfl ((h.f 1).own_rd.elem prt_len hget))) ?_
    refine cur_pure rfl rfl rfl rfl (fun _ => h) (fun _ => flt_v rfl (q_moveS rfl)) ?_; refine cur_pure rfl rfl rfl rfl (fun _ => h) (fun _ => flt_v rfl (q_moveI rfl)) ?_
    refine cur_pure rfl rfl rfl rfl (fun _ => h) (fun _ => flt_v rfl (q_idx rfl rfl rfl hjn rfl)) ?_
    refine cur_float rfl rfl rfl rfl h (fun w h => flt_v rfl (q_loadS (l := q.cells) rfl rfl ((h.f 4).own_rd.elem prt_len hget))) ?_
    refine cur_pure rfl rfl rfl rfl (fun _ => h) (fun _ => flt_v rfl (q_neI [q.blob, q.tag, q.count, q.frm, q.upto] [q.blob, q.tag, q.count, q.frm, q.upto] rfl rfl rfl rfl)) ?_
    refine cur_end ?_
    refine c_cond _ rfl (fun hc => absurd hc (by simp)) (fun _ => ?_)
    refine c_skip ?_
    refine c_region ?_
    refine r_v (q_add rfl rfl) rfl ?_
    refine r_is (.int .i64 ((j + 1 : Nat) : Int)) (by rw [wrap64 (by omega) (by omega)]; rfl) ?_
    refine r_v (q_moveI rfl) rfl ?_
    exact r_nil ⟨j + 1, ⟨rfl, rfl, rfl, rfl, rfl, rfl, rfl, rfl, trivial⟩, ⟨by omega, h⟩, by omega⟩
  clear hc hj
  refine c_exit ?_
  refine c_seq (c_seq (c_region ?_))
  refine r_v (q_moveP rfl) rfl ?_
  refine r_v (q_loadS (l := (ofX (tS L Ps) f t (partsIn f t Ps) (tailIn f t L)).cells x1 (partsIn f t Ps).length x2 (tailIn f t L).length) rfl rfl (at_of (h.b 0 rfl) rfl)) rfl ?_
  refine r_c rfl (x_call rfl (snap_Hold (x := ofX (tS L Ps) f t (partsIn f t Ps) (tailIn f t L)) (Ps := partsIn f t Ps) rfl (by show (partsIn f t Ps).length < _; omega) (Nat.le_refl _) (h.f 5) (fun w' h' => (h'.f 1).own_rd)) ?_)
  rintro _ w ⟨rfl, h⟩
  rw [inv.hold.1]
  have hcount := fun (j : Nat) (q : Prt) (hq : Ps[j]? = some q) => inv.count hq
  refine r_v (q_moveB rfl) rfl ?_; refine r_v (q_neb rfl rfl) rfl ?_
  refine r_is (.bool false) (by cases all <;> rfl) ?_
  refine r_nil ?_
  refine c_false rfl (c_skip ?_)
  have hk8 := inv.k8
  have hPk := inv.len
  replace h : St w0 [IsStore p (S.hold [] (partsIn f t Ps)).2, tX r21 ((ofX (tS L Ps) f t (partsIn f t Ps) (tailIn f t L)).cells x1 (partsIn f t Ps).length x2 (tailIn f t L).length), tO (partsIn f t Ps) x1 (partsIn f t Ps).length, tO Ps ac cc, tR r14 L Ps a1 c1 ac cc, tO (partsIn f t Ps) aw cw] w := h
  refine c_cut (Γ := Unit) (fun _ => [(5, .int .i64 there), (13, .pointer (some ⟨p, 0, none⟩)), (14, .pointer (some ⟨r14, 0, none⟩)), (16, .bool all), (21, .pointer (some ⟨r21, 0, none⟩))])
    (fun _ w => St w0 [IsStore p (S.hold [] (partsIn f t Ps)).2, tX r21 ((ofX (tS L Ps) f t (partsIn f t Ps) (tailIn f t L)).cells x1 (partsIn f t Ps).length x2 (tailIn f t L).length), tO (partsIn f t Ps) x1 (partsIn f t Ps).length, tO Ps ac cc, tR r14 L Ps a1 c1 ac cc, tO (partsIn f t Ps) aw cw] w) ?_ ?_
  · refine c_seq (c_region ?_)
    refine r_v (q_fa rfl) rfl ?_; refine r_v (q_load rfl (h.b 4) rfl) rfl ?_; refine r_v (q_len rfl) rfl ?_; refine r_v (q_moveI rfl) rfl ?_
    refine r_nil ?_
    refine c_block ?_
    refine c_loop (Γ := Nat) (fun j => [(5, .int .i64 there), (13, .pointer (some ⟨p, 0, none⟩)), (14, .pointer (some ⟨r14, 0, none⟩)), (15, .slice aw (partsIn f t Ps).length cw), (16, .bool all), (21, .pointer (some ⟨r21, 0, none⟩)), (231, .int .i64 Ps.length), (232, .int .i64 j)])
      (fun j w => j ≤ Ps.length ∧ St w0 [IsStore p (S.hold [] (partsIn f t Ps)).2, tX r21 ((ofX (tS L Ps) f t (partsIn f t Ps) (tailIn f t L)).cells x1 (partsIn f t Ps).length x2 (tailIn f t L).length), tO (partsIn f t Ps) x1 (partsIn f t Ps).length, tO Ps ac cc, tR r14 L Ps a1 c1 ac cc, tO (partsIn f t Ps) aw cw] w)
      (fun j => Ps.length - j) 0 ⟨rfl, rfl, rfl, rfl, rfl, rfl, rfl, rfl, trivial⟩ ⟨Nat.zero_le _, h⟩ ?_
    clear h
    rintro j w e ⟨hj, h⟩
    refine c_seq (c_region ?_)
    refine r_v (q_lss rfl rfl) rfl ?_
    refine r_nil ?_
    refine c_seq (c_cond (decide ((j : Int) < (Ps.length : Int))) rfl (fun hc => ?_) (fun hc => ?_))
    ·
      have hjn : j < Ps.length := by simp at hc; omega
      obtain ⟨g3, rfl⟩ := (h.f 3).own_some (by omega)
      have hget := List.getElem?_eq_getElem hjn
      have hcj := hcount j _ hget
      generalize Ps[j] = q at hget hcj
      have hsh := bit_shift (there := there) (i := 2 * (j : Int)) (j := j) rfl (by omega)
      have hbn := bitN_cases there j
      refine c_skip ?_
      refine c_seq (c_block ?_)
      refine c_seq (c_region ?_)
      refine r_v (q_moveI rfl) rfl ?_; refine r_v (q_assignI rfl) rfl ?_
      refine r_nil ?_
      refine c_seq (c_region ?_)
      refine r_v (q_moveI rfl) rfl ?_; refine r_v (q_moveI rfl) rfl ?_; refine r_v (q_mul rfl rfl) rfl ?_
      refine r_is (.int .i64 (2 * (j : Int))) (by rw [wrap64 (by omega) (by omega)]) ?_
      refine r_v (q_and rfl rfl) rfl ?_
      refine r_is (.int .i64 (2 * (j : Int))) (by rw [hsh.1]) ?_
      refine r_v (q_conv rfl) rfl ?_
      refine r_is (.int .u64 (2 * (j : Int))) (by rw [hsh.2.1]) ?_
      refine r_v (q_shr rfl rfl (by omega)) rfl ?_
      rw [hsh.2.2]
      refine r_v (q_and rfl rfl) rfl ?_
      refine r_is (.int .i64 (bitN there j)) rfl ?_
      refine r_v (q_sub rfl rfl) rfl ?_
      refine r_is (.int .i64 (1 - bitN there j)) (by rw [wrap64 (by omega) (by omega)]) ?_
      refine r_v (q_assignI rfl) rfl ?_
      refine r_nil ?_
      refine c_seq (c_region ?_)
      refine r_v (q_assignB rfl) rfl ?_
      refine r_nil ?_
      refine c_cut (Γ := Unit) (fun _ => [(5, .int .i64 there), (13, .pointer (some ⟨p, 0, none⟩)), (14, .pointer (some ⟨r14, 0, none⟩)), (15, .slice aw (partsIn f t Ps).length cw), (16, .bool all), (21, .pointer (some ⟨r21, 0, none⟩)), (26, .int .i64 j), (27, .int .i64 (1 - bitN there j)), (28, .bool (decide (q ∈ partsIn f t Ps))), (231, .int .i64 Ps.length), (232, .int .i64 j)])
        (fun _ w => St w0 [IsStore p (S.hold [] (partsIn f t Ps)).2, tX r21 ((ofX (tS L Ps) f t (partsIn f t Ps) (tailIn f t L)).cells x1 (partsIn f t Ps).length x2 (tailIn f t L).length), tO (partsIn f t Ps) x1 (partsIn f t Ps).length, tO Ps (some ⟨g3, 0, none⟩) cc, tR r14 L Ps a1 c1 (some ⟨g3, 0, none⟩) cc, tO (partsIn f t Ps) aw cw] w) ?_ ?_
      · refine c_seq (c_region ?_)
        refine r_v (q_moveS rfl) rfl ?_; refine r_v (q_len rfl) rfl ?_; refine r_v (q_moveI rfl) rfl ?_
        refine r_nil ?_
        refine c_block ?_
        refine c_loop (Γ := Nat) (fun m => [(5, .int .i64 there), (13, .pointer (some ⟨p, 0, none⟩)), (14, .pointer (some ⟨r14, 0, none⟩)), (15, .slice aw (partsIn f t Ps).length cw), (16, .bool all), (21, .pointer (some ⟨r21, 0, none⟩)), (26, .int .i64 j), (27, .int .i64 (1 - bitN there j)), (28, .bool (decide (q ∈ (partsIn f t Ps).take m))), (231, .int .i64 Ps.length), (232, .int .i64 j), (243, .slice aw (partsIn f t Ps).length cw), (244, .int .i64 (partsIn f t Ps).length), (245, .int .i64 m)])
          (fun m w => m ≤ (partsIn f t Ps).length ∧ St w0 [IsStore p (S.hold [] (partsIn f t Ps)).2, tX r21 ((ofX (tS L Ps) f t (partsIn f t Ps) (tailIn f t L)).cells x1 (partsIn f t Ps).length x2 (tailIn f t L).length), tO (partsIn f t Ps) x1 (partsIn f t Ps).length, tO Ps (some ⟨g3, 0, none⟩) cc, tR r14 L Ps a1 c1 (some ⟨g3, 0, none⟩) cc, tO (partsIn f t Ps) aw cw] w) (fun m => (partsIn f t Ps).length - m) 0 ⟨rfl, rfl, rfl, rfl, rfl, rfl, rfl, rfl, by simp; rfl, rfl, rfl, rfl, rfl, rfl, trivial⟩ ⟨Nat.zero_le _, h⟩ ?_
        clear h
        rintro m w e ⟨hm, h⟩
        refine c_seq (c_region ?_)
        refine r_v (q_lss rfl rfl) rfl ?_
        refine r_nil ?_
        refine c_seq (c_cond (decide ((m : Int) < ((partsIn f t Ps).length : Int))) rfl (fun hc => ?_) (fun hc => ?_))
        ·
          have hmn : m < (partsIn f t Ps).length := by simp at hc; omega
          obtain ⟨g5, rfl⟩ := (h.f 5).own_some (by omega)
          have hgm := List.getElem?_eq_getElem hmn
          generalize (partsIn f t Ps)[m] = r at hgm
          refine c_skip ?_
          refine c_seq (c_block ?_)
          refine c_seq (c_region ?_)
          refine r_v (q_idx rfl rfl rfl hmn rfl) rfl ?_
          refine r_v (q_loadS (l := r.cells) rfl rfl ((h.f 5).own_rd.elem prt_len hgm)) rfl ?_
          refine r_c rfl (x_alloc h fun r30 w h => ?_)
          refine r_c rfl (x_storeA (vs := r.cells) 0 h rfl rfl rfl rfl rfl rfl rfl fun w h => ?_)
          replace h : St w0 [pt r30 (.cells r.cells.toArray 53 (0, 0)), IsStore p (S.hold [] (partsIn f t Ps)).2, tX r21 ((ofX (tS L Ps) f t (partsIn f t Ps) (tailIn f t L)).cells x1 (partsIn f t Ps).length x2 (tailIn f t L).length), tO (partsIn f t Ps) x1 (partsIn f t Ps).length, tO Ps (some ⟨g3, 0, none⟩) cc, tR r14 L Ps a1 c1 (some ⟨g3, 0, none⟩) cc, tO (partsIn f t Ps) (some ⟨g5, 0, none⟩) cw] w := h
          refine r_nil ?_
          have htk : (partsIn f t Ps).take (m + 1) = (partsIn f t Ps).take m ++ [r] := by rw [List.take_add_one, hgm]; rfl
          by_cases hqm : q ∈ (partsIn f t Ps).take m
          · rw [decide_eq_true hqm]
            refine c_any none (fun w => St w0 _ w) (by kernel_rfl) (by kernel_rfl) h.drew fun w h => ?_
            refine cur_pure rfl rfl rfl rfl (fun _ => h) (fun _ => flt_v rfl (q_moveB rfl)) ?_; refine cur_pure rfl rfl rfl rfl (fun _ => h) (fun _ => flt_v rfl (q_moveB rfl)) ?_; (first | refine cur_pure rfl rfl rfl rfl (fun _ => h) (fun _ => flt_g rfl rfl (q_nil rfl)) ?_ | refine cur_pure rfl rfl rfl rfl (fun _ => h) (fun _ => flt_g rfl (by assumption) (q_nil rfl)) ?_ | refine cur_pure rfl rfl rfl rfl (fun _ => h) (fun _ => flt_n rfl rfl) ?_ | refine cur_pure rfl rfl rfl rfl (fun _ => h) (fun _ => flt_n rfl (by assumption)) ?_); (first | refine cur_pure rfl rfl rfl rfl (fun _ => h) (fun _ => flt_g rfl rfl (q_nil rfl)) ?_ | refine cur_pure rfl rfl rfl rfl (fun _ => h) (fun _ => flt_g rfl (by assumption) (q_nil rfl)) ?_ | refine cur_pure rfl rfl rfl rfl (fun _ => h) (fun _ => flt_n rfl rfl) ?_ | refine cur_pure rfl rfl rfl rfl (fun _ => h) (fun _ => flt_n rfl (by assumption)) ?_); (first | refine cur_pure rfl rfl rfl rfl (fun _ => h) (fun _ => flt_g rfl rfl (q_nil rfl)) ?_ | refine cur_pure rfl rfl rfl rfl (fun _ => h) (fun _ => flt_g rfl (by assumption) (q_nil rfl)) ?_ | refine cur_pure rfl rfl rfl rfl (fun _ => h) (fun _ => flt_n rfl rfl) ?_ | refine cur_pure rfl rfl rfl rfl (fun _ => h) (fun _ => flt_n rfl (by assumption)) ?_); (first | refine cur_pure rfl rfl rfl rfl (fun _ => h) (fun _ => flt_g rfl rfl (q_nil rfl)) ?_ | refine cur_pure rfl rfl rfl rfl (fun _ => h) (fun _ => flt_g rfl (by assumption) (q_nil rfl)) ?_ | refine cur_pure rfl rfl rfl rfl (fun _ => h) (fun _ => flt_n rfl rfl) ?_ | refine cur_pure rfl rfl rfl rfl (fun _ => h) (fun _ => flt_n rfl (by assumption)) ?_); (first | refine cur_pure rfl rfl rfl rfl (fun _ => h) (fun _ => flt_g rfl rfl (q_nil rfl)) ?_ | refine cur_pure rfl rfl rfl rfl (fun _ => h) (fun _ => flt_g rfl (by assumption) (q_nil rfl)) ?_ | refine cur_pure rfl rfl rfl rfl (fun _ => h) (fun _ => flt_n rfl rfl) ?_ | refine cur_pure rfl rfl rfl rfl (fun _ => h) (fun _ => flt_n rfl (by assumption)) ?_); (first | refine cur_pure rfl rfl rfl rfl (fun _ => h) (fun _ => flt_g rfl rfl (q_nil rfl)) ?_ | refine cur_pure rfl rfl rfl rfl (fun _ => h) (fun _ => flt_g rfl (by assumption) (q_nil rfl)) ?_ | refine cur_pure rfl rfl rfl rfl (fun _ => h) (fun _ => flt_n rfl rfl) ?_ | refine cur_pure rfl rfl rfl rfl (fun _ => h) (fun _ => flt_n rfl (by assumption)) ?_); (first | refine cur_pure rfl rfl rfl rfl (fun _ => h) (fun _ => flt_g rfl rfl (q_nil rfl)) ?_ | refine cur_pure rfl rfl rfl rfl (fun _ => h) (fun _ => flt_g rfl (by assumption) (q_nil rfl)) ?_ | refine cur_pure rfl rfl rfl rfl (fun _ => h) (fun _ => flt_n rfl rfl) ?_ | refine cur_pure rfl rfl rfl rfl (fun _ => h) (fun _ => flt_n rfl (by assumption)) ?_); (first | refine cur_pure rfl rfl rfl rfl (fun _ => h) (fun _ => flt_v rfl (q_pick1 rfl rfl rfl)) ?_ | refine cur_pure rfl rfl rfl rfl (fun _ => h) (fun _ => flt_v rfl (q_pick0 rfl rfl rfl)) ?_ | refine cur_pure rfl rfl rfl rfl (fun _ => h) (fun _ => flt_v rfl (q_pick1 rfl (by assumption) rfl)) ?_ | refine cur_pure rfl rfl rfl rfl (fun _ => h) (fun _ => flt_v rfl (q_pick0 rfl (by assumption) rfl)) ?_ | refine cur_pure rfl rfl rfl rfl (fun _ => h) (fun _ => flt_v rfl (q_pickB rfl rfl rfl)) ?_); refine cur_pure rfl rfl rfl rfl (fun _ => h) (fun _ => flt_v rfl (q_assignB rfl)) ?_
            refine cur_end ?_
            refine c_region ?_
            refine r_v (q_add rfl rfl) rfl ?_
            refine r_is (.int .i64 ((m + 1 : Nat) : Int)) (by rw [wrap64 (by omega) (by omega)]; rfl) ?_
            refine r_v (q_moveI rfl) rfl ?_
            refine r_nil ⟨m + 1, ⟨rfl, rfl, rfl, rfl, rfl, rfl, rfl, rfl, ?_, rfl, rfl, rfl, rfl, rfl, trivial⟩, ⟨by omega, h.drop⟩, by omega⟩
            show Value.bool true = _
            rw [htk, decide_eq_true (List.mem_append_left _ hqm)]
          · rw [decide_eq_false hqm]
            refine c_any none (fun w => St w0 _ w) (by kernel_rfl) (by kernel_rfl) h.drew fun w h => ?_
            refine cur_pure rfl rfl rfl rfl (fun _ => h) (fun _ => flt_v rfl (q_moveB rfl)) ?_; refine cur_pure rfl rfl rfl rfl (fun _ => h) (fun _ => flt_v rfl (q_moveB rfl)) ?_
            refine cur_float rfl rfl rfl rfl h (fun w h => flt_g rfl rfl (q_loadS (l := r.cells) rfl rfl (at_of (h.b 0 rfl) rfl))) ?_
            (first | refine cur_pure rfl rfl rfl rfl (fun _ => h) (fun _ => flt_g rfl rfl (q_fa rfl)) ?_ | refine cur_pure rfl rfl rfl rfl (fun _ => h) (fun _ => flt_g rfl (by assumption) (q_fa rfl)) ?_ | refine cur_pure rfl rfl rfl rfl (fun _ => h) (fun _ => flt_n rfl rfl) ?_ | refine cur_pure rfl rfl rfl rfl (fun _ => h) (fun _ => flt_n rfl (by assumption)) ?_); (first | refine cur_float rfl rfl rfl rfl h (fun _ h => flt_g rfl rfl (q_load rfl (h.b 5) rfl)) ?_ | refine cur_float rfl rfl rfl rfl h (fun _ h => flt_g rfl (by assumption) (q_load rfl (h.b 5) rfl)) ?_ | refine cur_pure rfl rfl rfl rfl (fun _ => h) (fun _ => flt_n rfl rfl) ?_ | refine cur_pure rfl rfl rfl rfl (fun _ => h) (fun _ => flt_n rfl (by assumption)) ?_); (first | refine cur_pure rfl rfl rfl rfl (fun _ => h) (fun _ => flt_g rfl rfl (q_moveI rfl)) ?_ | refine cur_pure rfl rfl rfl rfl (fun _ => h) (fun _ => flt_g rfl (by assumption) (q_moveI rfl)) ?_ | refine cur_pure rfl rfl rfl rfl (fun _ => h) (fun _ => flt_n rfl rfl) ?_ | refine cur_pure rfl rfl rfl rfl (fun _ => h) (fun _ => flt_n rfl (by assumption)) ?_)
            refine cur_pure rfl rfl rfl rfl (fun _ => h) (fun _ => flt_g rfl rfl (q_idx rfl rfl rfl hjn rfl)) ?_
            refine cur_float rfl rfl rfl rfl h (fun w h => flt_g rfl rfl (q_loadS (l := q.cells) rfl rfl ((h.f 4).own_rd.elem prt_len hget))) ?_
            refine cur_pure rfl rfl rfl rfl (fun _ => h) (fun _ => flt_g rfl rfl (q_eqI [r.blob, r.tag, r.count, r.frm, r.upto] [q.blob, q.tag, q.count, q.frm, q.upto] rfl rfl rfl rfl)) ?_
            (first | refine cur_pure rfl rfl rfl rfl (fun _ => h) (fun _ => flt_v rfl (q_pick1 rfl rfl rfl)) ?_ | refine cur_pure rfl rfl rfl rfl (fun _ => h) (fun _ => flt_v rfl (q_pick0 rfl rfl rfl)) ?_ | refine cur_pure rfl rfl rfl rfl (fun _ => h) (fun _ => flt_v rfl (q_pick1 rfl (by assumption) rfl)) ?_ | refine cur_pure rfl rfl rfl rfl (fun _ => h) (fun _ => flt_v rfl (q_pick0 rfl (by assumption) rfl)) ?_ | refine cur_pure rfl rfl rfl rfl (fun _ => h) (fun _ => flt_v rfl (q_pickB rfl rfl rfl)) ?_); refine cur_pure rfl rfl rfl rfl (fun _ => h) (fun _ => flt_v rfl (q_assignB rfl)) ?_
            refine cur_end ?_
            refine c_region ?_
            refine r_v (q_add rfl rfl) rfl ?_
            refine r_is (.int .i64 ((m + 1 : Nat) : Int)) (by rw [wrap64 (by omega) (by omega)]; rfl) ?_
            refine r_v (q_moveI rfl) rfl ?_
            refine r_nil ⟨m + 1, ⟨rfl, rfl, rfl, rfl, rfl, rfl, rfl, rfl, ?_, rfl, rfl, rfl, rfl, rfl, trivial⟩, ⟨by omega, h.drop⟩, by omega⟩
            show Value.bool _ = Value.bool _
            rw [htk]
            congr 1
            obtain ⟨u1, u2, u3, u4, u5⟩ := r
            obtain ⟨v1, v2, v3, v4, v5⟩ := q
            rw [Bool.eq_iff_iff]
            simp only [beq_iff_eq, List.cons.injEq, and_true, decide_eq_true_eq, List.mem_append, List.mem_singleton, hqm, false_or, Prt.mk.injEq]
            constructor <;> rintro ⟨rfl, rfl, rfl, rfl, rfl⟩ <;> exact ⟨rfl, rfl, rfl, rfl, rfl⟩
        have hmn : m = (partsIn f t Ps).length := by simp at hc; omega
        subst hmn
        refine c_exit ⟨(), ⟨rfl, rfl, rfl, rfl, rfl, rfl, rfl, rfl, ?_, rfl, rfl, trivial⟩, h⟩
        show Value.bool (decide (q ∈ (partsIn f t Ps).take (partsIn f t Ps).length)) = _
        rw [List.take_length]
      clear h
      rintro ⟨⟩ w e h
      refine c_cut (Γ := Unit) (fun _ => [(5, .int .i64 there), (13, .pointer (some ⟨p, 0, none⟩)), (14, .pointer (some ⟨r14, 0, none⟩)), (15, .slice aw (partsIn f t Ps).length cw), (16, .bool all), (21, .pointer (some ⟨r21, 0, none⟩)), (26, .int .i64 j), (27, .int .i64 ((1 - bitN there j) + if (decide (q ∈ partsIn f t Ps) && all) = true then 1 else 0)), (231, .int .i64 Ps.length), (232, .int .i64 j)])
        (fun _ w => St w0 [IsStore p (S.hold [] (partsIn f t Ps)).2, tX r21 ((ofX (tS L Ps) f t (partsIn f t Ps) (tailIn f t L)).cells x1 (partsIn f t Ps).length x2 (tailIn f t L).length), tO (partsIn f t Ps) x1 (partsIn f t Ps).length, tO Ps (some ⟨g3, 0, none⟩) cc, tR r14 L Ps a1 c1 (some ⟨g3, 0, none⟩) cc, tO (partsIn f t Ps) aw cw] w) ?_ ?_
      · refine c_seq (c_region ?_)
        by_cases hqV : q ∈ partsIn f t Ps
        · rw [decide_eq_true hqV]
          cases all with
          | true =>
            refine r_v (q_moveB rfl) rfl ?_; refine r_v (q_moveB rfl) rfl ?_; (first | refine r_gd rfl rfl ?_ | refine r_gn rfl rfl rfl ?_ | refine r_gu rfl rfl ?_ | refine r_gd rfl (by assumption) ?_ | refine r_gn rfl (by assumption) rfl ?_); refine r_v (q_moveB rfl) rfl ?_; (first | refine r_v (q_pick1 rfl rfl rfl) rfl ?_ | refine r_v (q_pick0 rfl rfl rfl) rfl ?_ | refine r_v (q_pick1 rfl (by assumption) rfl) rfl ?_ | refine r_v (q_pick0 rfl (by assumption) rfl) rfl ?_ | refine r_v (q_pickB rfl rfl rfl) rfl ?_)
            refine r_nil (c_true rfl ?_)
            refine c_region ?_
            refine r_v (q_moveI rfl) rfl ?_; refine r_v (q_add rfl rfl) rfl ?_
            refine r_is (.int .i64 ((1 - bitN there j) + 1)) (by rw [wrap64 (by omega) (by omega)]) ?_
            refine r_v (q_assignI rfl) rfl ?_
            exact r_nil ⟨(), ⟨rfl, rfl, rfl, rfl, rfl, rfl, rfl, rfl, rfl, rfl, trivial⟩, h⟩
          | false =>
            refine r_v (q_moveB rfl) rfl ?_; refine r_v (q_moveB rfl) rfl ?_; (first | refine r_gd rfl rfl ?_ | refine r_gn rfl rfl rfl ?_ | refine r_gu rfl rfl ?_ | refine r_gd rfl (by assumption) ?_ | refine r_gn rfl (by assumption) rfl ?_); refine r_v (q_moveB rfl) rfl ?_; (first | refine r_v (q_pick1 rfl rfl rfl) rfl ?_ | refine r_v (q_pick0 rfl rfl rfl) rfl ?_ | refine r_v (q_pick1 rfl (by assumption) rfl) rfl ?_ | refine r_v (q_pick0 rfl (by assumption) rfl) rfl ?_ | refine r_v (q_pickB rfl rfl rfl) rfl ?_)
            refine r_nil (c_false rfl ?_)
            exact c_skip ⟨(), ⟨rfl, rfl, rfl, rfl, rfl, rfl, rfl, by simp; rfl, rfl, rfl, trivial⟩, h⟩
        · rw [decide_eq_false hqV]
          refine r_v (q_moveB rfl) rfl ?_; refine r_v (q_moveB rfl) rfl ?_; (first | refine r_gd rfl rfl ?_ | refine r_gn rfl rfl rfl ?_ | refine r_gu rfl rfl ?_ | refine r_gd rfl (by assumption) ?_ | refine r_gn rfl (by assumption) rfl ?_); (first | refine r_v (q_pick1 rfl rfl rfl) rfl ?_ | refine r_v (q_pick0 rfl rfl rfl) rfl ?_ | refine r_v (q_pick1 rfl (by assumption) rfl) rfl ?_ | refine r_v (q_pick0 rfl (by assumption) rfl) rfl ?_ | refine r_v (q_pickB rfl rfl rfl) rfl ?_)
          refine r_nil (c_false rfl ?_)
          exact c_skip ⟨(), ⟨rfl, rfl, rfl, rfl, rfl, rfl, rfl, by simp; rfl, rfl, rfl, trivial⟩, h⟩
      clear h
      rintro ⟨⟩ w e h
      refine c_seq (c_region ?_)
      refine r_v (q_moveP rfl) rfl ?_; refine r_v (q_fa rfl) rfl ?_; refine r_v (q_load rfl (h.b 4) rfl) rfl ?_; refine r_v (q_moveI rfl) rfl ?_
      refine r_v (q_idx rfl rfl rfl hjn (Nat.zero_add _)) rfl ?_
      refine r_v (q_fa rfl) rfl ?_
      refine r_v (q_loadc (v := .int .i64 q.blob) rfl (by have := (h.f 3).own_rd.elem prt_len hget 0 _ rfl; simpa using this)) rfl ?_
      refine r_c rfl (x_call rfl (blob_Holds q.blob h) ?_)
      rintro _ w ⟨rfl, h⟩
      refine r_v (q_moveI rfl) rfl ?_; refine r_v (q_neq rfl rfl) rfl ?_
      refine r_is (.bool false) (by rw [show ((mget q.blob (S.hold [] (partsIn f t Ps)).2.l).map (·.holds)).getD 0 = _ from hcj]; simp) ?_
      refine r_nil (c_false rfl (c_skip ?_))
      refine c_region ?_
      refine r_v (q_add rfl rfl) rfl ?_
      refine r_is (.int .i64 ((j + 1 : Nat) : Int)) (by rw [wrap64 (by omega) (by omega)]; rfl) ?_
      refine r_v (q_moveI rfl) rfl ?_
      exact r_nil ⟨j + 1, ⟨rfl, rfl, rfl, rfl, rfl, rfl, rfl, rfl, trivial⟩, ⟨by omega, h⟩, by omega⟩
    exact c_exit ⟨(), ⟨rfl, rfl, rfl, rfl, rfl, trivial⟩, h⟩
  clear h
  rintro ⟨⟩ w e h
  refine c_cut (Γ := Sto) (fun _ => [(5, .int .i64 there), (13, .pointer (some ⟨p, 0, none⟩)), (14, .pointer (some ⟨r14, 0, none⟩))])
    (fun S3 w => (∀ id, S3.view id = S.view id) ∧ St w0 [IsStore p S3, tO Ps ac cc, tR r14 L Ps a1 c1 ac cc] w) ?_ ?_
  · refine c_seq (c_region ?_)
    refine r_v (q_moveB rfl) rfl ?_
    refine r_nil ?_
    refine c_cond all rfl (fun hc => ?_) (fun hc => ?_)
    · refine c_region ?_
      refine r_v (q_moveP rfl) rfl ?_
      refine r_v (q_loadS (l := (ofX (tS L Ps) f t (partsIn f t Ps) (tailIn f t L)).cells x1 (partsIn f t Ps).length x2 (tailIn f t L).length) rfl rfl (at_of (h.b 1 rfl) rfl)) rfl ?_
      refine r_c rfl (x_call rfl (snap_Leave (x := ofX (tS L Ps) f t (partsIn f t Ps) (tailIn f t L)) (Ps := partsIn f t Ps) rfl (by show (partsIn f t Ps).length < _; omega) h (fun w' h' => (h'.f 1).own_rd)) ?_)
      rintro _ w ⟨rfl, h⟩
      exact r_nil ⟨_, ⟨rfl, rfl, rfl, trivial⟩, fun id => inv.left hc id, (((h.f 1).drop.f 1).drop).f 3 |>.drop⟩
    · refine c_skip ⟨_, ⟨rfl, rfl, rfl, trivial⟩, fun id => ?_, (((h.f 1).drop.f 1).drop).f 3 |>.drop⟩
      rw [inv.hold.2]; simp [hc]
  clear h
  rintro S3 w e ⟨hS3, h⟩
  refine c_seq (c_seq (c_region ?_))
  refine r_v (q_fa rfl) rfl ?_; refine r_v (q_load rfl (h.b 2) rfl) rfl ?_; refine r_v (q_len rfl) rfl ?_; refine r_v (q_moveI rfl) rfl ?_
  refine r_nil ?_
  refine c_block ?_
  refine c_loop (Γ := Nat) (fun j => [(5, .int .i64 there), (13, .pointer (some ⟨p, 0, none⟩)), (14, .pointer (some ⟨r14, 0, none⟩)), (283, .int .i64 Ps.length), (284, .int .i64 j)])
    (fun j w => j ≤ Ps.length ∧ St w0 [IsStore p S3, tO Ps ac cc, tR r14 L Ps a1 c1 ac cc] w) (fun j => Ps.length - j) 0 ⟨rfl, rfl, rfl, rfl, rfl, trivial⟩ ⟨Nat.zero_le _, h⟩ ?_
  clear h
  rintro j w e ⟨hj, h⟩
  refine c_seq (c_region ?_)
  refine r_v (q_lss rfl rfl) rfl ?_
  refine r_nil ?_
  refine c_seq (c_cond (decide ((j : Int) < (Ps.length : Int))) rfl (fun hc => ?_) (fun hc => ?_))
  · have hjn : j < Ps.length := by simp at hc; omega
    obtain ⟨g3, rfl⟩ := (h.f 1).own_some (by omega)
    have hget := List.getElem?_eq_getElem hjn
    have hcj := inv.count0 hget
    generalize Ps[j] = q at hget hcj
    rw [← hS3] at hcj
    have hsh := bit_shift (there := there) (i := 2 * (j : Int)) (j := j) rfl (by omega)
    have hbn := bitN_cases there j
    refine c_skip ?_
    refine c_seq (c_block ?_)
    refine c_seq (c_region ?_)
    refine r_v (q_moveI rfl) rfl ?_; refine r_v (q_assignI rfl) rfl ?_
    refine r_nil ?_
    refine c_seq (c_region ?_)
    refine r_v (q_moveP rfl) rfl ?_; refine r_v (q_fa rfl) rfl ?_; refine r_v (q_load rfl (h.b 2) rfl) rfl ?_; refine r_v (q_moveI rfl) rfl ?_
    refine r_v (q_idx rfl rfl rfl hjn (Nat.zero_add _)) rfl ?_
    refine r_v (q_fa rfl) rfl ?_
    refine r_v (q_loadc (v := .int .i64 q.blob) rfl (by have := (h.f 1).own_rd.elem prt_len hget 0 _ rfl; simpa using this)) rfl ?_
    refine r_c rfl (x_call rfl (blob_Holds q.blob h) ?_)
    rintro _ w ⟨rfl, h⟩
    refine r_v (q_moveI rfl) rfl ?_; refine r_v (q_moveI rfl) rfl ?_; refine r_v (q_mul rfl rfl) rfl ?_
    refine r_is (.int .i64 (2 * (j : Int))) (by rw [wrap64 (by omega) (by omega)]) ?_
    refine r_v (q_and rfl rfl) rfl ?_
    refine r_is (.int .i64 (2 * (j : Int))) (by rw [hsh.1]) ?_
    refine r_v (q_conv rfl) rfl ?_
    refine r_is (.int .u64 (2 * (j : Int))) (by rw [hsh.2.1]) ?_
    refine r_v (q_shr rfl rfl (by omega)) rfl ?_
    rw [hsh.2.2]
    refine r_v (q_and rfl rfl) rfl ?_
    refine r_is (.int .i64 (bitN there j)) rfl ?_
    refine r_v (q_sub rfl rfl) rfl ?_
    refine r_is (.int .i64 (1 - bitN there j)) (by rw [wrap64 (by omega) (by omega)]) ?_
    refine r_v (q_neq rfl rfl) rfl ?_
    refine r_is (.bool false) (by rw [show ((mget q.blob S3.l).map (·.holds)).getD 0 = _ from hcj]; simp) ?_
    refine r_nil (c_false rfl (c_skip ?_))
    refine c_region ?_
    refine r_v (q_add rfl rfl) rfl ?_
    refine r_is (.int .i64 ((j + 1 : Nat) : Int)) (by rw [wrap64 (by omega) (by omega)]; rfl) ?_
    refine r_v (q_moveI rfl) rfl ?_
    exact r_nil ⟨j + 1, ⟨rfl, rfl, rfl, rfl, rfl, trivial⟩, ⟨by omega, h⟩, by omega⟩
  refine c_exit ?_
  refine c_seq (c_region ?_)
  refine r_c rfl (x_call rfl (law19_awake h) ?_)
  rintro _ w ⟨rfl, h⟩
  refine r_v (q_assignB rfl) rfl ?_
  refine r_nil ?_
  exact c_ret (bq1 ⟨rfl, h.drop.drop.drop⟩)
end
end Go.Proofs.Ytgahjjihfibbnaa
