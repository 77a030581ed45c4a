/- Layer 19: what 'awake' answers. -/
import Derived.Test.YtgahjjihfibbnaaSnapOf
import Derived.Test.YtgahjjihfibbnaaBlok
namespace Go.Proofs.Ytgahjjihfibbnaa
open Go.Hw
set_option maxHeartbeats 8000000
section
variable {w0 w : World} {l : List HProp}
abbrev aS : SlotV := ⟨true, false, 2, 4, false, 0, [⟨7, 0⟩, ⟨9, 0⟩], [⟨1, 0, 0, 1, 3⟩, ⟨2, 0, 0, 4, 6⟩]⟩
abbrev aX : SnapV := ofX aS 5 8 [⟨2, 0, 0, 4, 6⟩] [⟨7, 0⟩]
abbrev aStore (h2 : Int) : Sto := ⟨100, 2, 2, 0, [(1, ⟨[97], 1⟩), (2, ⟨[98], h2⟩)]⟩
theorem aX_wf : aX.Wf := ofX_wf (by decide) (by decide)
theorem law19_awake (h : St w0 l w) : Ret Try.prog 31 [] w fun v w' => v = .bool true ∧ St w0 l w' := by
  refine enter Try.func31 rfl Try.results31 Try.ntmps31 rfl ?_
  refine c_seq (c_region ?_)
  refine r_v (q_assignB rfl) rfl ?_
  refine r_nil ?_
  refine c_seq (c_region ?_)
  refine r_v (q_build (r := (Smp.mk 7 0).cells) rfl) rfl ?_
  refine r_v (q_build (r := (Smp.mk 9 0).cells) rfl) rfl ?_
  refine r_c rfl (x_bslice (r := smpsV aS.opn) h rfl rfl rfl fun b1 w h => ?_)
  refine r_v (q_build (r := [.bool false, .int .i64 0, .slice (some ⟨b1, 0, none⟩) 2 2]) rfl) rfl ?_
  refine r_v (q_build (r := (Prt.mk 1 0 0 1 3).cells) rfl) rfl ?_
  refine r_v (q_build (r := (Prt.mk 2 0 0 4 6).cells) rfl) rfl ?_
  refine r_c rfl (x_bslice (r := prtsV aS.chunks) h rfl rfl rfl fun b2 w h => ?_)
  refine r_v (q_build (r := aS.cells (some ⟨b1, 0, none⟩) 2 (some ⟨b2, 0, none⟩) 2) rfl) rfl ?_
  refine r_c rfl (x_alloc h fun r1 w h => ?_)
  refine r_c rfl (x_storeA (vs := aS.cells (some ⟨b1, 0, none⟩) 2 (some ⟨b2, 0, none⟩) 2) 0 h rfl rfl rfl rfl rfl rfl rfl fun w h => ?_)
  replace h : St w0 (pt r1 (.cells (aS.cells (some ⟨b1, 0, none⟩) 2 (some ⟨b2, 0, none⟩) 2).toArray 69 (0, 0)) :: pt b2 (.cells (prtsV aS.chunks).toArray 53 (0, 0)) :: pt b1 (.cells (smpsV aS.opn).toArray 56 (0, 0)) :: l) w := h
  refine r_nil ?_
  refine c_seq (c_region ?_)
  refine r_v (q_loadS (l := aS.cells (some ⟨b1, 0, none⟩) 2 (some ⟨b2, 0, none⟩) 2) rfl rfl (at_of (h.b 0 rfl) rfl)) rfl ?_
  refine r_c rfl (x_call rfl (snap_Of (s := aS) 5 8 h (fun w' h' => ⟨rfl, .inr ⟨b1, 0, rfl, at_of (h'.b 2 rfl) rfl⟩⟩) (fun w' h' => ⟨rfl, .inr ⟨b2, 0, rfl, at_of (h'.b 1 rfl) rfl⟩⟩) (by decide) (by decide)) ?_)
  rintro _ w ⟨a1, a2, rfl, h⟩
  have e1 : partsIn 5 8 aS.chunks = [⟨2, 0, 0, 4, 6⟩] := by decide
  have e2 : tailIn 5 8 aS.opn = [⟨7, 0⟩] := by decide
  rw [e1, e2] at h ⊢
  replace h : St w0 (OwnP aX a1 1 :: OwnT aX a2 1 :: l) w := ((h.f 2).drop.f 2).drop.f 2 |>.drop
  refine r_c rfl (x_alloc h fun r2 w h => ?_)
  refine r_c rfl (x_storeA (vs := aX.cells a1 1 a2 1) 0 h rfl rfl rfl rfl rfl rfl rfl fun w h => ?_)
  replace h : St w0 (pt r2 (.cells (aX.cells a1 1 a2 1).toArray 43 (0, 0)) :: OwnP aX a1 1 :: OwnT aX a2 1 :: l) w := h
  obtain ⟨g1, rfl⟩ := (h.f 1).own_some (show 0 < 1 by decide)
  refine r_nil ?_
  refine c_seq (c_region ?_)
  refine r_c rfl (x_call rfl (blob_New _ h) ?_)
  rintro _ w ⟨p, rfl, h⟩
  replace h : St w0 (IsStore p ⟨100, 0, 0, 0, []⟩ :: pt r2 (.cells (aX.cells (some ⟨g1, 0, none⟩) 1 a2 1).toArray 43 (0, 0)) :: OwnP aX (some ⟨g1, 0, none⟩) 1 :: OwnT aX a2 1 :: l) w := h
  refine r_v (q_assignP rfl) rfl ?_
  refine r_nil ?_
  refine c_seq (c_seq (c_region ?_))
  refine r_v (q_moveP rfl) rfl ?_; refine r_v (q_eqnil rfl rfl) rfl ?_
  refine r_nil ?_
  refine c_false rfl (c_skip ?_)
  refine c_seq (c_region ?_)
  refine r_v (q_moveP rfl) rfl ?_
  refine r_v (q_loadS (l := aX.cells (some ⟨g1, 0, none⟩) 1 a2 1) rfl rfl (at_of (h.b 1 rfl) rfl)) rfl ?_
  refine r_c rfl (x_call rfl (snap_Hold (x := aX) (Ps := [⟨2, 0, 0, 4, 6⟩]) rfl (by decide) (Nat.le_refl _) h (fun w' h' => (h'.f 1).own_rd)) ?_)
  rintro _ w ⟨rfl, h⟩
  replace h : St w0 (IsStore p ⟨100, 0, 0, 0, []⟩ :: pt r2 (.cells (aX.cells (some ⟨g1, 0, none⟩) 1 a2 1).toArray 43 (0, 0)) :: OwnP aX (some ⟨g1, 0, none⟩) 1 :: OwnT aX a2 1 :: l) w := h
  refine r_is (.bool false) rfl ?_
  refine r_v (q_assignB rfl) rfl ?_
  refine r_nil ?_
  refine c_seq (c_region ?_)
  refine r_v (q_moveP rfl) rfl ?_
  refine r_c rfl (x_bslice (r := [.int .u8 97]) h rfl rfl rfl fun b w h => ?_)
  refine r_c rfl (x_mark 0 h rfl rfl fun w h => ?_)
  replace h := h.f 1
  refine r_c rfl (x_call rfl (blob_AddT (n := 1) (bs := [97]) (by constructor <;> decide) h (fun w' h' => ⟨rfl, .inr ⟨b, 0, rfl, at_of (h'.b 0 rfl) rfl⟩⟩) (by decide) rfl) ?_)
  rintro _ w ⟨rfl, h⟩
  replace h : St w0 (IsStore p ⟨100, 1, 1, 0, [(1, ⟨[97], 1⟩)]⟩ :: pt r2 (.cells (aX.cells (some ⟨g1, 0, none⟩) 1 a2 1).toArray 43 (0, 0)) :: OwnP aX (some ⟨g1, 0, none⟩) 1 :: OwnT aX a2 1 :: l) w := (h.f 1).drop
  refine r_nil ?_
  refine c_seq (c_region ?_)
  refine r_v (q_moveP rfl) rfl ?_
  refine r_c rfl (x_bslice (r := [.int .u8 98]) h rfl rfl rfl fun b w h => ?_)
  refine r_c rfl (x_mark 0 h rfl rfl fun w h => ?_)
  replace h := h.f 1
  refine r_c rfl (x_call rfl (blob_AddT (n := 1) (bs := [98]) (by constructor <;> decide) h (fun w' h' => ⟨rfl, .inr ⟨b, 0, rfl, at_of (h'.b 0 rfl) rfl⟩⟩) (by decide) rfl) ?_)
  rintro _ w ⟨rfl, h⟩
  replace h : St w0 (IsStore p (aStore 1) :: pt r2 (.cells (aX.cells (some ⟨g1, 0, none⟩) 1 a2 1).toArray 43 (0, 0)) :: OwnP aX (some ⟨g1, 0, none⟩) 1 :: OwnT aX a2 1 :: l) w := (h.f 1).drop
  refine r_nil ?_
  refine c_seq (c_region ?_)
  refine r_v (q_moveP rfl) rfl ?_
  refine r_v (q_loadS (l := aX.cells (some ⟨g1, 0, none⟩) 1 a2 1) rfl rfl (at_of (h.b 1 rfl) rfl)) rfl ?_
  refine r_c rfl (x_call rfl (snap_Hold (x := aX) (Ps := [⟨2, 0, 0, 4, 6⟩]) rfl (by decide) (Nat.le_refl _) h (fun w' h' => (h'.f 1).own_rd)) ?_)
  rintro _ w ⟨rfl, h⟩
  replace h : St w0 (IsStore p (aStore 2) :: pt r2 (.cells (aX.cells (some ⟨g1, 0, none⟩) 1 a2 1).toArray 43 (0, 0)) :: OwnP aX (some ⟨g1, 0, none⟩) 1 :: OwnT aX a2 1 :: l) w := h
  refine r_is (.bool true) rfl ?_
  refine r_v (q_assignB rfl) rfl ?_
  refine r_nil ?_
  refine c_seq (c_region ?_)
  refine r_v (q_moveP rfl) rfl ?_
  refine r_c rfl (x_call rfl (blob_Holds 2 h) ?_)
  rintro _ w ⟨rfl, h⟩
  refine r_is (.int .i64 2) rfl ?_
  refine r_v (q_assignI rfl) rfl ?_
  refine r_nil ?_
  refine c_seq (c_region ?_)
  refine r_v (q_moveP rfl) rfl ?_
  refine r_v (q_loadS (l := aX.cells (some ⟨g1, 0, none⟩) 1 a2 1) rfl rfl (at_of (h.b 1 rfl) rfl)) rfl ?_
  refine r_c rfl (x_call rfl (snap_Leave (x := aX) (Ps := [⟨2, 0, 0, 4, 6⟩]) rfl (by decide) h (fun w' h' => (h'.f 1).own_rd)) ?_)
  rintro _ w ⟨rfl, h⟩
  replace h : St w0 (IsStore p (aStore 1) :: pt r2 (.cells (aX.cells (some ⟨g1, 0, none⟩) 1 a2 1).toArray 43 (0, 0)) :: OwnP aX (some ⟨g1, 0, none⟩) 1 :: OwnT aX a2 1 :: l) w := h
  refine r_nil ?_
  refine c_seq (c_region ?_)
  refine r_v (q_fa rfl) rfl ?_; refine r_v (q_load rfl (h.b 1) rfl) rfl ?_; refine r_v (q_eql rfl rfl) rfl ?_; refine r_v (q_moveB rfl) rfl ?_; (first | refine r_gd rfl rfl ?_ | refine r_gn rfl rfl rfl ?_ | refine r_gu rfl rfl ?_ | refine r_gd rfl (by assumption) ?_ | refine r_gn rfl (by assumption) rfl ?_); refine r_v (q_fa rfl) rfl ?_; (first | refine r_gd rfl rfl ?_ | refine r_gn rfl rfl rfl ?_ | refine r_gu rfl rfl ?_ | refine r_gd rfl (by assumption) ?_ | refine r_gn rfl (by assumption) rfl ?_); refine r_v (q_load rfl (h.b 1) rfl) rfl ?_; (first | refine r_gd rfl rfl ?_ | refine r_gn rfl rfl rfl ?_ | refine r_gu rfl rfl ?_ | refine r_gd rfl (by assumption) ?_ | refine r_gn rfl (by assumption) rfl ?_); refine r_v (q_eql rfl rfl) rfl ?_; (first | refine r_v (q_pick1 rfl rfl rfl) rfl ?_ | refine r_v (q_pick0 rfl rfl rfl) rfl ?_ | refine r_v (q_pick1 rfl (by assumption) rfl) rfl ?_ | refine r_v (q_pick0 rfl (by assumption) rfl) rfl ?_ | refine r_v (q_pickB rfl rfl rfl) rfl ?_); refine r_v (q_moveB rfl) rfl ?_; (first | refine r_gd rfl rfl ?_ | refine r_gn rfl rfl rfl ?_ | refine r_gu rfl rfl ?_ | refine r_gd rfl (by assumption) ?_ | refine r_gn rfl (by assumption) rfl ?_); refine r_v (q_fa rfl) rfl ?_; (first | refine r_gd rfl rfl ?_ | refine r_gn rfl rfl rfl ?_ | refine r_gu rfl rfl ?_ | refine r_gd rfl (by assumption) ?_ | refine r_gn rfl (by assumption) rfl ?_); refine r_v (q_load rfl (h.b 1) rfl) rfl ?_; (first | refine r_gd rfl rfl ?_ | refine r_gn rfl rfl rfl ?_ | refine r_gu rfl rfl ?_ | refine r_gd rfl (by assumption) ?_ | refine r_gn rfl (by assumption) rfl ?_); refine r_v (q_eql rfl rfl) rfl ?_; (first | refine r_v (q_pick1 rfl rfl rfl) rfl ?_ | refine r_v (q_pick0 rfl rfl rfl) rfl ?_ | refine r_v (q_pick1 rfl (by assumption) rfl) rfl ?_ | refine r_v (q_pick0 rfl (by assumption) rfl) rfl ?_ | refine r_v (q_pickB rfl rfl rfl) rfl ?_); refine r_v (q_moveB rfl) rfl ?_; (first | refine r_gd rfl rfl ?_ | refine r_gn rfl rfl rfl ?_ | refine r_gu rfl rfl ?_ | refine r_gd rfl (by assumption) ?_ | refine r_gn rfl (by assumption) rfl ?_); refine r_v (q_fa rfl) rfl ?_; (first | refine r_gd rfl rfl ?_ | refine r_gn rfl rfl rfl ?_ | refine r_gu rfl rfl ?_ | refine r_gd rfl (by assumption) ?_ | refine r_gn rfl (by assumption) rfl ?_); refine r_v (q_load rfl (h.b 1) rfl) rfl ?_; (first | refine r_gd rfl rfl ?_ | refine r_gn rfl rfl rfl ?_ | refine r_gu rfl rfl ?_ | refine r_gd rfl (by assumption) ?_ | refine r_gn rfl (by assumption) rfl ?_); refine r_v (q_eql rfl rfl) rfl ?_; (first | refine r_v (q_pick1 rfl rfl rfl) rfl ?_ | refine r_v (q_pick0 rfl rfl rfl) rfl ?_ | refine r_v (q_pick1 rfl (by assumption) rfl) rfl ?_ | refine r_v (q_pick0 rfl (by assumption) rfl) rfl ?_ | refine r_v (q_pickB rfl rfl rfl) rfl ?_); refine r_v (q_moveB rfl) rfl ?_; (first | refine r_gd rfl rfl ?_ | refine r_gn rfl rfl rfl ?_ | refine r_gu rfl rfl ?_ | refine r_gd rfl (by assumption) ?_ | refine r_gn rfl (by assumption) rfl ?_); refine r_v (q_fa rfl) rfl ?_; (first | refine r_gd rfl rfl ?_ | refine r_gn rfl rfl rfl ?_ | refine r_gu rfl rfl ?_ | refine r_gd rfl (by assumption) ?_ | refine r_gn rfl (by assumption) rfl ?_); refine r_v (q_load rfl (h.b 1) rfl) rfl ?_; (first | refine r_gd rfl rfl ?_ | refine r_gn rfl rfl rfl ?_ | refine r_gu rfl rfl ?_ | refine r_gd rfl (by assumption) ?_ | refine r_gn rfl (by assumption) rfl ?_); refine r_v (q_len rfl) rfl ?_; (first | refine r_gd rfl rfl ?_ | refine r_gn rfl rfl rfl ?_ | refine r_gu rfl rfl ?_ | refine r_gd rfl (by assumption) ?_ | refine r_gn rfl (by assumption) rfl ?_); refine r_v (q_eql rfl rfl) rfl ?_; (first | refine r_v (q_pick1 rfl rfl rfl) rfl ?_ | refine r_v (q_pick0 rfl rfl rfl) rfl ?_ | refine r_v (q_pick1 rfl (by assumption) rfl) rfl ?_ | refine r_v (q_pick0 rfl (by assumption) rfl) rfl ?_ | refine r_v (q_pickB rfl rfl rfl) rfl ?_); refine r_v (q_moveB rfl) rfl ?_; (first | refine r_gd rfl rfl ?_ | refine r_gn rfl rfl rfl ?_ | refine r_gu rfl rfl ?_ | refine r_gd rfl (by assumption) ?_ | refine r_gn rfl (by assumption) rfl ?_); refine r_v (q_fa rfl) rfl ?_; (first | refine r_gd rfl rfl ?_ | refine r_gn rfl rfl rfl ?_ | refine r_gu rfl rfl ?_ | refine r_gd rfl (by assumption) ?_ | refine r_gn rfl (by assumption) rfl ?_); refine r_v (q_load rfl (h.b 1) rfl) rfl ?_; (first | refine r_gd rfl rfl ?_ | refine r_gn rfl rfl rfl ?_ | refine r_gu rfl rfl ?_ | refine r_gd rfl (by assumption) ?_ | refine r_gn rfl (by assumption) rfl ?_)
  refine r_v (q_idx (j := 0) rfl rfl rfl Nat.zero_lt_one rfl) rfl ?_
  (first | refine r_gd rfl rfl ?_ | refine r_gn rfl rfl rfl ?_ | refine r_gu rfl rfl ?_ | refine r_gd rfl (by assumption) ?_ | refine r_gn rfl (by assumption) rfl ?_); refine r_v (q_fa rfl) rfl ?_; (first | refine r_gd rfl rfl ?_ | refine r_gn rfl rfl rfl ?_ | refine r_gu rfl rfl ?_ | refine r_gd rfl (by assumption) ?_ | refine r_gn rfl (by assumption) rfl ?_)
  refine r_v (q_loadc (v := .int .i64 2) rfl ((h.f 2).own_rd.cell (j := 0) rfl)) rfl ?_
  (first | refine r_gd rfl rfl ?_ | refine r_gn rfl rfl rfl ?_ | refine r_gu rfl rfl ?_ | refine r_gd rfl (by assumption) ?_ | refine r_gn rfl (by assumption) rfl ?_); refine r_v (q_eql rfl rfl) rfl ?_; (first | refine r_v (q_pick1 rfl rfl rfl) rfl ?_ | refine r_v (q_pick0 rfl rfl rfl) rfl ?_ | refine r_v (q_pick1 rfl (by assumption) rfl) rfl ?_ | refine r_v (q_pick0 rfl (by assumption) rfl) rfl ?_ | refine r_v (q_pickB rfl rfl rfl) rfl ?_); refine r_v (q_moveB rfl) rfl ?_; (first | refine r_gd rfl rfl ?_ | refine r_gn rfl rfl rfl ?_ | refine r_gu rfl rfl ?_ | refine r_gd rfl (by assumption) ?_ | refine r_gn rfl (by assumption) rfl ?_)
  refine r_v (q_loadS (l := aX.cells (some ⟨g1, 0, none⟩) 1 a2 1) rfl rfl (at_of (h.b 1 rfl) rfl)) rfl ?_
  (first | refine r_gd rfl rfl ?_ | refine r_gn rfl rfl rfl ?_ | refine r_gu rfl rfl ?_ | refine r_gd rfl (by assumption) ?_ | refine r_gn rfl (by assumption) rfl ?_)
  refine r_c rfl (x_call rfl (snap_Tail (x := aX) aX_wf h (fun w' h' => (h'.f 3).own_rd)) ?_)
  rintro _ w ⟨a3, c3, rfl, h⟩
  replace h := h.drop
  (first | refine r_gd rfl rfl ?_ | refine r_gn rfl rfl rfl ?_ | refine r_gu rfl rfl ?_ | refine r_gd rfl (by assumption) ?_ | refine r_gn rfl (by assumption) rfl ?_); refine r_v (q_len rfl) rfl ?_; (first | refine r_gd rfl rfl ?_ | refine r_gn rfl rfl rfl ?_ | refine r_gu rfl rfl ?_ | refine r_gd rfl (by assumption) ?_ | refine r_gn rfl (by assumption) rfl ?_); refine r_v (q_eql rfl rfl) rfl ?_; (first | refine r_v (q_pick1 rfl rfl rfl) rfl ?_ | refine r_v (q_pick0 rfl rfl rfl) rfl ?_ | refine r_v (q_pick1 rfl (by assumption) rfl) rfl ?_ | refine r_v (q_pick0 rfl (by assumption) rfl) rfl ?_ | refine r_v (q_pickB rfl rfl rfl) rfl ?_); refine r_v (q_moveB rfl) rfl ?_; (first | refine r_gd rfl rfl ?_ | refine r_gn rfl rfl rfl ?_ | refine r_gu rfl rfl ?_ | refine r_gd rfl (by assumption) ?_ | refine r_gn rfl (by assumption) rfl ?_); refine r_v (q_moveB rfl) rfl ?_; (first | refine r_gd rfl rfl ?_ | refine r_gn rfl rfl rfl ?_ | refine r_gu rfl rfl ?_ | refine r_gd rfl (by assumption) ?_ | refine r_gn rfl (by assumption) rfl ?_); refine r_v (q_not rfl) rfl ?_; (first | refine r_v (q_pick1 rfl rfl rfl) rfl ?_ | refine r_v (q_pick0 rfl rfl rfl) rfl ?_ | refine r_v (q_pick1 rfl (by assumption) rfl) rfl ?_ | refine r_v (q_pick0 rfl (by assumption) rfl) rfl ?_ | refine r_v (q_pickB rfl rfl rfl) rfl ?_); refine r_v (q_moveB rfl) rfl ?_; (first | refine r_gd rfl rfl ?_ | refine r_gn rfl rfl rfl ?_ | refine r_gu rfl rfl ?_ | refine r_gd rfl (by assumption) ?_ | refine r_gn rfl (by assumption) rfl ?_); refine r_v (q_moveB rfl) rfl ?_; (first | refine r_v (q_pick1 rfl rfl rfl) rfl ?_ | refine r_v (q_pick0 rfl rfl rfl) rfl ?_ | refine r_v (q_pick1 rfl (by assumption) rfl) rfl ?_ | refine r_v (q_pick0 rfl (by assumption) rfl) rfl ?_ | refine r_v (q_pickB rfl rfl rfl) rfl ?_); refine r_v (q_moveB rfl) rfl ?_; (first | refine r_gd rfl rfl ?_ | refine r_gn rfl rfl rfl ?_ | refine r_gu rfl rfl ?_ | refine r_gd rfl (by assumption) ?_ | refine r_gn rfl (by assumption) rfl ?_); refine r_v (q_moveI rfl) rfl ?_; (first | refine r_gd rfl rfl ?_ | refine r_gn rfl rfl rfl ?_ | refine r_gu rfl rfl ?_ | refine r_gd rfl (by assumption) ?_ | refine r_gn rfl (by assumption) rfl ?_); refine r_v (q_eql rfl rfl) rfl ?_; (first | refine r_v (q_pick1 rfl rfl rfl) rfl ?_ | refine r_v (q_pick0 rfl rfl rfl) rfl ?_ | refine r_v (q_pick1 rfl (by assumption) rfl) rfl ?_ | refine r_v (q_pick0 rfl (by assumption) rfl) rfl ?_ | refine r_v (q_pickB rfl rfl rfl) rfl ?_); refine r_v (q_moveB rfl) rfl ?_; (first | refine r_gd rfl rfl ?_ | refine r_gn rfl rfl rfl ?_ | refine r_gu rfl rfl ?_ | refine r_gd rfl (by assumption) ?_ | refine r_gn rfl (by assumption) rfl ?_); refine r_v (q_moveP rfl) rfl ?_; (first | refine r_gd rfl rfl ?_ | refine r_gn rfl rfl rfl ?_ | refine r_gu rfl rfl ?_ | refine r_gd rfl (by assumption) ?_ | refine r_gn rfl (by assumption) rfl ?_)
  refine r_c rfl (x_call rfl (blob_Holds 2 h) ?_)
  rintro _ w ⟨rfl, h⟩
  refine r_is (.int .i64 1) rfl ?_
  (first | refine r_gd rfl rfl ?_ | refine r_gn rfl rfl rfl ?_ | refine r_gu rfl rfl ?_ | refine r_gd rfl (by assumption) ?_ | refine r_gn rfl (by assumption) rfl ?_); refine r_v (q_eql rfl rfl) rfl ?_; (first | refine r_v (q_pick1 rfl rfl rfl) rfl ?_ | refine r_v (q_pick0 rfl rfl rfl) rfl ?_ | refine r_v (q_pick1 rfl (by assumption) rfl) rfl ?_ | refine r_v (q_pick0 rfl (by assumption) rfl) rfl ?_ | refine r_v (q_pickB rfl rfl rfl) rfl ?_); refine r_v (q_moveB rfl) rfl ?_; (first | refine r_gd rfl rfl ?_ | refine r_gn rfl rfl rfl ?_ | refine r_gu rfl rfl ?_ | refine r_gd rfl (by assumption) ?_ | refine r_gn rfl (by assumption) rfl ?_); refine r_v (q_moveP rfl) rfl ?_; (first | refine r_gd rfl rfl ?_ | refine r_gn rfl rfl rfl ?_ | refine r_gu rfl rfl ?_ | refine r_gd rfl (by assumption) ?_ | refine r_gn rfl (by assumption) rfl ?_)
  refine r_c rfl (x_call rfl (blob_Holds 1 h) ?_)
  rintro _ w ⟨rfl, h⟩
  refine r_is (.int .i64 1) rfl ?_
  (first | refine r_gd rfl rfl ?_ | refine r_gn rfl rfl rfl ?_ | refine r_gu rfl rfl ?_ | refine r_gd rfl (by assumption) ?_ | refine r_gn rfl (by assumption) rfl ?_); refine r_v (q_eql rfl rfl) rfl ?_; (first | refine r_v (q_pick1 rfl rfl rfl) rfl ?_ | refine r_v (q_pick0 rfl rfl rfl) rfl ?_ | refine r_v (q_pick1 rfl (by assumption) rfl) rfl ?_ | refine r_v (q_pick0 rfl (by assumption) rfl) rfl ?_ | refine r_v (q_pickB rfl rfl rfl) rfl ?_); refine r_v (q_assignB rfl) rfl ?_
  refine r_nil ?_
  exact c_ret (bq1 ⟨rfl, h.drop.drop.drop.drop⟩)
end
end Go.Proofs.Ytgahjjihfibbnaa
