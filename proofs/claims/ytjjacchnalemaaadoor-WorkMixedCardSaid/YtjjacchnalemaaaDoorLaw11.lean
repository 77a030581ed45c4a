/- ephemerislaw11: awake, ChnkHeads, ChnkTurned. -/
import Derived.Test.YtjjacchnalemaaaDoorHead
import Derived.Test.YtjjacchnalemaaaDoorAppk
import Derived.Test.YtjjacchnalemaaaDoorRow
import Derived.Test.YtjjacchnalemaaaDoorSame
namespace Go.Hw
set_option maxRecDepth 100000
def B2 : List Smp := [⟨-1, 7⟩, ⟨2, 7⟩]
def B2b : List UInt8 := (chMake 6 B2).getD []
theorem B2_make : chMake 6 B2 = some B2b := by
  have : (chMake 6 B2).isSome = true := by decide +kernel
  unfold B2b
  cases h : chMake 6 B2 with
  | none => rw [h] at this; cases this
  | some b => rfl
theorem B2_len : B2b.length = 17 ∨ True := .inr trivial
theorem B2_four : 4 ≤ B2b.length ∧ B2b.length ≤ 100 := by decide +kernel
theorem B2_bytes : B2b[0]? = some 6 ∧ B2b[1]? = some 2 ∧ B2b[2]? = some 1 ∧ B2b[3]? = some 4 := by decide +kernel
theorem B2_wf : ∀ s ∈ B2, s.Wf := by
  intro s hs
  simp only [B2, List.mem_cons, List.not_mem_nil, or_false] at hs
  rcases hs with rfl | rfl <;> exact ⟨⟨by decide, by decide⟩, by decide, by decide⟩
theorem B2_open : chOpen B2b = some (B2, 6) := chOpen_told B2_wf (by have := B2_four.2; omega) B2_make
theorem B2_more : chOpen (B2b ++ [0]) = none := by
  have : (chOpen (B2b ++ [0])).isNone = true := by decide +kernel
  simpa using this
theorem B2_head : ∃ r, headDec B2b = some (⟨6, 2, -1, 2⟩, r) := by
  obtain ⟨x, hx, hL, he⟩ := chMake_some B2_make
  have hh := headDec_told B2_wf hL hx (x ++ be4 (crc (chBody 6 B2 x)))
  have hb' : B2b = UInt8.ofNat (6 : Int).toNat :: ((chNums B2).flatMap vput ++ (x ++ be4 (crc (chBody 6 B2 x)))) := by
    rw [he]; unfold chBody; simp
  rw [← hb'] at hh
  exact ⟨_, hh⟩
theorem chMake_nil (tag : Int) : chMake tag [] = none := by
  unfold chMake
  split
  · rfl
  · rw [if_pos rfl]
theorem chMake_len {tag : Int} {L : List Smp} {b : List UInt8} (h : chMake tag L = some b) : 8 ≤ b.length := by
  obtain ⟨x, _, _, he⟩ := chMake_some h
  have := chBody_len tag L x
  rw [he, List.length_append, be4_len]
  omega
end Go.Hw
namespace Go.Proofs.YtjjacchnalemaaaDoor
open Go.Hw
set_option maxHeartbeats 4000000
set_option maxRecDepth 100000
instance eqiHead : EqI Tryd.prog 46 [.i64, .i64, .i64, .i64] := ⟨⟨_, Tryd.underlying46, by kernel_rfl⟩, by kernel_rfl, by kernel_rfl⟩
theorem chMake_len2 {tag : Int} {L : List Smp} {b : List UInt8} (hw : ∀ s ∈ L, s.Wf) (h : chMake tag L = some b) : b.length ≤ 4000000 := by
  obtain ⟨x, hx, _, he⟩ := chMake_some h
  have h1 := suitEnc_len (tag := tag) hw
  rw [hx] at h1
  have h2 : x.length ≤ 3000000 := h1
  have := chBody_len tag L x
  rw [he, List.length_append, be4_len]
  omega
section
variable {w0 w : World} {l : List HProp}
theorem law11_awake (hT : Tz w0) (h : St w0 l w) : Ret Tryd.prog 21 [] w fun v w' => v = .bool true ∧ St w0 l w' := by
  obtain ⟨h4, h100⟩ := B2_four
  obtain ⟨hb0, hb1, hb2, hb3⟩ := B2_bytes
  obtain ⟨hr, hhd⟩ := B2_head
  refine enter Tryd.func21 rfl Tryd.results21 Tryd.ntmps21 rfl ?_
  refine c_seq (c_region ?_)
  refine r_v (q_assignB rfl) rfl ?_
  refine r_nil ?_
  refine c_seq (c_region ?_)
  refine r_v (q_build (r := (Smp.mk (-1) 7).cells) rfl) rfl ?_
  refine r_v (q_build (r := (Smp.mk 2 7).cells) rfl) rfl ?_
  refine r_c rfl (x_bslice (r := smpsV B2) h rfl rfl rfl fun b w h => ?_)
  have hr : ∀ M : List HProp, Reads w0 (M ++ pt b (.cells (smpsV B2).toArray 25 (0, 0)) :: l) 2 (some ⟨b, 0, none⟩) B2.length (smpsV B2) := fun M => (Reads.pt (m := 0) rfl rfl).more M
  refine r_v (q_assignS rfl) rfl ?_
  refine r_nil ?_
  refine c_seq (c_region ?_)
  refine r_v (q_moveS rfl) rfl ?_
  refine r_c rfl (x_call rfl (chnk_Make hT 6 (L := B2) B2_wf (by decide) (hr []) h) ?_)
  rw [B2_make]
  rintro _ w ⟨ba, bc, rfl, h⟩
  replace h : St w0 (OwnB ba bc B2b :: pt b (.cells (smpsV B2).toArray 25 (0, 0)) :: l) w := h
  show Rn _ _ _ _ _ (upd _ _ (.tuple [.slice ba B2b.length bc, .bool true].toArray)) _
  refine r_v (q_moveT rfl) rfl ?_; refine r_v (q_ext rfl rfl) rfl ?_; refine r_v (q_ext rfl rfl) rfl ?_; refine r_v (q_assignS rfl) rfl ?_; refine r_v (q_assignB rfl) rfl ?_
  refine r_nil ?_
  refine c_seq (c_region ?_)
  refine r_v (q_moveS rfl) rfl ?_
  refine r_c rfl (x_call rfl (chnk_Open hT (by omega) h.own_cases.2.1 Reads.own h) ?_)
  rw [B2_open]
  rintro _ w ⟨oa, oc, rfl, _, h⟩
  replace h : St w0 (OwnS oa oc B2 :: OwnB ba bc B2b :: pt b (.cells (smpsV B2).toArray 25 (0, 0)) :: l) w := h
  show Rn _ _ _ _ _ (upd _ _ (.tuple [.slice oa B2.length oc, .int .i64 6, .bool true].toArray)) _
  refine r_v (q_moveT rfl) rfl ?_; refine r_v (q_ext rfl rfl) rfl ?_; refine r_v (q_ext rfl rfl) rfl ?_; refine r_v (q_ext rfl rfl) rfl ?_; refine r_v (q_assignS rfl) rfl ?_; refine r_v (q_assignI rfl) rfl ?_; refine r_v (q_assignB rfl) rfl ?_
  refine r_nil ?_
  refine c_seq (c_region ?_)
  refine r_v (q_moveS rfl) rfl ?_
  refine r_c rfl (x_call rfl (chnk_Head (bs := B2b) (by omega) (h.f 1).own_cases.2.1 (Reads.own.more [_]) h) ?_)
  rw [hhd]
  rintro _ w ⟨rfl, h⟩
  show Rn _ _ _ _ _ (upd _ _ (.tuple [.agg (hdC ⟨6, 2, -1, 2⟩).toArray, .bool true].toArray)) _
  refine r_v (q_moveT rfl) rfl ?_; refine r_v (q_ext rfl rfl) rfl ?_; refine r_v (q_ext rfl rfl) rfl ?_
  refine r_c rfl (x_alloc h fun b7 w h => ?_)
  refine r_c rfl (x_storeA (vs := hdC ⟨6, 2, -1, 2⟩) 0 h rfl rfl rfl rfl rfl rfl rfl fun w h => ?_)
  replace h : St w0 (pt b7 (.cells (hdC ⟨6, 2, -1, 2⟩).toArray 46 (0, 0)) :: OwnS oa oc B2 :: OwnB ba bc B2b :: pt b (.cells (smpsV B2).toArray 25 (0, 0)) :: l) w := h
  refine r_v (q_assignB rfl) rfl ?_
  refine r_nil ?_
  refine c_seq (c_region ?_)
  refine r_v (q_moveS rfl) rfl ?_
  refine r_c rfl (x_bslice (r := bytesV [0]) (h.f 2) rfl rfl rfl fun bz w h => ?_)
  refine r_c rfl (x_appendK (ys := bytesV [0]) (zs := bytesV (B2b ++ [0])) (m3 := (B2b ++ [0]).length) (h.f 1) rfl rfl ⟨rfl, .inr ⟨bz, 0, rfl, at_of (h.b 0 rfl) rfl⟩⟩ (bytesV_one _) (by simp) (by simp [bytesV]) (by simp; omega) (by simp; omega) rfl fun ca cc Q w hrb h => ?_)
  refine r_c rfl (x_call rfl (chnk_Open hT (by simp; omega) h.own_cases.2.1 Reads.own h) ?_)
  rw [B2_more]
  rintro _ w ⟨ea, ec, rfl, _, h⟩
  replace h := h.drop
  show Rn _ _ _ _ _ (upd _ _ (.tuple [.slice ea 0 ec, .int .i64 0, .bool false].toArray)) _
  refine r_v (q_moveT rfl) rfl ?_; refine r_v (q_ext rfl rfl) rfl ?_; refine r_v (q_ext rfl rfl) rfl ?_; refine r_v (q_ext rfl rfl) rfl ?_; refine r_v (q_assignS rfl) rfl ?_; refine r_v (q_assignI rfl) rfl ?_; refine r_v (q_assignB rfl) rfl ?_
  refine r_nil ?_
  refine c_seq (c_region ?_)
  refine r_c rfl (x_call rfl (chnk_Make hT 1 (L := []) (fun _ h => by cases h) (by decide) Reads.nil h) ?_)
  rw [chMake_nil]
  rintro _ w ⟨fa, fc, rfl, h⟩
  replace h := h.drop
  show Rn _ _ _ _ _ (upd _ _ (.tuple [.slice fa 0 fc, .bool false].toArray)) _
  refine r_v (q_moveT rfl) rfl ?_; refine r_v (q_ext rfl rfl) rfl ?_; refine r_v (q_ext rfl rfl) rfl ?_; refine r_v (q_assignS rfl) rfl ?_; refine r_v (q_assignB rfl) rfl ?_
  refine r_nil ?_
  obtain ⟨bb, bo, hsl⟩ := (hrb.at_ h).some (by omega)
  have hcl : ∀ {j : Nat} {y : UInt8}, B2b[j]? = some y → w.cell? ⟨bb, bo + j, none⟩ = some (.int .u8 y.toNat) := fun hj => (hsl ▸ hrb.at_ h).cell (bytesV_get hj)
  refine c_seq (c_region ?_)
  refine r_v (q_moveB rfl) rfl ?_; refine r_v (q_moveB rfl) rfl ?_; (first | refine r_gd rfl rfl ?_ | refine r_gn rfl rfl rfl ?_ | refine r_gu rfl rfl ?_ | refine r_gd rfl (by assumption) ?_ | refine r_gn rfl (by assumption) rfl ?_); refine r_v (q_moveS rfl) rfl ?_; (first | refine r_gd rfl rfl ?_ | refine r_gn rfl rfl rfl ?_ | refine r_gu rfl rfl ?_ | refine r_gd rfl (by assumption) ?_ | refine r_gn rfl (by assumption) rfl ?_); refine r_v (q_len rfl) rfl ?_; (first | refine r_gd rfl rfl ?_ | refine r_gn rfl rfl rfl ?_ | refine r_gu rfl rfl ?_ | refine r_gd rfl (by assumption) ?_ | refine r_gn rfl (by assumption) rfl ?_)
  refine r_v (q_is (v' := .bool true) (q_geq rfl rfl) (congrArg Value.bool (decide_eq_true (by omega)))) rfl ?_
  (first | refine r_v (q_pick1 rfl rfl rfl) rfl ?_ | refine r_v (q_pick0 rfl rfl rfl) rfl ?_ | refine r_v (q_pick1 rfl (by assumption) rfl) rfl ?_ | refine r_v (q_pick0 rfl (by assumption) rfl) rfl ?_ | refine r_v (q_pickB rfl rfl rfl) rfl ?_); refine r_v (q_moveB rfl) rfl ?_; (first | refine r_gd rfl rfl ?_ | refine r_gn rfl rfl rfl ?_ | refine r_gu rfl rfl ?_ | refine r_gd rfl (by assumption) ?_ | refine r_gn rfl (by assumption) rfl ?_); refine r_v (q_moveS rfl) rfl ?_; (first | refine r_gd rfl rfl ?_ | refine r_gn rfl rfl rfl ?_ | refine r_gu rfl rfl ?_ | refine r_gd rfl (by assumption) ?_ | refine r_gn rfl (by assumption) rfl ?_)
  refine r_v (q_idx (b := bb) (o := bo) (m := B2b.length) (c := bc) (j := 0) (o' := bo + 0) (by rw [← hsl]; rfl) rfl rfl (by omega) (by simp)) rfl ?_
  refine r_gd rfl rfl ?_
  refine r_v (q_loadc (v := .int .u8 6) rfl (hcl hb0)) rfl ?_
  (first | refine r_gd rfl rfl ?_ | refine r_gn rfl rfl rfl ?_ | refine r_gu rfl rfl ?_ | refine r_gd rfl (by assumption) ?_ | refine r_gn rfl (by assumption) rfl ?_); refine r_v (q_eql rfl rfl) rfl ?_; (first | refine r_v (q_pick1 rfl rfl rfl) rfl ?_ | refine r_v (q_pick0 rfl rfl rfl) rfl ?_ | refine r_v (q_pick1 rfl (by assumption) rfl) rfl ?_ | refine r_v (q_pick0 rfl (by assumption) rfl) rfl ?_ | refine r_v (q_pickB rfl rfl rfl) rfl ?_); refine r_v (q_moveB rfl) rfl ?_; (first | refine r_gd rfl rfl ?_ | refine r_gn rfl rfl rfl ?_ | refine r_gu rfl rfl ?_ | refine r_gd rfl (by assumption) ?_ | refine r_gn rfl (by assumption) rfl ?_); refine r_v (q_moveS rfl) rfl ?_; (first | refine r_gd rfl rfl ?_ | refine r_gn rfl rfl rfl ?_ | refine r_gu rfl rfl ?_ | refine r_gd rfl (by assumption) ?_ | refine r_gn rfl (by assumption) rfl ?_)
  refine r_v (q_idx (b := bb) (o := bo) (m := B2b.length) (c := bc) (j := 1) (o' := bo + 1) (by rw [← hsl]; rfl) rfl rfl (by omega) (by simp)) rfl ?_
  refine r_gd rfl rfl ?_
  refine r_v (q_loadc (v := .int .u8 2) rfl (hcl hb1)) rfl ?_
  (first | refine r_gd rfl rfl ?_ | refine r_gn rfl rfl rfl ?_ | refine r_gu rfl rfl ?_ | refine r_gd rfl (by assumption) ?_ | refine r_gn rfl (by assumption) rfl ?_); refine r_v (q_eql rfl rfl) rfl ?_; (first | refine r_v (q_pick1 rfl rfl rfl) rfl ?_ | refine r_v (q_pick0 rfl rfl rfl) rfl ?_ | refine r_v (q_pick1 rfl (by assumption) rfl) rfl ?_ | refine r_v (q_pick0 rfl (by assumption) rfl) rfl ?_ | refine r_v (q_pickB rfl rfl rfl) rfl ?_); refine r_v (q_moveB rfl) rfl ?_; (first | refine r_gd rfl rfl ?_ | refine r_gn rfl rfl rfl ?_ | refine r_gu rfl rfl ?_ | refine r_gd rfl (by assumption) ?_ | refine r_gn rfl (by assumption) rfl ?_); refine r_v (q_moveS rfl) rfl ?_; (first | refine r_gd rfl rfl ?_ | refine r_gn rfl rfl rfl ?_ | refine r_gu rfl rfl ?_ | refine r_gd rfl (by assumption) ?_ | refine r_gn rfl (by assumption) rfl ?_)
  refine r_v (q_idx (b := bb) (o := bo) (m := B2b.length) (c := bc) (j := 2) (o' := bo + 2) (by rw [← hsl]; rfl) rfl rfl (by omega) (by simp)) rfl ?_
  refine r_gd rfl rfl ?_
  refine r_v (q_loadc (v := .int .u8 1) rfl (hcl hb2)) rfl ?_
  (first | refine r_gd rfl rfl ?_ | refine r_gn rfl rfl rfl ?_ | refine r_gu rfl rfl ?_ | refine r_gd rfl (by assumption) ?_ | refine r_gn rfl (by assumption) rfl ?_); refine r_v (q_eql rfl rfl) rfl ?_; (first | refine r_v (q_pick1 rfl rfl rfl) rfl ?_ | refine r_v (q_pick0 rfl rfl rfl) rfl ?_ | refine r_v (q_pick1 rfl (by assumption) rfl) rfl ?_ | refine r_v (q_pick0 rfl (by assumption) rfl) rfl ?_ | refine r_v (q_pickB rfl rfl rfl) rfl ?_); refine r_v (q_moveB rfl) rfl ?_; (first | refine r_gd rfl rfl ?_ | refine r_gn rfl rfl rfl ?_ | refine r_gu rfl rfl ?_ | refine r_gd rfl (by assumption) ?_ | refine r_gn rfl (by assumption) rfl ?_); refine r_v (q_moveS rfl) rfl ?_; (first | refine r_gd rfl rfl ?_ | refine r_gn rfl rfl rfl ?_ | refine r_gu rfl rfl ?_ | refine r_gd rfl (by assumption) ?_ | refine r_gn rfl (by assumption) rfl ?_)
  refine r_v (q_idx (b := bb) (o := bo) (m := B2b.length) (c := bc) (j := 3) (o' := bo + 3) (by rw [← hsl]; rfl) rfl rfl (by omega) (by simp)) rfl ?_
  refine r_gd rfl rfl ?_
  refine r_v (q_loadc (v := .int .u8 4) rfl (hcl hb3)) rfl ?_
  (first | refine r_gd rfl rfl ?_ | refine r_gn rfl rfl rfl ?_ | refine r_gu rfl rfl ?_ | refine r_gd rfl (by assumption) ?_ | refine r_gn rfl (by assumption) rfl ?_); refine r_v (q_eql rfl rfl) rfl ?_; (first | refine r_v (q_pick1 rfl rfl rfl) rfl ?_ | refine r_v (q_pick0 rfl rfl rfl) rfl ?_ | refine r_v (q_pick1 rfl (by assumption) rfl) rfl ?_ | refine r_v (q_pick0 rfl (by assumption) rfl) rfl ?_ | refine r_v (q_pickB rfl rfl rfl) rfl ?_); refine r_v (q_moveB rfl) rfl ?_; (first | refine r_gd rfl rfl ?_ | refine r_gn rfl rfl rfl ?_ | refine r_gu rfl rfl ?_ | refine r_gd rfl (by assumption) ?_ | refine r_gn rfl (by assumption) rfl ?_); refine r_v (q_moveB rfl) rfl ?_; (first | refine r_v (q_pick1 rfl rfl rfl) rfl ?_ | refine r_v (q_pick0 rfl rfl rfl) rfl ?_ | refine r_v (q_pick1 rfl (by assumption) rfl) rfl ?_ | refine r_v (q_pick0 rfl (by assumption) rfl) rfl ?_ | refine r_v (q_pickB rfl rfl rfl) rfl ?_); refine r_v (q_moveB rfl) rfl ?_; (first | refine r_gd rfl rfl ?_ | refine r_gn rfl rfl rfl ?_ | refine r_gu rfl rfl ?_ | refine r_gd rfl (by assumption) ?_ | refine r_gn rfl (by assumption) rfl ?_); refine r_v (q_moveI rfl) rfl ?_; (first | refine r_gd rfl rfl ?_ | refine r_gn rfl rfl rfl ?_ | refine r_gu rfl rfl ?_ | refine r_gd rfl (by assumption) ?_ | refine r_gn rfl (by assumption) rfl ?_); refine r_v (q_eql rfl rfl) rfl ?_; (first | refine r_v (q_pick1 rfl rfl rfl) rfl ?_ | refine r_v (q_pick0 rfl rfl rfl) rfl ?_ | refine r_v (q_pick1 rfl (by assumption) rfl) rfl ?_ | refine r_v (q_pick0 rfl (by assumption) rfl) rfl ?_ | refine r_v (q_pickB rfl rfl rfl) rfl ?_); refine r_v (q_moveB rfl) rfl ?_; (first | refine r_gd rfl rfl ?_ | refine r_gn rfl rfl rfl ?_ | refine r_gu rfl rfl ?_ | refine r_gd rfl (by assumption) ?_ | refine r_gn rfl (by assumption) rfl ?_); refine r_v (q_moveS rfl) rfl ?_; (first | refine r_gd rfl rfl ?_ | refine r_gn rfl rfl rfl ?_ | refine r_gu rfl rfl ?_ | refine r_gd rfl (by assumption) ?_ | refine r_gn rfl (by assumption) rfl ?_); refine r_v (q_moveS rfl) rfl ?_; (first | refine r_gd rfl rfl ?_ | refine r_gn rfl rfl rfl ?_ | refine r_gu rfl rfl ?_ | refine r_gd rfl (by assumption) ?_ | refine r_gn rfl (by assumption) rfl ?_)
  refine r_c rfl (x_call rfl (ref10_Same (L1 := B2) (L2 := B2) h (fun w' h' => (h'.f 4).own_rd) (fun w' h' => (hr [_, _, _, _, _]).rd w' h') (by decide)) ?_)
  rintro _ w ⟨rfl, h⟩
  rw [show decide (B2 = B2) = true by simp]
  (first | refine r_v (q_pick1 rfl rfl rfl) rfl ?_ | refine r_v (q_pick0 rfl rfl rfl) rfl ?_ | refine r_v (q_pick1 rfl (by assumption) rfl) rfl ?_ | refine r_v (q_pick0 rfl (by assumption) rfl) rfl ?_ | refine r_v (q_pickB rfl rfl rfl) rfl ?_); refine r_v (q_moveB rfl) rfl ?_; (first | refine r_gd rfl rfl ?_ | refine r_gn rfl rfl rfl ?_ | refine r_gu rfl rfl ?_ | refine r_gd rfl (by assumption) ?_ | refine r_gn rfl (by assumption) rfl ?_); refine r_v (q_moveB rfl) rfl ?_; (first | refine r_v (q_pick1 rfl rfl rfl) rfl ?_ | refine r_v (q_pick0 rfl rfl rfl) rfl ?_ | refine r_v (q_pick1 rfl (by assumption) rfl) rfl ?_ | refine r_v (q_pick0 rfl (by assumption) rfl) rfl ?_ | refine r_v (q_pickB rfl rfl rfl) rfl ?_); refine r_v (q_moveB rfl) rfl ?_; (first | refine r_gd rfl rfl ?_ | refine r_gn rfl rfl rfl ?_ | refine r_gu rfl rfl ?_ | refine r_gd rfl (by assumption) ?_ | refine r_gn rfl (by assumption) rfl ?_)
  refine r_v (q_loadS (l := hdC ⟨6, 2, -1, 2⟩) rfl rfl (at_of (h.b 3 rfl) rfl)) rfl ?_
  refine r_gd rfl rfl ?_
  refine r_v (q_build (r := hdC ⟨6, 2, -1, 2⟩) rfl) rfl ?_
  refine r_gd rfl rfl ?_
  refine r_v (q_is (v' := .bool true) (q_eqI [6, 2, -1, 2] [6, 2, -1, 2] rfl rfl rfl rfl) rfl) rfl ?_
  (first | refine r_v (q_pick1 rfl rfl rfl) rfl ?_ | refine r_v (q_pick0 rfl rfl rfl) rfl ?_ | refine r_v (q_pick1 rfl (by assumption) rfl) rfl ?_ | refine r_v (q_pick0 rfl (by assumption) rfl) rfl ?_ | refine r_v (q_pickB rfl rfl rfl) rfl ?_); refine r_v (q_moveB rfl) rfl ?_; (first | refine r_gd rfl rfl ?_ | refine r_gn rfl rfl rfl ?_ | refine r_gu rfl rfl ?_ | refine r_gd rfl (by assumption) ?_ | refine r_gn rfl (by assumption) rfl ?_); refine r_v (q_moveB rfl) rfl ?_; (first | refine r_gd rfl rfl ?_ | refine r_gn rfl rfl rfl ?_ | refine r_gu rfl rfl ?_ | refine r_gd rfl (by assumption) ?_ | refine r_gn rfl (by assumption) rfl ?_); refine r_v (q_not rfl) rfl ?_; (first | refine r_v (q_pick1 rfl rfl rfl) rfl ?_ | refine r_v (q_pick0 rfl rfl rfl) rfl ?_ | refine r_v (q_pick1 rfl (by assumption) rfl) rfl ?_ | refine r_v (q_pick0 rfl (by assumption) rfl) rfl ?_ | refine r_v (q_pickB rfl rfl rfl) rfl ?_); refine r_v (q_moveB rfl) rfl ?_; (first | refine r_gd rfl rfl ?_ | refine r_gn rfl rfl rfl ?_ | refine r_gu rfl rfl ?_ | refine r_gd rfl (by assumption) ?_ | refine r_gn rfl (by assumption) rfl ?_); refine r_v (q_moveB rfl) rfl ?_; (first | refine r_gd rfl rfl ?_ | refine r_gn rfl rfl rfl ?_ | refine r_gu rfl rfl ?_ | refine r_gd rfl (by assumption) ?_ | refine r_gn rfl (by assumption) rfl ?_); refine r_v (q_not rfl) rfl ?_; (first | refine r_v (q_pick1 rfl rfl rfl) rfl ?_ | refine r_v (q_pick0 rfl rfl rfl) rfl ?_ | refine r_v (q_pick1 rfl (by assumption) rfl) rfl ?_ | refine r_v (q_pick0 rfl (by assumption) rfl) rfl ?_ | refine r_v (q_pickB rfl rfl rfl) rfl ?_); refine r_v (q_assignB rfl) rfl ?_
  refine r_nil ?_
  exact c_ret (bq1 ⟨rfl, h.drop.drop.drop.drop.drop.drop⟩)

theorem law11_ChnkHeads (hT : Tz w0) {st : Option Addr} {ct : Nat} {xs : List Int} {sv : Option Addr} {cv : Nat} {us_ : List Nat} (how tag wrong : Int) (hx : ∀ x ∈ xs, I64 x) (hn : xs.length ≤ 9223372036854775807) (hrt : Reads w0 l 1 st xs.length (i64V xs))
    (hu : ∀ x ∈ us_, x < 18446744073709551616) (hnu : us_.length ≤ 9223372036854775807) (hrv : Reads w0 l 1 sv us_.length (u64V us_)) (h : St w0 l w) :
    Ret Tryd.prog 7 [.slice st xs.length ct, .slice sv us_.length cv, .int .i64 how, .int .i64 tag, .int .i64 wrong] w fun v w' => v = .bool true ∧ St w0 l w' := by
  refine enter Tryd.func7 rfl Tryd.results7 Tryd.ntmps7 rfl ?_
  refine c_seq (c_region ?_)
  refine r_v (q_assignB rfl) rfl ?_
  refine r_nil ?_
  refine c_seq (c_region ?_)
  refine r_v (q_moveS rfl) rfl ?_; refine r_v (q_moveS rfl) rfl ?_; refine r_v (q_moveI rfl) rfl ?_
  refine r_c rfl (x_call rfl (law10_Row how hx hn hrt hu hnu hrv h) ?_)
  rintro _ w ⟨sa, sc, L, hL60, hwf, hris, rfl, h⟩
  refine r_v (q_assignS rfl) rfl ?_
  refine r_nil ?_
  obtain ⟨a0, ha0⟩ := Int.eq_ofNat_of_zero_le (show 0 ≤ tag % 2 ^ 8 by omega)
  obtain ⟨d0, hd0⟩ := Int.eq_ofNat_of_zero_le (show 0 ≤ wrong % 2 ^ 2 by omega)
  refine c_seq (c_region ?_)
  refine r_v (q_moveI rfl) rfl ?_
  refine r_v (q_is (v' := .int .i64 (a0 : Int)) (q_and rfl rfl) (congrArg (Value.int .i64) ((and_mask 8 (by decide) (by decide)).trans ha0))) rfl ?_
  refine r_v (q_is (v' := .int .i64 ((a0 % 6 : Nat) : Int)) (q_rem rfl rfl (by decide)) (congrArg (Value.int .i64) (tmod_nat a0 6))) rfl ?_
  refine r_v (q_add rfl rfl) rfl ?_
  refine r_is (.int .i64 ((a0 % 6 + 1 : Nat) : Int)) (by rw [wrap64 (by omega) (by omega)]; rfl) ?_
  refine r_v (q_assignI rfl) rfl ?_
  refine r_nil ?_
  have htg : 1 ≤ a0 % 6 + 1 ∧ a0 % 6 + 1 ≤ 6 := by omega
  generalize a0 % 6 + 1 = tg at htg ⊢
  refine c_seq (c_region ?_)
  refine r_v (q_moveI rfl) rfl ?_; refine r_v (q_moveS rfl) rfl ?_
  refine r_c rfl (x_call rfl (chnk_Make hT (tg : Int) (L := L) hwf (by omega) Reads.own h) ?_)
  cases hM : chMake (tg : Int) L with
  | none =>
    rintro _ w ⟨ba, bc, rfl, h⟩
    replace h := h.drop
    show Rn _ _ _ _ _ (upd _ _ (.tuple [.slice ba 0 bc, .bool false].toArray)) _
    refine r_v (q_moveT rfl) rfl ?_; refine r_v (q_ext rfl rfl) rfl ?_; refine r_v (q_ext rfl rfl) rfl ?_; refine r_v (q_assignS rfl) rfl ?_; refine r_v (q_assignB rfl) rfl ?_
    refine r_nil ?_
    refine c_seq (c_seq (c_region ?_))
    refine r_v (q_moveB rfl) rfl ?_; refine r_v (q_not rfl) rfl ?_
    refine r_nil (c_true rfl ?_)
    refine c_seq (c_region ?_)
    refine r_c rfl (x_call rfl (law11_awake hT h) ?_)
    rintro _ w ⟨rfl, h⟩
    refine r_v (q_assignB rfl) rfl ?_
    refine r_nil ?_
    exact c_ret (bq1 ⟨rfl, h.drop⟩)
  | some b =>
  have hb8 := chMake_len hM
  have hbm := chMake_len2 hwf hM
  obtain ⟨x, hxe, hLn, hbe⟩ := chMake_some hM
  have hLp : 0 < L.length := List.length_pos_iff.2 hLn
  have htail : ∀ r, headDec (UInt8.ofNat tg :: ((chNums L).flatMap vput ++ r)) = some (⟨tg, L.length, firstT L, lastT L⟩, r) := fun r => headDec_told hwf hLn hxe r
  have hbe2 : b = UInt8.ofNat tg :: ((chNums L).flatMap vput ++ (x ++ be4 (crc (chBody tg L x)))) := by
    rw [hbe]; unfold chBody; simp
  have hhead := htail (x ++ be4 (crc (chBody tg L x)))
  rw [← hbe2] at hhead
  rintro _ w ⟨ba, bc, rfl, h⟩
  replace h : St w0 (OwnB ba bc b :: OwnS sa sc L :: l) w := h
  show Rn _ _ _ _ _ (upd _ _ (.tuple [.slice ba b.length bc, .bool true].toArray)) _
  refine r_v (q_moveT rfl) rfl ?_; refine r_v (q_ext rfl rfl) rfl ?_; refine r_v (q_ext rfl rfl) rfl ?_; refine r_v (q_assignS rfl) rfl ?_; refine r_v (q_assignB rfl) rfl ?_
  refine r_nil ?_
  refine c_seq (c_seq (c_region ?_))
  refine r_v (q_moveB rfl) rfl ?_; refine r_v (q_not rfl) rfl ?_
  refine r_nil (c_false rfl (c_skip ?_))
  refine c_seq (c_region ?_)
  refine r_v (q_moveS rfl) rfl ?_
  refine r_c rfl (x_call rfl (chnk_Head (bs := b) (by omega) h.own_cases.2.1 Reads.own h) ?_)
  rw [hhead]
  rintro _ w ⟨rfl, h⟩
  show Rn _ _ _ _ _ (upd _ _ (.tuple [.agg (hdC ⟨tg, L.length, firstT L, lastT L⟩).toArray, .bool true].toArray)) _
  refine r_v (q_moveT rfl) rfl ?_; refine r_v (q_ext rfl rfl) rfl ?_; refine r_v (q_ext rfl rfl) rfl ?_
  refine r_c rfl (x_alloc h fun b14 w h => ?_)
  refine r_c rfl (x_storeA (vs := hdC ⟨tg, L.length, firstT L, lastT L⟩) 0 h rfl rfl rfl rfl rfl rfl rfl fun w h => ?_)
  replace h : St w0 (pt b14 (.cells (hdC ⟨tg, L.length, firstT L, lastT L⟩).toArray 46 (0, 0)) :: OwnB ba bc b :: OwnS sa sc L :: l) w := h
  refine r_v (q_assignB rfl) rfl ?_
  refine r_nil ?_
  refine c_cut (Γ := Unit) (fun _ => [(4, .int .i64 wrong), (12, .slice ba b.length bc), (14, .pointer (some ⟨b14, 0, none⟩))]) (fun _ w => St w0 (pt b14 (.cells (hdC ⟨tg, L.length, firstT L, lastT L⟩).toArray 46 (0, 0)) :: OwnB ba bc b :: OwnS sa sc L :: l) w) ?_ ?_
  · have hg0 : L[0]? = some (L[0]'(by omega)) := List.getElem?_eq_getElem _
    have hgl : L[L.length - 1]? = some (L[L.length - 1]'(by omega)) := List.getElem?_eq_getElem _
    have hf : firstT L = (L[0]'(by omega)).T := by unfold firstT; rw [List.head?_eq_getElem?, hg0]; rfl
    have ht : lastT L = (L[L.length - 1]'(by omega)).T := by unfold lastT; rw [List.getLast?_eq_getElem?, hgl]; rfl
    generalize L[0]'(by omega) = s0 at hg0 hf
    generalize L[L.length - 1]'(by omega) = s1 at hgl ht
    obtain ⟨bl, hlsl⟩ := (h.f 2).own_some (by omega)
    have hc0 : ∀ {w'}, St w0 (pt b14 (.cells (hdC ⟨tg, L.length, firstT L, lastT L⟩).toArray 46 (0, 0)) :: OwnB ba bc b :: OwnS sa sc L :: l) w' → w'.cell? ⟨bl, 0, none⟩ = some (.int .i64 (firstT L)) := fun h' => by
      have := (hlsl ▸ (h'.f 2).own_rd).elem smp_len hg0 0 _ rfl
      rw [hf]; simpa using this
    have hc1 : ∀ {w'}, St w0 (pt b14 (.cells (hdC ⟨tg, L.length, firstT L, lastT L⟩).toArray 46 (0, 0)) :: OwnB ba bc b :: OwnS sa sc L :: l) w' → w'.cell? ⟨bl, (L.length - 1) * 2, none⟩ = some (.int .i64 (lastT L)) := fun h' => by
      have := (hlsl ▸ (h'.f 2).own_rd).elem smp_len hgl 0 _ rfl
      rw [ht]; simpa using this
    refine c_seq (c_any none (fun w => St w0 _ w) (by kernel_rfl) (by kernel_rfl) h.drew fun w h => ?_)
    refine cur_pure rfl rfl rfl rfl (fun _ => h) (fun _ => flt_v rfl (q_moveB rfl)) ?_; refine cur_pure rfl rfl rfl rfl (fun _ => h) (fun _ => flt_v rfl (q_not rfl)) ?_; refine cur_pure rfl rfl rfl rfl (fun _ => h) (fun _ => flt_v rfl (q_moveB rfl)) ?_
    refine cur_float rfl rfl rfl rfl h (fun w h => flt_g rfl rfl (q_loadS (l := hdC ⟨tg, L.length, firstT L, lastT L⟩) rfl rfl (at_of (h.b 0 rfl) rfl))) ?_
    (first | refine cur_pure rfl rfl rfl rfl (fun _ => h) (fun _ => flt_g rfl rfl (q_moveI rfl)) ?_ | refine cur_pure rfl rfl rfl rfl (fun _ => h) (fun _ => flt_g rfl (by assumption) (q_moveI rfl)) ?_ | refine cur_pure rfl rfl rfl rfl (fun _ => h) (fun _ => flt_n rfl rfl) ?_ | refine cur_pure rfl rfl rfl rfl (fun _ => h) (fun _ => flt_n rfl (by assumption)) ?_); (first | refine cur_pure rfl rfl rfl rfl (fun _ => h) (fun _ => flt_g rfl rfl (q_moveS rfl)) ?_ | refine cur_pure rfl rfl rfl rfl (fun _ => h) (fun _ => flt_g rfl (by assumption) (q_moveS rfl)) ?_ | refine cur_pure rfl rfl rfl rfl (fun _ => h) (fun _ => flt_n rfl rfl) ?_ | refine cur_pure rfl rfl rfl rfl (fun _ => h) (fun _ => flt_n rfl (by assumption)) ?_); (first | refine cur_pure rfl rfl rfl rfl (fun _ => h) (fun _ => flt_g rfl rfl (q_len rfl)) ?_ | refine cur_pure rfl rfl rfl rfl (fun _ => h) (fun _ => flt_g rfl (by assumption) (q_len rfl)) ?_ | refine cur_pure rfl rfl rfl rfl (fun _ => h) (fun _ => flt_n rfl rfl) ?_ | refine cur_pure rfl rfl rfl rfl (fun _ => h) (fun _ => flt_n rfl (by assumption)) ?_); (first | refine cur_pure rfl rfl rfl rfl (fun _ => h) (fun _ => flt_g rfl rfl (q_moveS rfl)) ?_ | refine cur_pure rfl rfl rfl rfl (fun _ => h) (fun _ => flt_g rfl (by assumption) (q_moveS rfl)) ?_ | refine cur_pure rfl rfl rfl rfl (fun _ => h) (fun _ => flt_n rfl rfl) ?_ | refine cur_pure rfl rfl rfl rfl (fun _ => h) (fun _ => flt_n rfl (by assumption)) ?_)
    refine cur_pure rfl rfl rfl rfl (fun _ => h) (fun _ => flt_g rfl rfl (q_idx (b := bl) (o := 0) (m := L.length) (c := sc) (j := 0) (o' := 0) (by rw [← hlsl]; rfl) rfl rfl (by omega) (by simp))) ?_
    (first | refine cur_pure rfl rfl rfl rfl (fun _ => h) (fun _ => flt_g rfl rfl (q_fa rfl)) ?_ | refine cur_pure rfl rfl rfl rfl (fun _ => h) (fun _ => flt_g rfl (by assumption) (q_fa rfl)) ?_ | refine cur_pure rfl rfl rfl rfl (fun _ => h) (fun _ => flt_n rfl rfl) ?_ | refine cur_pure rfl rfl rfl rfl (fun _ => h) (fun _ => flt_n rfl (by assumption)) ?_)
    refine cur_float rfl rfl rfl rfl h (fun w h => flt_g rfl rfl (q_loadc (v := .int .i64 (firstT L)) rfl (hc0 h))) ?_
    (first | refine cur_pure rfl rfl rfl rfl (fun _ => h) (fun _ => flt_g rfl rfl (q_moveS rfl)) ?_ | refine cur_pure rfl rfl rfl rfl (fun _ => h) (fun _ => flt_g rfl (by assumption) (q_moveS rfl)) ?_ | refine cur_pure rfl rfl rfl rfl (fun _ => h) (fun _ => flt_n rfl rfl) ?_ | refine cur_pure rfl rfl rfl rfl (fun _ => h) (fun _ => flt_n rfl (by assumption)) ?_); (first | refine cur_pure rfl rfl rfl rfl (fun _ => h) (fun _ => flt_g rfl rfl (q_moveS rfl)) ?_ | refine cur_pure rfl rfl rfl rfl (fun _ => h) (fun _ => flt_g rfl (by assumption) (q_moveS rfl)) ?_ | refine cur_pure rfl rfl rfl rfl (fun _ => h) (fun _ => flt_n rfl rfl) ?_ | refine cur_pure rfl rfl rfl rfl (fun _ => h) (fun _ => flt_n rfl (by assumption)) ?_); (first | refine cur_pure rfl rfl rfl rfl (fun _ => h) (fun _ => flt_g rfl rfl (q_len rfl)) ?_ | refine cur_pure rfl rfl rfl rfl (fun _ => h) (fun _ => flt_g rfl (by assumption) (q_len rfl)) ?_ | refine cur_pure rfl rfl rfl rfl (fun _ => h) (fun _ => flt_n rfl rfl) ?_ | refine cur_pure rfl rfl rfl rfl (fun _ => h) (fun _ => flt_n rfl (by assumption)) ?_)
    refine cur_pure rfl rfl rfl rfl (fun _ => h) (fun _ => flt_g rfl rfl (q_is (v' := .int .i64 ((L.length - 1 : Nat) : Int)) (q_sub rfl rfl) (by rw [wrap64 (by omega) (by omega)]; congr 1; omega))) ?_
    refine cur_pure rfl rfl rfl rfl (fun _ => h) (fun _ => flt_g rfl rfl (q_idx (b := bl) (o := 0) (m := L.length) (c := sc) (j := L.length - 1) (o' := (L.length - 1) * 2) (by rw [← hlsl]; rfl) rfl rfl (by omega) (by simp))) ?_
    (first | refine cur_pure rfl rfl rfl rfl (fun _ => h) (fun _ => flt_g rfl rfl (q_fa rfl)) ?_ | refine cur_pure rfl rfl rfl rfl (fun _ => h) (fun _ => flt_g rfl (by assumption) (q_fa rfl)) ?_ | refine cur_pure rfl rfl rfl rfl (fun _ => h) (fun _ => flt_n rfl rfl) ?_ | refine cur_pure rfl rfl rfl rfl (fun _ => h) (fun _ => flt_n rfl (by assumption)) ?_)
    refine cur_float rfl rfl rfl rfl h (fun w h => flt_g rfl rfl (q_loadc (v := .int .i64 (lastT L)) rfl (hc1 h))) ?_
    refine cur_pure rfl rfl rfl rfl (fun _ => h) (fun _ => flt_g rfl rfl (q_build (r := hdC ⟨tg, L.length, firstT L, lastT L⟩) rfl)) ?_
    refine cur_pure rfl rfl rfl rfl (fun _ => h) (fun _ => flt_g rfl rfl (q_is (v' := .bool false) (q_neI [(tg : Int), (L.length : Int), firstT L, lastT L] [(tg : Int), (L.length : Int), firstT L, lastT L] rfl rfl rfl rfl) (by rw [beq_self_eq_true]; rfl))) ?_
    (first | refine cur_pure rfl rfl rfl rfl (fun _ => h) (fun _ => flt_v rfl (q_pick1 rfl rfl rfl)) ?_ | refine cur_pure rfl rfl rfl rfl (fun _ => h) (fun _ => flt_v rfl (q_pick0 rfl rfl rfl)) ?_ | refine cur_pure rfl rfl rfl rfl (fun _ => h) (fun _ => flt_v rfl (q_pick1 rfl (by assumption) rfl)) ?_ | refine cur_pure rfl rfl rfl rfl (fun _ => h) (fun _ => flt_v rfl (q_pick0 rfl (by assumption) rfl)) ?_ | refine cur_pure rfl rfl rfl rfl (fun _ => h) (fun _ => flt_v rfl (q_pickB rfl rfl rfl)) ?_); refine cur_pure rfl rfl rfl rfl (fun _ => h) (fun _ => flt_v rfl (q_moveB rfl)) ?_; (first | refine cur_pure rfl rfl rfl rfl (fun _ => h) (fun _ => flt_g rfl rfl (q_moveS rfl)) ?_ | refine cur_pure rfl rfl rfl rfl (fun _ => h) (fun _ => flt_g rfl (by assumption) (q_moveS rfl)) ?_ | refine cur_pure rfl rfl rfl rfl (fun _ => h) (fun _ => flt_n rfl rfl) ?_ | refine cur_pure rfl rfl rfl rfl (fun _ => h) (fun _ => flt_n rfl (by assumption)) ?_); (first | refine cur_pure rfl rfl rfl rfl (fun _ => h) (fun _ => flt_g rfl rfl (q_len rfl)) ?_ | refine cur_pure rfl rfl rfl rfl (fun _ => h) (fun _ => flt_g rfl (by assumption) (q_len rfl)) ?_ | refine cur_pure rfl rfl rfl rfl (fun _ => h) (fun _ => flt_n rfl rfl) ?_ | refine cur_pure rfl rfl rfl rfl (fun _ => h) (fun _ => flt_n rfl (by assumption)) ?_)
    refine cur_pure rfl rfl rfl rfl (fun _ => h) (fun _ => flt_g rfl rfl (q_is (v' := .bool false) (q_lss rfl rfl) (by congr 1; rw [decide_eq_false_iff_not]; omega))) ?_
    (first | refine cur_pure rfl rfl rfl rfl (fun _ => h) (fun _ => flt_v rfl (q_pick1 rfl rfl rfl)) ?_ | refine cur_pure rfl rfl rfl rfl (fun _ => h) (fun _ => flt_v rfl (q_pick0 rfl rfl rfl)) ?_ | refine cur_pure rfl rfl rfl rfl (fun _ => h) (fun _ => flt_v rfl (q_pick1 rfl (by assumption) rfl)) ?_ | refine cur_pure rfl rfl rfl rfl (fun _ => h) (fun _ => flt_v rfl (q_pick0 rfl (by assumption) rfl)) ?_ | refine cur_pure rfl rfl rfl rfl (fun _ => h) (fun _ => flt_v rfl (q_pickB rfl rfl rfl)) ?_)
    exact cur_end (c_false rfl (c_skip ⟨(), ⟨rfl, rfl, rfl, trivial⟩, h⟩))
  clear h
  rintro _ w e h
  refine c_seq (c_region ?_)
  refine r_c rfl (x_bslice (r := []) h rfl rfl rfl fun bz w h => ?_)
  refine r_v (q_moveS rfl) rfl ?_
  have h1 : St w0 (OwnB (some ⟨bz, 0, none⟩) 0 [] :: pt b14 (.cells (hdC ⟨tg, L.length, firstT L, lastT L⟩).toArray 46 (0, 0)) :: OwnB ba bc b :: OwnS sa sc L :: l) w := St.own_mk (cur := []) h rfl rfl (Nat.le_refl _)
  refine r_c rfl (x_append' (zs := bytesV b) (m3 := b.length) h1 rfl rfl (h1.f 2).own_rd (bytesV_one _) (by simp) (List.nil_append _) (by omega) (by omega) rfl fun ca cc w _ h => ?_)
  clear h1
  refine r_v (q_assignS rfl) rfl ?_
  refine r_nil ?_
  obtain ⟨cb, hcsl⟩ := h.own_some (by omega)
  subst hcsl
  have hgb : b[b.length - 1]? = some (b[b.length - 1]'(by omega)) := List.getElem?_eq_getElem _
  generalize b[b.length - 1]'(by omega) = y at hgb
  refine c_seq (c_region ?_)
  refine r_v (q_moveS rfl) rfl ?_; refine r_v (q_moveS rfl) rfl ?_; refine r_v (q_len rfl) rfl ?_; refine r_v (q_sub rfl rfl) rfl ?_
  refine r_is (.int .i64 ((b.length - 1 : Nat) : Int)) (by rw [wrap64 (by omega) (by omega)]; congr 1; omega) ?_
  refine r_v (q_idx (b := cb) (o := 0) (m := b.length) (c := cc) (j := b.length - 1) (o' := b.length - 1) rfl rfl rfl (by omega) (by simp)) rfl ?_
  refine r_v (q_loadc (v := .int .u8 y.toNat) rfl (by have := (h.own_rd).cell (bytesV_get hgb); simpa using this)) rfl ?_
  refine r_v (q_add rfl rfl) rfl ?_
  refine r_is (.int .u8 ((y + 1).toNat : Int)) (by rw [show ((y.toNat : Int) + 1) = ((y.toNat + 1 : Nat) : Int) from rfl, wrap_u8, UInt8.toNat_add]; rfl) ?_
  refine r_v (q_idx (b := cb) (o := 0) (m := b.length) (c := cc) (j := b.length - 1) (o' := b.length - 1) rfl rfl rfl (by omega) (by simp)) rfl ?_
  refine r_c rfl (x_ownset (v := .int .u8 ((y + 1).toNat : Int)) h rfl rfl (by omega) rfl fun w h => ?_)
  rw [bytesV_set] at h
  refine r_nil ?_
  obtain ⟨r', hcr⟩ : ∃ r', b.set (b.length - 1) (y + 1) = UInt8.ofNat tg :: ((chNums L).flatMap vput ++ r') := by
    refine ⟨(x ++ be4 (crc (chBody tg L x))).set ((x ++ be4 (crc (chBody tg L x))).length - 1) (y + 1), ?_⟩
    have hll : b.length = 1 + ((chNums L).flatMap vput).length + (x ++ be4 (crc (chBody tg L x))).length := by
      rw [hbe2, List.length_cons, List.length_append]; omega
    have htp : 0 < (x ++ be4 (crc (chBody tg L x))).length := by rw [List.length_append, be4_len]; omega
    rw [show b.length - 1 = ((chNums L).flatMap vput).length + ((x ++ be4 (crc (chBody tg L x))).length - 1) + 1 by omega]
    conv => lhs; rw [hbe2]
    rw [List.set_cons_succ, List.set_append_right _ _ (by omega), Nat.add_sub_cancel_left]
  have hhead2 := htail r'
  rw [← hcr] at hhead2
  have hcl : (b.set (b.length - 1) (y + 1)).length = b.length := List.length_set
  have hc0 : (b.set (b.length - 1) (y + 1)).length = (UInt8.ofNat tg :: ((chNums L).flatMap vput ++ r')).length := by rw [hcr]
  generalize b.set (b.length - 1) (y + 1) = cs at h hcr hhead2 hcl hc0
  replace h : St w0 (OwnB (some ⟨cb, 0, none⟩) cc cs :: pt b14 (.cells (hdC ⟨tg, L.length, firstT L, lastT L⟩).toArray 46 (0, 0)) :: OwnB ba bc b :: OwnS sa sc L :: l) w := by
    show St w0 (Own _ 1 _ cs.length _ _ :: _) w
    rw [hcl]; exact h
  rw [← hcl]
  refine c_seq (c_region ?_)
  refine r_v (q_moveS rfl) rfl ?_
  refine r_c rfl (x_call rfl (chnk_Head (bs := cs) (by omega) h.own_cases.2.1 Reads.own h) ?_)
  rw [hhead2]
  rintro _ w ⟨rfl, h⟩
  show Rn _ _ _ _ _ (upd _ _ (.tuple [.agg (hdC ⟨tg, L.length, firstT L, lastT L⟩).toArray, .bool true].toArray)) _
  refine r_v (q_moveT rfl) rfl ?_; refine r_v (q_ext rfl rfl) rfl ?_; refine r_v (q_ext rfl rfl) rfl ?_
  refine r_c rfl (x_alloc h fun b17 w h => ?_)
  refine r_c rfl (x_storeA (vs := hdC ⟨tg, L.length, firstT L, lastT L⟩) 0 h rfl rfl rfl rfl rfl rfl rfl fun w h => ?_)
  replace h : St w0 (pt b17 (.cells (hdC ⟨tg, L.length, firstT L, lastT L⟩).toArray 46 (0, 0)) :: OwnB (some ⟨cb, 0, none⟩) cc cs :: pt b14 (.cells (hdC ⟨tg, L.length, firstT L, lastT L⟩).toArray 46 (0, 0)) :: OwnB ba bc b :: OwnS sa sc L :: l) w := h
  refine r_v (q_assignB rfl) rfl ?_
  refine r_nil ?_
  refine c_seq (c_seq (c_region ?_))
  refine r_v (q_moveB rfl) rfl ?_; refine r_v (q_not rfl) rfl ?_; refine r_v (q_moveB rfl) rfl ?_; (first | refine r_gd rfl rfl ?_ | refine r_gn rfl rfl rfl ?_ | refine r_gu rfl rfl ?_ | refine r_gd rfl (by assumption) ?_ | refine r_gn rfl (by assumption) rfl ?_)
  refine r_v (q_loadS (l := hdC ⟨tg, L.length, firstT L, lastT L⟩) rfl rfl (at_of (h.b 0 rfl) rfl)) rfl ?_
  refine r_gd rfl rfl ?_
  refine r_v (q_loadS (l := hdC ⟨tg, L.length, firstT L, lastT L⟩) rfl rfl (at_of (h.b 2 rfl) rfl)) rfl ?_
  refine r_gd rfl rfl ?_
  refine r_v (q_is (v' := .bool false) (q_neI [(tg : Int), (L.length : Int), firstT L, lastT L] [(tg : Int), (L.length : Int), firstT L, lastT L] rfl rfl rfl rfl) (by rw [beq_self_eq_true]; rfl)) rfl ?_
  (first | refine r_v (q_pick1 rfl rfl rfl) rfl ?_ | refine r_v (q_pick0 rfl rfl rfl) rfl ?_ | refine r_v (q_pick1 rfl (by assumption) rfl) rfl ?_ | refine r_v (q_pick0 rfl (by assumption) rfl) rfl ?_ | refine r_v (q_pickB rfl rfl rfl) rfl ?_)
  refine r_nil (c_false rfl (c_skip ?_))
  replace h : St w0 (OwnB (some ⟨cb, 0, none⟩) cc cs :: l) w := (((h.drop.f 1).drop.f 1).drop.f 1).drop
  have hcc := h.own_cases.2.1
  refine c_cut (Γ := List UInt8 × Nat) (fun k => [(16, .slice (some ⟨cb, 0, none⟩) k.1.length k.2)]) (fun k w => headDec k.1 = none ∧ k.1.length ≤ 5000000 ∧ k.1.length ≤ k.2 ∧ ∃ M, Reads w0 M 1 (some ⟨cb, 0, none⟩) k.1.length (bytesV k.1) ∧ St w0 M w ∧ ∀ w', St w0 M w' → St w0 l w') ?_ ?_
  · have hset : ∀ {w : World} {j : Nat} {z : UInt8}, St w0 (Own 5 1 (some ⟨cb, 0, none⟩) cs.length cc (bytesV (cs.set j z)) :: l) w → St w0 (OwnB (some ⟨cb, 0, none⟩) cc (cs.set j z) :: l) w := fun {w j z} h => by
      show St w0 (Own _ 1 _ (cs.set j z).length _ _ :: _) w
      rw [List.length_set]; exact h
    refine c_seq (c_region ?_)
    refine r_v (q_moveI rfl) rfl ?_
    refine r_v (q_is (v' := .int .i64 (d0 : Int)) (q_and rfl rfl) (congrArg (Value.int .i64) ((and_mask 2 (by decide) (by decide)).trans hd0))) rfl ?_
    refine r_nil ?_
    refine c_block ?_
    refine c_seq (c_region ?_)
    refine r_v (q_eql rfl rfl) rfl ?_; refine r_v (q_assignB rfl) rfl ?_
    refine r_nil (c_cond ((d0 : Int) == 0) rfl (fun hc => ?_) (fun hc => ?_))
    · refine c_region ?_
      refine r_v (q_moveS rfl) rfl ?_
      refine r_v (q_idx (b := cb) (o := 0) (m := cs.length) (c := cc) (j := 0) (o' := 0) rfl rfl rfl (by omega) (by simp)) rfl ?_
      refine r_c rfl (x_ownset (v := .int .u8 ((0 : UInt8).toNat : Int)) h rfl rfl (by omega) rfl fun w h => ?_)
      rw [bytesV_set] at h
      refine r_nil ⟨(cs.set 0 0, cc), ⟨?_, trivial⟩, ?_, by dsimp only; rw [List.length_set]; omega, by dsimp only; rw [List.length_set]; omega, _, Reads.own, hset h, fun _ h => h.drop⟩
      · show Value.slice _ _ _ = Value.slice _ _ _
        rw [List.length_set]
      · dsimp only; rw [hcr]; exact headDec_tag (.inl (by decide))
    refine c_seq (c_region ?_)
    refine r_v (q_eql rfl rfl) rfl ?_; refine r_v (q_assignB rfl) rfl ?_
    refine r_nil (c_cond ((d0 : Int) == 1) rfl (fun hc => ?_) (fun hc => ?_))
    · refine c_region ?_
      refine r_v (q_moveS rfl) rfl ?_
      refine r_v (q_idx (b := cb) (o := 0) (m := cs.length) (c := cc) (j := 0) (o' := 0) rfl rfl rfl (by omega) (by simp)) rfl ?_
      refine r_c rfl (x_ownset (v := .int .u8 ((7 : UInt8).toNat : Int)) h rfl rfl (by omega) rfl fun w h => ?_)
      rw [bytesV_set] at h
      refine r_nil ⟨(cs.set 0 7, cc), ⟨?_, trivial⟩, ?_, by dsimp only; rw [List.length_set]; omega, by dsimp only; rw [List.length_set]; omega, _, Reads.own, hset h, fun _ h => h.drop⟩
      · show Value.slice _ _ _ = Value.slice _ _ _
        rw [List.length_set]
      · dsimp only; rw [hcr]; exact headDec_tag (.inr (by decide))
    refine c_seq (c_region ?_)
    refine r_v (q_eql rfl rfl) rfl ?_; refine r_v (q_assignB rfl) rfl ?_
    refine r_nil (c_cond ((d0 : Int) == 2) rfl (fun hc => ?_) (fun hc => ?_))
    · refine c_region ?_
      refine r_v (q_moveS rfl) rfl ?_
      refine r_v (q_idx (b := cb) (o := 0) (m := cs.length) (c := cc) (j := 1) (o' := 1) rfl rfl rfl (by omega) (by simp)) rfl ?_
      refine r_c rfl (x_ownset (v := .int .u8 ((0 : UInt8).toNat : Int)) h rfl rfl (by omega) rfl fun w h => ?_)
      rw [bytesV_set] at h
      refine r_nil ⟨(cs.set 1 0, cc), ⟨?_, trivial⟩, ?_, by dsimp only; rw [List.length_set]; omega, by dsimp only; rw [List.length_set]; omega, _, Reads.own, hset h, fun _ h => h.drop⟩
      · show Value.slice _ _ _ = Value.slice _ _ _
        rw [List.length_set]
      · dsimp only
        match cs, hcl with
        | c0 :: c1 :: cr, _ => exact headDec_zero c0 cr
        | [c0], hcl => simp at hcl; omega
        | [], hcl => simp at hcl; omega
    · refine c_region ?_
      refine r_v (q_moveS rfl) rfl ?_
      refine r_v (q_is (v' := .slice (some ⟨cb, 0, none⟩) [UInt8.ofNat tg].length cc) (q_head (h := 1) rfl rfl (by omega)) rfl) rfl ?_
      refine r_v (q_assignS rfl) rfl ?_
      refine r_nil ⟨([UInt8.ofNat tg], cc), ⟨rfl, trivial⟩, headDec_one _, by show 1 ≤ 5000000; decide, by show 1 ≤ cc; omega, _, ?_, h, fun _ h => h.drop⟩
      have := (Reads.own (w0 := w0) (l := l) (T := 5) (sz := 1) (a := some ⟨cb, 0, none⟩) (n := cs.length) (c := cc) (xs := bytesV cs)).head (i := 1) (by omega)
      have e1 : (bytesV cs).take (1 * 1) = bytesV [UInt8.ofNat tg] := by rw [hcr]; rfl
      rw [e1] at this
      exact this
  clear h hcc
  rintro ⟨ks, kc⟩ w e ⟨hkn, hkl, hkc, M, hkr, h, hMl⟩
  dsimp only at hkn hkl hkc hkr h ⊢
  refine c_seq (c_region ?_)
  refine r_v (q_moveS rfl) rfl ?_
  refine r_c rfl (x_call rfl (chnk_Head (bs := ks) (by omega) hkc hkr h) ?_)
  rw [hkn]
  rintro _ w ⟨rfl, h⟩
  show Rn _ _ _ _ _ (upd _ _ (.tuple [.agg hdZ.toArray, .bool false].toArray)) _
  refine r_v (q_moveT rfl) rfl ?_; refine r_v (q_ext rfl rfl) rfl ?_; refine r_v (q_ext rfl rfl) rfl ?_
  refine r_c rfl (x_alloc h fun b19 w h => ?_)
  refine r_c rfl (x_storeA (vs := hdZ) 0 h rfl rfl rfl rfl rfl rfl rfl fun w h => ?_)
  replace h := h.drop
  replace h := hMl _ h
  refine r_v (q_assignB rfl) rfl ?_
  refine r_nil ?_
  refine c_seq (c_region ?_)
  refine r_v (q_moveB rfl) rfl ?_; refine r_v (q_not rfl) rfl ?_; refine r_v (q_moveB rfl) rfl ?_; (first | refine r_gd rfl rfl ?_ | refine r_gn rfl rfl rfl ?_ | refine r_gu rfl rfl ?_ | refine r_gd rfl (by assumption) ?_ | refine r_gn rfl (by assumption) rfl ?_)
  refine r_c rfl (x_call rfl (law11_awake hT h) ?_)
  rintro _ w ⟨rfl, h⟩
  (first | refine r_v (q_pick1 rfl rfl rfl) rfl ?_ | refine r_v (q_pick0 rfl rfl rfl) rfl ?_ | refine r_v (q_pick1 rfl (by assumption) rfl) rfl ?_ | refine r_v (q_pick0 rfl (by assumption) rfl) rfl ?_ | refine r_v (q_pickB rfl rfl rfl) rfl ?_); refine r_v (q_assignB rfl) rfl ?_
  refine r_nil ?_
  exact c_ret (bq1 ⟨rfl, h⟩)
end
end Go.Proofs.YtjjacchnalemaaaDoor
