/- ephemerislaw12: awake, WorkMixed. -/
import Derived.Test.YtjjacchnalemaaaDoorWork
namespace Go.Hw
set_option maxRecDepth 100000
def L3 : List Smp := [⟨1, 7⟩, ⟨2, 7⟩, ⟨3, 9⟩]
def C3 : List UInt8 := (chMake 1 L3).getD []
theorem C3_make : chMake 1 L3 = some C3 := by
  have : (chMake 1 L3).isSome = true := by decide +kernel
  unfold C3
  cases h : chMake 1 L3 with
  | none => rw [h] at this; cases this
  | some b => rfl
theorem L3_wf : ∀ s ∈ L3, s.Wf := by
  intro s hs
  simp only [L3, List.mem_cons, List.not_mem_nil, or_false] at hs
  rcases hs with rfl | rfl | rfl <;> exact ⟨⟨by decide, by decide⟩, by decide, by decide⟩
def noCh : List UInt8 := [110, 111, 32, 99, 104, 117, 110, 107]
theorem noCh_open : chOpen noCh = none := by
  have : headDec noCh = none := headDec_tag (by decide)
  unfold chOpen
  rw [this]
theorem WkS.more_true {s : WkS} {n : Int} (ho : s.ov = false) (h : s.more n = true) : (s.step n).ov = false ∧ (s.step n).lf = s.lf - clampN n ∧ 0 < s.lf - clampN n := by
  unfold WkS.more at h
  unfold WkS.step
  rw [ho] at h ⊢
  simp only [Bool.not_false, Bool.true_and, Bool.not_eq_true', decide_eq_false_iff_not] at h
  refine ⟨by simpa using h, by simp, by omega⟩
theorem WkS.more_false {s : WkS} {n : Int} (ho : s.ov = false) (h : s.more n = false) : (s.step n).ov = true := by
  unfold WkS.more at h
  unfold WkS.step
  rw [ho] at h ⊢
  simpa using h
end Go.Hw
namespace Go.Proofs.YtjjacchnalemaaaDoor
open Go.Hw
set_option maxHeartbeats 4000000
set_option maxRecDepth 100000
section
variable {w0 w : World} {l : List HProp}
theorem law12_awake (hT : Tz w0) (h : St w0 l w) : Ret Tryd.prog 28 [] w fun v w' => v = .bool true ∧ St w0 l w' := by
  have hcm := chMake_len2 L3_wf C3_make
  have hopen := chOpen_told L3_wf (by omega) C3_make
  have hdL : decL C3 = L3 := by unfold decL; rw [hopen]; rfl
  have hdN : decL noCh = [] := by unfold decL; rw [noCh_open]; rfl
  refine enter Tryd.func28 rfl Tryd.results28 Tryd.ntmps28 rfl ?_
  refine c_seq (c_region ?_)
  refine r_v (q_assignB rfl) rfl ?_
  refine r_nil ?_
  refine c_seq (c_region ?_)
  refine r_v (q_build (r := (Smp.mk 1 7).cells) rfl) rfl ?_
  refine r_v (q_build (r := (Smp.mk 2 7).cells) rfl) rfl ?_
  refine r_v (q_build (r := (Smp.mk 3 9).cells) rfl) rfl ?_
  refine r_c rfl (x_bslice (r := smpsV L3) h rfl rfl rfl fun b w h => ?_)
  have hr : ∀ M : List HProp, Reads w0 (M ++ pt b (.cells (smpsV L3).toArray 25 (0, 0)) :: l) 2 (some ⟨b, 0, none⟩) L3.length (smpsV L3) := fun M => (Reads.pt (m := 0) rfl rfl).more M
  refine r_v (q_assignS rfl) rfl ?_
  refine r_nil ?_
  refine c_seq (c_region ?_)
  refine r_v (q_moveS rfl) rfl ?_
  refine r_c rfl (x_call rfl (work_NewEncoder 1 (L := L3) (by decide) (hr []) h) ?_)
  rintro _ w ⟨p, la, lc, rfl, h⟩
  refine r_v (q_assignP rfl) rfl ?_
  refine r_nil ?_
  refine c_seq (c_seq (c_region ?_))
  refine r_v (q_moveP rfl) rfl ?_; refine r_v (q_eqnil rfl rfl) rfl ?_
  refine r_nil (c_false rfl (c_skip ?_))
  refine c_seq (c_region ?_)
  refine r_v (q_moveP rfl) rfl ?_
  refine r_c rfl (x_call rfl (enc_Step0 hT 2 L3_wf (by decide) h) ?_)
  rw [C3_make]
  rintro _ w ⟨ba, bc, rfl, h⟩
  replace h : St w0 (EncPt p ⟨true, false, 1, false⟩ 1 la L3.length lc ba C3.length bc :: OwnB ba bc C3 :: OwnS la lc L3 :: pt b (.cells (smpsV L3).toArray 25 (0, 0)) :: l) w := h
  rw [show (encBegin (some C3) L3.length).more 2 = true from rfl]
  refine r_v (q_moveP rfl) rfl ?_
  refine r_c rfl (x_call rfl (enc_Step (s := ⟨true, false, 1, false⟩) 1 rfl (by decide) h) ?_)
  rintro _ w ⟨rfl, h⟩
  replace h : St w0 (EncPt p ⟨true, true, 0, false⟩ 1 la L3.length lc ba C3.length bc :: OwnB ba bc C3 :: OwnS la lc L3 :: pt b (.cells (smpsV L3).toArray 25 (0, 0)) :: l) w := h
  rw [show (WkS.mk true false 1 false).more 1 = false from rfl]
  refine r_v (q_assignB rfl) rfl ?_; refine r_v (q_assignB rfl) rfl ?_
  refine r_nil ?_
  refine c_seq (c_region ?_)
  refine r_v (q_moveP rfl) rfl ?_
  refine r_c rfl (x_call rfl (enc_Done (bs := C3) (by omega) h) ?_)
  rintro _ w ⟨ca, cc, rfl, h⟩
  replace h : St w0 (OwnB ca cc C3 :: EncPt p ⟨true, true, 0, false⟩ 1 la L3.length lc ba C3.length bc :: OwnB ba bc C3 :: OwnS la lc L3 :: pt b (.cells (smpsV L3).toArray 25 (0, 0)) :: l) w := h
  show Rn _ _ _ _ _ (upd _ _ (.tuple [.slice ca C3.length cc, .bool true].toArray)) _
  refine r_v (q_moveT rfl) rfl ?_; refine r_v (q_ext rfl rfl) rfl ?_; refine r_v (q_ext rfl rfl) rfl ?_; refine r_v (q_assignS rfl) rfl ?_; refine r_v (q_assignB rfl) rfl ?_
  refine r_nil ?_
  refine c_seq (c_region ?_)
  refine r_v (q_moveS rfl) rfl ?_
  refine r_c rfl (x_call rfl (work_NewDecoder (bs := C3) (by omega) Reads.own h) ?_)
  rintro _ w ⟨p2, b2, c2, rfl, h⟩
  refine r_v (q_assignP rfl) rfl ?_
  refine r_nil ?_
  refine c_seq (c_seq (c_region ?_))
  refine r_v (q_moveP rfl) rfl ?_; refine r_v (q_eqnil rfl rfl) rfl ?_
  refine r_nil (c_false rfl (c_skip ?_))
  refine c_seq (c_region ?_)
  refine r_v (q_moveP rfl) rfl ?_
  refine r_c rfl (x_call rfl (dec_Done (L := []) (by decide) Reads.nil h) ?_)
  rintro _ w ⟨da, dc, rfl, h⟩
  replace h := h.drop
  show Rn _ _ _ _ _ (upd _ _ (.tuple [.slice da 0 dc, .bool false].toArray)) _
  refine r_v (q_moveT rfl) rfl ?_; refine r_v (q_ext rfl rfl) rfl ?_; refine r_v (q_ext rfl rfl) rfl ?_; refine r_v (q_assignS rfl) rfl ?_; refine r_v (q_assignB rfl) rfl ?_
  refine r_nil ?_
  refine c_seq (c_region ?_)
  refine r_v (q_moveP rfl) rfl ?_
  refine r_c rfl (x_call rfl (dec_Step0 hT 5 (by omega) h) ?_)
  have e1 : decBegin C3 = ⟨true, false, 3, false⟩ := by unfold decBegin; rw [hdL, hopen]; rfl
  rw [e1, hdL]
  rintro _ w ⟨l2, lc2, rfl, _, h⟩
  replace h : St w0 (DecPt p2 ⟨true, true, -2, false⟩ b2 C3.length c2 l2 L3.length lc2 :: OwnS l2 lc2 L3 :: OwnB b2 c2 C3 :: OwnB ca cc C3 :: EncPt p ⟨true, true, 0, false⟩ 1 la L3.length lc ba C3.length bc :: OwnB ba bc C3 :: OwnS la lc L3 :: pt b (.cells (smpsV L3).toArray 25 (0, 0)) :: l) w := h
  rw [show (WkS.mk true false 3 false).more 5 = false from rfl]
  refine r_v (q_assignB rfl) rfl ?_
  refine r_nil ?_
  refine c_seq (c_region ?_)
  refine r_v (q_moveP rfl) rfl ?_
  refine r_c rfl (x_call rfl (dec_Done (L := L3) (by decide) Reads.own.cons h) ?_)
  rintro _ w ⟨ea, ec, rfl, h⟩
  replace h : St w0 (OwnS ea ec L3 :: DecPt p2 ⟨true, true, -2, false⟩ b2 C3.length c2 l2 L3.length lc2 :: OwnS l2 lc2 L3 :: OwnB b2 c2 C3 :: OwnB ca cc C3 :: EncPt p ⟨true, true, 0, false⟩ 1 la L3.length lc ba C3.length bc :: OwnB ba bc C3 :: OwnS la lc L3 :: pt b (.cells (smpsV L3).toArray 25 (0, 0)) :: l) w := h
  show Rn _ _ _ _ _ (upd _ _ (.tuple [.slice ea L3.length ec, .bool true].toArray)) _
  refine r_v (q_moveT rfl) rfl ?_; refine r_v (q_ext rfl rfl) rfl ?_; refine r_v (q_ext rfl rfl) rfl ?_; refine r_v (q_assignS rfl) rfl ?_; refine r_v (q_assignB rfl) rfl ?_
  refine r_nil ?_
  refine c_seq (c_region ?_)
  refine r_c rfl (x_bslice (r := bytesV noCh) h rfl rfl rfl fun bn w h => ?_)
  refine r_c rfl (x_mark 0 h rfl rfl fun w h => ?_)
  refine r_c rfl (x_call rfl (work_NewDecoder (bs := noCh) (by decide) (fun L w' h' => ⟨rfl, .inr ⟨bn, 0, rfl, at_of (h'.drops.b 0 rfl) rfl⟩⟩) h) ?_)
  rintro _ w ⟨p3, b3, c3, rfl, h⟩
  replace h := (((h.f 2).drop))
  refine r_v (q_assignP rfl) rfl ?_
  refine r_nil ?_
  refine c_seq (c_seq (c_region ?_))
  refine r_v (q_moveP rfl) rfl ?_; refine r_v (q_eqnil rfl rfl) rfl ?_
  refine r_nil (c_false rfl (c_skip ?_))
  refine c_seq (c_region ?_)
  refine r_v (q_moveP rfl) rfl ?_
  refine r_c rfl (x_call rfl (dec_Step0 hT 1 (by decide) h) ?_)
  have e2 : decBegin noCh = ⟨true, false, 0, true⟩ := by unfold decBegin; rw [hdN, noCh_open]; rfl
  rw [e2, hdN]
  rintro _ w ⟨l3, lc3, rfl, _, h⟩
  replace h : St w0 (DecPt p3 ⟨true, true, -1, true⟩ b3 noCh.length c3 l3 0 lc3 :: OwnS l3 lc3 [] :: OwnB b3 c3 noCh :: OwnS ea ec L3 :: DecPt p2 ⟨true, true, -2, false⟩ b2 C3.length c2 l2 L3.length lc2 :: OwnS l2 lc2 L3 :: OwnB b2 c2 C3 :: OwnB ca cc C3 :: EncPt p ⟨true, true, 0, false⟩ 1 la L3.length lc ba C3.length bc :: OwnB ba bc C3 :: OwnS la lc L3 :: pt b (.cells (smpsV L3).toArray 25 (0, 0)) :: l) w := h
  rw [show (WkS.mk true false 0 true).more 1 = false from rfl]
  refine r_v (q_assignB rfl) rfl ?_
  refine r_nil ?_
  refine c_seq (c_region ?_)
  refine r_v (q_moveP rfl) rfl ?_
  refine r_c rfl (x_call rfl (dec_Done (L := []) (by decide) Reads.own.cons h) ?_)
  rintro _ w ⟨fa, fc, rfl, h⟩
  replace h := h.drop
  show Rn _ _ _ _ _ (upd _ _ (.tuple [.slice fa 0 fc, .bool false].toArray)) _
  refine r_v (q_moveT rfl) rfl ?_; refine r_v (q_ext rfl rfl) rfl ?_; refine r_v (q_ext rfl rfl) rfl ?_; refine r_v (q_assignS rfl) rfl ?_; refine r_v (q_assignB rfl) rfl ?_
  refine r_nil ?_
  refine c_seq (c_region ?_)
  refine r_v (q_moveB rfl) rfl ?_; refine r_v (q_moveB rfl) rfl ?_; (first | refine r_gd rfl rfl ?_ | refine r_gn rfl rfl rfl ?_ | refine r_gu rfl rfl ?_ | refine r_gd rfl (by assumption) ?_ | refine r_gn rfl (by assumption) rfl ?_); refine r_v (q_moveB rfl) rfl ?_; (first | refine r_gd rfl rfl ?_ | refine r_gn rfl rfl rfl ?_ | refine r_gu rfl rfl ?_ | refine r_gd rfl (by assumption) ?_ | refine r_gn rfl (by assumption) rfl ?_); refine r_v (q_not rfl) rfl ?_; (first | refine r_v (q_pick1 rfl rfl rfl) rfl ?_ | refine r_v (q_pick0 rfl rfl rfl) rfl ?_ | refine r_v (q_pick1 rfl (by assumption) rfl) rfl ?_ | refine r_v (q_pick0 rfl (by assumption) rfl) rfl ?_ | refine r_v (q_pickB rfl rfl rfl) rfl ?_); refine r_v (q_moveB rfl) rfl ?_; (first | refine r_gd rfl rfl ?_ | refine r_gn rfl rfl rfl ?_ | refine r_gu rfl rfl ?_ | refine r_gd rfl (by assumption) ?_ | refine r_gn rfl (by assumption) rfl ?_); refine r_v (q_moveB rfl) rfl ?_; (first | refine r_v (q_pick1 rfl rfl rfl) rfl ?_ | refine r_v (q_pick0 rfl rfl rfl) rfl ?_ | refine r_v (q_pick1 rfl (by assumption) rfl) rfl ?_ | refine r_v (q_pick0 rfl (by assumption) rfl) rfl ?_ | refine r_v (q_pickB rfl rfl rfl) rfl ?_); refine r_v (q_moveB rfl) rfl ?_; (first | refine r_gd rfl rfl ?_ | refine r_gn rfl rfl rfl ?_ | refine r_gu rfl rfl ?_ | refine r_gd rfl (by assumption) ?_ | refine r_gn rfl (by assumption) rfl ?_); refine r_v (q_moveB rfl) rfl ?_; (first | refine r_gd rfl rfl ?_ | refine r_gn rfl rfl rfl ?_ | refine r_gu rfl rfl ?_ | refine r_gd rfl (by assumption) ?_ | refine r_gn rfl (by assumption) rfl ?_); refine r_v (q_not rfl) rfl ?_; (first | refine r_v (q_pick1 rfl rfl rfl) rfl ?_ | refine r_v (q_pick0 rfl rfl rfl) rfl ?_ | refine r_v (q_pick1 rfl (by assumption) rfl) rfl ?_ | refine r_v (q_pick0 rfl (by assumption) rfl) rfl ?_ | refine r_v (q_pickB rfl rfl rfl) rfl ?_); refine r_v (q_moveB rfl) rfl ?_; (first | refine r_gd rfl rfl ?_ | refine r_gn rfl rfl rfl ?_ | refine r_gu rfl rfl ?_ | refine r_gd rfl (by assumption) ?_ | refine r_gn rfl (by assumption) rfl ?_); refine r_v (q_moveB rfl) rfl ?_; (first | refine r_gd rfl rfl ?_ | refine r_gn rfl rfl rfl ?_ | refine r_gu rfl rfl ?_ | refine r_gd rfl (by assumption) ?_ | refine r_gn rfl (by assumption) rfl ?_); refine r_v (q_not rfl) rfl ?_; (first | refine r_v (q_pick1 rfl rfl rfl) rfl ?_ | refine r_v (q_pick0 rfl rfl rfl) rfl ?_ | refine r_v (q_pick1 rfl (by assumption) rfl) rfl ?_ | refine r_v (q_pick0 rfl (by assumption) rfl) rfl ?_ | refine r_v (q_pickB rfl rfl rfl) rfl ?_); refine r_v (q_moveB rfl) rfl ?_; (first | refine r_gd rfl rfl ?_ | refine r_gn rfl rfl rfl ?_ | refine r_gu rfl rfl ?_ | refine r_gd rfl (by assumption) ?_ | refine r_gn rfl (by assumption) rfl ?_); refine r_v (q_moveB rfl) rfl ?_; (first | refine r_v (q_pick1 rfl rfl rfl) rfl ?_ | refine r_v (q_pick0 rfl rfl rfl) rfl ?_ | refine r_v (q_pick1 rfl (by assumption) rfl) rfl ?_ | refine r_v (q_pick0 rfl (by assumption) rfl) rfl ?_ | refine r_v (q_pickB rfl rfl rfl) rfl ?_); refine r_v (q_moveB rfl) rfl ?_; (first | refine r_gd rfl rfl ?_ | refine r_gn rfl rfl rfl ?_ | refine r_gu rfl rfl ?_ | refine r_gd rfl (by assumption) ?_ | refine r_gn rfl (by assumption) rfl ?_); refine r_v (q_moveS rfl) rfl ?_; (first | refine r_gd rfl rfl ?_ | refine r_gn rfl rfl rfl ?_ | refine r_gu rfl rfl ?_ | refine r_gd rfl (by assumption) ?_ | refine r_gn rfl (by assumption) rfl ?_); refine r_v (q_moveS rfl) rfl ?_; (first | refine r_gd rfl rfl ?_ | refine r_gn rfl rfl rfl ?_ | refine r_gu rfl rfl ?_ | refine r_gd rfl (by assumption) ?_ | refine r_gn rfl (by assumption) rfl ?_)
  refine r_c rfl (x_call rfl (ref10_Same (L1 := L3) (L2 := L3) h (fun w' h' => (h'.f 3).own_rd) (fun w' h' => (hr [_, _, _, _, _, _, _, _, _, _, _]).rd w' h') (by decide)) ?_)
  rintro _ w ⟨rfl, h⟩
  rw [show decide (L3 = L3) = true by simp]
  (first | refine r_v (q_pick1 rfl rfl rfl) rfl ?_ | refine r_v (q_pick0 rfl rfl rfl) rfl ?_ | refine r_v (q_pick1 rfl (by assumption) rfl) rfl ?_ | refine r_v (q_pick0 rfl (by assumption) rfl) rfl ?_ | refine r_v (q_pickB rfl rfl rfl) rfl ?_); refine r_v (q_moveB rfl) rfl ?_; (first | refine r_gd rfl rfl ?_ | refine r_gn rfl rfl rfl ?_ | refine r_gu rfl rfl ?_ | refine r_gd rfl (by assumption) ?_ | refine r_gn rfl (by assumption) rfl ?_); refine r_v (q_moveB rfl) rfl ?_; (first | refine r_gd rfl rfl ?_ | refine r_gn rfl rfl rfl ?_ | refine r_gu rfl rfl ?_ | refine r_gd rfl (by assumption) ?_ | refine r_gn rfl (by assumption) rfl ?_); refine r_v (q_not rfl) rfl ?_; (first | refine r_v (q_pick1 rfl rfl rfl) rfl ?_ | refine r_v (q_pick0 rfl rfl rfl) rfl ?_ | refine r_v (q_pick1 rfl (by assumption) rfl) rfl ?_ | refine r_v (q_pick0 rfl (by assumption) rfl) rfl ?_ | refine r_v (q_pickB rfl rfl rfl) rfl ?_); refine r_v (q_moveB rfl) rfl ?_; (first | refine r_gd rfl rfl ?_ | refine r_gn rfl rfl rfl ?_ | refine r_gu rfl rfl ?_ | refine r_gd rfl (by assumption) ?_ | refine r_gn rfl (by assumption) rfl ?_); refine r_v (q_moveB rfl) rfl ?_; (first | refine r_gd rfl rfl ?_ | refine r_gn rfl rfl rfl ?_ | refine r_gu rfl rfl ?_ | refine r_gd rfl (by assumption) ?_ | refine r_gn rfl (by assumption) rfl ?_); refine r_v (q_not rfl) rfl ?_; (first | refine r_v (q_pick1 rfl rfl rfl) rfl ?_ | refine r_v (q_pick0 rfl rfl rfl) rfl ?_ | refine r_v (q_pick1 rfl (by assumption) rfl) rfl ?_ | refine r_v (q_pick0 rfl (by assumption) rfl) rfl ?_ | refine r_v (q_pickB rfl rfl rfl) rfl ?_); refine r_v (q_moveB rfl) rfl ?_; (first | refine r_gd rfl rfl ?_ | refine r_gn rfl rfl rfl ?_ | refine r_gu rfl rfl ?_ | refine r_gd rfl (by assumption) ?_ | refine r_gn rfl (by assumption) rfl ?_); refine r_v (q_moveP rfl) rfl ?_; (first | refine r_gd rfl rfl ?_ | refine r_gn rfl rfl rfl ?_ | refine r_gu rfl rfl ?_ | refine r_gd rfl (by assumption) ?_ | refine r_gn rfl (by assumption) rfl ?_)
  refine r_c rfl (x_call rfl (dec_Bad h) ?_)
  rintro _ w ⟨rfl, h⟩
  (first | refine r_v (q_pick1 rfl rfl rfl) rfl ?_ | refine r_v (q_pick0 rfl rfl rfl) rfl ?_ | refine r_v (q_pick1 rfl (by assumption) rfl) rfl ?_ | refine r_v (q_pick0 rfl (by assumption) rfl) rfl ?_ | refine r_v (q_pickB rfl rfl rfl) rfl ?_); refine r_v (q_moveB rfl) rfl ?_; (first | refine r_gd rfl rfl ?_ | refine r_gn rfl rfl rfl ?_ | refine r_gu rfl rfl ?_ | refine r_gd rfl (by assumption) ?_ | refine r_gn rfl (by assumption) rfl ?_); refine r_v (q_moveP rfl) rfl ?_; (first | refine r_gd rfl rfl ?_ | refine r_gn rfl rfl rfl ?_ | refine r_gu rfl rfl ?_ | refine r_gd rfl (by assumption) ?_ | refine r_gn rfl (by assumption) rfl ?_)
  refine r_c rfl (x_call rfl (dec_Bad (h.f 4)) ?_)
  rintro _ w ⟨rfl, h⟩
  (first | refine r_gd rfl rfl ?_ | refine r_gn rfl rfl rfl ?_ | refine r_gu rfl rfl ?_ | refine r_gd rfl (by assumption) ?_ | refine r_gn rfl (by assumption) rfl ?_); refine r_v (q_not rfl) rfl ?_; (first | refine r_v (q_pick1 rfl rfl rfl) rfl ?_ | refine r_v (q_pick0 rfl rfl rfl) rfl ?_ | refine r_v (q_pick1 rfl (by assumption) rfl) rfl ?_ | refine r_v (q_pick0 rfl (by assumption) rfl) rfl ?_ | refine r_v (q_pickB rfl rfl rfl) rfl ?_); refine r_v (q_assignB rfl) rfl ?_
  refine r_nil ?_
  exact c_ret (bq1 ⟨rfl, h.drop.drop.drop.drop.drop.drop.drop.drop.drop.drop.drop.drop⟩)
end
end Go.Proofs.YtjjacchnalemaaaDoor
