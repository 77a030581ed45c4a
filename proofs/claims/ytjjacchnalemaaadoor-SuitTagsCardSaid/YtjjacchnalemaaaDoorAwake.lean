/- ephemerislaw10.awake. -/
import Derived.Test.YtjjacchnalemaaaDoorBest
import Derived.Test.YtjjacchnalemaaaDoorRead6
import Derived.Test.YtjjacchnalemaaaDoorSame
namespace Go.Hw
set_option maxRecDepth 100000
def A3 : List Smp := [⟨1, 7⟩, ⟨2, 7⟩, ⟨3, 7⟩]
def A3b : List UInt8 := (suitEnc 6 A3).getD []
theorem A3_enc : suitEnc 6 A3 = some A3b := by decide +kernel
theorem A3_len : A3b.length = 12 := by decide +kernel
theorem A3_best : suitBest A3 = (6, A3b) := by decide +kernel
theorem A3_wf : ∀ s ∈ A3, s.Wf := by
  intro s hs
  simp only [A3, List.mem_cons, List.not_mem_nil, or_false] at hs
  rcases hs with rfl | rfl | rfl <;> exact ⟨⟨by decide, by decide⟩, by decide, by decide⟩
theorem A3_dec : suitDec 6 A3b 3 = some A3 := suitDec_told A3_wf (by rw [A3_len]; decide) A3_enc
def A2 : List Smp := [⟨1, 0⟩, ⟨1, 0⟩]
theorem A2_wf : ∀ s ∈ A2, s.Wf := by
  intro s hs
  simp only [A2, List.mem_cons, List.not_mem_nil, or_false] at hs
  rcases hs with rfl | rfl <;> exact ⟨⟨by decide, by decide⟩, by decide, by decide⟩
end Go.Hw
namespace Go.Proofs.YtjjacchnalemaaaDoor
open Go.Hw
set_option maxHeartbeats 4000000
set_option maxRecDepth 100000
section
variable {w0 w : World} {l : List HProp}
theorem law10_awake (hT : Tz w0) (h : St w0 l w) : Ret Tryd.prog 14 [] w fun v w' => v = .bool true ∧ St w0 l w' := by
  refine enter Tryd.func14 rfl Tryd.results14 Tryd.ntmps14 rfl ?_
  refine c_seq (c_region ?_)
  refine r_v (q_assignB rfl) rfl ?_
  refine r_nil ?_
  refine c_seq (c_region ?_)
  refine r_v (q_build (r := (Smp.mk 1 7).cells) rfl) rfl ?_
  refine r_v (q_build (r := (Smp.mk 2 7).cells) rfl) rfl ?_
  refine r_v (q_build (r := (Smp.mk 3 7).cells) rfl) rfl ?_
  refine r_c rfl (x_bslice (r := smpsV A3) h rfl rfl rfl fun b w h => ?_)
  have hr : ∀ M : List HProp, Reads w0 (M ++ pt b (.cells (smpsV A3).toArray 25 (0, 0)) :: l) 2 (some ⟨b, 0, none⟩) A3.length (smpsV A3) := fun M => (Reads.pt (m := 0) rfl rfl).more M
  refine r_v (q_assignS rfl) rfl ?_
  refine r_nil ?_
  refine c_seq (c_region ?_)
  refine r_v (q_moveS rfl) rfl ?_
  refine r_c rfl (x_call rfl (suit_Encode hT 6 A3_wf (by decide) (hr []) h) ?_)
  rw [A3_enc]
  rintro _ w ⟨ea, ec, rfl, h⟩
  replace h : St w0 (OwnB ea ec A3b :: pt b (.cells (smpsV A3).toArray 25 (0, 0)) :: l) w := h
  show Rn _ _ _ _ _ (upd _ _ (.tuple [.slice ea A3b.length ec, .bool true].toArray)) _
  refine r_v (q_moveT rfl) rfl ?_; refine r_v (q_ext rfl rfl) rfl ?_; refine r_v (q_ext rfl rfl) rfl ?_; refine r_v (q_assignS rfl) rfl ?_; refine r_v (q_assignB rfl) rfl ?_
  refine r_nil ?_
  refine c_seq (c_region ?_)
  refine r_v (q_moveS rfl) rfl ?_
  refine r_c rfl (x_call rfl (suit_Decode hT read_6 3 (by rw [A3_len]; decide) h.own_cases.2.1 Reads.own h) ?_)
  rw [A3_dec]
  rintro _ w ⟨da, dc, rfl, _, h⟩
  replace h : St w0 (OwnS da dc A3 :: OwnB ea ec A3b :: pt b (.cells (smpsV A3).toArray 25 (0, 0)) :: l) w := h
  show Rn _ _ _ _ _ (upd _ _ (.tuple [.slice da A3.length dc, .bool true].toArray)) _
  refine r_v (q_moveT rfl) rfl ?_; refine r_v (q_ext rfl rfl) rfl ?_; refine r_v (q_ext rfl rfl) rfl ?_; refine r_v (q_assignS rfl) rfl ?_; refine r_v (q_assignB rfl) rfl ?_
  refine r_nil ?_
  refine c_seq (c_region ?_)
  refine r_v (q_moveS rfl) rfl ?_
  refine r_c rfl (x_call rfl (suit_Best hT A3_wf (by decide) (hr [_, _]) h) ?_)
  rw [A3_best]
  rintro _ w ⟨ba, bc, rfl, h⟩
  replace h : St w0 (OwnB ba bc A3b :: OwnS da dc A3 :: OwnB ea ec A3b :: pt b (.cells (smpsV A3).toArray 25 (0, 0)) :: l) w := h
  show Rn _ _ _ _ _ (upd _ _ (.tuple [.int .i64 6, .slice ba A3b.length bc].toArray)) _
  refine r_v (q_moveT rfl) rfl ?_; refine r_v (q_ext rfl rfl) rfl ?_; refine r_v (q_ext rfl rfl) rfl ?_; refine r_v (q_assignI rfl) rfl ?_; refine r_v (q_assignS rfl) rfl ?_
  refine r_nil ?_
  refine c_seq (c_region ?_)
  refine r_v (q_build (r := (Smp.mk 1 0).cells) rfl) rfl ?_
  refine r_v (q_build (r := (Smp.mk 1 0).cells) rfl) rfl ?_
  refine r_c rfl (x_bslice (r := smpsV A2) h rfl rfl rfl fun b2 w h => ?_)
  refine r_c rfl (x_call rfl (suit_Encode (L := A2) hT 1 A2_wf (by decide) (Reads.pt (m := 0) rfl rfl) h) ?_)
  rw [show suitEnc 1 A2 = none from rfl]
  rintro _ w ⟨fa, fc, rfl, h⟩
  replace h := h.drop.drop
  show Rn _ _ _ _ _ (upd _ _ (.tuple [.slice fa 0 fc, .bool false].toArray)) _
  refine r_v (q_moveT rfl) rfl ?_; refine r_v (q_ext rfl rfl) rfl ?_; refine r_v (q_ext rfl rfl) rfl ?_; refine r_v (q_assignS rfl) rfl ?_; refine r_v (q_assignB rfl) rfl ?_
  refine r_nil ?_
  refine c_seq (c_region ?_)
  refine r_v (q_moveB rfl) rfl ?_; refine r_v (q_moveB rfl) rfl ?_; (first | refine r_gd rfl rfl ?_ | refine r_gn rfl rfl rfl ?_ | refine r_gu rfl rfl ?_ | refine r_gd rfl (by assumption) ?_ | refine r_gn rfl (by assumption) rfl ?_); refine r_v (q_moveS rfl) rfl ?_; (first | refine r_gd rfl rfl ?_ | refine r_gn rfl rfl rfl ?_ | refine r_gu rfl rfl ?_ | refine r_gd rfl (by assumption) ?_ | refine r_gn rfl (by assumption) rfl ?_); refine r_v (q_len rfl) rfl ?_; (first | refine r_gd rfl rfl ?_ | refine r_gn rfl rfl rfl ?_ | refine r_gu rfl rfl ?_ | refine r_gd rfl (by assumption) ?_ | refine r_gn rfl (by assumption) rfl ?_)
  refine r_v (q_is (v' := .bool true) (q_eql rfl rfl) (by rw [A3_len]; rfl)) rfl ?_
  (first | refine r_v (q_pick1 rfl rfl rfl) rfl ?_ | refine r_v (q_pick0 rfl rfl rfl) rfl ?_ | refine r_v (q_pick1 rfl (by assumption) rfl) rfl ?_ | refine r_v (q_pick0 rfl (by assumption) rfl) rfl ?_ | refine r_v (q_pickB rfl rfl rfl) rfl ?_); refine r_v (q_moveB rfl) rfl ?_; (first | refine r_gd rfl rfl ?_ | refine r_gn rfl rfl rfl ?_ | refine r_gu rfl rfl ?_ | refine r_gd rfl (by assumption) ?_ | refine r_gn rfl (by assumption) rfl ?_); refine r_v (q_moveB rfl) rfl ?_; (first | refine r_v (q_pick1 rfl rfl rfl) rfl ?_ | refine r_v (q_pick0 rfl rfl rfl) rfl ?_ | refine r_v (q_pick1 rfl (by assumption) rfl) rfl ?_ | refine r_v (q_pick0 rfl (by assumption) rfl) rfl ?_ | refine r_v (q_pickB rfl rfl rfl) rfl ?_); refine r_v (q_moveB rfl) rfl ?_; (first | refine r_gd rfl rfl ?_ | refine r_gn rfl rfl rfl ?_ | refine r_gu rfl rfl ?_ | refine r_gd rfl (by assumption) ?_ | refine r_gn rfl (by assumption) rfl ?_); refine r_v (q_moveS rfl) rfl ?_; (first | refine r_gd rfl rfl ?_ | refine r_gn rfl rfl rfl ?_ | refine r_gu rfl rfl ?_ | refine r_gd rfl (by assumption) ?_ | refine r_gn rfl (by assumption) rfl ?_); refine r_v (q_moveS rfl) rfl ?_; (first | refine r_gd rfl rfl ?_ | refine r_gn rfl rfl rfl ?_ | refine r_gu rfl rfl ?_ | refine r_gd rfl (by assumption) ?_ | refine r_gn rfl (by assumption) rfl ?_)
  refine r_c rfl (x_call rfl (ref10_Same (L1 := A3) (L2 := A3) h (fun w' h' => (h'.f 1).own_rd) ((hr [_, _, _]).rd) (by decide)) ?_)
  rintro _ w ⟨rfl, h⟩
  rw [show decide (A3 = A3) = true by simp]
  (first | refine r_v (q_pick1 rfl rfl rfl) rfl ?_ | refine r_v (q_pick0 rfl rfl rfl) rfl ?_ | refine r_v (q_pick1 rfl (by assumption) rfl) rfl ?_ | refine r_v (q_pick0 rfl (by assumption) rfl) rfl ?_ | refine r_v (q_pickB rfl rfl rfl) rfl ?_); refine r_v (q_moveB rfl) rfl ?_; (first | refine r_gd rfl rfl ?_ | refine r_gn rfl rfl rfl ?_ | refine r_gu rfl rfl ?_ | refine r_gd rfl (by assumption) ?_ | refine r_gn rfl (by assumption) rfl ?_); refine r_v (q_moveI rfl) rfl ?_; (first | refine r_gd rfl rfl ?_ | refine r_gn rfl rfl rfl ?_ | refine r_gu rfl rfl ?_ | refine r_gd rfl (by assumption) ?_ | refine r_gn rfl (by assumption) rfl ?_); refine r_v (q_eql rfl rfl) rfl ?_; (first | refine r_v (q_pick1 rfl rfl rfl) rfl ?_ | refine r_v (q_pick0 rfl rfl rfl) rfl ?_ | refine r_v (q_pick1 rfl (by assumption) rfl) rfl ?_ | refine r_v (q_pick0 rfl (by assumption) rfl) rfl ?_ | refine r_v (q_pickB rfl rfl rfl) rfl ?_); refine r_v (q_moveB rfl) rfl ?_; (first | refine r_gd rfl rfl ?_ | refine r_gn rfl rfl rfl ?_ | refine r_gu rfl rfl ?_ | refine r_gd rfl (by assumption) ?_ | refine r_gn rfl (by assumption) rfl ?_); refine r_v (q_moveS rfl) rfl ?_; (first | refine r_gd rfl rfl ?_ | refine r_gn rfl rfl rfl ?_ | refine r_gu rfl rfl ?_ | refine r_gd rfl (by assumption) ?_ | refine r_gn rfl (by assumption) rfl ?_)
  refine r_v (q_btos (bs := A3b) rfl h.own_rd) rfl ?_
  (first | refine r_gd rfl rfl ?_ | refine r_gn rfl rfl rfl ?_ | refine r_gu rfl rfl ?_ | refine r_gd rfl (by assumption) ?_ | refine r_gn rfl (by assumption) rfl ?_); refine r_v (q_moveS rfl) rfl ?_; (first | refine r_gd rfl rfl ?_ | refine r_gn rfl rfl rfl ?_ | refine r_gu rfl rfl ?_ | refine r_gd rfl (by assumption) ?_ | refine r_gn rfl (by assumption) rfl ?_)
  refine r_v (q_btos (bs := A3b) rfl (h.f 2).own_rd) rfl ?_
  (first | refine r_gd rfl rfl ?_ | refine r_gn rfl rfl rfl ?_ | refine r_gu rfl rfl ?_ | refine r_gd rfl (by assumption) ?_ | refine r_gn rfl (by assumption) rfl ?_); refine r_v (q_streq rfl rfl) rfl ?_
  rw [show ((strB A3b).data.toList == (strB A3b).data.toList) = true by simp]
  (first | refine r_v (q_pick1 rfl rfl rfl) rfl ?_ | refine r_v (q_pick0 rfl rfl rfl) rfl ?_ | refine r_v (q_pick1 rfl (by assumption) rfl) rfl ?_ | refine r_v (q_pick0 rfl (by assumption) rfl) rfl ?_ | refine r_v (q_pickB rfl rfl rfl) rfl ?_); refine r_v (q_moveB rfl) rfl ?_; (first | refine r_gd rfl rfl ?_ | refine r_gn rfl rfl rfl ?_ | refine r_gu rfl rfl ?_ | refine r_gd rfl (by assumption) ?_ | refine r_gn rfl (by assumption) rfl ?_); refine r_v (q_moveB rfl) rfl ?_; (first | refine r_gd rfl rfl ?_ | refine r_gn rfl rfl rfl ?_ | refine r_gu rfl rfl ?_ | refine r_gd rfl (by assumption) ?_ | refine r_gn rfl (by assumption) rfl ?_); refine r_v (q_not rfl) rfl ?_; (first | refine r_v (q_pick1 rfl rfl rfl) rfl ?_ | refine r_v (q_pick0 rfl rfl rfl) rfl ?_ | refine r_v (q_pick1 rfl (by assumption) rfl) rfl ?_ | refine r_v (q_pick0 rfl (by assumption) rfl) rfl ?_ | refine r_v (q_pickB rfl rfl rfl) rfl ?_); refine r_v (q_moveB rfl) rfl ?_; (first | refine r_gd rfl rfl ?_ | refine r_gn rfl rfl rfl ?_ | refine r_gu rfl rfl ?_ | refine r_gd rfl (by assumption) ?_ | refine r_gn rfl (by assumption) rfl ?_)
  refine r_c rfl (x_call rfl (suit_Rising (L := []) (by decide) Reads.nil h) ?_)
  rintro _ w ⟨rfl, h⟩
  (first | refine r_v (q_pick1 rfl rfl rfl) rfl ?_ | refine r_v (q_pick0 rfl rfl rfl) rfl ?_ | refine r_v (q_pick1 rfl (by assumption) rfl) rfl ?_ | refine r_v (q_pick0 rfl (by assumption) rfl) rfl ?_ | refine r_v (q_pickB rfl rfl rfl) rfl ?_); refine r_v (q_moveB rfl) rfl ?_; (first | refine r_gd rfl rfl ?_ | refine r_gn rfl rfl rfl ?_ | refine r_gu rfl rfl ?_ | refine r_gd rfl (by assumption) ?_ | refine r_gn rfl (by assumption) rfl ?_)
  refine r_v (q_build (r := (Smp.mk 1 0).cells) rfl) rfl ?_
  refine r_gd rfl rfl ?_
  refine r_v (q_build (r := (Smp.mk 0 0).cells) rfl) rfl ?_
  refine r_gd rfl rfl ?_
  refine r_c rfl (x_bslice (r := smpsV [⟨1, 0⟩, ⟨0, 0⟩]) h rfl rfl rfl fun b3 w h => ?_)
  refine r_gd rfl rfl ?_
  refine r_c rfl (x_call rfl (suit_Rising (L := [⟨1, 0⟩, ⟨0, 0⟩]) (by decide) (Reads.pt (m := 0) rfl rfl) h) ?_)
  rintro _ w ⟨rfl, h⟩
  rw [show rising [⟨1, 0⟩, ⟨0, 0⟩] = false from rfl]
  (first | refine r_gd rfl rfl ?_ | refine r_gn rfl rfl rfl ?_ | refine r_gu rfl rfl ?_ | refine r_gd rfl (by assumption) ?_ | refine r_gn rfl (by assumption) rfl ?_); refine r_v (q_not rfl) rfl ?_; (first | refine r_v (q_pick1 rfl rfl rfl) rfl ?_ | refine r_v (q_pick0 rfl rfl rfl) rfl ?_ | refine r_v (q_pick1 rfl (by assumption) rfl) rfl ?_ | refine r_v (q_pick0 rfl (by assumption) rfl) rfl ?_ | refine r_v (q_pickB rfl rfl rfl) rfl ?_); refine r_v (q_assignB rfl) rfl ?_
  refine r_nil ?_
  exact c_ret (bq1 ⟨rfl, h.drop.drop.drop.drop.drop⟩)
end
end Go.Proofs.YtjjacchnalemaaaDoor
