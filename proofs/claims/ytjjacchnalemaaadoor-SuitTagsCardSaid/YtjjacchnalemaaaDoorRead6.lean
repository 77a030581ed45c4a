/- suit.read: one value. -/
import Derived.Test.YtjjacchnalemaaaDoorDec
namespace Go.Proofs.YtjjacchnalemaaaDoor
open Go.Hw
set_option maxHeartbeats 4000000
set_option maxRecDepth 100000
theorem read_6 : ReadOk 6 := by
  intro w0 w l sl c bs n hT hr hn hc hn16 h
  have hx := vget_lt bs
  have hdef : valuesDec 6 bs n = some (List.replicate n (vget bs).1) := rfl
  refine enter Tryd.func49 rfl Tryd.results49 Tryd.ntmps49 rfl ?_
  refine c_seq (c_region ?_)
  refine r_v (q_assignS rfl) rfl ?_; refine r_v (q_assignB rfl) rfl ?_
  refine r_nil ?_
  refine c_seq (c_seq (c_region ?_))
  refine r_v (q_moveI rfl) rfl ?_
  refine r_nil ?_
  refine c_block ?_
  refine c_seq (c_region ?_)
  refine r_v (q_eql rfl rfl) rfl ?_; refine r_v (q_assignB rfl) rfl ?_
  refine r_nil (c_false rfl ?_)
  refine c_seq (c_region ?_)
  refine r_v (q_eql rfl rfl) rfl ?_; refine r_v (q_assignB rfl) rfl ?_
  refine r_nil (c_false rfl ?_)
  refine c_seq (c_region ?_)
  refine r_v (q_eql rfl rfl) rfl ?_; refine r_v (q_assignB rfl) rfl ?_
  refine r_nil (c_false rfl ?_)
  refine c_seq (c_region ?_)
  refine r_v (q_eql rfl rfl) rfl ?_; refine r_v (q_assignB rfl) rfl ?_
  refine r_nil (c_false rfl ?_)
  refine c_seq (c_region ?_)
  refine r_v (q_eql rfl rfl) rfl ?_; refine r_v (q_assignB rfl) rfl ?_
  refine r_nil (c_false rfl ?_)
  refine c_seq (c_region ?_)
  refine r_v (q_eql rfl rfl) rfl ?_; refine r_v (q_assignB rfl) rfl ?_
  refine r_nil (c_true rfl ?_)
  refine c_seq (c_region ?_)
  refine r_v (q_moveS rfl) rfl ?_
  refine r_c rfl (x_call rfl (vint_Get h hr.rd hn) ?_)
  rintro _ w ⟨rfl, h⟩
  refine r_v (q_moveT rfl) rfl ?_; refine r_v (q_ext rfl rfl) rfl ?_; refine r_v (q_ext rfl rfl) rfl ?_; refine r_v (q_assignI rfl) rfl ?_; refine r_v (q_assignI rfl) rfl ?_
  refine r_nil ?_
  generalize (vget bs).1 = x at hx hdef ⊢
  refine c_seq (c_region ?_)
  refine r_v (q_assignS rfl) rfl ?_
  refine r_nil ?_
  refine c_seq (c_seq (c_region ?_))
  refine r_v (q_moveI rfl) rfl ?_; refine r_v (q_moveI rfl) rfl ?_
  refine r_nil ?_
  refine c_block ?_
  refine c_loop (Γ := Nat × Option Addr × Nat) (fun k => [(12, .int .u64 x), (14, .slice k.2.1 (List.replicate k.1 x).length k.2.2), (71, .int .i64 n), (72, .int .i64 k.1)]) (fun k w => k.1 ≤ n ∧ St w0 (OwnU k.2.1 k.2.2 (List.replicate k.1 x) :: l) w) (fun k => n - k.1) (0, none, 0) ⟨rfl, rfl, rfl, rfl, trivial⟩ ⟨Nat.zero_le _, St.ownNil _ _ h⟩ ?_
  clear h
  rintro ⟨i, a, c1⟩ w e ⟨hi, h⟩
  dsimp only at hi h ⊢
  refine c_seq (c_region ?_)
  refine r_v (q_lss rfl rfl) rfl ?_
  refine r_nil ?_
  refine c_seq (c_cond (decide ((i : Int) < (n : Int))) rfl (fun hc1 => ?_) (fun hc1 => ?_))
  ·
    have hlt : i < n := by simp at hc1; omega
    have hstep : List.replicate (i + 1) x = List.replicate i x ++ [x] := List.replicate_succ'
    refine c_skip ?_
    refine c_cut (Γ := Option Addr × Nat) (fun q => [(12, .int .u64 x), (14, .slice q.1 (List.replicate (i + 1) x).length q.2), (71, .int .i64 n), (72, .int .i64 i)]) (fun q w => St w0 (OwnU q.1 q.2 (List.replicate (i + 1) x) :: l) w) ?_ ?_
    · refine c_block ?_
      refine c_region ?_
      refine r_v (q_moveS rfl) rfl ?_; refine r_v (q_moveI rfl) rfl ?_
      refine r_c rfl (x_bslice (r := u64V [x]) h rfl rfl rfl fun b2 w h => ?_)
      refine r_c rfl (x_append' (ys := u64V [x]) (zs := u64V (List.replicate (i + 1) x)) (m3 := (List.replicate (i + 1) x).length) (h.f 1) rfl rfl ⟨rfl, .inr ⟨b2, 0, rfl, at_of (h.b 0 rfl) rfl⟩⟩ (u64V_one _) (by simp) (by rw [hstep]; simp [u64V]) (by simp; omega) (by simp; omega) rfl fun a2 c2 w _ h => ?_)
      refine r_v (q_assignS rfl) rfl ?_
      exact r_nil ⟨(a2, c2), ⟨rfl, rfl, rfl, rfl, trivial⟩, (h.f 1).drop⟩
    clear h
    rintro ⟨a, c1⟩ w e h
    dsimp only at h ⊢
    refine c_region ?_
    refine r_v (q_add rfl rfl) rfl ?_
    refine r_is (.int .i64 ((i + 1 : Nat) : Int)) (by rw [wrap64 (by omega) (by omega)]; rfl) ?_
    refine r_v (q_moveI rfl) rfl ?_
    exact r_nil ⟨(i + 1, a, c1), ⟨rfl, rfl, rfl, rfl, trivial⟩, ⟨hlt, h⟩, by dsimp only; omega⟩
  have hin : i = n := by simp at hc1; omega
  refine c_exit ?_
  refine c_seq (c_region ?_)
  refine r_v (q_moveS rfl) rfl ?_; refine r_v (q_assignS rfl) rfl ?_; refine r_v (q_assignB rfl) rfl ?_
  refine r_nil ?_
  refine c_ret (bq2 ⟨a, c1, List.replicate i x, true, rfl, ?_, fun _ => ⟨by simp [hin], fun y hy => ?_⟩, h⟩)
  · rw [if_pos rfl, hin]; exact hdef
  · rw [(List.mem_replicate.1 hy).2]; exact hx
end Go.Proofs.YtjjacchnalemaaaDoor
