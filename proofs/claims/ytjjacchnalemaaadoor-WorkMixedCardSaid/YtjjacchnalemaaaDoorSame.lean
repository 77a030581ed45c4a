/- ref10.Same: whether two rows of samples are the same. -/
import Derived.Test.YtjjacchnalemaaaDoorTy
import Derived.Test.YtjjacchnalemaaaDoorHe
import Derived.KernelRfl
namespace Go.Proofs.YtjjacchnalemaaaDoor
open Go.Hw
set_option maxHeartbeats 4000000
instance eqiSmp : EqI Tryd.prog 25 [.i64, .u64] := ⟨⟨_, Tryd.underlying25, by kernel_rfl⟩, by kernel_rfl, by kernel_rfl⟩

section
variable {w0 w : World} {l : List HProp}
theorem ref10_Same {a1 a2 : Option Addr} {n1 n2 c1 c2 : Nat} {L1 L2 : List Smp} (h : St w0 l w) (hr1 : ∀ w', St w0 l w' → Rd w' 2 a1 n1 (smpsV L1)) (hr2 : ∀ w', St w0 l w' → Rd w' 2 a2 n2 (smpsV L2)) (hn : n1 < 9223372036854775807) :
    Ret Tryd.prog 19 [.slice a1 n1 c1, .slice a2 n2 c2] w fun v w' => v = .bool (decide (L1 = L2)) ∧ St w0 l w' := by
  have hl1 : L1.length = n1 := (hr1 w h).count smp_len (by decide)
  have hl2 : L2.length = n2 := (hr2 w h).count smp_len (by decide)
  refine enter Tryd.func19 rfl Tryd.results19 Tryd.ntmps19 rfl ?_
  refine c_seq (c_region ?_)
  refine r_v (q_assignB rfl) rfl ?_
  refine r_nil ?_
  refine c_seq (c_seq (c_region ?_))
  refine r_v (q_moveS rfl) rfl ?_; refine r_v (q_len rfl) rfl ?_; refine r_v (q_moveS rfl) rfl ?_; refine r_v (q_len rfl) rfl ?_; refine r_v (q_neq rfl rfl) rfl ?_
  refine r_nil ?_
  refine c_cond _ rfl (fun hc => ?_) (fun hc => ?_)
  ·
    refine c_seq (c_region ?_)
    refine r_v (q_assignB rfl) rfl ?_
    refine r_nil ?_
    refine c_ret (bq1 ⟨?_, h⟩)
    have : L1 ≠ L2 := by
      rintro rfl
      simp at hc
      omega
    show Value.bool false = _
    rw [decide_eq_false this]
  have hnn : n1 = n2 := by simp at hc; omega
  subst hnn
  refine c_skip ?_
  refine c_seq (c_seq (c_region ?_))
  refine r_v (q_assignI rfl) rfl ?_
  refine r_nil ?_
  refine c_block ?_
  refine c_loop (Γ := Nat) (fun k => [(0, .slice a1 n1 c1), (1, .slice a2 n1 c2), (5, .int .i64 k)]) (fun k w => k ≤ n1 ∧ L1.take k = L2.take k ∧ St w0 l w) (fun k => n1 - k) 0 ⟨rfl, rfl, rfl, trivial⟩ ⟨Nat.zero_le _, by simp, h⟩ ?_
  clear h
  rintro k w e ⟨hk, hpre, h⟩
  refine c_seq (c_seq (c_region ?_))
  refine r_v (q_moveI rfl) rfl ?_; refine r_v (q_moveS rfl) rfl ?_; refine r_v (q_len rfl) rfl ?_; refine r_v (q_lss rfl rfl) rfl ?_
  refine r_nil ?_
  refine c_cond (decide ((k : Int) < (n1 : Int))) rfl (fun hc => ?_) (fun hc => ?_)
  ·
    have hkn : k < n1 := by simp at hc; omega
    obtain ⟨b1, o1, rfl⟩ := (hr1 w h).some (by omega)
    obtain ⟨b2, o2, rfl⟩ := (hr2 w h).some (by omega)
    have hg1 := List.getElem?_eq_getElem (show k < L1.length by omega)
    have hg2 := List.getElem?_eq_getElem (show k < L2.length by omega)
    generalize L1[k] = s1 at hg1
    generalize L2[k] = s2 at hg2
    refine c_skip ?_
    refine c_seq (c_block ?_)
    refine c_seq (c_any none (fun w => St w0 _ w) (by kernel_rfl) (by kernel_rfl) h.drew fun w h => ?_)
    refine cur_pure rfl rfl rfl rfl (fun _ => h) (fun _ => flt_v rfl (q_moveS rfl)) ?_; refine cur_pure rfl rfl rfl rfl (fun _ => h) (fun _ => flt_v rfl (q_moveI rfl)) ?_
    refine cur_pure rfl rfl rfl rfl (fun _ => h) (fun _ => flt_v rfl (q_idx rfl rfl rfl hkn rfl)) ?_
    refine cur_float rfl rfl rfl rfl h (fun w h => flt_v rfl (q_loadS (l := s1.cells) rfl rfl ((hr1 w h).elem smp_len hg1))) ?_
    refine cur_pure rfl rfl rfl rfl (fun _ => h) (fun _ => flt_v rfl (q_moveS rfl)) ?_; refine cur_pure rfl rfl rfl rfl (fun _ => h) (fun _ => flt_v rfl (q_moveI rfl)) ?_
    refine cur_pure rfl rfl rfl rfl (fun _ => h) (fun _ => flt_v rfl (q_idx rfl rfl rfl hkn rfl)) ?_
    refine cur_float rfl rfl rfl rfl h (fun w h => flt_v rfl (q_loadS (l := s2.cells) rfl rfl ((hr2 w h).elem smp_len hg2))) ?_
    refine cur_pure rfl rfl rfl rfl (fun _ => h) (fun _ => flt_v rfl (q_neI [s1.T, s1.V] [s2.T, s2.V] rfl rfl rfl rfl)) ?_
    refine cur_end ?_
    refine c_cond _ rfl (fun hc => ?_) (fun hc => ?_)
    ·
      refine c_seq (c_region ?_)
      refine r_v (q_assignB rfl) rfl ?_
      refine r_nil ?_
      refine c_ret (bq1 ⟨?_, h⟩)
      have : L1 ≠ L2 := by
        rintro rfl
        rw [hg1] at hg2
        cases hg2
        simp at hc
      show Value.bool false = _
      rw [decide_eq_false this]
    · have hss : s1 = s2 := by
        obtain ⟨T1, V1⟩ := s1
        obtain ⟨T2, V2⟩ := s2
        simp at hc
        simp [hc.1, hc.2]
      subst hss
      refine c_skip ?_
      refine c_region ?_
      refine r_v (q_moveI rfl) rfl ?_; refine r_v (q_add rfl rfl) rfl ?_
      refine r_is (.int .i64 ((k + 1 : Nat) : Int)) (by rw [wrap64 (by omega) (by omega)]; rfl) ?_
      refine r_v (q_assignI rfl) rfl ?_
      refine r_nil ⟨k + 1, ⟨rfl, rfl, rfl, trivial⟩, ⟨by omega, ?_, h⟩, by omega⟩
      rw [List.take_add_one, List.take_add_one, hpre, hg1, hg2]
  have hkn : k = n1 := by simp at hc; omega
  subst hkn
  refine c_exit ?_
  refine c_seq (c_region ?_)
  refine r_v (q_assignB rfl) rfl ?_
  refine r_nil ?_
  refine c_ret (bq1 ⟨?_, h⟩)
  have : L1 = L2 := by
    rw [List.take_of_length_le (by omega), List.take_of_length_le (by omega)] at hpre
    exact hpre
  show Value.bool true = _
  rw [decide_eq_true this]
end
end Go.Proofs.YtjjacchnalemaaaDoor
