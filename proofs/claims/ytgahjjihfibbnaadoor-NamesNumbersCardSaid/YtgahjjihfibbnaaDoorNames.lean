/- Layer 0: the walk of 'NamesNumbers'. -/
import Derived.Test.YtgahjjihfibbnaaDoorBits
import Derived.Test.YtgahjjihfibbnaaDoorHe
namespace Go.Proofs.YtgahjjihfibbnaaDoor
open Go.Hw
set_option maxHeartbeats 4000000
set_option maxRecDepth 100000
section
variable {w0 w : World} {l : List HProp}
def nine : ByteArray := ⟨#[57]⟩
theorem small_nine (h : St w0 l w) : Ret Tryd.prog 13 [.int .i64 9] w fun v w' => v = .string nine ∧ St w0 l w' := by
  refine enter Tryd.func13 rfl Tryd.results13 Tryd.ntmps13 rfl ?_
  refine c_seq (c_region ?_)
  refine r_v (q_assignZ rfl) rfl ?_
  refine r_nil ?_
  refine c_seq (c_seq (c_region ?_))
  refine r_v (q_moveI rfl) rfl ?_; refine r_v (q_lss rfl rfl) rfl ?_
  refine r_nil ?_
  refine c_true rfl ?_
  refine c_seq (c_region ?_)
  refine r_v (q_moveI rfl) rfl ?_; refine r_v (q_moveI rfl) rfl ?_; refine r_v (q_add rfl rfl) rfl ?_
  refine r_is (.int .i64 10) rfl ?_
  refine r_v (q_substr (s' := nine) rfl rfl rfl (by decide) (by decide) (by decide) (by kernel_rfl)) rfl ?_
  refine r_v (q_assignZ rfl) rfl ?_
  refine r_nil ?_
  exact c_ret (bq1 ⟨rfl, h⟩)
theorem formatInt_nine (h : St w0 l w) : Ret Tryd.prog 12 [.int .i64 9, .int .i64 10] w fun v w' => v = .string nine ∧ St w0 l w' := by
  refine enter Tryd.func12 rfl Tryd.results12 Tryd.ntmps12 rfl ?_
  refine c_seq (c_region ?_)
  refine r_v (q_assignZ rfl) rfl ?_
  refine r_nil ?_
  refine c_seq (c_seq (c_region ?_))
  refine r_v (q_moveI rfl) rfl ?_; refine r_v (q_eql rfl rfl) rfl ?_
  refine r_nil ?_
  refine c_true rfl ?_
  refine c_seq (c_seq (c_region ?_))
  refine r_v (q_moveI rfl) rfl ?_; refine r_v (q_leq rfl rfl) rfl ?_; refine r_v (q_moveB rfl) rfl ?_; (first | refine r_gd rfl rfl ?_ | refine r_gn rfl rfl rfl ?_ | refine r_gu rfl rfl ?_ | refine r_gd rfl (by assumption) ?_ | refine r_gn rfl (by assumption) rfl ?_); refine r_v (q_moveI rfl) rfl ?_; (first | refine r_gd rfl rfl ?_ | refine r_gn rfl rfl rfl ?_ | refine r_gu rfl rfl ?_ | refine r_gd rfl (by assumption) ?_ | refine r_gn rfl (by assumption) rfl ?_); refine r_v (q_lss rfl rfl) rfl ?_; (first | refine r_v (q_pick1 rfl rfl rfl) rfl ?_ | refine r_v (q_pick0 rfl rfl rfl) rfl ?_ | refine r_v (q_pick1 rfl (by assumption) rfl) rfl ?_ | refine r_v (q_pick0 rfl (by assumption) rfl) rfl ?_ | refine r_v (q_pickB rfl rfl rfl) rfl ?_)
  refine r_nil ?_
  refine c_true rfl ?_
  refine c_seq (c_region ?_)
  refine r_v (q_moveI rfl) rfl ?_
  refine r_c rfl (x_call rfl (small_nine h) ?_)
  rintro _ w ⟨rfl, h⟩
  refine r_v (q_assignZ rfl) rfl ?_
  refine r_nil ?_
  exact c_ret (bq1 ⟨rfl, h⟩)
theorem itoaI_nine (h : St w0 l w) : Ret Tryd.prog 11 [.int .i64 9] w fun v w' => v = .string nine ∧ St w0 l w' := by
  refine enter Tryd.func11 rfl Tryd.results11 Tryd.ntmps11 rfl ?_
  refine c_seq (c_region ?_)
  refine r_v (q_assignZ rfl) rfl ?_
  refine r_nil ?_
  refine c_seq (c_region ?_)
  refine r_v (q_moveI rfl) rfl ?_
  refine r_c rfl (x_call rfl (formatInt_nine h) ?_)
  rintro _ w ⟨rfl, h⟩
  refine r_v (q_assignZ rfl) rfl ?_
  refine r_nil ?_
  exact c_ret (bq1 ⟨rfl, h⟩)
theorem itoa_nine (h : St w0 l w) : Ret Tryd.prog 10 [.int .i64 9] w fun v w' => v = .string nine ∧ St w0 l w' := by
  refine enter Tryd.func10 rfl Tryd.results10 Tryd.ntmps10 rfl ?_
  refine c_seq (c_region ?_)
  refine r_v (q_assignZ rfl) rfl ?_
  refine r_nil ?_
  refine c_seq (c_region ?_)
  refine r_v (q_moveI rfl) rfl ?_
  refine r_c rfl (x_call rfl (itoaI_nine h) ?_)
  rintro _ w ⟨rfl, h⟩
  refine r_v (q_assignZ rfl) rfl ?_
  refine r_nil ?_
  exact c_ret (bq1 ⟨rfl, h⟩)
def errNine : ByteArray := ⟨#[101, 114, 114, 111, 114, 32, 57]⟩
theorem error_nine (h : St w0 l w) : Ret Tryd.prog 7 [.int .i64 9] w fun v w' => v = .string errNine ∧ St w0 l w' := by
  refine enter Tryd.func7 rfl Tryd.results7 Tryd.ntmps7 rfl ?_
  refine c_seq (c_region ?_)
  refine r_v (q_assignZ rfl) rfl ?_
  refine r_nil ?_
  refine c_seq (c_region ?_)
  refine r_v (q_moveI rfl) rfl ?_
  refine r_c rfl (x_call rfl (itoa_nine h) ?_)
  rintro _ w ⟨rfl, h⟩
  refine r_v (q_cat rfl rfl (by decide)) rfl ?_
  refine r_is (.string errNine) (by kernel_rfl) ?_
  refine r_v (q_assignZ rfl) rfl ?_
  refine r_nil ?_
  exact c_ret (bq1 ⟨rfl, h⟩)
def nums : List Int := [0, 1, 2, 3, 4, 5, 6, 7, 8, 9, 0, 1, 2, 3, 1, 2, 3, 4, 5, 6, 1, 2, 3, 1, 2, 3, 4, 5, 6, 7, 1, 2]
def pairC (n : Int) : List Value := [.int .i64 n, .int .i64 n]
theorem pairC_len (n : Int) : (pairC n).length = 2 := rfl
theorem names_all (h : St w0 l w) : Ret Tryd.prog 4 [] w fun v w' => ∃ b, v = .slice (some ⟨b, 0, none⟩) 32 32 ∧ St w0 (pt b (.cells (nums.flatMap pairC).toArray 25 (0, 0)) :: l) w' := by
  refine enter Tryd.func4 rfl Tryd.results4 Tryd.ntmps4 rfl ?_
  refine c_seq (c_region ?_)
  refine r_v (q_assignS rfl) rfl ?_
  refine r_nil ?_
  refine c_seq (c_region ?_)
  refine r_v (q_build rfl) rfl ?_; refine r_v (q_build rfl) rfl ?_; refine r_v (q_build rfl) rfl ?_; refine r_v (q_build rfl) rfl ?_; refine r_v (q_build rfl) rfl ?_; refine r_v (q_build rfl) rfl ?_; refine r_v (q_build rfl) rfl ?_; refine r_v (q_build rfl) rfl ?_; refine r_v (q_build rfl) rfl ?_; refine r_v (q_build rfl) rfl ?_; refine r_v (q_build rfl) rfl ?_; refine r_v (q_build rfl) rfl ?_; refine r_v (q_build rfl) rfl ?_; refine r_v (q_build rfl) rfl ?_; refine r_v (q_build rfl) rfl ?_; refine r_v (q_build rfl) rfl ?_; refine r_v (q_build rfl) rfl ?_; refine r_v (q_build rfl) rfl ?_; refine r_v (q_build rfl) rfl ?_; refine r_v (q_build rfl) rfl ?_; refine r_v (q_build rfl) rfl ?_; refine r_v (q_build rfl) rfl ?_; refine r_v (q_build rfl) rfl ?_; refine r_v (q_build rfl) rfl ?_; refine r_v (q_build rfl) rfl ?_; refine r_v (q_build rfl) rfl ?_; refine r_v (q_build rfl) rfl ?_; refine r_v (q_build rfl) rfl ?_; refine r_v (q_build rfl) rfl ?_; refine r_v (q_build rfl) rfl ?_; refine r_v (q_build rfl) rfl ?_; refine r_v (q_build rfl) rfl ?_
  refine r_c rfl (x_bslice (r := nums.flatMap pairC) h rfl rfl rfl fun b w h => ?_)
  refine r_v (q_assignS rfl) rfl ?_
  refine r_nil ?_
  exact c_ret (bq1 ⟨b, rfl, h⟩)
theorem law0_NamesNumbers : Ret Tryd.prog 3 [] w fun v w' => v = .bool true ∧ St w [] w' := by
  have h := St.init w
  generalize hw0 : w = w0 at h
  clear hw0
  refine enter Tryd.func3 rfl Tryd.results3 Tryd.ntmps3 rfl ?_
  refine c_seq (c_region ?_)
  refine r_v (q_assignB rfl) rfl ?_
  refine r_nil ?_
  refine c_seq (c_region ?_)
  refine r_c rfl (x_call rfl (names_all h) ?_)
  rintro _ w ⟨b, rfl, h⟩
  refine r_v (q_assignS rfl) rfl ?_
  refine r_nil ?_
  refine c_seq (c_seq (c_region ?_))
  refine r_v (q_assignI rfl) rfl ?_
  refine r_nil ?_
  refine c_block ?_
  refine c_loop (Γ := Nat) (fun k => [(1, .slice (some ⟨b, 0, none⟩) 32 32), (2, .int .i64 k)]) (fun k w => k ≤ 32 ∧ St w0 [pt b (.cells (nums.flatMap pairC).toArray 25 (0, 0))] w) (fun k => 32 - k) 0 ⟨rfl, rfl, trivial⟩ ⟨Nat.zero_le _, h⟩ ?_
  clear h
  rintro k w e ⟨hk, h⟩
  refine c_seq (c_seq (c_region ?_))
  refine r_v (q_moveI rfl) rfl ?_; refine r_v (q_moveS rfl) rfl ?_; refine r_v (q_len rfl) rfl ?_; refine r_v (q_lss rfl rfl) rfl ?_
  refine r_nil ?_
  refine c_cond _ rfl (fun hc => ?_) (fun hc => ?_)
  · have hlt : k < 32 := by simp at hc; omega
    have hg := List.getElem?_eq_getElem (show k < nums.length from hlt)
    generalize nums[k]'hlt = n at hg
    have hat : ∀ {l w'}, St w0 (pt b (.cells (nums.flatMap pairC).toArray 25 (0, 0)) :: l) w' → ∀ j, j < 2 → w'.cell? ⟨b, k * 2 + j, none⟩ = some (.int .i64 n) := by
      intro l w' h j hj
      refine cell_of (h.b 0 rfl) (flat_get pairC_len nums k n hg j _ ?_)
      rcases (by omega : j = 0 ∨ j = 1) with rfl | rfl <;> rfl
    refine c_skip ?_
    refine c_seq (c_block ?_)
    refine c_seq (c_any none (fun w => St w0 _ w) (by kernel_rfl) (by kernel_rfl) h.drew fun w h => ?_)
    refine cur_pure rfl rfl rfl rfl (fun _ => h) (fun _ => flt_v rfl (q_moveS rfl)) ?_; refine cur_pure rfl rfl rfl rfl (fun _ => h) (fun _ => flt_v rfl (q_moveI rfl)) ?_
    refine cur_pure rfl rfl rfl rfl (fun _ => h) (fun _ => flt_v rfl (q_idx (o' := k * 2) rfl rfl rfl hlt (by simp))) ?_
    refine cur_pure rfl rfl rfl rfl (fun _ => h) (fun _ => flt_v rfl (q_fa rfl)) ?_
    refine cur_float rfl rfl rfl rfl h (fun w h => flt_v rfl (q_loadc (v := .int .i64 n) rfl (hat h 0 (by decide)))) ?_
    refine cur_pure rfl rfl rfl rfl (fun _ => h) (fun _ => flt_v rfl (q_moveS rfl)) ?_; refine cur_pure rfl rfl rfl rfl (fun _ => h) (fun _ => flt_v rfl (q_moveI rfl)) ?_
    refine cur_pure rfl rfl rfl rfl (fun _ => h) (fun _ => flt_v rfl (q_idx (o' := k * 2) rfl rfl rfl hlt (by simp))) ?_
    refine cur_pure rfl rfl rfl rfl (fun _ => h) (fun _ => flt_v rfl (q_fa rfl)) ?_
    refine cur_float rfl rfl rfl rfl h (fun w h => flt_v rfl (q_loadc (v := .int .i64 n) rfl (hat h 1 (by decide)))) ?_
    refine cur_pure rfl rfl rfl rfl (fun _ => h) (fun _ => flt_v rfl (q_neqs rfl rfl)) ?_
    refine cur_end (c_false rfl (c_skip ?_))
    refine c_region ?_
    refine r_v (q_moveI rfl) rfl ?_; refine r_v (q_add rfl rfl) rfl ?_
    refine r_is (.int .i64 ((k + 1 : Nat) : Int)) (by rw [wrap64 (by omega) (by omega)]; rfl) ?_
    refine r_v (q_assignI rfl) rfl ?_
    exact r_nil ⟨k + 1, ⟨rfl, rfl, trivial⟩, ⟨by omega, h⟩, by omega⟩
  refine c_exit ?_
  replace h := h.drop
  refine c_seq (c_region ?_)
  refine r_c rfl (x_call rfl (bits_NewWriter h) ?_)
  rintro _ w ⟨p, rfl, h⟩
  refine r_v (q_assignP rfl) rfl ?_
  refine r_nil ?_
  refine c_seq (c_seq (c_region ?_))
  refine r_v (q_moveP rfl) rfl ?_; refine r_v (q_eqnil rfl rfl) rfl ?_
  refine r_nil ?_
  refine c_false rfl (c_skip ?_)
  refine c_seq (c_region ?_)
  refine r_v (q_moveP rfl) rfl ?_
  refine r_c rfl (x_call rfl (bits_Put 5 3 (by decide) (by decide) h) ?_)
  rintro _ w ⟨rfl, h⟩
  refine r_nil ?_
  refine c_seq (c_region ?_)
  refine r_c rfl (x_call rfl (error_nine h) ?_)
  rintro _ w ⟨rfl, h⟩
  refine r_v (q_streq rfl rfl) rfl ?_
  refine r_is (.bool true) (by kernel_rfl) ?_
  refine r_v (q_moveB rfl) rfl ?_; (first | refine r_gd rfl rfl ?_ | refine r_gn rfl rfl rfl ?_ | refine r_gu rfl rfl ?_ | refine r_gd rfl (by assumption) ?_ | refine r_gn rfl (by assumption) rfl ?_); refine r_v (q_moveP rfl) rfl ?_; (first | refine r_gd rfl rfl ?_ | refine r_gn rfl rfl rfl ?_ | refine r_gu rfl rfl ?_ | refine r_gd rfl (by assumption) ?_ | refine r_gn rfl (by assumption) rfl ?_)
  refine r_c rfl (x_call rfl (bits_Len h) ?_)
  rintro _ w ⟨rfl, h⟩
  (first | refine r_gd rfl rfl ?_ | refine r_gn rfl rfl rfl ?_ | refine r_gu rfl rfl ?_ | refine r_gd rfl (by assumption) ?_ | refine r_gn rfl (by assumption) rfl ?_); refine r_v (q_eql rfl rfl) rfl ?_
  refine r_is (.bool true) (by kernel_rfl) ?_
  (first | refine r_v (q_pick1 rfl rfl rfl) rfl ?_ | refine r_v (q_pick0 rfl rfl rfl) rfl ?_ | refine r_v (q_pick1 rfl (by assumption) rfl) rfl ?_ | refine r_v (q_pick0 rfl (by assumption) rfl) rfl ?_ | refine r_v (q_pickB rfl rfl rfl) rfl ?_); refine r_v (q_assignB rfl) rfl ?_
  refine r_nil ?_
  exact c_ret (bq1 ⟨rfl, h.drop⟩)
end
end Go.Proofs.YtgahjjihfibbnaaDoor
