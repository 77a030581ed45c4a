/- Layer 17: the walk of 'BlobBudget'. -/
import Derived.Test.YtgahjjihfibbnaaLawa
import Derived.Test.YtgahjjihfibbnaaBlok
import Derived.Test.YtgahjjihfibbnaaHb
namespace Go.Proofs.Ytgahjjihfibbnaa
open Go.Hw
set_option maxHeartbeats 4000000
section
variable {w : World}

theorem law17_BlobBudget (budget charge num : Int) : Ret Try.prog 4 [.int .i64 budget, .int .i64 charge, .int .i64 num] w fun v w' => v = .bool true ∧ St w [] w' := by
  have h := St.init w
  generalize hw0 : w = w0 at h
  clear hw0
  refine enter Try.func4 rfl Try.results4 Try.ntmps4 rfl ?_
  refine c_seq (c_region ?_)
  refine r_v (q_assignB rfl) rfl ?_
  refine r_nil ?_
  refine c_seq (c_region ?_)
  have hB := and_mask (a := budget) (m := 1023) 10 (by decide) (by decide)
  have hC := and_mask (a := charge) (m := 511) 9 (by decide) (by decide)
  have hN := and_mask (a := num) (m := 511) 9 (by decide) (by decide)
  refine r_v (q_moveI rfl) rfl ?_; refine r_v (q_and rfl rfl) rfl ?_; refine r_v (q_moveI rfl) rfl ?_; refine r_v (q_and rfl rfl) rfl ?_; refine r_v (q_moveI rfl) rfl ?_; refine r_v (q_and rfl rfl) rfl ?_; refine r_v (q_assignI rfl) rfl ?_; refine r_v (q_assignI rfl) rfl ?_; refine r_v (q_assignI rfl) rfl ?_
  generalize bitOp .and .i64 budget 1023 = B at hB ⊢
  generalize bitOp .and .i64 charge 511 = C at hC ⊢
  generalize bitOp .and .i64 num 511 = N at hN ⊢
  have hB' : 0 ≤ B ∧ B < 1024 := by omega
  have hC' : 0 ≤ C ∧ C < 512 := by omega
  have hN' : 0 ≤ N ∧ N < 512 := by omega
  clear hB hC hN
  obtain ⟨m, rfl⟩ := Int.eq_ofNat_of_zero_le hN'.1
  refine r_nil ?_
  refine c_seq (c_region ?_)
  refine r_v (q_moveI rfl) rfl ?_
  refine r_c rfl (x_call rfl (blob_New _ h) ?_)
  rintro _ w ⟨p, rfl, h⟩
  rw [show min (max B 0) 1073741824 = B by omega] at h
  refine r_v (q_assignP rfl) rfl ?_
  refine r_nil ?_
  refine c_seq (c_seq (c_region ?_))
  refine r_v (q_moveP rfl) rfl ?_; refine r_v (q_eqnil rfl rfl) rfl ?_
  refine r_nil ?_
  refine c_false rfl ?_
  refine c_skip ?_
  refine c_cut (Γ := Int) (fun _ => [(0, .int .i64 B), (1, .int .i64 C), (2, .int .i64 m), (7, .pointer (some ⟨p, 0, none⟩))]) (fun X w => X = (if C ≤ B then C else 0) ∧ St w0 [IsStore p ⟨B, 0, 0, X, []⟩] w) ?_ ?_
  · by_cases hCB : C ≤ B
    · refine c_seq (c_region ?_)
      refine r_v (q_moveP rfl) rfl ?_; refine r_v (q_moveI rfl) rfl ?_
      refine r_c rfl (x_call rfl (blob_ChargeT (by constructor <;> dsimp only <;> omega) (by omega) (by dsimp only [Sto.room]; omega) h) ?_)
      rintro _ w ⟨rfl, h⟩
      refine r_v (q_moveI rfl) rfl ?_; refine r_v (q_moveI rfl) rfl ?_; refine r_v (q_leq rfl rfl) rfl ?_; refine r_v (q_neb rfl rfl) rfl ?_
      refine r_is (.bool false) (by simp [hCB]) ?_
      refine r_nil ?_
      refine c_false rfl (c_skip ⟨C, ⟨rfl, rfl, rfl, rfl, trivial⟩, by rw [if_pos hCB], ?_⟩)
      dsimp only at h
      rw [show (0 : Int) + max C (-0) = C by omega] at h
      exact h
    · refine c_seq (c_region ?_)
      refine r_v (q_moveP rfl) rfl ?_; refine r_v (q_moveI rfl) rfl ?_
      refine r_c rfl (x_call rfl (blob_ChargeF (by constructor <;> dsimp only <;> omega) (by dsimp only [Sto.room]; omega) h) ?_)
      rintro _ w ⟨rfl, h⟩
      refine r_v (q_moveI rfl) rfl ?_; refine r_v (q_moveI rfl) rfl ?_; refine r_v (q_leq rfl rfl) rfl ?_; refine r_v (q_neb rfl rfl) rfl ?_
      refine r_is (.bool false) (by simp [hCB]) ?_
      refine r_nil ?_
      exact c_false rfl (c_skip ⟨0, ⟨rfl, rfl, rfl, rfl, trivial⟩, by rw [if_neg hCB], h⟩)
  clear h
  rintro X w e ⟨hX, h⟩
  have hX' : 0 ≤ X ∧ X ≤ B ∧ X < 512 := by subst hX; split <;> omega
  refine c_cut (Γ := Unit) (fun _ => [(0, .int .i64 B), (1, .int .i64 X), (2, .int .i64 m), (7, .pointer (some ⟨p, 0, none⟩))]) (fun _ w => St w0 [IsStore p ⟨B, 0, 0, X, []⟩] w) ?_ ?_
  · refine c_seq (c_region ?_)
    refine r_v (q_moveI rfl) rfl ?_; refine r_v (q_moveI rfl) rfl ?_; refine r_v (q_gtr rfl rfl) rfl ?_
    refine r_nil ?_
    refine c_cond _ rfl (fun hc => ?_) (fun hc => ?_)
    · refine c_region ?_
      refine r_v (q_assignI rfl) rfl ?_
      obtain rfl : X = 0 := by rw [hX, if_neg (by simp at hc; omega)]
      exact r_nil ⟨(), ⟨rfl, rfl, rfl, rfl, trivial⟩, h⟩
    · obtain rfl : X = C := by rw [hX, if_pos (by simp at hc; omega)]
      exact c_skip ⟨(), ⟨rfl, rfl, rfl, rfl, trivial⟩, h⟩
  clear h hX
  rintro ⟨⟩ w e h
  have o : Sto.Ok ⟨B, 0, 0, X, []⟩ := by constructor <;> dsimp only <;> omega
  refine c_cut (Γ := Bool) (fun ok => [(0, .int .i64 B), (1, .int .i64 X), (2, .int .i64 m), (7, .pointer (some ⟨p, 0, none⟩)), (8, .int .i64 (bif ok then 1 else 0)), (9, .bool ok)])
    (fun ok w => (ok = true ∧ X + m ≤ B ∧ St w0 [IsStore p ⟨B, 1, m, X, [(1, ⟨List.replicate m 0, 1⟩)]⟩] w) ∨ (ok = false ∧ ¬ X + m ≤ B ∧ St w0 [IsStore p ⟨B, 0, 0, X, []⟩] w)) ?_ ?_
  · refine c_region ?_
    refine r_v (q_moveP rfl) rfl ?_; refine r_v (q_moveI rfl) rfl ?_
    refine r_c rfl (x_make (m := m) (m' := m) h rfl rfl (Nat.le_refl _) (by omega) (by omega) rfl fun b w h => ?_)
    rw [show zrow [Value.int .u8 0] m = bytesV (List.replicate m 0) from zrow_bytes m] at h
    by_cases hm : X + m ≤ B
    · refine r_c rfl (x_call rfl (blob_AddT o (h.f 1) (fun w' h' => h'.own_rd) (by dsimp only [Sto.room]; omega) rfl) ?_)
      rintro _ w ⟨rfl, h⟩
      replace h := (h.f 1).drop
      dsimp only at h
      rw [show (0 : Int) + (m : Int) = m from Int.zero_add _] at h
      refine r_v (q_moveT rfl) rfl ?_; refine r_v (q_ext rfl rfl) rfl ?_; refine r_v (q_ext rfl rfl) rfl ?_; refine r_v (q_assignI rfl) rfl ?_; refine r_v (q_assignB rfl) rfl ?_
      exact r_nil ⟨true, ⟨rfl, rfl, rfl, rfl, rfl, rfl, trivial⟩, .inl ⟨rfl, hm, h⟩⟩
    · refine r_c rfl (x_call rfl (blob_AddF o (h.f 1) (fun w' h' => h'.own_rd) (by omega) (by dsimp only [Sto.room]; omega) rfl) ?_)
      rintro _ w ⟨rfl, h⟩
      replace h := (h.f 1).drop
      refine r_v (q_moveT rfl) rfl ?_; refine r_v (q_ext rfl rfl) rfl ?_; refine r_v (q_ext rfl rfl) rfl ?_; refine r_v (q_assignI rfl) rfl ?_; refine r_v (q_assignB rfl) rfl ?_
      exact r_nil ⟨false, ⟨rfl, rfl, rfl, rfl, rfl, rfl, trivial⟩, .inr ⟨rfl, hm, h⟩⟩
  clear h
  rintro ok w e h
  have w1 : IntKind.i64.wrap (X + m) = X + m := wrap64 (by omega) (by omega)
  refine c_cut (Γ := Unit) (fun _ => [(0, .int .i64 B), (1, .int .i64 X), (2, .int .i64 m), (7, .pointer (some ⟨p, 0, none⟩)), (8, .int .i64 (bif ok then 1 else 0)), (9, .bool ok)])
    (fun _ w => (ok = true ∧ X + m ≤ B ∧ St w0 [IsStore p ⟨B, 1, m, X, [(1, ⟨List.replicate m 0, 1⟩)]⟩] w) ∨ (ok = false ∧ ¬ X + m ≤ B ∧ St w0 [IsStore p ⟨B, 0, 0, X, []⟩] w)) ?_ ?_
  · refine c_seq (c_region ?_)
    refine r_v (q_moveB rfl) rfl ?_; refine r_v (q_moveI rfl) rfl ?_; refine r_v (q_moveI rfl) rfl ?_; refine r_v (q_add rfl rfl) rfl ?_
    refine r_is (.int .i64 (X + m)) (by rw [w1]) ?_
    refine r_v (q_moveI rfl) rfl ?_; refine r_v (q_leq rfl rfl) rfl ?_; refine r_v (q_neb rfl rfl) rfl ?_
    refine r_is (.bool false) (by rcases h with ⟨rfl, h, _⟩ | ⟨rfl, h, _⟩ <;> simp [h]) ?_
    refine r_v (q_moveB rfl) rfl ?_; (first | refine r_gd rfl rfl ?_ | refine r_gn rfl rfl rfl ?_ | refine r_gu rfl rfl ?_ | refine r_gd rfl (by assumption) ?_ | refine r_gn rfl (by assumption) rfl ?_); refine r_v (q_moveP rfl) rfl ?_; (first | refine r_gd rfl rfl ?_ | refine r_gn rfl rfl rfl ?_ | refine r_gu rfl rfl ?_ | refine r_gd rfl (by assumption) ?_ | refine r_gn rfl (by assumption) rfl ?_)
    rcases h with ⟨rfl, hm, h⟩ | ⟨rfl, hm, h⟩
    · refine r_c rfl (x_call rfl (blob_UsedOk (by constructor <;> dsimp only <;> omega) h) ?_)
      rintro _ w ⟨rfl, h⟩
      (first | refine r_gd rfl rfl ?_ | refine r_gn rfl rfl rfl ?_ | refine r_gu rfl rfl ?_ | refine r_gd rfl (by assumption) ?_ | refine r_gn rfl (by assumption) rfl ?_); refine r_v (q_moveI rfl) rfl ?_; (first | refine r_gd rfl rfl ?_ | refine r_gn rfl rfl rfl ?_ | refine r_gu rfl rfl ?_ | refine r_gd rfl (by assumption) ?_ | refine r_gn rfl (by assumption) rfl ?_); refine r_v (q_gtr rfl rfl) rfl ?_
      refine r_is (.bool false) (by simp; omega) ?_
      (first | refine r_v (q_pick1 rfl rfl rfl) rfl ?_ | refine r_v (q_pick0 rfl rfl rfl) rfl ?_ | refine r_v (q_pick1 rfl (by assumption) rfl) rfl ?_ | refine r_v (q_pick0 rfl (by assumption) rfl) rfl ?_ | refine r_v (q_pickB rfl rfl rfl) rfl ?_)
      exact r_nil (c_false rfl (c_skip ⟨(), ⟨rfl, rfl, rfl, rfl, rfl, rfl, trivial⟩, .inl ⟨rfl, hm, h⟩⟩))
    · refine r_c rfl (x_call rfl (blob_UsedOk o h) ?_)
      rintro _ w ⟨rfl, h⟩
      (first | refine r_gd rfl rfl ?_ | refine r_gn rfl rfl rfl ?_ | refine r_gu rfl rfl ?_ | refine r_gd rfl (by assumption) ?_ | refine r_gn rfl (by assumption) rfl ?_); refine r_v (q_moveI rfl) rfl ?_; (first | refine r_gd rfl rfl ?_ | refine r_gn rfl rfl rfl ?_ | refine r_gu rfl rfl ?_ | refine r_gd rfl (by assumption) ?_ | refine r_gn rfl (by assumption) rfl ?_); refine r_v (q_gtr rfl rfl) rfl ?_
      refine r_is (.bool false) (by simp; omega) ?_
      (first | refine r_v (q_pick1 rfl rfl rfl) rfl ?_ | refine r_v (q_pick0 rfl rfl rfl) rfl ?_ | refine r_v (q_pick1 rfl (by assumption) rfl) rfl ?_ | refine r_v (q_pick0 rfl (by assumption) rfl) rfl ?_ | refine r_v (q_pickB rfl rfl rfl) rfl ?_)
      exact r_nil (c_false rfl (c_skip ⟨(), ⟨rfl, rfl, rfl, rfl, rfl, rfl, trivial⟩, .inr ⟨rfl, hm, h⟩⟩))
  clear h
  rintro ⟨⟩ w e h
  refine c_cut (Γ := Sto) (fun _ => [(0, .int .i64 B), (7, .pointer (some ⟨p, 0, none⟩))]) (fun S w => S.Ok ∧ S.budget = B ∧ St w0 [IsStore p S] w) ?_ ?_
  · refine c_seq (c_region ?_)
    refine r_v (q_moveB rfl) rfl ?_
    refine r_nil ?_
    rcases h with ⟨rfl, hm, h⟩ | ⟨rfl, hm, h⟩
    · refine c_true rfl ?_
      refine c_seq (c_region ?_)
      refine r_v (q_moveI rfl) rfl ?_; refine r_v (q_moveI rfl) rfl ?_; refine r_v (q_sub rfl rfl) rfl ?_
      refine r_is (.int .i64 (B - X)) (by rw [wrap64 (by omega) (by omega)]) ?_
      refine r_v (q_moveI rfl) rfl ?_; refine r_v (q_sub rfl rfl) rfl ?_
      refine r_is (.int .i64 (B - X - m)) (by rw [wrap64 (by omega) (by omega)]) ?_
      refine r_v (q_assignI rfl) rfl ?_
      refine r_nil ?_
      refine c_seq (c_seq (c_region ?_))
      refine r_v (q_moveP rfl) rfl ?_; refine r_v (q_moveI rfl) rfl ?_; refine r_v (q_add rfl rfl) rfl ?_
      refine r_is (.int .i64 (B - X - m + 1)) (by rw [wrap64 (by omega) (by omega)]) ?_
      refine r_c rfl (x_call rfl (blob_ChargeF (by constructor <;> dsimp only <;> omega) (by dsimp only [Sto.room]; omega) h) ?_)
      rintro _ w ⟨rfl, h⟩
      refine r_v (q_moveB rfl) rfl ?_; (first | refine r_gd rfl rfl ?_ | refine r_gn rfl rfl rfl ?_ | refine r_gu rfl rfl ?_ | refine r_gd rfl (by assumption) ?_ | refine r_gn rfl (by assumption) rfl ?_); refine r_v (q_moveP rfl) rfl ?_; (first | refine r_gd rfl rfl ?_ | refine r_gn rfl rfl rfl ?_ | refine r_gu rfl rfl ?_ | refine r_gd rfl (by assumption) ?_ | refine r_gn rfl (by assumption) rfl ?_); refine r_v (q_moveI rfl) rfl ?_; (first | refine r_gd rfl rfl ?_ | refine r_gn rfl rfl rfl ?_ | refine r_gu rfl rfl ?_ | refine r_gd rfl (by assumption) ?_ | refine r_gn rfl (by assumption) rfl ?_)
      refine r_c rfl (x_call rfl (blob_ChargeT (by constructor <;> dsimp only <;> omega) (by omega) (by dsimp only [Sto.room]; omega) h) ?_)
      rintro _ w ⟨rfl, h⟩
      dsimp only at h
      rw [show X + max (B - X - m) (-X) = B - m by omega] at h
      have o2 : Sto.Ok ⟨B, 1, m, B - m, [(1, ⟨List.replicate m 0, 1⟩)]⟩ := by constructor <;> dsimp only <;> omega
      (first | refine r_gd rfl rfl ?_ | refine r_gn rfl rfl rfl ?_ | refine r_gu rfl rfl ?_ | refine r_gd rfl (by assumption) ?_ | refine r_gn rfl (by assumption) rfl ?_); refine r_v (q_not rfl) rfl ?_; (first | refine r_v (q_pick1 rfl rfl rfl) rfl ?_ | refine r_v (q_pick0 rfl rfl rfl) rfl ?_ | refine r_v (q_pick1 rfl (by assumption) rfl) rfl ?_ | refine r_v (q_pick0 rfl (by assumption) rfl) rfl ?_ | refine r_v (q_pickB rfl rfl rfl) rfl ?_); refine r_v (q_moveB rfl) rfl ?_; (first | refine r_gd rfl rfl ?_ | refine r_gn rfl rfl rfl ?_ | refine r_gu rfl rfl ?_ | refine r_gd rfl (by assumption) ?_ | refine r_gn rfl (by assumption) rfl ?_); refine r_v (q_moveP rfl) rfl ?_; (first | refine r_gd rfl rfl ?_ | refine r_gn rfl rfl rfl ?_ | refine r_gu rfl rfl ?_ | refine r_gd rfl (by assumption) ?_ | refine r_gn rfl (by assumption) rfl ?_)
      refine r_c rfl (x_call rfl (blob_UsedOk o2 h) ?_)
      rintro _ w ⟨rfl, h⟩
      (first | refine r_gd rfl rfl ?_ | refine r_gn rfl rfl rfl ?_ | refine r_gu rfl rfl ?_ | refine r_gd rfl (by assumption) ?_ | refine r_gn rfl (by assumption) rfl ?_); refine r_v (q_moveI rfl) rfl ?_; (first | refine r_gd rfl rfl ?_ | refine r_gn rfl rfl rfl ?_ | refine r_gu rfl rfl ?_ | refine r_gd rfl (by assumption) ?_ | refine r_gn rfl (by assumption) rfl ?_); refine r_v (q_neq rfl rfl) rfl ?_
      refine r_is (.bool false) (by simp; omega) ?_
      (first | refine r_v (q_pick1 rfl rfl rfl) rfl ?_ | refine r_v (q_pick0 rfl rfl rfl) rfl ?_ | refine r_v (q_pick1 rfl (by assumption) rfl) rfl ?_ | refine r_v (q_pick0 rfl (by assumption) rfl) rfl ?_ | refine r_v (q_pickB rfl rfl rfl) rfl ?_); refine r_v (q_moveB rfl) rfl ?_; (first | refine r_gd rfl rfl ?_ | refine r_gn rfl rfl rfl ?_ | refine r_gu rfl rfl ?_ | refine r_gd rfl (by assumption) ?_ | refine r_gn rfl (by assumption) rfl ?_); refine r_v (q_moveP rfl) rfl ?_; (first | refine r_gd rfl rfl ?_ | refine r_gn rfl rfl rfl ?_ | refine r_gu rfl rfl ?_ | refine r_gd rfl (by assumption) ?_ | refine r_gn rfl (by assumption) rfl ?_); refine r_v (q_moveI rfl) rfl ?_; (first | refine r_gd rfl rfl ?_ | refine r_gn rfl rfl rfl ?_ | refine r_gu rfl rfl ?_ | refine r_gd rfl (by assumption) ?_ | refine r_gn rfl (by assumption) rfl ?_)
      refine r_c rfl (x_call rfl (blob_LeaveL o2 1 h rfl rfl (by simp)) ?_)
      rintro _ w ⟨rfl, h⟩
      replace h : St w0 [IsStore p ⟨B, 1, m - (List.replicate m (0 : UInt8)).length, B - m, []⟩] w := h
      rw [List.length_replicate, Int.sub_self] at h
      have o3 : Sto.Ok ⟨B, 1, 0, B - m, []⟩ := by constructor <;> dsimp only <;> omega
      (first | refine r_gd rfl rfl ?_ | refine r_gn rfl rfl rfl ?_ | refine r_gu rfl rfl ?_ | refine r_gd rfl (by assumption) ?_ | refine r_gn rfl (by assumption) rfl ?_); refine r_v (q_not rfl) rfl ?_; (first | refine r_v (q_pick1 rfl rfl rfl) rfl ?_ | refine r_v (q_pick0 rfl rfl rfl) rfl ?_ | refine r_v (q_pick1 rfl (by assumption) rfl) rfl ?_ | refine r_v (q_pick0 rfl (by assumption) rfl) rfl ?_ | refine r_v (q_pickB rfl rfl rfl) rfl ?_); refine r_v (q_moveB rfl) rfl ?_; (first | refine r_gd rfl rfl ?_ | refine r_gn rfl rfl rfl ?_ | refine r_gu rfl rfl ?_ | refine r_gd rfl (by assumption) ?_ | refine r_gn rfl (by assumption) rfl ?_); refine r_v (q_moveP rfl) rfl ?_; (first | refine r_gd rfl rfl ?_ | refine r_gn rfl rfl rfl ?_ | refine r_gu rfl rfl ?_ | refine r_gd rfl (by assumption) ?_ | refine r_gn rfl (by assumption) rfl ?_)
      refine r_c rfl (x_call rfl (blob_UsedOk o3 h) ?_)
      rintro _ w ⟨rfl, h⟩
      (first | refine r_gd rfl rfl ?_ | refine r_gn rfl rfl rfl ?_ | refine r_gu rfl rfl ?_ | refine r_gd rfl (by assumption) ?_ | refine r_gn rfl (by assumption) rfl ?_); refine r_v (q_moveI rfl) rfl ?_; (first | refine r_gd rfl rfl ?_ | refine r_gn rfl rfl rfl ?_ | refine r_gu rfl rfl ?_ | refine r_gd rfl (by assumption) ?_ | refine r_gn rfl (by assumption) rfl ?_); refine r_v (q_moveI rfl) rfl ?_; (first | refine r_gd rfl rfl ?_ | refine r_gn rfl rfl rfl ?_ | refine r_gu rfl rfl ?_ | refine r_gd rfl (by assumption) ?_ | refine r_gn rfl (by assumption) rfl ?_); refine r_v (q_sub rfl rfl) rfl ?_
      refine r_is (.int .i64 (B - m)) (by rw [wrap64 (by omega) (by omega)]) ?_
      (first | refine r_gd rfl rfl ?_ | refine r_gn rfl rfl rfl ?_ | refine r_gu rfl rfl ?_ | refine r_gd rfl (by assumption) ?_ | refine r_gn rfl (by assumption) rfl ?_); refine r_v (q_neq rfl rfl) rfl ?_
      refine r_is (.bool false) (by simp) ?_
      (first | refine r_v (q_pick1 rfl rfl rfl) rfl ?_ | refine r_v (q_pick0 rfl rfl rfl) rfl ?_ | refine r_v (q_pick1 rfl (by assumption) rfl) rfl ?_ | refine r_v (q_pick0 rfl (by assumption) rfl) rfl ?_ | refine r_v (q_pickB rfl rfl rfl) rfl ?_)
      refine r_nil ?_
      refine c_false rfl ?_
      refine c_skip ?_
      refine c_seq (c_region ?_)
      refine r_v (q_moveI rfl) rfl ?_; refine r_v (q_gtr rfl rfl) rfl ?_
      by_cases hm0 : 0 < m
      · refine r_is (.bool true) (by simp; omega) ?_
        refine r_v (q_moveB rfl) rfl ?_; (first | refine r_gd rfl rfl ?_ | refine r_gn rfl rfl rfl ?_ | refine r_gu rfl rfl ?_ | refine r_gd rfl (by assumption) ?_ | refine r_gn rfl (by assumption) rfl ?_); refine r_v (q_moveP rfl) rfl ?_; (first | refine r_gd rfl rfl ?_ | refine r_gn rfl rfl rfl ?_ | refine r_gu rfl rfl ?_ | refine r_gd rfl (by assumption) ?_ | refine r_gn rfl (by assumption) rfl ?_); refine r_v (q_moveI rfl) rfl ?_; (first | refine r_gd rfl rfl ?_ | refine r_gn rfl rfl rfl ?_ | refine r_gu rfl rfl ?_ | refine r_gd rfl (by assumption) ?_ | refine r_gn rfl (by assumption) rfl ?_); refine r_v (q_add rfl rfl) rfl ?_
        refine r_is (.int .i64 (m + 1)) (by rw [wrap64 (by omega) (by omega)]) ?_
        (first | refine r_gd rfl rfl ?_ | refine r_gn rfl rfl rfl ?_ | refine r_gu rfl rfl ?_ | refine r_gd rfl (by assumption) ?_ | refine r_gn rfl (by assumption) rfl ?_)
        refine r_c rfl (x_call rfl (blob_ChargeF o3 (by dsimp only [Sto.room]; omega) h) ?_)
        rintro _ w ⟨rfl, h⟩
        (first | refine r_gd rfl rfl ?_ | refine r_gn rfl rfl rfl ?_ | refine r_gu rfl rfl ?_ | refine r_gd rfl (by assumption) ?_ | refine r_gn rfl (by assumption) rfl ?_); refine r_v (q_moveB rfl) rfl ?_; (first | refine r_gd rfl rfl ?_ | refine r_gn rfl rfl rfl ?_ | refine r_gu rfl rfl ?_ | refine r_gd rfl (by assumption) ?_ | refine r_gn rfl (by assumption) rfl ?_); refine r_v (q_moveP rfl) rfl ?_; (first | refine r_gd rfl rfl ?_ | refine r_gn rfl rfl rfl ?_ | refine r_gu rfl rfl ?_ | refine r_gd rfl (by assumption) ?_ | refine r_gn rfl (by assumption) rfl ?_); refine r_v (q_moveI rfl) rfl ?_; (first | refine r_gd rfl rfl ?_ | refine r_gn rfl rfl rfl ?_ | refine r_gu rfl rfl ?_ | refine r_gd rfl (by assumption) ?_ | refine r_gn rfl (by assumption) rfl ?_)
        refine r_c rfl (x_call rfl (blob_ChargeT o3 (by omega) (by dsimp only [Sto.room]; omega) h) ?_)
        rintro _ w ⟨rfl, h⟩
        dsimp only at h
        (first | refine r_gd rfl rfl ?_ | refine r_gn rfl rfl rfl ?_ | refine r_gu rfl rfl ?_ | refine r_gd rfl (by assumption) ?_ | refine r_gn rfl (by assumption) rfl ?_); refine r_v (q_not rfl) rfl ?_; (first | refine r_gd rfl rfl ?_ | refine r_gn rfl rfl rfl ?_ | refine r_gu rfl rfl ?_ | refine r_gd rfl (by assumption) ?_ | refine r_gn rfl (by assumption) rfl ?_); (first | refine r_v (q_pick1 rfl rfl rfl) rfl ?_ | refine r_v (q_pick0 rfl rfl rfl) rfl ?_ | refine r_v (q_pick1 rfl (by assumption) rfl) rfl ?_ | refine r_v (q_pick0 rfl (by assumption) rfl) rfl ?_ | refine r_v (q_pickB rfl rfl rfl) rfl ?_); (first | refine r_v (q_pick1 rfl rfl rfl) rfl ?_ | refine r_v (q_pick0 rfl rfl rfl) rfl ?_ | refine r_v (q_pick1 rfl (by assumption) rfl) rfl ?_ | refine r_v (q_pick0 rfl (by assumption) rfl) rfl ?_ | refine r_v (q_pickB rfl rfl rfl) rfl ?_)
        refine r_nil ?_
        exact c_false rfl (c_skip ⟨_, ⟨rfl, rfl, trivial⟩, by constructor <;> dsimp only <;> omega, rfl, h⟩)
      · refine r_is (.bool false) (by simp; omega) ?_
        refine r_v (q_moveB rfl) rfl ?_; (first | refine r_gd rfl rfl ?_ | refine r_gn rfl rfl rfl ?_ | refine r_gu rfl rfl ?_ | refine r_gd rfl (by assumption) ?_ | refine r_gn rfl (by assumption) rfl ?_); (first | refine r_gd rfl rfl ?_ | refine r_gn rfl rfl rfl ?_ | refine r_gu rfl rfl ?_ | refine r_gd rfl (by assumption) ?_ | refine r_gn rfl (by assumption) rfl ?_); (first | refine r_gd rfl rfl ?_ | refine r_gn rfl rfl rfl ?_ | refine r_gu rfl rfl ?_ | refine r_gd rfl (by assumption) ?_ | refine r_gn rfl (by assumption) rfl ?_); (first | refine r_gd rfl rfl ?_ | refine r_gn rfl rfl rfl ?_ | refine r_gu rfl rfl ?_ | refine r_gd rfl (by assumption) ?_ | refine r_gn rfl (by assumption) rfl ?_); (first | refine r_gd rfl rfl ?_ | refine r_gn rfl rfl rfl ?_ | refine r_gu rfl rfl ?_ | refine r_gd rfl (by assumption) ?_ | refine r_gn rfl (by assumption) rfl ?_); (first | refine r_gd rfl rfl ?_ | refine r_gn rfl rfl rfl ?_ | refine r_gu rfl rfl ?_ | refine r_gd rfl (by assumption) ?_ | refine r_gn rfl (by assumption) rfl ?_); (first | refine r_gd rfl rfl ?_ | refine r_gn rfl rfl rfl ?_ | refine r_gu rfl rfl ?_ | refine r_gd rfl (by assumption) ?_ | refine r_gn rfl (by assumption) rfl ?_); (first | refine r_gd rfl rfl ?_ | refine r_gn rfl rfl rfl ?_ | refine r_gu rfl rfl ?_ | refine r_gd rfl (by assumption) ?_ | refine r_gn rfl (by assumption) rfl ?_); (first | refine r_gd rfl rfl ?_ | refine r_gn rfl rfl rfl ?_ | refine r_gu rfl rfl ?_ | refine r_gd rfl (by assumption) ?_ | refine r_gn rfl (by assumption) rfl ?_); (first | refine r_gd rfl rfl ?_ | refine r_gn rfl rfl rfl ?_ | refine r_gu rfl rfl ?_ | refine r_gd rfl (by assumption) ?_ | refine r_gn rfl (by assumption) rfl ?_); (first | refine r_v (q_pick1 rfl rfl rfl) rfl ?_ | refine r_v (q_pick0 rfl rfl rfl) rfl ?_ | refine r_v (q_pick1 rfl (by assumption) rfl) rfl ?_ | refine r_v (q_pick0 rfl (by assumption) rfl) rfl ?_ | refine r_v (q_pickB rfl rfl rfl) rfl ?_)
        refine r_nil ?_
        exact c_false rfl (c_skip ⟨_, ⟨rfl, rfl, trivial⟩, o3, rfl, h⟩)
    · refine c_false rfl ?_
      exact c_skip ⟨_, ⟨rfl, rfl, trivial⟩, o, rfl, h⟩
  clear h o
  rintro S w e ⟨o, hSB, h⟩
  obtain ⟨h1, h2, h3, h4, h5, h6⟩ := id o
  refine c_seq (c_region ?_)
  refine r_v (q_moveP rfl) rfl ?_
  refine r_c rfl (x_call rfl (blob_ChargeT o (by omega) (by dsimp only [Sto.room]; omega) h) ?_)
  rintro _ w ⟨rfl, h⟩
  refine r_v (q_moveB rfl) rfl ?_; (first | refine r_gd rfl rfl ?_ | refine r_gn rfl rfl rfl ?_ | refine r_gu rfl rfl ?_ | refine r_gd rfl (by assumption) ?_ | refine r_gn rfl (by assumption) rfl ?_); refine r_v (q_moveP rfl) rfl ?_; (first | refine r_gd rfl rfl ?_ | refine r_gn rfl rfl rfl ?_ | refine r_gu rfl rfl ?_ | refine r_gd rfl (by assumption) ?_ | refine r_gn rfl (by assumption) rfl ?_)
  refine r_c rfl (x_call rfl (blob_UsedOk (by constructor <;> dsimp only <;> omega) h) ?_)
  rintro _ w ⟨rfl, h⟩
  (first | refine r_gd rfl rfl ?_ | refine r_gn rfl rfl rfl ?_ | refine r_gu rfl rfl ?_ | refine r_gd rfl (by assumption) ?_ | refine r_gn rfl (by assumption) rfl ?_); refine r_v (q_moveI rfl) rfl ?_; (first | refine r_gd rfl rfl ?_ | refine r_gn rfl rfl rfl ?_ | refine r_gu rfl rfl ?_ | refine r_gd rfl (by assumption) ?_ | refine r_gn rfl (by assumption) rfl ?_); refine r_v (q_leq rfl rfl) rfl ?_
  refine r_is (.bool true) (by simp; omega) ?_
  (first | refine r_v (q_pick1 rfl rfl rfl) rfl ?_ | refine r_v (q_pick0 rfl rfl rfl) rfl ?_ | refine r_v (q_pick1 rfl (by assumption) rfl) rfl ?_ | refine r_v (q_pick0 rfl (by assumption) rfl) rfl ?_ | refine r_v (q_pickB rfl rfl rfl) rfl ?_); refine r_v (q_moveB rfl) rfl ?_; (first | refine r_gd rfl rfl ?_ | refine r_gn rfl rfl rfl ?_ | refine r_gu rfl rfl ?_ | refine r_gd rfl (by assumption) ?_ | refine r_gn rfl (by assumption) rfl ?_)
  refine r_c rfl (x_call rfl (law17_awake h) ?_)
  rintro _ w ⟨rfl, h⟩
  (first | refine r_v (q_pick1 rfl rfl rfl) rfl ?_ | refine r_v (q_pick0 rfl rfl rfl) rfl ?_ | refine r_v (q_pick1 rfl (by assumption) rfl) rfl ?_ | refine r_v (q_pick0 rfl (by assumption) rfl) rfl ?_ | refine r_v (q_pickB rfl rfl rfl) rfl ?_); refine r_v (q_assignB rfl) rfl ?_
  refine r_nil ?_
  exact c_ret (bq1 ⟨rfl, h.drop⟩)
end
end Go.Proofs.Ytgahjjihfibbnaa
