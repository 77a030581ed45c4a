/- ephemerislaw11.ChnkTurned. -/
import Derived.Test.YtjjacchnalemaaaDoorLaw11
namespace Go.Hw
theorem byte_turn {z : UInt8} {k : Nat} (hk : k < 8) : z ^^^ UInt8.ofNat (2 ^ k) ≠ z := by
  intro h
  have h1 := congrArg UInt8.toNat h
  rw [UInt8.toNat_xor, UInt8.toNat_ofNat'] at h1
  have hp : 2 ^ k < 2 ^ 8 := Nat.pow_lt_pow_right (by decide) hk
  rw [Nat.mod_eq_of_lt hp] at h1
  have h2 : z.toNat ^^^ 2 ^ k = z.toNat ^^^ 0 := by rw [h1, Nat.xor_zero]
  have h3 := xor_cancel h2
  have := Nat.two_pow_pos k
  omega
end Go.Hw
namespace Go.Proofs.YtjjacchnalemaaaDoor
open Go.Hw
set_option maxHeartbeats 4000000
set_option maxRecDepth 100000
section
variable {w0 w : World} {l : List HProp}
theorem law11_ChnkTurned (hT : Tz w0) {st : Option Addr} {ct : Nat} {xs : List Int} {sv : Option Addr} {cv : Nat} {us_ : List Nat} (how tag bit : Int) (hx : ∀ x ∈ xs, I64 x) (hn : xs.length ≤ 9223372036854775807) (hrt : Reads w0 l 1 st xs.length (i64V xs))
    (hu : ∀ x ∈ us_, x < 18446744073709551616) (hnu : us_.length ≤ 9223372036854775807) (hrv : Reads w0 l 1 sv us_.length (u64V us_)) (h : St w0 l w) :
    Ret Tryd.prog 9 [.slice st xs.length ct, .slice sv us_.length cv, .int .i64 how, .int .i64 tag, .int .i64 bit] w fun v w' => v = .bool true ∧ St w0 l w' := by
  refine enter Tryd.func9 rfl Tryd.results9 Tryd.ntmps9 rfl ?_
  refine c_seq (c_region ?_)
  refine r_v (q_assignB rfl) rfl ?_
  refine r_nil ?_
  refine c_seq (c_region ?_)
  refine r_v (q_moveS rfl) rfl ?_; refine r_v (q_moveS rfl) rfl ?_; refine r_v (q_moveI rfl) rfl ?_
  refine r_c rfl (x_call rfl (law10_Row how hx hn hrt hu hnu hrv h) ?_)
  rintro _ w ⟨sa, sc, L, hL60, hwf, hris, rfl, h⟩
  refine r_v (q_assignS rfl) rfl ?_
  refine r_nil ?_
  have hrise : rising L = true := by unfold rising; rw [hris, Bool.true_and, decide_eq_true_eq]; omega
  obtain ⟨a0, ha0⟩ := Int.eq_ofNat_of_zero_le (show 0 ≤ tag % 2 ^ 8 by omega)
  obtain ⟨k0, hk0⟩ := Int.eq_ofNat_of_zero_le (show 0 ≤ bit % 2 ^ 20 by omega)
  have hk20 : k0 < 1048576 := by omega
  have q1 : bitOp .and .i64 tag 255 = (a0 : Int) := (and_mask 8 (by decide) (by decide)).trans ha0
  have q2 : (a0 : Int).tmod 6 = ((a0 % 6 : Nat) : Int) := tmod_nat a0 6
  refine c_seq (c_region ?_)
  refine r_v (q_moveI rfl) rfl ?_; refine r_v (q_and rfl rfl) rfl ?_
  refine r_is (.int .i64 (a0 : Int)) (congrArg (Value.int .i64) q1) ?_
  refine r_v (q_is (v' := .int .i64 ((a0 % 6 : Nat) : Int)) (q_rem rfl rfl (by decide)) (congrArg (Value.int .i64) q2)) rfl ?_
  refine r_v (q_add rfl rfl) rfl ?_
  refine r_is (.int .i64 ((a0 % 6 + 1 : Nat) : Int)) (by rw [wrap64 (by omega) (by omega)]; rfl) ?_
  refine r_v (q_moveS rfl) rfl ?_
  have htg : 1 ≤ a0 % 6 + 1 ∧ a0 % 6 + 1 ≤ 6 := by omega
  have q3 : IntKind.i64.wrap (((a0 % 6 : Nat) : Int) + 1) = ((a0 % 6 + 1 : Nat) : Int) := by rw [wrap64 (by omega) (by omega)]; rfl
  refine r_c rfl (x_call rfl (chnk_Make hT ((a0 % 6 + 1 : Nat) : Int) (L := L) hwf (by omega) Reads.own h) ?_)
  generalize a0 % 6 + 1 = tg at htg q3
  cases hM : chMake (tg : Int) L with
  | none =>
    have hno : L.length = 0 ∨ tg = 2 ∨ tg = 6 := by
      by_cases hk : (tg : Int) = 1 ∨ (tg : Int) = 3 ∨ (tg : Int) = 4 ∨ (tg : Int) = 5
      · obtain ⟨x, hxe⟩ := suitEnc_can hrise (by omega) hk
        left
        unfold chMake at hM
        rw [hxe] at hM
        dsimp only at hM
        split at hM
        · rename_i hh; rw [hh]; rfl
        · cases hM
      · right; omega
    rintro _ w ⟨ba, bc, rfl, h⟩
    replace h := h.drop
    show Rn _ _ _ _ _ (upd _ _ (.tuple [.slice ba 0 bc, .bool false].toArray)) _
    refine r_v (q_moveT rfl) rfl ?_; refine r_v (q_ext rfl rfl) rfl ?_; refine r_v (q_ext rfl rfl) rfl ?_; refine r_v (q_assignS rfl) rfl ?_; refine r_v (q_assignB rfl) rfl ?_
    refine r_nil ?_
    refine c_seq (c_seq (c_region ?_))
    refine r_v (q_moveB rfl) rfl ?_; refine r_v (q_not rfl) rfl ?_
    refine r_nil (c_true rfl ?_)
    refine c_seq (c_region ?_)
    by_cases hl0 : L.length = 0
    · refine r_v (q_moveS rfl) rfl ?_; refine r_v (q_len rfl) rfl ?_
      refine r_v (q_is (v' := .bool true) (q_eql rfl rfl) (by rw [hl0]; rfl)) rfl ?_
      refine r_v (q_moveB rfl) rfl ?_; (first | refine r_gd rfl rfl ?_ | refine r_gn rfl rfl rfl ?_ | refine r_gu rfl rfl ?_ | refine r_gd rfl (by assumption) ?_ | refine r_gn rfl (by assumption) rfl ?_); (first | refine r_gd rfl rfl ?_ | refine r_gn rfl rfl rfl ?_ | refine r_gu rfl rfl ?_ | refine r_gd rfl (by assumption) ?_ | refine r_gn rfl (by assumption) rfl ?_); (first | refine r_gd rfl rfl ?_ | refine r_gn rfl rfl rfl ?_ | refine r_gu rfl rfl ?_ | refine r_gd rfl (by assumption) ?_ | refine r_gn rfl (by assumption) rfl ?_); (first | refine r_gd rfl rfl ?_ | refine r_gn rfl rfl rfl ?_ | refine r_gu rfl rfl ?_ | refine r_gd rfl (by assumption) ?_ | refine r_gn rfl (by assumption) rfl ?_); (first | refine r_gd rfl rfl ?_ | refine r_gn rfl rfl rfl ?_ | refine r_gu rfl rfl ?_ | refine r_gd rfl (by assumption) ?_ | refine r_gn rfl (by assumption) rfl ?_); (first | refine r_v (q_pick1 rfl rfl rfl) rfl ?_ | refine r_v (q_pick0 rfl rfl rfl) rfl ?_ | refine r_v (q_pick1 rfl (by assumption) rfl) rfl ?_ | refine r_v (q_pick0 rfl (by assumption) rfl) rfl ?_ | refine r_v (q_pickB rfl rfl rfl) rfl ?_); refine r_v (q_moveB rfl) rfl ?_; (first | refine r_gd rfl rfl ?_ | refine r_gn rfl rfl rfl ?_ | refine r_gu rfl rfl ?_ | refine r_gd rfl (by assumption) ?_ | refine r_gn rfl (by assumption) rfl ?_); (first | refine r_gd rfl rfl ?_ | refine r_gn rfl rfl rfl ?_ | refine r_gu rfl rfl ?_ | refine r_gd rfl (by assumption) ?_ | refine r_gn rfl (by assumption) rfl ?_); (first | refine r_gd rfl rfl ?_ | refine r_gn rfl rfl rfl ?_ | refine r_gu rfl rfl ?_ | refine r_gd rfl (by assumption) ?_ | refine r_gn rfl (by assumption) rfl ?_); (first | refine r_gd rfl rfl ?_ | refine r_gn rfl rfl rfl ?_ | refine r_gu rfl rfl ?_ | refine r_gd rfl (by assumption) ?_ | refine r_gn rfl (by assumption) rfl ?_); (first | refine r_gd rfl rfl ?_ | refine r_gn rfl rfl rfl ?_ | refine r_gu rfl rfl ?_ | refine r_gd rfl (by assumption) ?_ | refine r_gn rfl (by assumption) rfl ?_); (first | refine r_v (q_pick1 rfl rfl rfl) rfl ?_ | refine r_v (q_pick0 rfl rfl rfl) rfl ?_ | refine r_v (q_pick1 rfl (by assumption) rfl) rfl ?_ | refine r_v (q_pick0 rfl (by assumption) rfl) rfl ?_ | refine r_v (q_pickB rfl rfl rfl) rfl ?_); refine r_v (q_moveB rfl) rfl ?_; (first | refine r_gd rfl rfl ?_ | refine r_gn rfl rfl rfl ?_ | refine r_gu rfl rfl ?_ | refine r_gd rfl (by assumption) ?_ | refine r_gn rfl (by assumption) rfl ?_)
      refine r_c rfl (x_call rfl (law11_awake hT h) ?_)
      rintro _ w ⟨rfl, h⟩
      (first | refine r_v (q_pick1 rfl rfl rfl) rfl ?_ | refine r_v (q_pick0 rfl rfl rfl) rfl ?_ | refine r_v (q_pick1 rfl (by assumption) rfl) rfl ?_ | refine r_v (q_pick0 rfl (by assumption) rfl) rfl ?_ | refine r_v (q_pickB rfl rfl rfl) rfl ?_); refine r_v (q_assignB rfl) rfl ?_
      refine r_nil ?_
      exact c_ret (bq1 ⟨rfl, h.drop⟩)
    refine r_v (q_moveS rfl) rfl ?_; refine r_v (q_len rfl) rfl ?_
    refine r_v (q_is (v' := .bool false) (q_eql rfl rfl) (by congr 1; rw [beq_eq_false_iff_ne]; omega)) rfl ?_
    refine r_v (q_moveB rfl) rfl ?_; (first | refine r_gd rfl rfl ?_ | refine r_gn rfl rfl rfl ?_ | refine r_gu rfl rfl ?_ | refine r_gd rfl (by assumption) ?_ | refine r_gn rfl (by assumption) rfl ?_); refine r_v (q_moveI rfl) rfl ?_; (first | refine r_gd rfl rfl ?_ | refine r_gn rfl rfl rfl ?_ | refine r_gu rfl rfl ?_ | refine r_gd rfl (by assumption) ?_ | refine r_gn rfl (by assumption) rfl ?_)
    refine r_v (q_is (v' := .int .i64 (a0 : Int)) (q_and rfl rfl) (congrArg (Value.int .i64) q1)) rfl ?_
    refine r_gd rfl rfl ?_
    refine r_v (q_is (v' := .int .i64 ((a0 % 6 : Nat) : Int)) (q_rem rfl rfl (by decide)) (congrArg (Value.int .i64) q2)) rfl ?_
    refine r_gd rfl rfl ?_
    refine r_v (q_is (v' := .int .i64 (tg : Int)) (q_add rfl rfl) (congrArg (Value.int .i64) q3)) rfl ?_
    refine r_gd rfl rfl ?_
    by_cases ht2 : tg = 2
    · refine r_v (q_is (v' := .bool true) (q_eql rfl rfl) (by rw [ht2]; rfl)) rfl ?_
      (first | refine r_v (q_pick1 rfl rfl rfl) rfl ?_ | refine r_v (q_pick0 rfl rfl rfl) rfl ?_ | refine r_v (q_pick1 rfl (by assumption) rfl) rfl ?_ | refine r_v (q_pick0 rfl (by assumption) rfl) rfl ?_ | refine r_v (q_pickB rfl rfl rfl) rfl ?_); refine r_v (q_moveB rfl) rfl ?_; (first | refine r_gd rfl rfl ?_ | refine r_gn rfl rfl rfl ?_ | refine r_gu rfl rfl ?_ | refine r_gd rfl (by assumption) ?_ | refine r_gn rfl (by assumption) rfl ?_); (first | refine r_gd rfl rfl ?_ | refine r_gn rfl rfl rfl ?_ | refine r_gu rfl rfl ?_ | refine r_gd rfl (by assumption) ?_ | refine r_gn rfl (by assumption) rfl ?_); (first | refine r_gd rfl rfl ?_ | refine r_gn rfl rfl rfl ?_ | refine r_gu rfl rfl ?_ | refine r_gd rfl (by assumption) ?_ | refine r_gn rfl (by assumption) rfl ?_); (first | refine r_gd rfl rfl ?_ | refine r_gn rfl rfl rfl ?_ | refine r_gu rfl rfl ?_ | refine r_gd rfl (by assumption) ?_ | refine r_gn rfl (by assumption) rfl ?_); (first | refine r_gd rfl rfl ?_ | refine r_gn rfl rfl rfl ?_ | refine r_gu rfl rfl ?_ | refine r_gd rfl (by assumption) ?_ | refine r_gn rfl (by assumption) rfl ?_); (first | refine r_v (q_pick1 rfl rfl rfl) rfl ?_ | refine r_v (q_pick0 rfl rfl rfl) rfl ?_ | refine r_v (q_pick1 rfl (by assumption) rfl) rfl ?_ | refine r_v (q_pick0 rfl (by assumption) rfl) rfl ?_ | refine r_v (q_pickB rfl rfl rfl) rfl ?_); refine r_v (q_moveB rfl) rfl ?_; (first | refine r_gd rfl rfl ?_ | refine r_gn rfl rfl rfl ?_ | refine r_gu rfl rfl ?_ | refine r_gd rfl (by assumption) ?_ | refine r_gn rfl (by assumption) rfl ?_)
      refine r_c rfl (x_call rfl (law11_awake hT h) ?_)
      rintro _ w ⟨rfl, h⟩
      (first | refine r_v (q_pick1 rfl rfl rfl) rfl ?_ | refine r_v (q_pick0 rfl rfl rfl) rfl ?_ | refine r_v (q_pick1 rfl (by assumption) rfl) rfl ?_ | refine r_v (q_pick0 rfl (by assumption) rfl) rfl ?_ | refine r_v (q_pickB rfl rfl rfl) rfl ?_); refine r_v (q_assignB rfl) rfl ?_
      refine r_nil ?_
      exact c_ret (bq1 ⟨rfl, h.drop⟩)
    have ht6 : tg = 6 := by omega
    refine r_v (q_is (v' := .bool false) (q_eql rfl rfl) (by rw [ht6]; rfl)) rfl ?_
    (first | refine r_v (q_pick1 rfl rfl rfl) rfl ?_ | refine r_v (q_pick0 rfl rfl rfl) rfl ?_ | refine r_v (q_pick1 rfl (by assumption) rfl) rfl ?_ | refine r_v (q_pick0 rfl (by assumption) rfl) rfl ?_ | refine r_v (q_pickB rfl rfl rfl) rfl ?_); refine r_v (q_moveB rfl) rfl ?_; (first | refine r_gd rfl rfl ?_ | refine r_gn rfl rfl rfl ?_ | refine r_gu rfl rfl ?_ | refine r_gd rfl (by assumption) ?_ | refine r_gn rfl (by assumption) rfl ?_); refine r_v (q_moveI rfl) rfl ?_; (first | refine r_gd rfl rfl ?_ | refine r_gn rfl rfl rfl ?_ | refine r_gu rfl rfl ?_ | refine r_gd rfl (by assumption) ?_ | refine r_gn rfl (by assumption) rfl ?_)
    refine r_v (q_is (v' := .int .i64 (a0 : Int)) (q_and rfl rfl) (congrArg (Value.int .i64) q1)) rfl ?_
    refine r_gd rfl rfl ?_
    refine r_v (q_is (v' := .int .i64 ((a0 % 6 : Nat) : Int)) (q_rem rfl rfl (by decide)) (congrArg (Value.int .i64) q2)) rfl ?_
    refine r_gd rfl rfl ?_
    refine r_v (q_is (v' := .int .i64 (tg : Int)) (q_add rfl rfl) (congrArg (Value.int .i64) q3)) rfl ?_
    refine r_gd rfl rfl ?_
    refine r_v (q_is (v' := .bool true) (q_eql rfl rfl) (by rw [ht6]; rfl)) rfl ?_
    (first | refine r_v (q_pick1 rfl rfl rfl) rfl ?_ | refine r_v (q_pick0 rfl rfl rfl) rfl ?_ | refine r_v (q_pick1 rfl (by assumption) rfl) rfl ?_ | refine r_v (q_pick0 rfl (by assumption) rfl) rfl ?_ | refine r_v (q_pickB rfl rfl rfl) rfl ?_); refine r_v (q_moveB rfl) rfl ?_; (first | refine r_gd rfl rfl ?_ | refine r_gn rfl rfl rfl ?_ | refine r_gu rfl rfl ?_ | refine r_gd rfl (by assumption) ?_ | refine r_gn rfl (by assumption) rfl ?_)
    refine r_c rfl (x_call rfl (law11_awake hT h) ?_)
    rintro _ w ⟨rfl, h⟩
    (first | refine r_v (q_pick1 rfl rfl rfl) rfl ?_ | refine r_v (q_pick0 rfl rfl rfl) rfl ?_ | refine r_v (q_pick1 rfl (by assumption) rfl) rfl ?_ | refine r_v (q_pick0 rfl (by assumption) rfl) rfl ?_ | refine r_v (q_pickB rfl rfl rfl) rfl ?_); refine r_v (q_assignB rfl) rfl ?_
    refine r_nil ?_
    exact c_ret (bq1 ⟨rfl, h.drop⟩)
  | some b =>
  have hb8 := chMake_len hM
  have hbm := chMake_len2 hwf hM
  have hopen := chOpen_told hwf (by omega) hM
  rw [show ((tg : Nat) : Int).toNat = tg from rfl] at hopen
  rintro _ w ⟨ba, bc, rfl, h⟩
  replace h : St w0 (OwnB ba bc b :: OwnS sa sc L :: l) w := h
  show Rn _ _ _ _ _ (upd _ _ (.tuple [.slice ba b.length bc, .bool true].toArray)) _
  refine r_v (q_moveT rfl) rfl ?_; refine r_v (q_ext rfl rfl) rfl ?_; refine r_v (q_ext rfl rfl) rfl ?_; refine r_v (q_assignS rfl) rfl ?_; refine r_v (q_assignB rfl) rfl ?_
  refine r_nil ?_
  refine c_seq (c_seq (c_region ?_))
  refine r_v (q_moveB rfl) rfl ?_; refine r_v (q_not rfl) rfl ?_
  refine r_nil (c_false rfl (c_skip ?_))
  refine c_seq (c_region ?_)
  refine r_v (q_moveS rfl) rfl ?_
  refine r_c rfl (x_call rfl (chnk_Open hT (bs := b) (by omega) h.own_cases.2.1 Reads.own h) ?_)
  rw [hopen]
  rintro _ w ⟨oa, oc, rfl, _, h⟩
  replace h : St w0 (OwnS oa oc L :: OwnB ba bc b :: OwnS sa sc L :: l) w := h
  show Rn _ _ _ _ _ (upd _ _ (.tuple [.slice oa L.length oc, .int .i64 (tg : Int), .bool true].toArray)) _
  refine r_v (q_moveT rfl) rfl ?_; refine r_v (q_ext rfl rfl) rfl ?_; refine r_v (q_ext rfl rfl) rfl ?_; refine r_v (q_ext rfl rfl) rfl ?_; refine r_v (q_assignS rfl) rfl ?_; refine r_v (q_assignI rfl) rfl ?_; refine r_v (q_assignB rfl) rfl ?_
  refine r_nil ?_
  refine c_seq (c_seq (c_region ?_))
  refine r_v (q_moveB rfl) rfl ?_; refine r_v (q_not rfl) rfl ?_; refine r_v (q_moveB rfl) rfl ?_; (first | refine r_gd rfl rfl ?_ | refine r_gn rfl rfl rfl ?_ | refine r_gu rfl rfl ?_ | refine r_gd rfl (by assumption) ?_ | refine r_gn rfl (by assumption) rfl ?_); refine r_v (q_moveI rfl) rfl ?_; (first | refine r_gd rfl rfl ?_ | refine r_gn rfl rfl rfl ?_ | refine r_gu rfl rfl ?_ | refine r_gd rfl (by assumption) ?_ | refine r_gn rfl (by assumption) rfl ?_); refine r_v (q_moveI rfl) rfl ?_; (first | refine r_gd rfl rfl ?_ | refine r_gn rfl rfl rfl ?_ | refine r_gu rfl rfl ?_ | refine r_gd rfl (by assumption) ?_ | refine r_gn rfl (by assumption) rfl ?_)
  refine r_v (q_is (v' := .int .i64 (a0 : Int)) (q_and rfl rfl) (congrArg (Value.int .i64) q1)) rfl ?_
  refine r_gd rfl rfl ?_
  refine r_v (q_is (v' := .int .i64 ((a0 % 6 : Nat) : Int)) (q_rem rfl rfl (by decide)) (congrArg (Value.int .i64) q2)) rfl ?_
  refine r_gd rfl rfl ?_
  refine r_v (q_is (v' := .int .i64 (tg : Int)) (q_add rfl rfl) (congrArg (Value.int .i64) q3)) rfl ?_
  refine r_gd rfl rfl ?_
  refine r_v (q_is (v' := .bool false) (q_neq rfl rfl) (by simp)) rfl ?_
  (first | refine r_v (q_pick1 rfl rfl rfl) rfl ?_ | refine r_v (q_pick0 rfl rfl rfl) rfl ?_ | refine r_v (q_pick1 rfl (by assumption) rfl) rfl ?_ | refine r_v (q_pick0 rfl (by assumption) rfl) rfl ?_ | refine r_v (q_pickB rfl rfl rfl) rfl ?_); refine r_v (q_moveB rfl) rfl ?_; (first | refine r_gd rfl rfl ?_ | refine r_gn rfl rfl rfl ?_ | refine r_gu rfl rfl ?_ | refine r_gd rfl (by assumption) ?_ | refine r_gn rfl (by assumption) rfl ?_); refine r_v (q_moveS rfl) rfl ?_; (first | refine r_gd rfl rfl ?_ | refine r_gn rfl rfl rfl ?_ | refine r_gu rfl rfl ?_ | refine r_gd rfl (by assumption) ?_ | refine r_gn rfl (by assumption) rfl ?_); refine r_v (q_moveS rfl) rfl ?_; (first | refine r_gd rfl rfl ?_ | refine r_gn rfl rfl rfl ?_ | refine r_gu rfl rfl ?_ | refine r_gd rfl (by assumption) ?_ | refine r_gn rfl (by assumption) rfl ?_)
  refine r_c rfl (x_call rfl (ref10_Same (L1 := L) (L2 := L) h (fun w' h' => h'.own_rd) (fun w' h' => (h'.f 2).own_rd) (by omega)) ?_)
  rintro _ w ⟨rfl, h⟩
  rw [show decide (L = L) = true by simp]
  (first | refine r_gd rfl rfl ?_ | refine r_gn rfl rfl rfl ?_ | refine r_gu rfl rfl ?_ | refine r_gd rfl (by assumption) ?_ | refine r_gn rfl (by assumption) rfl ?_); refine r_v (q_not rfl) rfl ?_; (first | refine r_v (q_pick1 rfl rfl rfl) rfl ?_ | refine r_v (q_pick0 rfl rfl rfl) rfl ?_ | refine r_v (q_pick1 rfl (by assumption) rfl) rfl ?_ | refine r_v (q_pick0 rfl (by assumption) rfl) rfl ?_ | refine r_v (q_pickB rfl rfl rfl) rfl ?_); refine r_v (q_moveB rfl) rfl ?_; (first | refine r_gd rfl rfl ?_ | refine r_gn rfl rfl rfl ?_ | refine r_gu rfl rfl ?_ | refine r_gd rfl (by assumption) ?_ | refine r_gn rfl (by assumption) rfl ?_); refine r_v (q_moveS rfl) rfl ?_; (first | refine r_gd rfl rfl ?_ | refine r_gn rfl rfl rfl ?_ | refine r_gu rfl rfl ?_ | refine r_gd rfl (by assumption) ?_ | refine r_gn rfl (by assumption) rfl ?_); refine r_v (q_len rfl) rfl ?_; (first | refine r_gd rfl rfl ?_ | refine r_gn rfl rfl rfl ?_ | refine r_gu rfl rfl ?_ | refine r_gd rfl (by assumption) ?_ | refine r_gn rfl (by assumption) rfl ?_)
  refine r_v (q_is (v' := .bool false) (q_eql rfl rfl) (by congr 1; rw [beq_eq_false_iff_ne]; omega)) rfl ?_
  (first | refine r_v (q_pick1 rfl rfl rfl) rfl ?_ | refine r_v (q_pick0 rfl rfl rfl) rfl ?_ | refine r_v (q_pick1 rfl (by assumption) rfl) rfl ?_ | refine r_v (q_pick0 rfl (by assumption) rfl) rfl ?_ | refine r_v (q_pickB rfl rfl rfl) rfl ?_)
  refine r_nil (c_false rfl (c_skip ?_))
  replace h := h.drop
  refine c_seq (c_region ?_)
  refine r_c rfl (x_bslice (r := []) h rfl rfl rfl fun bz w h => ?_)
  refine r_v (q_moveS rfl) rfl ?_
  have h1 : St w0 (OwnB (some ⟨bz, 0, none⟩) 0 [] :: OwnB ba bc b :: OwnS sa sc L :: l) w := St.own_mk (cur := []) h rfl rfl (Nat.le_refl _)
  refine r_c rfl (x_append' (zs := bytesV b) (m3 := b.length) h1 rfl rfl (h1.f 1).own_rd (bytesV_one _) (by simp) (List.nil_append _) (by omega) (by omega) rfl fun ca cc w _ h => ?_)
  clear h1
  refine r_v (q_assignS rfl) rfl ?_
  refine r_nil ?_
  obtain ⟨cb, hcsl⟩ := h.own_some (by omega)
  subst hcsl
  refine c_seq (c_region ?_)
  refine r_v (q_moveI rfl) rfl ?_; refine r_v (q_and rfl rfl) rfl ?_
  refine r_is (.int .i64 (k0 : Int)) (congrArg (Value.int .i64) ((and_mask 20 (by decide) (by decide)).trans hk0)) ?_
  refine r_v (q_moveS rfl) rfl ?_; refine r_v (q_len rfl) rfl ?_; refine r_v (q_mul rfl rfl) rfl ?_
  refine r_is (.int .i64 ((8 * b.length : Nat) : Int)) (by rw [wrap64 (by omega) (by omega)]; first | done | rfl | (congr 1; omega)) ?_
  refine r_v (q_is (v' := .int .i64 ((k0 % (8 * b.length) : Nat) : Int)) (q_rem rfl rfl (by omega)) (congrArg (Value.int .i64) (tmod_nat _ _))) rfl ?_
  refine r_v (q_assignI rfl) rfl ?_
  refine r_nil ?_
  have hkl : k0 % (8 * b.length) < 8 * b.length := Nat.mod_lt _ (by omega)
  generalize k0 % (8 * b.length) = k at hkl
  have hk8 : k / 8 < b.length := by omega
  have hgb := List.getElem?_eq_getElem hk8
  generalize b[k / 8] = y at hgb
  have hne := byte_turn (z := y) (Nat.mod_lt k (show 0 < 8 by decide))
  have hturn := chOpen_turned hM hgb hne
  have hp8 : 2 ^ (k % 8) < 256 := by
    have : 2 ^ (k % 8) < 2 ^ 8 := Nat.pow_lt_pow_right (by decide) (Nat.mod_lt k (show 0 < 8 by decide))
    exact this
  have hyl := y.toNat_lt
  refine c_seq (c_region ?_)
  refine r_v (q_moveS rfl) rfl ?_; refine r_v (q_moveI rfl) rfl ?_
  refine r_v (q_is (v' := .int .i64 ((k / 8 : Nat) : Int)) (q_quo rfl rfl (by decide)) (by rw [show ((k : Int).tdiv 8) = ((k / 8 : Nat) : Int) from tdiv_nat k 8, wrap64 (by omega) (by omega)])) rfl ?_
  refine r_v (q_moveS rfl) rfl ?_; refine r_v (q_moveI rfl) rfl ?_
  refine r_v (q_is (v' := .int .i64 ((k / 8 : Nat) : Int)) (q_quo rfl rfl (by decide)) (by rw [show ((k : Int).tdiv 8) = ((k / 8 : Nat) : Int) from tdiv_nat k 8, wrap64 (by omega) (by omega)])) rfl ?_
  refine r_v (q_idx (b := cb) (o := 0) (m := b.length) (c := cc) (j := k / 8) (o' := k / 8) rfl rfl rfl hk8 (by simp)) rfl ?_
  refine r_v (q_loadc (v := .int .u8 y.toNat) rfl (by have := (h.own_rd).cell (bytesV_get hgb); simpa using this)) rfl ?_
  refine r_v (q_moveI rfl) rfl ?_; refine r_v (q_and rfl rfl) rfl ?_
  refine r_is (.int .i64 ((k % 8 : Nat) : Int)) (congrArg (Value.int .i64) ((and_mask 3 (by decide) (by decide)).trans (by omega))) ?_
  refine r_v (q_conv rfl) rfl ?_
  refine r_is (.int .u64 ((k % 8 : Nat) : Int)) (congrArg (Value.int .u64) (conv_nat (by omega))) ?_
  refine r_v (q_is (v' := .int .u8 ((2 ^ (k % 8) : Nat) : Int)) (q_shl rfl rfl (by omega)) (congrArg (Value.int .u8) ((shl_u8 1 (k % 8) (by omega)).trans (by rw [Nat.one_mul, Nat.mod_eq_of_lt hp8])))) rfl ?_
  refine r_v (q_xor rfl rfl) rfl ?_
  refine r_is (.int .u8 ((y ^^^ UInt8.ofNat (2 ^ (k % 8))).toNat : Int)) (congrArg (Value.int .u8) (((bit_u8 hyl hp8).2.2).trans (by rw [UInt8.toNat_xor, UInt8.toNat_ofNat', Nat.mod_eq_of_lt hp8]))) ?_
  refine r_v (q_idx (b := cb) (o := 0) (m := b.length) (c := cc) (j := k / 8) (o' := k / 8) rfl rfl rfl hk8 (by simp)) rfl ?_
  refine r_c rfl (x_ownset (v := .int .u8 ((y ^^^ UInt8.ofNat (2 ^ (k % 8))).toNat : Int)) h rfl rfl (by omega) rfl fun w h => ?_)
  rw [bytesV_set] at h
  refine r_nil ?_
  have hcl : (b.set (k / 8) (y ^^^ UInt8.ofNat (2 ^ (k % 8)))).length = b.length := List.length_set
  generalize b.set (k / 8) (y ^^^ UInt8.ofNat (2 ^ (k % 8))) = cs at h hcl hturn
  replace h : St w0 (OwnB (some ⟨cb, 0, none⟩) cc cs :: OwnB ba bc b :: OwnS sa sc L :: l) w := by
    show St w0 (Own _ 1 _ cs.length _ _ :: _) w
    rw [hcl]; exact h
  rw [← hcl]
  refine c_seq (c_region ?_)
  refine r_v (q_moveS rfl) rfl ?_
  refine r_c rfl (x_call rfl (chnk_Open hT (bs := cs) (by omega) h.own_cases.2.1 Reads.own h) ?_)
  rw [hturn]
  rintro _ w ⟨ea, ec, rfl, _, h⟩
  replace h := h.drop
  show Rn _ _ _ _ _ (upd _ _ (.tuple [.slice ea 0 ec, .int .i64 0, .bool false].toArray)) _
  refine r_v (q_moveT rfl) rfl ?_; refine r_v (q_ext rfl rfl) rfl ?_; refine r_v (q_ext rfl rfl) rfl ?_; refine r_v (q_ext rfl rfl) rfl ?_; refine r_v (q_assignS rfl) rfl ?_; refine r_v (q_assignI rfl) rfl ?_; refine r_v (q_assignB rfl) rfl ?_
  refine r_nil ?_
  refine c_seq (c_region ?_)
  refine r_v (q_moveB rfl) rfl ?_; refine r_v (q_not rfl) rfl ?_; refine r_v (q_moveB rfl) rfl ?_; (first | refine r_gd rfl rfl ?_ | refine r_gn rfl rfl rfl ?_ | refine r_gu rfl rfl ?_ | refine r_gd rfl (by assumption) ?_ | refine r_gn rfl (by assumption) rfl ?_); refine r_v (q_moveI rfl) rfl ?_; (first | refine r_gd rfl rfl ?_ | refine r_gn rfl rfl rfl ?_ | refine r_gu rfl rfl ?_ | refine r_gd rfl (by assumption) ?_ | refine r_gn rfl (by assumption) rfl ?_); refine r_v (q_eql rfl rfl) rfl ?_; (first | refine r_v (q_pick1 rfl rfl rfl) rfl ?_ | refine r_v (q_pick0 rfl rfl rfl) rfl ?_ | refine r_v (q_pick1 rfl (by assumption) rfl) rfl ?_ | refine r_v (q_pick0 rfl (by assumption) rfl) rfl ?_ | refine r_v (q_pickB rfl rfl rfl) rfl ?_); refine r_v (q_moveB rfl) rfl ?_; (first | refine r_gd rfl rfl ?_ | refine r_gn rfl rfl rfl ?_ | refine r_gu rfl rfl ?_ | refine r_gd rfl (by assumption) ?_ | refine r_gn rfl (by assumption) rfl ?_); refine r_v (q_moveS rfl) rfl ?_; (first | refine r_gd rfl rfl ?_ | refine r_gn rfl rfl rfl ?_ | refine r_gu rfl rfl ?_ | refine r_gd rfl (by assumption) ?_ | refine r_gn rfl (by assumption) rfl ?_); refine r_v (q_len rfl) rfl ?_; (first | refine r_gd rfl rfl ?_ | refine r_gn rfl rfl rfl ?_ | refine r_gu rfl rfl ?_ | refine r_gd rfl (by assumption) ?_ | refine r_gn rfl (by assumption) rfl ?_); refine r_v (q_eql rfl rfl) rfl ?_; (first | refine r_v (q_pick1 rfl rfl rfl) rfl ?_ | refine r_v (q_pick0 rfl rfl rfl) rfl ?_ | refine r_v (q_pick1 rfl (by assumption) rfl) rfl ?_ | refine r_v (q_pick0 rfl (by assumption) rfl) rfl ?_ | refine r_v (q_pickB rfl rfl rfl) rfl ?_); refine r_v (q_moveB rfl) rfl ?_; (first | refine r_gd rfl rfl ?_ | refine r_gn rfl rfl rfl ?_ | refine r_gu rfl rfl ?_ | refine r_gd rfl (by assumption) ?_ | refine r_gn rfl (by assumption) rfl ?_)
  refine r_c rfl (x_call rfl (law11_awake hT h) ?_)
  rintro _ w ⟨rfl, h⟩
  (first | refine r_v (q_pick1 rfl rfl rfl) rfl ?_ | refine r_v (q_pick0 rfl rfl rfl) rfl ?_ | refine r_v (q_pick1 rfl (by assumption) rfl) rfl ?_ | refine r_v (q_pick0 rfl (by assumption) rfl) rfl ?_ | refine r_v (q_pickB rfl rfl rfl) rfl ?_); refine r_v (q_assignB rfl) rfl ?_
  refine r_nil ?_
  exact c_ret (bq1 ⟨rfl, h.drop.drop.drop⟩)
end
end Go.Proofs.YtjjacchnalemaaaDoor
