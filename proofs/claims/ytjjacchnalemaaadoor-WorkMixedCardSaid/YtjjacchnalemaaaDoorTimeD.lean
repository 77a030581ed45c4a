/- time: reading times. -/
import Derived.Test.YtjjacchnalemaaaDoorTime
namespace Go.Proofs.YtjjacchnalemaaaDoor
open Go.Hw
set_option maxHeartbeats 4000000
set_option maxRecDepth 100000
section
variable {w0 w : World} {l : List HProp} {p : Nat}

theorem heldN_one : heldN 1 = 1 := rfl
theorem time_ahead {s : RS} (h : St w0 (IsBR p s :: l) w) : Ret Tryd.prog 111 [.pointer (some ⟨p, 0, none⟩)] w fun v w' => v = .int .i64 ((aheadR 4 s).1 : Nat) ∧ St w0 (IsBR p (aheadR 4 s).2 :: l) w' := by
  refine enter Tryd.func111 rfl Tryd.results111 Tryd.ntmps111 rfl ?_
  refine c_seq (c_region ?_)
  refine r_v (q_assignI rfl) rfl ?_
  refine r_nil ?_
  refine c_seq (c_region ?_)
  refine r_v (q_assignI rfl) rfl ?_
  refine r_nil ?_
  refine c_cut (Γ := Unit) (fun _ => [(0, .pointer (some ⟨p, 0, none⟩)), (3, .int .i64 ((aheadR 4 s).1 : Nat))]) (fun _ w => St w0 (IsBR p (aheadR 4 s).2 :: l) w) ?_ ?_
  · refine c_block ?_
    refine c_loop (Γ := Nat × Nat × RS) (fun k => [(0, .pointer (some ⟨p, 0, none⟩)), (3, .int .i64 k.1)])
      (fun k w => k.1 + k.2.1 = 4 ∧ (aheadR k.2.1 k.2.2).1 + k.1 = (aheadR 4 s).1 ∧ (aheadR k.2.1 k.2.2).2 = (aheadR 4 s).2 ∧ St w0 (IsBR p k.2.2 :: l) w) (fun k => k.2.1) (0, 4, s) ⟨rfl, rfl, trivial⟩ ⟨rfl, rfl, rfl, h⟩ ?_
    clear h
    rintro ⟨n, k, s'⟩ w e ⟨hk, h1, h2, h⟩
    dsimp only at hk h1 h2 h ⊢
    refine c_seq (c_seq (c_region ?_))
    refine r_v (q_moveI rfl) rfl ?_; refine r_v (q_lss rfl rfl) rfl ?_
    cases k with
    | zero =>
      refine r_is (.bool false) (by simp; omega) ?_
      refine r_v (q_moveB rfl) rfl ?_; (first | refine r_gd rfl rfl ?_ | refine r_gn rfl rfl rfl ?_ | refine r_gu rfl rfl ?_ | refine r_gd rfl (by assumption) ?_ | refine r_gn rfl (by assumption) rfl ?_); (first | refine r_gd rfl rfl ?_ | refine r_gn rfl rfl rfl ?_ | refine r_gu rfl rfl ?_ | refine r_gd rfl (by assumption) ?_ | refine r_gn rfl (by assumption) rfl ?_); (first | refine r_gd rfl rfl ?_ | refine r_gn rfl rfl rfl ?_ | refine r_gu rfl rfl ?_ | refine r_gd rfl (by assumption) ?_ | refine r_gn rfl (by assumption) rfl ?_); (first | refine r_v (q_pick1 rfl rfl rfl) rfl ?_ | refine r_v (q_pick0 rfl rfl rfl) rfl ?_ | refine r_v (q_pick1 rfl (by assumption) rfl) rfl ?_ | refine r_v (q_pick0 rfl (by assumption) rfl) rfl ?_ | refine r_v (q_pickB rfl rfl rfl) rfl ?_)
      refine r_nil (c_false rfl ?_)
      refine c_exit ⟨(), ⟨rfl, ?_, trivial⟩, ?_⟩
      · rw [← h1]; show Value.int .i64 _ = Value.int .i64 _; rw [aheadR, Nat.zero_add]
      · rw [← h2]; exact h
    | succ k =>
      refine r_is (.bool true) (by simp; omega) ?_
      refine r_v (q_moveB rfl) rfl ?_; (first | refine r_gd rfl rfl ?_ | refine r_gn rfl rfl rfl ?_ | refine r_gu rfl rfl ?_ | refine r_gd rfl (by assumption) ?_ | refine r_gn rfl (by assumption) rfl ?_); refine r_v (q_moveP rfl) rfl ?_; (first | refine r_gd rfl rfl ?_ | refine r_gn rfl rfl rfl ?_ | refine r_gu rfl rfl ?_ | refine r_gd rfl (by assumption) ?_ | refine r_gn rfl (by assumption) rfl ?_)
      refine r_c rfl (x_call rfl (bits_Get 1 h) ?_)
      rintro _ w ⟨rfl, h⟩
      rw [heldN_one] at h ⊢
      (first | refine r_gd rfl rfl ?_ | refine r_gn rfl rfl rfl ?_ | refine r_gu rfl rfl ?_ | refine r_gd rfl (by assumption) ?_ | refine r_gn rfl (by assumption) rfl ?_); refine r_v (q_eql rfl rfl) rfl ?_
      rw [aheadR] at h1 h2
      by_cases hb : (s'.get 1).1 = 1
      · rw [if_pos hb] at h1 h2
        refine r_is (.bool true) (by rw [hb]; rfl) ?_
        (first | refine r_v (q_pick1 rfl rfl rfl) rfl ?_ | refine r_v (q_pick0 rfl rfl rfl) rfl ?_ | refine r_v (q_pick1 rfl (by assumption) rfl) rfl ?_ | refine r_v (q_pick0 rfl (by assumption) rfl) rfl ?_ | refine r_v (q_pickB rfl rfl rfl) rfl ?_)
        refine r_nil (c_true rfl (c_skip ?_))
        refine c_block ?_
        refine c_region ?_
        refine r_v (q_moveI rfl) rfl ?_; refine r_v (q_add rfl rfl) rfl ?_
        refine r_is (.int .i64 ((n + 1 : Nat) : Int)) (by rw [wrap64 (by omega) (by omega)]; rfl) ?_
        refine r_v (q_assignI rfl) rfl ?_
        exact r_nil ⟨(n + 1, k, (s'.get 1).2), ⟨rfl, rfl, trivial⟩, ⟨by dsimp only; omega, by dsimp only at h1 ⊢; omega, h2, h⟩, by dsimp only; omega⟩
      · rw [if_neg hb] at h1 h2
        refine r_is (.bool false) (by congr 1; rw [beq_eq_false_iff_ne]; omega) ?_
        (first | refine r_v (q_pick1 rfl rfl rfl) rfl ?_ | refine r_v (q_pick0 rfl rfl rfl) rfl ?_ | refine r_v (q_pick1 rfl (by assumption) rfl) rfl ?_ | refine r_v (q_pick0 rfl (by assumption) rfl) rfl ?_ | refine r_v (q_pickB rfl rfl rfl) rfl ?_)
        refine r_nil (c_false rfl ?_)
        refine c_exit ⟨(), ⟨rfl, ?_, trivial⟩, ?_⟩
        · rw [← h1]; show Value.int .i64 _ = Value.int .i64 _; rw [Nat.zero_add]
        · rw [← h2]; exact h
  clear h
  rintro ⟨⟩ w e h
  refine c_seq (c_region ?_)
  refine r_v (q_moveI rfl) rfl ?_; refine r_v (q_assignI rfl) rfl ?_
  refine r_nil ?_
  exact c_ret (bq1 ⟨rfl, h⟩)
theorem longs_le (k : Nat) : longs k ≤ 64 := by
  unfold longs
  match k with
  | 0 | 1 | 2 | 3 | 4 => decide
  | k + 5 => exact (by decide : (0 : Nat) ≤ 64)
theorem longs_get {k : Nat} (h : k ≤ 4) : (i64V [0, 7, 9, 12, 64])[k]? = some (.int .i64 (longs k : Nat)) := by
  rcases (by omega : k = 0 ∨ k = 1 ∨ k = 2 ∨ k = 3 ∨ k = 4) with rfl | rfl | rfl | rfl | rfl <;> rfl
theorem sext_shift {g n : Nat} (hg : g < 2 ^ n) (hn : n ≤ 64) (h0 : n ≠ 0) : (sg (g * 2 ^ (64 - n))).fdiv (2 ^ (64 - n)) = sext g n ∧ g * 2 ^ (64 - n) < 18446744073709551616 := by
  have hP : 0 < 2 ^ (64 - n) := Nat.two_pow_pos _
  have h64 : 2 ^ n * 2 ^ (64 - n) = 18446744073709551616 := by rw [← Nat.pow_add, show n + (64 - n) = 64 by omega]
  have h63 : 2 ^ (n - 1) * 2 ^ (64 - n) = 9223372036854775808 := by rw [← Nat.pow_add, show n - 1 + (64 - n) = 63 by omega]
  have hlt : g * 2 ^ (64 - n) < 18446744073709551616 := by rw [← h64]; exact Nat.mul_lt_mul_of_pos_right hg hP
  refine ⟨?_, hlt⟩
  have hPi : ((2 : Int) ^ (64 - n)) = ((2 ^ (64 - n) : Nat) : Int) := by simp
  have hni : ((2 : Int) ^ n) = ((2 ^ n : Nat) : Int) := by simp
  unfold sext
  rw [if_neg h0, hPi, hni, Int.fdiv_eq_ediv_of_nonneg _ (by omega)]
  unfold sg
  by_cases hl : g < 2 ^ (n - 1)
  · rw [if_pos hl, if_pos (by rw [← h63]; exact Nat.mul_lt_mul_of_pos_right hl hP), ← Int.natCast_ediv, Nat.mul_div_cancel _ hP]
  · rw [if_neg hl, if_neg (by rw [← h63]; exact Nat.not_lt.2 (Nat.mul_le_mul_right _ (Nat.not_lt.1 hl)))]
    have e : ((g * 2 ^ (64 - n) : Nat) : Int) - 18446744073709551616 = ((g : Int) - ((2 ^ n : Nat) : Int)) * ((2 ^ (64 - n) : Nat) : Int) := by
      rw [Int.sub_mul, ← Int.natCast_mul, ← Int.natCast_mul, h64]; rfl
    rw [e, Int.mul_ediv_cancel _ (by omega)]

theorem time_next {s : RS} (h : St w0 (IsBR p s :: l) w) : Ret Tryd.prog 78 [.pointer (some ⟨p, 0, none⟩)] w fun v w' => v = .tuple [.int .i64 (nextT s).1, .bool (nextOk s)].toArray ∧ St w0 (IsBR p (nextT s).2 :: l) w' := by
  refine enter Tryd.func78 rfl Tryd.results78 Tryd.ntmps78 rfl ?_
  refine c_seq (c_region ?_)
  refine r_v (q_assignI rfl) rfl ?_; refine r_v (q_assignB rfl) rfl ?_
  refine r_nil ?_
  refine c_seq (c_region ?_)
  refine r_v (q_moveP rfl) rfl ?_
  refine r_c rfl (x_call rfl (time_ahead h) ?_)
  rintro _ w ⟨rfl, h⟩
  refine r_v (q_assignI rfl) rfl ?_
  refine r_nil ?_
  have hle := aheadR_le 4 s
  have hnT : nextT s = (sext ((aheadR 4 s).2.get (longs (aheadR 4 s).1)).1 (longs (aheadR 4 s).1), ((aheadR 4 s).2.get (longs (aheadR 4 s).1)).2) := rfl
  have hnO : nextOk s = decide ((which (nextT s).1).bits = longs (aheadR 4 s).1) := rfl
  generalize hk : (aheadR 4 s).1 = k at *
  generalize (aheadR 4 s).2 = s1 at *
  have hll := longs_le k
  refine c_seq (c_region ?_)
  refine r_c rfl (x_bslice (r := i64V [0, 7, 9, 12, 64]) h rfl rfl rfl fun b w h => ?_)
  refine r_v (q_moveI rfl) rfl ?_
  refine r_v (q_idx (o' := k) rfl rfl rfl (by omega) (by simp)) rfl ?_
  refine r_v (q_load (v := .int .i64 (longs k : Nat)) rfl (h.b 0 rfl) (longs_get hle)) rfl ?_
  replace h := h.drop
  refine r_v (q_assignI rfl) rfl ?_
  refine r_nil ?_
  have hgl := RS.get_lt s1 (longs k)
  refine c_seq (c_region ?_)
  refine r_v (q_moveP rfl) rfl ?_; refine r_v (q_moveI rfl) rfl ?_
  refine r_c rfl (x_call rfl (bits_Get (longs k) h) ?_)
  rintro _ w ⟨rfl, h⟩
  rw [heldN_nat hll] at h ⊢
  generalize hg : s1.get (longs k) = gs at *
  obtain ⟨g, s2⟩ := gs
  dsimp only at h hgl hnT ⊢
  refine r_v (q_moveI rfl) rfl ?_; refine r_v (q_sub rfl rfl) rfl ?_
  refine r_is (.int .i64 ((64 - longs k : Nat) : Int)) (by rw [wrap64 (by omega) (by omega)]; congr 1; omega) ?_
  refine r_v (q_is (v' := .int .u64 ((g * 2 ^ (64 - longs k) % 18446744073709551616 : Nat) : Int)) (q_shl rfl rfl (by omega)) (congrArg (Value.int .u64) (shl_u64 g (64 - longs k) (by omega)))) rfl ?_
  refine r_v (q_conv rfl) rfl ?_
  refine r_is (.int .i64 (sg (g * 2 ^ (64 - longs k) % 18446744073709551616))) (by rw [wrap_sg (Nat.mod_lt _ (by decide))]) ?_
  refine r_v (q_moveI rfl) rfl ?_; refine r_v (q_max rfl rfl) rfl ?_; refine r_v (q_sub rfl rfl) rfl ?_
  refine r_is (.int .i64 ((64 - max (longs k) 1 : Nat) : Int)) (by rw [wrap64 (by omega) (by omega)]; congr 1; omega) ?_
  refine r_v (q_shr rfl rfl (by omega)) rfl ?_
  refine r_int fun d hd => ?_
  refine r_v (q_assignI rfl) rfl ?_
  refine r_nil ?_
  refine c_cut (Γ := Unit) (fun _ => [(5, .int .i64 (longs k : Nat)), (6, .int .i64 (sext g (longs k)))]) (fun _ w => St w0 (IsBR p s2 :: l) w) ?_ ?_
  · refine c_seq (c_region ?_)
    refine r_v (q_moveI rfl) rfl ?_; refine r_v (q_eql rfl rfl) rfl ?_
    by_cases h0 : longs k = 0
    · refine r_is (.bool true) (by rw [h0]; rfl) ?_
      refine r_nil (c_true rfl ?_)
      refine c_region ?_
      refine r_v (q_assignI rfl) rfl ?_
      refine r_nil ⟨(), ⟨rfl, ?_, trivial⟩, h⟩
      show Value.int .i64 0 = _
      unfold sext; rw [if_pos h0]
    · refine r_is (.bool false) (by congr 1; rw [beq_eq_false_iff_ne]; omega) ?_
      refine r_nil (c_false rfl (c_skip ⟨(), ⟨rfl, ?_, trivial⟩, h⟩))
      show Value.int .i64 d = _
      obtain ⟨h1, h2⟩ := sext_shift hgl hll h0
      rw [hd, Nat.mod_eq_of_lt h2, show max (longs k) 1 = longs k by omega, Int.toNat_natCast, Nat.min_eq_left (show 64 - longs k ≤ IntKind.i64.bits by show 64 - longs k ≤ 64; omega), h1]
  clear h hd d
  rintro ⟨⟩ w e h
  refine c_seq (c_region ?_)
  refine r_v (q_moveI rfl) rfl ?_; refine r_v (q_moveI rfl) rfl ?_
  refine r_c rfl (x_call rfl (time_which (sext g (longs k)) h) ?_)
  rintro _ w ⟨rfl, h⟩
  refine r_v (q_field (ft := 3) (o := 2) Tryd.underlying111 (by kernel_rfl) rfl rfl) rfl ?_
  refine r_v (q_moveI rfl) rfl ?_; refine r_v (q_eql rfl rfl) rfl ?_
  refine r_is (.bool (nextOk s)) (by
    rw [hnO, hnT]
    dsimp only
    congr 1
    rw [Bool.eq_iff_iff, beq_iff_eq, decide_eq_true_eq]
    exact ⟨fun h => by omega, fun h => by rw [h]⟩) ?_
  refine r_v (q_assignI rfl) rfl ?_; refine r_v (q_assignB rfl) rfl ?_
  refine r_nil ?_
  rw [hnT]
  exact c_ret (bq2 ⟨rfl, h⟩)

/-- How many are asked for. -/
def askN (n : Int) : Nat := (min (max n 0) 65535).toNat
theorem askN_le (n : Int) : askN n ≤ 65535 := by unfold askN; omega
theorem time_Decode {s : RS} (n : Int) (h : St w0 (IsBR p s :: l) w) : Ret Tryd.prog 47 [.pointer (some ⟨p, 0, none⟩), .int .i64 n] w fun v w' =>
    (timesDec (askN n) s = none ∧ v = .tuple [.slice none 0 0, .bool false].toArray ∧ ∃ s', St w0 (IsBR p s' :: l) w') ∨
    (∃ x a c, timesDec (askN n) s = some x ∧ v = .tuple [.slice a x.1.length c, .bool true].toArray ∧ St w0 (Own 2 1 a x.1.length c (i64V x.1) :: IsBR p x.2 :: l) w') := by
  have hm := askN_le n
  refine enter Tryd.func47 rfl Tryd.results47 Tryd.ntmps47 rfl ?_
  refine c_seq (c_region ?_)
  refine r_v (q_assignS rfl) rfl ?_; refine r_v (q_assignB rfl) rfl ?_
  refine r_nil ?_
  refine c_seq (c_region ?_)
  refine r_v (q_moveI rfl) rfl ?_; refine r_v (q_max rfl rfl) rfl ?_; refine r_v (q_min rfl rfl) rfl ?_
  refine r_is (.int .i64 (askN n)) (by unfold askN; congr 1; omega) ?_
  generalize askN n = m at hm ⊢
  refine r_v (q_assignI rfl) rfl ?_
  refine r_nil ?_
  refine c_seq (c_region ?_)
  refine r_v (q_assignS rfl) rfl ?_
  refine r_nil ?_
  refine c_seq (c_region ?_)
  refine r_v (q_assignI rfl) rfl ?_; refine r_v (q_assignI rfl) rfl ?_
  refine r_nil ?_
  refine c_seq (c_seq (c_region ?_))
  refine r_v (q_moveI rfl) rfl ?_; refine r_v (q_moveI rfl) rfl ?_
  refine r_nil ?_
  refine c_block ?_
  refine c_loop (Γ := Nat × List Int × Nat × Nat × RS × Option Addr × Nat) (fun k => [(0, .pointer (some ⟨p, 0, none⟩)), (6, .slice k.2.2.2.2.2.1 k.2.1.length k.2.2.2.2.2.2), (7, .int .u64 k.2.2.1), (8, .int .u64 k.2.2.2.1), (15, .int .i64 m), (16, .int .i64 k.1)])
    (fun k w => k.1 ≤ m ∧ k.2.1.length = k.1 ∧ k.2.2.1 < 18446744073709551616 ∧ k.2.2.2.1 < 18446744073709551616 ∧ ((k.1 = 0 ∧ k.2.2.2.1 = 0 ∧ k.2.2.2.2.1 = s) ∨ (0 < k.1 ∧ k.2.2.2.2.1.bad = false ∧ timesDec m s = (timesDecA (m - k.1) k.2.2.1 k.2.2.2.1 k.2.2.2.2.1).map fun r => (k.2.1 ++ r.1, r.2)))
      ∧ St w0 (Own 2 1 k.2.2.2.2.2.1 k.2.1.length k.2.2.2.2.2.2 (i64V k.2.1) :: IsBR p k.2.2.2.2.1 :: l) w)
    (fun k => m - k.1) (0, [], 0, 0, s, none, 0) ⟨rfl, rfl, rfl, rfl, rfl, rfl, trivial⟩ ⟨Nat.zero_le _, rfl, (by decide : (0 : Nat) < 18446744073709551616), (by decide : (0 : Nat) < 18446744073709551616), .inl ⟨rfl, rfl, rfl⟩, St.ownNil _ _ h⟩ ?_
  clear h
  rintro ⟨i, out, was, step, s', a, c⟩ w e ⟨him, hol, hwas, hstep, inv, h⟩
  dsimp only at him hol hwas hstep inv h ⊢
  refine c_seq (c_region ?_)
  refine r_v (q_lss rfl rfl) rfl ?_
  refine r_nil ?_
  refine c_seq (c_cond (decide ((i : Int) < (m : Int))) rfl (fun hc => ?_) (fun hc => ?_))
  ·
    have hlt : i < m := by simp at hc; omega
    refine c_skip ?_
    refine c_seq (c_block ?_)
    refine c_seq (c_region ?_)
    refine r_v (q_moveI rfl) rfl ?_; refine r_v (q_assignI rfl) rfl ?_
    refine r_nil ?_
    refine c_cut (Γ := Nat × Nat × RS) (fun k => [(0, .pointer (some ⟨p, 0, none⟩)), (6, .slice a out.length c), (7, .int .u64 k.1), (8, .int .u64 k.2.1), (15, .int .i64 m), (16, .int .i64 i)])
      (fun k w => k.1 < 18446744073709551616 ∧ k.2.1 < 18446744073709551616 ∧ (timesDec m s = if k.2.2.bad = true then none else (timesDecA (m - (i + 1)) k.1 k.2.1 k.2.2).map fun r => (out ++ sg k.1 :: r.1, r.2)) ∧ St w0 (Own 2 1 a out.length c (i64V out) :: IsBR p k.2.2 :: l) w) ?_ ?_
    · refine c_seq (c_region ?_)
      refine r_v (q_moveI rfl) rfl ?_; refine r_v (q_eql rfl rfl) rfl ?_
      rcases inv with ⟨hi0, hs0, rfl⟩ | ⟨hi0, hbad, inv⟩
      · refine r_is (.bool true) (by subst hi0; rfl) ?_
        refine r_nil (c_true rfl ?_)
        refine c_region ?_
        refine r_v (q_moveP rfl) rfl ?_
        refine r_c rfl (x_call rfl (bits_Get 64 (h.f 1)) ?_)
        rintro _ w ⟨rfl, h⟩
        rw [show heldN 64 = 64 from rfl] at h ⊢
        refine r_v (q_assignI rfl) rfl ?_
        refine r_nil ⟨((s'.get 64).1, step, (s'.get 64).2), ⟨rfl, rfl, rfl, rfl, rfl, rfl, trivial⟩, RS.get_lt s' 64, hstep, ?_, h.f 1⟩
        dsimp only
        have : out = [] := List.eq_nil_of_length_eq_zero (by omega)
        subst this
        rw [hs0, hi0]
        cases m with
        | zero => omega
        | succ m => rfl
      · refine r_is (.bool false) (by simp; omega) ?_
        refine r_nil (c_false rfl ?_)
        refine c_seq (c_region ?_)
        refine r_v (q_moveP rfl) rfl ?_
        refine r_c rfl (x_call rfl (time_next (h.f 1)) ?_)
        rintro _ w ⟨rfl, h⟩
        refine r_v (q_moveT rfl) rfl ?_; refine r_v (q_ext rfl rfl) rfl ?_; refine r_v (q_ext rfl rfl) rfl ?_; refine r_v (q_assignI rfl) rfl ?_; refine r_v (q_assignB rfl) rfl ?_
        refine r_nil ?_
        refine c_seq (c_seq (c_region ?_))
        refine r_v (q_moveB rfl) rfl ?_; refine r_v (q_not rfl) rfl ?_
        rw [show m - i = (m - (i + 1)) + 1 by omega, timesDecA] at inv
        refine r_nil ?_
        refine c_cond (!nextOk s') rfl (fun hc => ?_) (fun hc => ?_)
        ·
          have hno : nextOk s' = false := by simpa using hc
          refine c_seq (c_region ?_)
          refine r_v (q_assignS rfl) rfl ?_; refine r_v (q_assignB rfl) rfl ?_
          refine r_nil ?_
          rw [if_neg (by rw [hno]; simp)] at inv
          exact c_ret (bq2 (.inl ⟨inv, rfl, _, (h.f 1).drop⟩))
        have hok : nextOk s' = true := by simpa using hc
        refine c_skip ?_
        refine c_seq (c_region ?_)
        refine r_v (q_moveI rfl) rfl ?_; refine r_v (q_moveI rfl) rfl ?_; refine r_v (q_conv rfl) rfl ?_
        refine r_is (.int .u64 (us (nextT s').1 : Nat)) (by rw [wrap_us]) ?_
        refine r_v (q_add rfl rfl) rfl ?_
        refine r_is (.int .u64 (summ step (us (nextT s').1) : Nat)) (by rw [wrap_summ]) ?_
        refine r_v (q_assignI rfl) rfl ?_
        refine r_nil ?_
        refine c_region ?_
        refine r_v (q_moveI rfl) rfl ?_; refine r_v (q_moveI rfl) rfl ?_; refine r_v (q_add rfl rfl) rfl ?_
        refine r_is (.int .u64 (summ was (summ step (us (nextT s').1)) : Nat)) (by rw [wrap_summ]) ?_
        refine r_v (q_assignI rfl) rfl ?_
        refine r_nil ⟨(summ was (summ step (us (nextT s').1)), summ step (us (nextT s').1), (nextT s').2), ⟨rfl, rfl, rfl, rfl, rfl, rfl, trivial⟩, Nat.mod_lt _ (by decide), Nat.mod_lt _ (by decide), ?_, h.f 1⟩
        rw [inv]
        dsimp only
        cases hb : (nextT s').2.bad with
        | true => rw [if_neg (by simp), if_pos rfl]; rfl
        | false => rw [if_pos ⟨hok, rfl⟩, if_neg (by simp), Option.map_map]; rfl
    clear h inv
    rintro ⟨was', step', s2⟩ w e ⟨hw', hs', inv, h⟩
    dsimp only at hw' hs' inv h ⊢
    refine c_seq (c_seq (c_region ?_))
    refine r_v (q_moveP rfl) rfl ?_
    refine r_c rfl (x_call rfl (bits_Ok (h.f 1)) ?_)
    rintro _ w ⟨rfl, h⟩
    refine r_v (q_not rfl) rfl ?_
    refine r_nil ?_
    refine c_cond (!!s2.bad) rfl (fun hc => ?_) (fun hc => ?_)
    ·
      have hb : s2.bad = true := by simpa using hc
      refine c_seq (c_region ?_)
      refine r_v (q_assignS rfl) rfl ?_; refine r_v (q_assignB rfl) rfl ?_
      refine r_nil ?_
      rw [if_pos hb] at inv
      exact c_ret (bq2 (.inl ⟨inv, rfl, _, (h.f 1).drop⟩))
    have hb : s2.bad = false := by simpa using hc
    rw [if_neg (by rw [hb]; simp)] at inv
    refine c_skip ?_
    refine c_region ?_
    refine r_v (q_moveS rfl) rfl ?_; refine r_v (q_moveI rfl) rfl ?_; refine r_v (q_conv rfl) rfl ?_
    refine r_is (.int .i64 (sg was')) (by rw [wrap_sg hw']) ?_
    refine r_c rfl (x_bslice (r := i64V [sg was']) (h.f 1) rfl rfl rfl fun b w h => ?_)
    refine r_c rfl (x_append' (ys := i64V [sg was']) (zs := i64V (out ++ [sg was'])) (m3 := (out ++ [sg was']).length) (h.f 1) rfl rfl ⟨rfl, .inr ⟨b, 0, rfl, at_of (h.b 0 rfl) rfl⟩⟩ (i64V_one _) (by simp) (by simp [i64V]) (by simp; omega) (by simp; omega) rfl fun a' c' w _ h => ?_)
    refine r_v (q_assignS rfl) rfl ?_
    refine r_nil ?_
    refine c_region ?_
    refine r_v (q_add rfl rfl) rfl ?_
    refine r_is (.int .i64 ((i + 1 : Nat) : Int)) (by rw [wrap64 (by omega) (by omega)]; rfl) ?_
    refine r_v (q_moveI rfl) rfl ?_
    refine r_nil ⟨(i + 1, out ++ [sg was'], was', step', s2, a', c'), ⟨rfl, rfl, rfl, rfl, rfl, rfl, trivial⟩, ⟨hlt, by dsimp only; simp; omega, hw', hs', .inr ⟨Nat.succ_pos _, hb, ?_⟩, (h.f 1).drop⟩, by dsimp only; omega⟩
    rw [inv]
    dsimp only
    congr 1
    funext r
    simp
  have hin : i = m := by simp at hc; omega
  refine c_exit ?_
  refine c_seq (c_seq (c_region ?_))
  refine r_v (q_moveP rfl) rfl ?_
  refine r_c rfl (x_call rfl (bits_Ok (h.f 1)) ?_)
  rintro _ w ⟨rfl, h⟩
  refine r_v (q_not rfl) rfl ?_
  refine r_nil ?_
  have key : timesDec m s = if s'.bad = true then none else some (out, s') := by
    rcases inv with ⟨hi0, hs0, rfl⟩ | ⟨hi0, hbad, inv⟩
    · have : out = [] := List.eq_nil_of_length_eq_zero (by omega)
      subst this
      rw [← hin, hi0]; rfl
    · rw [inv, hin, Nat.sub_self, hbad]
      simp [timesDecA]
  refine c_cond (!!s'.bad) rfl (fun hc => ?_) (fun hc => ?_)
  ·
    refine c_seq (c_region ?_)
    refine r_v (q_assignS rfl) rfl ?_; refine r_v (q_assignB rfl) rfl ?_
    refine r_nil ?_
    rw [if_pos (by simpa using hc)] at key
    exact c_ret (bq2 (.inl ⟨key, rfl, _, (h.f 1).drop⟩))
  rw [if_neg (by simpa using hc)] at key
  refine c_skip ?_
  refine c_seq (c_region ?_)
  refine r_v (q_moveS rfl) rfl ?_; refine r_v (q_assignS rfl) rfl ?_; refine r_v (q_assignB rfl) rfl ?_
  refine r_nil ?_
  exact c_ret (bq2 (.inr ⟨(out, s'), a, c, key, rfl, h.f 1⟩))
end
end Go.Proofs.YtjjacchnalemaaaDoor
