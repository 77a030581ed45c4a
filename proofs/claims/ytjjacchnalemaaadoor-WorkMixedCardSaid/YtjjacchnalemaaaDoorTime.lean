/- time: times by their differences: what each function does. -/
import Derived.Test.YtjjacchnalemaaaDoorRd
namespace Go.Proofs.YtjjacchnalemaaaDoor
open Go.Hw
set_option maxHeartbeats 4000000
set_option maxRecDepth 100000
section
variable {w0 w : World} {l : List HProp}

abbrev frmC (f : Frm) : List Value := [.int .u64 f.ahead, .int .i64 f.long, .int .i64 f.bits]
theorem time_which (d : Int) (h : St w0 l w) : Ret Tryd.prog 75 [.int .i64 d] w fun v w' => v = .agg (frmC (which d)).toArray ∧ St w0 l w' := by
  refine enter Tryd.func75 rfl Tryd.results75 Tryd.ntmps75 rfl ?_
  refine c_seq (c_region ?_)
  refine r_c rfl (x_alloc h fun b w h => ?_)
  refine r_nil ?_
  refine c_cut (Γ := Unit) (fun _ => [(2, .pointer (some ⟨b, 0, none⟩))]) (fun _ w => which d = ⟨15, 4, 64⟩ ∧ St w0 (pt b (.cells (frmC ⟨0, 0, 0⟩).toArray 111 (0, 0)) :: l) w) ?_ ?_
  · refine c_block ?_
    refine c_seq (c_region ?_)
    refine r_v (q_moveI rfl) rfl ?_; refine r_v (q_eql rfl rfl) rfl ?_; refine r_v (q_assignB rfl) rfl ?_
    refine r_nil ?_
    refine c_cond (d == 0) rfl (fun hc => ?_) (fun h0 => ?_)
    ·
      have hw : which d = ⟨0, 1, 0⟩ := by unfold which; rw [if_pos (by simpa using hc)]
      refine c_seq (c_region ?_)
      refine r_v (q_build (r := frmC ⟨0, 1, 0⟩) rfl) rfl ?_
      refine r_c rfl (x_storeA (vs := frmC ⟨0, 1, 0⟩) 0 h rfl rfl rfl rfl rfl rfl rfl fun w h => ?_)
      refine r_nil ?_
      rw [hw]
      exact c_ret (bqS1 (l := frmC ⟨0, 1, 0⟩) rfl rfl (at_of (h.b 0 rfl) rfl) ⟨rfl, h.drop⟩)
    have h0 : ¬ d = 0 := by simpa using h0
    refine c_cut (Γ := Bool) (fun k => [(0, .int .i64 d), (2, .pointer (some ⟨b, 0, none⟩)), (7, .bool k)]) (fun k w => (k = true ↔ -64 ≤ d ∧ d ≤ 63) ∧ St w0 (pt b (.cells (frmC ⟨0, 0, 0⟩).toArray 111 (0, 0)) :: l) w) ?_ ?_
    · refine c_region ?_
      refine r_v (q_moveI rfl) rfl ?_; refine r_v (q_geq rfl rfl) rfl ?_
      by_cases h1 : -64 ≤ d
      · refine r_is (.bool true) (congrArg Value.bool (decide_eq_true h1)) ?_
        refine r_v (q_moveB rfl) rfl ?_; (first | refine r_gd rfl rfl ?_ | refine r_gn rfl rfl rfl ?_ | refine r_gu rfl rfl ?_ | refine r_gd rfl (by assumption) ?_ | refine r_gn rfl (by assumption) rfl ?_); refine r_v (q_moveI rfl) rfl ?_; (first | refine r_gd rfl rfl ?_ | refine r_gn rfl rfl rfl ?_ | refine r_gu rfl rfl ?_ | refine r_gd rfl (by assumption) ?_ | refine r_gn rfl (by assumption) rfl ?_); refine r_v (q_leq rfl rfl) rfl ?_; (first | refine r_v (q_pick1 rfl rfl rfl) rfl ?_ | refine r_v (q_pick0 rfl rfl rfl) rfl ?_ | refine r_v (q_pick1 rfl (by assumption) rfl) rfl ?_ | refine r_v (q_pick0 rfl (by assumption) rfl) rfl ?_ | refine r_v (q_pickB rfl rfl rfl) rfl ?_); refine r_v (q_assignB rfl) rfl ?_
        exact r_nil ⟨decide (d ≤ 63), ⟨rfl, rfl, rfl, trivial⟩, by rw [decide_eq_true_eq]; exact ⟨fun h => ⟨h1, h⟩, fun h => h.2⟩, h⟩
      · refine r_is (.bool false) (congrArg Value.bool (decide_eq_false h1)) ?_
        refine r_v (q_moveB rfl) rfl ?_; (first | refine r_gd rfl rfl ?_ | refine r_gn rfl rfl rfl ?_ | refine r_gu rfl rfl ?_ | refine r_gd rfl (by assumption) ?_ | refine r_gn rfl (by assumption) rfl ?_); (first | refine r_gd rfl rfl ?_ | refine r_gn rfl rfl rfl ?_ | refine r_gu rfl rfl ?_ | refine r_gd rfl (by assumption) ?_ | refine r_gn rfl (by assumption) rfl ?_); (first | refine r_v (q_pick1 rfl rfl rfl) rfl ?_ | refine r_v (q_pick0 rfl rfl rfl) rfl ?_ | refine r_v (q_pick1 rfl (by assumption) rfl) rfl ?_ | refine r_v (q_pick0 rfl (by assumption) rfl) rfl ?_ | refine r_v (q_pickB rfl rfl rfl) rfl ?_); refine r_v (q_assignB rfl) rfl ?_
        exact r_nil ⟨false, ⟨rfl, rfl, rfl, trivial⟩, ⟨(fun h => by cases h), fun h => absurd h.1 h1⟩, h⟩
    clear h
    rintro k w e ⟨hk1, h⟩
    refine c_cond k rfl (fun hc => ?_) (fun hc1 => ?_)
    ·
      have hw : which d = ⟨2, 2, 7⟩ := by unfold which; rw [if_neg h0, if_pos (hk1.1 hc)]
      refine c_seq (c_region ?_)
      refine r_v (q_build (r := frmC ⟨2, 2, 7⟩) rfl) rfl ?_
      refine r_c rfl (x_storeA (vs := frmC ⟨2, 2, 7⟩) 0 h rfl rfl rfl rfl rfl rfl rfl fun w h => ?_)
      refine r_nil ?_
      rw [hw]
      exact c_ret (bqS1 (l := frmC ⟨2, 2, 7⟩) rfl rfl (at_of (h.b 0 rfl) rfl) ⟨rfl, h.drop⟩)
    refine c_cut (Γ := Bool) (fun k => [(0, .int .i64 d), (2, .pointer (some ⟨b, 0, none⟩)), (15, .bool k)]) (fun k w => (k = true ↔ -256 ≤ d ∧ d ≤ 255) ∧ St w0 (pt b (.cells (frmC ⟨0, 0, 0⟩).toArray 111 (0, 0)) :: l) w) ?_ ?_
    · refine c_region ?_
      refine r_v (q_moveI rfl) rfl ?_; refine r_v (q_geq rfl rfl) rfl ?_
      by_cases h1 : -256 ≤ d
      · refine r_is (.bool true) (congrArg Value.bool (decide_eq_true h1)) ?_
        refine r_v (q_moveB rfl) rfl ?_; (first | refine r_gd rfl rfl ?_ | refine r_gn rfl rfl rfl ?_ | refine r_gu rfl rfl ?_ | refine r_gd rfl (by assumption) ?_ | refine r_gn rfl (by assumption) rfl ?_); refine r_v (q_moveI rfl) rfl ?_; (first | refine r_gd rfl rfl ?_ | refine r_gn rfl rfl rfl ?_ | refine r_gu rfl rfl ?_ | refine r_gd rfl (by assumption) ?_ | refine r_gn rfl (by assumption) rfl ?_); refine r_v (q_leq rfl rfl) rfl ?_; (first | refine r_v (q_pick1 rfl rfl rfl) rfl ?_ | refine r_v (q_pick0 rfl rfl rfl) rfl ?_ | refine r_v (q_pick1 rfl (by assumption) rfl) rfl ?_ | refine r_v (q_pick0 rfl (by assumption) rfl) rfl ?_ | refine r_v (q_pickB rfl rfl rfl) rfl ?_); refine r_v (q_assignB rfl) rfl ?_
        exact r_nil ⟨decide (d ≤ 255), ⟨rfl, rfl, rfl, trivial⟩, by rw [decide_eq_true_eq]; exact ⟨fun h => ⟨h1, h⟩, fun h => h.2⟩, h⟩
      · refine r_is (.bool false) (congrArg Value.bool (decide_eq_false h1)) ?_
        refine r_v (q_moveB rfl) rfl ?_; (first | refine r_gd rfl rfl ?_ | refine r_gn rfl rfl rfl ?_ | refine r_gu rfl rfl ?_ | refine r_gd rfl (by assumption) ?_ | refine r_gn rfl (by assumption) rfl ?_); (first | refine r_gd rfl rfl ?_ | refine r_gn rfl rfl rfl ?_ | refine r_gu rfl rfl ?_ | refine r_gd rfl (by assumption) ?_ | refine r_gn rfl (by assumption) rfl ?_); (first | refine r_v (q_pick1 rfl rfl rfl) rfl ?_ | refine r_v (q_pick0 rfl rfl rfl) rfl ?_ | refine r_v (q_pick1 rfl (by assumption) rfl) rfl ?_ | refine r_v (q_pick0 rfl (by assumption) rfl) rfl ?_ | refine r_v (q_pickB rfl rfl rfl) rfl ?_); refine r_v (q_assignB rfl) rfl ?_
        exact r_nil ⟨false, ⟨rfl, rfl, rfl, trivial⟩, ⟨(fun h => by cases h), fun h => absurd h.1 h1⟩, h⟩
    clear h
    rintro k2 w e ⟨hk2, h⟩
    have n1 : ¬ (-64 ≤ d ∧ d ≤ 63) := fun hh => by rw [hk1.2 hh] at hc1; cases hc1
    refine c_cond k2 rfl (fun hc => ?_) (fun hc2 => ?_)
    ·
      have hw : which d = ⟨6, 3, 9⟩ := by unfold which; rw [if_neg h0, if_neg n1, if_pos (hk2.1 hc)]
      refine c_seq (c_region ?_)
      refine r_v (q_build (r := frmC ⟨6, 3, 9⟩) rfl) rfl ?_
      refine r_c rfl (x_storeA (vs := frmC ⟨6, 3, 9⟩) 0 h rfl rfl rfl rfl rfl rfl rfl fun w h => ?_)
      refine r_nil ?_
      rw [hw]
      exact c_ret (bqS1 (l := frmC ⟨6, 3, 9⟩) rfl rfl (at_of (h.b 0 rfl) rfl) ⟨rfl, h.drop⟩)
    refine c_cut (Γ := Bool) (fun k => [(0, .int .i64 d), (2, .pointer (some ⟨b, 0, none⟩)), (23, .bool k)]) (fun k w => (k = true ↔ -2048 ≤ d ∧ d ≤ 2047) ∧ St w0 (pt b (.cells (frmC ⟨0, 0, 0⟩).toArray 111 (0, 0)) :: l) w) ?_ ?_
    · refine c_region ?_
      refine r_v (q_moveI rfl) rfl ?_; refine r_v (q_geq rfl rfl) rfl ?_
      by_cases h1 : -2048 ≤ d
      · refine r_is (.bool true) (congrArg Value.bool (decide_eq_true h1)) ?_
        refine r_v (q_moveB rfl) rfl ?_; (first | refine r_gd rfl rfl ?_ | refine r_gn rfl rfl rfl ?_ | refine r_gu rfl rfl ?_ | refine r_gd rfl (by assumption) ?_ | refine r_gn rfl (by assumption) rfl ?_); refine r_v (q_moveI rfl) rfl ?_; (first | refine r_gd rfl rfl ?_ | refine r_gn rfl rfl rfl ?_ | refine r_gu rfl rfl ?_ | refine r_gd rfl (by assumption) ?_ | refine r_gn rfl (by assumption) rfl ?_); refine r_v (q_leq rfl rfl) rfl ?_; (first | refine r_v (q_pick1 rfl rfl rfl) rfl ?_ | refine r_v (q_pick0 rfl rfl rfl) rfl ?_ | refine r_v (q_pick1 rfl (by assumption) rfl) rfl ?_ | refine r_v (q_pick0 rfl (by assumption) rfl) rfl ?_ | refine r_v (q_pickB rfl rfl rfl) rfl ?_); refine r_v (q_assignB rfl) rfl ?_
        exact r_nil ⟨decide (d ≤ 2047), ⟨rfl, rfl, rfl, trivial⟩, by rw [decide_eq_true_eq]; exact ⟨fun h => ⟨h1, h⟩, fun h => h.2⟩, h⟩
      · refine r_is (.bool false) (congrArg Value.bool (decide_eq_false h1)) ?_
        refine r_v (q_moveB rfl) rfl ?_; (first | refine r_gd rfl rfl ?_ | refine r_gn rfl rfl rfl ?_ | refine r_gu rfl rfl ?_ | refine r_gd rfl (by assumption) ?_ | refine r_gn rfl (by assumption) rfl ?_); (first | refine r_gd rfl rfl ?_ | refine r_gn rfl rfl rfl ?_ | refine r_gu rfl rfl ?_ | refine r_gd rfl (by assumption) ?_ | refine r_gn rfl (by assumption) rfl ?_); (first | refine r_v (q_pick1 rfl rfl rfl) rfl ?_ | refine r_v (q_pick0 rfl rfl rfl) rfl ?_ | refine r_v (q_pick1 rfl (by assumption) rfl) rfl ?_ | refine r_v (q_pick0 rfl (by assumption) rfl) rfl ?_ | refine r_v (q_pickB rfl rfl rfl) rfl ?_); refine r_v (q_assignB rfl) rfl ?_
        exact r_nil ⟨false, ⟨rfl, rfl, rfl, trivial⟩, ⟨(fun h => by cases h), fun h => absurd h.1 h1⟩, h⟩
    clear h
    rintro k3 w e ⟨hk3, h⟩
    have n2 : ¬ (-256 ≤ d ∧ d ≤ 255) := fun hh => by rw [hk2.2 hh] at hc2; cases hc2
    refine c_cond k3 rfl (fun hc => ?_) (fun hc3 => ?_)
    ·
      have hw : which d = ⟨14, 4, 12⟩ := by unfold which; rw [if_neg h0, if_neg n1, if_neg n2, if_pos (hk3.1 hc)]
      refine c_seq (c_region ?_)
      refine r_v (q_build (r := frmC ⟨14, 4, 12⟩) rfl) rfl ?_
      refine r_c rfl (x_storeA (vs := frmC ⟨14, 4, 12⟩) 0 h rfl rfl rfl rfl rfl rfl rfl fun w h => ?_)
      refine r_nil ?_
      rw [hw]
      exact c_ret (bqS1 (l := frmC ⟨14, 4, 12⟩) rfl rfl (at_of (h.b 0 rfl) rfl) ⟨rfl, h.drop⟩)
    have n3 : ¬ (-2048 ≤ d ∧ d ≤ 2047) := fun hh => by rw [hk3.2 hh] at hc3; cases hc3
    exact c_skip ⟨(), ⟨rfl, trivial⟩, by unfold which; rw [if_neg h0, if_neg n1, if_neg n2, if_neg n3], h⟩
  clear h
  rintro ⟨⟩ w e ⟨hw, h⟩
  refine c_seq (c_region ?_)
  refine r_v (q_build (r := frmC ⟨15, 4, 64⟩) rfl) rfl ?_
  refine r_c rfl (x_storeA (vs := frmC ⟨15, 4, 64⟩) 0 h rfl rfl rfl rfl rfl rfl rfl fun w h => ?_)
  refine r_nil ?_
  rw [hw]
  exact c_ret (bqS1 (l := frmC ⟨15, 4, 64⟩) rfl rfl (at_of (h.b 0 rfl) rfl) ⟨rfl, h.drop⟩)
theorem which_le (d : Int) : (which d).ahead ≤ 15 ∧ (which d).long ≤ 4 ∧ (which d).bits ≤ 64 := by
  rcases which_cases d with ⟨h, _⟩ | ⟨h, _⟩ | ⟨h, _⟩ | ⟨h, _⟩ | h <;> rw [h] <;> decide
theorem timesRest_len : ∀ (ts : List Int) (was step : Nat), (timesRest was step ts).length ≤ 68 * ts.length
  | [], _, _ => Nat.le_refl _
  | t :: ts, was, step => by
    have h1 := timesRest_len ts (us t) (diff (us t) was)
    obtain ⟨_, h2, h3⟩ := which_le (sg (diff (diff (us t) was) step))
    rw [timesRest, List.length_append, List.length_append, bitsOf_len, bitsOf_len, List.length_cons]
    omega
theorem timesBits_len (ts : List Int) : (timesBits ts).length ≤ 68 * ts.length := by
  cases ts with
  | nil => exact Nat.le_refl _
  | cons t ts =>
    have := timesRest_len ts (us t) 0
    rw [timesBits, List.length_append, bitsOf_len, List.length_cons]
    omega
theorem wrap_diff {a b : Nat} (hb : b < 18446744073709551616) : IntKind.u64.wrap ((a : Int) - (b : Int)) = ((diff a b : Nat) : Int) := by
  rw [wrap_us]; unfold us diff; omega
theorem wrap_summ (a b : Nat) : IntKind.u64.wrap ((a : Int) + (b : Int)) = ((summ a b : Nat) : Int) := by
  rw [wrap_us]; unfold us summ; omega

theorem time_Encode {p : Nat} {bs : List Bool} {sl : Option Addr} {c : Nat} {ts : List Int} (hi : ∀ t ∈ ts, I64 t) (hn : ts.length ≤ 65535) (hb : bs.length ≤ 1073741824) (h : St w0 (IsBW p bs :: l) w) (hr : ∀ bs' w', St w0 (IsBW p bs' :: l) w' → Rd w' 1 sl ts.length (i64V ts)) :
    Ret Tryd.prog 43 [.pointer (some ⟨p, 0, none⟩), .slice sl ts.length c] w fun v w' => v = .tuple #[] ∧ St w0 (IsBW p (bs ++ timesBits ts) :: l) w' := by
  refine enter Tryd.func43 rfl Tryd.results43 Tryd.ntmps43 rfl ?_
  have htl := timesBits_len ts
  refine c_seq (c_region ?_)
  refine r_v (q_assignI rfl) rfl ?_; refine r_v (q_assignI rfl) rfl ?_
  refine r_nil ?_
  refine c_seq (c_region ?_)
  refine r_v (q_moveS rfl) rfl ?_; refine r_v (q_len rfl) rfl ?_; refine r_v (q_moveI rfl) rfl ?_
  refine r_nil ?_
  refine c_block ?_
  refine c_loop (Γ := Nat × Nat × Nat × List Bool) (fun k => [(0, .pointer (some ⟨p, 0, none⟩)), (4, .int .u64 k.2.1), (5, .int .u64 k.2.2.1), (11, .slice sl ts.length c), (12, .int .i64 ts.length), (13, .int .i64 k.1)])
    (fun k w => k.1 ≤ ts.length ∧ k.2.1 < 18446744073709551616 ∧ k.2.2.1 < 18446744073709551616 ∧ (k.1 = 0 → k.2.2.1 = 0 ∧ k.2.2.2 = bs) ∧ (0 < k.1 → k.2.2.2 ++ timesRest k.2.1 k.2.2.1 (ts.drop k.1) = bs ++ timesBits ts) ∧ k.2.2.2.length ≤ bs.length + (timesBits ts).length ∧ St w0 (IsBW p k.2.2.2 :: l) w)
    (fun k => ts.length - k.1) (0, 0, 0, bs) ⟨rfl, rfl, rfl, rfl, rfl, rfl, trivial⟩ ⟨Nat.zero_le _, (by decide : (0 : Nat) < 18446744073709551616), (by decide : (0 : Nat) < 18446744073709551616), fun _ => ⟨rfl, rfl⟩, (fun h => absurd h (by decide : ¬ (0 : Nat) < 0)), Nat.le_add_right _ _, h⟩ ?_
  clear h
  rintro ⟨i, was, step, out⟩ w e ⟨hin, hwas, hstep, h00, hnz, hol, h⟩
  dsimp only at hin hwas hstep h00 hnz hol h ⊢
  refine c_seq (c_region ?_)
  refine r_v (q_lss rfl rfl) rfl ?_
  refine r_nil ?_
  refine c_seq (c_cond (decide ((i : Int) < (ts.length : Int))) rfl (fun hc => ?_) (fun hc => ?_))
  ·
    have hlt : i < ts.length := by simp at hc; omega
    have hg := List.getElem?_eq_getElem hlt
    have hdr := List.drop_eq_getElem_cons hlt
    generalize ts[i] = t at hg hdr
    have ht := hi t (List.mem_of_getElem? hg)
    have hut := us_lt t
    obtain ⟨b, o, hsl⟩ := (hr _ w h).some (by omega)
    refine c_skip ?_
    refine c_cut (Γ := Nat × List Bool) (fun k => [(0, .pointer (some ⟨p, 0, none⟩)), (4, .int .u64 (us t)), (5, .int .u64 k.1), (11, .slice sl ts.length c), (12, .int .i64 ts.length), (13, .int .i64 i)])
      (fun k w => k.1 < 18446744073709551616 ∧ k.2 ++ timesRest (us t) k.1 (ts.drop (i + 1)) = bs ++ timesBits ts ∧ St w0 (IsBW p k.2 :: l) w) ?_ ?_
    · refine c_block ?_
      refine c_seq (c_region ?_)
      refine r_v (q_moveI rfl) rfl ?_
      refine r_v (q_idx (b := b) (o := o) (m := ts.length) (c := c) (o' := o + i) (by rw [← hsl]; rfl) rfl rfl hlt (by simp)) rfl ?_
      refine r_v (q_loadc (v := .int .i64 t) rfl ((hsl ▸ hr _ w h).cell (i64V_get hg))) rfl ?_
      refine r_v (q_assignI rfl) rfl ?_; refine r_v (q_assignI rfl) rfl ?_
      refine r_nil ?_
      refine c_seq (c_region ?_)
      refine r_v (q_moveI rfl) rfl ?_; refine r_v (q_conv rfl) rfl ?_
      refine r_is (.int .u64 (us t : Nat)) (by rw [wrap_us]) ?_
      refine r_v (q_assignI rfl) rfl ?_
      refine r_nil ?_
      refine c_seq (c_seq (c_region ?_))
      refine r_v (q_moveI rfl) rfl ?_; refine r_v (q_eql rfl rfl) rfl ?_
      by_cases hi0 : i = 0
      · refine r_is (.bool true) (by subst hi0; rfl) ?_
        refine r_nil (c_true rfl ?_)
        obtain ⟨hs0, ho0⟩ := h00 hi0
        refine c_seq (c_region ?_)
        refine r_v (q_moveP rfl) rfl ?_; refine r_v (q_moveI rfl) rfl ?_
        refine r_c rfl (x_call rfl (bits_Put (us t) 64 hut (by omega) h) ?_)
        rintro _ w ⟨rfl, h⟩
        refine r_nil ?_
        refine c_seq (c_region ?_)
        refine r_v (q_moveI rfl) rfl ?_; refine r_v (q_assignI rfl) rfl ?_
        refine r_nil ?_
        refine c_exit ⟨(step, out ++ bitsOf (us t) (heldN 64)), ⟨rfl, rfl, rfl, rfl, rfl, rfl, trivial⟩, hstep, ?_, h⟩
        rw [hi0, List.drop_zero] at hdr
        rw [hdr, ho0, hs0, hi0, timesBits, List.append_assoc]
        rfl
      refine r_is (.bool false) (by simp; omega) ?_
      refine r_nil (c_false rfl (c_skip ?_))
      have he := hnz (by omega)
      rw [hdr, timesRest] at he
      refine c_seq (c_region ?_)
      refine r_v (q_moveI rfl) rfl ?_; refine r_v (q_moveI rfl) rfl ?_; refine r_v (q_sub rfl rfl) rfl ?_
      refine r_is (.int .u64 (diff (us t) was : Nat)) (by rw [wrap_diff hwas]) ?_
      refine r_v (q_moveI rfl) rfl ?_; refine r_v (q_sub rfl rfl) rfl ?_
      refine r_is (.int .u64 (diff (diff (us t) was) step : Nat)) (by rw [wrap_diff hstep]) ?_
      have hd : diff (diff (us t) was) step < 18446744073709551616 := Nat.mod_lt _ (by decide)
      have hd1 : diff (us t) was < 18446744073709551616 := Nat.mod_lt _ (by decide)
      generalize hde : diff (diff (us t) was) step = d at *
      obtain ⟨hf1, hf2, hf3⟩ := which_le (sg d)
      have hlen := congrArg List.length he
      simp only [List.length_append, bitsOf_len] at hlen
      refine r_v (q_assignI rfl) rfl ?_
      refine r_nil ?_
      refine c_seq (c_region ?_)
      refine r_v (q_moveI rfl) rfl ?_; refine r_v (q_conv rfl) rfl ?_
      refine r_is (.int .i64 (sg d)) (by rw [wrap_sg hd]) ?_
      refine r_c rfl (x_call rfl (time_which (sg d) h) ?_)
      rintro _ w ⟨rfl, h⟩
      refine r_c rfl (x_alloc h fun b2 w h => ?_)
      refine r_c rfl (x_storeA (vs := frmC (which (sg d))) 0 h rfl rfl rfl rfl rfl rfl rfl fun w h => ?_)
      replace h : St w0 (pt b2 (.cells (frmC (which (sg d))).toArray 111 (0, 0)) :: IsBW p out :: l) w := h
      refine r_nil ?_
      refine c_seq (c_region ?_)
      refine r_v (q_moveP rfl) rfl ?_; refine r_v (q_fa rfl) rfl ?_; (first | refine r_v (q_load rfl (h.b 0) rfl) rfl ?_ | refine r_v (q_load rfl (h.b 1) rfl) rfl ?_ | refine r_v (q_load rfl (h.b 2) rfl) rfl ?_ | refine r_v (q_load rfl (h.b 3) rfl) rfl ?_ | refine r_v (q_load rfl (h.b 4) rfl) rfl ?_ | refine r_v (q_load rfl (h.b 5) rfl) rfl ?_); refine r_v (q_fa rfl) rfl ?_; (first | refine r_v (q_load rfl (h.b 0) rfl) rfl ?_ | refine r_v (q_load rfl (h.b 1) rfl) rfl ?_ | refine r_v (q_load rfl (h.b 2) rfl) rfl ?_ | refine r_v (q_load rfl (h.b 3) rfl) rfl ?_ | refine r_v (q_load rfl (h.b 4) rfl) rfl ?_ | refine r_v (q_load rfl (h.b 5) rfl) rfl ?_)
      refine r_c rfl (x_call rfl (bits_Put (which (sg d)).ahead (which (sg d)).long (by omega) (by omega) (h.f 1)) ?_)
      rintro _ w ⟨rfl, h⟩
      refine r_nil ?_
      refine c_seq (c_region ?_)
      refine r_v (q_moveP rfl) rfl ?_; refine r_v (q_moveI rfl) rfl ?_; refine r_v (q_fa rfl) rfl ?_; (first | refine r_v (q_load rfl (h.b 0) rfl) rfl ?_ | refine r_v (q_load rfl (h.b 1) rfl) rfl ?_ | refine r_v (q_load rfl (h.b 2) rfl) rfl ?_ | refine r_v (q_load rfl (h.b 3) rfl) rfl ?_ | refine r_v (q_load rfl (h.b 4) rfl) rfl ?_ | refine r_v (q_load rfl (h.b 5) rfl) rfl ?_)
      refine r_c rfl (x_call rfl (bits_Put d (which (sg d)).bits hd (by rw [heldN_nat (by omega), List.length_append, bitsOf_len]; omega) h) ?_)
      rintro _ w ⟨rfl, h⟩
      refine r_nil ?_
      refine c_region ?_
      refine r_v (q_moveI rfl) rfl ?_; refine r_v (q_moveI rfl) rfl ?_; refine r_v (q_moveI rfl) rfl ?_; refine r_v (q_sub rfl rfl) rfl ?_
      refine r_is (.int .u64 (diff (us t) was : Nat)) (by rw [wrap_diff hwas]) ?_
      refine r_v (q_assignI rfl) rfl ?_; refine r_v (q_assignI rfl) rfl ?_
      refine r_nil ⟨(diff (us t) was, _), ⟨rfl, rfl, rfl, rfl, rfl, rfl, trivial⟩, hd1, ?_, (h.f 1).drop⟩
      rw [heldN_nat (by omega), heldN_nat (by omega), List.append_assoc, List.append_assoc, ← he]
    clear h
    rintro ⟨step', out'⟩ w e ⟨hs', he', h⟩
    dsimp only at hs' he' h ⊢
    refine c_region ?_
    refine r_v (q_add rfl rfl) rfl ?_
    refine r_is (.int .i64 ((i + 1 : Nat) : Int)) (by rw [wrap64 (by omega) (by omega)]; rfl) ?_
    refine r_v (q_moveI rfl) rfl ?_
    refine r_nil ⟨(i + 1, us t, step', out'), ⟨rfl, rfl, rfl, rfl, rfl, rfl, trivial⟩, ⟨hlt, hut, hs', (fun h => by cases h), fun _ => he', ?_, h⟩, by dsimp only; omega⟩
    have := congrArg List.length he'
    simp only [List.length_append] at this
    dsimp only
    omega
  have hin' : i = ts.length := by simp at hc; omega
  refine c_exit ?_
  have : out = bs ++ timesBits ts := by
    rcases Nat.eq_zero_or_pos i with h0 | h0
    · rw [(h00 h0).2]
      have : ts = [] := List.eq_nil_of_length_eq_zero (by omega)
      rw [this]; simp [timesBits]
    · have := hnz h0
      rw [hin', List.drop_length, timesRest, List.append_nil] at this
      exact this
  rw [← this]
  exact (show (packv [] : Value) = .tuple #[] ∧ _ from ⟨rfl, h⟩)
end
end Go.Proofs.YtjjacchnalemaaaDoor
