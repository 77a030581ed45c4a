/- What the proof of ReptForms needs, part 3: plain lemmas, and what each function does. -/
import Derived.Test.YtnnehiiblfmpnaaGreatDoorQReptFormsb
import Derived.Lib.ItoaLen
import Derived.Lib.ParseIntB
import Derived.Lib.SplitLaws
import Derived.Shelf.Strings.Builder1
import Derived.Shelf.LaysM
import Derived.Shelf.Strconv.Itoa4
import Derived.Shelf.Strconv.ParseIntEmpty
import Derived.Shelf.LaysC
import Derived.Shelf.Strconv.ToError
import Derived.Shelf.Strconv.Lower
import Derived.Shelf.Strconv.ToErrorRange
import Derived.Shelf.Strconv.ParseUintEmpty
import Derived.Shelf.Strconv.ParseInt10At64
import Derived.Shelf.Strings.Split
import Derived.Test.YtnnehiiblfmpnaaGreatDoorProg
import Derived.Sort.Grow
set_option linter.unusedVariables false
set_option linter.unusedSimpArgs false
set_option linter.unnecessarySimpa false
namespace Go.Proofs.YtnnehiiblfmpnaaGreatDoor
open Go.Hw
set_option maxHeartbeats 4000000
set_option maxRecDepth 100000
section
variable {w0 w : World} {l : List HProp}

abbrev frmC (f : Frm) : List Value := [.int .u64 f.ahead, .int .i64 f.long, .int .i64 f.bits]
theorem time_which (d : Int) (h : St w0 l w) : Ret Tryz.prog 247 [.int .i64 d] w fun v w' => v = .agg (frmC (which d)).toArray ∧ St w0 l w' := by
 refine enter Tryz.func247 rfl Tryz.results247 Tryz.ntmps247 rfl ?_
 refine c_seq (c_region ?_)
 refine r_c rfl (x_alloc h fun b w h => ?_)
 refine r_nil ?_
 refine c_cut (Γ := Unit) (fun _ => [(2, .pointer (some ⟨b, 0, none⟩))]) (fun _ w => which d = ⟨15, 4, 64⟩ ∧ St w0 (pt b (.cells (frmC ⟨0, 0, 0⟩).toArray 337 (0, 0)) :: l) w) ?_ ?_
 ·refine c_block ?_
  refine c_seq (c_region ?_)
  refine r_v (q_moveI rfl) rfl ?_; refine r_v (q_eql rfl rfl) rfl ?_; refine r_v (q_assignB rfl) rfl ?_
  refine r_nil ?_
  refine c_cond (d == 0) rfl (fun hc => ?_) (fun h0 => ?_)
  ·
   have hw : which d = ⟨0, 1, 0⟩ := by unfold which; rw [if_pos (by simpa using hc)]
   refine c_seq (c_region ?_)
   refine r_v (q_build (r := frmC ⟨0, 1, 0⟩) rfl) rfl ?_
   refine r_c rfl (x_storeA (vs := frmC ⟨0, 1, 0⟩) 0 h rfl rfl rfl rfl rfl rfl rfl fun w h => ?_)
   refine r_nil ?_
   rw [hw]
   exact c_ret (bqS1 (l := frmC ⟨0, 1, 0⟩) rfl rfl (at_of (h.b 0 rfl) rfl) ⟨rfl, h.drop⟩)
  have h0 : ¬ d = 0 := by simpa using h0
  refine c_cut (Γ := Bool) (fun k => [(0, .int .i64 d), (2, .pointer (some ⟨b, 0, none⟩)), (7, .bool k)]) (fun k w => (k = true ↔ -64 ≤ d ∧ d ≤ 63) ∧ St w0 (pt b (.cells (frmC ⟨0, 0, 0⟩).toArray 337 (0, 0)) :: l) w) ?_ ?_
  ·refine c_region ?_
   refine r_v (q_moveI rfl) rfl ?_; refine r_v (q_geq rfl rfl) rfl ?_
   by_cases h1 : -64 ≤ d
   ·refine r_is (.bool true) (congrArg Value.bool (decide_eq_true h1)) ?_
    refine r_v (q_moveB rfl) rfl ?_; refine r_gd rfl rfl ?_; refine r_v (q_moveI rfl) rfl ?_; refine r_gd rfl rfl ?_; refine r_v (q_leq rfl rfl) rfl ?_; refine r_v (q_pick1 rfl rfl rfl) rfl ?_; refine r_v (q_assignB rfl) rfl ?_
    exact r_nil ⟨decide (d ≤ 63), ⟨rfl, rfl, rfl, trivial⟩, by rw [decide_eq_true_eq]; exact ⟨fun h => ⟨h1, h⟩, fun h => h.2⟩, h⟩
   ·refine r_is (.bool false) (congrArg Value.bool (decide_eq_false h1)) ?_
    refine r_v (q_moveB rfl) rfl ?_; refine r_gn rfl rfl rfl ?_; refine r_gn rfl rfl rfl ?_; refine r_v (q_pick0 rfl rfl rfl) rfl ?_; refine r_v (q_assignB rfl) rfl ?_
    exact r_nil ⟨false, ⟨rfl, rfl, rfl, trivial⟩, ⟨(fun h => by cases h), fun h => absurd h.1 h1⟩, h⟩
  clear h
  rintro k w e ⟨hk1, h⟩
  refine c_cond k rfl (fun hc => ?_) (fun hc1 => ?_)
  ·
   have hw : which d = ⟨2, 2, 7⟩ := by unfold which; rw [if_neg h0, if_pos (hk1.1 hc)]
   refine c_seq (c_region ?_)
   refine r_v (q_build (r := frmC ⟨2, 2, 7⟩) rfl) rfl ?_
   refine r_c rfl (x_storeA (vs := frmC ⟨2, 2, 7⟩) 0 h rfl rfl rfl rfl rfl rfl rfl fun w h => ?_)
   refine r_nil ?_
   rw [hw]
   exact c_ret (bqS1 (l := frmC ⟨2, 2, 7⟩) rfl rfl (at_of (h.b 0 rfl) rfl) ⟨rfl, h.drop⟩)
  refine c_cut (Γ := Bool) (fun k => [(0, .int .i64 d), (2, .pointer (some ⟨b, 0, none⟩)), (15, .bool k)]) (fun k w => (k = true ↔ -256 ≤ d ∧ d ≤ 255) ∧ St w0 (pt b (.cells (frmC ⟨0, 0, 0⟩).toArray 337 (0, 0)) :: l) w) ?_ ?_
  ·refine c_region ?_
   refine r_v (q_moveI rfl) rfl ?_; refine r_v (q_geq rfl rfl) rfl ?_
   by_cases h1 : -256 ≤ d
   ·refine r_is (.bool true) (congrArg Value.bool (decide_eq_true h1)) ?_
    refine r_v (q_moveB rfl) rfl ?_; refine r_gd rfl rfl ?_; refine r_v (q_moveI rfl) rfl ?_; refine r_gd rfl rfl ?_; refine r_v (q_leq rfl rfl) rfl ?_; refine r_v (q_pick1 rfl rfl rfl) rfl ?_; refine r_v (q_assignB rfl) rfl ?_
    exact r_nil ⟨decide (d ≤ 255), ⟨rfl, rfl, rfl, trivial⟩, by rw [decide_eq_true_eq]; exact ⟨fun h => ⟨h1, h⟩, fun h => h.2⟩, h⟩
   ·refine r_is (.bool false) (congrArg Value.bool (decide_eq_false h1)) ?_
    refine r_v (q_moveB rfl) rfl ?_; refine r_gn rfl rfl rfl ?_; refine r_gn rfl rfl rfl ?_; refine r_v (q_pick0 rfl rfl rfl) rfl ?_; refine r_v (q_assignB rfl) rfl ?_
    exact r_nil ⟨false, ⟨rfl, rfl, rfl, trivial⟩, ⟨(fun h => by cases h), fun h => absurd h.1 h1⟩, h⟩
  clear h
  rintro k2 w e ⟨hk2, h⟩
  have n1 : ¬ (-64 ≤ d ∧ d ≤ 63) := fun hh => by rw [hk1.2 hh] at hc1; cases hc1
  refine c_cond k2 rfl (fun hc => ?_) (fun hc2 => ?_)
  ·
   have hw : which d = ⟨6, 3, 9⟩ := by unfold which; rw [if_neg h0, if_neg n1, if_pos (hk2.1 hc)]
   refine c_seq (c_region ?_)
   refine r_v (q_build (r := frmC ⟨6, 3, 9⟩) rfl) rfl ?_
   refine r_c rfl (x_storeA (vs := frmC ⟨6, 3, 9⟩) 0 h rfl rfl rfl rfl rfl rfl rfl fun w h => ?_)
   refine r_nil ?_
   rw [hw]
   exact c_ret (bqS1 (l := frmC ⟨6, 3, 9⟩) rfl rfl (at_of (h.b 0 rfl) rfl) ⟨rfl, h.drop⟩)
  refine c_cut (Γ := Bool) (fun k => [(0, .int .i64 d), (2, .pointer (some ⟨b, 0, none⟩)), (23, .bool k)]) (fun k w => (k = true ↔ -2048 ≤ d ∧ d ≤ 2047) ∧ St w0 (pt b (.cells (frmC ⟨0, 0, 0⟩).toArray 337 (0, 0)) :: l) w) ?_ ?_
  ·refine c_region ?_
   refine r_v (q_moveI rfl) rfl ?_; refine r_v (q_geq rfl rfl) rfl ?_
   by_cases h1 : -2048 ≤ d
   ·refine r_is (.bool true) (congrArg Value.bool (decide_eq_true h1)) ?_
    refine r_v (q_moveB rfl) rfl ?_; refine r_gd rfl rfl ?_; refine r_v (q_moveI rfl) rfl ?_; refine r_gd rfl rfl ?_; refine r_v (q_leq rfl rfl) rfl ?_; refine r_v (q_pick1 rfl rfl rfl) rfl ?_; refine r_v (q_assignB rfl) rfl ?_
    exact r_nil ⟨decide (d ≤ 2047), ⟨rfl, rfl, rfl, trivial⟩, by rw [decide_eq_true_eq]; exact ⟨fun h => ⟨h1, h⟩, fun h => h.2⟩, h⟩
   ·refine r_is (.bool false) (congrArg Value.bool (decide_eq_false h1)) ?_
    refine r_v (q_moveB rfl) rfl ?_; refine r_gn rfl rfl rfl ?_; refine r_gn rfl rfl rfl ?_; refine r_v (q_pick0 rfl rfl rfl) rfl ?_; refine r_v (q_assignB rfl) rfl ?_
    exact r_nil ⟨false, ⟨rfl, rfl, rfl, trivial⟩, ⟨(fun h => by cases h), fun h => absurd h.1 h1⟩, h⟩
  clear h
  rintro k3 w e ⟨hk3, h⟩
  have n2 : ¬ (-256 ≤ d ∧ d ≤ 255) := fun hh => by rw [hk2.2 hh] at hc2; cases hc2
  refine c_cond k3 rfl (fun hc => ?_) (fun hc3 => ?_)
  ·
   have hw : which d = ⟨14, 4, 12⟩ := by unfold which; rw [if_neg h0, if_neg n1, if_neg n2, if_pos (hk3.1 hc)]
   refine c_seq (c_region ?_)
   refine r_v (q_build (r := frmC ⟨14, 4, 12⟩) rfl) rfl ?_
   refine r_c rfl (x_storeA (vs := frmC ⟨14, 4, 12⟩) 0 h rfl rfl rfl rfl rfl rfl rfl fun w h => ?_)
   refine r_nil ?_
   rw [hw]
   exact c_ret (bqS1 (l := frmC ⟨14, 4, 12⟩) rfl rfl (at_of (h.b 0 rfl) rfl) ⟨rfl, h.drop⟩)
  have n3 : ¬ (-2048 ≤ d ∧ d ≤ 2047) := fun hh => by rw [hk3.2 hh] at hc3; cases hc3
  exact c_skip ⟨(), ⟨rfl, trivial⟩, by unfold which; rw [if_neg h0, if_neg n1, if_neg n2, if_neg n3], h⟩
 clear h
 rintro ⟨⟩ w e ⟨hw, h⟩
 refine c_seq (c_region ?_)
 refine r_v (q_build (r := frmC ⟨15, 4, 64⟩) rfl) rfl ?_
 refine r_c rfl (x_storeA (vs := frmC ⟨15, 4, 64⟩) 0 h rfl rfl rfl rfl rfl rfl rfl fun w h => ?_)
 refine r_nil ?_
 rw [hw]
 exact c_ret (bqS1 (l := frmC ⟨15, 4, 64⟩) rfl rfl (at_of (h.b 0 rfl) rfl) ⟨rfl, h.drop⟩)
theorem which_le (d : Int) : (which d).ahead ≤ 15 ∧ (which d).long ≤ 4 ∧ (which d).bits ≤ 64 := by
 rcases which_cases d with ⟨h, _⟩ | ⟨h, _⟩ | ⟨h, _⟩ | ⟨h, _⟩ | h <;> rw [h] <;> decide
theorem timesRest_len : ∀ (ts : List Int) (was step : Nat), (timesRest was step ts).length ≤ 68 * ts.length
 | [], _, _ => Nat.le_refl _
 | t :: ts, was, step => by
  have h1 := timesRest_len ts (us t) (diff (us t) was)
  obtain ⟨_, h2, h3⟩ := which_le (sg (diff (diff (us t) was) step))
  rw [timesRest, List.length_append, List.length_append, bitsOf_len, bitsOf_len, List.length_cons]
  omega
theorem timesBits_len (ts : List Int) : (timesBits ts).length ≤ 68 * ts.length := by
 cases ts with
 | nil => exact Nat.le_refl _
 | cons t ts =>
  have := timesRest_len ts (us t) 0
  rw [timesBits, List.length_append, bitsOf_len, List.length_cons]
  omega
theorem wrap_diff {a b : Nat} (hb : b < 18446744073709551616) : IntKind.u64.wrap ((a : Int) - (b : Int)) = ((diff a b : Nat) : Int) := by
 rw [wrap_us]; unfold us diff; omega
theorem wrap_summ (a b : Nat) : IntKind.u64.wrap ((a : Int) + (b : Int)) = ((summ a b : Nat) : Int) := by
 rw [wrap_us]; unfold us summ; omega

theorem time_Encode {p : Nat} {bs : List Bool} {sl : Option Addr} {c : Nat} {ts : List Int} (hi : ∀ t ∈ ts, I64 t) (hn : ts.length ≤ 65535) (hb : bs.length ≤ 1073741824) (h : St w0 (IsBW p bs :: l) w) (hr : ∀ bs' w', St w0 (IsBW p bs' :: l) w' → Rd w' 1 sl ts.length (i64V ts)) :
  Ret Tryz.prog 236 [.pointer (some ⟨p, 0, none⟩), .slice sl ts.length c] w fun v w' => v = .tuple #[] ∧ St w0 (IsBW p (bs ++ timesBits ts) :: l) w' := by
 refine enter Tryz.func236 rfl Tryz.results236 Tryz.ntmps236 rfl ?_
 have htl := timesBits_len ts
 refine c_seq (c_region ?_)
 refine r_v (q_assignI rfl) rfl ?_; refine r_v (q_assignI rfl) rfl ?_
 refine r_nil ?_
 refine c_seq (c_region ?_)
 refine r_v (q_moveS rfl) rfl ?_; refine r_v (q_len rfl) rfl ?_; refine r_v (q_moveI rfl) rfl ?_
 refine r_nil ?_
 refine c_block ?_
 refine c_loop (Γ := Nat × Nat × Nat × List Bool) (fun k => [(0, .pointer (some ⟨p, 0, none⟩)), (4, .int .u64 k.2.1), (5, .int .u64 k.2.2.1), (11, .slice sl ts.length c), (12, .int .i64 ts.length), (13, .int .i64 k.1)])
  (fun k w => k.1 ≤ ts.length ∧ k.2.1 < 18446744073709551616 ∧ k.2.2.1 < 18446744073709551616 ∧ (k.1 = 0 → k.2.2.1 = 0 ∧ k.2.2.2 = bs) ∧ (0 < k.1 → k.2.2.2 ++ timesRest k.2.1 k.2.2.1 (ts.drop k.1) = bs ++ timesBits ts) ∧ k.2.2.2.length ≤ bs.length + (timesBits ts).length ∧ St w0 (IsBW p k.2.2.2 :: l) w)
  (fun k => ts.length - k.1) (0, 0, 0, bs) ⟨rfl, rfl, rfl, rfl, rfl, rfl, trivial⟩ ⟨Nat.zero_le _, (by decide : (0 : Nat) < 18446744073709551616), (by decide : (0 : Nat) < 18446744073709551616), fun _ => ⟨rfl, rfl⟩, (fun h => absurd h (by decide : ¬ (0 : Nat) < 0)), Nat.le_add_right _ _, h⟩ ?_
 clear h
 rintro ⟨i, was, step, out⟩ w e ⟨hin, hwas, hstep, h00, hnz, hol, h⟩
 dsimp only at hin hwas hstep h00 hnz hol h ⊢
 refine c_seq (c_region ?_)
 refine r_v (q_lss rfl rfl) rfl ?_
 refine r_nil ?_
 refine c_seq (c_cond (decide ((i : Int) < (ts.length : Int))) rfl (fun hc => ?_) (fun hc => ?_))
 ·
  have hlt : i < ts.length := by simp at hc; omega
  have hg := List.getElem?_eq_getElem hlt
  have hdr := List.drop_eq_getElem_cons hlt
  generalize ts[i] = t at hg hdr
  have ht := hi t (List.mem_of_getElem? hg)
  have hut := us_lt t
  obtain ⟨b, o, hsl⟩ := (hr _ w h).some (by omega)
  refine c_skip ?_
  refine c_cut (Γ := Nat × List Bool) (fun k => [(0, .pointer (some ⟨p, 0, none⟩)), (4, .int .u64 (us t)), (5, .int .u64 k.1), (11, .slice sl ts.length c), (12, .int .i64 ts.length), (13, .int .i64 i)])
   (fun k w => k.1 < 18446744073709551616 ∧ k.2 ++ timesRest (us t) k.1 (ts.drop (i + 1)) = bs ++ timesBits ts ∧ St w0 (IsBW p k.2 :: l) w) ?_ ?_
  ·refine c_block ?_
   refine c_seq (c_region ?_)
   refine r_v (q_moveI rfl) rfl ?_
   refine r_v (q_idx (b := b) (o := o) (m := ts.length) (c := c) (o' := o + i) (by rw [← hsl]; rfl) rfl rfl hlt (by simp)) rfl ?_
   refine r_v (q_loadc (v := .int .i64 t) rfl ((hsl ▸ hr _ w h).cell (i64V_get hg))) rfl ?_
   refine r_v (q_assignI rfl) rfl ?_; refine r_v (q_assignI rfl) rfl ?_
   refine r_nil ?_
   refine c_seq (c_region ?_)
   refine r_v (q_moveI rfl) rfl ?_; refine r_v (q_conv rfl) rfl ?_
   refine r_is (.int .u64 (us t : Nat)) (by rw [wrap_us]) ?_
   refine r_v (q_assignI rfl) rfl ?_
   refine r_nil ?_
   refine c_seq (c_seq (c_region ?_))
   refine r_v (q_moveI rfl) rfl ?_; refine r_v (q_eql rfl rfl) rfl ?_
   by_cases hi0 : i = 0
   ·refine r_is (.bool true) (by subst hi0; rfl) ?_
    refine r_nil (c_true rfl ?_)
    obtain ⟨hs0, ho0⟩ := h00 hi0
    refine c_seq (c_region ?_)
    refine r_v (q_moveP rfl) rfl ?_; refine r_v (q_moveI rfl) rfl ?_
    refine r_c rfl (x_call rfl (bits_Put (us t) 64 hut (by omega) h) ?_)
    rintro _ w ⟨rfl, h⟩
    refine r_nil ?_
    refine c_seq (c_region ?_)
    refine r_v (q_moveI rfl) rfl ?_; refine r_v (q_assignI rfl) rfl ?_
    refine r_nil ?_
    refine c_exit ⟨(step, out ++ bitsOf (us t) (heldN 64)), ⟨rfl, rfl, rfl, rfl, rfl, rfl, trivial⟩, hstep, ?_, h⟩
    rw [hi0, List.drop_zero] at hdr
    rw [hdr, ho0, hs0, hi0, timesBits, List.append_assoc]
    rfl
   refine r_is (.bool false) (by simp; omega) ?_
   refine r_nil (c_false rfl (c_skip ?_))
   have he := hnz (by omega)
   rw [hdr, timesRest] at he
   refine c_seq (c_region ?_)
   refine r_v (q_moveI rfl) rfl ?_; refine r_v (q_moveI rfl) rfl ?_; refine r_v (q_sub rfl rfl) rfl ?_
   refine r_is (.int .u64 (diff (us t) was : Nat)) (by rw [wrap_diff hwas]) ?_
   refine r_v (q_moveI rfl) rfl ?_; refine r_v (q_sub rfl rfl) rfl ?_
   refine r_is (.int .u64 (diff (diff (us t) was) step : Nat)) (by rw [wrap_diff hstep]) ?_
   have hd : diff (diff (us t) was) step < 18446744073709551616 := Nat.mod_lt _ (by decide)
   have hd1 : diff (us t) was < 18446744073709551616 := Nat.mod_lt _ (by decide)
   generalize hde : diff (diff (us t) was) step = d at *
   obtain ⟨hf1, hf2, hf3⟩ := which_le (sg d)
   have hlen := congrArg List.length he
   simp only [List.length_append, bitsOf_len] at hlen
   refine r_v (q_assignI rfl) rfl ?_
   refine r_nil ?_
   refine c_seq (c_region ?_)
   refine r_v (q_moveI rfl) rfl ?_; refine r_v (q_conv rfl) rfl ?_
   refine r_is (.int .i64 (sg d)) (by rw [wrap_sg hd]) ?_
   refine r_c rfl (x_call rfl (time_which (sg d) h) ?_)
   rintro _ w ⟨rfl, h⟩
   refine r_c rfl (x_alloc h fun b2 w h => ?_)
   refine r_c rfl (x_storeA (vs := frmC (which (sg d))) 0 h rfl rfl rfl rfl rfl rfl rfl fun w h => ?_)
   replace h : St w0 (pt b2 (.cells (frmC (which (sg d))).toArray 337 (0, 0)) :: IsBW p out :: l) w := h
   refine r_nil ?_
   refine c_seq (c_region ?_)
   refine r_v (q_moveP rfl) rfl ?_; refine r_v (q_fa rfl) rfl ?_; refine r_v (q_load rfl (h.b 0) rfl) rfl ?_; refine r_v (q_fa rfl) rfl ?_; refine r_v (q_load rfl (h.b 0) rfl) rfl ?_
   refine r_c rfl (x_call rfl (bits_Put (which (sg d)).ahead (which (sg d)).long (by omega) (by omega) (h.f 1)) ?_)
   rintro _ w ⟨rfl, h⟩
   refine r_nil ?_
   refine c_seq (c_region ?_)
   refine r_v (q_moveP rfl) rfl ?_; refine r_v (q_moveI rfl) rfl ?_; refine r_v (q_fa rfl) rfl ?_; refine r_v (q_load rfl (h.b 1) rfl) rfl ?_
   refine r_c rfl (x_call rfl (bits_Put d (which (sg d)).bits hd (by rw [heldN_nat (by omega), List.length_append, bitsOf_len]; omega) h) ?_)
   rintro _ w ⟨rfl, h⟩
   refine r_nil ?_
   refine c_region ?_
   refine r_v (q_moveI rfl) rfl ?_; refine r_v (q_moveI rfl) rfl ?_; refine r_v (q_moveI rfl) rfl ?_; refine r_v (q_sub rfl rfl) rfl ?_
   refine r_is (.int .u64 (diff (us t) was : Nat)) (by rw [wrap_diff hwas]) ?_
   refine r_v (q_assignI rfl) rfl ?_; refine r_v (q_assignI rfl) rfl ?_
   refine r_nil ⟨(diff (us t) was, _), ⟨rfl, rfl, rfl, rfl, rfl, rfl, trivial⟩, hd1, ?_, (h.f 1).drop⟩
   rw [heldN_nat (by omega), heldN_nat (by omega), List.append_assoc, List.append_assoc, ← he]
  clear h
  rintro ⟨step', out'⟩ w e ⟨hs', he', h⟩
  dsimp only at hs' he' h ⊢
  refine c_region ?_
  refine r_v (q_add rfl rfl) rfl ?_
  refine r_is (.int .i64 ((i + 1 : Nat) : Int)) (by rw [wrap64 (by omega) (by omega)]; rfl) ?_
  refine r_v (q_moveI rfl) rfl ?_
  refine r_nil ⟨(i + 1, us t, step', out'), ⟨rfl, rfl, rfl, rfl, rfl, rfl, trivial⟩, ⟨hlt, hut, hs', (fun h => by cases h), fun _ => he', ?_, h⟩, by dsimp only; omega⟩
  have := congrArg List.length he'
  simp only [List.length_append] at this
  dsimp only
  omega
 have hin' : i = ts.length := by simp at hc; omega
 refine c_exit ?_
 have : out = bs ++ timesBits ts := by
  rcases Nat.eq_zero_or_pos i with h0 | h0
  ·rw [(h00 h0).2]
   have : ts = [] := List.eq_nil_of_length_eq_zero (by omega)
   rw [this]; simp [timesBits]
  ·have := hnz h0
   rw [hin', List.drop_length, timesRest, List.append_nil] at this
   exact this
 rw [← this]
 exact (show (packv [] : Value) = .tuple #[] ∧ _ from ⟨rfl, h⟩)
end
end Go.Proofs.YtnnehiiblfmpnaaGreatDoor

namespace Go.Proofs.YtnnehiiblfmpnaaGreatDoor
open Go.Hw
set_option maxHeartbeats 4000000
set_option maxRecDepth 100000
abbrev winC (w : Win) : List Value := [.bool w.is, .int .i64 w.lead, .int .i64 w.trail]
def WinOk (w : Win) : Prop := w.lead + w.trail ≤ 63
theorem winOk_of {x : Nat} (h0 : x ≠ 0) (h : x < 18446744073709551616) : WinOk (winOf x) := by
 obtain ⟨h1, h2, _, _⟩ := winOf_long h0 h
 unfold WinOk; omega
theorem win_long_le (w : Win) : w.long ≤ 64 := by unfold Win.long; omega
section
variable {w0 w : World} {l : List HProp}
abbrev WinPt (b : Nat) (win : Win) : HProp := pt b (.cells (winC win).toArray 340 (0, 0))
theorem tz_le (x : Nat) : tz x ≤ 64 := by
 have : ∀ k x, tzA k x ≤ k := by
  intro k
  induction k with
  | zero => intro x; exact Nat.le_refl _
  | succ k ih => intro x; rw [tzA]; split; exact Nat.zero_le _; exact Nat.succ_le_succ (ih _)
 exact this 64 x
theorem xorv_of (hT : Tz w0) {x : Nat} (hx : x < 18446744073709551616) (h : St w0 l w) : Ret Tryz.prog 264 [.int .u64 x] w fun v w' => v = .agg (winC (winOf x)).toArray ∧ St w0 l w' := by
 refine enter Tryz.func264 rfl Tryz.results264 Tryz.ntmps264 rfl ?_
 refine c_seq (c_region ?_)
 refine r_c rfl (x_alloc h fun b w h => ?_)
 refine r_nil ?_
 refine c_seq (c_region ?_)
 refine r_v (q_moveI rfl) rfl ?_
 refine r_c rfl (x_call rfl (mb_LeadingZeros64 hx h) ?_)
 rintro _ w ⟨rfl, h⟩
 refine r_v (q_min rfl rfl) rfl ?_
 refine r_is (.int .i64 (winOf x).lead) (by unfold winOf; congr 1; dsimp only; omega) ?_
 refine r_v (q_moveI rfl) rfl ?_
 refine r_c rfl (x_call rfl (mb_TrailingZeros64 hT hx h) ?_)
 rintro _ w ⟨rfl, h⟩
 refine r_v (q_build (r := winC (winOf x)) rfl) rfl ?_
 refine r_c rfl (x_storeA (vs := winC (winOf x)) 0 h rfl rfl rfl rfl rfl rfl rfl fun w h => ?_)
 refine r_nil ?_
 exact c_ret (bqS1 (l := winC (winOf x)) rfl rfl (at_of (h.b 0 rfl) rfl) ⟨rfl, h.drop⟩)
theorem xorv_long {win : Win} (ho : WinOk win) (h : St w0 l w) : Ret Tryz.prog 263 [.agg (winC win).toArray] w fun v w' => v = .int .i64 win.long ∧ St w0 l w' := by
 unfold WinOk at ho
 refine enter Tryz.func263 rfl Tryz.results263 Tryz.ntmps263 rfl ?_
 refine c_seq (c_region ?_)
 refine r_c rfl (x_box h (show _ = Value.agg (winC win).toArray from rfl) fun b w h => ?_)
 refine r_v (q_assignI rfl) rfl ?_
 refine r_nil ?_
 refine c_seq (c_region ?_)
 refine r_v (q_fa rfl) rfl ?_; refine r_v (q_load rfl (h.b 0) rfl) rfl ?_; refine r_v (q_sub rfl rfl) rfl ?_
 refine r_is (.int .i64 ((64 - win.lead : Nat) : Int)) (by rw [wrap64 (by omega) (by omega)]; congr 1; omega) ?_
 refine r_v (q_fa rfl) rfl ?_; refine r_v (q_load rfl (h.b 0) rfl) rfl ?_; refine r_v (q_sub rfl rfl) rfl ?_
 refine r_is (.int .i64 win.long) (by rw [wrap64 (by omega) (by omega)]; unfold Win.long; congr 1; omega) ?_
 refine r_v (q_assignI rfl) rfl ?_
 refine r_nil ?_
 exact c_ret (bq1 ⟨rfl, h.drop⟩)
theorem xorv_fits (hT : Tz w0) {win : Win} {x : Nat} (hx : x < 18446744073709551616) (h : St w0 l w) : Ret Tryz.prog 265 [.agg (winC win).toArray, .int .u64 x] w fun v w' => v = .bool (win.fits x) ∧ St w0 l w' := by
 refine enter Tryz.func265 rfl Tryz.results265 Tryz.ntmps265 rfl ?_
 refine c_seq (c_region ?_)
 refine r_c rfl (x_box h (show _ = Value.agg (winC win).toArray from rfl) fun b w h => ?_)
 replace h : St w0 (WinPt b win :: l) w := h
 refine r_v (q_assignB rfl) rfl ?_
 refine r_nil ?_
 refine c_seq (c_region ?_)
 refine r_v (q_moveI rfl) rfl ?_
 refine r_c rfl (x_call rfl (xorv_of hT hx h) ?_)
 rintro _ w ⟨rfl, h⟩
 refine r_c rfl (x_alloc h fun b5 w h => ?_)
 refine r_c rfl (x_storeA (vs := winC (winOf x)) 0 h rfl rfl rfl rfl rfl rfl rfl fun w h => ?_)
 replace h : St w0 (WinPt b5 (winOf x) :: WinPt b win :: l) w := h
 refine r_nil ?_
 have hfit : win.fits x = (win.is && decide (win.lead ≤ (winOf x).lead) && decide (win.trail ≤ (winOf x).trail)) := rfl
 refine c_seq (c_region ?_)
 refine r_v (q_fa rfl) rfl ?_
 refine r_v (q_load (v := .bool win.is) rfl (h.b 1 rfl) rfl) rfl ?_
 cases hi : win.is with
 | false =>
  refine r_v (q_moveB rfl) rfl ?_; refine r_gn rfl rfl rfl ?_; refine r_gn rfl rfl rfl ?_; refine r_gn rfl rfl rfl ?_; refine r_gn rfl rfl rfl ?_; refine r_gn rfl rfl rfl ?_; refine r_v (q_pick0 rfl rfl rfl) rfl ?_; refine r_v (q_moveB rfl) rfl ?_; refine r_gn rfl rfl rfl ?_; refine r_gn rfl rfl rfl ?_; refine r_gn rfl rfl rfl ?_; refine r_gn rfl rfl rfl ?_; refine r_gn rfl rfl rfl ?_; refine r_v (q_pick0 rfl rfl rfl) rfl ?_; refine r_v (q_assignB rfl) rfl ?_
  refine r_nil ?_
  refine c_ret (bq1 ⟨?_, h.drop.drop⟩)
  rw [hfit, hi]; rfl
 | true =>
  refine r_v (q_moveB rfl) rfl ?_; refine r_gd rfl rfl ?_; refine r_v (q_fa rfl) rfl ?_; refine r_gd rfl rfl ?_
  refine r_v (q_load (v := .int .i64 (winOf x).lead) rfl (h.b 0 rfl) rfl) rfl ?_
  refine r_gd rfl rfl ?_; refine r_v (q_fa rfl) rfl ?_; refine r_gd rfl rfl ?_
  refine r_v (q_load (v := .int .i64 win.lead) rfl (h.b 1 rfl) rfl) rfl ?_
  refine r_gd rfl rfl ?_; refine r_v (q_geq rfl rfl) rfl ?_
  by_cases h1 : win.lead ≤ (winOf x).lead
  ·refine r_is (.bool true) (by simp; omega) ?_
   refine r_v (q_pick1 rfl rfl rfl) rfl ?_; refine r_v (q_moveB rfl) rfl ?_; refine r_gd rfl rfl ?_; refine r_v (q_fa rfl) rfl ?_; refine r_gd rfl rfl ?_
   refine r_v (q_load (v := .int .i64 (winOf x).trail) rfl (h.b 0 rfl) rfl) rfl ?_
   refine r_gd rfl rfl ?_; refine r_v (q_fa rfl) rfl ?_; refine r_gd rfl rfl ?_
   refine r_v (q_load (v := .int .i64 win.trail) rfl (h.b 1 rfl) rfl) rfl ?_
   refine r_gd rfl rfl ?_; refine r_v (q_geq rfl rfl) rfl ?_; refine r_v (q_pick1 rfl rfl rfl) rfl ?_; refine r_v (q_assignB rfl) rfl ?_
   refine r_nil ?_
   refine c_ret (bq1 ⟨?_, h.drop.drop⟩)
   rw [hfit, hi, decide_eq_true h1]
   show Value.bool (decide _) = _
   congr 1
   simp only [Bool.true_and, decide_eq_decide]
   omega
  ·refine r_is (.bool false) (by simp; omega) ?_
   refine r_v (q_pick1 rfl rfl rfl) rfl ?_; refine r_v (q_moveB rfl) rfl ?_; refine r_gn rfl rfl rfl ?_; refine r_gn rfl rfl rfl ?_; refine r_gn rfl rfl rfl ?_; refine r_gn rfl rfl rfl ?_; refine r_gn rfl rfl rfl ?_; refine r_v (q_pick0 rfl rfl rfl) rfl ?_; refine r_v (q_assignB rfl) rfl ?_
   refine r_nil ?_
   refine c_ret (bq1 ⟨?_, h.drop.drop⟩)
   rw [hfit, hi, decide_eq_false h1]; rfl
theorem xorRest_len : ∀ (vs : List Nat) (win : Win) (was : Nat), (xorRest win was vs).length ≤ 77 * vs.length
 | [], _, _ => Nat.le_refl _
 | v :: vs, win, was => by
  have h1 := xorRest_len vs win v
  have h2 := xorRest_len vs (winOf (v ^^^ was)) v
  have h3 := win_long_le win
  have h4 := win_long_le (winOf (v ^^^ was))
  rw [xorRest, List.length_cons]
  split
  ·rw [List.length_append, bitsOf_len]; omega
  ·split
   ·rw [List.length_append, List.length_append, bitsOf_len, bitsOf_len]; omega
   ·rw [List.length_append, List.length_append, List.length_append, List.length_append, bitsOf_len, bitsOf_len, bitsOf_len, bitsOf_len]; omega
theorem xorBits_len (vs : List Nat) : (xorBits vs).length ≤ 77 * vs.length := by
 cases vs with
 | nil => exact Nat.le_refl _
 | cons v vs =>
  have := xorRest_len vs ⟨false, 0, 0⟩ v
  rw [xorBits, List.length_append, bitsOf_len, List.length_cons]; omega

theorem xorv_Encode (hT : Tz w0) {p : Nat} {bs : List Bool} {sl : Option Addr} {c : Nat} {vs : List Nat} (hv : ∀ v ∈ vs, v < 18446744073709551616) (hn : vs.length ≤ 65535) (hb : bs.length ≤ 1073741824) (h : St w0 (IsBW p bs :: l) w) (hr : Reads w0 l 1 sl vs.length (u64V vs)) :
  Ret Tryz.prog 256 [.pointer (some ⟨p, 0, none⟩), .slice sl vs.length c] w fun v w' => v = .tuple #[] ∧ St w0 (IsBW p (bs ++ xorBits vs) :: l) w' := by
 have htl := xorBits_len vs
 have hrd : ∀ {Q R : HProp} {w' : World}, St w0 (Q :: R :: l) w' → Rd w' 1 sl vs.length (u64V vs) := fun {Q R w'} h' => hr [Q, R] w' h'
 refine enter Tryz.func256 rfl Tryz.results256 Tryz.ntmps256 rfl ?_
 refine c_seq (c_region ?_)
 refine r_c rfl (x_alloc h fun b w h => ?_)
 replace h : St w0 (WinPt b ⟨false, 0, 0⟩ :: IsBW p bs :: l) w := h
 refine r_nil ?_
 refine c_seq (c_region ?_)
 refine r_v (q_moveS rfl) rfl ?_; refine r_v (q_len rfl) rfl ?_; refine r_v (q_moveI rfl) rfl ?_
 refine r_nil ?_
 refine c_block ?_
 refine c_loop (Γ := Nat × Win × List Bool) (fun k => [(0, .pointer (some ⟨p, 0, none⟩)), (1, .slice sl vs.length c), (4, .pointer (some ⟨b, 0, none⟩)), (8, .slice sl vs.length c), (9, .int .i64 vs.length), (10, .int .i64 k.1)])
  (fun k w => k.1 ≤ vs.length ∧ WinOk k.2.1 ∧ (k.1 = 0 → k.2.1 = ⟨false, 0, 0⟩ ∧ k.2.2 = bs) ∧ (0 < k.1 → k.2.2 ++ xorRest k.2.1 (vs.getD (k.1 - 1) 0) (vs.drop k.1) = bs ++ xorBits vs) ∧ St w0 (WinPt b k.2.1 :: IsBW p k.2.2 :: l) w)
  (fun k => vs.length - k.1) (0, ⟨false, 0, 0⟩, bs) ⟨rfl, rfl, rfl, rfl, rfl, rfl, trivial⟩ ⟨Nat.zero_le _, (show (0 : Nat) + 0 ≤ 63 by decide), fun _ => ⟨rfl, rfl⟩, (fun h => absurd h (by decide : ¬ (0 : Nat) < 0)), h⟩ ?_
 clear h
 rintro ⟨i, win, out⟩ w e ⟨hin, hwo, h00, hnz, h⟩
 dsimp only at hin hwo h00 hnz h ⊢
 refine c_seq (c_region ?_)
 refine r_v (q_lss rfl rfl) rfl ?_
 refine r_nil ?_
 refine c_seq (c_cond (decide ((i : Int) < (vs.length : Int))) rfl (fun hc => ?_) (fun hc => ?_))
 ·
  have hlt : i < vs.length := by simp at hc; omega
  have hg := List.getElem?_eq_getElem hlt
  have hdr := List.drop_eq_getElem_cons hlt
  generalize vs[i] = now at hg hdr
  have hnow := hv now (List.mem_of_getElem? hg)
  obtain ⟨bs_, o, hsl⟩ := (hrd h).some (by omega)
  have hol : out.length ≤ bs.length + (xorBits vs).length := by
   rcases Nat.eq_zero_or_pos i with h0 | h0
   ·rw [(h00 h0).2]; omega
   ·have := congrArg List.length (hnz h0)
    simp only [List.length_append] at this
    omega
  refine c_skip ?_
  refine c_cut (Γ := Win × List Bool) (fun _ => [(0, .pointer (some ⟨p, 0, none⟩)), (1, .slice sl vs.length c), (4, .pointer (some ⟨b, 0, none⟩)), (8, .slice sl vs.length c), (9, .int .i64 vs.length), (10, .int .i64 i)])
   (fun k w => WinOk k.1 ∧ k.2 ++ xorRest k.1 now (vs.drop (i + 1)) = bs ++ xorBits vs ∧ St w0 (WinPt b k.1 :: IsBW p k.2 :: l) w) ?_ ?_
  ·refine c_block ?_
   refine c_seq (c_region ?_)
   refine r_v (q_moveI rfl) rfl ?_
   refine r_v (q_idx (b := bs_) (o := o) (m := vs.length) (c := c) (o' := o + i) (by rw [← hsl]; rfl) rfl rfl hlt (by simp)) rfl ?_
   refine r_v (q_loadc (v := .int .u64 now) rfl ((hsl ▸ hrd h).cell (u64V_get hg))) rfl ?_
   refine r_v (q_assignI rfl) rfl ?_; refine r_v (q_assignI rfl) rfl ?_
   refine r_nil ?_
   refine c_seq (c_seq (c_region ?_))
   refine r_v (q_moveI rfl) rfl ?_; refine r_v (q_eql rfl rfl) rfl ?_
   by_cases hi0 : i = 0
   ·refine r_is (.bool true) (by subst hi0; rfl) ?_
    refine r_nil (c_true rfl ?_)
    obtain ⟨hw0, ho0⟩ := h00 hi0
    refine c_seq (c_region ?_)
    refine r_v (q_moveP rfl) rfl ?_; refine r_v (q_moveI rfl) rfl ?_
    refine r_c rfl (x_call rfl (bits_Put now 64 hnow (by omega) (h.f 1)) ?_)
    rintro _ w ⟨rfl, h⟩
    refine r_nil ?_
    refine c_exit ⟨(win, out ++ bitsOf now (heldN 64)), ⟨rfl, rfl, rfl, rfl, rfl, rfl, trivial⟩, hwo, ?_, h.f 1⟩
    rw [hi0, List.drop_zero] at hdr
    rw [ho0, hw0, hi0, List.append_assoc]
    conv => rhs; rw [hdr, xorBits]
    rfl
   refine r_is (.bool false) (by simp; omega) ?_
   refine r_nil (c_false rfl (c_skip ?_))
   have he := hnz (by omega)
   have hg1 : vs[i - 1]? = some (vs.getD (i - 1) 0) := by
    rw [List.getD, List.getElem?_eq_getElem (show i - 1 < vs.length by omega)]; rfl
   generalize vs.getD (i - 1) 0 = was at hg1 he
   have hwas := hv was (List.mem_of_getElem? hg1)
   have hx : now ^^^ was < 18446744073709551616 := Nat.xor_lt_two_pow (n := 64) hnow hwas
   rw [hdr, xorRest] at he
   refine c_seq (c_region ?_)
   refine r_v (q_moveI rfl) rfl ?_; refine r_v (q_moveS rfl) rfl ?_; refine r_v (q_moveI rfl) rfl ?_; refine r_v (q_sub rfl rfl) rfl ?_
   refine r_is (.int .i64 ((i - 1 : Nat) : Int)) (by rw [wrap64 (by omega) (by omega)]; congr 1; omega) ?_
   refine r_v (q_idx (b := bs_) (o := o) (m := vs.length) (c := c) (o' := o + (i - 1)) (by rw [← hsl]; rfl) rfl rfl (by omega) (by simp)) rfl ?_
   refine r_v (q_loadc (v := .int .u64 was) rfl ((hsl ▸ hrd h).cell (u64V_get hg1))) rfl ?_
   refine r_v (q_xor rfl rfl) rfl ?_
   refine r_is (.int .u64 ((now ^^^ was : Nat) : Int)) (by rw [(bit_u64 hnow hwas).2.2]) ?_
   generalize now ^^^ was = x at hx he
   refine r_v (q_assignI rfl) rfl ?_
   refine r_nil ?_
   refine c_cut (Γ := Win × List Bool) (fun _ => [(0, .pointer (some ⟨p, 0, none⟩)), (1, .slice sl vs.length c), (4, .pointer (some ⟨b, 0, none⟩)), (7, .int .u64 x), (8, .slice sl vs.length c), (9, .int .i64 vs.length), (10, .int .i64 i)])
    (fun k w => WinOk k.1 ∧ k.2 ++ (bitsOf (x / 2 ^ k.1.trail) k.1.long ++ xorRest k.1 now (vs.drop (i + 1))) = bs ++ xorBits vs ∧ St w0 (WinPt b k.1 :: IsBW p k.2 :: l) w) ?_ ?_
   ·refine c_block ?_
    refine c_seq (c_region ?_)
    refine r_v (q_moveI rfl) rfl ?_; refine r_v (q_eql rfl rfl) rfl ?_; refine r_v (q_assignB rfl) rfl ?_
    refine r_nil ?_
    refine c_cond ((x : Int) == 0) rfl (fun hc => ?_) (fun hc => ?_)
    ·
     have hx0 : x = 0 := by rw [beq_iff_eq] at hc; omega
     rw [if_pos hx0] at he
     refine c_seq (c_region ?_)
     refine r_v (q_moveP rfl) rfl ?_
     refine r_c rfl (x_call rfl (bits_Put 0 1 (by decide) (by omega) (h.f 1)) ?_)
     rintro _ w ⟨rfl, h⟩
     refine r_nil ?_
     refine c_exit ⟨(win, out ++ bitsOf 0 (heldN 1)), ⟨rfl, rfl, rfl, rfl, rfl, rfl, trivial⟩, hwo, ?_, h.f 1⟩
     rw [← he, List.append_assoc]; rfl
    have hx0 : x ≠ 0 := by rw [beq_eq_false_iff_ne] at hc; omega
    rw [if_neg hx0] at he
    refine c_seq (c_region ?_)
    refine r_v (q_loadS (l := winC win) rfl rfl (at_of (h.b 0 rfl) rfl)) rfl ?_
    refine r_v (q_moveI rfl) rfl ?_
    refine r_c rfl (x_call rfl (xorv_fits hT hx h) ?_)
    rintro _ w ⟨rfl, h⟩
    refine r_v (q_assignB rfl) rfl ?_
    refine r_nil ?_
    refine c_cond (win.fits x) rfl (fun hc => ?_) (fun hc => ?_)
    ·
     rw [if_pos hc] at he
     refine c_region ?_
     refine r_v (q_moveP rfl) rfl ?_
     refine r_c rfl (x_call rfl (bits_Put 2 2 (by decide) (by omega) (h.f 1)) ?_)
     rintro _ w ⟨rfl, h⟩
     refine r_nil ⟨(win, out ++ bitsOf 2 (heldN 2)), ⟨rfl, rfl, rfl, rfl, rfl, rfl, rfl, trivial⟩, hwo, ?_, h.f 1⟩
     rw [← he, List.append_assoc]; rfl
    ·
     rw [if_neg (by rw [hc]; simp)] at he
     obtain ⟨l1, l2, l3, l4⟩ := winOf_long hx0 hx
     have hlen := congrArg List.length he
     simp only [List.length_append, bitsOf_len] at hlen
     refine c_seq (c_region ?_)
     refine r_v (q_moveI rfl) rfl ?_
     refine r_c rfl (x_call rfl (xorv_of hT hx h) ?_)
     rintro _ w ⟨rfl, h⟩
     refine r_c rfl (x_storeA (vs := winC (winOf x)) 0 h rfl rfl rfl rfl rfl rfl rfl fun w h => ?_)
     replace h : St w0 (WinPt b (winOf x) :: IsBW p out :: l) w := h
     refine r_nil ?_
     refine c_seq (c_region ?_)
     refine r_v (q_moveP rfl) rfl ?_
     refine r_c rfl (x_call rfl (bits_Put 3 2 (by decide) (by omega) (h.f 1)) ?_)
     rintro _ w ⟨rfl, h⟩
     refine r_nil ?_
     refine c_seq (c_region ?_)
     refine r_v (q_moveP rfl) rfl ?_; refine r_v (q_fa rfl) rfl ?_
     refine r_v (q_load (v := .int .i64 (winOf x).lead) rfl (h.b 1 rfl) rfl) rfl ?_
     refine r_v (q_conv rfl) rfl ?_
     refine r_is (.int .u64 ((winOf x).lead : Int)) (by rw [wrap_u64, Nat.mod_eq_of_lt (by omega)]) ?_
     refine r_c rfl (x_call rfl (bits_Put (winOf x).lead 5 (by omega) (by rw [List.length_append, bitsOf_len, show heldN 2 = 2 from rfl]; omega) h) ?_)
     rintro _ w ⟨rfl, h⟩
     refine r_nil ?_
     refine c_region ?_
     refine r_v (q_moveP rfl) rfl ?_
     refine r_v (q_loadS (l := winC (winOf x)) rfl rfl (at_of (h.b 1 rfl) rfl)) rfl ?_
     refine r_c rfl (x_call rfl (xorv_long (winOk_of hx0 hx) h) ?_)
     rintro _ w ⟨rfl, h⟩
     refine r_v (q_sub rfl rfl) rfl ?_
     refine r_is (.int .i64 (((winOf x).long - 1 : Nat) : Int)) (by rw [wrap64 (by omega) (by omega)]; congr 1; omega) ?_
     refine r_v (q_conv rfl) rfl ?_
     refine r_is (.int .u64 (((winOf x).long - 1 : Nat) : Int)) (by rw [wrap_u64, Nat.mod_eq_of_lt (by omega)]) ?_
     refine r_c rfl (x_call rfl (bits_Put ((winOf x).long - 1) 6 (by omega) (by rw [List.length_append, List.length_append, bitsOf_len, bitsOf_len, show heldN 2 = 2 from rfl, show heldN 5 = 5 from rfl]; omega) h) ?_)
     rintro _ w ⟨rfl, h⟩
     refine r_nil ⟨(winOf x, _), ⟨rfl, rfl, rfl, rfl, rfl, rfl, rfl, trivial⟩, winOk_of hx0 hx, ?_, h.f 1⟩
     dsimp only
     rw [← he, List.append_assoc, List.append_assoc, List.append_assoc]; rfl
   clear h he hwo h00 hnz hol
   rintro ⟨win, out⟩ w e ⟨hwo, he, h⟩
   dsimp only at hwo he h ⊢
   have hlen := congrArg List.length he
   simp only [List.length_append, bitsOf_len] at hlen
   have hll := win_long_le win
   refine c_anyW [0, 1, 2, 3, 4, 5, 6, 7] none (fun w => w.heap[b]? = some (.cells (winC win).toArray 340 (0, 0))) (by kernel_rfl) (by kernel_rfl) ?_
   replace h := h.drew
   generalize w.drew = w at h
   have hs := h
   replace h := hs.b 0 rfl
   refine cur_pure rfl rfl rfl rfl (fun _ => h) (fun _ => flt_v rfl (q_moveP rfl)) ?_; refine cur_pure rfl rfl rfl rfl (fun _ => h) (fun _ => flt_v rfl (q_moveI rfl)) ?_; refine cur_pure rfl rfl rfl rfl (fun _ => h) (fun _ => flt_v rfl (q_fa rfl)) ?_
   refine cur_float rfl rfl rfl rfl h (fun _ h => flt_v rfl (q_load (v := .int .i64 win.trail) rfl h rfl)) ?_
   refine cur_pure rfl rfl rfl rfl (fun _ => h) (fun _ => flt_v rfl (q_is (v' := .int .u64 ((x / 2 ^ win.trail : Nat) : Int)) (q_shr rfl rfl (by omega)) (congrArg (Value.int .u64) (fdiv_nat x win.trail 64 (by unfold WinOk at hwo; omega))))) ?_
   refine cur_float rfl rfl rfl rfl h (fun w h => flt_v rfl (q_loadS (l := winC win) rfl rfl (at_of h rfl))) ?_
   refine cur_skip ?_; refine cur_skip ?_
   refine cur_one 6 rfl rfl rfl rfl ?_
   refine (x_call rfl (xorv_long hwo hs) ?_)
   rintro _ w ⟨rfl, hs⟩
   replace h := hs.b 0 rfl
   refine ⟨fun _ => h, ?_⟩
   refine cur_skip ?_
   refine cur_one 7 rfl rfl rfl rfl ?_
   refine (x_call rfl (bits_Put (x / 2 ^ win.trail) win.long (Nat.lt_of_le_of_lt (Nat.div_le_self _ _) hx) (by omega) (hs.f 1)) ?_)
   rintro _ w ⟨rfl, hs⟩
   replace h := hs.b 1 rfl
   refine ⟨fun _ => h, ?_⟩
   refine cur_end ⟨(win, out ++ bitsOf (x / 2 ^ win.trail) (heldN win.long)), ⟨rfl, rfl, rfl, rfl, rfl, rfl, trivial⟩, hwo, ?_, hs.f 1⟩
   rw [heldN_nat hll, List.append_assoc]; exact he
  clear h
  rintro ⟨win, out⟩ w e ⟨hwo, he, h⟩
  dsimp only at hwo he h ⊢
  refine c_region ?_
  refine r_v (q_add rfl rfl) rfl ?_
  refine r_is (.int .i64 ((i + 1 : Nat) : Int)) (by rw [wrap64 (by omega) (by omega)]; rfl) ?_
  refine r_v (q_moveI rfl) rfl ?_
  refine r_nil ⟨(i + 1, win, out), ⟨rfl, rfl, rfl, rfl, rfl, rfl, trivial⟩, ⟨hlt, hwo, (fun h => by cases h), fun _ => ?_, h⟩, by dsimp only; omega⟩
  dsimp only
  rw [Nat.add_sub_cancel, show vs.getD i 0 = now by rw [List.getD, hg]; rfl]
  exact he
 have hin' : i = vs.length := by simp at hc; omega
 refine c_exit ?_
 have : out = bs ++ xorBits vs := by
  rcases Nat.eq_zero_or_pos i with h0 | h0
  ·rw [(h00 h0).2]
   have : vs = [] := List.eq_nil_of_length_eq_zero (by omega)
   rw [this]; simp [xorBits]
  ·have := hnz h0
   rw [hin', List.drop_length, xorRest, List.append_nil] at this
   exact this
 rw [← this]
 exact (show (packv [] : Value) = .tuple #[] ∧ _ from ⟨rfl, h.drop⟩)
end
end Go.Proofs.YtnnehiiblfmpnaaGreatDoor

namespace Go.Hw
theorem runsA_len : ∀ (l : List Nat) (x k : Nat), (runsA x k l).length ≤ 20 * (l.length + 1)
 | [], x, k => by
  have h1 := vput_len k; have h2 := vput_len x
  simp [runsA]; omega
 | y :: r, x, k => by
  have h1 := vput_len k; have h2 := vput_len x
  rw [runsA, List.length_cons]
  split
  ·have := runsA_len r x (k + 1); omega
  ·have := runsA_len r y 1
   rw [List.length_append, List.length_append]; omega
theorem runsEnc_len (l : List Nat) : (runsEnc l).length ≤ 20 * l.length := by
 cases l with
 | nil => exact Nat.le_refl _
 | cons x r => exact runsA_len r x 1
end Go.Hw
namespace Go.Proofs.YtnnehiiblfmpnaaGreatDoor
open Go.Hw
set_option maxHeartbeats 4000000
set_option maxRecDepth 100000
abbrev OwnU (a : Option Addr) (c : Nat) (l : List Nat) : HProp := Own 30 1 a l.length c (u64V l)
section
variable {w0 w : World} {l : List HProp}
theorem reads_drop {a : Option Addr} {c : Nat} {u : List Nat} (hr : Reads w0 l 1 a u.length (u64V u)) {n : Nat} (hn : n ≤ u.length) (hc : u.length ≤ c) : Reads w0 l 1 (adv a (n * 1) (Nat.beq c n)) (u.drop n).length (u64V (u.drop n)) := by
 have := hr.tail hn hc
 rw [Nat.mul_one] at this ⊢
 rw [List.length_drop]
 simpa [List.map_drop] using this
theorem simp_Encode {sl : Option Addr} {c : Nat} {u : List Nat} (hu : ∀ x ∈ u, x < 18446744073709551616) (hn : u.length ≤ 65535) (hc : u.length ≤ c) (hr : Reads w0 l 1 sl u.length (u64V u)) (h : St w0 l w) :
  Ret Tryz.prog 250 [.slice sl u.length c] w fun v w' => ∃ a c', v = .tuple [.slice a ((simpEnc u).getD []).length c', .bool (simpEnc u).isSome].toArray ∧ St w0 (OwnU a c' ((simpEnc u).getD []) :: l) w' := by
 refine enter Tryz.func250 rfl Tryz.results250 Tryz.ntmps250 rfl ?_
 refine c_seq (c_region ?_)
 refine r_v (q_assignS rfl) rfl ?_; refine r_v (q_assignB rfl) rfl ?_
 refine r_nil ?_
 refine c_seq (c_region ?_)
 refine r_c rfl (x_call rfl (simp_kinds h) ?_)
 rintro _ w ⟨b, rfl, h⟩
 refine r_v (q_assignS rfl) rfl ?_
 refine r_nil ?_
 refine c_seq (c_region ?_)
 refine r_v (q_assignS rfl) rfl ?_
 refine r_nil ?_
 refine c_seq (c_block ?_)
 refine c_loop (Γ := List Nat × Option Addr × Nat × List Nat × Option Addr × Nat) (fun k => [(0, .slice k.2.1 k.1.length k.2.2.1), (4, .slice (some ⟨b, 0, none⟩) 16 16), (5, .slice k.2.2.2.2.1 k.2.2.2.1.length k.2.2.2.2.2)])
  (fun k w => (simpEnc k.1).map (fun r => k.2.2.2.1 ++ r) = simpEnc u ∧ (∀ x ∈ k.1, x < 18446744073709551616) ∧ k.2.2.2.1.length + k.1.length ≤ u.length ∧ k.1.length ≤ k.2.2.1 ∧ Reads w0 l 1 k.2.1 k.1.length (u64V k.1) ∧ St w0 (KindsPt b :: OwnU k.2.2.2.2.1 k.2.2.2.2.2 k.2.2.2.1 :: l) w)
  (fun k => k.1.length) (u, sl, c, [], none, 0) ⟨rfl, rfl, rfl, trivial⟩ ⟨by simp, hu, by simp, hc, hr, (St.ownNil 30 1 h).f 1⟩ ?_
 clear h hr hc hu
 rintro ⟨u', a', c', out, oa, oc⟩ w e ⟨he, hu, hlen, hc, hr, h⟩
 dsimp only at he hu hlen hc hr h ⊢
 refine c_seq (c_seq (c_region ?_))
 refine r_v (q_moveS rfl) rfl ?_; refine r_v (q_len rfl) rfl ?_; refine r_v (q_gtr rfl rfl) rfl ?_
 refine r_nil ?_
 refine c_cond (decide ((u'.length : Int) > 0)) rfl (fun hcc => ?_) (fun hcc => ?_)
 ·
  have hpos : 0 < u'.length := by simp at hcc; omega
  have hne : u' ≠ [] := List.length_pos_iff.1 hpos
  refine c_skip ?_
  refine c_block ?_
  refine c_seq (c_region ?_)
  refine r_v (q_moveS rfl) rfl ?_; refine r_v (q_moveS rfl) rfl ?_
  refine r_c rfl (x_call rfl (simp_word hu (by omega) hc (hr.more [_, _]) h) ?_)
  rintro _ w ⟨rfl, h⟩
  refine r_v (q_moveT rfl) rfl ?_; refine r_v (q_ext rfl rfl) rfl ?_; refine r_v (q_ext rfl rfl) rfl ?_; refine r_v (q_assignI rfl) rfl ?_; refine r_v (q_assignI rfl) rfl ?_
  refine r_nil ?_
  refine c_seq (c_seq (c_region ?_))
  refine r_v (q_moveI rfl) rfl ?_; refine r_v (q_eql rfl rfl) rfl ?_
  cases hw : wordA 0 kindsL u' with
  | none =>
   refine r_is (.bool true) rfl ?_
   refine r_nil (c_true rfl ?_)
   refine c_seq (c_region ?_)
   refine r_v (q_assignS rfl) rfl ?_; refine r_v (q_assignB rfl) rfl ?_
   refine r_nil ?_
   rw [simpEnc_none hne hw] at he
   rw [← he]
   exact c_ret (bq2 ⟨none, 0, rfl, St.ownNil _ _ h.drop.drop⟩)
  | some wn =>
   obtain ⟨x, n⟩ := wn
   have hp := wordA_pos hne hw
   rw [simpEnc_some hne hw, Option.map_map] at he
   refine r_is (.bool false) (by show Value.bool ((n : Int) == 0) = _; congr 1; rw [beq_eq_false_iff_ne]; omega) ?_
   refine r_nil (c_false rfl (c_skip ?_))
   refine c_seq (c_region ?_)
   refine r_v (q_moveS rfl) rfl ?_; refine r_v (q_moveI rfl) rfl ?_
   refine r_c rfl (x_bslice (r := u64V [x]) h rfl rfl rfl fun b2 w h => ?_)
   refine r_c rfl (x_append' (ys := u64V [x]) (zs := u64V (out ++ [x])) (m3 := (out ++ [x]).length) (h.f 2) rfl rfl ⟨rfl, .inr ⟨b2, 0, rfl, at_of (h.b 0 rfl) rfl⟩⟩ (u64V_one _) (by simp) (by simp [u64V]) (by simp; omega) (by simp; omega) rfl fun a2 c2 w _ h => ?_)
   refine r_v (q_assignS rfl) rfl ?_
   refine r_nil ?_
   refine c_region ?_
   refine r_v (q_moveS rfl) rfl ?_; refine r_v (q_moveI rfl) rfl ?_
   refine r_v (q_tail (i := n) rfl rfl hp.2) rfl ?_
   refine r_is (.slice (adv a' (n * 1) (Nat.beq c' n)) (u'.drop n).length (c' - n)) (by rw [List.length_drop]; rfl) ?_
   refine r_v (q_assignS rfl) rfl ?_
   refine r_nil ⟨(u'.drop n, adv a' (n * 1) (Nat.beq c' n), c' - n, out ++ [x], a2, c2), ⟨rfl, rfl, rfl, trivial⟩, ⟨?_, fun y hy => hu y (List.mem_of_mem_drop hy), by simp; omega, by simp; omega, reads_drop hr hp.2 hc, ?_⟩, by simp; omega⟩
   ·rw [← he]
    congr 1
    funext r
    simp
   ·exact ((h.f 1).drop.f 1)
 have hnil : u' = [] := by
  simp at hcc; exact hcc
 subst hnil
 rw [simpEnc_nil, Option.map_some, List.append_nil] at he
 refine c_exit ?_
 refine c_seq (c_region ?_)
 refine r_v (q_moveS rfl) rfl ?_; refine r_v (q_assignS rfl) rfl ?_; refine r_v (q_assignB rfl) rfl ?_
 refine r_nil ?_
 rw [← he]
 exact c_ret (bq2 ⟨oa, oc, rfl, h.drop⟩)

theorem runl_run {sl : Option Addr} {c : Nat} {x : Nat} {r : List Nat} (hn : r.length ≤ 65535) (hr : Reads w0 l 1 sl (x :: r).length (u64V (x :: r))) (h : St w0 l w) :
  Ret Tryz.prog 271 [.slice sl (x :: r).length c] w fun v w' => v = .int .i64 ((1 + lead x r : Nat)) ∧ St w0 l w' := by
 have hll : 1 + lead x r = lead x (x :: r) := by rw [lead, if_pos rfl, Nat.add_comm]
 rw [hll]
 have hg0 : (x :: r)[0]? = some x := rfl
 have hne : 0 < (x :: r).length := by simp
 have hn' : (x :: r).length ≤ 65536 := by simp; omega
 generalize x :: r = u at *
 clear hll
 refine enter Tryz.func271 rfl Tryz.results271 Tryz.ntmps271 rfl ?_
 refine c_seq (c_region ?_)
 refine r_v (q_assignI rfl) rfl ?_
 refine r_nil ?_
 refine c_seq (c_region ?_)
 refine r_v (q_assignI rfl) rfl ?_
 refine r_nil ?_
 refine c_cut (Γ := Unit) (fun _ => [(0, .slice sl u.length c), (3, .int .i64 (lead x u))]) (fun _ w => St w0 l w) ?_ ?_
 ·refine c_block ?_
  refine c_loop (Γ := Nat) (fun n => [(0, .slice sl u.length c), (3, .int .i64 n)]) (fun n w => n ≤ u.length ∧ n + lead x (u.drop n) = lead x u ∧ St w0 l w) (fun n => u.length - n) 0 ⟨rfl, rfl, trivial⟩ ⟨Nat.zero_le _, by simp, h⟩ ?_
  clear h
  rintro n w e ⟨hnl, he, h⟩
  obtain ⟨b, o, hsl⟩ := (hr.at_ h).some hne
  by_cases hlt : n < u.length
  ·have hg := List.getElem?_eq_getElem hlt
   have hdr := List.drop_eq_getElem_cons hlt
   generalize u[n] = y at hg hdr
   rw [hdr, lead] at he
   refine c_seq (c_seq (c_any none (fun w => St w0 _ w) (by kernel_rfl) (by kernel_rfl) h.drew fun w h => ?_))
   refine cur_pure rfl rfl rfl rfl (fun _ => h) (fun _ => flt_v rfl (q_moveI rfl)) ?_; refine cur_pure rfl rfl rfl rfl (fun _ => h) (fun _ => flt_v rfl (q_moveS rfl)) ?_; refine cur_pure rfl rfl rfl rfl (fun _ => h) (fun _ => flt_v rfl (q_len rfl)) ?_
   refine cur_pure rfl rfl rfl rfl (fun _ => h) (fun _ => flt_v rfl (q_is (v' := .bool true) (q_lss rfl rfl) (by simp; omega))) ?_
   refine cur_pure rfl rfl rfl rfl (fun _ => h) (fun _ => flt_v rfl (q_moveB rfl)) ?_; refine cur_pure rfl rfl rfl rfl (fun _ => h) (fun _ => flt_g rfl rfl (q_moveS rfl)) ?_; refine cur_pure rfl rfl rfl rfl (fun _ => h) (fun _ => flt_g rfl rfl (q_moveI rfl)) ?_
   refine cur_pure rfl rfl rfl rfl (fun _ => h) (fun _ => flt_g rfl rfl (q_idx (b := b) (o := o) (m := u.length) (c := c) (o' := o + n) (by rw [← hsl]; rfl) rfl rfl hlt (by simp))) ?_
   refine cur_float rfl rfl rfl rfl h (fun w h => flt_g rfl rfl (q_loadc (v := .int .u64 y) rfl ((hsl ▸ hr.at_ h).cell (u64V_get hg)))) ?_
   refine cur_pure rfl rfl rfl rfl (fun _ => h) (fun _ => flt_g rfl rfl (q_moveS rfl)) ?_
   refine cur_pure rfl rfl rfl rfl (fun _ => h) (fun _ => flt_g rfl rfl (q_idx (b := b) (o := o) (m := u.length) (c := c) (o' := o) (by rw [← hsl]; rfl) rfl (j := 0) rfl hne (by simp))) ?_
   refine cur_float rfl rfl rfl rfl h (fun w h => flt_g rfl rfl (q_loadc (v := .int .u64 x) rfl ((hsl ▸ hr.at_ h).cell (u64V_get hg0)))) ?_
   by_cases hyx : y = x
   ·rw [if_pos hyx] at he
    refine cur_pure rfl rfl rfl rfl (fun _ => h) (fun _ => flt_g rfl rfl (q_is (v' := .bool true) (q_eql rfl rfl) (by rw [hyx]; simp))) ?_
    refine cur_pure rfl rfl rfl rfl (fun _ => h) (fun _ => flt_v rfl (q_pick1 rfl rfl rfl)) ?_
    refine cur_end (c_true rfl (c_skip ?_))
    refine c_block ?_
    refine c_region ?_
    refine r_v (q_moveI rfl) rfl ?_; refine r_v (q_add rfl rfl) rfl ?_
    refine r_is (.int .i64 ((n + 1 : Nat) : Int)) (by rw [wrap64 (by omega) (by omega)]; rfl) ?_
    refine r_v (q_assignI rfl) rfl ?_
    exact r_nil ⟨n + 1, ⟨rfl, rfl, trivial⟩, ⟨hlt, by omega, h⟩, by omega⟩
   ·rw [if_neg hyx] at he
    refine cur_pure rfl rfl rfl rfl (fun _ => h) (fun _ => flt_g rfl rfl (q_is (v' := .bool false) (q_eql rfl rfl) (by congr 1; rw [beq_eq_false_iff_ne]; omega))) ?_
    refine cur_pure rfl rfl rfl rfl (fun _ => h) (fun _ => flt_v rfl (q_pick1 rfl rfl rfl)) ?_
    refine cur_end (c_false rfl ?_)
    refine c_exit ⟨(), ⟨rfl, ?_, trivial⟩, h⟩
    rw [← he]; rfl
  ·have hnn : n = u.length := by omega
   rw [hnn, List.drop_length, lead] at he
   refine c_seq (c_seq (c_any none (fun w => St w0 _ w) (by kernel_rfl) (by kernel_rfl) h.drew fun w h => ?_))
   refine cur_pure rfl rfl rfl rfl (fun _ => h) (fun _ => flt_v rfl (q_moveI rfl)) ?_; refine cur_pure rfl rfl rfl rfl (fun _ => h) (fun _ => flt_v rfl (q_moveS rfl)) ?_; refine cur_pure rfl rfl rfl rfl (fun _ => h) (fun _ => flt_v rfl (q_len rfl)) ?_
   refine cur_pure rfl rfl rfl rfl (fun _ => h) (fun _ => flt_v rfl (q_is (v' := .bool false) (q_lss rfl rfl) (by simp; omega))) ?_
   refine cur_pure rfl rfl rfl rfl (fun _ => h) (fun _ => flt_v rfl (q_moveB rfl)) ?_; refine cur_pure rfl rfl rfl rfl (fun _ => h) (fun _ => flt_n rfl rfl) ?_; refine cur_pure rfl rfl rfl rfl (fun _ => h) (fun _ => flt_n rfl rfl) ?_; refine cur_pure rfl rfl rfl rfl (fun _ => h) (fun _ => flt_n rfl rfl) ?_; refine cur_pure rfl rfl rfl rfl (fun _ => h) (fun _ => flt_n rfl rfl) ?_; refine cur_pure rfl rfl rfl rfl (fun _ => h) (fun _ => flt_n rfl rfl) ?_; refine cur_pure rfl rfl rfl rfl (fun _ => h) (fun _ => flt_n rfl rfl) ?_; refine cur_pure rfl rfl rfl rfl (fun _ => h) (fun _ => flt_n rfl rfl) ?_; refine cur_pure rfl rfl rfl rfl (fun _ => h) (fun _ => flt_n rfl rfl) ?_; refine cur_pure rfl rfl rfl rfl (fun _ => h) (fun _ => flt_v rfl (q_pick0 rfl rfl rfl)) ?_
   refine cur_end (c_false rfl ?_)
   refine c_exit ⟨(), ⟨rfl, ?_, trivial⟩, h⟩
   rw [← he, hnn]; rfl
 clear h
 rintro ⟨⟩ w e h
 refine c_seq (c_region ?_)
 refine r_v (q_moveI rfl) rfl ?_; refine r_v (q_assignI rfl) rfl ?_
 refine r_nil ?_
 exact c_ret (bq1 ⟨rfl, h⟩)

theorem runl_Encode {sl : Option Addr} {c : Nat} {u : List Nat} (hu : ∀ x ∈ u, x < 18446744073709551616) (hn : u.length ≤ 65535) (hc : u.length ≤ c) (hr : Reads w0 l 1 sl u.length (u64V u)) (h : St w0 l w) :
  Ret Tryz.prog 259 [.slice sl u.length c] w fun v w' => ∃ a c', v = .slice a (runsEnc u).length c' ∧ St w0 (OwnB a c' (runsEnc u) :: l) w' := by
 have hrl := runsEnc_len u
 refine enter Tryz.func259 rfl Tryz.results259 Tryz.ntmps259 rfl ?_
 refine c_seq (c_region ?_)
 refine r_v (q_assignS rfl) rfl ?_
 refine r_nil ?_
 refine c_seq (c_region ?_)
 refine r_v (q_assignS rfl) rfl ?_
 refine r_nil ?_
 refine c_seq (c_block ?_)
 refine c_loop (Γ := List Nat × Option Addr × Nat × List UInt8 × Option Addr × Nat) (fun k => [(0, .slice k.2.1 k.1.length k.2.2.1), (3, .slice k.2.2.2.2.1 k.2.2.2.1.length k.2.2.2.2.2)])
  (fun k w => k.2.2.2.1 ++ runsEnc k.1 = runsEnc u ∧ (∀ x ∈ k.1, x < 18446744073709551616) ∧ k.1.length ≤ u.length ∧ k.1.length ≤ k.2.2.1 ∧ Reads w0 l 1 k.2.1 k.1.length (u64V k.1) ∧ St w0 (OwnB k.2.2.2.2.1 k.2.2.2.2.2 k.2.2.2.1 :: l) w)
  (fun k => k.1.length) (u, sl, c, [], none, 0) ⟨rfl, rfl, trivial⟩ ⟨rfl, hu, Nat.le_refl _, hc, hr, St.ownNil _ _ h⟩ ?_
 clear h hr hc hu
 rintro ⟨u', a', c', out, oa, oc⟩ w e ⟨he, hu, hlen, hc, hr, h⟩
 dsimp only at he hu hlen hc hr h ⊢
 refine c_seq (c_seq (c_region ?_))
 refine r_v (q_moveS rfl) rfl ?_; refine r_v (q_len rfl) rfl ?_; refine r_v (q_gtr rfl rfl) rfl ?_
 refine r_nil ?_
 refine c_cond (decide ((u'.length : Int) > 0)) rfl (fun hcc => ?_) (fun hcc => ?_)
 ·
  cases u' with
  | nil => simp at hcc
  | cons x r =>
  have hx := hu x (List.mem_cons_self ..)
  have hle := lead_le x r
  have hlr : r.length + 1 ≤ u.length := hlen
  rw [runsEnc_cons] at he
  have hol := congrArg List.length he
  simp only [List.length_append] at hol
  refine c_skip ?_
  refine c_block ?_
  refine c_seq (c_region ?_)
  refine r_v (q_moveS rfl) rfl ?_
  refine r_c rfl (x_call rfl (runl_run (by omega) hr.cons h) ?_)
  rintro _ w ⟨rfl, h⟩
  refine r_v (q_assignI rfl) rfl ?_
  refine r_nil ?_
  obtain ⟨b, o, hsl⟩ := (hr.at_ h.drop).some (by simp)
  refine c_seq (c_anyW [0, 1, 2, 3, 4, 5, 6, 7, 8] none (fun w => ∃ L, St w0 (L ++ l) w) (by kernel_rfl) (by kernel_rfl) ?_)
  replace h := h.drew
  generalize w.drew = w at h
  have hs := h
  replace h : ∃ L, St w0 (L ++ l) w := ⟨[_], hs⟩
  refine cur_pure rfl rfl rfl rfl (fun _ => h) (fun _ => flt_v rfl (q_moveS rfl)) ?_; refine cur_pure rfl rfl rfl rfl (fun _ => h) (fun _ => flt_v rfl (q_moveI rfl)) ?_
  refine cur_pure rfl rfl rfl rfl (fun _ => h) (fun _ => flt_v rfl (q_is (v' := .int .u64 ((1 + lead x r : Nat) : Int)) (q_conv rfl) (by rw [wrap_u64, Nat.mod_eq_of_lt (by omega)]))) ?_
  refine cur_skip ?_; refine cur_pure rfl rfl rfl rfl (fun _ => h) (fun _ => flt_v rfl (q_moveS rfl)) ?_
  refine cur_pure rfl rfl rfl rfl (fun _ => h) (fun _ => flt_v rfl (q_idx (b := b) (o := o) (m := (x :: r).length) (c := c') (o' := o) (by rw [← hsl]; rfl) rfl (j := 0) rfl (by simp) (by simp))) ?_
  refine cur_float rfl rfl rfl rfl h (fun w h => flt_v rfl (q_loadc (v := .int .u64 x) rfl (by obtain ⟨L, h⟩ := h; exact (hsl ▸ hr L w h).cell (u64V_get (j := 0) rfl)))) ?_
  refine cur_skip ?_; refine cur_skip ?_
  refine cur_one 3 rfl rfl rfl rfl ?_
  refine (x_call rfl (vint_Put (1 + lead x r) (by omega) hs (fun w' h' => h'.own_rd) (by omega)) ?_)
  rintro _ w ⟨a1, c1, rfl, hs⟩
  replace h : ∃ L, St w0 (L ++ l) w := ⟨[_, _], hs⟩
  refine ⟨fun _ => h, ?_⟩
  refine cur_skip ?_; refine cur_skip ?_
  refine cur_one 7 rfl rfl rfl rfl ?_
  refine (x_call rfl (vint_Put x hx hs (fun w' h' => h'.own_rd) (by simp; omega)) ?_)
  rintro _ w ⟨a2, c2, rfl, hs⟩
  replace h : ∃ L, St w0 (L ++ l) w := ⟨[_, _, _], hs⟩
  refine ⟨fun _ => h, ?_⟩
  refine cur_pure rfl rfl rfl rfl (fun _ => h) (fun _ => flt_v rfl (q_assignS rfl)) ?_
  refine cur_end ?_
  refine c_region ?_
  refine r_v (q_moveS rfl) rfl ?_; refine r_v (q_moveI rfl) rfl ?_
  refine r_v (q_tail (i := 1 + lead x r) rfl rfl (by simp; omega)) rfl ?_
  refine r_is (.slice (adv a' ((1 + lead x r) * 1) (Nat.beq c' (1 + lead x r))) ((x :: r).drop (1 + lead x r)).length (c' - (1 + lead x r))) (by rw [List.length_drop]; rfl) ?_
  refine r_v (q_assignS rfl) rfl ?_
  have hd : (x :: r).drop (1 + lead x r) = r.drop (lead x r) := by rw [Nat.add_comm, List.drop_succ_cons]
  refine r_nil ⟨((x :: r).drop (1 + lead x r), adv a' ((1 + lead x r) * 1) (Nat.beq c' (1 + lead x r)), c' - (1 + lead x r), out ++ vput (1 + lead x r) ++ vput x, a2, c2), ⟨rfl, rfl, trivial⟩, ⟨?_, fun y hy => hu y (List.mem_of_mem_drop hy), by simp; omega, by simp at hc ⊢; omega, reads_drop hr (by simp; omega) hc, (hs.f 1).drop.f 1 |>.drop⟩, by simp; omega⟩
  dsimp only
  rw [hd, ← he, List.append_assoc, List.append_assoc]
 have hnil : u' = [] := by
  simp at hcc; exact hcc
 subst hnil
 rw [runsEnc, List.append_nil] at he
 refine c_exit ?_
 refine c_seq (c_region ?_)
 refine r_v (q_moveS rfl) rfl ?_; refine r_v (q_assignS rfl) rfl ?_
 refine r_nil ?_
 rw [← he]
 exact c_ret (bq1 ⟨oa, oc, rfl, h⟩)

theorem slices_Min {sl : Option Addr} {c : Nat} {x : Nat} {r : List Nat} (hn : r.length ≤ 65535) (hr : Reads w0 l 1 sl (x :: r).length (u64V (x :: r))) (h : St w0 l w) :
  Ret Tryz.prog 267 [.slice sl (x :: r).length c] w fun v w' => v = .int .u64 (leastA x r) ∧ St w0 l w' := by
 obtain ⟨b, o, hsl⟩ := (hr.at_ h).some (by simp)
 refine enter Tryz.func267 rfl Tryz.results267 Tryz.ntmps267 rfl ?_
 refine c_seq (c_region ?_)
 refine r_v (q_assignI rfl) rfl ?_
 refine r_nil ?_
 refine c_seq (c_seq (c_region ?_))
 refine r_v (q_moveS rfl) rfl ?_; refine r_v (q_len rfl) rfl ?_; refine r_v (q_lss rfl rfl) rfl ?_
 refine r_is (.bool false) (by simp; omega) ?_
 refine r_nil (c_false rfl (c_skip ?_))
 refine c_seq (c_region ?_)
 refine r_v (q_moveS rfl) rfl ?_
 refine r_v (q_idx (b := b) (o := o) (m := (x :: r).length) (c := c) (o' := o) (by rw [← hsl]; rfl) rfl (j := 0) rfl (by simp) (by simp)) rfl ?_
 refine r_v (q_loadc (v := .int .u64 x) rfl ((hsl ▸ hr.at_ h).cell (u64V_get (j := 0) rfl))) rfl ?_
 refine r_v (q_assignI rfl) rfl ?_
 refine r_nil ?_
 refine c_seq (c_seq (c_region ?_))
 refine r_v (q_assignI rfl) rfl ?_
 refine r_nil ?_
 refine c_block ?_
 refine c_loop (Γ := Nat × Nat) (fun k => [(0, .slice sl (x :: r).length c), (3, .int .u64 k.2), (4, .int .i64 ((k.1 + 1 : Nat) : Int))]) (fun k w => k.1 ≤ r.length ∧ leastA k.2 (r.drop k.1) = leastA x r ∧ St w0 l w) (fun k => r.length - k.1) (0, x) ⟨rfl, rfl, rfl, trivial⟩ ⟨Nat.zero_le _, rfl, h⟩ ?_
 clear h
 rintro ⟨i, m⟩ w e ⟨hi, he, h⟩
 dsimp only at hi he h ⊢
 refine c_seq (c_seq (c_region ?_))
 refine r_v (q_moveI rfl) rfl ?_; refine r_v (q_moveS rfl) rfl ?_; refine r_v (q_len rfl) rfl ?_; refine r_v (q_lss rfl rfl) rfl ?_
 by_cases hlt : i < r.length
 ·have hg := List.getElem?_eq_getElem hlt
  have hdr := List.drop_eq_getElem_cons hlt
  generalize r[i] = y at hg hdr
  rw [hdr, leastA] at he
  refine r_is (.bool true) (by simp; omega) ?_
  refine r_nil (c_true rfl (c_skip ?_))
  refine c_seq (c_block ?_)
  refine c_region ?_
  refine r_v (q_moveI rfl) rfl ?_; refine r_v (q_moveS rfl) rfl ?_; refine r_v (q_moveI rfl) rfl ?_
  refine r_v (q_idx (b := b) (o := o) (m := (x :: r).length) (c := c) (o' := o + (i + 1)) (by rw [← hsl]; rfl) rfl rfl (by simp; omega) (by simp)) rfl ?_
  refine r_v (q_loadc (v := .int .u64 y) rfl ((hsl ▸ hr.at_ h).cell (u64V_get (j := i + 1) (by rw [List.getElem?_cons_succ]; exact hg)))) rfl ?_
  refine r_v (q_min rfl rfl) rfl ?_
  refine r_is (.int .u64 ((min m y : Nat) : Int)) (by congr 1; omega) ?_
  refine r_v (q_assignI rfl) rfl ?_
  refine r_nil ?_
  refine c_region ?_
  refine r_v (q_moveI rfl) rfl ?_; refine r_v (q_add rfl rfl) rfl ?_
  refine r_is (.int .i64 ((i + 1 + 1 : Nat) : Int)) (by rw [wrap64 (by omega) (by omega)]; rfl) ?_
  refine r_v (q_assignI rfl) rfl ?_
  exact r_nil ⟨(i + 1, min m y), ⟨rfl, rfl, rfl, trivial⟩, ⟨hlt, he, h⟩, by dsimp only; omega⟩
 refine r_is (.bool false) (by simp; omega) ?_
 refine r_nil (c_false rfl ?_)
 have hin : i = r.length := by omega
 rw [hin, List.drop_length, leastA] at he
 refine c_exit ?_
 refine c_seq (c_region ?_)
 refine r_v (q_moveI rfl) rfl ?_; refine r_v (q_assignI rfl) rfl ?_
 refine r_nil ?_
 rw [← he]
 exact c_ret (bq1 ⟨rfl, h⟩)
theorem slices_Max {sl : Option Addr} {c : Nat} {x : Nat} {r : List Nat} (hn : r.length ≤ 65535) (hr : Reads w0 l 1 sl (x :: r).length (u64V (x :: r))) (h : St w0 l w) :
  Ret Tryz.prog 268 [.slice sl (x :: r).length c] w fun v w' => v = .int .u64 (greatA x r) ∧ St w0 l w' := by
 obtain ⟨b, o, hsl⟩ := (hr.at_ h).some (by simp)
 refine enter Tryz.func268 rfl Tryz.results268 Tryz.ntmps268 rfl ?_
 refine c_seq (c_region ?_)
 refine r_v (q_assignI rfl) rfl ?_
 refine r_nil ?_
 refine c_seq (c_seq (c_region ?_))
 refine r_v (q_moveS rfl) rfl ?_; refine r_v (q_len rfl) rfl ?_; refine r_v (q_lss rfl rfl) rfl ?_
 refine r_is (.bool false) (by simp; omega) ?_
 refine r_nil (c_false rfl (c_skip ?_))
 refine c_seq (c_region ?_)
 refine r_v (q_moveS rfl) rfl ?_
 refine r_v (q_idx (b := b) (o := o) (m := (x :: r).length) (c := c) (o' := o) (by rw [← hsl]; rfl) rfl (j := 0) rfl (by simp) (by simp)) rfl ?_
 refine r_v (q_loadc (v := .int .u64 x) rfl ((hsl ▸ hr.at_ h).cell (u64V_get (j := 0) rfl))) rfl ?_
 refine r_v (q_assignI rfl) rfl ?_
 refine r_nil ?_
 refine c_seq (c_seq (c_region ?_))
 refine r_v (q_assignI rfl) rfl ?_
 refine r_nil ?_
 refine c_block ?_
 refine c_loop (Γ := Nat × Nat) (fun k => [(0, .slice sl (x :: r).length c), (3, .int .u64 k.2), (4, .int .i64 ((k.1 + 1 : Nat) : Int))]) (fun k w => k.1 ≤ r.length ∧ greatA k.2 (r.drop k.1) = greatA x r ∧ St w0 l w) (fun k => r.length - k.1) (0, x) ⟨rfl, rfl, rfl, trivial⟩ ⟨Nat.zero_le _, rfl, h⟩ ?_
 clear h
 rintro ⟨i, m⟩ w e ⟨hi, he, h⟩
 dsimp only at hi he h ⊢
 refine c_seq (c_seq (c_region ?_))
 refine r_v (q_moveI rfl) rfl ?_; refine r_v (q_moveS rfl) rfl ?_; refine r_v (q_len rfl) rfl ?_; refine r_v (q_lss rfl rfl) rfl ?_
 by_cases hlt : i < r.length
 ·have hg := List.getElem?_eq_getElem hlt
  have hdr := List.drop_eq_getElem_cons hlt
  generalize r[i] = y at hg hdr
  rw [hdr, greatA] at he
  refine r_is (.bool true) (by simp; omega) ?_
  refine r_nil (c_true rfl (c_skip ?_))
  refine c_seq (c_block ?_)
  refine c_region ?_
  refine r_v (q_moveI rfl) rfl ?_; refine r_v (q_moveS rfl) rfl ?_; refine r_v (q_moveI rfl) rfl ?_
  refine r_v (q_idx (b := b) (o := o) (m := (x :: r).length) (c := c) (o' := o + (i + 1)) (by rw [← hsl]; rfl) rfl rfl (by simp; omega) (by simp)) rfl ?_
  refine r_v (q_loadc (v := .int .u64 y) rfl ((hsl ▸ hr.at_ h).cell (u64V_get (j := i + 1) (by rw [List.getElem?_cons_succ]; exact hg)))) rfl ?_
  refine r_v (q_max rfl rfl) rfl ?_
  refine r_is (.int .u64 ((max m y : Nat) : Int)) (by congr 1; omega) ?_
  refine r_v (q_assignI rfl) rfl ?_
  refine r_nil ?_
  refine c_region ?_
  refine r_v (q_moveI rfl) rfl ?_; refine r_v (q_add rfl rfl) rfl ?_
  refine r_is (.int .i64 ((i + 1 + 1 : Nat) : Int)) (by rw [wrap64 (by omega) (by omega)]; rfl) ?_
  refine r_v (q_assignI rfl) rfl ?_
  exact r_nil ⟨(i + 1, max m y), ⟨rfl, rfl, rfl, trivial⟩, ⟨hlt, he, h⟩, by dsimp only; omega⟩
 refine r_is (.bool false) (by simp; omega) ?_
 refine r_nil (c_false rfl ?_)
 have hin : i = r.length := by omega
 rw [hin, List.drop_length, greatA] at he
 refine c_exit ?_
 refine c_seq (c_region ?_)
 refine r_v (q_moveI rfl) rfl ?_; refine r_v (q_assignI rfl) rfl ?_
 refine r_nil ?_
 rw [← he]
 exact c_ret (bq1 ⟨rfl, h⟩)
theorem flat_bits_len (f : Nat → Nat) (wide : Nat) : ∀ v : List Nat, (v.flatMap fun y => bitsOf (f y) wide).length = wide * v.length
 | [] => rfl
 | x :: v => by rw [List.flatMap_cons, List.length_append, bitsOf_len, flat_bits_len f wide v, List.length_cons, Nat.mul_add]; omega

theorem forp_Encode {sl : Option Addr} {c : Nat} {u : List Nat} (hu : ∀ x ∈ u, x < 18446744073709551616) (hn : u.length ≤ 65535) (hr : Reads w0 l 1 sl u.length (u64V u)) (h : St w0 l w) :
  Ret Tryz.prog 252 [.slice sl u.length c] w fun v w' => ∃ a c', v = .slice a (frameEnc u).length c' ∧ St w0 (OwnB a c' (frameEnc u) :: l) w' := by
 refine enter Tryz.func252 rfl Tryz.results252 Tryz.ntmps252 rfl ?_
 refine c_seq (c_region ?_)
 refine r_v (q_assignS rfl) rfl ?_
 refine r_nil ?_
 refine c_seq (c_seq (c_region ?_))
 refine r_v (q_moveS rfl) rfl ?_; refine r_v (q_len rfl) rfl ?_; refine r_v (q_eql rfl rfl) rfl ?_
 cases u with
 | nil =>
  refine r_is (.bool true) rfl ?_
  refine r_nil (c_true rfl ?_)
  refine c_seq (c_region ?_)
  refine r_v (q_assignS rfl) rfl ?_
  refine r_nil ?_
  exact c_ret (bq1 ⟨none, 0, rfl, St.ownNil _ _ h⟩)
 | cons x r =>
 have hx := hu x (List.mem_cons_self ..)
 have hlst := leastA_lt r x hx
 have hgt := greatA_lt r x hx fun y hy => hu y (List.mem_cons_of_mem _ hy)
 have hlg : leastA x r ≤ greatA x r := Nat.le_trans (leastA_le r x).1 (greatA_ge r x).1
 have hw64 : len64 (greatA x r - leastA x r) ≤ 64 := len64_64 (by omega)
 have hnr : r.length ≤ 65534 := by simpa using hn
 refine r_is (.bool false) (by simp; omega) ?_
 refine r_nil (c_false rfl (c_skip ?_))
 refine c_seq (c_region ?_)
 refine r_v (q_moveS rfl) rfl ?_
 refine r_c rfl (x_call rfl (slices_Min (by omega) hr h) ?_)
 rintro _ w ⟨rfl, h⟩
 refine r_v (q_assignI rfl) rfl ?_
 refine r_nil ?_
 refine c_seq (c_region ?_)
 refine r_v (q_moveS rfl) rfl ?_
 refine r_c rfl (x_call rfl (slices_Max (by omega) hr h) ?_)
 rintro _ w ⟨rfl, h⟩
 refine r_v (q_moveI rfl) rfl ?_; refine r_v (q_sub rfl rfl) rfl ?_
 refine r_is (.int .u64 ((greatA x r - leastA x r : Nat) : Int)) (by rw [wrap_us]; unfold us; congr 1; omega) ?_
 refine r_c rfl (x_call rfl (mb_Len64 (by omega) h) ?_)
 rintro _ w ⟨rfl, h⟩
 have hfe : frameEnc (x :: r) = vput (leastA x r) ++ (UInt8.ofNat (len64 (greatA x r - leastA x r)) :: pack ((x :: r).flatMap fun y => bitsOf (y - leastA x r) (len64 (greatA x r - leastA x r)))) := rfl
 have hmem : ∀ y ∈ x :: r, leastA x r ≤ y := by
  intro y hy
  rcases List.mem_cons.1 hy with rfl | hy
  ·exact (leastA_le r y).1
  ·exact (leastA_le r x).2 y hy
 rw [hfe]
 generalize len64 (greatA x r - leastA x r) = wide at hw64 ⊢
 generalize leastA x r = least at hlst hmem ⊢
 have hflat := flat_bits_len (fun y => y - least) wide (x :: r)
 generalize hU : x :: r = u at *
 clear hfe hlg hgt hU
 refine r_v (q_assignI rfl) rfl ?_
 refine r_nil ?_
 refine c_seq (c_region ?_)
 refine r_c rfl (x_call rfl (bits_NewWriter h) ?_)
 rintro _ w ⟨p, rfl, h⟩
 refine r_v (q_assignP rfl) rfl ?_
 refine r_nil ?_
 refine c_seq (c_seq (c_region ?_))
 refine r_v (q_moveS rfl) rfl ?_; refine r_v (q_len rfl) rfl ?_; refine r_v (q_moveI rfl) rfl ?_
 refine r_nil ?_
 have hwl : wide * u.length ≤ 64 * 65535 := Nat.mul_le_mul hw64 hn
 refine c_block ?_
 refine c_loop (Γ := Nat) (fun k => [(3, .int .u64 least), (4, .int .i64 wide), (5, .pointer (some ⟨p, 0, none⟩)), (19, .slice sl u.length c), (20, .int .i64 u.length), (21, .int .i64 k)])
  (fun k w => k ≤ u.length ∧ St w0 (IsBW p ((u.take k).flatMap fun y => bitsOf (y - least) wide) :: l) w) (fun k => u.length - k) 0 ⟨rfl, rfl, rfl, rfl, rfl, rfl, trivial⟩ ⟨Nat.zero_le _, h⟩ ?_
 clear h
 rintro k w e ⟨hk, h⟩
 refine c_seq (c_region ?_)
 refine r_v (q_lss rfl rfl) rfl ?_
 refine r_nil ?_
 refine c_seq (c_cond (decide ((k : Int) < (u.length : Int))) rfl (fun hc => ?_) (fun hc => ?_))
 ·
  have hlt : k < u.length := by simp at hc; omega
  have hg := List.getElem?_eq_getElem hlt
  generalize u[k] = y at hg
  have hyl := hmem y (List.mem_of_getElem? hg)
  have hyu := hu y (List.mem_of_getElem? hg)
  have htl := flat_bits_len (fun y => y - least) wide (u.take k)
  rw [List.length_take, Nat.min_eq_left (Nat.le_of_lt hlt)] at htl
  have hwk : wide * k ≤ wide * u.length := Nat.mul_le_mul_left _ hk
  obtain ⟨b, o, hsl⟩ := (hr.at_ h.drop).some (by omega)
  refine c_skip ?_
  refine c_seq (c_block ?_)
  refine c_seq (c_region ?_)
  refine r_v (q_idx (b := b) (o := o) (m := u.length) (c := c) (o' := o + k) (by rw [← hsl]; rfl) rfl rfl hlt (by simp)) rfl ?_
  refine r_v (q_loadc (v := .int .u64 y) rfl ((hsl ▸ hr.at_ h.drop).cell (u64V_get hg))) rfl ?_
  refine r_v (q_assignI rfl) rfl ?_
  refine r_nil ?_
  refine c_region ?_
  refine r_v (q_moveP rfl) rfl ?_; refine r_v (q_moveI rfl) rfl ?_; refine r_v (q_moveI rfl) rfl ?_; refine r_v (q_sub rfl rfl) rfl ?_
  refine r_is (.int .u64 ((y - least : Nat) : Int)) (by rw [wrap_us]; unfold us; congr 1; omega) ?_
  refine r_v (q_moveI rfl) rfl ?_
  refine r_c rfl (x_call rfl (bits_Put (y - least) wide (by omega) (by rw [htl]; omega) h) ?_)
  rintro _ w ⟨rfl, h⟩
  refine r_nil ?_
  refine c_region ?_
  refine r_v (q_add rfl rfl) rfl ?_
  refine r_is (.int .i64 ((k + 1 : Nat) : Int)) (by rw [wrap64 (by omega) (by omega)]; rfl) ?_
  refine r_v (q_moveI rfl) rfl ?_
  refine r_nil ⟨k + 1, ⟨rfl, rfl, rfl, rfl, rfl, rfl, trivial⟩, ⟨hlt, ?_⟩, by omega⟩
  rw [heldN_nat hw64] at h
  rw [List.take_add_one, hg, List.flatMap_append]
  simpa using h
 have hkn : k = u.length := by simp at hc; omega
 rw [hkn, List.take_length] at h
 refine c_exit ?_
 have hv := vput_len least
 have hpl := pack_len (u.flatMap fun y => bitsOf (y - least) wide)
 refine c_seq (c_region ?_)
 refine r_v (q_moveI rfl) rfl ?_
 refine r_c rfl (x_call rfl (vint_Put (bs := []) least hlst h (fun w' h' => Reads.nil.at_ h') (by simp)) ?_)
 rintro _ w ⟨a1, c1, rfl, h⟩
 rw [List.nil_append] at h ⊢
 refine r_v (q_moveI rfl) rfl ?_; refine r_v (q_conv rfl) rfl ?_
 refine r_is (.int .u8 ((UInt8.ofNat wide).toNat : Int)) (by rw [wrap_u8, UInt8.toNat_ofNat']) ?_
 refine r_c rfl (x_bslice (r := bytesV [UInt8.ofNat wide]) h rfl rfl rfl fun b w h => ?_)
 refine r_c rfl (x_append' (ys := bytesV [UInt8.ofNat wide]) (zs := bytesV (vput least ++ [UInt8.ofNat wide])) (m3 := (vput least ++ [UInt8.ofNat wide]).length) (h.f 1) rfl rfl ⟨rfl, .inr ⟨b, 0, rfl, at_of (h.b 0 rfl) rfl⟩⟩ (bytesV_one _) (by simp) (by simp [bytesV]) (by simp; omega) (by simp; omega) rfl fun a2 c2 w _ h => ?_)
 replace h := (h.f 1).drop
 refine r_v (q_moveP rfl) rfl ?_
 refine r_c rfl (x_call rfl (bits_Bytes (h.f 1) (by omega)) ?_)
 rintro _ w ⟨a3, c3, rfl, h⟩
 refine r_c rfl (x_append' (ys := bytesV (pack (u.flatMap fun y => bitsOf (y - least) wide))) (zs := bytesV (vput least ++ (UInt8.ofNat wide :: pack (u.flatMap fun y => bitsOf (y - least) wide)))) (m3 := (vput least ++ (UInt8.ofNat wide :: pack (u.flatMap fun y => bitsOf (y - least) wide))).length) (h.f 2) rfl rfl h.own_rd (bytesV_one _) (by simp; omega) (by simp [bytesV]) (by simp; omega) (by simp; omega) rfl fun a4 c4 w _ h => ?_)
 refine r_v (q_assignS rfl) rfl ?_
 refine r_nil ?_
 exact c_ret (bq1 ⟨a4, c4, rfl, ((h.f 1).drop.f 1).drop⟩)
end
end Go.Proofs.YtnnehiiblfmpnaaGreatDoor

namespace Go.Hw
def atM (n : Nat) : List Nat → List (Int × Value)
 | [] => []
 | x :: r => ((x : Int), .int .i64 (n : Int)) :: atM (n + 1) r
theorem mget_atM (x : Nat) : ∀ (l : List Nat) (n : Nat), mget (x : Int) (atM n l) = if x ∈ l then some (.int .i64 ((n + l.idxOf x : Nat) : Int)) else none
 | [], n => by simp [atM, mget]
 | y :: r, n => by
  rw [atM, mget]
  by_cases h : y = x
  ·subst h; simp
  ·have h1 : ¬ ((y : Int) = (x : Int)) := by omega
   rw [if_neg h1, mget_atM x r (n + 1)]
   by_cases h2 : x ∈ r
   ·rw [if_pos h2, if_pos (List.mem_cons_of_mem _ h2), List.idxOf_cons, show (y == x) = false by simpa using h]
    congr 2
    simp only [cond_false]
    omega
   ·rw [if_neg h2, if_neg (by simp only [List.mem_cons, not_or]; exact ⟨fun h3 => h h3.symm, h2⟩)]
theorem atM_snoc (x : Nat) : ∀ (l : List Nat) (n : Nat), atM n (l ++ [x]) = atM n l ++ [((x : Int), .int .i64 ((n + l.length : Nat) : Int))]
 | [], n => by simp [atM]
 | y :: r, n => by
  rw [List.cons_append, atM, atM, atM_snoc x r (n + 1), List.cons_append, List.length_cons, show n + 1 + r.length = n + (r.length + 1) by omega]
theorem mset_none {k : Int} {v : Value} {m : List (Int × Value)} (h : mget k m = none) : mset k v m = m ++ [(k, v)] := by
 have h1 := mfind_some k m 0
 rw [h] at h1
 exact mset_new (Option.map_eq_none_iff.1 h1)
theorem atM_set {x : Nat} {l : List Nat} (h : x ∉ l) : mset (x : Int) (.int .i64 (l.length : Int)) (atM 0 l) = atM 0 (l ++ [x]) := by
 rw [mset_none (by rw [mget_atM, if_neg h]), atM_snoc, Nat.zero_add]
end Go.Hw
namespace Go.Proofs.YtnnehiiblfmpnaaGreatDoor
open Go.Hw
set_option maxHeartbeats 4000000
set_option maxRecDepth 100000
section
variable {w0 w : World} {l : List HProp}
theorem dict_unlike {sl : Option Addr} {c : Nat} {u : List Nat} (hu : ∀ x ∈ u, x < 18446744073709551616) (hn : u.length ≤ 65535) (hr : Reads w0 l 1 sl u.length (u64V u)) (h : St w0 l w) :
  Ret Tryz.prog 270 [.slice sl u.length c] w fun v w' => (unlikeA [] u = none ∧ v = .tuple [.slice none 0 0, .map none, .bool false].toArray ∧ St w0 l w') ∨
   (∃ m q a c', unlikeA [] u = some m ∧ v = .tuple [.slice a m.length c', .map (some q), .bool true].toArray ∧ St w0 (OwnU a c' m :: MapOf (Value.int .u64) q (atM 0 m) :: l) w') := by
 refine enter Tryz.func270 rfl Tryz.results270 Tryz.ntmps270 rfl ?_
 refine c_seq (c_region ?_)
 refine r_v (q_assignS rfl) rfl ?_; refine r_v (q_assignM rfl) rfl ?_; refine r_v (q_assignB rfl) rfl ?_
 refine r_nil ?_
 refine c_seq (c_region ?_)
 refine r_v (q_assignS rfl) rfl ?_
 refine r_nil ?_
 refine c_seq (c_region ?_)
 refine r_c rfl (x_mkmap (Value.int .u64) h fun q w h => ?_)
 refine r_v (q_assignM rfl) rfl ?_
 refine r_nil ?_
 refine c_seq (c_seq (c_region ?_))
 refine r_v (q_moveS rfl) rfl ?_; refine r_v (q_len rfl) rfl ?_; refine r_v (q_moveI rfl) rfl ?_
 refine r_nil ?_
 refine c_block ?_
 refine c_loop (Γ := Nat × List Nat × Option Addr × Nat) (fun k => [(5, .slice k.2.2.1 k.2.1.length k.2.2.2), (6, .map (some q)), (12, .slice sl u.length c), (13, .int .i64 u.length), (14, .int .i64 k.1)])
  (fun k w => k.1 ≤ u.length ∧ unlikeA k.2.1 (u.drop k.1) = unlikeA [] u ∧ k.2.1.length ≤ 256 ∧ St w0 (OwnU k.2.2.1 k.2.2.2 k.2.1 :: MapOf (Value.int .u64) q (atM 0 k.2.1) :: l) w)
  (fun k => u.length - k.1) (0, [], none, 0) ⟨rfl, rfl, rfl, rfl, rfl, trivial⟩ ⟨Nat.zero_le _, rfl, by decide, St.ownNil _ _ h⟩ ?_
 clear h
 rintro ⟨i, m, a, c1⟩ w e ⟨hi, he, hm, h⟩
 dsimp only at hi he hm h ⊢
 refine c_seq (c_region ?_)
 refine r_v (q_lss rfl rfl) rfl ?_
 refine r_nil ?_
 refine c_seq (c_cond (decide ((i : Int) < (u.length : Int))) rfl (fun hc => ?_) (fun hc => ?_))
 ·
  have hlt : i < u.length := by simp at hc; omega
  have hg := List.getElem?_eq_getElem hlt
  have hdr := List.drop_eq_getElem_cons hlt
  generalize u[i] = x at hg hdr
  rw [hdr, unlikeA] at he
  obtain ⟨b, o, hsl⟩ := ((hr.more [_, _]).at_ h).some (by omega)
  refine c_skip ?_
  refine c_cut (Γ := List Nat × Option Addr × Nat) (fun k => [(5, .slice k.2.1 k.1.length k.2.2), (6, .map (some q)), (12, .slice sl u.length c), (13, .int .i64 u.length), (14, .int .i64 i)])
   (fun k w => unlikeA k.1 (u.drop (i + 1)) = unlikeA [] u ∧ k.1.length ≤ 256 ∧ St w0 (OwnU k.2.1 k.2.2 k.1 :: MapOf (Value.int .u64) q (atM 0 k.1) :: l) w) ?_ ?_
  ·refine c_block ?_
   refine c_seq (c_region ?_)
   refine r_v (q_idx (b := b) (o := o) (m := u.length) (c := c) (o' := o + i) (by rw [← hsl]; rfl) rfl rfl hlt (by simp)) rfl ?_
   refine r_v (q_loadc (v := .int .u64 x) rfl ((hsl ▸ (hr.more [_, _]).at_ h).cell (u64V_get hg))) rfl ?_
   refine r_v (q_assignI rfl) rfl ?_
   refine r_nil ?_
   refine c_seq (c_seq (c_region ?_))
   refine r_v (q_moveM rfl) rfl ?_; refine r_v (q_moveI rfl) rfl ?_
   refine r_v (q_lookup (k := (x : Int)) rfl rfl (h.f 1).isMap) rfl ?_
   rw [mget_atM]
   by_cases hx : x ∈ m
   ·rw [if_pos hx] at he ⊢
    refine r_v (q_moveT rfl) rfl ?_; refine r_v (q_ext rfl rfl) rfl ?_; refine r_v (q_ext rfl rfl) rfl ?_; refine r_v (q_assignI rfl) rfl ?_; refine r_v (q_assignB rfl) rfl ?_
    refine r_nil ?_
    refine c_seq (c_region ?_)
    refine r_v (q_moveB rfl) rfl ?_
    refine r_nil (c_true rfl ?_)
    exact c_exit ⟨(m, a, c1), ⟨rfl, rfl, rfl, rfl, rfl, trivial⟩, he, hm, h⟩
   ·rw [if_neg hx] at he ⊢
    refine r_v (q_moveT rfl) rfl ?_; refine r_v (q_ext rfl rfl) rfl ?_; refine r_v (q_ext rfl rfl) rfl ?_; refine r_v (q_assignI rfl) rfl ?_; refine r_v (q_assignB rfl) rfl ?_
    refine r_nil ?_
    refine c_seq (c_region ?_)
    refine r_v (q_moveB rfl) rfl ?_
    refine r_nil (c_false rfl (c_skip ?_))
    refine c_seq (c_seq (c_region ?_))
    refine r_v (q_moveS rfl) rfl ?_; refine r_v (q_len rfl) rfl ?_; refine r_v (q_eql rfl rfl) rfl ?_
    by_cases h256 : m.length = 256
    ·rw [if_pos h256] at he
     refine r_is (.bool true) (by rw [h256]; rfl) ?_
     refine r_nil (c_true rfl ?_)
     refine c_seq (c_region ?_)
     refine r_v (q_assignS rfl) rfl ?_; refine r_v (q_assignM rfl) rfl ?_; refine r_v (q_assignB rfl) rfl ?_
     refine r_nil ?_
     exact c_ret (bq3 (.inl ⟨he.symm, rfl, h.drop.drop⟩))
    ·rw [if_neg h256] at he
     refine r_is (.bool false) (by congr 1; rw [beq_eq_false_iff_ne]; omega) ?_
     refine r_nil (c_false rfl (c_skip ?_))
     refine c_seq (c_region ?_)
     refine r_v (q_moveM rfl) rfl ?_; refine r_v (q_moveI rfl) rfl ?_; refine r_v (q_moveS rfl) rfl ?_; refine r_v (q_len rfl) rfl ?_
     refine r_c rfl (x_mapset (k := (x : Int)) (v := .int .i64 m.length) (h.f 1) rfl rfl rfl fun w h => ?_)
     rw [atM_set hx] at h
     refine r_nil ?_
     refine c_region ?_
     refine r_v (q_moveS rfl) rfl ?_; refine r_v (q_moveI rfl) rfl ?_
     refine r_c rfl (x_bslice (r := u64V [x]) h rfl rfl rfl fun b2 w h => ?_)
     refine r_c rfl (x_append' (ys := u64V [x]) (zs := u64V (m ++ [x])) (m3 := (m ++ [x]).length) (h.f 2) rfl rfl ⟨rfl, .inr ⟨b2, 0, rfl, at_of (h.b 0 rfl) rfl⟩⟩ (u64V_one _) (by simp) (by simp [u64V]) (by simp; omega) (by simp; omega) rfl fun a2 c2 w _ h => ?_)
     refine r_v (q_assignS rfl) rfl ?_
     refine r_nil ⟨(m ++ [x], a2, c2), ⟨rfl, rfl, rfl, rfl, rfl, trivial⟩, he, by simp; omega, ?_⟩
     exact (h.f 1).drop
  clear h he hm
  rintro ⟨m, a, c1⟩ w e ⟨he, hm, h⟩
  dsimp only at he hm h ⊢
  refine c_region ?_
  refine r_v (q_add rfl rfl) rfl ?_
  refine r_is (.int .i64 ((i + 1 : Nat) : Int)) (by rw [wrap64 (by omega) (by omega)]; rfl) ?_
  refine r_v (q_moveI rfl) rfl ?_
  exact r_nil ⟨(i + 1, m, a, c1), ⟨rfl, rfl, rfl, rfl, rfl, trivial⟩, ⟨hlt, he, hm, h⟩, by dsimp only; omega⟩
 have hin : i = u.length := by simp at hc; omega
 rw [hin, List.drop_length, unlikeA] at he
 refine c_exit ?_
 refine c_seq (c_region ?_)
 refine r_v (q_moveS rfl) rfl ?_; refine r_v (q_moveM rfl) rfl ?_; refine r_v (q_assignS rfl) rfl ?_; refine r_v (q_assignM rfl) rfl ?_; refine r_v (q_assignB rfl) rfl ?_
 refine r_nil ?_
 exact c_ret (bq3 (.inr ⟨m, q, a, c1, he.symm, rfl, h⟩))
theorem vputs_len : ∀ m : List Nat, (m.flatMap vput).length ≤ 10 * m.length
 | [] => Nat.le_refl _
 | x :: m => by
  have h1 := vput_len x
  have h2 := vputs_len m
  rw [List.flatMap_cons, List.length_append, List.length_cons]; omega

theorem dict_Encode {sl : Option Addr} {c : Nat} {u : List Nat} (hu : ∀ x ∈ u, x < 18446744073709551616) (hn : u.length ≤ 65535) (hr : Reads w0 l 1 sl u.length (u64V u)) (h : St w0 l w) :
  Ret Tryz.prog 255 [.slice sl u.length c] w fun v w' => ∃ a c', v = .tuple [.slice a ((dictEnc u).getD []).length c', .bool (dictEnc u).isSome].toArray ∧ St w0 (OwnB a c' ((dictEnc u).getD []) :: l) w' := by
 refine enter Tryz.func255 rfl Tryz.results255 Tryz.ntmps255 rfl ?_
 refine c_seq (c_region ?_)
 refine r_v (q_assignS rfl) rfl ?_; refine r_v (q_assignB rfl) rfl ?_
 refine r_nil ?_
 refine c_seq (c_region ?_)
 refine r_v (q_moveS rfl) rfl ?_
 refine r_c rfl (x_call rfl (dict_unlike hu hn hr h) ?_)
 rintro _ w (⟨hno, rfl, h⟩ | ⟨m, q, am, cm, hso, rfl, h⟩)
 ·refine r_v (q_moveT rfl) rfl ?_; refine r_v (q_ext rfl rfl) rfl ?_; refine r_v (q_ext rfl rfl) rfl ?_; refine r_v (q_ext rfl rfl) rfl ?_; refine r_v (q_assignS rfl) rfl ?_; refine r_v (q_assignM rfl) rfl ?_; refine r_v (q_assignB rfl) rfl ?_
  refine r_nil ?_
  refine c_seq (c_seq (c_region ?_))
  refine r_v (q_moveB rfl) rfl ?_; refine r_v (q_not rfl) rfl ?_; refine r_v (q_moveB rfl) rfl ?_; refine r_gn rfl rfl rfl ?_; refine r_gn rfl rfl rfl ?_; refine r_gn rfl rfl rfl ?_; refine r_v (q_pick1 rfl rfl rfl) rfl ?_
  refine r_nil (c_true rfl ?_)
  refine c_seq (c_region ?_)
  refine r_v (q_moveB rfl) rfl ?_; refine r_v (q_assignS rfl) rfl ?_; refine r_v (q_assignB rfl) rfl ?_
  refine r_nil ?_
  have e1 : dictEnc u = none := by unfold dictEnc; rw [hno]
  rw [e1]
  exact c_ret (bq2 ⟨none, 0, rfl, St.ownNil _ _ h⟩)
 obtain ⟨_, hmem, hm256, hfrom⟩ := unlikeA_some u [] m hso (by simp)
 have hm64 : ∀ x ∈ m, x < 18446744073709551616 := fun x hx => by
  rcases hfrom x hx with h | h
  ·cases h
  ·exact hu x h
 refine r_v (q_moveT rfl) rfl ?_; refine r_v (q_ext rfl rfl) rfl ?_; refine r_v (q_ext rfl rfl) rfl ?_; refine r_v (q_ext rfl rfl) rfl ?_; refine r_v (q_assignS rfl) rfl ?_; refine r_v (q_assignM rfl) rfl ?_; refine r_v (q_assignB rfl) rfl ?_
 refine r_nil ?_
 refine c_seq (c_seq (c_region ?_))
 refine r_v (q_moveB rfl) rfl ?_; refine r_v (q_not rfl) rfl ?_; refine r_v (q_moveB rfl) rfl ?_; refine r_gd rfl rfl ?_; refine r_v (q_moveS rfl) rfl ?_; refine r_gd rfl rfl ?_; refine r_v (q_len rfl) rfl ?_; refine r_gd rfl rfl ?_; refine r_v (q_eql rfl rfl) rfl ?_
 by_cases h0 : u = []
 ·refine r_is (.bool true) (by rw [h0]; rfl) ?_
  refine r_v (q_pick0 rfl rfl rfl) rfl ?_
  refine r_nil (c_true rfl ?_)
  refine c_seq (c_region ?_)
  refine r_v (q_moveB rfl) rfl ?_; refine r_v (q_assignS rfl) rfl ?_; refine r_v (q_assignB rfl) rfl ?_
  refine r_nil ?_
  have e1 : dictEnc u = some [] := by unfold dictEnc; rw [hso]; dsimp only; rw [if_pos h0]
  rw [e1]
  exact c_ret (bq2 ⟨none, 0, rfl, St.ownNil _ _ h.drop.drop⟩)
 have hpos : 0 < u.length := List.length_pos_iff.2 h0
 have hmp : 0 < m.length := by
  cases u with
  | nil => exact absurd rfl h0
  | cons x r => exact List.length_pos_of_mem (hmem x (List.mem_cons_self ..))
 have e1 : dictEnc u = some (dictBytes m u) := by unfold dictEnc; rw [hso]; dsimp only; rw [if_neg h0]
 rw [e1]
 refine r_is (.bool false) (by congr 1; rw [beq_eq_false_iff_ne]; omega) ?_
 refine r_v (q_pick0 rfl rfl rfl) rfl ?_
 refine r_nil (c_false rfl (c_skip ?_))
 have hvm := vput_len m.length
 refine c_seq (c_region ?_)
 refine r_v (q_moveS rfl) rfl ?_; refine r_v (q_len rfl) rfl ?_; refine r_v (q_conv rfl) rfl ?_
 refine r_is (.int .u64 (m.length : Int)) (by rw [wrap_u64, Nat.mod_eq_of_lt (by omega)]) ?_
 refine r_c rfl (x_call rfl (vint_Put (bs := []) m.length (by omega) h (fun w' h' => Reads.nil.at_ h') (by simp)) ?_)
 rintro _ w ⟨a1, c1, rfl, h⟩
 rw [List.nil_append] at h ⊢
 refine r_v (q_assignS rfl) rfl ?_
 refine r_nil ?_
 refine c_seq (c_seq (c_region ?_))
 refine r_v (q_moveS rfl) rfl ?_; refine r_v (q_len rfl) rfl ?_; refine r_v (q_moveI rfl) rfl ?_
 refine r_nil ?_
 refine c_block ?_
 refine c_loop (Γ := Nat × Option Addr × Nat) (fun k => [(0, .slice sl u.length c), (4, .slice am m.length cm), (5, .map (some q)), (7, .slice k.2.1 (vput m.length ++ (m.take k.1).flatMap vput).length k.2.2), (31, .slice am m.length cm), (32, .int .i64 m.length), (33, .int .i64 k.1)])
  (fun k w => k.1 ≤ m.length ∧ St w0 (OwnB k.2.1 k.2.2 (vput m.length ++ (m.take k.1).flatMap vput) :: OwnU am cm m :: MapOf (Value.int .u64) q (atM 0 m) :: l) w) (fun k => m.length - k.1) (0, a1, c1) ⟨rfl, rfl, rfl, (by show Value.slice _ _ _ = Value.slice _ _ _; simp), rfl, rfl, rfl, trivial⟩ ⟨Nat.zero_le _, by simpa using h⟩ ?_
 clear h a1 c1
 rintro ⟨k, a1, c1⟩ w e ⟨hk, h⟩
 dsimp only at hk h ⊢
 have htl := vputs_len (m.take k)
 have htl2 : (m.take k).length ≤ m.length := by rw [List.length_take]; omega
 refine c_seq (c_region ?_)
 refine r_v (q_lss rfl rfl) rfl ?_
 refine r_nil ?_
 refine c_seq (c_cond (decide ((k : Int) < (m.length : Int))) rfl (fun hc => ?_) (fun hc => ?_))
 ·
  have hlt : k < m.length := by simp at hc; omega
  have hg := List.getElem?_eq_getElem hlt
  generalize m[k] = x at hg
  obtain ⟨b, hsl⟩ := (h.f 1).own_some (by omega)
  refine c_skip ?_
  refine c_seq (c_block ?_)
  refine c_seq (c_region ?_)
  refine r_v (q_idx (b := b) (o := 0) (m := m.length) (c := cm) (o' := k) (by rw [← hsl]; rfl) rfl rfl hlt (by simp)) rfl ?_
  refine r_v (q_loadc (v := .int .u64 x) rfl (by have := (hsl ▸ (h.f 1).own_rd).cell (u64V_get hg); simpa using this)) rfl ?_
  refine r_v (q_assignI rfl) rfl ?_
  refine r_nil ?_
  refine c_region ?_
  refine r_v (q_moveS rfl) rfl ?_; refine r_v (q_moveI rfl) rfl ?_
  refine r_c rfl (x_call rfl (vint_Put x (hm64 x (List.mem_of_getElem? hg)) h (fun w' h' => h'.own_rd) (by rw [List.length_append]; omega)) ?_)
  rintro _ w ⟨a2, c2, rfl, h⟩
  refine r_v (q_assignS rfl) rfl ?_
  refine r_nil ?_
  refine c_region ?_
  refine r_v (q_add rfl rfl) rfl ?_
  refine r_is (.int .i64 ((k + 1 : Nat) : Int)) (by rw [wrap64 (by omega) (by omega)]; rfl) ?_
  refine r_v (q_moveI rfl) rfl ?_
  have hstep : vput m.length ++ (m.take (k + 1)).flatMap vput = (vput m.length ++ (m.take k).flatMap vput) ++ vput x := by
   rw [List.take_add_one, hg, List.flatMap_append, List.append_assoc]; simp
  refine r_nil ⟨(k + 1, a2, c2), ⟨rfl, rfl, rfl, ?_, rfl, rfl, rfl, trivial⟩, ⟨hlt, ?_⟩, by dsimp only; omega⟩
  ·show Value.slice _ _ _ = Value.slice _ _ _
   rw [hstep]
  ·dsimp only
   rw [hstep]
   exact (h.f 1).drop
 have hkm : k = m.length := by simp at hc; omega
 subst hkm
 rw [List.take_length] at h ⊢
 rw [List.take_length] at htl
 refine c_exit ?_
 refine c_seq (c_region ?_)
 refine r_c rfl (x_call rfl (bits_NewWriter h) ?_)
 rintro _ w ⟨p, rfl, h⟩
 refine r_v (q_assignP rfl) rfl ?_
 refine r_nil ?_
 refine c_seq (c_seq (c_region ?_))
 refine r_v (q_moveS rfl) rfl ?_; refine r_v (q_len rfl) rfl ?_; refine r_v (q_moveI rfl) rfl ?_
 refine r_nil ?_
 have hw64 : len64 (m.length - 1) ≤ 64 := len64_64 (by omega)
 have hdb : dictBytes m u = vput m.length ++ (m.flatMap vput ++ pack (u.flatMap fun x => bitsOf (m.idxOf x) (len64 (m.length - 1)))) := rfl
 have hflat := flat_bits_len (fun y => m.idxOf y) (len64 (m.length - 1)) u
 have hwl : len64 (m.length - 1) * u.length ≤ 64 * 65535 := Nat.mul_le_mul hw64 hn
 refine c_block ?_
 refine c_loop (Γ := Nat) (fun k => [(4, .slice am m.length cm), (5, .map (some q)), (7, .slice a1 (vput m.length ++ m.flatMap vput).length c1), (10, .pointer (some ⟨p, 0, none⟩)), (42, .slice sl u.length c), (43, .int .i64 u.length), (44, .int .i64 k)])
  (fun k w => k ≤ u.length ∧ St w0 (IsBW p ((u.take k).flatMap fun x => bitsOf (m.idxOf x) (len64 (m.length - 1))) :: OwnB a1 c1 (vput m.length ++ m.flatMap vput) :: OwnU am cm m :: MapOf (Value.int .u64) q (atM 0 m) :: l) w) (fun k => u.length - k) 0 ⟨rfl, rfl, rfl, rfl, rfl, rfl, rfl, trivial⟩ ⟨Nat.zero_le _, h⟩ ?_
 clear h
 rintro k w e ⟨hk, h⟩
 refine c_seq (c_region ?_)
 refine r_v (q_lss rfl rfl) rfl ?_
 refine r_nil ?_
 refine c_seq (c_cond (decide ((k : Int) < (u.length : Int))) rfl (fun hc => ?_) (fun hc => ?_))
 ·
  have hlt : k < u.length := by simp at hc; omega
  have hg := List.getElem?_eq_getElem hlt
  generalize u[k] = x at hg
  have hxm := hmem x (List.mem_of_getElem? hg)
  have hidx := List.idxOf_lt_length_iff.2 hxm
  have htk := flat_bits_len (fun y => m.idxOf y) (len64 (m.length - 1)) (u.take k)
  rw [List.length_take, Nat.min_eq_left (Nat.le_of_lt hlt)] at htk
  have hwk : len64 (m.length - 1) * k ≤ len64 (m.length - 1) * u.length := Nat.mul_le_mul_left _ hk
  obtain ⟨b, o, hsl⟩ := ((hr.more [_, _, _, _]).at_ h).some (by omega)
  refine c_skip ?_
  refine c_seq (c_block ?_)
  refine c_seq (c_region ?_)
  refine r_v (q_idx (b := b) (o := o) (m := u.length) (c := c) (o' := o + k) (by rw [← hsl]; rfl) rfl rfl hlt (by simp)) rfl ?_
  refine r_v (q_loadc (v := .int .u64 x) rfl ((hsl ▸ (hr.more [_, _, _, _]).at_ h).cell (u64V_get hg))) rfl ?_
  refine r_v (q_assignI rfl) rfl ?_
  refine r_nil ?_
  refine c_anyW [0, 1, 2, 3, 4, 5, 6, 7, 8, 9, 10] none (fun w => IsMap (Value.int .u64) w q (atM 0 m)) (by kernel_rfl) (by kernel_rfl) ?_
  replace h := h.drew
  generalize w.drew = w at h
  have hs := h
  replace h := (hs.f 3).isMap
  refine cur_pure rfl rfl rfl rfl (fun _ => h) (fun _ => flt_v rfl (q_moveP rfl)) ?_; refine cur_pure rfl rfl rfl rfl (fun _ => h) (fun _ => flt_v rfl (q_moveM rfl)) ?_; refine cur_pure rfl rfl rfl rfl (fun _ => h) (fun _ => flt_v rfl (q_moveI rfl)) ?_
  refine cur_float rfl rfl rfl rfl h (fun w h => flt_v rfl (q_is (v' := .int .i64 ((m.idxOf x : Nat) : Int)) (q_lookup1 (k := (x : Int)) rfl rfl h) (by rw [mget_atM, if_pos hxm, Nat.zero_add]; rfl))) ?_
  refine cur_pure rfl rfl rfl rfl (fun _ => h) (fun _ => flt_v rfl (q_is (v' := .int .u64 ((m.idxOf x : Nat) : Int)) (q_conv rfl) (by rw [wrap_u64, Nat.mod_eq_of_lt (by omega)]))) ?_
  refine cur_pure rfl rfl rfl rfl (fun _ => h) (fun _ => flt_v rfl (q_moveS rfl)) ?_; refine cur_pure rfl rfl rfl rfl (fun _ => h) (fun _ => flt_v rfl (q_len rfl)) ?_
  refine cur_pure rfl rfl rfl rfl (fun _ => h) (fun _ => flt_v rfl (q_is (v' := .int .i64 ((m.length - 1 : Nat) : Int)) (q_sub rfl rfl) (by rw [wrap64 (by omega) (by omega)]; congr 1; omega))) ?_
  refine cur_pure rfl rfl rfl rfl (fun _ => h) (fun _ => flt_v rfl (q_is (v' := .int .u64 ((m.length - 1 : Nat) : Int)) (q_conv rfl) (by rw [wrap_u64, Nat.mod_eq_of_lt (by omega)]))) ?_
  refine cur_skip ?_; refine cur_skip ?_
  refine cur_one 9 rfl rfl rfl rfl ?_
  refine (x_call rfl (mb_Len (by omega) hs) ?_)
  rintro _ w ⟨rfl, hs⟩
  replace h := (hs.f 3).isMap
  refine ⟨fun _ => h, ?_⟩
  refine cur_skip ?_
  refine cur_one 10 rfl rfl rfl rfl ?_
  refine (x_call rfl (bits_Put (m.idxOf x) (len64 (m.length - 1)) (by omega) (by rw [htk]; omega) hs) ?_)
  rintro _ w ⟨rfl, hs⟩
  replace h := (hs.f 3).isMap
  refine ⟨fun _ => h, ?_⟩
  refine cur_end ?_
  refine c_region ?_
  refine r_v (q_add rfl rfl) rfl ?_
  refine r_is (.int .i64 ((k + 1 : Nat) : Int)) (by rw [wrap64 (by omega) (by omega)]; rfl) ?_
  refine r_v (q_moveI rfl) rfl ?_
  refine r_nil ⟨k + 1, ⟨rfl, rfl, rfl, rfl, rfl, rfl, rfl, trivial⟩, ⟨hlt, ?_⟩, by omega⟩
  rw [heldN_nat hw64] at hs
  rw [List.take_add_one, hg, List.flatMap_append]
  simpa using hs
 have hkn : k = u.length := by simp at hc; omega
 rw [hkn, List.take_length] at h
 refine c_exit ?_
 have hpl := pack_len (u.flatMap fun x => bitsOf (m.idxOf x) (len64 (m.length - 1)))
 refine c_seq (c_region ?_)
 refine r_v (q_moveS rfl) rfl ?_; refine r_v (q_moveP rfl) rfl ?_
 refine r_c rfl (x_call rfl (bits_Bytes h (by omega)) ?_)
 rintro _ w ⟨a3, c3, rfl, h⟩
 refine r_c rfl (x_append' (ys := bytesV (pack (u.flatMap fun x => bitsOf (m.idxOf x) (len64 (m.length - 1))))) (zs := bytesV (dictBytes m u)) (m3 := (dictBytes m u).length) (h.f 2) rfl rfl h.own_rd (bytesV_one _) (by rw [hdb]; simp; omega) (by rw [hdb]; simp [bytesV]) (by rw [hdb, List.length_append, List.length_append, hpl]; omega) (by rw [hdb, List.length_append, List.length_append, hpl]; omega) rfl fun a4 c4 w _ h => ?_)
 refine r_v (q_assignS rfl) rfl ?_; refine r_v (q_assignB rfl) rfl ?_
 refine r_nil ?_
 refine c_ret (bq2 ⟨a4, c4, rfl, ?_⟩)
 exact ((((h.f 1).drop.f 1).drop.f 1).drop.f 1).drop

theorem suit_steps {sl : Option Addr} {c : Nat} {u : List Nat} (hu : ∀ x ∈ u, x < 18446744073709551616) (hn : u.length ≤ 65535) (hr : Reads w0 l 1 sl u.length (u64V u)) (h : St w0 l w) :
  Ret Tryz.prog 257 [.slice sl u.length c] w fun v w' => ∃ a c', v = .slice a (stepsL 0 u).length c' ∧ St w0 (OwnU a c' (stepsL 0 u) :: l) w' := by
 refine enter Tryz.func257 rfl Tryz.results257 Tryz.ntmps257 rfl ?_
 refine c_seq (c_region ?_)
 refine r_v (q_assignS rfl) rfl ?_
 refine r_nil ?_
 refine c_seq (c_region ?_)
 refine r_v (q_assignS rfl) rfl ?_
 refine r_nil ?_
 refine c_seq (c_region ?_)
 refine r_v (q_assignI rfl) rfl ?_
 refine r_nil ?_
 refine c_seq (c_seq (c_region ?_))
 refine r_v (q_moveS rfl) rfl ?_; refine r_v (q_len rfl) rfl ?_; refine r_v (q_moveI rfl) rfl ?_
 refine r_nil ?_
 refine c_block ?_
 refine c_loop (Γ := Nat × Nat × List Nat × Option Addr × Nat) (fun k => [(3, .slice k.2.2.2.1 k.2.2.1.length k.2.2.2.2), (4, .int .u64 k.2.1), (7, .slice sl u.length c), (8, .int .i64 u.length), (9, .int .i64 k.1)])
  (fun k w => k.1 ≤ u.length ∧ k.2.1 < 18446744073709551616 ∧ k.2.2.1.length = k.1 ∧ k.2.2.1 ++ stepsL k.2.1 (u.drop k.1) = stepsL 0 u ∧ St w0 (OwnU k.2.2.2.1 k.2.2.2.2 k.2.2.1 :: l) w) (fun k => u.length - k.1) (0, 0, [], none, 0) ⟨rfl, rfl, rfl, rfl, rfl, trivial⟩ ⟨Nat.zero_le _, (by decide : (0 : Nat) < 18446744073709551616), rfl, rfl, St.ownNil _ _ h⟩ ?_
 clear h
 rintro ⟨i, was, out, a, c1⟩ w e ⟨hi, hw, hol, he, h⟩
 dsimp only at hi hw hol he h ⊢
 refine c_seq (c_region ?_)
 refine r_v (q_lss rfl rfl) rfl ?_
 refine r_nil ?_
 refine c_seq (c_cond (decide ((i : Int) < (u.length : Int))) rfl (fun hc => ?_) (fun hc => ?_))
 ·
  have hlt : i < u.length := by simp at hc; omega
  have hg := List.getElem?_eq_getElem hlt
  have hdr := List.drop_eq_getElem_cons hlt
  generalize u[i] = x at hg hdr
  have hx := hu x (List.mem_of_getElem? hg)
  have hd : diff x was < 18446744073709551616 := Nat.mod_lt _ (by decide)
  rw [hdr, stepsL] at he
  obtain ⟨b, o, hsl⟩ := (hr.cons.at_ h).some (by omega)
  refine c_skip ?_
  refine c_seq (c_block ?_)
  refine c_seq (c_region ?_)
  refine r_v (q_idx (b := b) (o := o) (m := u.length) (c := c) (o' := o + i) (by rw [← hsl]; rfl) rfl rfl hlt (by simp)) rfl ?_
  refine r_v (q_loadc (v := .int .u64 x) rfl ((hsl ▸ hr.cons.at_ h).cell (u64V_get hg))) rfl ?_
  refine r_v (q_assignI rfl) rfl ?_
  refine r_nil ?_
  refine c_seq (c_region ?_)
  refine r_v (q_moveS rfl) rfl ?_; refine r_v (q_moveI rfl) rfl ?_; refine r_v (q_moveI rfl) rfl ?_; refine r_v (q_sub rfl rfl) rfl ?_
  refine r_is (.int .u64 (diff x was : Nat)) (by rw [wrap_diff hw]) ?_
  refine r_v (q_conv rfl) rfl ?_
  refine r_is (.int .i64 (sg (diff x was))) (by rw [wrap_sg hd]) ?_
  refine r_c rfl (x_call rfl (vint_Zig (sg_wf hd) h) ?_)
  rintro _ w ⟨rfl, h⟩
  rw [us_sg hd]
  refine r_c rfl (x_bslice (r := u64V [zigU (diff x was)]) h rfl rfl rfl fun b2 w h => ?_)
  refine r_c rfl (x_append' (ys := u64V [zigU (diff x was)]) (zs := u64V (out ++ [zigU (diff x was)])) (m3 := (out ++ [zigU (diff x was)]).length) (h.f 1) rfl rfl ⟨rfl, .inr ⟨b2, 0, rfl, at_of (h.b 0 rfl) rfl⟩⟩ (u64V_one _) (by simp) (by simp [u64V]) (by simp; omega) (by simp; omega) rfl fun a2 c2 w _ h => ?_)
  refine r_v (q_assignS rfl) rfl ?_
  refine r_nil ?_
  refine c_region ?_
  refine r_v (q_moveI rfl) rfl ?_; refine r_v (q_assignI rfl) rfl ?_
  refine r_nil ?_
  refine c_region ?_
  refine r_v (q_add rfl rfl) rfl ?_
  refine r_is (.int .i64 ((i + 1 : Nat) : Int)) (by rw [wrap64 (by omega) (by omega)]; rfl) ?_
  refine r_v (q_moveI rfl) rfl ?_
  refine r_nil ⟨(i + 1, x, out ++ [zigU (diff x was)], a2, c2), ⟨rfl, rfl, rfl, rfl, rfl, trivial⟩, ⟨hlt, hx, by simp; omega, ?_, (h.f 1).drop⟩, by dsimp only; omega⟩
  rw [← he]; simp
 have hin : i = u.length := by simp at hc; omega
 rw [hin, List.drop_length, stepsL, List.append_nil] at he
 refine c_exit ?_
 refine c_seq (c_region ?_)
 refine r_v (q_moveS rfl) rfl ?_; refine r_v (q_assignS rfl) rfl ?_
 refine r_nil ?_
 rw [← he]
 exact c_ret (bq1 ⟨a, c1, rfl, h⟩)
theorem be8_get (x j : Nat) (h : j < 8) : (be8 x)[j]? = some (UInt8.ofNat (x / 2 ^ (8 * (7 - j)))) := by
 rcases (by omega : j = 0 ∨ j = 1 ∨ j = 2 ∨ j = 3 ∨ j = 4 ∨ j = 5 ∨ j = 6 ∨ j = 7) with rfl | rfl | rfl | rfl | rfl | rfl | rfl | rfl <;> simp [be8]

theorem suit_big {sl : Option Addr} {c : Nat} {u : List Nat} (hu : ∀ x ∈ u, x < 18446744073709551616) (hn : u.length ≤ 65535) (hr : Reads w0 l 1 sl u.length (u64V u)) (h : St w0 l w) :
  Ret Tryz.prog 258 [.slice sl u.length c] w fun v w' => ∃ a c', v = .slice a (bigL u).length c' ∧ St w0 (OwnB a c' (bigL u) :: l) w' := by
 refine enter Tryz.func258 rfl Tryz.results258 Tryz.ntmps258 rfl ?_
 refine c_seq (c_region ?_)
 refine r_v (q_assignS rfl) rfl ?_
 refine r_nil ?_
 refine c_seq (c_region ?_)
 refine r_v (q_assignS rfl) rfl ?_
 refine r_nil ?_
 refine c_seq (c_seq (c_region ?_))
 refine r_v (q_moveS rfl) rfl ?_; refine r_v (q_len rfl) rfl ?_; refine r_v (q_moveI rfl) rfl ?_
 refine r_nil ?_
 refine c_block ?_
 refine c_loop (Γ := Nat × Option Addr × Nat) (fun k => [(3, .slice k.2.1 (bigL (u.take k.1)).length k.2.2), (7, .slice sl u.length c), (8, .int .i64 u.length), (9, .int .i64 k.1)])
  (fun k w => k.1 ≤ u.length ∧ St w0 (OwnB k.2.1 k.2.2 (bigL (u.take k.1)) :: l) w) (fun k => u.length - k.1) (0, none, 0) ⟨rfl, rfl, rfl, rfl, trivial⟩ ⟨Nat.zero_le _, St.ownNil _ _ h⟩ ?_
 clear h
 rintro ⟨i, a, c1⟩ w e ⟨hi, h⟩
 dsimp only at hi h ⊢
 have hbl := bigL_len (u.take i)
 rw [List.length_take, Nat.min_eq_left hi] at hbl
 refine c_seq (c_region ?_)
 refine r_v (q_lss rfl rfl) rfl ?_
 refine r_nil ?_
 refine c_seq (c_cond (decide ((i : Int) < (u.length : Int))) rfl (fun hc => ?_) (fun hc => ?_))
 ·
  have hlt : i < u.length := by simp at hc; omega
  have hg := List.getElem?_eq_getElem hlt
  generalize u[i] = x at hg
  have hx := hu x (List.mem_of_getElem? hg)
  obtain ⟨b, o, hsl⟩ := (hr.cons.at_ h).some (by omega)
  have hstep : bigL (u.take (i + 1)) = bigL (u.take i) ++ be8 x := by
   unfold bigL
   rw [List.take_add_one, hg, List.flatMap_append]; simp
  rw [show Value.slice a (bigL (u.take i)).length c1 = Value.slice a (bigL (u.take i) ++ (be8 x).take 0).length c1 by simp]
  replace h : St w0 (OwnB a c1 (bigL (u.take i) ++ (be8 x).take 0) :: l) w := by simpa using h
  generalize bigL (u.take i) = base at hbl hstep h ⊢
  refine c_skip ?_
  refine c_seq (c_block ?_)
  refine c_seq (c_region ?_)
  refine r_v (q_idx (b := b) (o := o) (m := u.length) (c := c) (o' := o + i) (by rw [← hsl]; rfl) rfl rfl hlt (by simp)) rfl ?_
  refine r_v (q_loadc (v := .int .u64 x) rfl ((hsl ▸ hr.cons.at_ h).cell (u64V_get hg))) rfl ?_
  refine r_v (q_assignI rfl) rfl ?_
  refine r_nil ?_
  refine c_seq (c_region ?_)
  refine r_v (q_assignI rfl) rfl ?_
  refine r_nil ?_
  refine c_block ?_
  refine c_loop (Γ := Nat × Option Addr × Nat) (fun k => [(3, .slice k.2.1 (base ++ (be8 x).take k.1).length k.2.2), (5, .int .u64 x), (6, .int .i64 (7 - (k.1 : Int))), (7, .slice sl u.length c), (8, .int .i64 u.length), (9, .int .i64 i)])
   (fun k w => k.1 ≤ 8 ∧ St w0 (OwnB k.2.1 k.2.2 (base ++ (be8 x).take k.1) :: l) w) (fun k => 8 - k.1) (0, a, c1) ⟨rfl, rfl, rfl, rfl, rfl, rfl, trivial⟩ ⟨Nat.zero_le _, h⟩ ?_
  clear h
  rintro ⟨j, a, c1⟩ w e ⟨hj, h⟩
  dsimp only at hj h ⊢
  have hb8 : (be8 x).length = 8 := rfl
  refine c_seq (c_seq (c_region ?_))
  refine r_v (q_moveI rfl) rfl ?_; refine r_v (q_geq rfl rfl) rfl ?_
  by_cases hj8 : j < 8
  ·refine r_is (.bool true) (by simp; omega) ?_
   refine r_nil (c_true rfl (c_skip ?_))
   have hgj := be8_get x j hj8
   have htk : (be8 x).take (j + 1) = (be8 x).take j ++ [UInt8.ofNat (x / 2 ^ (8 * (7 - j)))] := by rw [List.take_add_one, hgj]; rfl
   have htl : ((be8 x).take j).length = j := by rw [List.length_take, hb8]; omega
   refine c_seq (c_block ?_)
   refine c_region ?_
   refine r_v (q_moveS rfl) rfl ?_; refine r_v (q_moveI rfl) rfl ?_; refine r_v (q_moveI rfl) rfl ?_; refine r_v (q_mul rfl rfl) rfl ?_
   refine r_is (.int .i64 ((8 * (7 - j) : Nat) : Int)) (by rw [wrap64 (by omega) (by omega)]; congr 1; omega) ?_
   refine r_v (q_is (v' := .int .u64 ((x / 2 ^ (8 * (7 - j)) : Nat) : Int)) (q_shr rfl rfl (by omega)) (congrArg (Value.int .u64) (fdiv_nat x (8 * (7 - j)) 64 (by omega)))) rfl ?_
   refine r_v (q_conv rfl) rfl ?_
   refine r_is (.int .u8 ((UInt8.ofNat (x / 2 ^ (8 * (7 - j)))).toNat : Int)) (by rw [wrap_u8, UInt8.toNat_ofNat']) ?_
   refine r_c rfl (x_bslice (r := bytesV [UInt8.ofNat (x / 2 ^ (8 * (7 - j)))]) h rfl rfl rfl fun b2 w h => ?_)
   refine r_c rfl (x_append' (ys := bytesV [UInt8.ofNat (x / 2 ^ (8 * (7 - j)))]) (zs := bytesV (base ++ (be8 x).take (j + 1))) (m3 := (base ++ (be8 x).take (j + 1)).length) (h.f 1) rfl rfl ⟨rfl, .inr ⟨b2, 0, rfl, at_of (h.b 0 rfl) rfl⟩⟩ (bytesV_one _) (by rw [htk]; simp; omega) (by rw [htk]; simp [bytesV]) (by rw [htk]; simp; omega) (by rw [htk]; simp; omega) rfl fun a2 c2 w _ h => ?_)
   refine r_v (q_assignS rfl) rfl ?_
   refine r_nil ?_
   refine c_region ?_
   refine r_v (q_moveI rfl) rfl ?_; refine r_v (q_sub rfl rfl) rfl ?_
   refine r_is (.int .i64 (7 - ((j + 1 : Nat) : Int))) (by rw [wrap64 (by omega) (by omega)]; congr 1; omega) ?_
   refine r_v (q_assignI rfl) rfl ?_
   exact r_nil ⟨(j + 1, a2, c2), ⟨rfl, rfl, rfl, rfl, rfl, rfl, trivial⟩, ⟨hj8, (h.f 1).drop⟩, by dsimp only; omega⟩
  refine r_is (.bool false) (by simp; omega) ?_
  refine r_nil (c_false rfl ?_)
  have hjj : j = 8 := by omega
  subst hjj
  rw [show (be8 x).take 8 = be8 x from rfl, ← hstep] at h
  refine c_exit ?_
  refine c_region ?_
  refine r_v (q_add rfl rfl) rfl ?_
  refine r_is (.int .i64 ((i + 1 : Nat) : Int)) (by rw [wrap64 (by omega) (by omega)]; rfl) ?_
  refine r_v (q_moveI rfl) rfl ?_
  refine r_nil ⟨(i + 1, a, c1), ⟨?_, rfl, rfl, rfl, trivial⟩, ⟨hlt, h⟩, by dsimp only; omega⟩
  show Value.slice _ _ _ = Value.slice _ _ _
  rw [hstep]; rfl
 have hin : i = u.length := by simp at hc; omega
 rw [hin, List.take_length] at h
 refine c_exit ?_
 refine c_seq (c_region ?_)
 refine r_v (q_moveS rfl) rfl ?_; refine r_v (q_assignS rfl) rfl ?_
 refine r_nil ?_
 refine c_ret (bq1 ⟨a, c1, ?_, h⟩)
 show Value.slice a (bigL (u.take i)).length c1 = _
 rw [hin, List.take_length]

theorem suit_same {sl : Option Addr} {c : Nat} {u : List Nat} (hu : ∀ x ∈ u, x < 18446744073709551616) (hn : u.length ≤ 65535) (hr : Reads w0 l 1 sl u.length (u64V u)) (h : St w0 l w) :
  Ret Tryz.prog 260 [.slice sl u.length c] w fun v w' => ∃ a c', v = .tuple [.slice a ((sameEnc u).getD []).length c', .bool (sameEnc u).isSome].toArray ∧ St w0 (OwnB a c' ((sameEnc u).getD []) :: l) w' := by
 refine enter Tryz.func260 rfl Tryz.results260 Tryz.ntmps260 rfl ?_
 refine c_seq (c_region ?_)
 refine r_v (q_assignS rfl) rfl ?_; refine r_v (q_assignB rfl) rfl ?_
 refine r_nil ?_
 refine c_seq (c_seq (c_region ?_))
 refine r_v (q_moveS rfl) rfl ?_; refine r_v (q_len rfl) rfl ?_; refine r_v (q_moveI rfl) rfl ?_
 refine r_nil ?_
 refine c_block ?_
 refine c_loop (Γ := Nat) (fun k => [(0, .slice sl u.length c), (6, .slice sl u.length c), (7, .int .i64 u.length), (8, .int .i64 k)]) (fun k w => k ≤ u.length ∧ (∀ y ∈ u.take k, some y = u[0]?) ∧ St w0 l w) (fun k => u.length - k) 0 ⟨rfl, rfl, rfl, rfl, trivial⟩ ⟨Nat.zero_le _, by simp, h⟩ ?_
 clear h
 rintro k w e ⟨hk, hall, h⟩
 refine c_seq (c_region ?_)
 refine r_v (q_lss rfl rfl) rfl ?_
 refine r_nil ?_
 refine c_seq (c_cond (decide ((k : Int) < (u.length : Int))) rfl (fun hc => ?_) (fun hc => ?_))
 ·
  have hlt : k < u.length := by simp at hc; omega
  have hg := List.getElem?_eq_getElem hlt
  have hgm : u[k] ∈ u := List.getElem_mem _
  generalize u[k] = y at hg hgm
  have hg0 := List.getElem?_eq_getElem (show 0 < u.length by omega)
  generalize u[0]'(by omega) = x at hg0
  obtain ⟨b, o, hsl⟩ := (hr.at_ h).some (by omega)
  refine c_skip ?_
  refine c_seq (c_block ?_)
  refine c_seq (c_region ?_)
  refine r_v (q_idx (b := b) (o := o) (m := u.length) (c := c) (o' := o + k) (by rw [← hsl]; rfl) rfl rfl hlt (by simp)) rfl ?_
  refine r_v (q_loadc (v := .int .u64 y) rfl ((hsl ▸ hr.at_ h).cell (u64V_get hg))) rfl ?_
  refine r_v (q_assignI rfl) rfl ?_
  refine r_nil ?_
  refine c_seq (c_region ?_)
  refine r_v (q_moveI rfl) rfl ?_; refine r_v (q_moveS rfl) rfl ?_
  refine r_v (q_idx (b := b) (o := o) (m := u.length) (c := c) (o' := o) (by rw [← hsl]; rfl) rfl (j := 0) rfl (by omega) (by simp)) rfl ?_
  refine r_v (q_loadc (v := .int .u64 x) rfl ((hsl ▸ hr.at_ h).cell (u64V_get (j := 0) hg0))) rfl ?_
  refine r_v (q_neq rfl rfl) rfl ?_
  by_cases hyx : y = x
  ·refine r_is (.bool false) (by rw [hyx]; simp) ?_
   refine r_nil (c_false rfl (c_skip ?_))
   refine c_region ?_
   refine r_v (q_add rfl rfl) rfl ?_
   refine r_is (.int .i64 ((k + 1 : Nat) : Int)) (by rw [wrap64 (by omega) (by omega)]; rfl) ?_
   refine r_v (q_moveI rfl) rfl ?_
   refine r_nil ⟨k + 1, ⟨rfl, rfl, rfl, rfl, trivial⟩, ⟨hlt, fun z hz => ?_, h⟩, by omega⟩
   rw [List.take_add_one, hg] at hz
   rcases List.mem_append.1 hz with hz | hz
   ·exact hall z hz
   ·simp at hz; subst hz; rw [hg0, hyx]
  ·refine r_is (.bool true) (by congr 1; rw [bne_iff_ne]; omega) ?_
   refine r_nil (c_true rfl ?_)
   refine c_seq (c_region ?_)
   refine r_v (q_assignS rfl) rfl ?_; refine r_v (q_assignB rfl) rfl ?_
   refine r_nil ?_
   have e1 : sameEnc u = none := by
    cases u with
    | nil => cases hgm
    | cons z r =>
     simp at hg0
     subst hg0
     rw [sameEnc, if_neg]
     intro hh
     rcases List.mem_cons.1 hgm with h1 | h1
     ·exact hyx h1
     ·exact hyx (by simpa using List.all_eq_true.1 hh y h1)
   rw [e1]
   exact c_ret (bq2 ⟨none, 0, rfl, St.ownNil _ _ h⟩)
 have hkn : k = u.length := by simp at hc; omega
 rw [hkn, List.take_length] at hall
 refine c_exit ?_
 refine c_seq (c_seq (c_region ?_))
 refine r_v (q_moveS rfl) rfl ?_; refine r_v (q_len rfl) rfl ?_; refine r_v (q_eql rfl rfl) rfl ?_
 cases u with
 | nil =>
  refine r_is (.bool true) rfl ?_
  refine r_nil (c_true rfl ?_)
  refine c_seq (c_region ?_)
  refine r_v (q_assignS rfl) rfl ?_; refine r_v (q_assignB rfl) rfl ?_
  refine r_nil ?_
  exact c_ret (bq2 ⟨none, 0, rfl, St.ownNil _ _ h⟩)
 | cons x r =>
  obtain ⟨b, o, hsl⟩ := (hr.at_ h).some (by simp)
  refine r_is (.bool false) (by simp; omega) ?_
  refine r_nil (c_false rfl (c_skip ?_))
  refine c_seq (c_region ?_)
  refine r_v (q_moveS rfl) rfl ?_
  refine r_v (q_idx (b := b) (o := o) (m := (x :: r).length) (c := c) (o' := o) (by rw [← hsl]; rfl) rfl (j := 0) rfl (by simp) (by simp)) rfl ?_
  refine r_v (q_loadc (v := .int .u64 x) rfl ((hsl ▸ hr.at_ h).cell (u64V_get (j := 0) rfl))) rfl ?_
  refine r_c rfl (x_call rfl (vint_Put (bs := []) x (hu x (List.mem_cons_self ..)) h (fun w' h' => Reads.nil.at_ h') (by simp)) ?_)
  rintro _ w ⟨a1, c1, rfl, h⟩
  rw [List.nil_append] at h ⊢
  refine r_v (q_assignS rfl) rfl ?_; refine r_v (q_assignB rfl) rfl ?_
  refine r_nil ?_
  have e1 : sameEnc (x :: r) = some (vput x) := by
   rw [sameEnc, if_pos]
   refine List.all_eq_true.2 fun y hy => ?_
   have := hall y (List.mem_cons_of_mem _ hy)
   simp at this
   simpa using this
  rw [e1]
  exact c_ret (bq2 ⟨a1, c1, rfl, h⟩)
end
end Go.Proofs.YtnnehiiblfmpnaaGreatDoor

namespace Go.Hw
theorem bigL_nil : bigL [] = [] := rfl
theorem simp_big (o : Option (List Nat)) : (o.map bigL).getD [] = bigL (o.getD []) ∧ (o.map bigL).isSome = o.isSome := by cases o <;> exact ⟨rfl, rfl⟩
theorem simpEncF_len : ∀ (k : Nat) (u ws : List Nat), simpEncF k u = some ws → ws.length ≤ u.length ∧ ∀ w ∈ ws, w < 18446744073709551616
 | _, [], ws, h => by rw [simpEncF] at h; cases h; exact ⟨Nat.le_refl _, fun _ h => by cases h⟩
 | 0, _ :: _, _, h => by rw [simpEncF] at h; cases h
 | k + 1, a :: r, ws, h => by
  rw [simpEncF] at h
  cases hw : wordA 0 kindsL (a :: r) with
  | none => rw [hw] at h; cases h
  | some wn =>
   obtain ⟨w, n⟩ := wn
   rw [hw] at h
   obtain ⟨y, h1, rfl⟩ := Option.map_eq_some_iff.1 h
   have hp := wordA_pos (by simp) hw
   obtain ⟨h2, h3⟩ := simpEncF_len k _ y h1
   rw [List.length_drop] at h2
   obtain ⟨j, kk, g1, g2, g3⟩ := wordA_some hw
   obtain ⟨f1, f2, f3⟩ := fitsK_some g2
   obtain ⟨k1, k2, k3, k4⟩ := kindsL_ok j kk g1
   have hlt : packW kk.2 ((a :: r).take n) < 1152921504606846976 := by
    refine Nat.lt_of_lt_of_le (packW_lt f2) ?_
    have : kk.2 * ((a :: r).take n).length ≤ 60 := by
     rw [List.length_take]
     exact Nat.le_trans (Nat.mul_le_mul_left _ (by omega)) k4
    exact Nat.pow_le_pow_right (by decide) this
   refine ⟨by rw [List.length_cons]; omega, fun z hz => ?_⟩
   rcases List.mem_cons.1 hz with rfl | hz
   ·omega
   ·exact h3 z hz
theorem simpEnc_len {u : List Nat} : ((simpEnc u).getD []).length ≤ u.length ∧ ∀ w ∈ (simpEnc u).getD [], w < 18446744073709551616 := by
 cases h : simpEnc u with
 | none => exact ⟨Nat.zero_le _, fun _ h => by cases h⟩
 | some ws => exact simpEncF_len _ u ws h
theorem valsOf_lt {L : List Smp} (hw : ∀ s ∈ L, s.Wf) : ∀ v ∈ valsOf L, v < 18446744073709551616 := by
 intro v hv
 obtain ⟨s, hs, rfl⟩ := List.mem_map.1 hv
 obtain ⟨_, h2, h3⟩ := hw s hs
 omega
theorem timesOf_wf {L : List Smp} (hw : ∀ s ∈ L, s.Wf) : ∀ t ∈ timesOf L, I64 t := by
 intro t ht
 obtain ⟨s, hs, rfl⟩ := List.mem_map.1 ht
 exact (hw s hs).1
theorem flat_len_le (f : Nat → Nat) (wide : Nat) (v : List Nat) : (v.flatMap fun y => bitsOf (f y) wide).length = wide * v.length := by
 induction v with
 | nil => rfl
 | cons x v ih => rw [List.flatMap_cons, List.length_append, bitsOf_len, ih, List.length_cons, Nat.mul_add]; omega
end Go.Hw
namespace Go.Proofs.YtnnehiiblfmpnaaGreatDoor
open Go.Hw
set_option maxHeartbeats 4000000
set_option maxRecDepth 100000
section
variable {w0 w : World} {l : List HProp}
theorem frameEnc_len {u : List Nat} (hn : u.length ≤ 65535) (hu : ∀ x ∈ u, x < 18446744073709551616) : (frameEnc u).length ≤ 600000 := by
 cases u with
 | nil => exact Nat.zero_le _
 | cons x r =>
  have h1 := vput_len (leastA x r)
  have hg := greatA_lt r x (hu x (List.mem_cons_self ..)) fun y hy => hu y (List.mem_cons_of_mem _ hy)
  have hw : len64 (greatA x r - leastA x r) ≤ 64 := len64_64 (by omega)
  have h2 := flat_len_le (fun y => y - leastA x r) (len64 (greatA x r - leastA x r)) (x :: r)
  have h3 := pack_len ((x :: r).flatMap fun y => bitsOf (y - leastA x r) (len64 (greatA x r - leastA x r)))
  have h4 : len64 (greatA x r - leastA x r) * (x :: r).length ≤ 64 * 65535 := Nat.mul_le_mul hw hn
  rw [frameEnc, List.length_append, List.length_cons, h3]
  omega
theorem dictEnc_len {u : List Nat} (hn : u.length ≤ 65535) : ((dictEnc u).getD []).length ≤ 600000 := by
 unfold dictEnc
 cases hm : unlikeA [] u with
 | none => exact Nat.zero_le _
 | some m =>
  dsimp only
  split
  ·exact Nat.zero_le _
  ·obtain ⟨_, _, hm2, _⟩ := unlikeA_some u [] m hm (by simp)
   have h1 := vput_len m.length
   have hw : len64 (m.length - 1) ≤ 64 := len64_64 (by omega)
   have h2 := flat_len_le (fun y => m.idxOf y) (len64 (m.length - 1)) u
   have h3 := pack_len (u.flatMap fun x => bitsOf (m.idxOf x) (len64 (m.length - 1)))
   have h4 : len64 (m.length - 1) * u.length ≤ 64 * 65535 := Nat.mul_le_mul hw hn
   have h5 := vputs_len m
   show (dictBytes m u).length ≤ _
   unfold dictBytes
   rw [List.length_append, List.length_append, h3]
   omega
theorem valuesEnc_len {tag : Int} {u : List Nat} (hn : u.length ≤ 65535) (hu : ∀ x ∈ u, x < 18446744073709551616) : ((valuesEnc tag u).getD []).length ≤ 2000000 := by
 unfold valuesEnc
 repeat' split
 ·have h1 := xorBits_len u
  have h2 := pack_len (xorBits u)
  show (pack (xorBits u)).length ≤ _
  omega
 ·rw [(simp_big _).1, bigL_len]
  have := (simpEnc_len (u := stepsL 0 u)).1
  rw [stepsL_len] at this
  omega
 ·have := runsEnc_len u; show (runsEnc u).length ≤ _; omega
 ·have := frameEnc_len hn hu; show (frameEnc u).length ≤ _; omega
 ·have := dictEnc_len (u := u) hn; omega
 ·cases u with
  | nil => exact Nat.zero_le _
  | cons x r =>
   have := vput_len x
   rw [sameEnc]; split
   ·show (vput x).length ≤ _; omega
   ·exact Nat.zero_le _
 ·exact Nat.zero_le _

theorem suit_values (hT : Tz w0) (tag : Int) {sl : Option Addr} {c : Nat} {u : List Nat} (hu : ∀ x ∈ u, x < 18446744073709551616) (hn : u.length ≤ 65535) (hc : u.length ≤ c) (hr : Reads w0 l 1 sl u.length (u64V u)) (h : St w0 l w) :
  Ret Tryz.prog 234 [.int .i64 tag, .slice sl u.length c] w fun v w' => ∃ a c', v = .tuple [.slice a ((valuesEnc tag u).getD []).length c', .bool (valuesEnc tag u).isSome].toArray ∧ St w0 (OwnB a c' ((valuesEnc tag u).getD []) :: l) w' := by
 refine enter Tryz.func234 rfl Tryz.results234 Tryz.ntmps234 rfl ?_
 refine c_seq (c_region ?_)
 refine r_v (q_assignS rfl) rfl ?_; refine r_v (q_assignB rfl) rfl ?_
 refine r_nil ?_
 refine c_seq (c_seq (c_region ?_))
 refine r_v (q_moveI rfl) rfl ?_
 refine r_nil ?_
 refine c_block ?_
 refine c_seq (c_region ?_)
 refine r_v (q_eql rfl rfl) rfl ?_; refine r_v (q_assignB rfl) rfl ?_
 refine r_nil ?_
 refine c_cond (tag == 1) rfl (fun hc1 => ?_) (fun hc1 => ?_)
 ·
  have ht : tag = 1 := by simpa using hc1
  have e1 : valuesEnc tag u = some (pack (xorBits u)) := by unfold valuesEnc; rw [if_pos ht]
  rw [e1]
  have hxl := xorBits_len u
  refine c_seq (c_region ?_)
  refine r_c rfl (x_call rfl (bits_NewWriter h) ?_)
  rintro _ w ⟨p, rfl, h⟩
  refine r_v (q_assignP rfl) rfl ?_
  refine r_nil ?_
  refine c_seq (c_region ?_)
  refine r_v (q_moveP rfl) rfl ?_; refine r_v (q_moveS rfl) rfl ?_
  refine r_c rfl (x_call rfl (xorv_Encode hT hu hn (by simp) h hr) ?_)
  rintro _ w ⟨rfl, h⟩
  rw [List.nil_append] at h
  refine r_nil ?_
  refine c_seq (c_region ?_)
  refine r_v (q_moveP rfl) rfl ?_
  refine r_c rfl (x_call rfl (bits_Bytes h (by omega)) ?_)
  rintro _ w ⟨a, c1, rfl, h⟩
  refine r_v (q_assignS rfl) rfl ?_; refine r_v (q_assignB rfl) rfl ?_
  refine r_nil ?_
  exact c_ret (bq2 ⟨a, c1, rfl, (h.f 1).drop⟩)
 have n1 : ¬ tag = 1 := by simpa using hc1
 refine c_seq (c_region ?_)
 refine r_v (q_eql rfl rfl) rfl ?_; refine r_v (q_assignB rfl) rfl ?_
 refine r_nil ?_
 refine c_cond (tag == 2) rfl (fun hc1 => ?_) (fun hc2 => ?_)
 ·
  have ht : tag = 2 := by simpa using hc1
  have e1 : valuesEnc tag u = (simpEnc (stepsL 0 u)).map bigL := by unfold valuesEnc; rw [if_neg n1, if_pos ht]
  rw [e1, (simp_big _).1, (simp_big _).2]
  have hsl := stepsL_len u 0
  refine c_seq (c_region ?_)
  refine r_v (q_moveS rfl) rfl ?_
  refine r_c rfl (x_call rfl (suit_steps hu hn hr h) ?_)
  rintro _ w ⟨a, c1, rfl, h⟩
  refine r_c rfl (x_call rfl (simp_Encode (stepsL_lt u 0) (by omega) h.own_cases.2.1 Reads.own h) ?_)
  rintro _ w ⟨a2, c2, rfl, h⟩
  refine r_v (q_moveT rfl) rfl ?_; refine r_v (q_ext rfl rfl) rfl ?_; refine r_v (q_ext rfl rfl) rfl ?_; refine r_v (q_assignS rfl) rfl ?_; refine r_v (q_assignB rfl) rfl ?_
  refine r_nil ?_
  obtain ⟨hl1, hl2⟩ := simpEnc_len (u := stepsL 0 u)
  refine c_seq (c_region ?_)
  refine r_v (q_moveS rfl) rfl ?_
  refine r_c rfl (x_call rfl (suit_big hl2 (by omega) Reads.own h) ?_)
  rintro _ w ⟨a3, c3, rfl, h⟩
  refine r_v (q_moveB rfl) rfl ?_; refine r_v (q_assignS rfl) rfl ?_; refine r_v (q_assignB rfl) rfl ?_
  refine r_nil ?_
  exact c_ret (bq2 ⟨a3, c3, rfl, ((h.f 1).drop.f 1).drop⟩)
 have n2 : ¬ tag = 2 := by simpa using hc2
 refine c_seq (c_region ?_)
 refine r_v (q_eql rfl rfl) rfl ?_; refine r_v (q_assignB rfl) rfl ?_
 refine r_nil ?_
 refine c_cond (tag == 3) rfl (fun hc1 => ?_) (fun hc3 => ?_)
 ·
  have ht : tag = 3 := by simpa using hc1
  have e1 : valuesEnc tag u = some (runsEnc u) := by unfold valuesEnc; rw [if_neg n1, if_neg n2, if_pos ht]
  rw [e1]
  refine c_seq (c_region ?_)
  refine r_v (q_moveS rfl) rfl ?_
  refine r_c rfl (x_call rfl (runl_Encode hu hn hc hr h) ?_)
  rintro _ w ⟨a, c1, rfl, h⟩
  refine r_v (q_assignS rfl) rfl ?_; refine r_v (q_assignB rfl) rfl ?_
  refine r_nil ?_
  exact c_ret (bq2 ⟨a, c1, rfl, h⟩)
 have n3 : ¬ tag = 3 := by simpa using hc3
 refine c_seq (c_region ?_)
 refine r_v (q_eql rfl rfl) rfl ?_; refine r_v (q_assignB rfl) rfl ?_
 refine r_nil ?_
 refine c_cond (tag == 4) rfl (fun hc1 => ?_) (fun hc4 => ?_)
 ·
  have ht : tag = 4 := by simpa using hc1
  have e1 : valuesEnc tag u = some (frameEnc u) := by unfold valuesEnc; rw [if_neg n1, if_neg n2, if_neg n3, if_pos ht]
  rw [e1]
  refine c_seq (c_region ?_)
  refine r_v (q_moveS rfl) rfl ?_
  refine r_c rfl (x_call rfl (forp_Encode hu hn hr h) ?_)
  rintro _ w ⟨a, c1, rfl, h⟩
  refine r_v (q_assignS rfl) rfl ?_; refine r_v (q_assignB rfl) rfl ?_
  refine r_nil ?_
  exact c_ret (bq2 ⟨a, c1, rfl, h⟩)
 have n4 : ¬ tag = 4 := by simpa using hc4
 refine c_seq (c_region ?_)
 refine r_v (q_eql rfl rfl) rfl ?_; refine r_v (q_assignB rfl) rfl ?_
 refine r_nil ?_
 refine c_cond (tag == 5) rfl (fun hc1 => ?_) (fun hc5 => ?_)
 ·
  have ht : tag = 5 := by simpa using hc1
  have e1 : valuesEnc tag u = dictEnc u := by unfold valuesEnc; rw [if_neg n1, if_neg n2, if_neg n3, if_neg n4, if_pos ht]
  rw [e1]
  refine c_seq (c_region ?_)
  refine r_v (q_moveS rfl) rfl ?_
  refine r_c rfl (x_call rfl (dict_Encode hu hn hr h) ?_)
  rintro _ w ⟨a, c1, rfl, h⟩
  refine r_v (q_ext rfl rfl) rfl ?_; refine r_v (q_ext rfl rfl) rfl ?_; refine r_v (q_assignS rfl) rfl ?_; refine r_v (q_assignB rfl) rfl ?_
  refine r_nil ?_
  exact c_ret (bq2 ⟨a, c1, rfl, h⟩)
 have n5 : ¬ tag = 5 := by simpa using hc5
 refine c_seq (c_region ?_)
 refine r_v (q_eql rfl rfl) rfl ?_; refine r_v (q_assignB rfl) rfl ?_
 refine r_nil ?_
 refine c_cond (tag == 6) rfl (fun hc1 => ?_) (fun hc6 => ?_)
 ·
  have ht : tag = 6 := by simpa using hc1
  have e1 : valuesEnc tag u = sameEnc u := by unfold valuesEnc; rw [if_neg n1, if_neg n2, if_neg n3, if_neg n4, if_neg n5, if_pos ht]
  rw [e1]
  refine c_seq (c_region ?_)
  refine r_v (q_moveS rfl) rfl ?_
  refine r_c rfl (x_call rfl (suit_same hu hn hr h) ?_)
  rintro _ w ⟨a, c1, rfl, h⟩
  refine r_v (q_ext rfl rfl) rfl ?_; refine r_v (q_ext rfl rfl) rfl ?_; refine r_v (q_assignS rfl) rfl ?_; refine r_v (q_assignB rfl) rfl ?_
  refine r_nil ?_
  exact c_ret (bq2 ⟨a, c1, rfl, h⟩)
 have n6 : ¬ tag = 6 := by simpa using hc6
 have e1 : valuesEnc tag u = none := by unfold valuesEnc; rw [if_neg n1, if_neg n2, if_neg n3, if_neg n4, if_neg n5, if_neg n6]
 rw [e1]
 refine c_skip ?_
 refine c_seq (c_region ?_)
 refine r_v (q_assignS rfl) rfl ?_; refine r_v (q_assignB rfl) rfl ?_
 refine r_nil ?_
 exact c_ret (bq2 ⟨none, 0, rfl, St.ownNil _ _ h⟩)

theorem suit_Rising {sl : Option Addr} {c : Nat} {L : List Smp} (hn : L.length ≤ 1073741824) (hr : Reads w0 l 2 sl L.length (smpsV L)) (h : St w0 l w) :
  Ret Tryz.prog 233 [.slice sl L.length c] w fun v w' => v = .bool (rising L) ∧ St w0 l w' := by
 refine enter Tryz.func233 rfl Tryz.results233 Tryz.ntmps233 rfl ?_
 refine c_seq (c_region ?_)
 refine r_v (q_assignB rfl) rfl ?_
 refine r_nil ?_
 refine c_seq (c_seq (c_region ?_))
 refine r_v (q_assignI rfl) rfl ?_
 refine r_nil ?_
 refine c_block ?_
 refine c_loop (Γ := Nat) (fun k => [(0, .slice sl L.length c), (3, .int .i64 ((k + 1 : Nat) : Int))]) (fun k w => (L = [] ∨ (k < L.length ∧ ∀ s, L[k]? = some s → rises L = risesA s.T (L.drop (k + 1)))) ∧ St w0 l w) (fun k => L.length - k) 0 ⟨rfl, rfl, trivial⟩ ⟨by
  cases L with
  | nil => exact .inl rfl
  | cons s r => exact .inr ⟨by simp, fun x hx => by simp at hx; subst hx; rfl⟩, h⟩ ?_
 clear h
 rintro k w e ⟨inv, h⟩
 refine c_seq (c_seq (c_region ?_))
 refine r_v (q_moveI rfl) rfl ?_; refine r_v (q_moveS rfl) rfl ?_; refine r_v (q_len rfl) rfl ?_; refine r_v (q_lss rfl rfl) rfl ?_
 by_cases hlt : k + 1 < L.length
 ·refine r_is (.bool true) (by simp; omega) ?_
  refine r_nil (c_true rfl (c_skip ?_))
  rcases inv with inv | ⟨hk, inv⟩
  ·rw [inv] at hlt; simp at hlt
  have hg0 := List.getElem?_eq_getElem hk
  have hg := List.getElem?_eq_getElem hlt
  have hdr := List.drop_eq_getElem_cons hlt
  generalize L[k + 1] = s1 at hg hdr
  have he := inv _ hg0
  generalize L[k] = s0 at hg0 he
  rw [hdr, risesA] at he
  obtain ⟨b, o, hsl⟩ := (hr.at_ h).some (by omega)
  have hat1 : ∀ {w'}, St w0 l w' → w'.cell? ⟨b, o + (k + 1) * 2 + 0, none⟩ = some (.int .i64 s1.T) := fun h' => (hsl ▸ hr.at_ h').elem smp_len hg 0 _ rfl
  have hat0 : ∀ {w'}, St w0 l w' → w'.cell? ⟨b, o + k * 2 + 0, none⟩ = some (.int .i64 s0.T) := fun h' => (hsl ▸ hr.at_ h').elem smp_len hg0 0 _ rfl
  refine c_seq (c_block ?_)
  refine c_seq (c_any none (fun w => St w0 _ w) (by kernel_rfl) (by kernel_rfl) h.drew fun w h => ?_)
  refine cur_pure rfl rfl rfl rfl (fun _ => h) (fun _ => flt_v rfl (q_moveS rfl)) ?_; refine cur_pure rfl rfl rfl rfl (fun _ => h) (fun _ => flt_v rfl (q_moveI rfl)) ?_
  refine cur_pure rfl rfl rfl rfl (fun _ => h) (fun _ => flt_v rfl (q_idx (b := b) (o := o) (m := L.length) (c := c) (o' := o + (k + 1) * 2) (by rw [← hsl]; rfl) rfl rfl hlt rfl)) ?_
  refine cur_pure rfl rfl rfl rfl (fun _ => h) (fun _ => flt_v rfl (q_fa rfl)) ?_
  refine cur_float rfl rfl rfl rfl h (fun w h => flt_v rfl (q_loadc (v := .int .i64 s1.T) rfl (hat1 h))) ?_
  refine cur_pure rfl rfl rfl rfl (fun _ => h) (fun _ => flt_v rfl (q_moveS rfl)) ?_; refine cur_pure rfl rfl rfl rfl (fun _ => h) (fun _ => flt_v rfl (q_moveI rfl)) ?_
  refine cur_pure rfl rfl rfl rfl (fun _ => h) (fun _ => flt_v rfl (q_is (v' := .int .i64 (k : Int)) (q_sub rfl rfl) (by rw [wrap64 (by omega) (by omega)]; congr 1; omega))) ?_
  refine cur_pure rfl rfl rfl rfl (fun _ => h) (fun _ => flt_v rfl (q_idx (b := b) (o := o) (m := L.length) (c := c) (o' := o + k * 2) (by rw [← hsl]; rfl) rfl rfl hk rfl)) ?_
  refine cur_pure rfl rfl rfl rfl (fun _ => h) (fun _ => flt_v rfl (q_fa rfl)) ?_
  refine cur_float rfl rfl rfl rfl h (fun w h => flt_v rfl (q_loadc (v := .int .i64 s0.T) rfl (hat0 h))) ?_
  refine cur_pure rfl rfl rfl rfl (fun _ => h) (fun _ => flt_v rfl (q_leq rfl rfl)) ?_
  refine cur_end ?_
  refine c_cond (decide (s1.T ≤ s0.T)) rfl (fun hc => ?_) (fun hc => ?_)
  ·
   refine c_seq (c_region ?_)
   refine r_v (q_assignB rfl) rfl ?_
   refine r_nil ?_
   refine c_ret (bq1 ⟨?_, h⟩)
   have : rising L = false := by
    unfold rising
    rw [he, show decide (s0.T < s1.T) = false by rw [decide_eq_true_eq] at hc; rw [decide_eq_false_iff_not]; omega]
    rfl
   rw [this]; rfl
  ·rw [show decide (s0.T < s1.T) = true by rw [decide_eq_false_iff_not] at hc; rw [decide_eq_true_eq]; omega, Bool.true_and] at he
   refine c_skip ?_
   refine c_region ?_
   refine r_v (q_moveI rfl) rfl ?_; refine r_v (q_add rfl rfl) rfl ?_
   refine r_is (.int .i64 ((k + 1 + 1 : Nat) : Int)) (by rw [wrap64 (by omega) (by omega)]; rfl) ?_
   refine r_v (q_assignI rfl) rfl ?_
   refine r_nil ⟨k + 1, ⟨rfl, rfl, trivial⟩, ⟨.inr ⟨hlt, fun s hs => ?_⟩, h⟩, by omega⟩
   rw [hg] at hs; cases hs
   exact he
 refine r_is (.bool false) (by simp; omega) ?_
 refine r_nil (c_false rfl ?_)
 have hrise : rises L = true := by
  rcases inv with inv | ⟨hk, inv⟩
  ·rw [inv]; rfl
  ·have := inv _ (List.getElem?_eq_getElem hk)
   rw [this, show k + 1 = L.length by omega, List.drop_length]; rfl
 refine c_exit ?_
 refine c_seq (c_region ?_)
 refine r_v (q_moveS rfl) rfl ?_; refine r_v (q_len rfl) rfl ?_; refine r_v (q_leq rfl rfl) rfl ?_; refine r_v (q_assignB rfl) rfl ?_
 refine r_nil ?_
 refine c_ret (bq1 ⟨?_, h⟩)
 show Value.bool (decide ((L.length : Int) ≤ 65535)) = _
 unfold rising
 rw [hrise, Bool.true_and]
 congr 1
 rw [decide_eq_decide]
 omega

theorem suit_Encode (hT : Tz w0) (tag : Int) {sl : Option Addr} {c : Nat} {L : List Smp} (hw : ∀ s ∈ L, s.Wf) (hn : L.length ≤ 1073741824) (hr : Reads w0 l 2 sl L.length (smpsV L)) (h : St w0 l w) :
  Ret Tryz.prog 199 [.int .i64 tag, .slice sl L.length c] w fun v w' => ∃ a c', v = .tuple [.slice a ((suitEnc tag L).getD []).length c', .bool (suitEnc tag L).isSome].toArray ∧ St w0 (OwnB a c' ((suitEnc tag L).getD []) :: l) w' := by
 refine enter Tryz.func199 rfl Tryz.results199 Tryz.ntmps199 rfl ?_
 refine c_seq (c_region ?_)
 refine r_v (q_assignS rfl) rfl ?_; refine r_v (q_assignB rfl) rfl ?_
 refine r_nil ?_
 refine c_seq (c_seq (c_region ?_))
 refine r_v (q_moveS rfl) rfl ?_
 refine r_c rfl (x_call rfl (suit_Rising hn hr h) ?_)
 rintro _ w ⟨rfl, h⟩
 refine r_v (q_not rfl) rfl ?_
 refine r_nil ?_
 cases hrise : rising L with
 | false =>
  refine c_true rfl ?_
  refine c_seq (c_region ?_)
  refine r_v (q_assignS rfl) rfl ?_; refine r_v (q_assignB rfl) rfl ?_
  refine r_nil ?_
  have e1 : suitEnc tag L = none := by unfold suitEnc; rw [hrise]; rfl
  rw [e1]
  exact c_ret (bq2 ⟨none, 0, rfl, St.ownNil _ _ h⟩)
 | true =>
 have hn16 : L.length ≤ 65535 := by
  unfold rising at hrise
  simp only [Bool.and_eq_true, decide_eq_true_eq] at hrise
  exact hrise.2
 have e1 : suitEnc tag L = (valuesEnc tag (valsOf L)).map (suitBytes L) := by unfold suitEnc; rw [hrise, if_pos rfl]
 rw [e1]
 refine c_false rfl (c_skip ?_)
 refine c_seq (c_region ?_)
 refine r_v (q_assignS rfl) rfl ?_
 refine r_nil ?_
 refine c_seq (c_region ?_)
 refine r_v (q_assignS rfl) rfl ?_
 refine r_nil ?_
 refine c_seq (c_seq (c_region ?_))
 refine r_v (q_moveS rfl) rfl ?_; refine r_v (q_len rfl) rfl ?_; refine r_v (q_moveI rfl) rfl ?_
 refine r_nil ?_
 refine c_block ?_
 refine c_loop (Γ := Nat × (Option Addr × Nat) × (Option Addr × Nat)) (fun k => [(0, .int .i64 tag), (6, .slice k.2.1.1 (timesOf (L.take k.1)).length k.2.1.2), (7, .slice k.2.2.1 (valsOf (L.take k.1)).length k.2.2.2), (17, .slice sl L.length c), (18, .int .i64 L.length), (19, .int .i64 k.1)])
  (fun k w => k.1 ≤ L.length ∧ St w0 (Own 2 1 k.2.1.1 (timesOf (L.take k.1)).length k.2.1.2 (i64V (timesOf (L.take k.1))) :: OwnU k.2.2.1 k.2.2.2 (valsOf (L.take k.1)) :: l) w) (fun k => L.length - k.1) (0, (none, 0), (none, 0)) ⟨rfl, rfl, rfl, rfl, rfl, rfl, trivial⟩ ⟨Nat.zero_le _, St.ownNil _ _ (St.ownNil _ _ h)⟩ ?_
 clear h
 rintro ⟨k, ⟨ta, tc⟩, va, vc⟩ w e ⟨hk, h⟩
 dsimp only at hk h ⊢
 refine c_seq (c_region ?_)
 refine r_v (q_lss rfl rfl) rfl ?_
 refine r_nil ?_
 refine c_seq (c_cond (decide ((k : Int) < (L.length : Int))) rfl (fun hc => ?_) (fun hc => ?_))
 ·
  have hlt : k < L.length := by simp at hc; omega
  have hg := List.getElem?_eq_getElem hlt
  have hmem : L[k] ∈ L := List.getElem_mem _
  generalize L[k] = s at hg hmem
  obtain ⟨hs1, hs2, hs3⟩ := hw s hmem
  have ht1 : timesOf (L.take (k + 1)) = timesOf (L.take k) ++ [s.T] := by unfold timesOf; rw [List.take_add_one, hg, List.map_append]; rfl
  have hv1 : valsOf (L.take (k + 1)) = valsOf (L.take k) ++ [s.V.toNat] := by unfold valsOf; rw [List.take_add_one, hg, List.map_append]; rfl
  have htl : (timesOf (L.take k)).length = k := by simp [timesOf]; omega
  have hvl : (valsOf (L.take k)).length = k := by simp [valsOf]; omega
  have hsv : Value.int .u64 s.V = .int .u64 (s.V.toNat : Int) := by rw [Int.toNat_of_nonneg hs2]
  obtain ⟨b, o, hsl⟩ := ((hr.more [_, _]).at_ h).some (by omega)
  refine c_skip ?_
  refine c_cut (Γ := (Option Addr × Nat) × (Option Addr × Nat)) (fun q => [(0, .int .i64 tag), (6, .slice q.1.1 (timesOf (L.take k) ++ [s.T]).length q.1.2), (7, .slice q.2.1 (valsOf (L.take k) ++ [s.V.toNat]).length q.2.2), (17, .slice sl L.length c), (18, .int .i64 L.length), (19, .int .i64 k)])
   (fun q w => St w0 (Own 2 1 q.1.1 (timesOf (L.take k) ++ [s.T]).length q.1.2 (i64V (timesOf (L.take k) ++ [s.T])) :: OwnU q.2.1 q.2.2 (valsOf (L.take k) ++ [s.V.toNat]) :: l) w) ?_ ?_
  ·refine c_block ?_
   refine c_seq (c_region ?_)
   refine r_v (q_idx (b := b) (o := o) (m := L.length) (c := c) (o' := o + k * 2) (by rw [← hsl]; rfl) rfl rfl hlt rfl) rfl ?_
   refine r_v (q_loadS (l := s.cells) rfl rfl ((hsl ▸ (hr.more [_, _]).at_ h).elem smp_len hg)) rfl ?_
   refine r_c rfl (x_alloc h fun b9 w h => ?_)
   refine r_c rfl (x_storeA (vs := s.cells) 0 h rfl rfl rfl rfl rfl rfl rfl fun w h => ?_)
   replace h : St w0 (pt b9 (.cells s.cells.toArray 58 (0, 0)) :: Own 2 1 ta (timesOf (L.take k)).length tc (i64V (timesOf (L.take k))) :: OwnU va vc (valsOf (L.take k)) :: l) w := h
   refine r_nil ?_
   refine c_anyW [0, 1, 2, 3, 4, 5, 6, 7, 8, 9, 10, 11] none (fun w => w.heap[b9]? = some (.cells s.cells.toArray 58 (0, 0))) (by kernel_rfl) (by kernel_rfl) ?_
   replace h := h.drew
   generalize w.drew = w at h
   have hs := h
   replace h := hs.b 0 rfl
   refine cur_pure rfl rfl rfl rfl (fun _ => h) (fun _ => flt_v rfl (q_moveS rfl)) ?_; refine cur_pure rfl rfl rfl rfl (fun _ => h) (fun _ => flt_v rfl (q_fa rfl)) ?_
   refine cur_float rfl rfl rfl rfl h (fun _ h => flt_v rfl (q_load (v := .int .i64 s.T) rfl h rfl)) ?_
   refine cur_skip ?_; refine cur_skip ?_; refine cur_pure rfl rfl rfl rfl (fun _ => h) (fun _ => flt_v rfl (q_moveS rfl)) ?_; refine cur_pure rfl rfl rfl rfl (fun _ => h) (fun _ => flt_v rfl (q_fa rfl)) ?_
   refine cur_float rfl rfl rfl rfl h (fun _ h => flt_v rfl (q_is (q_load (v := .int .u64 s.V) rfl h rfl) hsv)) ?_
   refine cur_skip ?_; refine cur_skip ?_; refine cur_skip ?_; refine cur_skip ?_
   refine cur_two 3 8 rfl rfl rfl rfl rfl rfl ?_ ?_
   ·refine x_bslice (r := i64V [s.T]) hs rfl rfl rfl fun b1 w hs => ?_
    replace h := hs.b 1 rfl
    refine ⟨fun _ => h, ?_⟩
    refine cur_skip ?_; refine cur_skip ?_; refine cur_skip ?_; refine cur_skip ?_; refine cur_skip ?_
    refine cur_two 4 8 rfl rfl rfl rfl rfl rfl ?_ ?_
    ·refine x_append' (ys := i64V [s.T]) (zs := i64V (timesOf (L.take k) ++ [s.T])) (m3 := (timesOf (L.take k) ++ [s.T]).length) (hs.f 2) rfl rfl ⟨rfl, .inr ⟨b1, 0, rfl, at_of (hs.b 0 rfl) rfl⟩⟩ (i64V_one _) (by simp) (by simp [i64V]) (by simp; omega) (by simp; omega) rfl fun ta' tc' w _ hs => ?_
     replace h := hs.b 2 rfl
     refine ⟨fun _ => h, ?_⟩
     refine cur_skip ?_; refine cur_skip ?_; refine cur_skip ?_; refine cur_skip ?_
     refine cur_one 8 rfl rfl rfl rfl ?_
     refine x_bslice (r := u64V [s.V.toNat]) hs rfl rfl rfl fun b2 w hs => ?_
     replace h := hs.b 3 rfl
     refine ⟨fun _ => h, ?_⟩
     refine cur_skip ?_; refine cur_skip ?_; refine cur_skip ?_
     refine cur_one 9 rfl rfl rfl rfl ?_
     refine x_append' (ys := u64V [s.V.toNat]) (zs := u64V (valsOf (L.take k) ++ [s.V.toNat])) (m3 := (valsOf (L.take k) ++ [s.V.toNat]).length) (hs.f 4) rfl rfl ⟨rfl, .inr ⟨b2, 0, rfl, at_of (hs.b 0 rfl) rfl⟩⟩ (u64V_one _) (by simp) (by simp [u64V]) (by simp; omega) (by simp; omega) rfl fun va' vc' w _ hs => ?_
     replace h := hs.b 4 rfl
     refine ⟨fun _ => h, ?_⟩
     refine cur_pure rfl rfl rfl rfl (fun _ => h) (fun _ => flt_v rfl (q_assignS rfl)) ?_; refine cur_pure rfl rfl rfl rfl (fun _ => h) (fun _ => flt_v rfl (q_assignS rfl)) ?_
     exact cur_end ⟨((ta', tc'), (va', vc')), ⟨rfl, rfl, rfl, rfl, rfl, rfl, trivial⟩, ((((hs.f 2).f 2).drop.f 2).drop.f 2).drop⟩
    ·refine x_bslice (r := u64V [s.V.toNat]) hs rfl rfl rfl fun b2 w hs => ?_
     replace h := hs.b 2 rfl
     refine ⟨fun _ => h, ?_⟩
     refine cur_skip ?_; refine cur_skip ?_; refine cur_skip ?_; refine cur_skip ?_
     refine cur_one 4 rfl rfl rfl rfl ?_
     refine x_append' (ys := i64V [s.T]) (zs := i64V (timesOf (L.take k) ++ [s.T])) (m3 := (timesOf (L.take k) ++ [s.T]).length) (hs.f 3) rfl rfl ⟨rfl, .inr ⟨b1, 0, rfl, at_of (hs.b 1 rfl) rfl⟩⟩ (i64V_one _) (by simp) (by simp [i64V]) (by simp; omega) (by simp; omega) rfl fun ta' tc' w _ hs => ?_
     replace h := hs.b 3 rfl
     refine ⟨fun _ => h, ?_⟩
     refine cur_skip ?_; refine cur_skip ?_; refine cur_skip ?_
     refine cur_one 9 rfl rfl rfl rfl ?_
     refine x_append' (ys := u64V [s.V.toNat]) (zs := u64V (valsOf (L.take k) ++ [s.V.toNat])) (m3 := (valsOf (L.take k) ++ [s.V.toNat]).length) (hs.f 4) rfl rfl ⟨rfl, .inr ⟨b2, 0, rfl, at_of (hs.b 1 rfl) rfl⟩⟩ (u64V_one _) (by simp) (by simp [u64V]) (by simp; omega) (by simp; omega) rfl fun va' vc' w _ hs => ?_
     replace h := hs.b 4 rfl
     refine ⟨fun _ => h, ?_⟩
     refine cur_pure rfl rfl rfl rfl (fun _ => h) (fun _ => flt_v rfl (q_assignS rfl)) ?_; refine cur_pure rfl rfl rfl rfl (fun _ => h) (fun _ => flt_v rfl (q_assignS rfl)) ?_
     exact cur_end ⟨((ta', tc'), (va', vc')), ⟨rfl, rfl, rfl, rfl, rfl, rfl, trivial⟩, ((((hs.f 1).f 2).drop.f 2).drop.f 2).drop⟩
   ·refine x_bslice (r := u64V [s.V.toNat]) hs rfl rfl rfl fun b2 w hs => ?_
    replace h := hs.b 1 rfl
    refine ⟨fun _ => h, ?_⟩
    refine cur_skip ?_; refine cur_skip ?_; refine cur_skip ?_; refine cur_skip ?_; refine cur_skip ?_
    refine cur_one 3 rfl rfl rfl rfl ?_
    refine x_bslice (r := i64V [s.T]) hs rfl rfl rfl fun b1 w hs => ?_
    replace h := hs.b 2 rfl
    refine ⟨fun _ => h, ?_⟩
    refine cur_skip ?_; refine cur_skip ?_; refine cur_skip ?_; refine cur_skip ?_
    refine cur_one 4 rfl rfl rfl rfl ?_
    refine x_append' (ys := i64V [s.T]) (zs := i64V (timesOf (L.take k) ++ [s.T])) (m3 := (timesOf (L.take k) ++ [s.T]).length) (hs.f 3) rfl rfl ⟨rfl, .inr ⟨b1, 0, rfl, at_of (hs.b 0 rfl) rfl⟩⟩ (i64V_one _) (by simp) (by simp [i64V]) (by simp; omega) (by simp; omega) rfl fun ta' tc' w _ hs => ?_
    replace h := hs.b 3 rfl
    refine ⟨fun _ => h, ?_⟩
    refine cur_skip ?_; refine cur_skip ?_; refine cur_skip ?_
    refine cur_one 9 rfl rfl rfl rfl ?_
    refine x_append' (ys := u64V [s.V.toNat]) (zs := u64V (valsOf (L.take k) ++ [s.V.toNat])) (m3 := (valsOf (L.take k) ++ [s.V.toNat]).length) (hs.f 4) rfl rfl ⟨rfl, .inr ⟨b2, 0, rfl, at_of (hs.b 2 rfl) rfl⟩⟩ (u64V_one _) (by simp) (by simp [u64V]) (by simp; omega) (by simp; omega) rfl fun va' vc' w _ hs => ?_
    replace h := hs.b 4 rfl
    refine ⟨fun _ => h, ?_⟩
    refine cur_pure rfl rfl rfl rfl (fun _ => h) (fun _ => flt_v rfl (q_assignS rfl)) ?_; refine cur_pure rfl rfl rfl rfl (fun _ => h) (fun _ => flt_v rfl (q_assignS rfl)) ?_
    exact cur_end ⟨((ta', tc'), (va', vc')), ⟨rfl, rfl, rfl, rfl, rfl, rfl, trivial⟩, ((((hs.f 1).f 2).drop.f 2).drop.f 2).drop⟩
  clear h
  rintro ⟨⟨ta, tc⟩, va, vc⟩ w e h
  dsimp only at h ⊢
  refine c_region ?_
  refine r_v (q_add rfl rfl) rfl ?_
  refine r_is (.int .i64 ((k + 1 : Nat) : Int)) (by rw [wrap64 (by omega) (by omega)]; rfl) ?_
  refine r_v (q_moveI rfl) rfl ?_
  refine r_nil ⟨(k + 1, (ta, tc), (va, vc)), ⟨rfl, ?_, ?_, rfl, rfl, rfl, trivial⟩, ⟨hlt, ?_⟩, by dsimp only; omega⟩
  ·show Value.slice _ _ _ = Value.slice _ _ _
   rw [ht1]
  ·show Value.slice _ _ _ = Value.slice _ _ _
   rw [hv1]
  ·dsimp only
   rw [ht1, hv1]
   exact h
 have hkn : k = L.length := by simp at hc; omega
 rw [hkn, List.take_length] at h ⊢
 refine c_exit ?_
 have hvl : (valsOf L).length = L.length := by simp [valsOf]
 have htl : (timesOf L).length = L.length := by simp [timesOf]
 have htb := timesBits_len (timesOf L)
 have hvel := valuesEnc_len (tag := tag) (u := valsOf L) (by omega) (valsOf_lt hw)
 refine c_seq (c_region ?_)
 refine r_v (q_moveI rfl) rfl ?_; refine r_v (q_moveS rfl) rfl ?_
 refine r_c rfl (x_call rfl (suit_values hT tag (u := valsOf L) (valsOf_lt hw) (by omega) (h.f 1).own_cases.2.1 Reads.own.cons h) ?_)
 rintro _ w ⟨a1, c1, rfl, h⟩
 refine r_v (q_moveT rfl) rfl ?_; refine r_v (q_ext rfl rfl) rfl ?_; refine r_v (q_ext rfl rfl) rfl ?_; refine r_v (q_assignS rfl) rfl ?_; refine r_v (q_assignB rfl) rfl ?_
 refine r_nil ?_
 refine c_seq (c_seq (c_region ?_))
 refine r_v (q_moveB rfl) rfl ?_; refine r_v (q_not rfl) rfl ?_
 refine r_nil ?_
 cases hve : valuesEnc tag (valsOf L) with
 | none =>
  refine c_true rfl ?_
  refine c_seq (c_region ?_)
  refine r_v (q_assignS rfl) rfl ?_; refine r_v (q_assignB rfl) rfl ?_
  refine r_nil ?_
  exact c_ret (bq2 ⟨none, 0, rfl, St.ownNil _ _ h.drop.drop.drop⟩)
 | some vb =>
 rw [hve] at h hvel
 dsimp only [Option.getD_some] at h hvel
 refine c_false rfl (c_skip ?_)
 refine c_seq (c_region ?_)
 refine r_c rfl (x_call rfl (bits_NewWriter h) ?_)
 rintro _ w ⟨p, rfl, h⟩
 refine r_v (q_assignP rfl) rfl ?_
 refine r_nil ?_
 refine c_seq (c_region ?_)
 refine r_v (q_moveP rfl) rfl ?_; refine r_v (q_moveS rfl) rfl ?_
 refine r_c rfl (x_call rfl (time_Encode (ts := timesOf L) (timesOf_wf hw) (by omega) (by simp) h (fun bs' w' h' => (h'.f 2).own_rd)) ?_)
 rintro _ w ⟨rfl, h⟩
 rw [List.nil_append] at h
 refine r_nil ?_
 refine c_seq (c_region ?_)
 refine r_v (q_moveP rfl) rfl ?_
 refine r_c rfl (x_call rfl (bits_Bytes h (by omega)) ?_)
 rintro _ w ⟨a2, c2, rfl, h⟩
 refine r_v (q_assignS rfl) rfl ?_
 refine r_nil ?_
 have hpl := pack_len (timesBits (timesOf L))
 generalize hX : pack (timesBits (timesOf L)) = X at *
 have hvx := vput_len X.length
 have hsb : suitBytes L vb = vput X.length ++ (X ++ vb) := by unfold suitBytes; rw [hX]
 refine c_seq (c_region ?_)
 refine r_v (q_moveS rfl) rfl ?_; refine r_v (q_len rfl) rfl ?_; refine r_v (q_conv rfl) rfl ?_
 refine r_is (.int .u64 (X.length : Int)) (by rw [wrap_u64, Nat.mod_eq_of_lt (by omega)]) ?_
 refine r_c rfl (x_call rfl (vint_Put (bs := []) X.length (by omega) h (fun w' h' => Reads.nil.at_ h') (by simp)) ?_)
 rintro _ w ⟨a3, c3, rfl, h⟩
 rw [List.nil_append] at h ⊢
 refine r_v (q_moveS rfl) rfl ?_
 refine r_c rfl (x_append' (ys := bytesV X) (zs := bytesV (vput X.length ++ X)) (m3 := (vput X.length ++ X).length) h rfl rfl (h.f 1).own_rd (bytesV_one _) (by simp) (by simp [bytesV]) (by rw [List.length_append]; omega) (by rw [List.length_append]; omega) rfl fun a4 c4 w _ h => ?_)
 refine r_v (q_moveS rfl) rfl ?_
 refine r_c rfl (x_append' (ys := bytesV vb) (zs := bytesV (suitBytes L vb)) (m3 := (suitBytes L vb).length) h rfl rfl (h.f 3).own_rd (bytesV_one _) (by rw [hsb]; simp; omega) (by rw [hsb]; simp [bytesV]) (by rw [hsb, List.length_append, List.length_append]; omega) (by rw [hsb, List.length_append, List.length_append]; omega) rfl fun a5 c5 w _ h => ?_)
 refine r_v (q_assignS rfl) rfl ?_; refine r_v (q_assignB rfl) rfl ?_
 refine r_nil ?_
 refine c_ret (bq2 ⟨a5, c5, rfl, ?_⟩)
 exact (((((h.f 1).drop.f 1).drop.f 1).drop.f 1).drop.f 1).drop
end
end Go.Proofs.YtnnehiiblfmpnaaGreatDoor

namespace Go.Hw

theorem risesA_iff : ∀ (l : List Smp) (t : Int), risesA t l = true ↔ (∀ s ∈ l, t < s.T) ∧ rises l = true
 | [], t => by simp [risesA, rises]
 | s :: r, t => by
  rw [risesA, Bool.and_eq_true, decide_eq_true_eq]
  have ih := risesA_iff r s.T
  rw [rises, ih]
  constructor
  ·rintro ⟨h1, h2, h3⟩
   refine ⟨fun x hx => ?_, h2, h3⟩
   rcases List.mem_cons.1 hx with rfl | hx
   ·exact h1
   ·have := h2 x hx; omega
  ·rintro ⟨h1, h2, h3⟩
   exact ⟨h1 s (List.mem_cons_self ..), h2, h3⟩
theorem rises_iff : ∀ l : List Smp, rises l = true ↔ ∀ (i j : Nat) (x y : Smp), l[i]? = some x → l[j]? = some y → i < j → x.T < y.T
 | [] => by simp [rises]
 | s :: r => by
  rw [rises, risesA_iff, rises_iff r]
  constructor
  ·rintro ⟨h1, h2⟩ i j x y hi hj hij
   cases j with
   | zero => omega
   | succ j =>
    rw [List.getElem?_cons_succ] at hj
    cases i with
    | zero => simp at hi; subst hi; exact h1 y (List.mem_of_getElem? hj)
    | succ i => rw [List.getElem?_cons_succ] at hi; exact h2 i j x y hi hj (by omega)
  ·intro h
   refine ⟨fun x hx => ?_, fun i j x y hi hj hij => h (i + 1) (j + 1) x y (by simpa using hi) (by simpa using hj) (by omega)⟩
   obtain ⟨k, hk⟩ := List.getElem?_of_mem hx
   exact h 0 (k + 1) s x rfl (by simpa using hk) (by omega)
theorem swap_rough {l : List Smp} (h : rises l = true) {a b : Nat} {x y : Smp} (ha : l[a]? = some x) (hb : l[b]? = some y) (hab : a ≠ b) : rises ((l.set a y).set b x) = false := by
 have h0 := (rises_iff l).1 h
 cases hr : rises ((l.set a y).set b x) with
 | false => rfl
 | true =>
  exfalso
  have h1 := (rises_iff _).1 hr
  have la := (List.getElem?_eq_some_iff.1 ha).1
  have lb := (List.getElem?_eq_some_iff.1 hb).1
  have ga : ((l.set a y).set b x)[a]? = some y := by rw [List.getElem?_set, if_neg (Ne.symm hab), List.getElem?_set, if_pos rfl, if_pos la]
  have gb : ((l.set a y).set b x)[b]? = some x := by rw [List.getElem?_set, if_pos rfl, if_pos (by simpa using lb)]
  rcases Nat.lt_or_ge a b with hlt | hge
  ·have c1 := h0 a b x y ha hb hlt
   have c2 := h1 a b y x ga gb hlt
   omega
  ·have c1 := h0 b a y x hb ha (by omega)
   have c2 := h1 b a x y gb ga (by omega)
   omega
theorem same_rough {l : List Smp} {a : Nat} {y : Smp} (ha : a < l.length) (hl : 2 ≤ l.length) (hb : l[(a + 1) % l.length]? = some y) : rises (l.set a y) = false := by
 cases hr : rises (l.set a y) with
 | false => rfl
 | true =>
  exfalso
  have h1 := (rises_iff _).1 hr
  have ga : (l.set a y)[a]? = some y := by rw [List.getElem?_set, if_pos rfl, if_pos ha]
  have hne : a ≠ (a + 1) % l.length := by
   rcases Nat.lt_or_ge (a + 1) l.length with h | h
   ·rw [Nat.mod_eq_of_lt h]; omega
   ·have : a + 1 = l.length := by omega
    rw [this, Nat.mod_self]; omega
  have gb : (l.set a y)[(a + 1) % l.length]? = some y := by rw [List.getElem?_set, if_neg hne, hb]
  rcases Nat.lt_or_ge a ((a + 1) % l.length) with h | h
  ·have := h1 _ _ y y ga gb h; omega
  ·have := h1 _ _ y y gb ga (by omega); omega
theorem suitEnc_rough {l : List Smp} (h : rises l = false) (tag : Int) : suitEnc tag l = none := by
 unfold suitEnc rising
 rw [h]; rfl
theorem suitBest_rough {l : List Smp} (h : rises l = false) : suitBest l = (0, []) := by
 unfold suitBest
 simp only [bestA, suitEnc_rough h]
theorem rises_snoc {l : List Smp} {s : Smp} (h : rises l = true) (hs : ∀ x, l.getLast? = some x → x.T < s.T) : rises (l ++ [s]) = true := by
 rw [rises_iff] at h ⊢
 intro i j x y hi hj hij
 have hjl := (List.getElem?_eq_some_iff.1 hj).1
 rw [List.length_append, List.length_singleton] at hjl
 rw [List.getElem?_append_left (show i < l.length by omega)] at hi
 rcases Nat.lt_or_ge j l.length with h1 | h1
 ·rw [List.getElem?_append_left h1] at hj
  exact h i j x y hi hj hij
 ·obtain rfl : j = l.length := by omega
  rw [List.getElem?_append_right (Nat.le_refl _), Nat.sub_self] at hj
  simp at hj
  subst hj
  have hpos : 0 < l.length := by omega
  have hlast : l.getLast? = some (l[l.length - 1]'(by omega)) := by rw [List.getLast?_eq_getElem?, List.getElem?_eq_getElem]
  have h2 := hs _ hlast
  rcases Nat.lt_or_ge i (l.length - 1) with h3 | h3
  ·have := h i (l.length - 1) x _ hi (List.getElem?_eq_getElem (by omega)) h3
   omega
  ·obtain rfl : i = l.length - 1 := by omega
   rw [List.getElem?_eq_getElem (by omega)] at hi
   simp at hi
   rw [← hi]; exact h2
end Go.Hw

namespace Go.Hw
theorem wrap_I64 (x : Int) : I64 (IntKind.i64.wrap x) := by
 unfold IntKind.wrap I64
 simp [IntKind.signed, IntKind.bits]
 split <;> omega
theorem us_nat (x : Int) : ∃ v : Nat, v < 18446744073709551616 ∧ IntKind.u64.wrap x = (v : Int) := ⟨us x, us_lt x, wrap_us x⟩
end Go.Hw
namespace Go.Proofs.YtnnehiiblfmpnaaGreatDoor
open Go.Hw
set_option maxHeartbeats 4000000
set_option maxRecDepth 100000
theorem r_nat {P : Program} {n : Nat} {ops : Array Oper} {Q : Post} {rest : List Oper} {e : Env} {w : World} {c : Nat} {x : Int} (hx : ∃ v : Nat, v < 18446744073709551616 ∧ x = (v : Int)) (h : ∀ v : Nat, v < 18446744073709551616 → Rn P n ops Q rest (upd e c (.int .u64 (v : Int))) w) : Rn P n ops Q rest (upd e c (.int .u64 x)) w := by
 obtain ⟨v, h1, rfl⟩ := hx
 exact h v h1
section
variable {w0 w : World} {l : List HProp}
abbrev OwnT64 (a : Option Addr) (c : Nat) (ts : List Int) : HProp := Own 2 1 a ts.length c (i64V ts)
abbrev OwnS (a : Option Addr) (c : Nat) (L : List Smp) : HProp := Own 58 2 a L.length c (smpsV L)

theorem law4_Times {sl : Option Addr} {c : Nat} {xs : List Int} (raw : Bool) (hx : ∀ x ∈ xs, I64 x) (hn : xs.length ≤ 9223372036854775807) (hr : Reads w0 l 1 sl xs.length (i64V xs)) (h : St w0 l w) :
  Ret Tryz.prog 52 [.slice sl xs.length c, .bool raw] w fun v w' => ∃ a c' ts, ts.length ≤ 60 ∧ (∀ t ∈ ts, I64 t) ∧ v = .slice a ts.length c' ∧ St w0 (OwnT64 a c' ts :: l) w' := by
 refine enter Tryz.func52 rfl Tryz.results52 Tryz.ntmps52 rfl ?_
 refine c_seq (c_region ?_)
 refine r_v (q_assignS rfl) rfl ?_
 refine r_nil ?_
 refine c_seq (c_region ?_)
 refine r_v (q_assignS rfl) rfl ?_
 refine r_nil ?_
 refine c_seq (c_region ?_)
 refine r_v (q_assignI rfl) rfl ?_
 refine r_nil ?_
 refine c_cut (Γ := Int) (fun k => [(0, .slice sl xs.length c), (1, .bool raw), (5, .slice none 0 0), (6, .int .i64 k)]) (fun _ w => St w0 l w) ?_ ?_
 ·refine c_seq (c_region ?_)
  refine r_v (q_moveS rfl) rfl ?_; refine r_v (q_len rfl) rfl ?_; refine r_v (q_gtr rfl rfl) rfl ?_
  refine r_nil ?_
  refine c_cond (decide ((xs.length : Int) > 0)) rfl (fun hc => ?_) (fun hc => ?_)
  ·have hpos : 0 < xs.length := by simp at hc; omega
   have hg := List.getElem?_eq_getElem hpos
   generalize xs[0] = x at hg
   obtain ⟨b, o, hsl⟩ := (hr.at_ h).some hpos
   refine c_region ?_
   refine r_v (q_moveS rfl) rfl ?_
   refine r_v (q_idx (b := b) (o := o) (m := xs.length) (c := c) (o' := o) (by rw [← hsl]; rfl) rfl (j := 0) rfl hpos (by simp)) rfl ?_
   refine r_v (q_loadc (v := .int .i64 x) rfl ((hsl ▸ hr.at_ h).cell (i64V_get (j := 0) hg))) rfl ?_
   refine r_v (q_assignI rfl) rfl ?_
   exact r_nil ⟨x, ⟨rfl, rfl, rfl, rfl, trivial⟩, h⟩
  ·exact c_skip ⟨0, ⟨rfl, rfl, rfl, rfl, trivial⟩, h⟩
 clear h
 rintro last w e h
 refine c_seq (c_seq (c_region ?_))
 refine r_v (q_assignI rfl) rfl ?_
 refine r_nil ?_
 refine c_block ?_
 refine c_loop (Γ := Nat × List Int × Int × Option Addr × Nat) (fun k => [(0, .slice sl xs.length c), (1, .bool raw), (5, .slice k.2.2.2.1 k.2.1.length k.2.2.2.2), (6, .int .i64 k.2.2.1), (7, .int .i64 k.1)])
  (fun k w => k.1 ≤ 60 ∧ k.2.1.length = k.1 ∧ (∀ t ∈ k.2.1, I64 t) ∧ St w0 (OwnT64 k.2.2.2.1 k.2.2.2.2 k.2.1 :: l) w) (fun k => 60 - k.1) (0, [], last, none, 0) ⟨rfl, rfl, rfl, rfl, rfl, trivial⟩ ⟨Nat.zero_le _, rfl, (fun _ h => by cases h), St.ownNil _ _ h⟩ ?_
 clear h
 rintro ⟨i, ts, last, a, c1⟩ w e ⟨hi, htl, hts, h⟩
 dsimp only at hi htl hts h ⊢
 refine c_seq ?_
 refine c_cut (Γ := Bool) (fun k => [(0, .slice sl xs.length c), (1, .bool raw), (5, .slice a ts.length c1), (6, .int .i64 last), (7, .int .i64 i), (22, .bool k)]) (fun k w => (k = true → i < xs.length ∧ i < 60) ∧ St w0 (OwnT64 a c1 ts :: l) w) ?_ ?_
 ·refine c_region ?_
  refine r_v (q_moveI rfl) rfl ?_; refine r_v (q_moveS rfl) rfl ?_; refine r_v (q_len rfl) rfl ?_; refine r_v (q_lss rfl rfl) rfl ?_
  by_cases hin : i < xs.length
  ·refine r_is (.bool true) (by simp; omega) ?_
   refine r_v (q_moveB rfl) rfl ?_; refine r_gd rfl rfl ?_; refine r_v (q_moveI rfl) rfl ?_; refine r_gd rfl rfl ?_; refine r_v (q_lss rfl rfl) rfl ?_; refine r_v (q_pick1 rfl rfl rfl) rfl ?_
   exact r_nil ⟨decide ((i : Int) < 60), ⟨rfl, rfl, rfl, rfl, rfl, rfl, trivial⟩, fun hk => ⟨hin, by rw [decide_eq_true_eq] at hk; omega⟩, h⟩
  ·refine r_is (.bool false) (by simp; omega) ?_
   refine r_v (q_moveB rfl) rfl ?_; refine r_gn rfl rfl rfl ?_; refine r_gn rfl rfl rfl ?_; refine r_v (q_pick0 rfl rfl rfl) rfl ?_
   exact r_nil ⟨false, ⟨rfl, rfl, rfl, rfl, rfl, rfl, trivial⟩, (fun h => by cases h), h⟩
 clear h
 rintro k w e ⟨hk, h⟩
 refine c_cond k rfl (fun hc => ?_) (fun hc => ?_)
 ·
  obtain ⟨hin, hi60⟩ := hk hc
  have hg := List.getElem?_eq_getElem hin
  generalize xs[i] = x at hg
  have hxi := hx x (List.mem_of_getElem? hg)
  obtain ⟨b, o, hsl⟩ := (hr.cons.at_ h).some (by omega)
  have hcell : ∀ {w'}, (∃ L, St w0 (L ++ l) w') → w'.cell? ⟨b, o + i, none⟩ = some (.int .i64 x) := fun ⟨L, h'⟩ => (hsl ▸ hr L _ h').cell (i64V_get hg)
  refine c_skip ?_
  refine c_seq (c_block ?_)
  refine c_seq (c_region ?_)
  refine r_v (q_moveS rfl) rfl ?_; refine r_v (q_moveI rfl) rfl ?_
  refine r_v (q_idx (b := b) (o := o) (m := xs.length) (c := c) (o' := o + i) (by rw [← hsl]; rfl) rfl rfl hin (by simp)) rfl ?_
  refine r_v (q_loadc (v := .int .i64 x) rfl (hcell ⟨[_], h⟩)) rfl ?_
  refine r_v (q_assignI rfl) rfl ?_
  refine r_nil ?_
  refine c_cut (Γ := Int) (fun k => [(0, .slice sl xs.length c), (1, .bool raw), (5, .slice a ts.length c1), (7, .int .i64 i), (8, .int .i64 k)]) (fun k w => I64 k ∧ St w0 (OwnT64 a c1 ts :: l) w) ?_ ?_
  ·refine c_seq (c_region ?_)
   refine r_v (q_moveB rfl) rfl ?_; refine r_v (q_not rfl) rfl ?_
   refine r_nil (c_cond (!raw) rfl (fun hc => ?_) (fun hc => ?_))
   ·refine c_anyW [0, 1, 2, 3, 4, 5, 6, 7, 8, 9, 10, 11, 12, 13, 14, 15, 16, 17, 18, 19, 20, 21, 22, 23, 24, 25, 26, 27, 28, 29, 30, 31, 32, 33, 34, 35, 36, 37, 38, 39, 40, 41, 42] none (fun w => ∃ L, St w0 (L ++ l) w) (by kernel_rfl) (by kernel_rfl) ?_
    replace h := h.drew
    generalize w.drew = w at h
    have hs := h
    replace h : ∃ L, St w0 (L ++ l) w := ⟨[_], hs⟩
    refine cur_pure rfl rfl rfl rfl (fun _ => h) (fun _ => flt_v rfl (q_moveI rfl)) ?_; refine cur_pure rfl rfl rfl rfl (fun _ => h) (fun _ => flt_v rfl (q_add rfl rfl)) ?_; refine cur_pure rfl rfl rfl rfl (fun _ => h) (fun _ => flt_v rfl (q_moveS rfl)) ?_; refine cur_pure rfl rfl rfl rfl (fun _ => h) (fun _ => flt_v rfl (q_moveI rfl)) ?_
    refine cur_pure rfl rfl rfl rfl (fun _ => h) (fun _ => flt_v rfl (q_idx (b := b) (o := o) (m := xs.length) (c := c) (o' := o + i) (by rw [← hsl]; rfl) rfl rfl hin (by simp))) ?_
    refine cur_float rfl rfl rfl rfl h (fun w h => flt_v rfl (q_loadc (v := .int .i64 x) rfl (hcell h))) ?_
    refine cur_pure rfl rfl rfl rfl (fun _ => h) (fun _ => flt_v rfl (q_shr rfl rfl (by omega))) ?_
    refine cur_pure rfl rfl rfl rfl (fun _ => h) (fun _ => flt_v rfl (q_and rfl rfl)) ?_
    refine cur_pure rfl rfl rfl rfl (fun _ => h) (fun _ => flt_v rfl (q_quo rfl rfl (by decide))) ?_
    refine cur_pure rfl rfl rfl rfl (fun _ => h) (fun _ => flt_v rfl (q_moveS rfl)) ?_; refine cur_pure rfl rfl rfl rfl (fun _ => h) (fun _ => flt_v rfl (q_moveI rfl)) ?_
    refine cur_pure rfl rfl rfl rfl (fun _ => h) (fun _ => flt_v rfl (q_idx (b := b) (o := o) (m := xs.length) (c := c) (o' := o + i) (by rw [← hsl]; rfl) rfl rfl hin (by simp))) ?_
    refine cur_float rfl rfl rfl rfl h (fun w h => flt_v rfl (q_loadc (v := .int .i64 x) rfl (hcell h))) ?_
    refine cur_pure rfl rfl rfl rfl (fun _ => h) (fun _ => flt_v rfl (q_shr rfl rfl (by omega))) ?_
    refine cur_pure rfl rfl rfl rfl (fun _ => h) (fun _ => flt_v rfl (q_and rfl rfl)) ?_; refine cur_pure rfl rfl rfl rfl (fun _ => h) (fun _ => flt_v rfl (q_moveS rfl)) ?_; refine cur_pure rfl rfl rfl rfl (fun _ => h) (fun _ => flt_v rfl (q_moveI rfl)) ?_
    refine cur_pure rfl rfl rfl rfl (fun _ => h) (fun _ => flt_v rfl (q_idx (b := b) (o := o) (m := xs.length) (c := c) (o' := o + i) (by rw [← hsl]; rfl) rfl rfl hin (by simp))) ?_
    refine cur_float rfl rfl rfl rfl h (fun w h => flt_v rfl (q_loadc (v := .int .i64 x) rfl (hcell h))) ?_
    refine cur_pure rfl rfl rfl rfl (fun _ => h) (fun _ => flt_v rfl (q_shr rfl rfl (by omega))) ?_
    refine cur_pure rfl rfl rfl rfl (fun _ => h) (fun _ => flt_v rfl (q_and rfl rfl)) ?_; refine cur_pure rfl rfl rfl rfl (fun _ => h) (fun _ => flt_v rfl (q_moveS rfl)) ?_; refine cur_pure rfl rfl rfl rfl (fun _ => h) (fun _ => flt_v rfl (q_moveI rfl)) ?_
    refine cur_pure rfl rfl rfl rfl (fun _ => h) (fun _ => flt_v rfl (q_idx (b := b) (o := o) (m := xs.length) (c := c) (o' := o + i) (by rw [← hsl]; rfl) rfl rfl hin (by simp))) ?_
    refine cur_float rfl rfl rfl rfl h (fun w h => flt_v rfl (q_loadc (v := .int .i64 x) rfl (hcell h))) ?_
    refine cur_pure rfl rfl rfl rfl (fun _ => h) (fun _ => flt_v rfl (q_shr rfl rfl (by omega))) ?_
    refine cur_pure rfl rfl rfl rfl (fun _ => h) (fun _ => flt_v rfl (q_and rfl rfl)) ?_; refine cur_pure rfl rfl rfl rfl (fun _ => h) (fun _ => flt_v rfl (q_moveS rfl)) ?_; refine cur_pure rfl rfl rfl rfl (fun _ => h) (fun _ => flt_v rfl (q_moveI rfl)) ?_
    refine cur_pure rfl rfl rfl rfl (fun _ => h) (fun _ => flt_v rfl (q_idx (b := b) (o := o) (m := xs.length) (c := c) (o' := o + i) (by rw [← hsl]; rfl) rfl rfl hin (by simp))) ?_
    refine cur_float rfl rfl rfl rfl h (fun w h => flt_v rfl (q_loadc (v := .int .i64 x) rfl (hcell h))) ?_
    refine cur_pure rfl rfl rfl rfl (fun _ => h) (fun _ => flt_v rfl (q_shr rfl rfl (by omega))) ?_
    refine cur_pure rfl rfl rfl rfl (fun _ => h) (fun _ => flt_v rfl (q_and rfl rfl)) ?_; refine cur_skip ?_; refine cur_pure rfl rfl rfl rfl (fun _ => h) (fun _ => flt_v rfl (q_moveS rfl)) ?_; refine cur_pure rfl rfl rfl rfl (fun _ => h) (fun _ => flt_v rfl (q_moveI rfl)) ?_
    refine cur_pure rfl rfl rfl rfl (fun _ => h) (fun _ => flt_v rfl (q_idx (b := b) (o := o) (m := xs.length) (c := c) (o' := o + i) (by rw [← hsl]; rfl) rfl rfl hin (by simp))) ?_
    refine cur_float rfl rfl rfl rfl h (fun w h => flt_v rfl (q_loadc (v := .int .i64 x) rfl (hcell h))) ?_
    refine cur_pure rfl rfl rfl rfl (fun _ => h) (fun _ => flt_v rfl (q_is (v' := .int .i64 (x % 8)) (q_and rfl rfl) (congrArg (Value.int .i64) (and_mask 3 (by decide) (by decide))))) ?_
    refine cur_skip ?_; refine cur_skip ?_; refine cur_skip ?_; refine cur_skip ?_
    refine cur_one 33 rfl rfl rfl rfl ?_
    refine (x_bslice (r := i64V [_, _, _, _, _, 60, 60, 60]) hs rfl rfl rfl fun b2 w hs => ?_)
    replace h : ∃ L, St w0 (L ++ l) w := ⟨[_, _], hs⟩
    refine ⟨fun _ => h, ?_⟩
    obtain ⟨es, hes, hs⟩ : ∃ es : List Int, es.length = 8 ∧ St w0 (pt b2 (.cells (i64V es).toArray 3 (0, 0)) :: OwnT64 a c1 ts :: l) w := ⟨_, rfl, hs⟩
    obtain ⟨j, hj⟩ := Int.eq_ofNat_of_zero_le (show 0 ≤ x % 8 by omega)
    have hj8 : j < 8 := by omega
    have hgj := List.getElem?_eq_getElem (show j < es.length by omega)
    generalize es[j]'(by omega) = y at hgj
    refine cur_pure rfl rfl rfl rfl (fun _ => h) (fun _ => flt_v rfl (q_idx (b := b2) (o := 0) (m := 8) (c := 8) (j := j) (o' := j) rfl rfl hj hj8 (by simp))) ?_
    refine cur_skip ?_; refine cur_skip ?_; refine cur_skip ?_
    refine cur_one 40 rfl rfl rfl rfl ?_
    refine x_v (q_load (v := .int .i64 y) rfl (hs.b 0 rfl) (i64V_get hgj)) ?_
    refine ⟨fun _ => h, ?_⟩
    refine cur_pure rfl rfl rfl rfl (fun _ => h) (fun _ => flt_v rfl (q_add rfl rfl)) ?_; refine cur_pure rfl rfl rfl rfl (fun _ => h) (fun _ => flt_v rfl (q_assignI rfl)) ?_
    exact cur_end ⟨_, ⟨rfl, rfl, rfl, rfl, rfl, trivial⟩, wrap_I64 _, hs.drop⟩
   ·refine c_skip ⟨x, ⟨rfl, rfl, rfl, rfl, rfl, trivial⟩, hxi, h⟩
  clear h
  rintro n w e ⟨hnI, h⟩
  refine c_seq (c_region ?_)
  refine r_v (q_moveS rfl) rfl ?_; refine r_v (q_moveI rfl) rfl ?_
  refine r_c rfl (x_bslice (r := i64V [n]) h rfl rfl rfl fun b2 w h => ?_)
  refine r_c rfl (x_append' (ys := i64V [n]) (zs := i64V (ts ++ [n])) (m3 := (ts ++ [n]).length) (h.f 1) rfl rfl ⟨rfl, .inr ⟨b2, 0, rfl, at_of (h.b 0 rfl) rfl⟩⟩ (i64V_one _) (by simp) (by simp [i64V]) (by simp; omega) (by simp; omega) rfl fun a2 c2 w _ h => ?_)
  refine r_v (q_assignS rfl) rfl ?_
  refine r_nil ?_
  refine c_region ?_
  refine r_v (q_moveI rfl) rfl ?_; refine r_v (q_assignI rfl) rfl ?_
  refine r_nil ?_
  refine c_region ?_
  refine r_v (q_moveI rfl) rfl ?_; refine r_v (q_add rfl rfl) rfl ?_
  refine r_is (.int .i64 ((i + 1 : Nat) : Int)) (by rw [wrap64 (by omega) (by omega)]; rfl) ?_
  refine r_v (q_assignI rfl) rfl ?_
  refine r_nil ⟨(i + 1, ts ++ [n], n, a2, c2), ⟨rfl, rfl, rfl, rfl, rfl, trivial⟩, ⟨hi60, by simp; omega, fun t ht => ?_, (h.f 1).drop⟩, by dsimp only; omega⟩
  rcases List.mem_append.1 ht with ht | ht
  ·exact hts t ht
  ·simp at ht; subst ht; exact hnI
 refine c_exit ?_
 refine c_seq (c_region ?_)
 refine r_v (q_moveS rfl) rfl ?_; refine r_v (q_assignS rfl) rfl ?_
 refine r_nil ?_
 exact c_ret (bq1 ⟨a, c1, ts, by omega, hts, rfl, h⟩)
theorem law5_Values {sl : Option Addr} {c : Nat} {us_ : List Nat} (how : Int) (hu : ∀ x ∈ us_, x < 18446744073709551616) (hn : us_.length ≤ 9223372036854775807) (hr : Reads w0 l 1 sl us_.length (u64V us_)) (h : St w0 l w) :
  Ret Tryz.prog 53 [.slice sl us_.length c, .int .i64 how] w fun v w' => ∃ a c' vs, vs.length ≤ 60 ∧ (∀ x ∈ vs, x < 18446744073709551616) ∧ v = .slice a vs.length c' ∧ St w0 (OwnU a c' vs :: l) w' := by
 refine enter Tryz.func53 rfl Tryz.results53 Tryz.ntmps53 rfl ?_
 refine c_seq (c_region ?_)
 refine r_v (q_assignS rfl) rfl ?_
 refine r_nil ?_
 refine c_seq (c_region ?_)
 refine r_v (q_assignS rfl) rfl ?_
 refine r_nil ?_
 refine c_seq (c_region ?_)
 refine r_v (q_assignI rfl) rfl ?_
 refine r_nil ?_
 refine c_seq (c_seq (c_region ?_))
 refine r_v (q_assignI rfl) rfl ?_
 refine r_nil ?_
 refine c_block ?_
 refine c_loop (Γ := Nat × List Nat × Nat × Option Addr × Nat) (fun k => [(0, .slice sl us_.length c), (1, .int .i64 how), (5, .slice k.2.2.2.1 k.2.1.length k.2.2.2.2), (6, .int .u64 k.2.2.1), (7, .int .i64 k.1)])
  (fun k w => k.1 ≤ 60 ∧ k.2.1.length = k.1 ∧ k.2.2.1 < 18446744073709551616 ∧ (∀ t ∈ k.2.1, t < 18446744073709551616) ∧ St w0 (OwnU k.2.2.2.1 k.2.2.2.2 k.2.1 :: l) w) (fun k => 60 - k.1) (0, [], 0, none, 0) ⟨rfl, rfl, rfl, rfl, rfl, trivial⟩ ⟨Nat.zero_le _, rfl, (by decide : (0 : Nat) < 18446744073709551616), (fun _ h => by cases h), St.ownNil _ _ h⟩ ?_
 clear h
 rintro ⟨i, vs, last, a, c1⟩ w e ⟨hi, hvl, hlast, hvs, h⟩
 dsimp only at hi hvl hlast hvs h ⊢
 refine c_seq ?_
 refine c_cut (Γ := Bool) (fun k => [(0, .slice sl us_.length c), (1, .int .i64 how), (5, .slice a vs.length c1), (6, .int .u64 last), (7, .int .i64 i), (16, .bool k)]) (fun k w => (k = true → i < us_.length ∧ i < 60) ∧ St w0 (OwnU a c1 vs :: l) w) ?_ ?_
 ·refine c_region ?_
  refine r_v (q_moveI rfl) rfl ?_; refine r_v (q_moveS rfl) rfl ?_; refine r_v (q_len rfl) rfl ?_; refine r_v (q_lss rfl rfl) rfl ?_
  by_cases hin : i < us_.length
  ·refine r_is (.bool true) (by simp; omega) ?_
   refine r_v (q_moveB rfl) rfl ?_; refine r_gd rfl rfl ?_; refine r_v (q_moveI rfl) rfl ?_; refine r_gd rfl rfl ?_; refine r_v (q_lss rfl rfl) rfl ?_; refine r_v (q_pick1 rfl rfl rfl) rfl ?_
   exact r_nil ⟨decide ((i : Int) < 60), ⟨rfl, rfl, rfl, rfl, rfl, rfl, trivial⟩, fun hk => ⟨hin, by rw [decide_eq_true_eq] at hk; omega⟩, h⟩
  ·refine r_is (.bool false) (by simp; omega) ?_
   refine r_v (q_moveB rfl) rfl ?_; refine r_gn rfl rfl rfl ?_; refine r_gn rfl rfl rfl ?_; refine r_v (q_pick0 rfl rfl rfl) rfl ?_
   exact r_nil ⟨false, ⟨rfl, rfl, rfl, rfl, rfl, rfl, trivial⟩, (fun h => by cases h), h⟩
 clear h
 rintro k w e ⟨hk, h⟩
 refine c_cond k rfl (fun hc => ?_) (fun hc => ?_)
 ·
  obtain ⟨hin, hi60⟩ := hk hc
  have hg := List.getElem?_eq_getElem hin
  generalize us_[i] = x at hg
  have hx := hu x (List.mem_of_getElem? hg)
  obtain ⟨b, o, hsl⟩ := (hr.cons.at_ h).some (by omega)
  refine c_skip ?_
  refine c_seq (c_block ?_)
  refine c_seq (c_region ?_)
  refine r_v (q_moveS rfl) rfl ?_; refine r_v (q_moveI rfl) rfl ?_
  refine r_v (q_idx (b := b) (o := o) (m := us_.length) (c := c) (o' := o + i) (by rw [← hsl]; rfl) rfl rfl hin (by simp)) rfl ?_
  refine r_v (q_loadc (v := .int .u64 x) rfl ((hsl ▸ hr.cons.at_ h).cell (u64V_get hg))) rfl ?_
  refine r_v (q_assignI rfl) rfl ?_
  refine r_nil ?_
  refine c_cut (Γ := Nat) (fun k => [(0, .slice sl us_.length c), (1, .int .i64 how), (5, .slice a vs.length c1), (7, .int .i64 i), (8, .int .u64 k)]) (fun k w => k < 18446744073709551616 ∧ St w0 (OwnU a c1 vs :: l) w) ?_ ?_
  ·refine c_seq (c_region ?_)
   refine r_v (q_moveI rfl) rfl ?_; refine r_v (q_and rfl rfl) rfl ?_
   refine r_int fun s _ => ?_
   refine r_nil ?_
   refine c_block ?_
   refine c_seq (c_region ?_)
   refine r_v (q_eql rfl rfl) rfl ?_; refine r_v (q_assignB rfl) rfl ?_
   refine r_nil (c_cond (s == 0) rfl (fun hc => ?_) (fun hc => ?_))
   ·refine c_region ?_
    refine r_v (q_moveI rfl) rfl ?_; refine r_v (q_and rfl rfl) rfl ?_
    refine r_nat ⟨_, Nat.lt_of_le_of_lt Nat.and_le_left hx, (bit_u64 hx (by decide : (3 : Nat) < _)).1⟩ fun y hy => ?_
    refine r_v (q_assignI rfl) rfl ?_
    exact r_nil ⟨y, ⟨rfl, rfl, rfl, rfl, rfl, trivial⟩, hy, h⟩
   refine c_seq (c_region ?_)
   refine r_v (q_eql rfl rfl) rfl ?_; refine r_v (q_assignB rfl) rfl ?_
   refine r_nil (c_cond (s == 1) rfl (fun hc => ?_) (fun hc => ?_))
   ·refine c_region ?_
    refine r_v (q_moveI rfl) rfl ?_; refine r_v (q_moveI rfl) rfl ?_; refine r_v (q_and rfl rfl) rfl ?_; refine r_v (q_add rfl rfl) rfl ?_
    refine r_nat (us_nat _) fun y hy => ?_
    refine r_v (q_assignI rfl) rfl ?_
    exact r_nil ⟨y, ⟨rfl, rfl, rfl, rfl, rfl, trivial⟩, hy, h⟩
   refine c_seq (c_region ?_)
   refine r_v (q_eql rfl rfl) rfl ?_; refine r_v (q_assignB rfl) rfl ?_
   refine r_nil (c_cond (s == 2) rfl (fun hc => ?_) (fun hc => ?_))
   ·refine c_region ?_
    refine r_v (q_moveI rfl) rfl ?_; refine r_v (q_moveI rfl) rfl ?_; refine r_v (q_and rfl rfl) rfl ?_
    refine r_is (.int .u64 ((x &&& 63 : Nat) : Int)) (congrArg (Value.int .u64) (bit_u64 hx (by decide : (63 : Nat) < _)).1) ?_
    refine r_v (q_shl rfl rfl (by omega)) rfl ?_
    refine r_nat (us_nat _) fun z hz => ?_
    refine r_v (q_xor rfl rfl) rfl ?_
    refine r_nat ⟨_, Nat.xor_lt_two_pow (n := 64) hlast hz, (bit_u64 hlast hz).2.2⟩ fun y hy => ?_
    refine r_v (q_assignI rfl) rfl ?_
    exact r_nil ⟨y, ⟨rfl, rfl, rfl, rfl, rfl, trivial⟩, hy, h⟩
   refine c_seq (c_region ?_)
   refine r_v (q_eql rfl rfl) rfl ?_; refine r_v (q_assignB rfl) rfl ?_
   refine r_nil (c_cond (s == 3) rfl (fun hc => ?_) (fun hc => ?_))
   ·refine c_region ?_
    refine r_v (q_moveI rfl) rfl ?_; refine r_v (q_and rfl rfl) rfl ?_; refine r_v (q_mul rfl rfl) rfl ?_
    refine r_nat (us_nat _) fun y hy => ?_
    refine r_v (q_assignI rfl) rfl ?_
    exact r_nil ⟨y, ⟨rfl, rfl, rfl, rfl, rfl, trivial⟩, hy, h⟩
   refine c_seq (c_region ?_)
   refine r_v (q_eql rfl rfl) rfl ?_; refine r_v (q_assignB rfl) rfl ?_
   refine r_nil (c_cond (s == 4) rfl (fun hc => ?_) (fun hc => ?_))
   ·refine c_region ?_
    refine r_v (q_moveI rfl) rfl ?_; refine r_v (q_moveI rfl) rfl ?_; refine r_v (q_and rfl rfl) rfl ?_; refine r_v (q_add rfl rfl) rfl ?_; refine r_v (q_sub rfl rfl) rfl ?_
    refine r_nat (us_nat _) fun y hy => ?_
    refine r_v (q_assignI rfl) rfl ?_
    exact r_nil ⟨y, ⟨rfl, rfl, rfl, rfl, rfl, trivial⟩, hy, h⟩
   refine c_seq (c_region ?_)
   refine r_v (q_eql rfl rfl) rfl ?_; refine r_v (q_assignB rfl) rfl ?_
   refine r_nil (c_cond (s == 5) rfl (fun hc => ?_) (fun hc => ?_))
   ·refine c_region ?_
    refine r_v (q_moveI rfl) rfl ?_
    refine r_v (q_is (v' := .int .u64 ((x / 2 ^ 4 : Nat) : Int)) (q_shr rfl rfl (by omega)) (congrArg (Value.int .u64) (fdiv_nat x 4 64 (by decide)))) rfl ?_
    refine r_v (q_assignI rfl) rfl ?_
    exact r_nil ⟨x / 2 ^ 4, ⟨rfl, rfl, rfl, rfl, rfl, trivial⟩, Nat.lt_of_le_of_lt (Nat.div_le_self _ _) hx, h⟩
   ·exact c_skip ⟨x, ⟨rfl, rfl, rfl, rfl, rfl, trivial⟩, hx, h⟩
  clear h
  rintro n w e ⟨hnI, h⟩
  refine c_seq (c_region ?_)
  refine r_v (q_moveS rfl) rfl ?_; refine r_v (q_moveI rfl) rfl ?_
  refine r_c rfl (x_bslice (r := u64V [n]) h rfl rfl rfl fun b2 w h => ?_)
  refine r_c rfl (x_append' (ys := u64V [n]) (zs := u64V (vs ++ [n])) (m3 := (vs ++ [n]).length) (h.f 1) rfl rfl ⟨rfl, .inr ⟨b2, 0, rfl, at_of (h.b 0 rfl) rfl⟩⟩ (u64V_one _) (by simp) (by simp [u64V]) (by simp; omega) (by simp; omega) rfl fun a2 c2 w _ h => ?_)
  refine r_v (q_assignS rfl) rfl ?_
  refine r_nil ?_
  refine c_region ?_
  refine r_v (q_moveI rfl) rfl ?_; refine r_v (q_assignI rfl) rfl ?_
  refine r_nil ?_
  refine c_region ?_
  refine r_v (q_moveI rfl) rfl ?_; refine r_v (q_add rfl rfl) rfl ?_
  refine r_is (.int .i64 ((i + 1 : Nat) : Int)) (by rw [wrap64 (by omega) (by omega)]; rfl) ?_
  refine r_v (q_assignI rfl) rfl ?_
  refine r_nil ⟨(i + 1, vs ++ [n], n, a2, c2), ⟨rfl, rfl, rfl, rfl, rfl, trivial⟩, ⟨hi60, by simp; omega, hnI, fun t ht => ?_, (h.f 1).drop⟩, by dsimp only; omega⟩
  rcases List.mem_append.1 ht with ht | ht
  ·exact hvs t ht
  ·simp at ht; subst ht; exact hnI
 refine c_exit ?_
 refine c_seq (c_region ?_)
 refine r_v (q_moveS rfl) rfl ?_; refine r_v (q_assignS rfl) rfl ?_
 refine r_nil ?_
 exact c_ret (bq1 ⟨a, c1, vs, by omega, hvs, rfl, h⟩)

theorem law10_Row {st : Option Addr} {ct : Nat} {xs : List Int} {sv : Option Addr} {cv : Nat} {us_ : List Nat} (how : Int) (hx : ∀ x ∈ xs, I64 x) (hn : xs.length ≤ 9223372036854775807) (hrt : Reads w0 l 1 st xs.length (i64V xs))
  (hu : ∀ x ∈ us_, x < 18446744073709551616) (hnu : us_.length ≤ 9223372036854775807) (hrv : Reads w0 l 1 sv us_.length (u64V us_)) (h : St w0 l w) :
  Ret Tryz.prog 20 [.slice st xs.length ct, .slice sv us_.length cv, .int .i64 how] w fun v w' => ∃ a c L, L.length ≤ 60 ∧ (∀ s ∈ L, s.Wf) ∧ rises L = true ∧ v = .slice a L.length c ∧ St w0 (OwnS a c L :: l) w' := by
 refine enter Tryz.func20 rfl Tryz.results20 Tryz.ntmps20 rfl ?_
 refine c_seq (c_region ?_)
 refine r_v (q_assignS rfl) rfl ?_
 refine r_nil ?_
 refine c_seq (c_region ?_)
 refine r_v (q_assignS rfl) rfl ?_
 refine r_nil ?_
 refine c_seq (c_region ?_)
 refine r_v (q_moveS rfl) rfl ?_; refine r_v (q_moveI rfl) rfl ?_
 refine r_v (q_shr rfl rfl (by omega)) rfl ?_
 refine r_v (q_and rfl rfl) rfl ?_; refine r_v (q_eql rfl rfl) rfl ?_
 refine r_bool fun bw _ => ?_
 refine r_c rfl (x_call rfl (law4_Times bw hx hn hrt h) ?_)
 rintro _ w ⟨ta, tc, ts, htl, hti, rfl, h⟩
 refine r_v (q_assignS rfl) rfl ?_
 refine r_nil ?_
 refine c_seq (c_region ?_)
 refine r_v (q_moveS rfl) rfl ?_; refine r_v (q_moveI rfl) rfl ?_
 refine r_c rfl (x_call rfl (law5_Values how hu hnu hrv.cons h) ?_)
 rintro _ w ⟨va, vc, vs, hvl, hvi, rfl, h⟩
 refine r_v (q_assignS rfl) rfl ?_
 refine r_nil ?_
 refine c_seq (c_seq (c_region ?_))
 refine r_v (q_moveS rfl) rfl ?_; refine r_v (q_len rfl) rfl ?_; refine r_v (q_moveI rfl) rfl ?_
 refine r_nil ?_
 refine c_block ?_
 refine c_loop (Γ := Nat × List Smp × Option Addr × Nat) (fun k => [(7, .slice k.2.2.1 k.2.1.length k.2.2.2), (8, .slice ta ts.length tc), (9, .slice va vs.length vc), (22, .int .i64 ts.length), (23, .int .i64 k.1)])
  (fun k w => k.1 ≤ ts.length ∧ k.2.1.length ≤ k.1 ∧ (∀ s ∈ k.2.1, s.Wf) ∧ rises k.2.1 = true ∧ St w0 (OwnS k.2.2.1 k.2.2.2 k.2.1 :: OwnU va vc vs :: OwnT64 ta tc ts :: l) w) (fun k => ts.length - k.1) (0, [], none, 0) ⟨rfl, rfl, rfl, rfl, rfl, trivial⟩ ⟨Nat.zero_le _, Nat.zero_le _, (fun _ h => by cases h), rfl, St.ownNil _ _ h⟩ ?_
 clear h
 rintro ⟨i, L, a, c⟩ w e ⟨hi, hLi, hwf, hris, h⟩
 dsimp only at hi hLi hwf hris h ⊢
 refine c_seq (c_region ?_)
 refine r_v (q_lss rfl rfl) rfl ?_
 refine r_nil ?_
 refine c_seq (c_cond (decide ((i : Int) < (ts.length : Int))) rfl (fun hc => ?_) (fun hc => ?_))
 ·
  have hlt : i < ts.length := by simp at hc; omega
  have hg := List.getElem?_eq_getElem hlt
  generalize ts[i] = t at hg
  have htI := hti t (List.mem_of_getElem? hg)
  obtain ⟨bt, htsl⟩ := (h.f 2).own_some (by omega)
  refine c_skip ?_
  refine c_cut (Γ := List Smp × Option Addr × Nat) (fun k => [(7, .slice k.2.1 k.1.length k.2.2), (8, .slice ta ts.length tc), (9, .slice va vs.length vc), (22, .int .i64 ts.length), (23, .int .i64 i)])
   (fun k w => k.1.length ≤ i + 1 ∧ (∀ s ∈ k.1, s.Wf) ∧ rises k.1 = true ∧ St w0 (OwnS k.2.1 k.2.2 k.1 :: OwnU va vc vs :: OwnT64 ta tc ts :: l) w) ?_ ?_
  ·refine c_block ?_
   refine c_seq (c_region ?_)
   refine r_v (q_moveI rfl) rfl ?_; refine r_v (q_assignI rfl) rfl ?_
   refine r_nil ?_
   refine c_seq (c_region ?_)
   refine r_v (q_moveS rfl) rfl ?_; refine r_v (q_moveI rfl) rfl ?_
   refine r_v (q_idx (b := bt) (o := 0) (m := ts.length) (c := tc) (o' := i) (by rw [← htsl]; rfl) rfl rfl hlt (by simp)) rfl ?_
   refine r_v (q_loadc (v := .int .i64 t) rfl (by have := (htsl ▸ (h.f 2).own_rd).cell (i64V_get hg); simpa using this)) rfl ?_
   refine r_v (q_build (r := (Smp.mk t 0).cells) rfl) rfl ?_
   refine r_c rfl (x_alloc h fun b11 w h => ?_)
   refine r_c rfl (x_storeA (vs := (Smp.mk t 0).cells) 0 h rfl rfl rfl rfl rfl rfl rfl fun w h => ?_)
   replace h : St w0 (pt b11 (.cells (Smp.mk t 0).cells.toArray 58 (0, 0)) :: OwnS a c L :: OwnU va vc vs :: OwnT64 ta tc ts :: l) w := h
   refine r_nil ?_
   refine c_cut (Γ := Nat) (fun _ => [(7, .slice a L.length c), (8, .slice ta ts.length tc), (9, .slice va vs.length vc), (11, .pointer (some ⟨b11, 0, none⟩)), (22, .int .i64 ts.length), (23, .int .i64 i)])
    (fun V w => V < 18446744073709551616 ∧ St w0 (pt b11 (.cells (Smp.mk t V).cells.toArray 58 (0, 0)) :: OwnS a c L :: OwnU va vc vs :: OwnT64 ta tc ts :: l) w) ?_ ?_
   ·refine c_seq (c_region ?_)
    refine r_v (q_moveS rfl) rfl ?_; refine r_v (q_len rfl) rfl ?_; refine r_v (q_gtr rfl rfl) rfl ?_
    refine r_nil (c_cond (decide ((vs.length : Int) > 0)) rfl (fun hc => ?_) (fun hc => ?_))
    ·have hpos : 0 < vs.length := by simp at hc; omega
     have hgv := List.getElem?_eq_getElem (Nat.mod_lt i hpos)
     generalize vs[i % vs.length]'(Nat.mod_lt i hpos) = y at hgv
     have hy := hvi y (List.mem_of_getElem? hgv)
     obtain ⟨bv, hvsl⟩ := (h.f 2).own_some hpos
     refine c_region ?_
     refine r_v (q_moveS rfl) rfl ?_; refine r_v (q_moveI rfl) rfl ?_; refine r_v (q_moveS rfl) rfl ?_; refine r_v (q_len rfl) rfl ?_
     refine r_v (q_is (v' := .int .i64 ((i % vs.length : Nat) : Int)) (q_rem rfl rfl (by omega)) (congrArg (Value.int .i64) (tmod_nat _ _))) rfl ?_
     refine r_v (q_idx (b := bv) (o := 0) (m := vs.length) (c := vc) (o' := i % vs.length) (by rw [← hvsl]; rfl) rfl rfl (Nat.mod_lt i hpos) (by simp)) rfl ?_
     refine r_v (q_loadc (v := .int .u64 y) rfl (by have := (hvsl ▸ (h.f 2).own_rd).cell (u64V_get hgv); simpa using this)) rfl ?_
     refine r_v (q_fa rfl) rfl ?_
     refine r_c rfl (x_store 0 h rfl (show _ = Value.int .u64 (y : Int) from rfl) rfl rfl rfl rfl fun w h => ?_)
     exact r_nil ⟨y, ⟨rfl, rfl, rfl, rfl, rfl, rfl, trivial⟩, hy, h⟩
    ·exact c_skip ⟨0, ⟨rfl, rfl, rfl, rfl, rfl, rfl, trivial⟩, by decide, h⟩
   clear h
   rintro V w e ⟨hV, h⟩
   have hsW : (Smp.mk t (V : Int)).Wf := ⟨htI, by dsimp only; omega, by dsimp only; omega⟩
   refine c_cut (Γ := Bool) (fun k => [(7, .slice a L.length c), (8, .slice ta ts.length tc), (9, .slice va vs.length vc), (11, .pointer (some ⟨b11, 0, none⟩)), (22, .int .i64 ts.length), (23, .int .i64 i), (56, .bool k)])
    (fun k w => (k = true → ∀ x, L.getLast? = some x → x.T < t) ∧ St w0 (pt b11 (.cells (Smp.mk t V).cells.toArray 58 (0, 0)) :: OwnS a c L :: OwnU va vc vs :: OwnT64 ta tc ts :: l) w) ?_ ?_
   ·by_cases hL0 : L.length = 0
    ·have hLn : L = [] := List.eq_nil_of_length_eq_zero hL0
     refine c_any none (fun w => St w0 _ w) (by kernel_rfl) (by kernel_rfl) h.drew fun w h => ?_
     refine cur_pure rfl rfl rfl rfl (fun _ => h) (fun _ => flt_v rfl (q_moveS rfl)) ?_; refine cur_pure rfl rfl rfl rfl (fun _ => h) (fun _ => flt_v rfl (q_len rfl)) ?_
     refine cur_pure rfl rfl rfl rfl (fun _ => h) (fun _ => flt_v rfl (q_is (v' := .bool true) (q_eql rfl rfl) (by rw [hL0]; rfl))) ?_
     refine cur_pure rfl rfl rfl rfl (fun _ => h) (fun _ => flt_v rfl (q_moveB rfl)) ?_; refine cur_pure rfl rfl rfl rfl (fun _ => h) (fun _ => flt_n rfl rfl) ?_; refine cur_pure rfl rfl rfl rfl (fun _ => h) (fun _ => flt_n rfl rfl) ?_; refine cur_pure rfl rfl rfl rfl (fun _ => h) (fun _ => flt_n rfl rfl) ?_; refine cur_pure rfl rfl rfl rfl (fun _ => h) (fun _ => flt_n rfl rfl) ?_; refine cur_pure rfl rfl rfl rfl (fun _ => h) (fun _ => flt_n rfl rfl) ?_; refine cur_pure rfl rfl rfl rfl (fun _ => h) (fun _ => flt_n rfl rfl) ?_; refine cur_pure rfl rfl rfl rfl (fun _ => h) (fun _ => flt_n rfl rfl) ?_; refine cur_pure rfl rfl rfl rfl (fun _ => h) (fun _ => flt_n rfl rfl) ?_; refine cur_pure rfl rfl rfl rfl (fun _ => h) (fun _ => flt_n rfl rfl) ?_; refine cur_pure rfl rfl rfl rfl (fun _ => h) (fun _ => flt_n rfl rfl) ?_; refine cur_pure rfl rfl rfl rfl (fun _ => h) (fun _ => flt_v rfl (q_pick1 rfl rfl rfl)) ?_
     exact cur_end ⟨true, ⟨rfl, rfl, rfl, rfl, rfl, rfl, rfl, trivial⟩, (fun _ x hx => by rw [hLn] at hx; cases hx), h⟩
    ·have hgl := List.getElem?_eq_getElem (show L.length - 1 < L.length by omega)
     generalize L[L.length - 1]'(by omega) = z at hgl
     obtain ⟨bl, hlsl⟩ := (h.f 1).own_some (by omega)
     have hzc : ∀ {w'}, St w0 (pt b11 (.cells (Smp.mk t V).cells.toArray 58 (0, 0)) :: OwnS a c L :: OwnU va vc vs :: OwnT64 ta tc ts :: l) w' → w'.cell? ⟨bl, (L.length - 1) * 2 + 0, none⟩ = some (.int .i64 z.T) := fun h' => by
      have := (hlsl ▸ (h'.f 1).own_rd).elem smp_len hgl 0 _ rfl
      simpa using this
     refine c_any none (fun w => St w0 _ w) (by kernel_rfl) (by kernel_rfl) h.drew fun w h => ?_
     refine cur_pure rfl rfl rfl rfl (fun _ => h) (fun _ => flt_v rfl (q_moveS rfl)) ?_; refine cur_pure rfl rfl rfl rfl (fun _ => h) (fun _ => flt_v rfl (q_len rfl)) ?_
     refine cur_pure rfl rfl rfl rfl (fun _ => h) (fun _ => flt_v rfl (q_is (v' := .bool false) (q_eql rfl rfl) (by congr 1; rw [beq_eq_false_iff_ne]; omega))) ?_
     refine cur_pure rfl rfl rfl rfl (fun _ => h) (fun _ => flt_v rfl (q_moveB rfl)) ?_; refine cur_pure rfl rfl rfl rfl (fun _ => h) (fun _ => flt_g rfl rfl (q_fa rfl)) ?_
     refine cur_float rfl rfl rfl rfl h (fun _ h => flt_g rfl rfl (q_load (v := .int .i64 t) rfl (h.b 0 rfl) rfl)) ?_
     refine cur_pure rfl rfl rfl rfl (fun _ => h) (fun _ => flt_g rfl rfl (q_moveS rfl)) ?_; refine cur_pure rfl rfl rfl rfl (fun _ => h) (fun _ => flt_g rfl rfl (q_moveS rfl)) ?_; refine cur_pure rfl rfl rfl rfl (fun _ => h) (fun _ => flt_g rfl rfl (q_len rfl)) ?_
     refine cur_pure rfl rfl rfl rfl (fun _ => h) (fun _ => flt_g rfl rfl (q_is (v' := .int .i64 ((L.length - 1 : Nat) : Int)) (q_sub rfl rfl) (by rw [wrap64 (by omega) (by omega)]; congr 1; omega))) ?_
     refine cur_pure rfl rfl rfl rfl (fun _ => h) (fun _ => flt_g rfl rfl (q_idx (b := bl) (o := 0) (m := L.length) (c := c) (o' := (L.length - 1) * 2) (by rw [← hlsl]; rfl) rfl rfl (by omega) (by simp))) ?_
     refine cur_pure rfl rfl rfl rfl (fun _ => h) (fun _ => flt_g rfl rfl (q_fa rfl)) ?_
     refine cur_float rfl rfl rfl rfl h (fun w h => flt_g rfl rfl (q_loadc (v := .int .i64 z.T) rfl (hzc h))) ?_
     refine cur_pure rfl rfl rfl rfl (fun _ => h) (fun _ => flt_g rfl rfl (q_gtr rfl rfl)) ?_; refine cur_pure rfl rfl rfl rfl (fun _ => h) (fun _ => flt_v rfl (q_pick0 rfl rfl rfl)) ?_
     refine cur_end ⟨decide (t > z.T), ⟨rfl, rfl, rfl, rfl, rfl, rfl, rfl, trivial⟩, fun hk x hx => ?_, h⟩
     rw [decide_eq_true_eq] at hk
     rw [List.getLast?_eq_getElem?, hgl] at hx
     cases hx
     exact hk
   clear h
   rintro k w e ⟨hk, h⟩
   refine c_cond k rfl (fun hc => ?_) (fun hc => ?_)
   ·refine c_region ?_
    refine r_v (q_moveS rfl) rfl ?_
    refine r_v (q_loadS (l := (Smp.mk t V).cells) rfl rfl (at_of (h.b 0 rfl) rfl)) rfl ?_
    refine r_c rfl (x_bslice (r := smpsV [Smp.mk t V]) h rfl rfl rfl fun b2 w h => ?_)
    refine r_c rfl (x_append' (ys := smpsV [Smp.mk t V]) (zs := smpsV (L ++ [Smp.mk t V])) (m3 := (L ++ [Smp.mk t V]).length) (h.f 2) rfl rfl ⟨rfl, .inr ⟨b2, 0, rfl, at_of (h.b 0 rfl) rfl⟩⟩ (smps_one _) (by simp) (by simp [smpsV]) (by simp; omega) (by simp; omega) rfl fun a2 c2 w _ h => ?_)
    refine r_v (q_assignS rfl) rfl ?_
    refine r_nil ⟨(L ++ [Smp.mk t V], a2, c2), ⟨rfl, rfl, rfl, rfl, rfl, trivial⟩, by simp; omega, fun s hs => ?_, rises_snoc hris (hk hc), ?_⟩
    ·rcases List.mem_append.1 hs with hs | hs
     ·exact hwf s hs
     ·simp at hs; subst hs; exact hsW
    ·exact ((h.f 1).drop.f 1).drop
   ·exact c_skip ⟨(L, a, c), ⟨rfl, rfl, rfl, rfl, rfl, trivial⟩, by dsimp only; omega, hwf, hris, h.drop⟩
  clear h hwf hris hLi
  rintro ⟨L, a, c⟩ w e ⟨hLi, hwf, hris, h⟩
  dsimp only at hLi hwf hris h ⊢
  refine c_region ?_
  refine r_v (q_add rfl rfl) rfl ?_
  refine r_is (.int .i64 ((i + 1 : Nat) : Int)) (by rw [wrap64 (by omega) (by omega)]; rfl) ?_
  refine r_v (q_moveI rfl) rfl ?_
  exact r_nil ⟨(i + 1, L, a, c), ⟨rfl, rfl, rfl, rfl, rfl, trivial⟩, ⟨hlt, hLi, hwf, hris, h⟩, by dsimp only; omega⟩
 refine c_exit ?_
 refine c_seq (c_region ?_)
 refine r_v (q_moveS rfl) rfl ?_; refine r_v (q_assignS rfl) rfl ?_
 refine r_nil ?_
 exact c_ret (bq1 ⟨a, c, L, by omega, hwf, hris, rfl, (((h.f 1).drop.f 1).drop)⟩)
end
end Go.Proofs.YtnnehiiblfmpnaaGreatDoor

namespace Go.Hw
open Go.ChangeShapes Go.WideShapes Go.ChangeAt Go.RowKit
section
variable {P : Program} {W : World} {H : Type} {enc : TypeId × Value → H} {r : Reach} {b0 : Nat}
theorem maxLen_le {n : Nat} (h : n ≤ maxLen) : n ≤ 9223372036854775807 := Nat.le_trans h (by decide)
theorem nums_u64 : ∀ {zs : List Int}, (∀ z ∈ zs, (Lit.int .u64 z).wf = true) → ∃ us : List Nat, (∀ x ∈ us, x < 18446744073709551616) ∧ zs.map (Value.int .u64) = u64V us
 | [], _ => ⟨[], (fun _ h => by cases h), rfl⟩
 | z :: zs, h => by
  obtain ⟨us, hu, hb⟩ := nums_u64 (zs := zs) fun y hy => h y (List.mem_cons_of_mem _ hy)
  have hz : 0 ≤ z ∧ z ≤ 18446744073709551615 := by simpa [Lit.wf, IntKind.min, IntKind.max, IntKind.signed, IntKind.bits] using h z (List.mem_cons_self ..)
  refine ⟨z.toNat :: us, fun x hx => ?_, ?_⟩
  ·rcases List.mem_cons.1 hx with rfl | hx
   ·omega
   ·exact hu x hx
  ·simp only [List.map_cons, hb, u64V]
   congr 2
   omega
theorem arg_u64s {t e : TypeId} {v : Value} {d : DataW H} {p : List MemPlace} (ht : P.underlying t = some (.slice e)) (he : P.underlying e = some (.int .u64)) (hc : P.cellsOf e = 1)
  (hval : Value.okWide P W r b0 t v) (h : DataW.Trod enc P W 0 (fun _ => true) true t v d p) (hlt : ∀ x ∈ p, x.block < W.heap.size) :
  ∃ (a : Option Addr) (c : Nat) (us : List Nat), v = .slice a us.length c ∧ us.length ≤ 9223372036854775807 ∧ (∀ x ∈ us, x < 18446744073709551616) ∧ Reads W [] 1 a us.length (u64V us) := by
 obtain ⟨a, n, c, zs, h1, h2, h3, h4, h5⟩ := arg_nums ht he hc hval h hlt
 obtain ⟨us, hu, hb⟩ := nums_u64 h3
 rw [hb] at h4
 have hl : us.length = n := by have := h4.1; simpa [u64V] using this
 subst hl
 exact ⟨a, c, us, h1, maxLen_le h2, hu, Reads.old h4 h5⟩
theorem arg_i64s {t e : TypeId} {v : Value} {d : DataW H} {p : List MemPlace} (ht : P.underlying t = some (.slice e)) (he : P.underlying e = some (.int .i64)) (hc : P.cellsOf e = 1)
  (hval : Value.okWide P W r b0 t v) (h : DataW.Trod enc P W 0 (fun _ => true) true t v d p) (hlt : ∀ x ∈ p, x.block < W.heap.size) :
  ∃ (a : Option Addr) (c : Nat) (xs : List Int), v = .slice a xs.length c ∧ xs.length ≤ 9223372036854775807 ∧ (∀ x ∈ xs, I64 x) ∧ Reads W [] 1 a xs.length (i64V xs) := by
 obtain ⟨a, n, c, zs, h1, h2, h3, h4, h5⟩ := arg_nums ht he hc hval h hlt
 have hl : zs.length = n := by have := h4.1; simpa using this
 subst hl
 refine ⟨a, c, zs, h1, maxLen_le h2, fun x hx => ?_, Reads.old h4 h5⟩
 have := h3 x hx
 simp [Lit.wf, IntKind.min, IntKind.max, IntKind.signed, IntKind.bits] at this
 unfold I64
 omega
end
end Go.Hw

namespace Go.Hw
section
variable {P : Program} {n : Nat} {ops : Array Oper} {Q : Post} {rest : List Oper} {e : Env} {w w0 : World} {l : List HProp}
theorem laidS_one {sz : Nat} {z : List Value} {v : Value} (hz : z.length = sz) (hv : (vcells v).length = sz) : laidS sz (zrow z 1) [(0, v)] = some (vcells v) := by
 subst hz
 have : Nat.ble z.length z.length = true := by rw [Nat.ble_eq]; exact Nat.le_refl _
 simp [laidS, zrow, hv, this]
theorem r_app1 {c1 c2 : Nat} {t T ty1 ty2 : TypeId} [ht : Und P t (.slice T)] {z : List Value} {agg : Bool} {bytes : Nat} [hi : Inf P T z agg bytes] {x y : Operand} {pos1 pos2 : String} {af1 af2 : Array Edge} {a : Option Addr} {m m3 c sz : Nat} {xs zs : List Value} {v : Value}
  (h : St w0 (Own T sz a m c xs :: l) w) (hx : ev e x = v) (hy : ev e y = .slice a m c) (hne : (match y with | .tmp k => Nat.beq k c1 | _ => true) = false) (hv : Nat.beq (vcells v).length sz = true) (h1 : (vcells v).all (·.oneCell') = true) (hm : m + 1 = m3) (hzs : xs ++ vcells v = zs) (hb : m3 * bytes ≤ 140737488355328) (h63 : m3 ≤ 9223372036854775807) (hz : Nat.beq z.length sz = true) (hs : Nat.ble 1 sz = true) (hs2 : Nat.ble sz 16777216 = true)
  (hd1 : Nat.blt c1 n = true) (hd2 : Nat.blt c2 n = true)
  (k : ∀ b a' c' w', (a' = none → False) → St w0 (Own T sz a' m3 c' zs :: l) w' → Rn P n ops Q rest (upd (upd e c1 (.slice (some ⟨b, 0, none⟩) 1 1)) c2 (.slice a' m3 c')) w') :
  Rn P n ops Q (⟨some c1, .buildSlice t 1 [(0, x)].toArray, ty1, pos1, af1, none⟩ :: ⟨some c2, .call ⟨.builtin .append, [y, .tmp c1].toArray, [t, t].toArray⟩, ty2, pos2, af2, none⟩ :: rest) e w := by
 have hz' : z.length = sz := Nat.eq_of_beq_eq_true hz
 have hv' : (vcells v).length = sz := Nat.eq_of_beq_eq_true hv
 have hs' := Nat.le_of_ble_eq_true hs
 have hs2' := Nat.le_of_ble_eq_true hs2
 subst hx
 refine r_c hd1 (x_bslice (r := vcells (ev e x)) h (by simpa [hz'] using laidS_one (sz := z.length) rfl (by rw [hv', hz'])) (by rw [Nat.ble_eq]; omega) (by rw [Nat.ble_eq]; omega) fun b w h => ?_)
 have hy2 : ev (upd e c1 (.slice (some ⟨b, 0, none⟩) 1 1)) y = .slice a m c := by
  cases y with
  | tmp k =>
   rw [← hy]
   refine upd_other ?_
   rintro rfl
   simp at hne
  | _ => cases hne
 refine r_c hd2 (x_append' (ys := vcells (ev e x)) (zs := zs) (m3 := m3) (h.f 1) hy2 (show ev _ (.tmp c1) = _ from upd_same _ _ _) ⟨by omega, .inr ⟨b, 0, rfl, at_of (h.b 0 rfl) (by simp)⟩⟩ (by simpa using h1) hm hzs hb h63 hz' fun a' c' w hn h => ?_)
 refine k b a' c' w (fun ha => ?_) (h.f 1).drop
 subst ha
 obtain ⟨_, _, ⟨_, _, h5, _⟩ | ⟨g, _, h5, _⟩⟩ := h.own_cases
 ·omega
 ·cases h5
end
end Go.Hw
namespace Go.Hw
section
variable {P : Program} {ops : Array Oper} {e : Env} {w : World} {d : Option Nat} {ty : TypeId} {pos : String} {af : Array Edge} {g : Option (Nat × Bool)}
theorem q_abuild {t T m : Nat} {z z2 : List Value} {agg : Bool} {bytes bytes2 : Nat} [ht : Und P t (.array m T)] [hi : Inf P t z true bytes] [he : Inf P T z2 agg bytes2] {parts : List (Nat × Operand)} {r : List Value}
  (hl : laidS z2.length z (parts.map fun (i, x) => (i, ev e x)) = some r) : Qv P e ⟨d, .build t parts.toArray, ty, pos, af, g⟩ w (.agg r.toArray) := by
 unfold Qv
 have h2 := hi.zeroValue w
 have h3 := he.sizeOf w
 have hf := fill_laidS _ _ _ _ hl
 simp only [if_true] at h2
 simp only [execOp, Instr.build, Sem.run_bind, h2, run_underlying ht.h, Result.andThen_ok, h3, Value.cells, List.map_toArray]
 simp only at hf
 rw [hf]
 rfl
end
end Go.Hw
namespace Go.Hw
def ordF : Nat → List Nat → List HProp → List HProp
 | 0, _, l => l
 | _ + 1, [], l => l
 | n + 1, k :: ks, l => match l[k]? with
  | none => l
  | some P => P :: ordF n (ks.map fun j => bif Nat.blt k j then j - 1 else j) (l.eraseIdx k)
theorem all_ordF : ∀ (n : Nat) (ks : List Nat) (l : List HProp), all (ordF n ks l) = all l
 | 0, _, _ => rfl
 | _ + 1, [], _ => rfl
 | n + 1, k :: ks, l => by
  rw [ordF]
  split
  ·rfl
  ·rename_i P hP
   rw [all_star, all_ordF n, ← all_star, ← bring_of k l hP, all_bring]
def dropN : Nat → List HProp → List HProp
 | 0, l => l
 | n + 1, _ :: l => dropN n l
 | _ + 1, [] => []
section
variable {w w0 : World} {l : List HProp}
theorem St.o (ks : List Nat) (h : St w0 l w) : St w0 (ordF ks.length ks l) w := h.of_all (all_ordF _ _ _).symm
theorem St.dropN : ∀ {n : Nat} {l : List HProp}, St w0 l w → St w0 (dropN n l) w
 | 0, _, h => h
 | _ + 1, [], h => h
 | n + 1, _ :: l, h => St.dropN (n := n) (l := l) h.drop
theorem St.x (ks : List Nat) (h : St w0 l w) : St w0 (Hw.dropN ks.length (ordF ks.length ks l)) w := (h.o ks).dropN
end
end Go.Hw
namespace Go.Hw
section
variable {P : Program} {e : Env} {w : World} {K : Env → World → Prop} {d : Option Nat} {ty : TypeId} {pos : String} {af : Array Edge} {g : Option (Nat × Bool)}
theorem q_moveF {x : Operand} {f : FuncId} (hx : ev e x = .func (.func f) #[] #[]) : Qv P e ⟨d, .move x, ty, pos, af, g⟩ w (.func (.func f) #[] #[]) := by
 unfold Qv; simp [execOp, hx]
theorem q_assignF {x : Operand} {f : FuncId} (hx : ev e x = .func (.func f) #[] #[]) : Qv P e ⟨d, .assign x, ty, pos, af, g⟩ w (.func (.func f) #[] #[]) := by
 unfold Qv; simp [execOp, hx]
theorem x_callv {c : Option Nat} {f : FuncId} {y : Operand} {xs : List Operand} {tys : Array TypeId} {vs : List Value} {φ : Value → World → Prop} [hf : FnB P f] (hy : ev e y = .func (.func f) #[] #[]) (hv : xs.map (ev e) = vs) (h : Ret P f vs w φ) (k : ∀ v w', φ v w' → K (updO e c v) w') :
  Ex P ⟨c, .call ⟨.value y, xs.toArray, tys⟩, ty, pos, af, g⟩ e w K := by
 obtain ⟨fn, h1, h2, h3⟩ := hf.h
 have hb : fn.body.isNone = false := h3
 have hrun : (execOp (ev e) ⟨c, .call ⟨.value y, xs.toArray, tys⟩, ty, pos, af, g⟩).run P w = .ok (.enter f vs.toArray) w := by
  have hp : ∀ w, (program).run P w = .ok P w := fun _ => rfl
  simp only [execOp, resolve, hy, Deferred.ofValue, invoke, callFunc, Sem.run_bind, Sem.run_pure, Result.andThen_ok, hp, h1, h2, hb, List.map_toArray, hv]
  simp
 unfold Ret at h
 unfold Ex
 rw [hrun]
 exact Calls.mono h fun _ _ ⟨v, a, b⟩ => ⟨v, a, k _ _ b⟩
end
end Go.Hw

namespace Go.Hw
theorem strB_cat (a b : List UInt8) : strB a ++ strB b = strB (a ++ b) := by
 apply ByteArray.ext
 rw [ByteArray.data_append]
 simp [strB]
theorem strB_same (a b : List UInt8) : ((strB a).data.toList == (strB b).data.toList) = decide (a = b) := by
 show (a.toArray.toList == b.toArray.toList) = _
 by_cases h : a = b
 ·subst h; simp
 ·simp [h]
theorem strB_size (a : List UInt8) : (strB a).size = a.length := by
 show a.toArray.size = _
 simp
section
variable {P : Program} {e : Env} {w : World} {d : Option Nat} {ty : TypeId} {pos : String} {af : Array Edge} {g : Option (Nat × Bool)}
theorem q_bidx {t : TypeId} [ht : Und P t .string] {x y : Operand} {l : List UInt8} {k : IntKind} {i : Nat} {c : UInt8} (hx : ev e x = .string (strB l)) (hy : ev e y = .int k (i : Int)) (hc : l[i]? = some c) :
  Qv P e ⟨d, .index t x y, ty, pos, af, g⟩ w (.int .u8 (c.toNat : Int)) := by
 unfold Qv
 have hlt := (List.getElem?_eq_some_iff.1 hc).1
 have h2 := (List.getElem?_eq_some_iff.1 hc).2
 have hs : i < (strB l).size := by rw [strB_size]; exact hlt
 have h3 : (strB l)[i]'hs = c := by
  show l.toArray[i]'_ = c
  exact h2
 have key : (Instr.index t (.string (strB l)) (.int k (i : Int))).run P w = .ok (.int .u8 (c.toNat : Int)) w := by
  rw [run_index_string w t (strB l) k i ht.h, dif_pos ⟨by omega, by omega⟩]
  simp only [Int.toNat_natCast, h3]
 simp only [execOp, hx, hy, Sem.run_bind, key, Result.andThen_ok]; rfl
theorem q_atail {t T m : Nat} [ht : Und P t (.array m T)] {z : List Value} {agg : Bool} {bytes : Nat} [hi : Inf P T z agg bytes] {x y : Operand} {b i : Nat} {k : IntKind}
  (hx : ev e x = .pointer (some ⟨b, 0, none⟩)) (hy : ev e y = .int k (i : Int)) (h : i < m) : Qv P e ⟨d, .slice t x (some y) none none, ty, pos, af, g⟩ w (.slice (some ⟨b, i * z.length, none⟩) (m - i) (m - i)) := by
 unfold Qv
 have hz := hi.sizeOf w
 have e2 : (Instr.sliceBound (.int k (i : Int)) m .sliceB).run P w = .ok i w := by
  simp [Instr.sliceBound, asIntOf, Nat.le_of_lt h]
 have e3 : (Instr.sliceBounds false m m (some (.int k (i : Int))) none none).run P w = .ok (i, m, m) w := by
  simp [Instr.sliceBounds, e2]
 have key : (Instr.sliceAt t (.pointer (some ⟨b, 0, none⟩)) (some (.int k (i : Int))) none none).run P w = .ok (.slice (some ⟨b, i * z.length, none⟩) (m - i) (m - i)) w := by
  simp [Instr.sliceAt, Instr.sureAddr, run_underlying ht.h, e3, hz, Addr.add, Nat.ne_of_gt h]
  omega
 simp only [execOp, hx, hy, Option.map_none, Option.map_some, Sem.run_bind, key, Result.andThen_ok]; rfl
theorem q_assignN {x : Operand} (hx : ev e x = .nilIface) : Qv P e ⟨d, .assign x, ty, pos, af, g⟩ w .nilIface := by
 unfold Qv; simp [execOp, hx]
theorem q_moveN {x : Operand} (hx : ev e x = .nilIface) : Qv P e ⟨d, .move x, ty, pos, af, g⟩ w .nilIface := by
 unfold Qv; simp [execOp, hx]
theorem q_extern {f : FuncId} {fn : Func} {E : Array Value → Sem Value} {xs : List Operand} {tys : Array TypeId} {vs : List Value} {v : Value} (hf : P.funcs[f]? = some fn) (hname : (fn.name == "runtime.NumGoroutine") = false)
  (hb : fn.body.isNone = true) (hn : Extern.findNext fn = none) (he : Extern.find fn = some E) (hv : xs.map (ev e) = vs) (hr : (E vs.toArray).run P w = .ok v w) : Qv P e ⟨d, .call ⟨.value (.func f), xs.toArray, tys⟩, ty, pos, af, g⟩ w v := by
 unfold Qv
 have h1 := run_callFunc_extern hf hname hb hn he vs.toArray w
 rw [hr] at h1
 simp only [execOp, resolve, ev, Deferred.ofValue, invoke, Sem.run_bind, Sem.run_pure, Result.andThen_ok, List.map_toArray, hv]
 simpa using h1
end
end Go.Hw

namespace Go.Hw
open Go.Lib
theorem decDigits_rec (u : Nat) : decDigits u = if u < 10 then [UInt8.ofNat (48 + u)] else decDigits (u / 10) ++ [UInt8.ofNat (48 + u % 10)] := by
 rw [decDigits]; split <;> rfl
theorem decDigits_mem (u : Nat) : ∀ c ∈ decDigits u, 48 ≤ c.toNat ∧ c.toNat ≤ 57 := by
 induction u using Nat.strongRecOn with
 | _ u ih =>
  intro c hc
  rw [decDigits_rec] at hc
  split at hc
  ·rw [List.mem_singleton.1 hc, UInt8.toNat_ofNat']; omega
  ·rcases List.mem_append.1 hc with hc | hc
   ·exact ih (u / 10) (by omega) c hc
   ·rw [List.mem_singleton.1 hc, UInt8.toNat_ofNat']; omega
theorem decDigits_ne (u : Nat) : decDigits u ≠ [] := by
 rw [decDigits_rec]; split <;> simp
theorem parseUintM_append (M : Nat) : ∀ (a b : List UInt8) (acc x : Nat), parseUintM M acc a = .ok x → parseUintM M acc (a ++ b) = parseUintM M x b
 | [], b, acc, x, h => by cases h; rfl
 | c :: a, b, acc, x, h => by
  rw [parseUintM] at h
  rw [List.cons_append, parseUintM]
  split at h
  ·rename_i hc
   rw [if_pos hc]
   split at h
   ·cases h
   ·rename_i h1
    rw [if_neg h1]
    split at h
    ·cases h
    ·rename_i h2
     rw [if_neg h2]
     exact parseUintM_append M a b _ x h
  ·cases h
theorem parse_digits {M : Nat} (hM : M < 18446744073709551616) (u : Nat) : u ≤ M → parseUintM M 0 (decDigits u) = .ok u := by
 induction u using Nat.strongRecOn with
 | _ u ih =>
  intro hu
  rw [decDigits_rec]
  split
  ·rename_i h
   have e : (UInt8.ofNat (48 + u)).toNat = 48 + u := by rw [UInt8.toNat_ofNat']; omega
   rw [parseUintM, e, if_pos (by omega), if_neg (by omega), if_neg (by omega), parseUintM]
   congr 1; omega
  ·rename_i h
   rw [parseUintM_append M _ _ 0 (u / 10) (ih (u / 10) (by omega) (by omega))]
   have e : (UInt8.ofNat (48 + u % 10)).toNat = 48 + u % 10 := by rw [UInt8.toNat_ofNat']; omega
   rw [parseUintM, e, if_pos (by omega), if_neg (by omega), if_neg (by omega), parseUintM]
   congr 1; omega
theorem parse_itoa {n : Int} (h : I64 n) : parseIntB 64 (itoa n) = .ok n := by
 obtain ⟨h1, h2⟩ := h
 unfold itoa
 split
 ·rename_i hn
  have hp := parse_digits (M := 2 ^ 64 - 1) (by decide) n.natAbs (by omega)
  have e : parseUintB 64 (if (45 : UInt8).toNat = 43 ∨ (45 : UInt8).toNat = 45 then decDigits n.natAbs else 45 :: decDigits n.natAbs) = .ok n.natAbs := by
   rw [if_pos (.inr (by decide)), parseUintB, if_neg (decDigits_ne _), hp]
  unfold parseIntB
  dsimp only
  rw [e]
  dsimp only
  rw [if_neg (by rintro ⟨h, _⟩; exact h (by decide)), if_neg (by rintro ⟨_, h⟩; omega), if_pos (by decide)]
  congr 1; omega
 ·rename_i hn
  have hp := parse_digits (M := 2 ^ 64 - 1) (by decide) n.toNat (by omega)
  have hm := decDigits_mem n.toNat
  cases hd : decDigits n.toNat with
  | nil => exact absurd hd (decDigits_ne _)
  | cons c r =>
   rw [hd] at hp hm
   have hc := hm c (List.mem_cons_self ..)
   have e : parseUintB 64 (if c.toNat = 43 ∨ c.toNat = 45 then r else c :: r) = .ok n.toNat := by
    rw [if_neg (by omega), parseUintB, if_neg (by simp), hp]
   unfold parseIntB
   dsimp only
   rw [e]
   dsimp only
   rw [if_neg (by omega), if_neg (by omega), if_neg (by omega)]
   congr 1; omega
def hexDig (d : Nat) : UInt8 := if d < 10 then UInt8.ofNat (48 + d) else UInt8.ofNat (87 + d)
def hexS (u : Nat) : List UInt8 := if _h : u < 16 then [hexDig u] else hexS (u / 16) ++ [hexDig (u % 16)]
termination_by u
theorem hexS_rec (u : Nat) : hexS u = if u < 16 then [hexDig u] else hexS (u / 16) ++ [hexDig (u % 16)] := by
 rw [hexS]; split <;> rfl
theorem hexS_ne (u : Nat) : hexS u ≠ [] := by
 rw [hexS_rec]; split <;> simp
theorem hexDig_nat {d : Nat} (h : d < 16) : (hexDig d).toNat = if d < 10 then 48 + d else 87 + d := by
 unfold hexDig; split <;> (rw [UInt8.toNat_ofNat']; omega)
theorem hexS_mem (u : Nat) : ∀ c ∈ hexS u, ∃ d, d < 16 ∧ c = hexDig d := by
 induction u using Nat.strongRecOn with
 | _ u ih =>
  intro c hc
  rw [hexS_rec] at hc
  split at hc
  ·rename_i h; exact ⟨u, h, List.mem_singleton.1 hc⟩
  ·rcases List.mem_append.1 hc with hc | hc
   ·exact ih (u / 16) (by omega) c hc
   ·exact ⟨u % 16, Nat.mod_lt _ (by decide), List.mem_singleton.1 hc⟩
def hexV (c : UInt8) : Nat := if c.toNat < 58 then c.toNat - 48 else c.toNat - 87
theorem hexV_dig {d : Nat} (h : d < 16) : hexV (hexDig d) = d := by
 unfold hexV; rw [hexDig_nat h]; split <;> split <;> omega
def hexN (n : Nat) (l : List UInt8) : Nat := l.foldl (fun n c => n * 16 + hexV c) n
theorem hexN_append (n : Nat) (a b : List UInt8) : hexN n (a ++ b) = hexN (hexN n a) b := List.foldl_append
theorem hexN_S (u : Nat) : hexN 0 (hexS u) = u := by
 induction u using Nat.strongRecOn with
 | _ u ih =>
  rw [hexS_rec]
  split
  ·rename_i h
   show 0 * 16 + hexV (hexDig u) = u
   rw [hexV_dig h]; omega
  ·rw [hexN_append, ih (u / 16) (by omega)]
   show u / 16 * 16 + hexV (hexDig (u % 16)) = u
   rw [hexV_dig (Nat.mod_lt _ (by decide))]; omega
theorem hexN_le : ∀ (l : List UInt8) (n : Nat), n ≤ hexN n l
 | [], n => Nat.le_refl _
 | c :: l, n => by
  show n ≤ hexN (n * 16 + hexV c) l
  have := hexN_le l (n * 16 + hexV c)
  omega
theorem hexS_len (u k : Nat) (hk : 1 ≤ k) (h : u < 16 ^ k) : (hexS u).length ≤ k := by
 induction k generalizing u with
 | zero => omega
 | succ k ih =>
  rw [hexS_rec]
  split
  ·simp
  ·rename_i h16
   rw [List.length_append]
   have hk1 : 1 ≤ k := by
    rcases Nat.eq_zero_or_pos k with rfl | h0
    ·rw [Nat.zero_add, Nat.pow_one] at h; omega
    ·exact h0
   have := ih (u / 16) hk1 (by rw [Nat.pow_succ] at h; omega)
   simp only [List.length_singleton]; omega
def joinW : List (List UInt8) → List UInt8
 | [] => []
 | [w] => w
 | w :: r => w ++ 32 :: joinW r
theorem joinW_cons (w : List UInt8) {r : List (List UInt8)} (h : r ≠ []) : joinW (w :: r) = w ++ 32 :: joinW r := by
 cases r with
 | nil => exact absurd rfl h
 | cons a b => rfl
theorem index_word : ∀ (w t : List UInt8), 32 ∉ w → index (w ++ 32 :: t) [32] = (w.length : Int)
 | [], t, _ => rfl
 | c :: w, t, h => by
  have hc : c ≠ 32 := fun e => h (by rw [e]; exact List.mem_cons_self ..)
  have ih := index_word w t fun hm => h (List.mem_cons_of_mem _ hm)
  rw [List.cons_append, index, ih, if_neg (by simp [hc.symm]), if_neg (by first | (simp; done) | (simp; omega))]
  simp
theorem index_none : ∀ (w : List UInt8), 32 ∉ w → index w [32] = -1
 | [], _ => rfl
 | c :: w, h => by
  have hc : c ≠ 32 := fun e => h (by rw [e]; exact List.mem_cons_self ..)
  have ih := index_none w fun hm => h (List.mem_cons_of_mem _ hm)
  rw [index, ih, if_neg (by simp [hc.symm]), if_pos (by decide)]
theorem splitK_words : ∀ (ws : List (List UInt8)) (w : List UInt8), (∀ x ∈ w :: ws, 32 ∉ x) → splitK [32] 0 ws.length (joinW (w :: ws)) = w :: ws
 | [], w, _ => rfl
 | x :: ws, w, h => by
  have hw := h w (List.mem_cons_self ..)
  have hi := index_word w (joinW (x :: ws)) hw
  rw [joinW_cons w (by simp), List.length_cons, splitK, hi, if_neg (by first | (simp; done) | (simp; omega))]
  have e1 : ((w.length : Int)).toNat + 0 = w.length := by omega
  have e2 : ((w.length : Int)).toNat + ([32] : List UInt8).length = w.length + 1 := by simp
  rw [e1, e2, List.take_left, ← List.drop_drop, List.drop_left]
  show w :: splitK [32] 0 ws.length (joinW (x :: ws)) = _
  rw [splitK_words ws x fun y hy => h y (List.mem_cons_of_mem _ hy)]
theorem count_words : ∀ (ws : List (List UInt8)) (w : List UInt8), (∀ x ∈ w :: ws, 32 ∉ x) → (joinW (w :: ws)).count 32 = ws.length
 | [], w, h => List.count_eq_zero.2 (h w (List.mem_cons_self ..))
 | x :: ws, w, h => by
  have hw := List.count_eq_zero.2 (h w (List.mem_cons_self ..))
  rw [joinW_cons w (by simp), List.count_append, hw, List.count_cons_self, count_words ws x fun y hy => h y (List.mem_cons_of_mem _ hy)]
  simp
theorem split_words {ws : List (List UInt8)} (hne : ws ≠ []) (h : ∀ x ∈ ws, 32 ∉ x) : split (joinW ws) [32] = ws := by
 cases ws with
 | nil => exact absurd rfl hne
 | cons w ws =>
  unfold split
  rw [count_one, count_words ws w h, splitK_words ws w h]
theorem itoa_word (n : Int) : 32 ∉ itoa n := by
 unfold itoa
 split
 ·intro h
  rcases List.mem_cons.1 h with h | h
  ·cases h
  ·have := decDigits_mem _ _ h; revert this; decide
 ·intro h
  have := decDigits_mem _ _ h; revert this; decide
theorem hexS_word (u : Nat) : 32 ∉ hexS u := by
 intro h
 obtain ⟨d, hd, he⟩ := hexS_mem u _ h
 have := hexDig_nat hd
 rw [← he] at this
 revert this
 show (32 = _) → False
 split <;> omega
theorem itoa_ne (n : Int) : itoa n ≠ [] := by
 unfold itoa; split
 ·simp
 ·exact decDigits_ne _
end Go.Hw

namespace Go.Hw
open Go.Lib
theorem itoa_inj {n m : Int} (hn : I64 n) (hm : I64 m) (h : itoa n = itoa m) : n = m := by
 have h1 := parse_itoa hn
 rw [h, parse_itoa hm] at h1
 injection h1 with h1
 exact h1.symm
theorem hexS_inj {u v : Nat} (h : hexS u = hexS v) : u = v := by rw [← hexN_S u, h, hexN_S]
theorem cut_at {c : UInt8} : ∀ {a a' b b' : List UInt8}, c ∉ a → c ∉ a' → a ++ c :: b = a' ++ c :: b' → a = a' ∧ b = b'
 | [], [], b, b', _, _, h => by simpa using h
 | [], x :: a', b, b', _, h2, h => by
  have : c = x := by simpa using (List.cons.inj h).1
  exact absurd (by rw [this]; exact List.mem_cons_self ..) h2
 | x :: a, [], b, b', h1, _, h => by
  have : x = c := by simpa using (List.cons.inj h).1
  exact absurd (by rw [this]; exact List.mem_cons_self ..) h1
 | x :: a, y :: a', b, b', h1, h2, h => by
  obtain ⟨e1, e2⟩ := List.cons.inj h
  obtain ⟨e3, e4⟩ := cut_at (fun hm => h1 (List.mem_cons_of_mem _ hm)) (fun hm => h2 (List.mem_cons_of_mem _ hm)) e2
  exact ⟨by rw [e1, e3], e4⟩
theorem itoa_colon (n : Int) : 58 ∉ itoa n := by
 unfold itoa
 split
 ·intro h
  rcases List.mem_cons.1 h with h | h
  ·cases h
  ·have := decDigits_mem _ _ h; revert this; decide
 ·intro h
  have := decDigits_mem _ _ h; revert this; decide
structure Opr where
 kind : Int
 series : Int
 iter : Int
 T : Int
 V : Nat
 F : Int
 To : Int
 N : Int
def Opr.Wf (o : Opr) : Prop := I64 o.kind ∧ I64 o.series ∧ I64 o.iter ∧ I64 o.T ∧ o.V < 18446744073709551616 ∧ I64 o.F ∧ I64 o.To ∧ I64 o.N
def Opr.zero : Opr := ⟨0, 0, 0, 0, 0, 0, 0, 0⟩
def wAppend : List UInt8 := [97, 112, 112, 101, 110, 100]
def wRead : List UInt8 := [114, 101, 97, 100]
def wSeal : List UInt8 := [115, 101, 97, 108]
def wDelete : List UInt8 := [100, 101, 108, 101, 116, 101]
def wOpen : List UInt8 := [111, 112, 101, 110]
def wNext : List UInt8 := [110, 101, 120, 116]
def wClose : List UInt8 := [99, 108, 111, 115, 101]
def opW (o : Opr) : List (List UInt8) :=
 if o.kind = 1 then [wAppend, itoa o.series, itoa o.T, hexS o.V] else if o.kind = 2 then [wRead, itoa o.series, itoa o.F, itoa o.To] else if o.kind = 3 then [wSeal, itoa o.series]
 else if o.kind = 4 then [wDelete, itoa o.series] else if o.kind = 5 then [wOpen, itoa o.series, itoa o.F, itoa o.To] else if o.kind = 6 then [wNext, itoa o.iter, itoa o.N] else if o.kind = 7 then [wClose, itoa o.iter] else []
def opS (o : Opr) : List UInt8 := joinW (opW o)
def Opr.only (o : Opr) : Opr :=
 if o.kind = 1 then ⟨1, o.series, 0, o.T, o.V, 0, 0, 0⟩ else if o.kind = 2 then ⟨2, o.series, 0, 0, 0, o.F, o.To, 0⟩ else if o.kind = 3 then ⟨3, o.series, 0, 0, 0, 0, 0, 0⟩
 else if o.kind = 4 then ⟨4, o.series, 0, 0, 0, 0, 0, 0⟩ else if o.kind = 5 then ⟨5, o.series, 0, 0, 0, o.F, o.To, 0⟩ else if o.kind = 6 then ⟨6, 0, o.iter, 0, 0, 0, 0, o.N⟩ else if o.kind = 7 then ⟨7, 0, o.iter, 0, 0, 0, 0, 0⟩ else ⟨o.kind, 0, 0, 0, 0, 0, 0, 0⟩
theorem opW_words (o : Opr) : ∀ x ∈ opW o, 32 ∉ x := by
 unfold opW
 repeat' split
 all_goals
  intro x hx
  repeat
   rcases List.mem_cons.1 hx with rfl | hx
   ·first | exact itoa_word _ | exact hexS_word _ | decide
  cases hx
theorem opW_kind {o : Opr} : opW o ≠ [] ↔ 1 ≤ o.kind ∧ o.kind ≤ 7 := by
 unfold opW
 repeat' split
 all_goals simp
 all_goals omega
theorem joinW_ne {w : List UInt8} {r : List (List UInt8)} (h : w ≠ []) : joinW (w :: r) ≠ [] := by
 cases r with
 | nil => exact h
 | cons a b => rw [joinW_cons _ (by simp)]; intro hh; exact h (List.append_eq_nil_iff.1 hh).1
theorem opS_ne {o : Opr} : opS o ≠ [] ↔ 1 ≤ o.kind ∧ o.kind ≤ 7 := by
 rw [← opW_kind]
 unfold opS
 constructor
 ·intro h hh; rw [hh] at h; exact h rfl
 ·intro h
  have : ∃ w r, opW o = w :: r ∧ w ≠ [] := by
   unfold opW at h ⊢
   repeat' split at h
   all_goals first | exact absurd rfl h | skip
   all_goals
    simp only [*]
    refine ⟨_, _, rfl, by decide⟩
  obtain ⟨w, r, e, hw⟩ := this
  rw [e]; exact joinW_ne hw
structure Res where
 err : Int
 iter : Int
 list : List Smp
def wErr : List UInt8 := [101, 114, 114, 111, 114]
def wOk : List UInt8 := [111, 107]
def smpW (s : Smp) : List UInt8 := itoa s.T ++ 58 :: hexS s.V.toNat
def resW (r : Res) : List (List UInt8) := if r.err ≠ 0 then [wErr, itoa r.err] else wOk :: itoa r.iter :: r.list.map smpW
def resS (r : Res) : List UInt8 := joinW (resW r)
theorem smpW_word (s : Smp) : 32 ∉ smpW s := by
 intro h
 unfold smpW at h
 rcases List.mem_append.1 h with h | h
 ·exact itoa_word _ h
 ·rcases List.mem_cons.1 h with h | h
  ·cases h
  ·exact hexS_word _ h
theorem resW_words (r : Res) : ∀ x ∈ resW r, 32 ∉ x := by
 unfold resW
 split
 ·intro x hx
  simp only [List.mem_cons, List.not_mem_nil, or_false] at hx
  rcases hx with rfl | rfl
  ·decide
  ·exact itoa_word _
 ·intro x hx
  rcases List.mem_cons.1 hx with rfl | hx
  ·decide
  rcases List.mem_cons.1 hx with rfl | hx
  ·exact itoa_word _
  obtain ⟨s, _, rfl⟩ := List.mem_map.1 hx
  exact smpW_word s
theorem resW_ne (r : Res) : resW r ≠ [] := by unfold resW; split <;> simp
theorem resS_words {a b : Res} (h : resS a = resS b) : resW a = resW b := by
 rw [← split_words (resW_ne a) (resW_words a), ← split_words (resW_ne b) (resW_words b)]
 unfold resS at h
 rw [h]
theorem smpW_inj {a b : Smp} (ha : a.Wf) (hb : b.Wf) (h : smpW a = smpW b) : a = b := by
 obtain ⟨h1, h2⟩ := cut_at (itoa_colon _) (itoa_colon _) h
 have e1 := itoa_inj ha.1 hb.1 h1
 have e2 := hexS_inj h2
 have a2 := ha.2
 have b2 := hb.2
 cases a; cases b
 simp only at e1 e2 a2 b2
 congr 1
 omega
theorem map_smpW_inj : ∀ {l m : List Smp}, (∀ s ∈ l, s.Wf) → (∀ s ∈ m, s.Wf) → l.map smpW = m.map smpW → l = m
 | [], [], _, _, _ => rfl
 | [], _ :: _, _, _, h => by simp at h
 | _ :: _, [], _, _, h => by simp at h
 | a :: l, b :: m, hl, hm, h => by
  obtain ⟨h1, h2⟩ := List.cons.inj (by simpa using h : smpW a :: l.map smpW = smpW b :: m.map smpW)
  rw [smpW_inj (hl a (List.mem_cons_self ..)) (hm b (List.mem_cons_self ..)) h1, map_smpW_inj (fun s hs => hl s (List.mem_cons_of_mem _ hs)) (fun s hs => hm s (List.mem_cons_of_mem _ hs)) h2]
theorem resS_same {a b : Res} (ha : I64 a.err ∧ I64 a.iter ∧ ∀ s ∈ a.list, s.Wf) (hb : I64 b.err ∧ I64 b.iter ∧ ∀ s ∈ b.list, s.Wf) :
  resS a = resS b ↔ (if a.err ≠ 0 ∨ b.err ≠ 0 then a.err = b.err else a.iter = b.iter ∧ a.list = b.list) := by
 constructor
 ·intro h
  have hw := resS_words h
  unfold resW at hw
  by_cases h1 : a.err ≠ 0
  ·rw [if_pos h1] at hw
   rw [if_pos (.inl h1)]
   by_cases h2 : b.err ≠ 0
   ·rw [if_pos h2] at hw
    exact itoa_inj ha.1 hb.1 (by simpa using hw)
   ·rw [if_neg h2] at hw
    have := (List.cons.inj hw).1
    exact absurd this (by decide)
  ·rw [if_neg h1] at hw
   by_cases h2 : b.err ≠ 0
   ·rw [if_pos h2] at hw
    have := (List.cons.inj hw).1
    exact absurd this (by decide)
   ·rw [if_neg h2] at hw
    rw [if_neg (by simp only [ne_eq, Decidable.not_not] at h1 h2; omega)]
    obtain ⟨_, hw⟩ := List.cons.inj hw
    obtain ⟨e1, e2⟩ := List.cons.inj hw
    exact ⟨itoa_inj ha.2.1 hb.2.1 e1, map_smpW_inj ha.2.2 hb.2.2 e2⟩
 ·intro h
  have : resW a = resW b := by
   unfold resW
   split at h
   ·rename_i hh
    rw [h] at hh ⊢
    have hh2 : b.err ≠ 0 := by rcases hh with h | h <;> exact h
    rw [if_pos hh2, if_pos hh2]
   ·rename_i hh
    have h1 : ¬ a.err ≠ 0 := fun hc => hh (.inl hc)
    have h2 : ¬ b.err ≠ 0 := fun hc => hh (.inr hc)
    rw [if_neg h1, if_neg h2, h.1, h.2]
  unfold resS
  rw [this]
end Go.Hw

namespace Go.Hw
open Go.Lib
def digS (b u : Nat) : List UInt8 := if b = 10 then decDigits u else hexS u
theorem digS_rec {b : Nat} (hb : b = 10 ∨ b = 16) (u : Nat) : digS b u = if u < b then [hexDig u] else digS b (u / b) ++ [hexDig (u % b)] := by
 have hd : ∀ d, d < 10 → UInt8.ofNat (48 + d) = hexDig d := fun d h => by unfold hexDig; rw [if_pos h]
 rcases hb with rfl | rfl
 ·show decDigits u = if u < 10 then _ else decDigits (u / 10) ++ _
  rw [decDigits_rec]
  split
  ·rename_i h; rw [hd u h]
  ·rw [hd _ (Nat.mod_lt _ (by decide))]
 ·show hexS u = if u < 16 then _ else hexS (u / 16) ++ _
  exact hexS_rec u
theorem digS_len {b : Nat} (hb : b = 10 ∨ b = 16) {u : Nat} (hu : u < 18446744073709551616) : (digS b u).length ≤ 20 := by
 rcases hb with rfl | rfl
 ·show (decDigits u).length ≤ 20
  rw [decDigits_length]; exact nDigits_le20 u hu
 ·show (hexS u).length ≤ 20
  have := hexS_len u 16 (by decide) (by exact hu)
  omega
theorem digS_ne {b : Nat} (hb : b = 10 ∨ b = 16) (u : Nat) : digS b u ≠ [] := by
 rw [digS_rec hb]; split <;> simp
def digC : List UInt8 := [48, 49, 50, 51, 52, 53, 54, 55, 56, 57, 97, 98, 99, 100, 101, 102]
theorem digC_get : ∀ d, d < 16 → digC[d]? = some (hexDig d) := by decide
end Go.Hw
namespace Go.Proofs.YtnnehiiblfmpnaaGreatDoor
open Go.Hw Go.Lib
set_option maxHeartbeats 4000000
set_option maxRecDepth 100000
section
variable {w0 w : World} {l : List HProp}
theorem ref27_digits {b u : Nat} (hb : b = 10 ∨ b = 16) (hu : u < 18446744073709551616) (h : St w0 l w) : Ret Tryz.prog 90 [.int .u64 u, .int .u64 b] w fun v w' => v = .string (strB (digS b u)) ∧ St w0 l w' := by
 have hb16 : b ≤ 16 := by rcases hb with rfl | rfl <;> decide
 have hb10 : 10 ≤ b := by rcases hb with rfl | rfl <;> decide
 have hlen := digS_len hb hu
 refine enter Tryz.func90 rfl Tryz.results90 Tryz.ntmps90 rfl ?_
 refine c_seq (c_region ?_)
 refine r_v (q_assignZ rfl) rfl ?_
 refine r_nil ?_
 refine c_seq (c_region ?_)
 refine r_v (q_assignZ rfl) rfl ?_
 refine r_nil ?_
 refine c_seq (c_block ?_)
 refine c_loop (Γ := Nat × List UInt8) (fun k => [(0, .int .u64 k.1), (1, .int .u64 b), (5, .string (strB k.2))])
  (fun k w => k.1 < 18446744073709551616 ∧ ((k.1 = 0 ∧ k.2 ≠ [] ∧ k.2 = digS b u) ∨ ((0 < k.1 ∨ k.2 = []) ∧ digS b u = digS b k.1 ++ k.2)) ∧ St w0 l w) (fun k => 2 * k.1 + if k.2 = [] then 1 else 0) (u, []) ⟨rfl, rfl, rfl, trivial⟩ ⟨hu, .inr ⟨.inr rfl, by simp⟩, h⟩ ?_
 clear h
 rintro ⟨n, s⟩ w e ⟨hn, inv, h⟩
 dsimp only at hn inv h ⊢
 have hsl : s.length ≤ 20 := by
  rcases inv with ⟨_, _, h3⟩ | ⟨_, h3⟩
  ·rw [h3]; exact hlen
  ·rw [h3, List.length_append] at hlen; omega
 refine c_cut (Γ := Unit) (fun _ => [(0, .int .u64 n), (1, .int .u64 b), (5, .string (strB s))]) (fun _ w => (0 < n ∨ s = []) ∧ digS b u = digS b n ++ s ∧ St w0 l w) ?_ ?_
 ·refine c_seq (c_region ?_)
  refine r_v (q_moveI rfl) rfl ?_; refine r_v (q_gtr rfl rfl) rfl ?_
  by_cases h0 : 0 < n
  ·refine r_is (.bool true) (by congr 1; rw [decide_eq_true_eq]; omega) ?_
   refine r_v (q_moveB rfl) rfl ?_; refine r_gn rfl rfl rfl ?_; refine r_gn rfl rfl rfl ?_; refine r_v (q_pick1 rfl rfl rfl) rfl ?_
   refine r_nil (c_true rfl (c_skip ⟨(), ⟨rfl, rfl, rfl, trivial⟩, .inl h0, ?_, h⟩))
   rcases inv with ⟨h1, _⟩ | ⟨_, h3⟩
   ·omega
   ·exact h3
  ·refine r_is (.bool false) (by congr 1; rw [decide_eq_false_iff_not]; omega) ?_
   refine r_v (q_moveB rfl) rfl ?_; refine r_gd rfl rfl ?_; refine r_v (q_moveZ rfl) rfl ?_; refine r_gd rfl rfl ?_; refine r_v (q_streq rfl rfl) rfl ?_
   refine r_is (.bool (decide (s = []))) (by congr 1; exact strB_same s []) ?_
   refine r_v (q_pick0 rfl rfl rfl) rfl ?_
   rcases inv with ⟨_, h2, h3⟩ | ⟨h2, h3⟩
   ·refine r_is (.bool false) (by congr 1; rw [decide_eq_false_iff_not]; exact h2) ?_
    refine r_nil (c_false rfl (c_exit ?_))
    refine c_seq (c_region ?_)
    refine r_v (q_moveZ rfl) rfl ?_; refine r_v (q_assignZ rfl) rfl ?_
    exact r_nil (c_ret (bq1 ⟨congrArg (fun x => Value.string (strB x)) h3, h⟩))
   ·have hs : s = [] := by rcases h2 with h2 | h2; exact absurd h2 h0; exact h2
    refine r_is (.bool true) (by congr 1; rw [decide_eq_true_eq]; exact hs) ?_
    exact r_nil (c_true rfl (c_skip ⟨(), ⟨rfl, rfl, rfl, trivial⟩, .inr hs, h3, h⟩))
 clear h inv
 rintro ⟨⟩ w e ⟨h1, h2, h⟩
 have hg := digC_get (n % b) (Nat.lt_of_lt_of_le (Nat.mod_lt _ (by omega)) hb16)
 refine c_block ?_
 refine c_seq (c_region ?_)
 refine r_v (q_moveI rfl) rfl ?_; refine r_v (q_moveI rfl) rfl ?_
 refine r_v (q_is (v' := .int .u64 ((n % b : Nat) : Int)) (q_rem rfl rfl (by omega)) (congrArg (Value.int .u64) (tmod_nat n b))) rfl ?_
 refine r_v (q_bidx (l := digC) (i := n % b) rfl rfl hg) rfl ?_
 refine r_c rfl (x_bslice (r := bytesV [hexDig (n % b)]) h rfl rfl rfl fun b2 w h => ?_)
 refine r_v (q_btos (bs := [hexDig (n % b)]) rfl ⟨rfl, .inr ⟨b2, 0, rfl, at_of (h.b 0 rfl) rfl⟩⟩) rfl ?_
 replace h := h.drop
 refine r_v (q_moveZ rfl) rfl ?_
 refine r_v (q_is (v' := .string (strB (hexDig (n % b) :: s))) (q_cat rfl rfl (by rw [strB_size, strB_size]; simp; omega)) (by rw [strB_cat]; rfl)) rfl ?_
 refine r_v (q_assignZ rfl) rfl ?_
 refine r_nil ?_
 refine c_region ?_
 refine r_v (q_moveI rfl) rfl ?_; refine r_v (q_moveI rfl) rfl ?_
 refine r_v (q_is (v' := .int .u64 ((n / b : Nat) : Int)) (q_quo rfl rfl (by omega)) (by rw [tdiv_nat, wrap_u64, Nat.mod_eq_of_lt (Nat.lt_of_le_of_lt (Nat.div_le_self n b) hn)])) rfl ?_
 refine r_v (q_assignI rfl) rfl ?_
 have hle : n / b ≤ n := Nat.div_le_self _ _
 refine r_nil ⟨(n / b, hexDig (n % b) :: s), ⟨rfl, rfl, rfl, trivial⟩, ⟨by dsimp only; omega, ?_, h⟩, ?_⟩
 ·dsimp only
  rw [digS_rec hb n] at h2
  by_cases hlt : n < b
  ·rw [if_pos hlt] at h2
   rw [Nat.div_eq_of_lt hlt, Nat.mod_eq_of_lt hlt]
   exact .inl ⟨rfl, by simp, h2.symm⟩
  ·rw [if_neg hlt] at h2
   refine .inr ⟨.inl (Nat.div_pos (by omega) (by omega)), ?_⟩
   rw [h2, List.append_assoc]; rfl
 ·dsimp only
  rw [if_neg (by simp)]
  rcases Nat.eq_zero_or_pos n with h0 | h0
  ·subst h0
   rw [Nat.zero_div]
   rcases h1 with h1 | h1
   ·omega
   ·rw [if_pos h1]; omega
  ·have : n / b < n := Nat.div_lt_self h0 (by omega)
   split <;> omega
theorem ref27_Hex {u : Nat} (hu : u < 18446744073709551616) (h : St w0 l w) : Ret Tryz.prog 51 [.int .u64 u] w fun v w' => v = .string (strB (hexS u)) ∧ St w0 l w' := by
 refine enter Tryz.func51 rfl Tryz.results51 Tryz.ntmps51 rfl ?_
 refine c_seq (c_region ?_)
 refine r_v (q_assignZ rfl) rfl ?_
 refine r_nil ?_
 refine c_seq (c_region ?_)
 refine r_v (q_moveI rfl) rfl ?_
 refine r_c rfl (x_call rfl (ref27_digits (b := 16) (.inr rfl) hu h) ?_)
 rintro _ w ⟨rfl, h⟩
 refine r_v (q_assignZ rfl) rfl ?_
 exact r_nil (c_ret (bq1 ⟨rfl, h⟩))
theorem ref27_Num {n : Int} (hn : I64 n) (h : St w0 l w) : Ret Tryz.prog 50 [.int .i64 n] w fun v w' => v = .string (strB (itoa n)) ∧ St w0 l w' := by
 obtain ⟨h1, h2⟩ := hn
 refine enter Tryz.func50 rfl Tryz.results50 Tryz.ntmps50 rfl ?_
 refine c_seq (c_region ?_)
 refine r_v (q_assignZ rfl) rfl ?_
 refine r_nil ?_
 refine c_seq (c_seq (c_region ?_))
 refine r_v (q_moveI rfl) rfl ?_; refine r_v (q_lss rfl rfl) rfl ?_
 by_cases h0 : n < 0
 ·have e : itoa n = 45 :: decDigits n.natAbs := by unfold itoa; rw [if_pos h0]
  have hlen := digS_len (b := 10) (.inl rfl) (u := n.natAbs) (by omega)
  refine r_is (.bool true) (by congr 1; rw [decide_eq_true_eq]; exact h0) ?_
  refine r_nil (c_true rfl ?_)
  refine c_seq (c_region ?_)
  refine r_v (q_moveI rfl) rfl ?_; refine r_v (q_add rfl rfl) rfl ?_
  refine r_is (.int .i64 (n + 1)) (by rw [wrap64 (by omega) (by omega)]) ?_
  refine r_v (q_neg rfl) rfl ?_
  refine r_is (.int .i64 (-(n + 1))) (by rw [wrap64 (by omega) (by omega)]; congr 1; omega) ?_
  refine r_v (q_conv rfl) rfl ?_
  refine r_is (.int .u64 ((n.natAbs - 1 : Nat) : Int)) (by rw [show -(n + 1) = ((n.natAbs - 1 : Nat) : Int) by omega, wrap_u64, Nat.mod_eq_of_lt (by omega)]) ?_
  refine r_v (q_add rfl rfl) rfl ?_
  refine r_is (.int .u64 ((n.natAbs : Nat) : Int)) (by rw [show ((n.natAbs - 1 : Nat) : Int) + 1 = ((n.natAbs : Nat) : Int) by omega, wrap_u64, Nat.mod_eq_of_lt (by omega)]) ?_
  refine r_c rfl (x_call rfl (ref27_digits (b := 10) (u := n.natAbs) (.inl rfl) (by omega) h) ?_)
  rintro _ w ⟨rfl, h⟩
  refine r_v (q_is (v' := .string (strB (itoa n))) (q_cat (a := strB [45]) (b := strB (digS 10 n.natAbs)) rfl rfl (by rw [strB_size, strB_size]; simp; omega)) (by rw [strB_cat, e]; rfl)) rfl ?_
  refine r_v (q_assignZ rfl) rfl ?_
  exact r_nil (c_ret (bq1 ⟨rfl, h⟩))
 ·have e : itoa n = decDigits n.toNat := by unfold itoa; rw [if_neg h0]
  refine r_is (.bool false) (by congr 1; rw [decide_eq_false_iff_not]; exact h0) ?_
  refine r_nil (c_false rfl (c_skip ?_))
  refine c_seq (c_region ?_)
  refine r_v (q_moveI rfl) rfl ?_; refine r_v (q_conv rfl) rfl ?_
  refine r_is (.int .u64 ((n.toNat : Nat) : Int)) (by rw [show n = ((n.toNat : Nat) : Int) by omega, wrap_u64, Nat.mod_eq_of_lt (by omega)]; simp) ?_
  refine r_c rfl (x_call rfl (ref27_digits (b := 10) (u := n.toNat) (.inl rfl) (by omega) h) ?_)
  rintro _ w ⟨rfl, h⟩
  refine r_v (q_assignZ rfl) rfl ?_
  exact r_nil (c_ret (bq1 ⟨by rw [e]; rfl, h⟩))
end
end Go.Proofs.YtnnehiiblfmpnaaGreatDoor

namespace Go.Hw
theorem land15 (n : Nat) : (n &&& 15) = n % 16 := Nat.and_two_pow_sub_one_eq_mod n 4
def digC36 : List UInt8 := [48, 49, 50, 51, 52, 53, 54, 55, 56, 57, 97, 98, 99, 100, 101, 102, 103, 104, 105, 106, 107, 108, 109, 110, 111, 112, 113, 114, 115, 116, 117, 118, 119, 120, 121, 122]
theorem digC36_get : ∀ d, d < 16 → digC36[d]? = some (hexDig d) := by decide
theorem set_mid {α : Type} (xs ys : List α) (a b : α) : (xs ++ a :: ys).set xs.length b = xs ++ b :: ys := by
 simp [List.set_append]
theorem split_last {α : Type} (xs : List α) (h : 0 < xs.length) : ∃ ys y, xs = ys ++ [y] := by
 exact ⟨xs.dropLast, xs.getLast (List.length_pos_iff.1 h), (List.dropLast_concat_getLast _).symm⟩
end Go.Hw
namespace Go.Proofs.YtnnehiiblfmpnaaGreatDoor
open Go.Hw Go.Lib
set_option maxHeartbeats 4000000
set_option maxRecDepth 100000
section
variable {w0 w : World} {l : List HProp}
instance undA65 : Und Tryz.prog 310 (.array 65 5) := ⟨Tryz.underlying310⟩
theorem mb_TrailingZeros (hT : Tz w0) {x : Nat} (hx : x < 18446744073709551616) (h : St w0 l w) : Ret Tryz.prog 215 [.int .u64 x] w fun v w' => v = .int .i64 (tz x) ∧ St w0 l w' := by
 refine enter Tryz.func215 rfl Tryz.results215 Tryz.ntmps215 rfl ?_
 refine c_seq (c_region ?_)
 refine r_v (q_assignI rfl) rfl ?_
 refine r_nil ?_
 refine c_seq (c_false rfl (c_skip ?_))
 refine c_seq (c_region ?_)
 refine r_v (q_moveI rfl) rfl ?_
 refine r_c rfl (x_call rfl (mb_TrailingZeros64 hT hx h) ?_)
 rintro _ w ⟨rfl, h⟩
 refine r_v (q_assignI rfl) rfl ?_
 exact r_nil (c_ret (bq1 ⟨rfl, h⟩))
theorem sc_isPowerOfTwo16 (h : St w0 l w) : Ret Tryz.prog 214 [.int .i64 16] w fun v w' => v = .bool true ∧ St w0 l w' := by
 refine enter Tryz.func214 rfl Tryz.results214 Tryz.ntmps214 rfl ?_
 refine c_seq (c_region ?_)
 refine r_v (q_assignB rfl) rfl ?_
 refine r_nil ?_
 refine c_seq (c_region ?_)
 refine r_v (q_moveI rfl) rfl ?_; refine r_v (q_moveI rfl) rfl ?_; refine r_v (q_sub rfl rfl) rfl ?_; refine r_v (q_and rfl rfl) rfl ?_; refine r_v (q_eql rfl rfl) rfl ?_; refine r_v (q_assignB rfl) rfl ?_
 exact r_nil (c_ret (bq1 ⟨rfl, h⟩))
theorem sc_formatBits16 (hT : Tz w0) {u : Nat} (hu : u < 18446744073709551616) (h : St w0 l w) : Ret Tryz.prog 173 [.slice none 0 0, .int .u64 u, .int .i64 16, .bool false, .bool false] w
  fun v w' => v = .tuple [.slice none 0 0, .string (strB (hexS u))].toArray ∧ St w0 l w' := by
 have hlen := hexS_len u 16 (by decide) (by exact hu)
 refine enter Tryz.func173 rfl Tryz.results173 Tryz.ntmps173 rfl ?_
 refine c_seq (c_region ?_)
 refine r_v (q_assignS rfl) rfl ?_; refine r_v (q_assignZ rfl) rfl ?_
 refine r_nil ?_
 refine c_seq (c_seq (c_region ?_))
 refine r_v (q_moveI rfl) rfl ?_; refine r_v (q_lss rfl rfl) rfl ?_; refine r_v (q_moveB rfl) rfl ?_; refine r_gd rfl rfl ?_; refine r_v (q_moveI rfl) rfl ?_; refine r_gd rfl rfl ?_; refine r_v (q_eql rfl rfl) rfl ?_; refine r_v (q_pick0 rfl rfl rfl) rfl ?_; refine r_v (q_moveB rfl) rfl ?_; refine r_gd rfl rfl ?_; refine r_v (q_moveI rfl) rfl ?_; refine r_gd rfl rfl ?_; refine r_v (q_gtr rfl rfl) rfl ?_; refine r_v (q_pick0 rfl rfl rfl) rfl ?_
 refine r_nil (c_false rfl (c_skip ?_))
 refine c_seq (c_region ?_)
 refine r_c rfl (x_alloc h fun b w h => ?_)
 refine r_nil ?_
 refine c_seq (c_region ?_)
 refine r_v (q_assignI rfl) rfl ?_
 refine r_nil ?_
 refine c_seq (c_seq (c_region ?_))
 refine r_v (q_moveB rfl) rfl ?_
 refine r_nil (c_false rfl (c_skip ?_))
 refine c_seq (c_seq (c_region ?_))
 refine r_v (q_moveI rfl) rfl ?_
 refine r_c rfl (x_call rfl (sc_isPowerOfTwo16 h) ?_)
 clear h
 rintro _ w ⟨rfl, h⟩
 refine r_nil (c_true rfl ?_)
 refine c_seq (c_region ?_)
 refine r_v (q_moveI rfl) rfl ?_; refine r_v (q_conv rfl) rfl ?_
 refine r_is (.int .u64 ((16 : Nat) : Int)) rfl ?_
 refine r_c rfl (x_call rfl (mb_TrailingZeros hT (x := 16) (by decide) h) ?_)
 clear h
 rintro _ w ⟨rfl, h⟩
 refine r_v (q_is (v' := .int .u64 4) (q_conv rfl) rfl) rfl ?_
 refine r_v (q_assignI rfl) rfl ?_
 refine r_nil ?_
 refine c_seq (c_region ?_)
 refine r_v (q_moveI rfl) rfl ?_; refine r_v (q_conv rfl) rfl ?_; refine r_v (q_assignI rfl) rfl ?_
 refine r_nil ?_
 refine c_seq (c_region ?_)
 refine r_v (q_moveI rfl) rfl ?_; refine r_v (q_conv rfl) rfl ?_; refine r_v (q_sub rfl rfl) rfl ?_; refine r_v (q_assignI rfl) rfl ?_
 refine r_nil ?_
 refine c_seq (c_block ?_)
 refine c_loop (Γ := (Nat × List Value) × List UInt8) (fun k => [(0, .slice none 0 0), (1, .int .u64 k.1.1), (3, .bool false), (4, .bool false), (10, .slice none 0 0), (11, .string (strB [])), (12, .pointer (some ⟨b, 0, none⟩)), (13, .int .i64 k.1.2.length), (14, .int .u64 4), (15, .int .u64 16), (16, .int .u64 15)])
  (fun k w => k.1.1 < 18446744073709551616 ∧ k.1.2.length + k.2.length = 65 ∧ hexS u = hexS k.1.1 ++ k.2 ∧ St w0 (pt b (.cells (k.1.2 ++ bytesV k.2).toArray 310 (0, 0)) :: l) w) (fun k => k.1.1) ((u, List.replicate 65 (.int .u8 0)), []) ⟨rfl, rfl, rfl, rfl, rfl, rfl, rfl, rfl, rfl, rfl, rfl, trivial⟩ ⟨hu, rfl, by simp, h⟩ ?_
 clear h
 rintro ⟨⟨n, xs⟩, s⟩ w e ⟨hn, hl, hh, h⟩
 dsimp only at hn hl hh h ⊢
 have hs1 : 1 ≤ (hexS n).length := List.length_pos_iff.2 (hexS_ne n)
 have hs2 : s.length ≤ 15 := by rw [hh, List.length_append] at hlen; omega
 obtain ⟨ys, y, rfl⟩ := split_last xs (by omega)
 rw [List.length_append, List.length_singleton] at hl
 refine c_seq (c_seq (c_region ?_))
 refine r_v (q_moveI rfl) rfl ?_; refine r_v (q_moveI rfl) rfl ?_; refine r_v (q_geq rfl rfl) rfl ?_
 by_cases h0 : 16 ≤ n
 ·refine r_is (.bool true) (by congr 1; rw [decide_eq_true_eq]; omega) ?_
  refine r_nil (c_true rfl (c_skip ?_))
  refine c_block ?_
  refine c_seq (c_region ?_)
  refine r_v (q_moveI rfl) rfl ?_; refine r_v (q_sub rfl rfl) rfl ?_
  refine r_is (.int .i64 ys.length) (by rw [List.length_append, wrap64 (by simp only [List.length_singleton]; omega) (by simp only [List.length_singleton]; omega)]; congr 1; simp only [List.length_singleton]; omega) ?_
  refine r_v (q_assignI rfl) rfl ?_
  refine r_nil ?_
  refine c_seq (c_region ?_)
  refine r_v (q_moveI rfl) rfl ?_; refine r_v (q_moveI rfl) rfl ?_; refine r_v (q_moveI rfl) rfl ?_
  refine r_v (q_is (v' := .int .u64 ((n % 16 : Nat) : Int)) (q_and rfl rfl) (by rw [show bitOp .and .u64 (n : Int) 15 = ((n &&& 15 : Nat) : Int) from (bit_u64 hn (by decide)).1, land15])) rfl ?_
  refine r_v (q_bidx (l := digC36) (i := n % 16) rfl rfl (digC36_get _ (Nat.mod_lt _ (by decide)))) rfl ?_
  refine r_v (q_aidx (j := ys.length) (o' := ys.length) rfl rfl rfl (by omega) (by simp)) rfl ?_
  refine r_c rfl (x_store (v := .int .u8 ((hexDig (n % 16)).toNat : Int)) 0 h rfl rfl rfl (by simp [Nat.blt_eq]) rfl rfl fun w h => ?_)
  refine r_nil ?_
  refine c_region ?_
  refine r_v (q_moveI rfl) rfl ?_; refine r_v (q_moveI rfl) rfl ?_
  refine r_v (q_is (v' := .int .u64 ((n / 16 : Nat) : Int)) (q_shr rfl rfl (by omega)) (congrArg (Value.int .u64) (fdiv_nat n 4 64 (by decide)))) rfl ?_
  refine r_v (q_assignI rfl) rfl ?_
  refine r_nil ⟨((n / 16, ys), hexDig (n % 16) :: s), ⟨rfl, rfl, rfl, rfl, rfl, rfl, rfl, rfl, rfl, rfl, rfl, trivial⟩, ⟨by dsimp only; omega, by simp; omega, ?_, ?_⟩, by dsimp only; omega⟩
  ·dsimp only
   rw [hh, hexS_rec n, if_neg (by omega), List.append_assoc]; rfl
  ·dsimp only
   rw [List.append_assoc, List.singleton_append, set_mid] at h
   exact h
 ·refine r_is (.bool false) (by congr 1; rw [decide_eq_false_iff_not]; omega) ?_
  refine r_nil (c_false rfl (c_exit ?_))
  refine c_seq (c_region ?_)
  refine r_v (q_moveI rfl) rfl ?_; refine r_v (q_sub rfl rfl) rfl ?_
  refine r_is (.int .i64 ys.length) (by rw [List.length_append, wrap64 (by simp only [List.length_singleton]; omega) (by simp only [List.length_singleton]; omega)]; congr 1; simp only [List.length_singleton]; omega) ?_
  refine r_v (q_assignI rfl) rfl ?_
  refine r_nil ?_
  refine c_region ?_
  refine r_v (q_moveI rfl) rfl ?_; refine r_v (q_moveI rfl) rfl ?_
  refine r_v (q_bidx (l := digC36) (i := n) rfl rfl (digC36_get _ (by omega))) rfl ?_
  refine r_v (q_aidx (j := ys.length) (o' := ys.length) rfl rfl rfl (by omega) (by simp)) rfl ?_
  refine r_c rfl (x_store (v := .int .u8 ((hexDig n).toNat : Int)) 0 h rfl rfl rfl (by simp [Nat.blt_eq]) rfl rfl fun w h => ?_)
  rw [List.append_assoc, List.singleton_append, set_mid] at h
  have e1 : hexS u = hexDig n :: s := by rw [hh, hexS_rec n, if_pos (by omega)]; rfl
  refine r_nil ?_
  refine c_seq (c_seq (c_region ?_))
  refine r_v (q_moveB rfl) rfl ?_
  refine r_nil (c_false rfl (c_skip ?_))
  refine c_seq (c_seq (c_region ?_))
  refine r_v (q_moveB rfl) rfl ?_
  refine r_nil (c_false rfl (c_skip ?_))
  refine c_seq (c_region ?_)
  refine r_v (q_moveI rfl) rfl ?_
  refine r_v (q_atail (i := ys.length) rfl rfl (by omega)) rfl ?_
  refine r_v (q_btos (bs := hexDig n :: s) rfl ?_) rfl ?_
  ·refine ⟨by rw [bytesV_len, List.length_cons]; omega, .inr ⟨b, ys.length * 1, rfl, at_of (h.b 0 rfl) ?_⟩⟩
   have e2 : Value.int .u8 ((hexDig n).toNat : Int) :: bytesV s = bytesV (hexDig n :: s) := rfl
   rw [e2, Nat.mul_one, List.drop_left, List.take_length]
  refine r_v (q_assignZ rfl) rfl ?_
  refine r_nil (c_ret (bq2 ⟨?_, h.drop⟩))
  rw [e1]; rfl
theorem sc_FormatUint16 (hT : Tz w0) {u : Nat} (hu : u < 18446744073709551616) (h : St w0 l w) : Ret Tryz.prog 127 [.int .u64 u, .int .i64 16] w fun v w' => v = .string (strB (hexS u)) ∧ St w0 l w' := by
 refine enter Tryz.func127 rfl Tryz.results127 Tryz.ntmps127 rfl ?_
 refine c_seq (c_region ?_)
 refine r_v (q_assignZ rfl) rfl ?_
 refine r_nil ?_
 refine c_seq (c_seq (c_region ?_))
 refine r_v (q_moveI rfl) rfl ?_; refine r_v (q_eql rfl rfl) rfl ?_
 refine r_nil (c_false rfl (c_skip ?_))
 refine c_seq (c_region ?_)
 refine r_v (q_moveI rfl) rfl ?_; refine r_v (q_moveI rfl) rfl ?_
 refine r_c rfl (x_call rfl (sc_formatBits16 hT hu h) ?_)
 rintro _ w ⟨rfl, h⟩
 refine r_v (q_moveT rfl) rfl ?_; refine r_v (q_ext rfl rfl) rfl ?_; refine r_v (q_ext rfl rfl) rfl ?_; refine r_v (q_assignS rfl) rfl ?_; refine r_v (q_assignZ rfl) rfl ?_
 refine r_nil ?_
 refine c_seq (c_region ?_)
 refine r_v (q_moveZ rfl) rfl ?_; refine r_v (q_assignZ rfl) rfl ?_
 exact r_nil (c_ret (bq1 ⟨rfl, h⟩))
theorem strconv_FormatUint16 (hT : Tz w0) {u : Nat} (hu : u < 18446744073709551616) (h : St w0 l w) : Ret Tryz.prog 86 [.int .u64 u, .int .i64 16] w fun v w' => v = .string (strB (hexS u)) ∧ St w0 l w' := by
 refine enter Tryz.func86 rfl Tryz.results86 Tryz.ntmps86 rfl ?_
 refine c_seq (c_region ?_)
 refine r_v (q_assignZ rfl) rfl ?_
 refine r_nil ?_
 refine c_seq (c_region ?_)
 refine r_v (q_moveI rfl) rfl ?_; refine r_v (q_moveI rfl) rfl ?_
 refine r_c rfl (x_call rfl (sc_FormatUint16 hT hu h) ?_)
 rintro _ w ⟨rfl, h⟩
 refine r_v (q_assignZ rfl) rfl ?_
 exact r_nil (c_ret (bq1 ⟨rfl, h⟩))
end
end Go.Proofs.YtnnehiiblfmpnaaGreatDoor

namespace Go.Proofs
open Go.Shelf
def Tryz.laysM171_ren : Go.Shelf.Ren := ⟨fun | 171 => 83 | 243 => 124 | 246 => 126 | 283 => 170 | 284 => 171 | 285 => 172 | 286 => 173 | 129 => 212 | 317 => 211 | 318 => 213 | 319 => 214 | 320 => 215 | 337 => 240 | 338 => 241 | n => n, fun | 3 => 3 | 9 => 9 | 2 => 2 | 4 => 4 | 171 => 277 | 0 => 0 | 53 => 30 | 37 => 38 | 5 => 5 | 173 => 280 | 212 => 309 | 51 => 111 | 20 => 20 | 213 => 310 | 46 => 70 | 232 => 354 | 233 => 355 | n => n, fun | 17 => 0 | 18 => 6 | 19 => 7 | n => n⟩
theorem Tryz.laysM171 : Go.Proofs.LaysM.n171 Tryz.prog Tryz.laysM171_ren := {
 mixed := by kernel_rfl
 f129 := Tryz.func212.trans (congrArg some (by kernel_rfl))
 f171 := Tryz.func83.trans (congrArg some (by kernel_rfl))
 f243 := Tryz.func124.trans (congrArg some (by kernel_rfl))
 f246 := Tryz.func126.trans (congrArg some (by kernel_rfl))
 f283 := Tryz.func170.trans (congrArg some (by kernel_rfl))
 f284 := Tryz.func171.trans (congrArg some (by kernel_rfl))
 f285 := Tryz.func172.trans (congrArg some (by kernel_rfl))
 f286 := Tryz.func173.trans (congrArg some (by kernel_rfl))
 f317 := Tryz.func211.trans (congrArg some (by kernel_rfl))
 f318 := Tryz.func213.trans (congrArg some (by kernel_rfl))
 f319 := Tryz.func214.trans (congrArg some (by kernel_rfl))
 f320 := Tryz.func215.trans (congrArg some (by kernel_rfl))
 f337 := Tryz.func240.trans (congrArg some (by kernel_rfl))
 f338 := Tryz.func241.trans (congrArg some (by kernel_rfl))
 t0 := Tryz.underlying0
 a0 := Tryz.isAgg0
 z0 := Tryz.sizeOf0
 v0 := Tryz.zeroValue0
 t2 := Tryz.underlying2
 a2 := Tryz.isAgg2
 z2 := Tryz.sizeOf2
 v2 := Tryz.zeroValue2
 t3 := Tryz.underlying3
 a3 := Tryz.isAgg3
 z3 := Tryz.sizeOf3
 v3 := Tryz.zeroValue3
 t4 := Tryz.underlying4
 a4 := Tryz.isAgg4
 z4 := Tryz.sizeOf4
 v4 := Tryz.zeroValue4
 t5 := Tryz.underlying5
 a5 := Tryz.isAgg5
 z5 := Tryz.sizeOf5
 v5 := Tryz.zeroValue5
 t9 := Tryz.underlying9
 a9 := Tryz.isAgg9
 z9 := Tryz.sizeOf9
 v9 := Tryz.zeroValue9
 t20 := Tryz.underlying20
 a20 := Tryz.isAgg20
 z20 := Tryz.sizeOf20
 v20 := Tryz.zeroValue20
 t37 := Tryz.underlying38
 a37 := Tryz.isAgg38
 z37 := Tryz.sizeOf38
 v37 := Tryz.zeroValue38
 t46 := Tryz.underlying70
 a46 := Tryz.isAgg70
 z46 := Tryz.sizeOf70
 v46 := Tryz.zeroValue70
 t51 := Tryz.underlying111
 a51 := Tryz.isAgg111
 z51 := Tryz.sizeOf111
 v51 := Tryz.zeroValue111
 t53 := Tryz.underlying30
 a53 := Tryz.isAgg30
 z53 := Tryz.sizeOf30
 v53 := Tryz.zeroValue30
 t171 := Tryz.underlying277
 a171 := Tryz.isAgg277
 z171 := Tryz.sizeOf277
 v171 := Tryz.zeroValue277
 t173 := Tryz.underlying280
 a173 := Tryz.isAgg280
 z173 := Tryz.sizeOf280
 v173 := Tryz.zeroValue280
 t212 := Tryz.underlying309
 a212 := Tryz.isAgg309
 z212 := Tryz.sizeOf309
 v212 := Tryz.zeroValue309
 t213 := Tryz.underlying310
 a213 := Tryz.isAgg310
 z213 := Tryz.sizeOf310
 t232 := Tryz.underlying354
 a232 := Tryz.isAgg354
 z232 := Tryz.sizeOf354
 v232 := Tryz.zeroValue354
 t233 := Tryz.underlying355
 a233 := Tryz.isAgg355
 z233 := Tryz.sizeOf355
 v233 := Tryz.zeroValue355
 g17 := by kernel_rfl
 g18 := by kernel_rfl
 g19 := by kernel_rfl
 i0 := by kernel_rfl
 i2 := by kernel_rfl
 i3 := by kernel_rfl
 i4 := by kernel_rfl
 i5 := by kernel_rfl
 i9 := by kernel_rfl
 i20 := by kernel_rfl
 i37 := by kernel_rfl
 i46 := by kernel_rfl
 i51 := by kernel_rfl
 i53 := by kernel_rfl
 i171 := by kernel_rfl
 i173 := by kernel_rfl
 i212 := by kernel_rfl
 i232 := by kernel_rfl
 i233 := by kernel_rfl
 m17 := by kernel_rfl
 m18 := by kernel_rfl
 m19 := by kernel_rfl }
open Go.RowKit Go.Sort Go.Lib in
theorem Tryz.strconv_Itoa (n : Int) (h0 : -9223372036854775808 ≤ n) (h1 : n ≤ 9223372036854775807) (w : World) (htab : Lib.TabIs Tryz.prog w "internal/strconv.uint64pow10" .u64 Lib.pow10Tab) :
  Calls Tryz.prog 83 #[.int .i64 n] w fun e w' => e = .returned (.string ⟨(Lib.itoa n).toArray⟩) ∧ ∃ k os, w' = grow (w.drewN k) os := Any.strconv_Itoa Tryz.laysM171 n h0 h1 w htab
def Tryz.laysM173_ren : Go.Shelf.Ren := ⟨fun | 173 => 85 | 246 => 126 | 283 => 170 | 284 => 171 | 285 => 172 | 286 => 173 | 129 => 212 | 317 => 211 | 318 => 213 | 319 => 214 | 320 => 215 | 337 => 240 | 338 => 241 | n => n, fun | 2 => 2 | 3 => 3 | 9 => 9 | 4 => 4 | 171 => 277 | 0 => 0 | 53 => 30 | 37 => 38 | 5 => 5 | 173 => 280 | 212 => 309 | 51 => 111 | 20 => 20 | 213 => 310 | 46 => 70 | 232 => 354 | 233 => 355 | n => n, fun | 17 => 0 | 18 => 6 | 19 => 7 | n => n⟩
theorem Tryz.laysM173 : Go.Proofs.LaysM.n173 Tryz.prog Tryz.laysM173_ren := {
 mixed := by kernel_rfl
 f129 := Tryz.func212.trans (congrArg some (by kernel_rfl))
 f173 := Tryz.func85.trans (congrArg some (by kernel_rfl))
 f246 := Tryz.func126.trans (congrArg some (by kernel_rfl))
 f283 := Tryz.func170.trans (congrArg some (by kernel_rfl))
 f284 := Tryz.func171.trans (congrArg some (by kernel_rfl))
 f285 := Tryz.func172.trans (congrArg some (by kernel_rfl))
 f286 := Tryz.func173.trans (congrArg some (by kernel_rfl))
 f317 := Tryz.func211.trans (congrArg some (by kernel_rfl))
 f318 := Tryz.func213.trans (congrArg some (by kernel_rfl))
 f319 := Tryz.func214.trans (congrArg some (by kernel_rfl))
 f320 := Tryz.func215.trans (congrArg some (by kernel_rfl))
 f337 := Tryz.func240.trans (congrArg some (by kernel_rfl))
 f338 := Tryz.func241.trans (congrArg some (by kernel_rfl))
 t0 := Tryz.underlying0
 a0 := Tryz.isAgg0
 z0 := Tryz.sizeOf0
 v0 := Tryz.zeroValue0
 t2 := Tryz.underlying2
 a2 := Tryz.isAgg2
 z2 := Tryz.sizeOf2
 v2 := Tryz.zeroValue2
 t3 := Tryz.underlying3
 a3 := Tryz.isAgg3
 z3 := Tryz.sizeOf3
 v3 := Tryz.zeroValue3
 t4 := Tryz.underlying4
 a4 := Tryz.isAgg4
 z4 := Tryz.sizeOf4
 v4 := Tryz.zeroValue4
 t5 := Tryz.underlying5
 a5 := Tryz.isAgg5
 z5 := Tryz.sizeOf5
 v5 := Tryz.zeroValue5
 t9 := Tryz.underlying9
 a9 := Tryz.isAgg9
 z9 := Tryz.sizeOf9
 v9 := Tryz.zeroValue9
 t20 := Tryz.underlying20
 a20 := Tryz.isAgg20
 z20 := Tryz.sizeOf20
 v20 := Tryz.zeroValue20
 t37 := Tryz.underlying38
 a37 := Tryz.isAgg38
 z37 := Tryz.sizeOf38
 v37 := Tryz.zeroValue38
 t46 := Tryz.underlying70
 a46 := Tryz.isAgg70
 z46 := Tryz.sizeOf70
 v46 := Tryz.zeroValue70
 t51 := Tryz.underlying111
 a51 := Tryz.isAgg111
 z51 := Tryz.sizeOf111
 v51 := Tryz.zeroValue111
 t53 := Tryz.underlying30
 a53 := Tryz.isAgg30
 z53 := Tryz.sizeOf30
 v53 := Tryz.zeroValue30
 t171 := Tryz.underlying277
 a171 := Tryz.isAgg277
 z171 := Tryz.sizeOf277
 v171 := Tryz.zeroValue277
 t173 := Tryz.underlying280
 a173 := Tryz.isAgg280
 z173 := Tryz.sizeOf280
 v173 := Tryz.zeroValue280
 t212 := Tryz.underlying309
 a212 := Tryz.isAgg309
 z212 := Tryz.sizeOf309
 v212 := Tryz.zeroValue309
 t213 := Tryz.underlying310
 a213 := Tryz.isAgg310
 z213 := Tryz.sizeOf310
 t232 := Tryz.underlying354
 a232 := Tryz.isAgg354
 z232 := Tryz.sizeOf354
 v232 := Tryz.zeroValue354
 t233 := Tryz.underlying355
 a233 := Tryz.isAgg355
 z233 := Tryz.sizeOf355
 v233 := Tryz.zeroValue355
 g17 := by kernel_rfl
 g18 := by kernel_rfl
 g19 := by kernel_rfl
 i0 := by kernel_rfl
 i2 := by kernel_rfl
 i3 := by kernel_rfl
 i4 := by kernel_rfl
 i5 := by kernel_rfl
 i9 := by kernel_rfl
 i20 := by kernel_rfl
 i37 := by kernel_rfl
 i46 := by kernel_rfl
 i51 := by kernel_rfl
 i53 := by kernel_rfl
 i171 := by kernel_rfl
 i173 := by kernel_rfl
 i212 := by kernel_rfl
 i232 := by kernel_rfl
 i233 := by kernel_rfl
 m17 := by kernel_rfl
 m18 := by kernel_rfl
 m19 := by kernel_rfl }
open Go.RowKit Go.Sort Go.Lib in
theorem Tryz.strconv_FormatInt_10 (n : Int) (h0 : -9223372036854775808 ≤ n) (h1 : n ≤ 9223372036854775807) (w : World) (htab : Lib.TabIs Tryz.prog w "internal/strconv.uint64pow10" .u64 Lib.pow10Tab) :
  Calls Tryz.prog 85 #[.int .i64 n, .int .i64 10] w fun e w' => e = .returned (.string ⟨(Lib.itoa n).toArray⟩) ∧ ∃ k os, w' = grow (w.drewN k) os := Any.strconv_FormatInt_10 Tryz.laysM173 n h0 h1 w htab
def Tryz.lays247_ren : Go.Shelf.Ren := ⟨fun | 247 => 131 | 287 => 133 | 321 => 182 | 322 => 183 | n => n, fun | 9 => 9 | 3 => 3 | 2 => 2 | 75 => 93 | 4 => 4 | 167 => 286 | 5 => 5 | 53 => 30 | 175 => 182 | 46 => 70 | 37 => 38 | 0 => 0 | 21 => 21 | 80 => 98 | n => n, fun | n => n⟩
theorem Tryz.lays247 : Go.Proofs.Lays.n247 Tryz.prog Tryz.lays247_ren := {
 mixed := by kernel_rfl
 f247 := Tryz.func131.trans (congrArg some (by kernel_rfl))
 f287 := Tryz.func133.trans (congrArg some (by kernel_rfl))
 f321 := Tryz.func182.trans (congrArg some (by kernel_rfl))
 f322 := Tryz.func183.trans (congrArg some (by kernel_rfl))
 t0 := Tryz.underlying0
 a0 := Tryz.isAgg0
 z0 := Tryz.sizeOf0
 v0 := Tryz.zeroValue0
 t2 := Tryz.underlying2
 a2 := Tryz.isAgg2
 z2 := Tryz.sizeOf2
 v2 := Tryz.zeroValue2
 t3 := Tryz.underlying3
 a3 := Tryz.isAgg3
 z3 := Tryz.sizeOf3
 v3 := Tryz.zeroValue3
 t4 := Tryz.underlying4
 a4 := Tryz.isAgg4
 z4 := Tryz.sizeOf4
 v4 := Tryz.zeroValue4
 t5 := Tryz.underlying5
 a5 := Tryz.isAgg5
 z5 := Tryz.sizeOf5
 v5 := Tryz.zeroValue5
 t9 := Tryz.underlying9
 a9 := Tryz.isAgg9
 z9 := Tryz.sizeOf9
 v9 := Tryz.zeroValue9
 t21 := Tryz.underlying21
 a21 := Tryz.isAgg21
 z21 := Tryz.sizeOf21
 v21 := Tryz.zeroValue21
 t37 := Tryz.underlying38
 a37 := Tryz.isAgg38
 z37 := Tryz.sizeOf38
 v37 := Tryz.zeroValue38
 t46 := Tryz.underlying70
 a46 := Tryz.isAgg70
 z46 := Tryz.sizeOf70
 v46 := Tryz.zeroValue70
 t53 := Tryz.underlying30
 a53 := Tryz.isAgg30
 z53 := Tryz.sizeOf30
 v53 := Tryz.zeroValue30
 t75 := Tryz.underlying93
 a75 := Tryz.isAgg93
 z75 := Tryz.sizeOf93
 v75 := Tryz.zeroValue93
 t167 := Tryz.underlying286
 a167 := Tryz.isAgg286
 z167 := Tryz.sizeOf286
 v167 := Tryz.zeroValue286
 t175 := Tryz.underlying182
 a175 := Tryz.isAgg182
 z175 := Tryz.sizeOf182
 v175 := Tryz.zeroValue182 }
open Go.RowKit in
theorem Tryz.internal_strconv_ParseInt_empty (base bits : Int) (w : World) :
  Calls Tryz.prog 131 #[.string ⟨#[]⟩, .int .i64 base, .int .i64 bits] w fun e w' => e = .returned (.tuple #[.int .i64 0, (.iface 286 (.int .i64 2))]) ∧ w' = w := Any.internal_strconv_ParseInt_empty Tryz.lays247 base bits w
def Tryz.laysC245_ren : Go.Shelf.Ren := ⟨fun | 245 => 132 | 279 => 178 | 280 => 179 | 281 => 180 | 282 => 181 | 316 => 221 | 171 => 83 | 205 => 222 | 243 => 124 | 246 => 126 | 283 => 170 | 284 => 171 | 285 => 172 | 286 => 173 | 129 => 212 | 317 => 211 | 318 => 213 | 319 => 214 | 320 => 215 | 337 => 240 | 338 => 241 | n => n, fun | 9 => 9 | 3 => 3 | 75 => 93 | 167 => 286 | 4 => 4 | 168 => 287 | 210 => 314 | 37 => 38 | 0 => 0 | 127 => 178 | 145 => 334 | 143 => 332 | 2 => 2 | 171 => 277 | 53 => 30 | 5 => 5 | 173 => 280 | 212 => 309 | 51 => 111 | 20 => 20 | 213 => 310 | 46 => 70 | 232 => 354 | 233 => 355 | 80 => 98 | n => n, fun | 15 => 2 | 16 => 3 | 17 => 0 | 18 => 6 | 19 => 7 | n => n⟩
theorem Tryz.laysC245 : Go.Proofs.LaysC.n245 Tryz.prog Tryz.laysC245_ren := {
 mixed := by kernel_rfl
 f129 := Tryz.func212.trans (congrArg some (by kernel_rfl))
 f171 := Tryz.func83.trans (congrArg some (by kernel_rfl))
 f205 := Tryz.func222.trans (congrArg some (by kernel_rfl))
 f243 := Tryz.func124.trans (congrArg some (by kernel_rfl))
 f245 := Tryz.func132.trans (congrArg some (by kernel_rfl))
 f246 := Tryz.func126.trans (congrArg some (by kernel_rfl))
 f279 := Tryz.func178.trans (congrArg some (by kernel_rfl))
 f280 := Tryz.func179.trans (congrArg some (by kernel_rfl))
 f281 := Tryz.func180.trans (congrArg some (by kernel_rfl))
 f282 := Tryz.func181.trans (congrArg some (by kernel_rfl))
 f283 := Tryz.func170.trans (congrArg some (by kernel_rfl))
 f284 := Tryz.func171.trans (congrArg some (by kernel_rfl))
 f285 := Tryz.func172.trans (congrArg some (by kernel_rfl))
 f286 := Tryz.func173.trans (congrArg some (by kernel_rfl))
 f316 := Tryz.func221.trans (congrArg some (by kernel_rfl))
 f317 := Tryz.func211.trans (congrArg some (by kernel_rfl))
 f318 := Tryz.func213.trans (congrArg some (by kernel_rfl))
 f319 := Tryz.func214.trans (congrArg some (by kernel_rfl))
 f320 := Tryz.func215.trans (congrArg some (by kernel_rfl))
 f337 := Tryz.func240.trans (congrArg some (by kernel_rfl))
 f338 := Tryz.func241.trans (congrArg some (by kernel_rfl))
 t0 := Tryz.underlying0
 a0 := Tryz.isAgg0
 z0 := Tryz.sizeOf0
 v0 := Tryz.zeroValue0
 t2 := Tryz.underlying2
 a2 := Tryz.isAgg2
 z2 := Tryz.sizeOf2
 v2 := Tryz.zeroValue2
 t3 := Tryz.underlying3
 a3 := Tryz.isAgg3
 z3 := Tryz.sizeOf3
 v3 := Tryz.zeroValue3
 t4 := Tryz.underlying4
 a4 := Tryz.isAgg4
 z4 := Tryz.sizeOf4
 v4 := Tryz.zeroValue4
 t5 := Tryz.underlying5
 a5 := Tryz.isAgg5
 z5 := Tryz.sizeOf5
 v5 := Tryz.zeroValue5
 t9 := Tryz.underlying9
 a9 := Tryz.isAgg9
 z9 := Tryz.sizeOf9
 v9 := Tryz.zeroValue9
 t20 := Tryz.underlying20
 a20 := Tryz.isAgg20
 z20 := Tryz.sizeOf20
 v20 := Tryz.zeroValue20
 t37 := Tryz.underlying38
 a37 := Tryz.isAgg38
 z37 := Tryz.sizeOf38
 v37 := Tryz.zeroValue38
 t46 := Tryz.underlying70
 a46 := Tryz.isAgg70
 z46 := Tryz.sizeOf70
 v46 := Tryz.zeroValue70
 t51 := Tryz.underlying111
 a51 := Tryz.isAgg111
 z51 := Tryz.sizeOf111
 v51 := Tryz.zeroValue111
 t53 := Tryz.underlying30
 a53 := Tryz.isAgg30
 z53 := Tryz.sizeOf30
 v53 := Tryz.zeroValue30
 t75 := Tryz.underlying93
 a75 := Tryz.isAgg93
 z75 := Tryz.sizeOf93
 v75 := Tryz.zeroValue93
 t127 := Tryz.underlying178
 a127 := Tryz.isAgg178
 z127 := Tryz.sizeOf178
 v127 := Tryz.zeroValue178
 t143 := Tryz.underlying332
 a143 := Tryz.isAgg332
 z143 := Tryz.sizeOf332
 v143 := Tryz.zeroValue332
 t145 := Tryz.underlying334
 a145 := Tryz.isAgg334
 z145 := Tryz.sizeOf334
 v145 := Tryz.zeroValue334
 t167 := Tryz.underlying286
 a167 := Tryz.isAgg286
 z167 := Tryz.sizeOf286
 v167 := Tryz.zeroValue286
 t168 := Tryz.underlying287
 a168 := Tryz.isAgg287
 z168 := Tryz.sizeOf287
 v168 := Tryz.zeroValue287
 t171 := Tryz.underlying277
 a171 := Tryz.isAgg277
 z171 := Tryz.sizeOf277
 v171 := Tryz.zeroValue277
 t173 := Tryz.underlying280
 a173 := Tryz.isAgg280
 z173 := Tryz.sizeOf280
 v173 := Tryz.zeroValue280
 t210 := Tryz.underlying314
 a210 := Tryz.isAgg314
 z210 := Tryz.sizeOf314
 v210 := Tryz.zeroValue314
 t212 := Tryz.underlying309
 a212 := Tryz.isAgg309
 z212 := Tryz.sizeOf309
 v212 := Tryz.zeroValue309
 t213 := Tryz.underlying310
 a213 := Tryz.isAgg310
 z213 := Tryz.sizeOf310
 t232 := Tryz.underlying354
 a232 := Tryz.isAgg354
 z232 := Tryz.sizeOf354
 v232 := Tryz.zeroValue354
 t233 := Tryz.underlying355
 a233 := Tryz.isAgg355
 z233 := Tryz.sizeOf355
 v233 := Tryz.zeroValue355
 g15 := by kernel_rfl
 g16 := by kernel_rfl
 g17 := by kernel_rfl
 g18 := by kernel_rfl
 g19 := by kernel_rfl
 t80 := Tryz.underlying98
 a80 := Tryz.isAgg98
 z80 := Tryz.sizeOf98
 v80 := Tryz.zeroValue98
 i0 := by kernel_rfl
 i2 := by kernel_rfl
 i3 := by kernel_rfl
 i4 := by kernel_rfl
 i5 := by kernel_rfl
 i9 := by kernel_rfl
 i20 := by kernel_rfl
 i37 := by kernel_rfl
 i46 := by kernel_rfl
 i51 := by kernel_rfl
 i53 := by kernel_rfl
 i75 := by kernel_rfl
 i80 := by kernel_rfl
 i127 := by kernel_rfl
 i143 := by kernel_rfl
 i145 := by kernel_rfl
 i167 := by kernel_rfl
 i168 := by kernel_rfl
 i171 := by kernel_rfl
 i173 := by kernel_rfl
 i210 := by kernel_rfl
 i212 := by kernel_rfl
 i232 := by kernel_rfl
 i233 := by kernel_rfl
 m15 := by kernel_rfl
 m16 := by kernel_rfl
 m17 := by kernel_rfl
 m18 := by kernel_rfl
 m19 := by kernel_rfl
 c0 := by kernel_rfl
 c2 := by kernel_rfl
 c3 := by kernel_rfl
 c4 := by kernel_rfl
 c5 := by kernel_rfl
 c9 := by kernel_rfl
 c20 := by kernel_rfl
 c37 := by kernel_rfl
 c46 := by kernel_rfl
 c51 := by kernel_rfl
 c53 := by kernel_rfl
 c75 := by kernel_rfl
 c80 := by kernel_rfl
 c127 := by kernel_rfl
 c143 := by kernel_rfl
 c145 := by kernel_rfl
 c167 := by kernel_rfl
 c168 := by kernel_rfl
 c171 := by kernel_rfl
 c173 := by kernel_rfl
 c210 := by kernel_rfl
 c212 := by kernel_rfl
 c213 := by kernel_rfl
 c232 := by kernel_rfl
 c233 := by kernel_rfl }
open Go.RowKit in
theorem Tryz.strconv_toError_syntax (fn s : ByteArray) (base bits : Int) (ev : Value) (w : World) (hlim : s.size ≤ 281474976710656) (hv : w.cell? ⟨2, 0, none⟩ = some ev) (hev : ev = .nilIface ∨ ∃ te pe, ev = .iface te pe) :
  Calls Tryz.prog 132 #[.string fn, .string s, .int .i64 base, .int .i64 bits, .iface 286 (.int .i64 2)] w fun e w' => ∃ N, e = .returned (.iface 287 (.pointer (some ⟨N, 0, none⟩))) ∧ w.heap.size ≤ N ∧ w'.heap[N]? = some (.cells #[.string fn, .string s, ev] 314 (0, 0)) ∧ Below w.heap.size w w' := Any.strconv_toError_syntax Tryz.laysC245 fn s base bits ev w hlim hv hev
def Tryz.lays321_ren : Go.Shelf.Ren := ⟨fun | 321 => 182 | n => n, fun | 5 => 5 | n => n, fun | n => n⟩
theorem Tryz.lays321 : Go.Proofs.Lays.n321 Tryz.prog Tryz.lays321_ren := {
 mixed := by kernel_rfl
 f321 := Tryz.func182.trans (congrArg some (by kernel_rfl))
 t5 := Tryz.underlying5
 a5 := Tryz.isAgg5
 z5 := Tryz.sizeOf5
 v5 := Tryz.zeroValue5 }
open Go.RowKit in
theorem Tryz.internal_strconv_lower (c : Int) (w : World) :
  Calls Tryz.prog 182 #[.int .u8 c] w fun e w' => e = .returned (.int .u8 (bits .or .u8 c 32)) ∧ w' = w := Any.internal_strconv_lower Tryz.lays321 c w
def Tryz.lays287_ren : Go.Shelf.Ren := ⟨fun | 287 => 133 | 321 => 182 | 322 => 183 | n => n, fun | 9 => 9 | 3 => 3 | 53 => 30 | 75 => 93 | 4 => 4 | 167 => 286 | 5 => 5 | 46 => 70 | 37 => 38 | 0 => 0 | 21 => 21 | 80 => 98 | n => n, fun | n => n⟩
theorem Tryz.lays287 : Go.Proofs.Lays.n287 Tryz.prog Tryz.lays287_ren := {
 mixed := by kernel_rfl
 f287 := Tryz.func133.trans (congrArg some (by kernel_rfl))
 f321 := Tryz.func182.trans (congrArg some (by kernel_rfl))
 f322 := Tryz.func183.trans (congrArg some (by kernel_rfl))
 t0 := Tryz.underlying0
 a0 := Tryz.isAgg0
 z0 := Tryz.sizeOf0
 v0 := Tryz.zeroValue0
 t3 := Tryz.underlying3
 a3 := Tryz.isAgg3
 z3 := Tryz.sizeOf3
 v3 := Tryz.zeroValue3
 t4 := Tryz.underlying4
 a4 := Tryz.isAgg4
 z4 := Tryz.sizeOf4
 v4 := Tryz.zeroValue4
 t5 := Tryz.underlying5
 a5 := Tryz.isAgg5
 z5 := Tryz.sizeOf5
 v5 := Tryz.zeroValue5
 t9 := Tryz.underlying9
 a9 := Tryz.isAgg9
 z9 := Tryz.sizeOf9
 v9 := Tryz.zeroValue9
 t21 := Tryz.underlying21
 a21 := Tryz.isAgg21
 z21 := Tryz.sizeOf21
 v21 := Tryz.zeroValue21
 t37 := Tryz.underlying38
 a37 := Tryz.isAgg38
 z37 := Tryz.sizeOf38
 v37 := Tryz.zeroValue38
 t46 := Tryz.underlying70
 a46 := Tryz.isAgg70
 z46 := Tryz.sizeOf70
 v46 := Tryz.zeroValue70
 t53 := Tryz.underlying30
 a53 := Tryz.isAgg30
 z53 := Tryz.sizeOf30
 v53 := Tryz.zeroValue30
 t75 := Tryz.underlying93
 a75 := Tryz.isAgg93
 z75 := Tryz.sizeOf93
 v75 := Tryz.zeroValue93
 t167 := Tryz.underlying286
 a167 := Tryz.isAgg286
 z167 := Tryz.sizeOf286
 v167 := Tryz.zeroValue286 }
def Tryz.laysC247_ren : Go.Shelf.Ren := ⟨fun | 247 => 131 | 287 => 133 | 321 => 182 | 322 => 183 | n => n, fun | 9 => 9 | 3 => 3 | 2 => 2 | 75 => 93 | 4 => 4 | 167 => 286 | 5 => 5 | 53 => 30 | 175 => 182 | 46 => 70 | 37 => 38 | 0 => 0 | 21 => 21 | 80 => 98 | n => n, fun | n => n⟩
theorem Tryz.laysC247 : Go.Proofs.LaysC.n247 Tryz.prog Tryz.laysC247_ren := {
 mixed := by kernel_rfl
 f247 := Tryz.func131.trans (congrArg some (by kernel_rfl))
 f287 := Tryz.func133.trans (congrArg some (by kernel_rfl))
 f321 := Tryz.func182.trans (congrArg some (by kernel_rfl))
 f322 := Tryz.func183.trans (congrArg some (by kernel_rfl))
 t0 := Tryz.underlying0
 a0 := Tryz.isAgg0
 z0 := Tryz.sizeOf0
 v0 := Tryz.zeroValue0
 t2 := Tryz.underlying2
 a2 := Tryz.isAgg2
 z2 := Tryz.sizeOf2
 v2 := Tryz.zeroValue2
 t3 := Tryz.underlying3
 a3 := Tryz.isAgg3
 z3 := Tryz.sizeOf3
 v3 := Tryz.zeroValue3
 t4 := Tryz.underlying4
 a4 := Tryz.isAgg4
 z4 := Tryz.sizeOf4
 v4 := Tryz.zeroValue4
 t5 := Tryz.underlying5
 a5 := Tryz.isAgg5
 z5 := Tryz.sizeOf5
 v5 := Tryz.zeroValue5
 t9 := Tryz.underlying9
 a9 := Tryz.isAgg9
 z9 := Tryz.sizeOf9
 v9 := Tryz.zeroValue9
 t21 := Tryz.underlying21
 a21 := Tryz.isAgg21
 z21 := Tryz.sizeOf21
 v21 := Tryz.zeroValue21
 t37 := Tryz.underlying38
 a37 := Tryz.isAgg38
 z37 := Tryz.sizeOf38
 v37 := Tryz.zeroValue38
 t46 := Tryz.underlying70
 a46 := Tryz.isAgg70
 z46 := Tryz.sizeOf70
 v46 := Tryz.zeroValue70
 t53 := Tryz.underlying30
 a53 := Tryz.isAgg30
 z53 := Tryz.sizeOf30
 v53 := Tryz.zeroValue30
 t75 := Tryz.underlying93
 a75 := Tryz.isAgg93
 z75 := Tryz.sizeOf93
 v75 := Tryz.zeroValue93
 t167 := Tryz.underlying286
 a167 := Tryz.isAgg286
 z167 := Tryz.sizeOf286
 v167 := Tryz.zeroValue286
 t175 := Tryz.underlying182
 a175 := Tryz.isAgg182
 z175 := Tryz.sizeOf182
 v175 := Tryz.zeroValue182
 t80 := Tryz.underlying98
 a80 := Tryz.isAgg98
 z80 := Tryz.sizeOf98
 v80 := Tryz.zeroValue98
 i0 := by kernel_rfl
 i2 := by kernel_rfl
 i3 := by kernel_rfl
 i4 := by kernel_rfl
 i5 := by kernel_rfl
 i9 := by kernel_rfl
 i21 := by kernel_rfl
 i37 := by kernel_rfl
 i46 := by kernel_rfl
 i53 := by kernel_rfl
 i75 := by kernel_rfl
 i80 := by kernel_rfl
 i167 := by kernel_rfl
 i175 := by kernel_rfl
 c0 := by kernel_rfl
 c2 := by kernel_rfl
 c3 := by kernel_rfl
 c4 := by kernel_rfl
 c5 := by kernel_rfl
 c9 := by kernel_rfl
 c21 := by kernel_rfl
 c37 := by kernel_rfl
 c46 := by kernel_rfl
 c53 := by kernel_rfl
 c75 := by kernel_rfl
 c80 := by kernel_rfl
 c167 := by kernel_rfl
 c175 := by kernel_rfl }
open Go.RowKit in
theorem Tryz.strconv_toError_range (fn s : ByteArray) (base bits : Int) (ev : Value) (w : World) (hlim : s.size ≤ 281474976710656) (hv : w.cell? ⟨3, 0, none⟩ = some ev) (hev : ev = .nilIface ∨ ∃ te pe, ev = .iface te pe) :
  Calls Tryz.prog 132 #[.string fn, .string s, .int .i64 base, .int .i64 bits, .iface 286 (.int .i64 1)] w fun e w' => ∃ N, e = .returned (.iface 287 (.pointer (some ⟨N, 0, none⟩))) ∧ w.heap.size ≤ N ∧ w'.heap[N]? = some (.cells #[.string fn, .string s, ev] 314 (0, 0)) ∧ Below w.heap.size w w' := Any.strconv_toError_range Tryz.laysC245 fn s base bits ev w hlim hv hev
open Go.RowKit in
theorem Tryz.internal_strconv_ParseUint_empty (base bits : Int) (w : World) :
  Calls Tryz.prog 133 #[.string ⟨#[]⟩, .int .i64 base, .int .i64 bits] w fun e w' => e = .returned (.tuple #[.int .u64 0, .iface 286 (.int .i64 2)]) ∧ w' = w := Any.internal_strconv_ParseUint_empty Tryz.lays287 base bits w
open Go.RowKit in
theorem Tryz.internal_strconv_ParseInt_10_at64 (s : ByteArray) (hne : s.size ≠ 0) (hmax : s.size ≤ 9223372036854775806) (w : World) :
  Calls Tryz.prog 131 #[.string s, .int .i64 10, .int .i64 64] w fun e w' => e = .returned (Lib.intTuple 286 (Lib.intSat 64 s.data.toList) (Lib.parseIntB 64 s.data.toList)) ∧ (w' = w ∨ ∃ t, w' = Lib.bytesWorld w 5 t) := Any.internal_strconv_ParseInt_10_at64 Tryz.laysC247 s hne hmax w
def Tryz.lays146_ren : Go.Shelf.Ren := ⟨fun | 146 => 46 | 221 => 87 | 268 => 128 | 138 => 129 | 143 => 130 | 195 => 174 | 197 => 175 | 218 => 176 | 219 => 177 | 260 => 216 | 217 => 217 | 225 => 218 | 224 => 219 | 267 => 220 | 266 => 242 | 314 => 243 | n => n, fun | 9 => 9 | 31 => 100 | 3 => 3 | 4 => 4 | 0 => 0 | 105 => 283 | 21 => 21 | 5 => 5 | 46 => 70 | 119 => 326 | 139 => 329 | 138 => 328 | 146 => 330 | 51 => 111 | n => n, fun | 1 => 1 | 3 => 4 | 4 => 5 | n => n⟩
theorem Tryz.lays146 : Go.Proofs.Lays.n146 Tryz.prog Tryz.lays146_ren := {
 mixed := by kernel_rfl
 f138 := Tryz.func129.trans (congrArg some (by kernel_rfl))
 f143 := Tryz.func130.trans (congrArg some (by kernel_rfl))
 f146 := Tryz.func46.trans (congrArg some (by kernel_rfl))
 f195 := Tryz.func174.trans (congrArg some (by kernel_rfl))
 f197 := Tryz.func175.trans (congrArg some (by kernel_rfl))
 f217 := Tryz.func217.trans (congrArg some (by kernel_rfl))
 f218 := Tryz.func176.trans (congrArg some (by kernel_rfl))
 f219 := Tryz.func177.trans (congrArg some (by kernel_rfl))
 f221 := Tryz.func87.trans (congrArg some (by kernel_rfl))
 f224 := Tryz.func219.trans (congrArg some (by kernel_rfl))
 f225 := Tryz.func218.trans (congrArg some (by kernel_rfl))
 f260 := Tryz.func216.trans (congrArg some (by kernel_rfl))
 f266 := Tryz.func242.trans (congrArg some (by kernel_rfl))
 f267 := Tryz.func220.trans (congrArg some (by kernel_rfl))
 f268 := Tryz.func128.trans (congrArg some (by kernel_rfl))
 f314 := Tryz.func243.trans (congrArg some (by kernel_rfl))
 t0 := Tryz.underlying0
 a0 := Tryz.isAgg0
 z0 := Tryz.sizeOf0
 v0 := Tryz.zeroValue0
 t3 := Tryz.underlying3
 a3 := Tryz.isAgg3
 z3 := Tryz.sizeOf3
 v3 := Tryz.zeroValue3
 t4 := Tryz.underlying4
 a4 := Tryz.isAgg4
 z4 := Tryz.sizeOf4
 v4 := Tryz.zeroValue4
 t5 := Tryz.underlying5
 a5 := Tryz.isAgg5
 z5 := Tryz.sizeOf5
 v5 := Tryz.zeroValue5
 t9 := Tryz.underlying9
 a9 := Tryz.isAgg9
 z9 := Tryz.sizeOf9
 v9 := Tryz.zeroValue9
 t21 := Tryz.underlying21
 a21 := Tryz.isAgg21
 z21 := Tryz.sizeOf21
 v21 := Tryz.zeroValue21
 t31 := Tryz.underlying100
 a31 := Tryz.isAgg100
 z31 := Tryz.sizeOf100
 v31 := Tryz.zeroValue100
 t46 := Tryz.underlying70
 a46 := Tryz.isAgg70
 z46 := Tryz.sizeOf70
 v46 := Tryz.zeroValue70
 t51 := Tryz.underlying111
 a51 := Tryz.isAgg111
 z51 := Tryz.sizeOf111
 v51 := Tryz.zeroValue111
 t105 := Tryz.underlying283
 a105 := Tryz.isAgg283
 z105 := Tryz.sizeOf283
 v105 := Tryz.zeroValue283
 t119 := Tryz.underlying326
 a119 := Tryz.isAgg326
 z119 := Tryz.sizeOf326
 t138 := Tryz.underlying328
 a138 := Tryz.isAgg328
 z138 := Tryz.sizeOf328
 v138 := Tryz.zeroValue328
 t139 := Tryz.underlying329
 a139 := Tryz.isAgg329
 z139 := Tryz.sizeOf329
 v139 := Tryz.zeroValue329
 t146 := Tryz.underlying330
 a146 := Tryz.isAgg330
 z146 := Tryz.sizeOf330
 v146 := Tryz.zeroValue330
 g1 := by kernel_rfl
 g3 := by kernel_rfl
 g4 := by kernel_rfl }
open Go.RowKit Go.Lib in
theorem Tryz.strings_Split (s sep : ByteArray) (m : Int) (w : World) (hs : s.size < 4294967281) (hm : w.cell? ⟨1, 0, none⟩ = some (.int .i64 m)) (h1 : 1 ≤ sep.size) :
  Calls Tryz.prog 46 #[.string s, .string sep] w fun e w' =>
   e = .returned (.slice (some ⟨w.heap.size, 0, none⟩) (Lib.countB s sep + 1) (Lib.countB s sep + 1)) ∧ w' = w.alloc (.cells ((Lib.splitB sep 0 (Lib.countB s sep) s).map Value.string).toArray 9) := Any.strings_Split Tryz.lays146 (by kernel_rfl) s sep m w hs hm h1
end Go.Proofs

namespace Go.Hw
section
variable {w0 w : World} {l : List HProp}
theorem St.gro (h : St w0 l w) (k : Nat) (os : Array Obj) : St w0 l (Go.Sort.grow (w.drewN k) os) := by
 refine h.grow rfl rfl rfl ?_ fun j hj => ?_
 ·show w.heap.size ≤ (w.heap ++ os).size
  rw [Array.size_append]; omega
 ·show (w.heap ++ os)[j]? = _
  rw [Array.getElem?_append_left hj]
theorem Ret.of {P : Program} {f : FuncId} {vs : List Value} {Q : Ending → World → Prop} {φ : Value → World → Prop} (h : Calls P f vs.toArray w Q) (k : ∀ e w', Q e w' → ∃ v, e = .returned v ∧ φ v w') : Ret P f vs w φ := by
 unfold Ret
 exact Calls.mono h fun e w' hq => k e w' hq
end
end Go.Hw

namespace Go.Hw
open Go.Lib
section
variable {P : Program} {e : Env} {w : World} {d : Option Nat} {ty : TypeId} {pos : String} {af : Array Edge} {g : Option (Nat × Bool)}
theorem q_catB {t t2 : TypeId} {x y : Operand} {a b : List UInt8} (hx : ev e x = .string (strB a)) (hy : ev e y = .string (strB b)) (hn : a.length + b.length ≤ 9223372036854775807) : Qv P e ⟨d, .binOp .add t x y t2, ty, pos, af, g⟩ w (.string (strB (a ++ b))) := by
 rw [← strB_cat]
 exact q_cat hx hy (by rw [strB_size, strB_size]; exact hn)
end
theorem TabIs.keep {P : Program} {w0 w : World} {l : List HProp} {name : String} {k : IntKind} {zs : List Int} (h : St w0 l w) (ht : TabIs P w0 name k zs) : TabIs P w name k zs := by
 unfold TabIs World.var? at ht ⊢
 cases hg : P.globalNamed name with
 | none => rw [hg] at ht; cases ht
 | some g =>
  rw [hg] at ht
  simp only [Option.bind_some] at ht ⊢
  have hlt : g < w0.heap.size := by
   rcases Nat.lt_or_ge g w0.heap.size with h1 | h1
   ·exact h1
   ·rw [Array.getElem?_eq_none h1] at ht; cases ht
  rw [h.old g hlt]
  exact ht
theorem itoa_len {n : Int} (h : I64 n) : (itoa n).length ≤ 21 := itoa_length_le n h.1 (by have := h.2; omega)
def Opr.C (o : Opr) : List Value := [.int .i64 o.kind, .int .i64 o.series, .int .i64 o.iter, .int .i64 o.T, .int .u64 o.V, .int .i64 o.F, .int .i64 o.To, .int .i64 o.N]
end Go.Hw
namespace Go.Proofs.YtnnehiiblfmpnaaGreatDoor
open Go.Hw Go.Lib
set_option maxHeartbeats 4000000
set_option maxRecDepth 100000
structure Nm (W : World) : Prop where
 tz : Tz W
 tab : TabIs Tryz.prog W "internal/strconv.uint64pow10" .u64 pow10Tab
section
variable {w0 w : World} {l : List HProp}
theorem rept_num (hN : Nm w0) {n : Int} (hn : I64 n) (h : St w0 l w) : Ret Tryz.prog 41 [.int .i64 n] w fun v w' => v = .string (strB (itoa n)) ∧ St w0 l w' := by
 refine enter Tryz.func41 rfl Tryz.results41 Tryz.ntmps41 rfl ?_
 refine c_seq (c_region ?_)
 refine r_v (q_assignZ rfl) rfl ?_
 refine r_nil ?_
 refine c_seq (c_region ?_)
 refine r_v (q_moveI rfl) rfl ?_
 refine r_c rfl (x_call rfl (Ret.of (φ := fun v w' => v = .string (strB (itoa n)) ∧ St w0 l w') (Tryz.strconv_Itoa n hn.1 (by have := hn.2; omega) w (TabIs.keep h hN.tab)) fun e w' ⟨h1, k, os, h2⟩ => ⟨_, h1, rfl, h2 ▸ h.gro k os⟩) ?_)
 clear h
 rintro _ w ⟨rfl, h⟩
 refine r_v (q_assignZ rfl) rfl ?_
 exact r_nil (c_ret (bq1 ⟨rfl, h⟩))
theorem rept_time (hN : Nm w0) {n : Int} (hn : I64 n) (h : St w0 l w) : Ret Tryz.prog 43 [.int .i64 n] w fun v w' => v = .string (strB (itoa n)) ∧ St w0 l w' := by
 refine enter Tryz.func43 rfl Tryz.results43 Tryz.ntmps43 rfl ?_
 refine c_seq (c_region ?_)
 refine r_v (q_assignZ rfl) rfl ?_
 refine r_nil ?_
 refine c_seq (c_region ?_)
 refine r_v (q_moveI rfl) rfl ?_
 refine r_c rfl (x_call rfl (Ret.of (φ := fun v w' => v = .string (strB (itoa n)) ∧ St w0 l w') (Tryz.strconv_FormatInt_10 n hn.1 (by have := hn.2; omega) w (TabIs.keep h hN.tab)) fun e w' ⟨h1, k, os, h2⟩ => ⟨_, h1, rfl, h2 ▸ h.gro k os⟩) ?_)
 clear h
 rintro _ w ⟨rfl, h⟩
 refine r_v (q_assignZ rfl) rfl ?_
 exact r_nil (c_ret (bq1 ⟨rfl, h⟩))
theorem rept_value (hN : Nm w0) {u : Nat} (hu : u < 18446744073709551616) (h : St w0 l w) : Ret Tryz.prog 44 [.int .u64 u] w fun v w' => v = .string (strB (hexS u)) ∧ St w0 l w' := by
 refine enter Tryz.func44 rfl Tryz.results44 Tryz.ntmps44 rfl ?_
 refine c_seq (c_region ?_)
 refine r_v (q_assignZ rfl) rfl ?_
 refine r_nil ?_
 refine c_seq (c_region ?_)
 refine r_v (q_moveI rfl) rfl ?_
 refine r_c rfl (x_call rfl (strconv_FormatUint16 hN.tz hu h) ?_)
 clear h
 rintro _ w ⟨rfl, h⟩
 refine r_v (q_assignZ rfl) rfl ?_
 exact r_nil (c_ret (bq1 ⟨rfl, h⟩))

theorem rept_Op (hN : Nm w0) {o : Opr} (ho : o.Wf) (h : St w0 l w) : Ret Tryz.prog 14 [.agg o.C.toArray] w fun v w' => v = .string (strB (opS o)) ∧ St w0 l w' := by
 obtain ⟨i0, i1, i2, i3, i4, i5, i6, i7⟩ := ho
 have m1 := itoa_len i1
 have m2 := itoa_len i2
 have m3 := itoa_len i3
 have m4 := hexS_len o.V 16 (by decide) (by exact i4)
 have m5 := itoa_len i5
 have m6 := itoa_len i6
 have m7 := itoa_len i7
 refine enter Tryz.func14 rfl Tryz.results14 Tryz.ntmps14 rfl ?_
 refine c_seq (c_region ?_)
 refine r_c rfl (x_box h (show _ = Value.agg o.C.toArray from rfl) fun b w h => ?_)
 refine r_v (q_assignZ rfl) rfl ?_
 refine r_nil ?_
 refine c_seq (c_seq (c_region ?_))
 refine r_v (q_fa rfl) rfl ?_; refine r_v (q_load rfl (h.b 0) rfl) rfl ?_
 refine r_nil ?_
 refine c_block ?_
 refine c_seq (c_region ?_)
 refine r_v (q_eql rfl rfl) rfl ?_; refine r_v (q_assignB rfl) rfl ?_
 refine r_nil (c_cond (o.kind == 1) rfl (fun hk => ?_) (fun hk1 => ?_))
 ·have hk : o.kind = 1 := by simpa using hk
  refine c_seq (c_any none (fun w => St w0 _ w) (by kernel_rfl) (by kernel_rfl) h.drew fun w h => ?_)
  refine cur_pure rfl rfl rfl rfl (fun _ => h) (fun _ => flt_v rfl (q_fa rfl)) ?_; refine cur_float rfl rfl rfl rfl h (fun _ h => flt_v rfl (q_load rfl (h.b 0) rfl)) ?_; refine cur_skip ?_; refine cur_skip ?_; refine cur_skip ?_; refine cur_pure rfl rfl rfl rfl (fun _ => h) (fun _ => flt_v rfl (q_fa rfl)) ?_; refine cur_float rfl rfl rfl rfl h (fun _ h => flt_v rfl (q_load rfl (h.b 0) rfl)) ?_; refine cur_skip ?_; refine cur_skip ?_; refine cur_skip ?_; refine cur_pure rfl rfl rfl rfl (fun _ => h) (fun _ => flt_v rfl (q_fa rfl)) ?_; refine cur_float rfl rfl rfl rfl h (fun _ h => flt_v rfl (q_load rfl (h.b 0) rfl)) ?_; refine cur_skip ?_; refine cur_skip ?_; refine cur_skip ?_
  refine cur_one 2 rfl rfl rfl rfl (x_call rfl (rept_num hN i1 h) ?_)
  clear h
  rintro _ w ⟨rfl, h⟩
  refine ⟨fun _ => h, ?_⟩
  refine cur_pure rfl rfl rfl rfl (fun _ => h) (fun _ => flt_v rfl (q_catB rfl rfl (by simp only [List.length_append, List.length_cons, List.length_nil]; omega))) ?_
  refine cur_pure rfl rfl rfl rfl (fun _ => h) (fun _ => flt_v rfl (q_catB rfl rfl (by simp only [List.length_append, List.length_cons, List.length_nil]; omega))) ?_
  refine cur_skip ?_; refine cur_skip ?_; refine cur_skip ?_; refine cur_skip ?_; refine cur_skip ?_; refine cur_skip ?_
  refine cur_one 7 rfl rfl rfl rfl (x_call rfl (rept_time hN i3 h) ?_)
  clear h
  rintro _ w ⟨rfl, h⟩
  refine ⟨fun _ => h, ?_⟩
  refine cur_pure rfl rfl rfl rfl (fun _ => h) (fun _ => flt_v rfl (q_catB rfl rfl (by simp only [List.length_append, List.length_cons, List.length_nil]; omega))) ?_
  refine cur_pure rfl rfl rfl rfl (fun _ => h) (fun _ => flt_v rfl (q_catB rfl rfl (by simp only [List.length_append, List.length_cons, List.length_nil]; omega))) ?_
  refine cur_skip ?_; refine cur_skip ?_; refine cur_skip ?_
  refine cur_one 12 rfl rfl rfl rfl (x_call rfl (rept_value hN i4 h) ?_)
  clear h
  rintro _ w ⟨rfl, h⟩
  refine ⟨fun _ => h, ?_⟩
  refine cur_pure rfl rfl rfl rfl (fun _ => h) (fun _ => flt_v rfl (q_catB rfl rfl (by simp only [List.length_append, List.length_cons, List.length_nil]; omega))) ?_
  refine cur_pure rfl rfl rfl rfl (fun _ => h) (fun _ => flt_v rfl (q_assignZ rfl)) ?_
  refine cur_end (c_ret (bq1 ⟨congrArg (fun x => Value.string (strB x)) (by simp [opS, opW, hk, joinW, wAppend, wRead, wSeal, wDelete, wOpen, wNext, wClose]), h.drop⟩))
 have hk1 : ¬ o.kind = 1 := by simpa using hk1
 refine c_seq (c_region ?_)
 refine r_v (q_eql rfl rfl) rfl ?_; refine r_v (q_assignB rfl) rfl ?_
 refine r_nil (c_cond (o.kind == 2) rfl (fun hk => ?_) (fun hk2 => ?_))
 ·have hk : o.kind = 2 := by simpa using hk
  refine c_seq (c_any none (fun w => St w0 _ w) (by kernel_rfl) (by kernel_rfl) h.drew fun w h => ?_)
  refine cur_pure rfl rfl rfl rfl (fun _ => h) (fun _ => flt_v rfl (q_fa rfl)) ?_; refine cur_float rfl rfl rfl rfl h (fun _ h => flt_v rfl (q_load rfl (h.b 0) rfl)) ?_; refine cur_skip ?_; refine cur_skip ?_; refine cur_skip ?_; refine cur_pure rfl rfl rfl rfl (fun _ => h) (fun _ => flt_v rfl (q_fa rfl)) ?_; refine cur_float rfl rfl rfl rfl h (fun _ h => flt_v rfl (q_load rfl (h.b 0) rfl)) ?_; refine cur_skip ?_; refine cur_skip ?_; refine cur_skip ?_; refine cur_pure rfl rfl rfl rfl (fun _ => h) (fun _ => flt_v rfl (q_fa rfl)) ?_; refine cur_float rfl rfl rfl rfl h (fun _ h => flt_v rfl (q_load rfl (h.b 0) rfl)) ?_; refine cur_skip ?_; refine cur_skip ?_; refine cur_skip ?_
  refine cur_one 2 rfl rfl rfl rfl (x_call rfl (rept_num hN i1 h) ?_)
  clear h
  rintro _ w ⟨rfl, h⟩
  refine ⟨fun _ => h, ?_⟩
  refine cur_pure rfl rfl rfl rfl (fun _ => h) (fun _ => flt_v rfl (q_catB rfl rfl (by simp only [List.length_append, List.length_cons, List.length_nil]; omega))) ?_
  refine cur_pure rfl rfl rfl rfl (fun _ => h) (fun _ => flt_v rfl (q_catB rfl rfl (by simp only [List.length_append, List.length_cons, List.length_nil]; omega))) ?_
  refine cur_skip ?_; refine cur_skip ?_; refine cur_skip ?_; refine cur_skip ?_; refine cur_skip ?_; refine cur_skip ?_
  refine cur_one 7 rfl rfl rfl rfl (x_call rfl (rept_time hN i5 h) ?_)
  clear h
  rintro _ w ⟨rfl, h⟩
  refine ⟨fun _ => h, ?_⟩
  refine cur_pure rfl rfl rfl rfl (fun _ => h) (fun _ => flt_v rfl (q_catB rfl rfl (by simp only [List.length_append, List.length_cons, List.length_nil]; omega))) ?_
  refine cur_pure rfl rfl rfl rfl (fun _ => h) (fun _ => flt_v rfl (q_catB rfl rfl (by simp only [List.length_append, List.length_cons, List.length_nil]; omega))) ?_
  refine cur_skip ?_; refine cur_skip ?_; refine cur_skip ?_
  refine cur_one 12 rfl rfl rfl rfl (x_call rfl (rept_time hN i6 h) ?_)
  clear h
  rintro _ w ⟨rfl, h⟩
  refine ⟨fun _ => h, ?_⟩
  refine cur_pure rfl rfl rfl rfl (fun _ => h) (fun _ => flt_v rfl (q_catB rfl rfl (by simp only [List.length_append, List.length_cons, List.length_nil]; omega))) ?_
  refine cur_pure rfl rfl rfl rfl (fun _ => h) (fun _ => flt_v rfl (q_assignZ rfl)) ?_
  refine cur_end (c_ret (bq1 ⟨congrArg (fun x => Value.string (strB x)) (by simp [opS, opW, hk, joinW, wAppend, wRead, wSeal, wDelete, wOpen, wNext, wClose]), h.drop⟩))
 have hk2 : ¬ o.kind = 2 := by simpa using hk2
 refine c_seq (c_region ?_)
 refine r_v (q_eql rfl rfl) rfl ?_; refine r_v (q_assignB rfl) rfl ?_
 refine r_nil (c_cond (o.kind == 3) rfl (fun hk => ?_) (fun hk3 => ?_))
 ·have hk : o.kind = 3 := by simpa using hk
  refine c_seq (c_region ?_)
  refine r_v (q_fa rfl) rfl ?_; refine r_v (q_load rfl (h.b 0) rfl) rfl ?_
  refine r_c rfl (x_call rfl (rept_num hN i1 h) ?_)
  clear h
  rintro _ w ⟨rfl, h⟩
  refine r_v (q_catB rfl rfl (by simp only [List.length_append, List.length_cons, List.length_nil]; omega)) rfl ?_
  refine r_v (q_assignZ rfl) rfl ?_
  refine r_nil (c_ret (bq1 ⟨congrArg (fun x => Value.string (strB x)) (by simp [opS, opW, hk, joinW, wAppend, wRead, wSeal, wDelete, wOpen, wNext, wClose]), h.drop⟩))
 have hk3 : ¬ o.kind = 3 := by simpa using hk3
 refine c_seq (c_region ?_)
 refine r_v (q_eql rfl rfl) rfl ?_; refine r_v (q_assignB rfl) rfl ?_
 refine r_nil (c_cond (o.kind == 4) rfl (fun hk => ?_) (fun hk4 => ?_))
 ·have hk : o.kind = 4 := by simpa using hk
  refine c_seq (c_region ?_)
  refine r_v (q_fa rfl) rfl ?_; refine r_v (q_load rfl (h.b 0) rfl) rfl ?_
  refine r_c rfl (x_call rfl (rept_num hN i1 h) ?_)
  clear h
  rintro _ w ⟨rfl, h⟩
  refine r_v (q_catB rfl rfl (by simp only [List.length_append, List.length_cons, List.length_nil]; omega)) rfl ?_
  refine r_v (q_assignZ rfl) rfl ?_
  refine r_nil (c_ret (bq1 ⟨congrArg (fun x => Value.string (strB x)) (by simp [opS, opW, hk, joinW, wAppend, wRead, wSeal, wDelete, wOpen, wNext, wClose]), h.drop⟩))
 have hk4 : ¬ o.kind = 4 := by simpa using hk4
 refine c_seq (c_region ?_)
 refine r_v (q_eql rfl rfl) rfl ?_; refine r_v (q_assignB rfl) rfl ?_
 refine r_nil (c_cond (o.kind == 5) rfl (fun hk => ?_) (fun hk5 => ?_))
 ·have hk : o.kind = 5 := by simpa using hk
  refine c_seq (c_any none (fun w => St w0 _ w) (by kernel_rfl) (by kernel_rfl) h.drew fun w h => ?_)
  refine cur_pure rfl rfl rfl rfl (fun _ => h) (fun _ => flt_v rfl (q_fa rfl)) ?_; refine cur_float rfl rfl rfl rfl h (fun _ h => flt_v rfl (q_load rfl (h.b 0) rfl)) ?_; refine cur_skip ?_; refine cur_skip ?_; refine cur_skip ?_; refine cur_pure rfl rfl rfl rfl (fun _ => h) (fun _ => flt_v rfl (q_fa rfl)) ?_; refine cur_float rfl rfl rfl rfl h (fun _ h => flt_v rfl (q_load rfl (h.b 0) rfl)) ?_; refine cur_skip ?_; refine cur_skip ?_; refine cur_skip ?_; refine cur_pure rfl rfl rfl rfl (fun _ => h) (fun _ => flt_v rfl (q_fa rfl)) ?_; refine cur_float rfl rfl rfl rfl h (fun _ h => flt_v rfl (q_load rfl (h.b 0) rfl)) ?_; refine cur_skip ?_; refine cur_skip ?_; refine cur_skip ?_
  refine cur_one 2 rfl rfl rfl rfl (x_call rfl (rept_num hN i1 h) ?_)
  clear h
  rintro _ w ⟨rfl, h⟩
  refine ⟨fun _ => h, ?_⟩
  refine cur_pure rfl rfl rfl rfl (fun _ => h) (fun _ => flt_v rfl (q_catB rfl rfl (by simp only [List.length_append, List.length_cons, List.length_nil]; omega))) ?_
  refine cur_pure rfl rfl rfl rfl (fun _ => h) (fun _ => flt_v rfl (q_catB rfl rfl (by simp only [List.length_append, List.length_cons, List.length_nil]; omega))) ?_
  refine cur_skip ?_; refine cur_skip ?_; refine cur_skip ?_; refine cur_skip ?_; refine cur_skip ?_; refine cur_skip ?_
  refine cur_one 7 rfl rfl rfl rfl (x_call rfl (rept_time hN i5 h) ?_)
  clear h
  rintro _ w ⟨rfl, h⟩
  refine ⟨fun _ => h, ?_⟩
  refine cur_pure rfl rfl rfl rfl (fun _ => h) (fun _ => flt_v rfl (q_catB rfl rfl (by simp only [List.length_append, List.length_cons, List.length_nil]; omega))) ?_
  refine cur_pure rfl rfl rfl rfl (fun _ => h) (fun _ => flt_v rfl (q_catB rfl rfl (by simp only [List.length_append, List.length_cons, List.length_nil]; omega))) ?_
  refine cur_skip ?_; refine cur_skip ?_; refine cur_skip ?_
  refine cur_one 12 rfl rfl rfl rfl (x_call rfl (rept_time hN i6 h) ?_)
  clear h
  rintro _ w ⟨rfl, h⟩
  refine ⟨fun _ => h, ?_⟩
  refine cur_pure rfl rfl rfl rfl (fun _ => h) (fun _ => flt_v rfl (q_catB rfl rfl (by simp only [List.length_append, List.length_cons, List.length_nil]; omega))) ?_
  refine cur_pure rfl rfl rfl rfl (fun _ => h) (fun _ => flt_v rfl (q_assignZ rfl)) ?_
  refine cur_end (c_ret (bq1 ⟨congrArg (fun x => Value.string (strB x)) (by simp [opS, opW, hk, joinW, wAppend, wRead, wSeal, wDelete, wOpen, wNext, wClose]), h.drop⟩))
 have hk5 : ¬ o.kind = 5 := by simpa using hk5
 refine c_seq (c_region ?_)
 refine r_v (q_eql rfl rfl) rfl ?_; refine r_v (q_assignB rfl) rfl ?_
 refine r_nil (c_cond (o.kind == 6) rfl (fun hk => ?_) (fun hk6 => ?_))
 ·have hk : o.kind = 6 := by simpa using hk
  refine c_seq (c_any none (fun w => St w0 _ w) (by kernel_rfl) (by kernel_rfl) h.drew fun w h => ?_)
  refine cur_pure rfl rfl rfl rfl (fun _ => h) (fun _ => flt_v rfl (q_fa rfl)) ?_; refine cur_float rfl rfl rfl rfl h (fun _ h => flt_v rfl (q_load rfl (h.b 0) rfl)) ?_; refine cur_skip ?_; refine cur_skip ?_; refine cur_skip ?_; refine cur_pure rfl rfl rfl rfl (fun _ => h) (fun _ => flt_v rfl (q_fa rfl)) ?_; refine cur_float rfl rfl rfl rfl h (fun _ h => flt_v rfl (q_load rfl (h.b 0) rfl)) ?_; refine cur_skip ?_; refine cur_skip ?_; refine cur_skip ?_
  refine cur_one 2 rfl rfl rfl rfl (x_call rfl (rept_num hN i2 h) ?_)
  clear h
  rintro _ w ⟨rfl, h⟩
  refine ⟨fun _ => h, ?_⟩
  refine cur_pure rfl rfl rfl rfl (fun _ => h) (fun _ => flt_v rfl (q_catB rfl rfl (by simp only [List.length_append, List.length_cons, List.length_nil]; omega))) ?_
  refine cur_pure rfl rfl rfl rfl (fun _ => h) (fun _ => flt_v rfl (q_catB rfl rfl (by simp only [List.length_append, List.length_cons, List.length_nil]; omega))) ?_
  refine cur_skip ?_; refine cur_skip ?_; refine cur_skip ?_
  refine cur_one 7 rfl rfl rfl rfl (x_call rfl (rept_num hN i7 h) ?_)
  clear h
  rintro _ w ⟨rfl, h⟩
  refine ⟨fun _ => h, ?_⟩
  refine cur_pure rfl rfl rfl rfl (fun _ => h) (fun _ => flt_v rfl (q_catB rfl rfl (by simp only [List.length_append, List.length_cons, List.length_nil]; omega))) ?_
  refine cur_pure rfl rfl rfl rfl (fun _ => h) (fun _ => flt_v rfl (q_assignZ rfl)) ?_
  refine cur_end (c_ret (bq1 ⟨congrArg (fun x => Value.string (strB x)) (by simp [opS, opW, hk, joinW, wAppend, wRead, wSeal, wDelete, wOpen, wNext, wClose]), h.drop⟩))
 have hk6 : ¬ o.kind = 6 := by simpa using hk6
 refine c_seq (c_region ?_)
 refine r_v (q_eql rfl rfl) rfl ?_; refine r_v (q_assignB rfl) rfl ?_
 refine r_nil (c_cond (o.kind == 7) rfl (fun hk => ?_) (fun hk7 => ?_))
 ·have hk : o.kind = 7 := by simpa using hk
  refine c_seq (c_region ?_)
  refine r_v (q_fa rfl) rfl ?_; refine r_v (q_load rfl (h.b 0) rfl) rfl ?_
  refine r_c rfl (x_call rfl (rept_num hN i2 h) ?_)
  clear h
  rintro _ w ⟨rfl, h⟩
  refine r_v (q_catB rfl rfl (by simp only [List.length_append, List.length_cons, List.length_nil]; omega)) rfl ?_
  refine r_v (q_assignZ rfl) rfl ?_
  refine r_nil (c_ret (bq1 ⟨congrArg (fun x => Value.string (strB x)) (by simp [opS, opW, hk, joinW, wAppend, wRead, wSeal, wDelete, wOpen, wNext, wClose]), h.drop⟩))
 have hk7 : ¬ o.kind = 7 := by simpa using hk7
 refine c_skip ?_
 refine c_seq (c_region ?_)
 refine r_v (q_assignZ rfl) rfl ?_
 refine r_nil (c_ret (bq1 ⟨congrArg (fun x => Value.string (strB x)) (by simp [opS, opW, joinW, *]), h.drop⟩))
theorem ref27_Op {o : Opr} (ho : o.Wf) (h : St w0 l w) : Ret Tryz.prog 19 [.agg o.C.toArray] w fun v w' => v = .string (strB (opS o)) ∧ St w0 l w' := by
 obtain ⟨i0, i1, i2, i3, i4, i5, i6, i7⟩ := ho
 have m1 := itoa_len i1
 have m2 := itoa_len i2
 have m3 := itoa_len i3
 have m4 := hexS_len o.V 16 (by decide) (by exact i4)
 have m5 := itoa_len i5
 have m6 := itoa_len i6
 have m7 := itoa_len i7
 refine enter Tryz.func19 rfl Tryz.results19 Tryz.ntmps19 rfl ?_
 refine c_seq (c_region ?_)
 refine r_c rfl (x_box h (show _ = Value.agg o.C.toArray from rfl) fun b w h => ?_)
 refine r_v (q_assignZ rfl) rfl ?_
 refine r_nil ?_
 refine c_seq (c_region ?_)
 refine r_v (q_fa rfl) rfl ?_; refine r_v (q_load rfl (h.b 0) rfl) rfl ?_
 refine r_c rfl (x_call rfl (ref27_Num i1 h) ?_)
 clear h
 rintro _ w ⟨rfl, h⟩
 refine r_v (q_assignZ rfl) rfl ?_
 refine r_nil ?_
 refine c_seq (c_any none (fun w => St w0 _ w) (by kernel_rfl) (by kernel_rfl) h.drew fun w h => ?_)
 refine cur_pure rfl rfl rfl rfl (fun _ => h) (fun _ => flt_v rfl (q_fa rfl)) ?_; refine cur_float rfl rfl rfl rfl h (fun _ h => flt_v rfl (q_load rfl (h.b 0) rfl)) ?_; refine cur_skip ?_; refine cur_skip ?_; refine cur_skip ?_; refine cur_pure rfl rfl rfl rfl (fun _ => h) (fun _ => flt_v rfl (q_fa rfl)) ?_; refine cur_float rfl rfl rfl rfl h (fun _ h => flt_v rfl (q_load rfl (h.b 0) rfl)) ?_; refine cur_skip ?_; refine cur_skip ?_; refine cur_skip ?_
 refine cur_one 2 rfl rfl rfl rfl (x_call rfl (ref27_Num i5 h) ?_)
 clear h
 rintro _ w ⟨rfl, h⟩
 refine ⟨fun _ => h, ?_⟩
 refine cur_pure rfl rfl rfl rfl (fun _ => h) (fun _ => flt_v rfl (q_catB rfl rfl (by simp only [List.length_append, List.length_cons, List.length_nil]; omega))) ?_
 refine cur_pure rfl rfl rfl rfl (fun _ => h) (fun _ => flt_v rfl (q_catB rfl rfl (by simp only [List.length_append, List.length_cons, List.length_nil]; omega))) ?_
 refine cur_skip ?_; refine cur_skip ?_; refine cur_skip ?_
 refine cur_one 7 rfl rfl rfl rfl (x_call rfl (ref27_Num i6 h) ?_)
 clear h
 rintro _ w ⟨rfl, h⟩
 refine ⟨fun _ => h, ?_⟩
 refine cur_pure rfl rfl rfl rfl (fun _ => h) (fun _ => flt_v rfl (q_catB rfl rfl (by simp only [List.length_append, List.length_cons, List.length_nil]; omega))) ?_
 refine cur_pure rfl rfl rfl rfl (fun _ => h) (fun _ => flt_v rfl (q_assignZ rfl)) ?_
 refine cur_end ?_
 refine c_seq (c_seq (c_region ?_))
 refine r_v (q_fa rfl) rfl ?_; refine r_v (q_load rfl (h.b 0) rfl) rfl ?_
 refine r_nil ?_
 refine c_block ?_
 refine c_seq (c_region ?_)
 refine r_v (q_eql rfl rfl) rfl ?_; refine r_v (q_assignB rfl) rfl ?_
 refine r_nil (c_cond (o.kind == 1) rfl (fun hk => ?_) (fun hk1 => ?_))
 ·have hk : o.kind = 1 := by simpa using hk
  refine c_seq (c_any none (fun w => St w0 _ w) (by kernel_rfl) (by kernel_rfl) h.drew fun w h => ?_)
  refine cur_pure rfl rfl rfl rfl (fun _ => h) (fun _ => flt_v rfl (q_moveZ rfl)) ?_
  refine cur_pure rfl rfl rfl rfl (fun _ => h) (fun _ => flt_v rfl (q_catB rfl rfl (by simp only [List.length_append, List.length_cons, List.length_nil]; omega))) ?_
  refine cur_pure rfl rfl rfl rfl (fun _ => h) (fun _ => flt_v rfl (q_catB rfl rfl (by simp only [List.length_append, List.length_cons, List.length_nil]; omega))) ?_
  refine cur_pure rfl rfl rfl rfl (fun _ => h) (fun _ => flt_v rfl (q_fa rfl)) ?_; refine cur_float rfl rfl rfl rfl h (fun _ h => flt_v rfl (q_load rfl (h.b 0) rfl)) ?_; refine cur_skip ?_; refine cur_skip ?_; refine cur_skip ?_; refine cur_pure rfl rfl rfl rfl (fun _ => h) (fun _ => flt_v rfl (q_fa rfl)) ?_; refine cur_float rfl rfl rfl rfl h (fun _ h => flt_v rfl (q_load rfl (h.b 0) rfl)) ?_; refine cur_skip ?_; refine cur_skip ?_; refine cur_skip ?_
  refine cur_one 5 rfl rfl rfl rfl (x_call rfl (ref27_Num i3 h) ?_)
  clear h
  rintro _ w ⟨rfl, h⟩
  refine ⟨fun _ => h, ?_⟩
  refine cur_pure rfl rfl rfl rfl (fun _ => h) (fun _ => flt_v rfl (q_catB rfl rfl (by simp only [List.length_append, List.length_cons, List.length_nil]; omega))) ?_
  refine cur_pure rfl rfl rfl rfl (fun _ => h) (fun _ => flt_v rfl (q_catB rfl rfl (by simp only [List.length_append, List.length_cons, List.length_nil]; omega))) ?_
  refine cur_skip ?_; refine cur_skip ?_; refine cur_skip ?_
  refine cur_one 10 rfl rfl rfl rfl (x_call rfl (ref27_Hex i4 h) ?_)
  clear h
  rintro _ w ⟨rfl, h⟩
  refine ⟨fun _ => h, ?_⟩
  refine cur_pure rfl rfl rfl rfl (fun _ => h) (fun _ => flt_v rfl (q_catB rfl rfl (by simp only [List.length_append, List.length_cons, List.length_nil]; omega))) ?_
  refine cur_pure rfl rfl rfl rfl (fun _ => h) (fun _ => flt_v rfl (q_assignZ rfl)) ?_
  refine cur_end (c_ret (bq1 ⟨congrArg (fun x => Value.string (strB x)) (by simp [opS, opW, hk, joinW, wAppend, wRead, wSeal, wDelete, wOpen, wNext, wClose]), h.drop⟩))
 have hk1 : ¬ o.kind = 1 := by simpa using hk1
 refine c_seq (c_region ?_)
 refine r_v (q_eql rfl rfl) rfl ?_; refine r_v (q_assignB rfl) rfl ?_
 refine r_nil (c_cond (o.kind == 2) rfl (fun hk => ?_) (fun hk2 => ?_))
 ·have hk : o.kind = 2 := by simpa using hk
  refine c_seq (c_region ?_)
  refine r_v (q_moveZ rfl) rfl ?_
  refine r_v (q_catB rfl rfl (by simp only [List.length_append, List.length_cons, List.length_nil]; omega)) rfl ?_
  refine r_v (q_moveZ rfl) rfl ?_
  refine r_v (q_catB rfl rfl (by simp only [List.length_append, List.length_cons, List.length_nil]; omega)) rfl ?_
  refine r_v (q_assignZ rfl) rfl ?_
  refine r_nil (c_ret (bq1 ⟨congrArg (fun x => Value.string (strB x)) (by simp [opS, opW, hk, joinW, wAppend, wRead, wSeal, wDelete, wOpen, wNext, wClose]), h.drop⟩))
 have hk2 : ¬ o.kind = 2 := by simpa using hk2
 refine c_seq (c_region ?_)
 refine r_v (q_eql rfl rfl) rfl ?_; refine r_v (q_assignB rfl) rfl ?_
 refine r_nil (c_cond (o.kind == 3) rfl (fun hk => ?_) (fun hk3 => ?_))
 ·have hk : o.kind = 3 := by simpa using hk
  refine c_seq (c_region ?_)
  refine r_v (q_moveZ rfl) rfl ?_
  refine r_v (q_catB rfl rfl (by simp only [List.length_append, List.length_cons, List.length_nil]; omega)) rfl ?_
  refine r_v (q_assignZ rfl) rfl ?_
  refine r_nil (c_ret (bq1 ⟨congrArg (fun x => Value.string (strB x)) (by simp [opS, opW, hk, joinW, wAppend, wRead, wSeal, wDelete, wOpen, wNext, wClose]), h.drop⟩))
 have hk3 : ¬ o.kind = 3 := by simpa using hk3
 refine c_seq (c_region ?_)
 refine r_v (q_eql rfl rfl) rfl ?_; refine r_v (q_assignB rfl) rfl ?_
 refine r_nil (c_cond (o.kind == 4) rfl (fun hk => ?_) (fun hk4 => ?_))
 ·have hk : o.kind = 4 := by simpa using hk
  refine c_seq (c_region ?_)
  refine r_v (q_moveZ rfl) rfl ?_
  refine r_v (q_catB rfl rfl (by simp only [List.length_append, List.length_cons, List.length_nil]; omega)) rfl ?_
  refine r_v (q_assignZ rfl) rfl ?_
  refine r_nil (c_ret (bq1 ⟨congrArg (fun x => Value.string (strB x)) (by simp [opS, opW, hk, joinW, wAppend, wRead, wSeal, wDelete, wOpen, wNext, wClose]), h.drop⟩))
 have hk4 : ¬ o.kind = 4 := by simpa using hk4
 refine c_seq (c_region ?_)
 refine r_v (q_eql rfl rfl) rfl ?_; refine r_v (q_assignB rfl) rfl ?_
 refine r_nil (c_cond (o.kind == 5) rfl (fun hk => ?_) (fun hk5 => ?_))
 ·have hk : o.kind = 5 := by simpa using hk
  refine c_seq (c_region ?_)
  refine r_v (q_moveZ rfl) rfl ?_
  refine r_v (q_catB rfl rfl (by simp only [List.length_append, List.length_cons, List.length_nil]; omega)) rfl ?_
  refine r_v (q_moveZ rfl) rfl ?_
  refine r_v (q_catB rfl rfl (by simp only [List.length_append, List.length_cons, List.length_nil]; omega)) rfl ?_
  refine r_v (q_assignZ rfl) rfl ?_
  refine r_nil (c_ret (bq1 ⟨congrArg (fun x => Value.string (strB x)) (by simp [opS, opW, hk, joinW, wAppend, wRead, wSeal, wDelete, wOpen, wNext, wClose]), h.drop⟩))
 have hk5 : ¬ o.kind = 5 := by simpa using hk5
 refine c_seq (c_region ?_)
 refine r_v (q_eql rfl rfl) rfl ?_; refine r_v (q_assignB rfl) rfl ?_
 refine r_nil (c_cond (o.kind == 6) rfl (fun hk => ?_) (fun hk6 => ?_))
 ·have hk : o.kind = 6 := by simpa using hk
  refine c_seq (c_any none (fun w => St w0 _ w) (by kernel_rfl) (by kernel_rfl) h.drew fun w h => ?_)
  refine cur_pure rfl rfl rfl rfl (fun _ => h) (fun _ => flt_v rfl (q_fa rfl)) ?_; refine cur_float rfl rfl rfl rfl h (fun _ h => flt_v rfl (q_load rfl (h.b 0) rfl)) ?_; refine cur_skip ?_; refine cur_skip ?_; refine cur_skip ?_; refine cur_pure rfl rfl rfl rfl (fun _ => h) (fun _ => flt_v rfl (q_fa rfl)) ?_; refine cur_float rfl rfl rfl rfl h (fun _ h => flt_v rfl (q_load rfl (h.b 0) rfl)) ?_; refine cur_skip ?_; refine cur_skip ?_; refine cur_skip ?_
  refine cur_one 2 rfl rfl rfl rfl (x_call rfl (ref27_Num i2 h) ?_)
  clear h
  rintro _ w ⟨rfl, h⟩
  refine ⟨fun _ => h, ?_⟩
  refine cur_pure rfl rfl rfl rfl (fun _ => h) (fun _ => flt_v rfl (q_catB rfl rfl (by simp only [List.length_append, List.length_cons, List.length_nil]; omega))) ?_
  refine cur_pure rfl rfl rfl rfl (fun _ => h) (fun _ => flt_v rfl (q_catB rfl rfl (by simp only [List.length_append, List.length_cons, List.length_nil]; omega))) ?_
  refine cur_skip ?_; refine cur_skip ?_; refine cur_skip ?_
  refine cur_one 7 rfl rfl rfl rfl (x_call rfl (ref27_Num i7 h) ?_)
  clear h
  rintro _ w ⟨rfl, h⟩
  refine ⟨fun _ => h, ?_⟩
  refine cur_pure rfl rfl rfl rfl (fun _ => h) (fun _ => flt_v rfl (q_catB rfl rfl (by simp only [List.length_append, List.length_cons, List.length_nil]; omega))) ?_
  refine cur_pure rfl rfl rfl rfl (fun _ => h) (fun _ => flt_v rfl (q_assignZ rfl)) ?_
  refine cur_end (c_ret (bq1 ⟨congrArg (fun x => Value.string (strB x)) (by simp [opS, opW, hk, joinW, wAppend, wRead, wSeal, wDelete, wOpen, wNext, wClose]), h.drop⟩))
 have hk6 : ¬ o.kind = 6 := by simpa using hk6
 refine c_seq (c_region ?_)
 refine r_v (q_eql rfl rfl) rfl ?_; refine r_v (q_assignB rfl) rfl ?_
 refine r_nil (c_cond (o.kind == 7) rfl (fun hk => ?_) (fun hk7 => ?_))
 ·have hk : o.kind = 7 := by simpa using hk
  refine c_seq (c_region ?_)
  refine r_v (q_fa rfl) rfl ?_; refine r_v (q_load rfl (h.b 0) rfl) rfl ?_
  refine r_c rfl (x_call rfl (ref27_Num i2 h) ?_)
  clear h
  rintro _ w ⟨rfl, h⟩
  refine r_v (q_catB rfl rfl (by simp only [List.length_append, List.length_cons, List.length_nil]; omega)) rfl ?_
  refine r_v (q_assignZ rfl) rfl ?_
  refine r_nil (c_ret (bq1 ⟨congrArg (fun x => Value.string (strB x)) (by simp [opS, opW, hk, joinW, wAppend, wRead, wSeal, wDelete, wOpen, wNext, wClose]), h.drop⟩))
 have hk7 : ¬ o.kind = 7 := by simpa using hk7
 refine c_skip ?_
 refine c_seq (c_region ?_)
 refine r_v (q_assignZ rfl) rfl ?_
 refine r_nil (c_ret (bq1 ⟨congrArg (fun x => Value.string (strB x)) (by simp [opS, opW, joinW, *]), h.drop⟩))
end
end Go.Proofs.YtnnehiiblfmpnaaGreatDoor
