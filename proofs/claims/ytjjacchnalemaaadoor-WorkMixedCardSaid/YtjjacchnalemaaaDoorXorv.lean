/- xorv: values by what turns: telling them. -/
import Derived.Test.YtjjacchnalemaaaDoorMb
import Derived.Test.YtjjacchnalemaaaDoorSl
import Derived.Test.YtjjacchnalemaaaDoorTime
namespace Go.Proofs.YtjjacchnalemaaaDoor
open Go.Hw
set_option maxHeartbeats 4000000
set_option maxRecDepth 100000
abbrev winC (w : Win) : List Value := [.bool w.is, .int .i64 w.lead, .int .i64 w.trail]
def WinOk (w : Win) : Prop := w.lead + w.trail ≤ 63
theorem winOk_of {x : Nat} (h0 : x ≠ 0) (h : x < 18446744073709551616) : WinOk (winOf x) := by
  obtain ⟨h1, h2, _, _⟩ := winOf_long h0 h
  unfold WinOk; omega
theorem win_long_le (w : Win) : w.long ≤ 64 := by unfold Win.long; omega
section
variable {w0 w : World} {l : List HProp}
abbrev WinPt (b : Nat) (win : Win) : HProp := pt b (.cells (winC win).toArray 132 (0, 0))
theorem tz_le (x : Nat) : tz x ≤ 64 := by
  have : ∀ k x, tzA k x ≤ k := by
    intro k
    induction k with
    | zero => intro x; exact Nat.le_refl _
    | succ k ih => intro x; rw [tzA]; split; exact Nat.zero_le _; exact Nat.succ_le_succ (ih _)
  exact this 64 x
theorem xorv_of (hT : Tz w0) {x : Nat} (hx : x < 18446744073709551616) (h : St w0 l w) : Ret Tryd.prog 99 [.int .u64 x] w fun v w' => v = .agg (winC (winOf x)).toArray ∧ St w0 l w' := by
  refine enter Tryd.func99 rfl Tryd.results99 Tryd.ntmps99 rfl ?_
  refine c_seq (c_region ?_)
  refine r_c rfl (x_alloc h fun b w h => ?_)
  refine r_nil ?_
  refine c_seq (c_region ?_)
  refine r_v (q_moveI rfl) rfl ?_
  refine r_c rfl (x_call rfl (mb_LeadingZeros64 hx h) ?_)
  rintro _ w ⟨rfl, h⟩
  refine r_v (q_min rfl rfl) rfl ?_
  refine r_is (.int .i64 (winOf x).lead) (by unfold winOf; congr 1; dsimp only; omega) ?_
  refine r_v (q_moveI rfl) rfl ?_
  refine r_c rfl (x_call rfl (mb_TrailingZeros64 hT hx h) ?_)
  rintro _ w ⟨rfl, h⟩
  refine r_v (q_build (r := winC (winOf x)) rfl) rfl ?_
  refine r_c rfl (x_storeA (vs := winC (winOf x)) 0 h rfl rfl rfl rfl rfl rfl rfl fun w h => ?_)
  refine r_nil ?_
  exact c_ret (bqS1 (l := winC (winOf x)) rfl rfl (at_of (h.b 0 rfl) rfl) ⟨rfl, h.drop⟩)
theorem xorv_long {win : Win} (ho : WinOk win) (h : St w0 l w) : Ret Tryd.prog 100 [.agg (winC win).toArray] w fun v w' => v = .int .i64 win.long ∧ St w0 l w' := by
  unfold WinOk at ho
  refine enter Tryd.func100 rfl Tryd.results100 Tryd.ntmps100 rfl ?_
  refine c_seq (c_region ?_)
  refine r_c rfl (x_box h (show _ = Value.agg (winC win).toArray from rfl) fun b w h => ?_)
  refine r_v (q_assignI rfl) rfl ?_
  refine r_nil ?_
  refine c_seq (c_region ?_)
  refine r_v (q_fa rfl) rfl ?_; (first | refine r_v (q_load rfl (h.b 0) rfl) rfl ?_ | refine r_v (q_load rfl (h.b 1) rfl) rfl ?_ | refine r_v (q_load rfl (h.b 2) rfl) rfl ?_ | refine r_v (q_load rfl (h.b 3) rfl) rfl ?_ | refine r_v (q_load rfl (h.b 4) rfl) rfl ?_ | refine r_v (q_load rfl (h.b 5) rfl) rfl ?_); refine r_v (q_sub rfl rfl) rfl ?_
  refine r_is (.int .i64 ((64 - win.lead : Nat) : Int)) (by rw [wrap64 (by omega) (by omega)]; congr 1; omega) ?_
  refine r_v (q_fa rfl) rfl ?_; (first | refine r_v (q_load rfl (h.b 0) rfl) rfl ?_ | refine r_v (q_load rfl (h.b 1) rfl) rfl ?_ | refine r_v (q_load rfl (h.b 2) rfl) rfl ?_ | refine r_v (q_load rfl (h.b 3) rfl) rfl ?_ | refine r_v (q_load rfl (h.b 4) rfl) rfl ?_ | refine r_v (q_load rfl (h.b 5) rfl) rfl ?_); refine r_v (q_sub rfl rfl) rfl ?_
  refine r_is (.int .i64 win.long) (by rw [wrap64 (by omega) (by omega)]; unfold Win.long; congr 1; omega) ?_
  refine r_v (q_assignI rfl) rfl ?_
  refine r_nil ?_
  exact c_ret (bq1 ⟨rfl, h.drop⟩)
theorem xorv_fits (hT : Tz w0) {win : Win} {x : Nat} (hx : x < 18446744073709551616) (h : St w0 l w) : Ret Tryd.prog 98 [.agg (winC win).toArray, .int .u64 x] w fun v w' => v = .bool (win.fits x) ∧ St w0 l w' := by
  refine enter Tryd.func98 rfl Tryd.results98 Tryd.ntmps98 rfl ?_
  refine c_seq (c_region ?_)
  refine r_c rfl (x_box h (show _ = Value.agg (winC win).toArray from rfl) fun b w h => ?_)
  replace h : St w0 (WinPt b win :: l) w := h
  refine r_v (q_assignB rfl) rfl ?_
  refine r_nil ?_
  refine c_seq (c_region ?_)
  refine r_v (q_moveI rfl) rfl ?_
  refine r_c rfl (x_call rfl (xorv_of hT hx h) ?_)
  rintro _ w ⟨rfl, h⟩
  refine r_c rfl (x_alloc h fun b5 w h => ?_)
  refine r_c rfl (x_storeA (vs := winC (winOf x)) 0 h rfl rfl rfl rfl rfl rfl rfl fun w h => ?_)
  replace h : St w0 (WinPt b5 (winOf x) :: WinPt b win :: l) w := h
  refine r_nil ?_
  have hfit : win.fits x = (win.is && decide (win.lead ≤ (winOf x).lead) && decide (win.trail ≤ (winOf x).trail)) := rfl
  refine c_seq (c_region ?_)
  refine r_v (q_fa rfl) rfl ?_
  refine r_v (q_load (v := .bool win.is) rfl (h.b 1 rfl) rfl) rfl ?_
  cases hi : win.is with
  | false =>
    refine r_v (q_moveB rfl) rfl ?_; (first | refine r_gd rfl rfl ?_ | refine r_gn rfl rfl rfl ?_ | refine r_gu rfl rfl ?_ | refine r_gd rfl (by assumption) ?_ | refine r_gn rfl (by assumption) rfl ?_); (first | refine r_gd rfl rfl ?_ | refine r_gn rfl rfl rfl ?_ | refine r_gu rfl rfl ?_ | refine r_gd rfl (by assumption) ?_ | refine r_gn rfl (by assumption) rfl ?_); (first | refine r_gd rfl rfl ?_ | refine r_gn rfl rfl rfl ?_ | refine r_gu rfl rfl ?_ | refine r_gd rfl (by assumption) ?_ | refine r_gn rfl (by assumption) rfl ?_); (first | refine r_gd rfl rfl ?_ | refine r_gn rfl rfl rfl ?_ | refine r_gu rfl rfl ?_ | refine r_gd rfl (by assumption) ?_ | refine r_gn rfl (by assumption) rfl ?_); (first | refine r_gd rfl rfl ?_ | refine r_gn rfl rfl rfl ?_ | refine r_gu rfl rfl ?_ | refine r_gd rfl (by assumption) ?_ | refine r_gn rfl (by assumption) rfl ?_); (first | refine r_v (q_pick1 rfl rfl rfl) rfl ?_ | refine r_v (q_pick0 rfl rfl rfl) rfl ?_ | refine r_v (q_pick1 rfl (by assumption) rfl) rfl ?_ | refine r_v (q_pick0 rfl (by assumption) rfl) rfl ?_ | refine r_v (q_pickB rfl rfl rfl) rfl ?_); refine r_v (q_moveB rfl) rfl ?_; (first | refine r_gd rfl rfl ?_ | refine r_gn rfl rfl rfl ?_ | refine r_gu rfl rfl ?_ | refine r_gd rfl (by assumption) ?_ | refine r_gn rfl (by assumption) rfl ?_); (first | refine r_gd rfl rfl ?_ | refine r_gn rfl rfl rfl ?_ | refine r_gu rfl rfl ?_ | refine r_gd rfl (by assumption) ?_ | refine r_gn rfl (by assumption) rfl ?_); (first | refine r_gd rfl rfl ?_ | refine r_gn rfl rfl rfl ?_ | refine r_gu rfl rfl ?_ | refine r_gd rfl (by assumption) ?_ | refine r_gn rfl (by assumption) rfl ?_); (first | refine r_gd rfl rfl ?_ | refine r_gn rfl rfl rfl ?_ | refine r_gu rfl rfl ?_ | refine r_gd rfl (by assumption) ?_ | refine r_gn rfl (by assumption) rfl ?_); (first | refine r_gd rfl rfl ?_ | refine r_gn rfl rfl rfl ?_ | refine r_gu rfl rfl ?_ | refine r_gd rfl (by assumption) ?_ | refine r_gn rfl (by assumption) rfl ?_); (first | refine r_v (q_pick1 rfl rfl rfl) rfl ?_ | refine r_v (q_pick0 rfl rfl rfl) rfl ?_ | refine r_v (q_pick1 rfl (by assumption) rfl) rfl ?_ | refine r_v (q_pick0 rfl (by assumption) rfl) rfl ?_ | refine r_v (q_pickB rfl rfl rfl) rfl ?_); refine r_v (q_assignB rfl) rfl ?_
    refine r_nil ?_
    refine c_ret (bq1 ⟨?_, h.drop.drop⟩)
    rw [hfit, hi]; rfl
  | true =>
    refine r_v (q_moveB rfl) rfl ?_; (first | refine r_gd rfl rfl ?_ | refine r_gn rfl rfl rfl ?_ | refine r_gu rfl rfl ?_ | refine r_gd rfl (by assumption) ?_ | refine r_gn rfl (by assumption) rfl ?_); refine r_v (q_fa rfl) rfl ?_; (first | refine r_gd rfl rfl ?_ | refine r_gn rfl rfl rfl ?_ | refine r_gu rfl rfl ?_ | refine r_gd rfl (by assumption) ?_ | refine r_gn rfl (by assumption) rfl ?_)
    refine r_v (q_load (v := .int .i64 (winOf x).lead) rfl (h.b 0 rfl) rfl) rfl ?_
    (first | refine r_gd rfl rfl ?_ | refine r_gn rfl rfl rfl ?_ | refine r_gu rfl rfl ?_ | refine r_gd rfl (by assumption) ?_ | refine r_gn rfl (by assumption) rfl ?_); refine r_v (q_fa rfl) rfl ?_; (first | refine r_gd rfl rfl ?_ | refine r_gn rfl rfl rfl ?_ | refine r_gu rfl rfl ?_ | refine r_gd rfl (by assumption) ?_ | refine r_gn rfl (by assumption) rfl ?_)
    refine r_v (q_load (v := .int .i64 win.lead) rfl (h.b 1 rfl) rfl) rfl ?_
    (first | refine r_gd rfl rfl ?_ | refine r_gn rfl rfl rfl ?_ | refine r_gu rfl rfl ?_ | refine r_gd rfl (by assumption) ?_ | refine r_gn rfl (by assumption) rfl ?_); refine r_v (q_geq rfl rfl) rfl ?_
    by_cases h1 : win.lead ≤ (winOf x).lead
    · refine r_is (.bool true) (by simp; omega) ?_
      (first | refine r_v (q_pick1 rfl rfl rfl) rfl ?_ | refine r_v (q_pick0 rfl rfl rfl) rfl ?_ | refine r_v (q_pick1 rfl (by assumption) rfl) rfl ?_ | refine r_v (q_pick0 rfl (by assumption) rfl) rfl ?_ | refine r_v (q_pickB rfl rfl rfl) rfl ?_); refine r_v (q_moveB rfl) rfl ?_; (first | refine r_gd rfl rfl ?_ | refine r_gn rfl rfl rfl ?_ | refine r_gu rfl rfl ?_ | refine r_gd rfl (by assumption) ?_ | refine r_gn rfl (by assumption) rfl ?_); refine r_v (q_fa rfl) rfl ?_; (first | refine r_gd rfl rfl ?_ | refine r_gn rfl rfl rfl ?_ | refine r_gu rfl rfl ?_ | refine r_gd rfl (by assumption) ?_ | refine r_gn rfl (by assumption) rfl ?_)
      refine r_v (q_load (v := .int .i64 (winOf x).trail) rfl (h.b 0 rfl) rfl) rfl ?_
      (first | refine r_gd rfl rfl ?_ | refine r_gn rfl rfl rfl ?_ | refine r_gu rfl rfl ?_ | refine r_gd rfl (by assumption) ?_ | refine r_gn rfl (by assumption) rfl ?_); refine r_v (q_fa rfl) rfl ?_; (first | refine r_gd rfl rfl ?_ | refine r_gn rfl rfl rfl ?_ | refine r_gu rfl rfl ?_ | refine r_gd rfl (by assumption) ?_ | refine r_gn rfl (by assumption) rfl ?_)
      refine r_v (q_load (v := .int .i64 win.trail) rfl (h.b 1 rfl) rfl) rfl ?_
      (first | refine r_gd rfl rfl ?_ | refine r_gn rfl rfl rfl ?_ | refine r_gu rfl rfl ?_ | refine r_gd rfl (by assumption) ?_ | refine r_gn rfl (by assumption) rfl ?_); refine r_v (q_geq rfl rfl) rfl ?_; (first | refine r_v (q_pick1 rfl rfl rfl) rfl ?_ | refine r_v (q_pick0 rfl rfl rfl) rfl ?_ | refine r_v (q_pick1 rfl (by assumption) rfl) rfl ?_ | refine r_v (q_pick0 rfl (by assumption) rfl) rfl ?_ | refine r_v (q_pickB rfl rfl rfl) rfl ?_); refine r_v (q_assignB rfl) rfl ?_
      refine r_nil ?_
      refine c_ret (bq1 ⟨?_, h.drop.drop⟩)
      rw [hfit, hi, decide_eq_true h1]
      show Value.bool (decide _) = _
      congr 1
      simp only [Bool.true_and, decide_eq_decide]
      omega
    · refine r_is (.bool false) (by simp; omega) ?_
      (first | refine r_v (q_pick1 rfl rfl rfl) rfl ?_ | refine r_v (q_pick0 rfl rfl rfl) rfl ?_ | refine r_v (q_pick1 rfl (by assumption) rfl) rfl ?_ | refine r_v (q_pick0 rfl (by assumption) rfl) rfl ?_ | refine r_v (q_pickB rfl rfl rfl) rfl ?_); refine r_v (q_moveB rfl) rfl ?_; (first | refine r_gd rfl rfl ?_ | refine r_gn rfl rfl rfl ?_ | refine r_gu rfl rfl ?_ | refine r_gd rfl (by assumption) ?_ | refine r_gn rfl (by assumption) rfl ?_); (first | refine r_gd rfl rfl ?_ | refine r_gn rfl rfl rfl ?_ | refine r_gu rfl rfl ?_ | refine r_gd rfl (by assumption) ?_ | refine r_gn rfl (by assumption) rfl ?_); (first | refine r_gd rfl rfl ?_ | refine r_gn rfl rfl rfl ?_ | refine r_gu rfl rfl ?_ | refine r_gd rfl (by assumption) ?_ | refine r_gn rfl (by assumption) rfl ?_); (first | refine r_gd rfl rfl ?_ | refine r_gn rfl rfl rfl ?_ | refine r_gu rfl rfl ?_ | refine r_gd rfl (by assumption) ?_ | refine r_gn rfl (by assumption) rfl ?_); (first | refine r_gd rfl rfl ?_ | refine r_gn rfl rfl rfl ?_ | refine r_gu rfl rfl ?_ | refine r_gd rfl (by assumption) ?_ | refine r_gn rfl (by assumption) rfl ?_); (first | refine r_v (q_pick1 rfl rfl rfl) rfl ?_ | refine r_v (q_pick0 rfl rfl rfl) rfl ?_ | refine r_v (q_pick1 rfl (by assumption) rfl) rfl ?_ | refine r_v (q_pick0 rfl (by assumption) rfl) rfl ?_ | refine r_v (q_pickB rfl rfl rfl) rfl ?_); refine r_v (q_assignB rfl) rfl ?_
      refine r_nil ?_
      refine c_ret (bq1 ⟨?_, h.drop.drop⟩)
      rw [hfit, hi, decide_eq_false h1]; rfl
theorem xorRest_len : ∀ (vs : List Nat) (win : Win) (was : Nat), (xorRest win was vs).length ≤ 77 * vs.length
  | [], _, _ => Nat.le_refl _
  | v :: vs, win, was => by
    have h1 := xorRest_len vs win v
    have h2 := xorRest_len vs (winOf (v ^^^ was)) v
    have h3 := win_long_le win
    have h4 := win_long_le (winOf (v ^^^ was))
    rw [xorRest, List.length_cons]
    split
    · rw [List.length_append, bitsOf_len]; omega
    · split
      · rw [List.length_append, List.length_append, bitsOf_len, bitsOf_len]; omega
      · rw [List.length_append, List.length_append, List.length_append, List.length_append, bitsOf_len, bitsOf_len, bitsOf_len, bitsOf_len]; omega
theorem xorBits_len (vs : List Nat) : (xorBits vs).length ≤ 77 * vs.length := by
  cases vs with
  | nil => exact Nat.le_refl _
  | cons v vs =>
    have := xorRest_len vs ⟨false, 0, 0⟩ v
    rw [xorBits, List.length_append, bitsOf_len, List.length_cons]; omega

theorem xorv_Encode (hT : Tz w0) {p : Nat} {bs : List Bool} {sl : Option Addr} {c : Nat} {vs : List Nat} (hv : ∀ v ∈ vs, v < 18446744073709551616) (hn : vs.length ≤ 65535) (hb : bs.length ≤ 1073741824) (h : St w0 (IsBW p bs :: l) w) (hr : Reads w0 l 1 sl vs.length (u64V vs)) :
    Ret Tryd.prog 66 [.pointer (some ⟨p, 0, none⟩), .slice sl vs.length c] w fun v w' => v = .tuple #[] ∧ St w0 (IsBW p (bs ++ xorBits vs) :: l) w' := by
  have htl := xorBits_len vs
  have hrd : ∀ {Q R : HProp} {w' : World}, St w0 (Q :: R :: l) w' → Rd w' 1 sl vs.length (u64V vs) := fun {Q R w'} h' => hr [Q, R] w' h'
  refine enter Tryd.func66 rfl Tryd.results66 Tryd.ntmps66 rfl ?_
  refine c_seq (c_region ?_)
  refine r_c rfl (x_alloc h fun b w h => ?_)
  replace h : St w0 (WinPt b ⟨false, 0, 0⟩ :: IsBW p bs :: l) w := h
  refine r_nil ?_
  refine c_seq (c_region ?_)
  refine r_v (q_moveS rfl) rfl ?_; refine r_v (q_len rfl) rfl ?_; refine r_v (q_moveI rfl) rfl ?_
  refine r_nil ?_
  refine c_block ?_
  refine c_loop (Γ := Nat × Win × List Bool) (fun k => [(0, .pointer (some ⟨p, 0, none⟩)), (1, .slice sl vs.length c), (4, .pointer (some ⟨b, 0, none⟩)), (8, .slice sl vs.length c), (9, .int .i64 vs.length), (10, .int .i64 k.1)])
    (fun k w => k.1 ≤ vs.length ∧ WinOk k.2.1 ∧ (k.1 = 0 → k.2.1 = ⟨false, 0, 0⟩ ∧ k.2.2 = bs) ∧ (0 < k.1 → k.2.2 ++ xorRest k.2.1 (vs.getD (k.1 - 1) 0) (vs.drop k.1) = bs ++ xorBits vs) ∧ St w0 (WinPt b k.2.1 :: IsBW p k.2.2 :: l) w)
    (fun k => vs.length - k.1) (0, ⟨false, 0, 0⟩, bs) ⟨rfl, rfl, rfl, rfl, rfl, rfl, trivial⟩ ⟨Nat.zero_le _, (show (0 : Nat) + 0 ≤ 63 by decide), fun _ => ⟨rfl, rfl⟩, (fun h => absurd h (by decide : ¬ (0 : Nat) < 0)), h⟩ ?_
  clear h
  rintro ⟨i, win, out⟩ w e ⟨hin, hwo, h00, hnz, h⟩
  dsimp only at hin hwo h00 hnz h ⊢
  refine c_seq (c_region ?_)
  refine r_v (q_lss rfl rfl) rfl ?_
  refine r_nil ?_
  refine c_seq (c_cond (decide ((i : Int) < (vs.length : Int))) rfl (fun hc => ?_) (fun hc => ?_))
  ·
    have hlt : i < vs.length := by simp at hc; omega
    have hg := List.getElem?_eq_getElem hlt
    have hdr := List.drop_eq_getElem_cons hlt
    generalize vs[i] = now at hg hdr
    have hnow := hv now (List.mem_of_getElem? hg)
    obtain ⟨bs_, o, hsl⟩ := (hrd h).some (by omega)
    have hol : out.length ≤ bs.length + (xorBits vs).length := by
      rcases Nat.eq_zero_or_pos i with h0 | h0
      · rw [(h00 h0).2]; omega
      · have := congrArg List.length (hnz h0)
        simp only [List.length_append] at this
        omega
    refine c_skip ?_
    refine c_cut (Γ := Win × List Bool) (fun _ => [(0, .pointer (some ⟨p, 0, none⟩)), (1, .slice sl vs.length c), (4, .pointer (some ⟨b, 0, none⟩)), (8, .slice sl vs.length c), (9, .int .i64 vs.length), (10, .int .i64 i)])
      (fun k w => WinOk k.1 ∧ k.2 ++ xorRest k.1 now (vs.drop (i + 1)) = bs ++ xorBits vs ∧ St w0 (WinPt b k.1 :: IsBW p k.2 :: l) w) ?_ ?_
    · refine c_block ?_
      refine c_seq (c_region ?_)
      refine r_v (q_moveI rfl) rfl ?_
      refine r_v (q_idx (b := bs_) (o := o) (m := vs.length) (c := c) (o' := o + i) (by rw [← hsl]; rfl) rfl rfl hlt (by simp)) rfl ?_
      refine r_v (q_loadc (v := .int .u64 now) rfl ((hsl ▸ hrd h).cell (u64V_get hg))) rfl ?_
      refine r_v (q_assignI rfl) rfl ?_; refine r_v (q_assignI rfl) rfl ?_
      refine r_nil ?_
      refine c_seq (c_seq (c_region ?_))
      refine r_v (q_moveI rfl) rfl ?_; refine r_v (q_eql rfl rfl) rfl ?_
      by_cases hi0 : i = 0
      · refine r_is (.bool true) (by subst hi0; rfl) ?_
        refine r_nil (c_true rfl ?_)
        obtain ⟨hw0, ho0⟩ := h00 hi0
        refine c_seq (c_region ?_)
        refine r_v (q_moveP rfl) rfl ?_; refine r_v (q_moveI rfl) rfl ?_
        refine r_c rfl (x_call rfl (bits_Put now 64 hnow (by omega) (h.f 1)) ?_)
        rintro _ w ⟨rfl, h⟩
        refine r_nil ?_
        refine c_exit ⟨(win, out ++ bitsOf now (heldN 64)), ⟨rfl, rfl, rfl, rfl, rfl, rfl, trivial⟩, hwo, ?_, h.f 1⟩
        rw [hi0, List.drop_zero] at hdr
        rw [ho0, hw0, hi0, List.append_assoc]
        conv => rhs; rw [hdr, xorBits]
        rfl
      refine r_is (.bool false) (by simp; omega) ?_
      refine r_nil (c_false rfl (c_skip ?_))
      have he := hnz (by omega)
      have hg1 : vs[i - 1]? = some (vs.getD (i - 1) 0) := by
        rw [List.getD, List.getElem?_eq_getElem (show i - 1 < vs.length by omega)]; rfl
      generalize vs.getD (i - 1) 0 = was at hg1 he
      have hwas := hv was (List.mem_of_getElem? hg1)
      have hx : now ^^^ was < 18446744073709551616 := Nat.xor_lt_two_pow (n := 64) hnow hwas
      rw [hdr, xorRest] at he
      refine c_seq (c_region ?_)
      refine r_v (q_moveI rfl) rfl ?_; refine r_v (q_moveS rfl) rfl ?_; refine r_v (q_moveI rfl) rfl ?_; refine r_v (q_sub rfl rfl) rfl ?_
      refine r_is (.int .i64 ((i - 1 : Nat) : Int)) (by rw [wrap64 (by omega) (by omega)]; congr 1; omega) ?_
      refine r_v (q_idx (b := bs_) (o := o) (m := vs.length) (c := c) (o' := o + (i - 1)) (by rw [← hsl]; rfl) rfl rfl (by omega) (by simp)) rfl ?_
      refine r_v (q_loadc (v := .int .u64 was) rfl ((hsl ▸ hrd h).cell (u64V_get hg1))) rfl ?_
      refine r_v (q_xor rfl rfl) rfl ?_
      refine r_is (.int .u64 ((now ^^^ was : Nat) : Int)) (by rw [(bit_u64 hnow hwas).2.2]) ?_
      generalize now ^^^ was = x at hx he
      refine r_v (q_assignI rfl) rfl ?_
      refine r_nil ?_
      refine c_cut (Γ := Win × List Bool) (fun _ => [(0, .pointer (some ⟨p, 0, none⟩)), (1, .slice sl vs.length c), (4, .pointer (some ⟨b, 0, none⟩)), (7, .int .u64 x), (8, .slice sl vs.length c), (9, .int .i64 vs.length), (10, .int .i64 i)])
        (fun k w => WinOk k.1 ∧ k.2 ++ (bitsOf (x / 2 ^ k.1.trail) k.1.long ++ xorRest k.1 now (vs.drop (i + 1))) = bs ++ xorBits vs ∧ St w0 (WinPt b k.1 :: IsBW p k.2 :: l) w) ?_ ?_
      · refine c_block ?_
        refine c_seq (c_region ?_)
        refine r_v (q_moveI rfl) rfl ?_; refine r_v (q_eql rfl rfl) rfl ?_; refine r_v (q_assignB rfl) rfl ?_
        refine r_nil ?_
        refine c_cond ((x : Int) == 0) rfl (fun hc => ?_) (fun hc => ?_)
        ·
          have hx0 : x = 0 := by rw [beq_iff_eq] at hc; omega
          rw [if_pos hx0] at he
          refine c_seq (c_region ?_)
          refine r_v (q_moveP rfl) rfl ?_
          refine r_c rfl (x_call rfl (bits_Put 0 1 (by decide) (by omega) (h.f 1)) ?_)
          rintro _ w ⟨rfl, h⟩
          refine r_nil ?_
          refine c_exit ⟨(win, out ++ bitsOf 0 (heldN 1)), ⟨rfl, rfl, rfl, rfl, rfl, rfl, trivial⟩, hwo, ?_, h.f 1⟩
          rw [← he, List.append_assoc]; rfl
        have hx0 : x ≠ 0 := by rw [beq_eq_false_iff_ne] at hc; omega
        rw [if_neg hx0] at he
        refine c_seq (c_region ?_)
        refine r_v (q_loadS (l := winC win) rfl rfl (at_of (h.b 0 rfl) rfl)) rfl ?_
        refine r_v (q_moveI rfl) rfl ?_
        refine r_c rfl (x_call rfl (xorv_fits hT hx h) ?_)
        rintro _ w ⟨rfl, h⟩
        refine r_v (q_assignB rfl) rfl ?_
        refine r_nil ?_
        refine c_cond (win.fits x) rfl (fun hc => ?_) (fun hc => ?_)
        ·
          rw [if_pos hc] at he
          refine c_region ?_
          refine r_v (q_moveP rfl) rfl ?_
          refine r_c rfl (x_call rfl (bits_Put 2 2 (by decide) (by omega) (h.f 1)) ?_)
          rintro _ w ⟨rfl, h⟩
          refine r_nil ⟨(win, out ++ bitsOf 2 (heldN 2)), ⟨rfl, rfl, rfl, rfl, rfl, rfl, rfl, trivial⟩, hwo, ?_, h.f 1⟩
          rw [← he, List.append_assoc]; rfl
        ·
          rw [if_neg (by rw [hc]; simp)] at he
          obtain ⟨l1, l2, l3, l4⟩ := winOf_long hx0 hx
          have hlen := congrArg List.length he
          simp only [List.length_append, bitsOf_len] at hlen
          refine c_seq (c_region ?_)
          refine r_v (q_moveI rfl) rfl ?_
          refine r_c rfl (x_call rfl (xorv_of hT hx h) ?_)
          rintro _ w ⟨rfl, h⟩
          refine r_c rfl (x_storeA (vs := winC (winOf x)) 0 h rfl rfl rfl rfl rfl rfl rfl fun w h => ?_)
          replace h : St w0 (WinPt b (winOf x) :: IsBW p out :: l) w := h
          refine r_nil ?_
          refine c_seq (c_region ?_)
          refine r_v (q_moveP rfl) rfl ?_
          refine r_c rfl (x_call rfl (bits_Put 3 2 (by decide) (by omega) (h.f 1)) ?_)
          rintro _ w ⟨rfl, h⟩
          refine r_nil ?_
          refine c_seq (c_region ?_)
          refine r_v (q_moveP rfl) rfl ?_; refine r_v (q_fa rfl) rfl ?_
          refine r_v (q_load (v := .int .i64 (winOf x).lead) rfl (h.b 1 rfl) rfl) rfl ?_
          refine r_v (q_conv rfl) rfl ?_
          refine r_is (.int .u64 ((winOf x).lead : Int)) (by rw [wrap_u64, Nat.mod_eq_of_lt (by omega)]) ?_
          refine r_c rfl (x_call rfl (bits_Put (winOf x).lead 5 (by omega) (by rw [List.length_append, bitsOf_len, show heldN 2 = 2 from rfl]; omega) h) ?_)
          rintro _ w ⟨rfl, h⟩
          refine r_nil ?_
          refine c_region ?_
          refine r_v (q_moveP rfl) rfl ?_
          refine r_v (q_loadS (l := winC (winOf x)) rfl rfl (at_of (h.b 1 rfl) rfl)) rfl ?_
          refine r_c rfl (x_call rfl (xorv_long (winOk_of hx0 hx) h) ?_)
          rintro _ w ⟨rfl, h⟩
          refine r_v (q_sub rfl rfl) rfl ?_
          refine r_is (.int .i64 (((winOf x).long - 1 : Nat) : Int)) (by rw [wrap64 (by omega) (by omega)]; congr 1; omega) ?_
          refine r_v (q_conv rfl) rfl ?_
          refine r_is (.int .u64 (((winOf x).long - 1 : Nat) : Int)) (by rw [wrap_u64, Nat.mod_eq_of_lt (by omega)]) ?_
          refine r_c rfl (x_call rfl (bits_Put ((winOf x).long - 1) 6 (by omega) (by rw [List.length_append, List.length_append, bitsOf_len, bitsOf_len, show heldN 2 = 2 from rfl, show heldN 5 = 5 from rfl]; omega) h) ?_)
          rintro _ w ⟨rfl, h⟩
          refine r_nil ⟨(winOf x, _), ⟨rfl, rfl, rfl, rfl, rfl, rfl, rfl, trivial⟩, winOk_of hx0 hx, ?_, h.f 1⟩
          dsimp only
          rw [← he, List.append_assoc, List.append_assoc, List.append_assoc]; rfl
      clear h he hwo h00 hnz hol
      rintro ⟨win, out⟩ w e ⟨hwo, he, h⟩
      dsimp only at hwo he h ⊢
      have hlen := congrArg List.length he
      simp only [List.length_append, bitsOf_len] at hlen
      have hll := win_long_le win
      refine c_anyW [0, 1, 2, 3, 4, 5, 6, 7] none (fun w => w.heap[b]? = some (.cells (winC win).toArray 132 (0, 0))) (by kernel_rfl) (by kernel_rfl) ?_
      replace h := h.drew
      generalize w.drew = w at h
      have hs := h
      replace h := hs.b 0 rfl
      refine cur_pure rfl rfl rfl rfl (fun _ => h) (fun _ => flt_v rfl (q_moveP rfl)) ?_; refine cur_pure rfl rfl rfl rfl (fun _ => h) (fun _ => flt_v rfl (q_moveI rfl)) ?_; refine cur_pure rfl rfl rfl rfl (fun _ => h) (fun _ => flt_v rfl (q_fa rfl)) ?_
      refine cur_float rfl rfl rfl rfl h (fun _ h => flt_v rfl (q_load (v := .int .i64 win.trail) rfl h rfl)) ?_
      refine cur_pure rfl rfl rfl rfl (fun _ => h) (fun _ => flt_v rfl (q_is (v' := .int .u64 ((x / 2 ^ win.trail : Nat) : Int)) (q_shr rfl rfl (by omega)) (congrArg (Value.int .u64) (fdiv_nat x win.trail 64 (by unfold WinOk at hwo; omega))))) ?_
      refine cur_float rfl rfl rfl rfl h (fun w h => flt_v rfl (q_loadS (l := winC win) rfl rfl (at_of h rfl))) ?_
      refine cur_skip ?_; refine cur_skip ?_
      refine cur_one 6 rfl rfl rfl rfl ?_
      refine (x_call rfl (xorv_long hwo hs) ?_)
      rintro _ w ⟨rfl, hs⟩
      replace h := hs.b 0 rfl
      refine ⟨fun _ => h, ?_⟩
      refine cur_skip ?_
      refine cur_one 7 rfl rfl rfl rfl ?_
      refine (x_call rfl (bits_Put (x / 2 ^ win.trail) win.long (Nat.lt_of_le_of_lt (Nat.div_le_self _ _) hx) (by omega) (hs.f 1)) ?_)
      rintro _ w ⟨rfl, hs⟩
      replace h := hs.b 1 rfl
      refine ⟨fun _ => h, ?_⟩
      refine cur_end ⟨(win, out ++ bitsOf (x / 2 ^ win.trail) (heldN win.long)), ⟨rfl, rfl, rfl, rfl, rfl, rfl, trivial⟩, hwo, ?_, hs.f 1⟩
      rw [heldN_nat hll, List.append_assoc]; exact he
    clear h
    rintro ⟨win, out⟩ w e ⟨hwo, he, h⟩
    dsimp only at hwo he h ⊢
    refine c_region ?_
    refine r_v (q_add rfl rfl) rfl ?_
    refine r_is (.int .i64 ((i + 1 : Nat) : Int)) (by rw [wrap64 (by omega) (by omega)]; rfl) ?_
    refine r_v (q_moveI rfl) rfl ?_
    refine r_nil ⟨(i + 1, win, out), ⟨rfl, rfl, rfl, rfl, rfl, rfl, trivial⟩, ⟨hlt, hwo, (fun h => by cases h), fun _ => ?_, h⟩, by dsimp only; omega⟩
    dsimp only
    rw [Nat.add_sub_cancel, show vs.getD i 0 = now by rw [List.getD, hg]; rfl]
    exact he
  have hin' : i = vs.length := by simp at hc; omega
  refine c_exit ?_
  have : out = bs ++ xorBits vs := by
    rcases Nat.eq_zero_or_pos i with h0 | h0
    · rw [(h00 h0).2]
      have : vs = [] := List.eq_nil_of_length_eq_zero (by omega)
      rw [this]; simp [xorBits]
    · have := hnz h0
      rw [hin', List.drop_length, xorRest, List.append_nil] at this
      exact this
  rw [← this]
  exact (show (packv [] : Value) = .tuple #[] ∧ _ from ⟨rfl, h.drop⟩)
end
end Go.Proofs.YtjjacchnalemaaaDoor
