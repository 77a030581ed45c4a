/- chnk: heads, opening chunks. -/
import Derived.Test.YtjjacchnalemaaaDoorChnk
namespace Go.Proofs.YtjjacchnalemaaaDoor
open Go.Hw
set_option maxHeartbeats 4000000
set_option maxRecDepth 100000
section
variable {w0 w : World} {l : List HProp}
/-- What a head's reader answers. -/
abbrev HeadOf (w0 : World) (l : List HProp) (bs : List UInt8) (v : Value) : Prop :=
  (headDec bs = none ∧ v = .tuple [.agg hdZ.toArray, .slice none 0 0, .bool false].toArray) ∨
  ∃ hd rest a c, headDec bs = some (hd, rest) ∧ v = .tuple [.agg (hdC hd).toArray, .slice a rest.length c, .bool true].toArray ∧ rest.length ≤ c ∧ rest.length ≤ bs.length ∧ hd.count ≤ 65535 ∧ hd.tag ≤ 6 ∧ Reads w0 l 1 a rest.length (bytesV rest)
theorem chnk_head {sl : Option Addr} {c : Nat} {bs : List UInt8} (hn : bs.length ≤ 140737488355328) (hc : bs.length ≤ c) (hr : Reads w0 l 1 sl bs.length (bytesV bs)) (h : St w0 l w) :
    Ret Tryd.prog 54 [.slice sl bs.length c] w fun v w' => HeadOf w0 l bs v ∧ St w0 l w' := by
  refine enter Tryd.func54 rfl Tryd.results54 Tryd.ntmps54 rfl ?_
  refine c_seq (c_region ?_)
  refine r_c rfl (x_alloc h fun b2 w h => ?_)
  replace h : St w0 (pt b2 (.cells hdZ.toArray 46 (0, 0)) :: l) w := h
  refine r_v (q_assignS rfl) rfl ?_; refine r_v (q_assignB rfl) rfl ?_
  refine r_nil ?_
  cases bs with
  | nil =>
    refine c_seq (c_seq (c_region ?_))
    refine r_v (q_moveS rfl) rfl ?_; refine r_v (q_len rfl) rfl ?_
    refine r_v (q_is (v' := .bool true) (q_eql rfl rfl) rfl) rfl ?_
    refine r_v (q_moveB rfl) rfl ?_; (first | refine r_gd rfl rfl ?_ | refine r_gn rfl rfl rfl ?_ | refine r_gu rfl rfl ?_ | refine r_gd rfl (by assumption) ?_ | refine r_gn rfl (by assumption) rfl ?_); (first | refine r_gd rfl rfl ?_ | refine r_gn rfl rfl rfl ?_ | refine r_gu rfl rfl ?_ | refine r_gd rfl (by assumption) ?_ | refine r_gn rfl (by assumption) rfl ?_); (first | refine r_gd rfl rfl ?_ | refine r_gn rfl rfl rfl ?_ | refine r_gu rfl rfl ?_ | refine r_gd rfl (by assumption) ?_ | refine r_gn rfl (by assumption) rfl ?_); (first | refine r_gd rfl rfl ?_ | refine r_gn rfl rfl rfl ?_ | refine r_gu rfl rfl ?_ | refine r_gd rfl (by assumption) ?_ | refine r_gn rfl (by assumption) rfl ?_); (first | refine r_v (q_pick1 rfl rfl rfl) rfl ?_ | refine r_v (q_pick0 rfl rfl rfl) rfl ?_ | refine r_v (q_pick1 rfl (by assumption) rfl) rfl ?_ | refine r_v (q_pick0 rfl (by assumption) rfl) rfl ?_ | refine r_v (q_pickB rfl rfl rfl) rfl ?_); refine r_v (q_moveB rfl) rfl ?_; (first | refine r_gd rfl rfl ?_ | refine r_gn rfl rfl rfl ?_ | refine r_gu rfl rfl ?_ | refine r_gd rfl (by assumption) ?_ | refine r_gn rfl (by assumption) rfl ?_); (first | refine r_gd rfl rfl ?_ | refine r_gn rfl rfl rfl ?_ | refine r_gu rfl rfl ?_ | refine r_gd rfl (by assumption) ?_ | refine r_gn rfl (by assumption) rfl ?_); (first | refine r_gd rfl rfl ?_ | refine r_gn rfl rfl rfl ?_ | refine r_gu rfl rfl ?_ | refine r_gd rfl (by assumption) ?_ | refine r_gn rfl (by assumption) rfl ?_); (first | refine r_gd rfl rfl ?_ | refine r_gn rfl rfl rfl ?_ | refine r_gu rfl rfl ?_ | refine r_gd rfl (by assumption) ?_ | refine r_gn rfl (by assumption) rfl ?_); (first | refine r_v (q_pick1 rfl rfl rfl) rfl ?_ | refine r_v (q_pick0 rfl rfl rfl) rfl ?_ | refine r_v (q_pick1 rfl (by assumption) rfl) rfl ?_ | refine r_v (q_pick0 rfl (by assumption) rfl) rfl ?_ | refine r_v (q_pickB rfl rfl rfl) rfl ?_)
    refine r_nil (c_true rfl ?_)
    refine c_seq (c_region ?_)
    refine r_v (q_build (r := hdZ) rfl) rfl ?_
    refine r_c rfl (x_storeA (vs := hdZ) 0 h rfl rfl rfl rfl rfl rfl rfl fun w h => ?_)
    replace h : St w0 (pt b2 (.cells hdZ.toArray 46 (0, 0)) :: l) w := h
    refine r_v (q_assignS rfl) rfl ?_; refine r_v (q_assignB rfl) rfl ?_
    refine r_nil ?_
    exact c_ret (bqS3 (l := hdZ) rfl rfl (at_of (h.b 0 rfl) rfl) ⟨.inl ⟨rfl, rfl⟩, h.drop⟩)
  | cons ch r =>
  have hdef : headDec (ch :: r) = _ := rfl
  conv at hdef => rhs; unfold headDec
  dsimp only at hdef
  have hlc : (ch :: r).length = r.length + 1 := rfl
  obtain ⟨b, o, hsl⟩ := (hr.cons.at_ h).some (by simp)
  have hc0 : ∀ {M : List HProp} {w'}, St w0 (M ++ l) w' → w'.cell? ⟨b, o, none⟩ = some (.int .u8 ch.toNat) := fun {M} {w'} h' => by
    have := (hsl ▸ hr M _ h').cell (bytesV_get (bs := ch :: r) (j := 0) rfl); simpa using this
  refine c_cut (Γ := Unit) (fun _ => [(0, .slice sl (ch :: r).length c), (2, .pointer (some ⟨b2, 0, none⟩))]) (fun _ w => ¬ (ch.toNat < 1 ∨ 6 < ch.toNat) ∧ St w0 (pt b2 (.cells hdZ.toArray 46 (0, 0)) :: l) w) ?_ ?_
  · refine c_seq (c_region ?_)
    refine r_v (q_moveS rfl) rfl ?_; refine r_v (q_len rfl) rfl ?_
    refine r_v (q_is (v' := .bool false) (q_eql rfl rfl) (by congr 1)) rfl ?_
    refine r_v (q_moveB rfl) rfl ?_; (first | refine r_gd rfl rfl ?_ | refine r_gn rfl rfl rfl ?_ | refine r_gu rfl rfl ?_ | refine r_gd rfl (by assumption) ?_ | refine r_gn rfl (by assumption) rfl ?_); refine r_v (q_moveS rfl) rfl ?_; (first | refine r_gd rfl rfl ?_ | refine r_gn rfl rfl rfl ?_ | refine r_gu rfl rfl ?_ | refine r_gd rfl (by assumption) ?_ | refine r_gn rfl (by assumption) rfl ?_)
    refine r_v (q_idx (b := b) (o := o) (m := (ch :: r).length) (c := c) (j := 0) (o' := o) (by rw [← hsl]; rfl) rfl rfl (by simp) (by simp)) rfl ?_
    refine r_gd rfl rfl ?_
    refine r_v (q_loadc (v := .int .u8 ch.toNat) rfl (hc0 (M := [_]) h)) rfl ?_
    refine r_gd rfl rfl ?_
    by_cases g1 : ch.toNat < 1
    · refine r_v (q_is (v' := .bool true) (q_lss rfl rfl) (by congr 1; simp; omega)) rfl ?_
      (first | refine r_v (q_pick1 rfl rfl rfl) rfl ?_ | refine r_v (q_pick0 rfl rfl rfl) rfl ?_ | refine r_v (q_pick1 rfl (by assumption) rfl) rfl ?_ | refine r_v (q_pick0 rfl (by assumption) rfl) rfl ?_ | refine r_v (q_pickB rfl rfl rfl) rfl ?_); refine r_v (q_moveB rfl) rfl ?_; (first | refine r_gd rfl rfl ?_ | refine r_gn rfl rfl rfl ?_ | refine r_gu rfl rfl ?_ | refine r_gd rfl (by assumption) ?_ | refine r_gn rfl (by assumption) rfl ?_); (first | refine r_gd rfl rfl ?_ | refine r_gn rfl rfl rfl ?_ | refine r_gu rfl rfl ?_ | refine r_gd rfl (by assumption) ?_ | refine r_gn rfl (by assumption) rfl ?_); (first | refine r_gd rfl rfl ?_ | refine r_gn rfl rfl rfl ?_ | refine r_gu rfl rfl ?_ | refine r_gd rfl (by assumption) ?_ | refine r_gn rfl (by assumption) rfl ?_); (first | refine r_gd rfl rfl ?_ | refine r_gn rfl rfl rfl ?_ | refine r_gu rfl rfl ?_ | refine r_gd rfl (by assumption) ?_ | refine r_gn rfl (by assumption) rfl ?_); (first | refine r_v (q_pick1 rfl rfl rfl) rfl ?_ | refine r_v (q_pick0 rfl rfl rfl) rfl ?_ | refine r_v (q_pick1 rfl (by assumption) rfl) rfl ?_ | refine r_v (q_pick0 rfl (by assumption) rfl) rfl ?_ | refine r_v (q_pickB rfl rfl rfl) rfl ?_)
      refine r_nil (c_true rfl ?_)
      refine c_seq (c_region ?_)
      refine r_v (q_build (r := hdZ) rfl) rfl ?_
      refine r_c rfl (x_storeA (vs := hdZ) 0 h rfl rfl rfl rfl rfl rfl rfl fun w h => ?_)
      replace h : St w0 (pt b2 (.cells hdZ.toArray 46 (0, 0)) :: l) w := h
      refine r_v (q_assignS rfl) rfl ?_; refine r_v (q_assignB rfl) rfl ?_
      refine r_nil ?_
      exact c_ret (bqS3 (l := hdZ) rfl rfl (at_of (h.b 0 rfl) rfl) ⟨.inl ⟨by rw [hdef, if_pos (.inl g1)], rfl⟩, h.drop⟩)
    refine r_v (q_is (v' := .bool false) (q_lss rfl rfl) (by congr 1; simp; omega)) rfl ?_
    (first | refine r_v (q_pick1 rfl rfl rfl) rfl ?_ | refine r_v (q_pick0 rfl rfl rfl) rfl ?_ | refine r_v (q_pick1 rfl (by assumption) rfl) rfl ?_ | refine r_v (q_pick0 rfl (by assumption) rfl) rfl ?_ | refine r_v (q_pickB rfl rfl rfl) rfl ?_); refine r_v (q_moveB rfl) rfl ?_; (first | refine r_gd rfl rfl ?_ | refine r_gn rfl rfl rfl ?_ | refine r_gu rfl rfl ?_ | refine r_gd rfl (by assumption) ?_ | refine r_gn rfl (by assumption) rfl ?_); refine r_v (q_moveS rfl) rfl ?_; (first | refine r_gd rfl rfl ?_ | refine r_gn rfl rfl rfl ?_ | refine r_gu rfl rfl ?_ | refine r_gd rfl (by assumption) ?_ | refine r_gn rfl (by assumption) rfl ?_)
    refine r_v (q_idx (b := b) (o := o) (m := (ch :: r).length) (c := c) (j := 0) (o' := o) (by rw [← hsl]; rfl) rfl rfl (by simp) (by simp)) rfl ?_
    refine r_gd rfl rfl ?_
    refine r_v (q_loadc (v := .int .u8 ch.toNat) rfl (hc0 (M := [_]) h)) rfl ?_
    (first | refine r_gd rfl rfl ?_ | refine r_gn rfl rfl rfl ?_ | refine r_gu rfl rfl ?_ | refine r_gd rfl (by assumption) ?_ | refine r_gn rfl (by assumption) rfl ?_); refine r_v (q_gtr rfl rfl) rfl ?_; (first | refine r_v (q_pick1 rfl rfl rfl) rfl ?_ | refine r_v (q_pick0 rfl rfl rfl) rfl ?_ | refine r_v (q_pick1 rfl (by assumption) rfl) rfl ?_ | refine r_v (q_pick0 rfl (by assumption) rfl) rfl ?_ | refine r_v (q_pickB rfl rfl rfl) rfl ?_)
    refine r_nil (c_cond (decide ((ch.toNat : Int) > 6)) rfl (fun hc1 => ?_) (fun hc1 => ?_))
    · refine c_seq (c_region ?_)
      refine r_v (q_build (r := hdZ) rfl) rfl ?_
      refine r_c rfl (x_storeA (vs := hdZ) 0 h rfl rfl rfl rfl rfl rfl rfl fun w h => ?_)
      replace h : St w0 (pt b2 (.cells hdZ.toArray 46 (0, 0)) :: l) w := h
      refine r_v (q_assignS rfl) rfl ?_; refine r_v (q_assignB rfl) rfl ?_
      refine r_nil ?_
      exact c_ret (bqS3 (l := hdZ) rfl rfl (at_of (h.b 0 rfl) rfl) ⟨.inl ⟨by rw [hdef, if_pos (.inr (by simp at hc1; omega))], rfl⟩, h.drop⟩)
    · exact c_skip ⟨(), ⟨rfl, rfl, trivial⟩, by simp at hc1; omega, h⟩
  clear h
  rintro _ w e ⟨hcond, h⟩
  rw [if_neg hcond] at hdef
  have hrt := hr.tailB (i := 1) (by omega) hc
  rw [show (ch :: r).drop 1 = r from rfl] at hrt
  refine c_seq (c_region ?_)
  refine r_v (q_moveS rfl) rfl ?_
  refine r_v (q_tail (i := 1) rfl rfl (by omega)) rfl ?_
  show Rn _ _ _ _ _ (upd _ _ (.slice (adv sl (1 * 1) (Nat.beq c 1)) r.length (c - 1))) _
  refine r_v (q_assignS rfl) rfl ?_
  refine r_nil ?_
  refine c_seq (c_region ?_)
  refine r_c rfl (x_alloc h fun b6 w h => ?_)
  replace h : St w0 (pt b6 (.cells (u64V ([] ++ List.replicate (3 - 0) 0)).toArray 122 (0, 0)) :: pt b2 (.cells hdZ.toArray 46 (0, 0)) :: l) w := h
  refine r_nil ?_
  generalize hG : getVs 3 r = G at hdef
  refine c_cut (Γ := Nat × Nat × Nat × List UInt8 × Option Addr × Nat) (fun k => [(0, .slice sl (ch :: r).length c), (2, .pointer (some ⟨b2, 0, none⟩)), (5, .slice k.2.2.2.2.1 k.2.2.2.1.length k.2.2.2.2.2), (6, .pointer (some ⟨b6, 0, none⟩))])
    (fun k w => G = some ([k.1, k.2.1, k.2.2.1], k.2.2.2.1) ∧ k.1 < 18446744073709551616 ∧ k.2.1 < 18446744073709551616 ∧ k.2.2.1 < 18446744073709551616 ∧ k.2.2.2.1.length ≤ r.length ∧ k.2.2.2.1.length ≤ k.2.2.2.2.2 ∧ Reads w0 l 1 k.2.2.2.2.1 k.2.2.2.1.length (bytesV k.2.2.2.1) ∧ St w0 (pt b6 (.cells (u64V [k.1, k.2.1, k.2.2.1]).toArray 122 (0, 0)) :: pt b2 (.cells hdZ.toArray 46 (0, 0)) :: l) w) ?_ ?_
  · refine c_seq (c_region ?_)
    refine r_v (q_moveI rfl) rfl ?_
    refine r_nil ?_
    refine c_block ?_
    refine c_loop (Γ := Nat × List Nat × List UInt8 × Option Addr × Nat) (fun k => [(0, .slice sl (ch :: r).length c), (2, .pointer (some ⟨b2, 0, none⟩)), (5, .slice k.2.2.2.1 k.2.2.1.length k.2.2.2.2), (6, .pointer (some ⟨b6, 0, none⟩)), (29, .int .i64 k.1)])
      (fun k w => k.1 ≤ 3 ∧ k.2.1.length = k.1 ∧ (∀ x ∈ k.2.1, x < 18446744073709551616) ∧ G = (getVs (3 - k.1) k.2.2.1).map (fun q => (k.2.1 ++ q.1, q.2)) ∧ k.2.2.1.length ≤ r.length ∧ k.2.2.1.length ≤ k.2.2.2.2 ∧ Reads w0 l 1 k.2.2.2.1 k.2.2.1.length (bytesV k.2.2.1) ∧ St w0 (pt b6 (.cells (u64V (k.2.1 ++ List.replicate (3 - k.1) 0)).toArray 122 (0, 0)) :: pt b2 (.cells hdZ.toArray 46 (0, 0)) :: l) w)
      (fun k => 3 - k.1) (0, [], r, adv sl (1 * 1) (Nat.beq c 1), c - 1) ⟨rfl, rfl, rfl, rfl, rfl, trivial⟩ ⟨Nat.zero_le _, rfl, (fun _ h => by cases h), (by rw [← hG]; simp), Nat.le_refl _, (by dsimp only; omega), hrt, h⟩ ?_
    clear h
    rintro ⟨k, vals, rest, ra, rc⟩ w e ⟨hk, hvl, hv, inv, hrl, hrc, hrr, h⟩
    dsimp only at hk hvl hv inv hrl hrc hrr h ⊢
    refine c_seq (c_region ?_)
    refine r_v (q_lss rfl rfl) rfl ?_
    refine r_nil ?_
    refine c_seq (c_cond (decide ((k : Int) < 3)) rfl (fun hc1 => ?_) (fun hc1 => ?_))
    ·
      have hlt : k < 3 := by simp at hc1; omega
      rw [show 3 - k = (3 - (k + 1)) + 1 by omega, getVs] at inv
      have hk2 := vget_le rest
      have hx := vget_lt rest
      refine c_skip ?_
      refine c_seq (c_block ?_)
      refine c_seq (c_region ?_)
      refine r_v (q_moveI rfl) rfl ?_; refine r_v (q_assignI rfl) rfl ?_
      refine r_nil ?_
      refine c_seq (c_region ?_)
      refine r_v (q_moveS rfl) rfl ?_
      refine r_c rfl (x_call rfl (vint_Get h (hrr.more [_, _]).rd (by omega)) ?_)
      rintro _ w ⟨rfl, h⟩
      refine r_v (q_moveT rfl) rfl ?_; refine r_v (q_ext rfl rfl) rfl ?_; refine r_v (q_ext rfl rfl) rfl ?_; refine r_v (q_assignI rfl) rfl ?_; refine r_v (q_assignI rfl) rfl ?_
      refine r_nil ?_
      generalize (vget rest).1 = x at hx inv ⊢
      generalize (vget rest).2 = j at hk2 inv ⊢
      refine c_seq (c_seq (c_region ?_))
      refine r_v (q_moveI rfl) rfl ?_; refine r_v (q_eql rfl rfl) rfl ?_
      by_cases hj0 : j = 0
      · refine r_is (.bool true) (by rw [hj0]; rfl) ?_
        refine r_nil (c_true rfl ?_)
        refine c_seq (c_region ?_)
        refine r_v (q_build (r := hdZ) rfl) rfl ?_
        refine r_c rfl (x_storeA (vs := hdZ) 1 h rfl rfl rfl rfl rfl rfl rfl fun w h => ?_)
        replace h := h.drop
        replace h : St w0 (pt b2 (.cells hdZ.toArray 46 (0, 0)) :: l) w := h
        refine r_v (q_assignS rfl) rfl ?_; refine r_v (q_assignB rfl) rfl ?_
        refine r_nil ?_
        rw [if_pos hj0] at inv
        exact c_ret (bqS3 (l := hdZ) rfl rfl (at_of (h.b 0 rfl) rfl) ⟨.inl ⟨by rw [hdef, inv]; rfl, rfl⟩, h.drop⟩)
      refine r_is (.bool false) (by congr 1; rw [beq_eq_false_iff_ne]; omega) ?_
      refine r_nil (c_false rfl (c_skip ?_))
      rw [if_neg hj0, Option.map_map] at inv
      have hrt := hrr.tailB hk2 hrc
      refine c_any (some 6) (fun w => St w0 _ w) (by kernel_rfl) (by kernel_rfl) h.drew fun w h => ?_
      refine cur_pure rfl rfl rfl rfl (fun _ => h) (fun _ => flt_v rfl (q_moveI rfl)) ?_; refine cur_pure rfl rfl rfl rfl (fun _ => h) (fun _ => flt_v rfl (q_moveI rfl)) ?_; refine cur_pure rfl rfl rfl rfl (fun _ => h) (fun _ => flt_v rfl (q_moveS rfl)) ?_; refine cur_pure rfl rfl rfl rfl (fun _ => h) (fun _ => flt_v rfl (q_moveI rfl)) ?_
      refine cur_pure rfl rfl rfl rfl (fun _ => h) (fun _ => flt_v rfl (q_is (v' := .slice (adv ra (j * 1) (Nat.beq rc j)) (rest.drop j).length (rc - j)) (q_tail (i := j) rfl rfl hk2) (by rw [List.length_drop]; rfl))) ?_
      refine cur_pure rfl rfl rfl rfl (fun _ => h) (fun _ => flt_v rfl (q_aidx (j := k) (o' := k) rfl rfl rfl hlt (by simp))) ?_
      refine cur_skip ?_; refine cur_skip ?_
      refine cur_step 6 none rfl rfl rfl rfl ?_
      refine x_store 0 h rfl (show _ = Value.int .u64 (x : Int) from rfl) rfl (by rw [Nat.blt_eq]; simp [u64V]; omega) rfl rfl fun w h => ?_
      simp only [List.set_cons_zero] at h
      rw [u64V_set3 hvl hlt] at h
      refine cur_from h ?_
      refine cur_pure rfl rfl rfl rfl (fun _ => h) (fun _ => flt_v rfl (q_assignS rfl)) ?_
      refine cur_end ?_
      refine c_region ?_
      refine r_v (q_add rfl rfl) rfl ?_
      refine r_is (.int .i64 ((k + 1 : Nat) : Int)) (by rw [wrap64 (by omega) (by omega)]; rfl) ?_
      refine r_v (q_moveI rfl) rfl ?_
      refine r_nil ⟨(k + 1, vals ++ [x], rest.drop j, adv ra (j * 1) (Nat.beq rc j), rc - j), ⟨rfl, rfl, rfl, rfl, rfl, trivial⟩, ⟨hlt, by simp; omega, fun z hz => ?_, ?_, by dsimp only; rw [List.length_drop]; omega, by dsimp only; rw [List.length_drop]; omega, hrt, h⟩, by dsimp only; omega⟩
      · rcases List.mem_append.1 hz with hz | hz
        · exact hv z hz
        · simp at hz; subst hz; exact hx
      · dsimp only
        rw [inv]
        congr 1
        funext q
        simp
    have hk3 : k = 3 := by simp at hc1; omega
    subst hk3
    rw [Nat.sub_self, getVs, Option.map_some, List.append_nil] at inv
    rw [Nat.sub_self, List.replicate_zero, List.append_nil] at h
    match vals, hvl with
    | [v0, v1, v2], _ =>
      exact c_exit ⟨(v0, v1, v2, rest, ra, rc), ⟨rfl, rfl, rfl, rfl, trivial⟩, inv, hv v0 (by simp), hv v1 (by simp), hv v2 (by simp), hrl, hrc, hrr, h⟩
  clear h
  rintro ⟨v0, v1, v2, rest, ra, rc⟩ w e ⟨hGs, hv0, hv1, hv2, hrl, hrc, hrr, h⟩
  dsimp only at hGs hv0 hv1 hv2 hrl hrc hrr h ⊢
  rw [hGs] at hdef
  dsimp only at hdef
  rw [show [v0, v1, v2].getD 0 0 = v0 from rfl, show [v0, v1, v2].getD 1 0 = v1 from rfl, show [v0, v1, v2].getD 2 0 = v2 from rfl, show hdOf ch [v0, v1, v2] = ⟨ch.toNat, v0, sg (zagU v1), sg (zagU v2)⟩ from rfl] at hdef
  have hch := ch.toNat_lt
  refine c_cut (Γ := Nat) (fun b10 => [(2, .pointer (some ⟨b2, 0, none⟩)), (5, .slice ra rest.length rc), (10, .pointer (some ⟨b10, 0, none⟩))])
    (fun b10 w => St w0 (pt b10 (.cells (hdC ⟨ch.toNat, min v0 65536, sg (zagU v1), sg (zagU v2)⟩).toArray 46 (0, 0)) :: pt b2 (.cells hdZ.toArray 46 (0, 0)) :: l) w) ?_ ?_
  · have hcc : ∀ {w'}, (∃ M, St w0 (M ++ (pt b6 (.cells (u64V [v0, v1, v2]).toArray 122 (0, 0)) :: pt b2 (.cells hdZ.toArray 46 (0, 0)) :: l)) w') → w'.cell? ⟨b, o, none⟩ = some (.int .u8 ch.toNat) := fun ⟨M, h'⟩ => hc0 (M := []) ((h'.drops).drop.drop)
    have hca : ∀ {w'}, (∃ M, St w0 (M ++ (pt b6 (.cells (u64V [v0, v1, v2]).toArray 122 (0, 0)) :: pt b2 (.cells hdZ.toArray 46 (0, 0)) :: l)) w') → w'.heap[b6]? = some (.cells (u64V [v0, v1, v2]).toArray 122 (0, 0)) := fun ⟨M, h'⟩ => (h'.drops).b 0 rfl
    refine c_anyW [0, 1, 2, 3, 4, 5, 6, 7, 8, 9, 10, 11, 12, 13, 14, 15, 16] (some 16) (fun w => ∃ M, St w0 (M ++ (pt b6 (.cells (u64V [v0, v1, v2]).toArray 122 (0, 0)) :: pt b2 (.cells hdZ.toArray 46 (0, 0)) :: l)) w) (by kernel_rfl) (by kernel_rfl) ?_
    replace h := h.drew
    generalize w.drew = w at h
    have hs := h
    replace h : ∃ M, St w0 (M ++ (pt b6 (.cells (u64V [v0, v1, v2]).toArray 122 (0, 0)) :: pt b2 (.cells hdZ.toArray 46 (0, 0)) :: l)) w := ⟨[], hs⟩
    refine cur_pure rfl rfl rfl rfl (fun _ => h) (fun _ => flt_v rfl (q_moveS rfl)) ?_
    refine cur_pure rfl rfl rfl rfl (fun _ => h) (fun _ => flt_v rfl (q_idx (b := b) (o := o) (m := (ch :: r).length) (c := c) (j := 0) (o' := o) (by rw [← hsl]; rfl) rfl rfl (by simp) (by simp))) ?_
    refine cur_float rfl rfl rfl rfl h (fun w h => flt_v rfl (q_loadc (v := .int .u8 ch.toNat) rfl (hcc h))) ?_
    refine cur_pure rfl rfl rfl rfl (fun _ => h) (fun _ => flt_v rfl (q_is (v' := .int .i64 (ch.toNat : Int)) (q_conv rfl) (by rw [wrap64 (by omega) (by omega)]))) ?_
    refine cur_pure rfl rfl rfl rfl (fun _ => h) (fun _ => flt_v rfl (q_aidx (j := 0) (o' := 0) rfl rfl rfl (by decide) rfl)) ?_
    refine cur_float rfl rfl rfl rfl h (fun w h => flt_v rfl (q_load (v := .int .u64 (v0 : Int)) rfl (hca h) rfl)) ?_
    refine cur_pure rfl rfl rfl rfl (fun _ => h) (fun _ => flt_v rfl (q_is (v' := .int .u64 ((min v0 65536 : Nat) : Int)) (q_min rfl rfl) (by congr 1; omega))) ?_
    refine cur_pure rfl rfl rfl rfl (fun _ => h) (fun _ => flt_v rfl (q_is (v' := .int .i64 ((min v0 65536 : Nat) : Int)) (q_conv rfl) (by rw [wrap64 (by omega) (by omega)]))) ?_
    refine cur_pure rfl rfl rfl rfl (fun _ => h) (fun _ => flt_v rfl (q_aidx (j := 1) (o' := 1) rfl rfl rfl (by decide) rfl)) ?_
    refine cur_float rfl rfl rfl rfl h (fun w h => flt_v rfl (q_load (v := .int .u64 (v1 : Int)) rfl (hca h) rfl)) ?_
    refine cur_skip ?_
    refine cur_pure rfl rfl rfl rfl (fun _ => h) (fun _ => flt_v rfl (q_aidx (j := 2) (o' := 2) rfl rfl rfl (by decide) rfl)) ?_
    refine cur_float rfl rfl rfl rfl h (fun w h => flt_v rfl (q_load (v := .int .u64 (v2 : Int)) rfl (hca h) rfl)) ?_
    refine cur_skip ?_; refine cur_skip ?_; refine cur_skip ?_; refine cur_skip ?_
    refine cur_two 10 15 rfl rfl rfl rfl rfl rfl ?_ ?_
    · refine (x_call rfl (vint_Zag hv1 hs) ?_)
      rintro _ w ⟨rfl, hs⟩
      replace h : ∃ M, St w0 (M ++ (pt b6 (.cells (u64V [v0, v1, v2]).toArray 122 (0, 0)) :: pt b2 (.cells hdZ.toArray 46 (0, 0)) :: l)) w := ⟨[], hs⟩
      refine ⟨fun _ => h, ?_⟩
      refine cur_skip ?_; refine cur_skip ?_; refine cur_skip ?_; refine cur_skip ?_
      refine cur_two 13 15 rfl rfl rfl rfl rfl rfl ?_ ?_
      · refine (x_call rfl (vint_Zag hv2 hs) ?_)
        rintro _ w ⟨rfl, hs⟩
        replace h : ∃ M, St w0 (M ++ (pt b6 (.cells (u64V [v0, v1, v2]).toArray 122 (0, 0)) :: pt b2 (.cells hdZ.toArray 46 (0, 0)) :: l)) w := ⟨[], hs⟩
        refine ⟨fun _ => h, ?_⟩
        refine cur_pure rfl rfl rfl rfl (fun _ => h) (fun _ => flt_v rfl (q_build (r := hdC ⟨ch.toNat, min v0 65536, sg (zagU v1), sg (zagU v2)⟩) rfl)) ?_
        refine cur_skip ?_; refine cur_skip ?_
        refine cur_one 15 rfl rfl rfl rfl ?_
        refine (x_alloc hs fun b10 w hs => ?_)
        replace h : ∃ M, St w0 (M ++ (pt b6 (.cells (u64V [v0, v1, v2]).toArray 122 (0, 0)) :: pt b2 (.cells hdZ.toArray 46 (0, 0)) :: l)) w := ⟨[_], hs⟩
        refine ⟨fun _ => h, ?_⟩
        refine cur_skip ?_
        refine cur_last 16 rfl rfl rfl ?_
        refine x_storeA (vs := hdC ⟨ch.toNat, min v0 65536, sg (zagU v1), sg (zagU v2)⟩) 0 hs rfl rfl rfl rfl rfl rfl rfl fun w hs => ?_
        exact ⟨b10, ⟨rfl, rfl, rfl, trivial⟩, (hs.f 1).drop⟩
      · refine (x_alloc hs fun b10 w hs => ?_)
        replace h : ∃ M, St w0 (M ++ (pt b6 (.cells (u64V [v0, v1, v2]).toArray 122 (0, 0)) :: pt b2 (.cells hdZ.toArray 46 (0, 0)) :: l)) w := ⟨[_], hs⟩
        refine ⟨fun _ => h, ?_⟩
        refine cur_skip ?_; refine cur_skip ?_; refine cur_skip ?_
        refine cur_one 13 rfl rfl rfl rfl ?_
        refine (x_call rfl (vint_Zag hv2 hs) ?_)
        rintro _ w ⟨rfl, hs⟩
        replace h : ∃ M, St w0 (M ++ (pt b6 (.cells (u64V [v0, v1, v2]).toArray 122 (0, 0)) :: pt b2 (.cells hdZ.toArray 46 (0, 0)) :: l)) w := ⟨[_], hs⟩
        refine ⟨fun _ => h, ?_⟩
        refine cur_pure rfl rfl rfl rfl (fun _ => h) (fun _ => flt_v rfl (q_build (r := hdC ⟨ch.toNat, min v0 65536, sg (zagU v1), sg (zagU v2)⟩) rfl)) ?_
        refine cur_skip ?_
        refine cur_last 16 rfl rfl rfl ?_
        refine x_storeA (vs := hdC ⟨ch.toNat, min v0 65536, sg (zagU v1), sg (zagU v2)⟩) 0 hs rfl rfl rfl rfl rfl rfl rfl fun w hs => ?_
        exact ⟨b10, ⟨rfl, rfl, rfl, trivial⟩, (hs.f 1).drop⟩
    · refine (x_alloc hs fun b10 w hs => ?_)
      replace h : ∃ M, St w0 (M ++ (pt b6 (.cells (u64V [v0, v1, v2]).toArray 122 (0, 0)) :: pt b2 (.cells hdZ.toArray 46 (0, 0)) :: l)) w := ⟨[_], hs⟩
      refine ⟨fun _ => h, ?_⟩
      refine cur_skip ?_; refine cur_skip ?_; refine cur_skip ?_; refine cur_skip ?_
      refine cur_one 10 rfl rfl rfl rfl ?_
      refine (x_call rfl (vint_Zag hv1 hs) ?_)
      rintro _ w ⟨rfl, hs⟩
      replace h : ∃ M, St w0 (M ++ (pt b6 (.cells (u64V [v0, v1, v2]).toArray 122 (0, 0)) :: pt b2 (.cells hdZ.toArray 46 (0, 0)) :: l)) w := ⟨[_], hs⟩
      refine ⟨fun _ => h, ?_⟩
      refine cur_skip ?_; refine cur_skip ?_; refine cur_skip ?_
      refine cur_one 13 rfl rfl rfl rfl ?_
      refine (x_call rfl (vint_Zag hv2 hs) ?_)
      rintro _ w ⟨rfl, hs⟩
      replace h : ∃ M, St w0 (M ++ (pt b6 (.cells (u64V [v0, v1, v2]).toArray 122 (0, 0)) :: pt b2 (.cells hdZ.toArray 46 (0, 0)) :: l)) w := ⟨[_], hs⟩
      refine ⟨fun _ => h, ?_⟩
      refine cur_pure rfl rfl rfl rfl (fun _ => h) (fun _ => flt_v rfl (q_build (r := hdC ⟨ch.toNat, min v0 65536, sg (zagU v1), sg (zagU v2)⟩) rfl)) ?_
      refine cur_skip ?_
      refine cur_last 16 rfl rfl rfl ?_
      refine x_storeA (vs := hdC ⟨ch.toNat, min v0 65536, sg (zagU v1), sg (zagU v2)⟩) 0 hs rfl rfl rfl rfl rfl rfl rfl fun w hs => ?_
      exact ⟨b10, ⟨rfl, rfl, rfl, trivial⟩, (hs.f 1).drop⟩
  clear h
  rintro b10 w e h
  refine c_cut (Γ := Unit) (fun _ => [(2, .pointer (some ⟨b2, 0, none⟩)), (5, .slice ra rest.length rc), (10, .pointer (some ⟨b10, 0, none⟩))])
    (fun _ w => ¬ (v0 < 1 ∨ 65535 < v0 ∨ sg (zagU v2) < sg (zagU v1)) ∧ St w0 (pt b10 (.cells (hdC ⟨ch.toNat, min v0 65536, sg (zagU v1), sg (zagU v2)⟩).toArray 46 (0, 0)) :: pt b2 (.cells hdZ.toArray 46 (0, 0)) :: l) w) ?_ ?_
  · refine c_seq (c_region ?_)
    refine r_v (q_fa rfl) rfl ?_
    refine r_v (q_load (v := .int .i64 ((min v0 65536 : Nat) : Int)) rfl (h.b 0 rfl) rfl) rfl ?_
    by_cases g1 : v0 < 1
    · refine r_v (q_is (v' := .bool true) (q_lss rfl rfl) (by congr 1; simp; omega)) rfl ?_
      refine r_v (q_moveB rfl) rfl ?_; (first | refine r_gd rfl rfl ?_ | refine r_gn rfl rfl rfl ?_ | refine r_gu rfl rfl ?_ | refine r_gd rfl (by assumption) ?_ | refine r_gn rfl (by assumption) rfl ?_); (first | refine r_gd rfl rfl ?_ | refine r_gn rfl rfl rfl ?_ | refine r_gu rfl rfl ?_ | refine r_gd rfl (by assumption) ?_ | refine r_gn rfl (by assumption) rfl ?_); (first | refine r_gd rfl rfl ?_ | refine r_gn rfl rfl rfl ?_ | refine r_gu rfl rfl ?_ | refine r_gd rfl (by assumption) ?_ | refine r_gn rfl (by assumption) rfl ?_); (first | refine r_v (q_pick1 rfl rfl rfl) rfl ?_ | refine r_v (q_pick0 rfl rfl rfl) rfl ?_ | refine r_v (q_pick1 rfl (by assumption) rfl) rfl ?_ | refine r_v (q_pick0 rfl (by assumption) rfl) rfl ?_ | refine r_v (q_pickB rfl rfl rfl) rfl ?_); refine r_v (q_moveB rfl) rfl ?_; (first | refine r_gd rfl rfl ?_ | refine r_gn rfl rfl rfl ?_ | refine r_gu rfl rfl ?_ | refine r_gd rfl (by assumption) ?_ | refine r_gn rfl (by assumption) rfl ?_); (first | refine r_gd rfl rfl ?_ | refine r_gn rfl rfl rfl ?_ | refine r_gu rfl rfl ?_ | refine r_gd rfl (by assumption) ?_ | refine r_gn rfl (by assumption) rfl ?_); (first | refine r_gd rfl rfl ?_ | refine r_gn rfl rfl rfl ?_ | refine r_gu rfl rfl ?_ | refine r_gd rfl (by assumption) ?_ | refine r_gn rfl (by assumption) rfl ?_); (first | refine r_gd rfl rfl ?_ | refine r_gn rfl rfl rfl ?_ | refine r_gu rfl rfl ?_ | refine r_gd rfl (by assumption) ?_ | refine r_gn rfl (by assumption) rfl ?_); (first | refine r_gd rfl rfl ?_ | refine r_gn rfl rfl rfl ?_ | refine r_gu rfl rfl ?_ | refine r_gd rfl (by assumption) ?_ | refine r_gn rfl (by assumption) rfl ?_); (first | refine r_v (q_pick1 rfl rfl rfl) rfl ?_ | refine r_v (q_pick0 rfl rfl rfl) rfl ?_ | refine r_v (q_pick1 rfl (by assumption) rfl) rfl ?_ | refine r_v (q_pick0 rfl (by assumption) rfl) rfl ?_ | refine r_v (q_pickB rfl rfl rfl) rfl ?_)
      refine r_nil (c_true rfl ?_)
      refine c_seq (c_region ?_)
      refine r_v (q_build (r := hdZ) rfl) rfl ?_
      refine r_c rfl (x_storeA (vs := hdZ) 1 h rfl rfl rfl rfl rfl rfl rfl fun w h => ?_)
      replace h := h.drop
      replace h : St w0 (pt b2 (.cells hdZ.toArray 46 (0, 0)) :: l) w := h
      refine r_v (q_assignS rfl) rfl ?_; refine r_v (q_assignB rfl) rfl ?_
      refine r_nil ?_
      exact c_ret (bqS3 (l := hdZ) rfl rfl (at_of (h.b 0 rfl) rfl) ⟨.inl ⟨by rw [hdef, if_pos (.inl g1)], rfl⟩, h.drop⟩)
    refine r_v (q_is (v' := .bool false) (q_lss rfl rfl) (by congr 1; simp; omega)) rfl ?_
    refine r_v (q_moveB rfl) rfl ?_; (first | refine r_gd rfl rfl ?_ | refine r_gn rfl rfl rfl ?_ | refine r_gu rfl rfl ?_ | refine r_gd rfl (by assumption) ?_ | refine r_gn rfl (by assumption) rfl ?_); refine r_v (q_fa rfl) rfl ?_; (first | refine r_gd rfl rfl ?_ | refine r_gn rfl rfl rfl ?_ | refine r_gu rfl rfl ?_ | refine r_gd rfl (by assumption) ?_ | refine r_gn rfl (by assumption) rfl ?_)
    refine r_v (q_load (v := .int .i64 ((min v0 65536 : Nat) : Int)) rfl (h.b 0 rfl) rfl) rfl ?_
    refine r_gd rfl rfl ?_
    by_cases g2 : 65535 < v0
    · refine r_v (q_is (v' := .bool true) (q_gtr rfl rfl) (by congr 1; simp; omega)) rfl ?_
      (first | refine r_v (q_pick1 rfl rfl rfl) rfl ?_ | refine r_v (q_pick0 rfl rfl rfl) rfl ?_ | refine r_v (q_pick1 rfl (by assumption) rfl) rfl ?_ | refine r_v (q_pick0 rfl (by assumption) rfl) rfl ?_ | refine r_v (q_pickB rfl rfl rfl) rfl ?_); refine r_v (q_moveB rfl) rfl ?_; (first | refine r_gd rfl rfl ?_ | refine r_gn rfl rfl rfl ?_ | refine r_gu rfl rfl ?_ | refine r_gd rfl (by assumption) ?_ | refine r_gn rfl (by assumption) rfl ?_); (first | refine r_gd rfl rfl ?_ | refine r_gn rfl rfl rfl ?_ | refine r_gu rfl rfl ?_ | refine r_gd rfl (by assumption) ?_ | refine r_gn rfl (by assumption) rfl ?_); (first | refine r_gd rfl rfl ?_ | refine r_gn rfl rfl rfl ?_ | refine r_gu rfl rfl ?_ | refine r_gd rfl (by assumption) ?_ | refine r_gn rfl (by assumption) rfl ?_); (first | refine r_gd rfl rfl ?_ | refine r_gn rfl rfl rfl ?_ | refine r_gu rfl rfl ?_ | refine r_gd rfl (by assumption) ?_ | refine r_gn rfl (by assumption) rfl ?_); (first | refine r_gd rfl rfl ?_ | refine r_gn rfl rfl rfl ?_ | refine r_gu rfl rfl ?_ | refine r_gd rfl (by assumption) ?_ | refine r_gn rfl (by assumption) rfl ?_); (first | refine r_v (q_pick1 rfl rfl rfl) rfl ?_ | refine r_v (q_pick0 rfl rfl rfl) rfl ?_ | refine r_v (q_pick1 rfl (by assumption) rfl) rfl ?_ | refine r_v (q_pick0 rfl (by assumption) rfl) rfl ?_ | refine r_v (q_pickB rfl rfl rfl) rfl ?_)
      refine r_nil (c_true rfl ?_)
      refine c_seq (c_region ?_)
      refine r_v (q_build (r := hdZ) rfl) rfl ?_
      refine r_c rfl (x_storeA (vs := hdZ) 1 h rfl rfl rfl rfl rfl rfl rfl fun w h => ?_)
      replace h := h.drop
      replace h : St w0 (pt b2 (.cells hdZ.toArray 46 (0, 0)) :: l) w := h
      refine r_v (q_assignS rfl) rfl ?_; refine r_v (q_assignB rfl) rfl ?_
      refine r_nil ?_
      exact c_ret (bqS3 (l := hdZ) rfl rfl (at_of (h.b 0 rfl) rfl) ⟨.inl ⟨by rw [hdef, if_pos (.inr (.inl g2))], rfl⟩, h.drop⟩)
    refine r_v (q_is (v' := .bool false) (q_gtr rfl rfl) (by congr 1; simp; omega)) rfl ?_
    (first | refine r_v (q_pick1 rfl rfl rfl) rfl ?_ | refine r_v (q_pick0 rfl rfl rfl) rfl ?_ | refine r_v (q_pick1 rfl (by assumption) rfl) rfl ?_ | refine r_v (q_pick0 rfl (by assumption) rfl) rfl ?_ | refine r_v (q_pickB rfl rfl rfl) rfl ?_); refine r_v (q_moveB rfl) rfl ?_; (first | refine r_gd rfl rfl ?_ | refine r_gn rfl rfl rfl ?_ | refine r_gu rfl rfl ?_ | refine r_gd rfl (by assumption) ?_ | refine r_gn rfl (by assumption) rfl ?_); refine r_v (q_fa rfl) rfl ?_; (first | refine r_gd rfl rfl ?_ | refine r_gn rfl rfl rfl ?_ | refine r_gu rfl rfl ?_ | refine r_gd rfl (by assumption) ?_ | refine r_gn rfl (by assumption) rfl ?_)
    refine r_v (q_load (v := .int .i64 (sg (zagU v1))) rfl (h.b 0 rfl) rfl) rfl ?_
    (first | refine r_gd rfl rfl ?_ | refine r_gn rfl rfl rfl ?_ | refine r_gu rfl rfl ?_ | refine r_gd rfl (by assumption) ?_ | refine r_gn rfl (by assumption) rfl ?_); refine r_v (q_fa rfl) rfl ?_; (first | refine r_gd rfl rfl ?_ | refine r_gn rfl rfl rfl ?_ | refine r_gu rfl rfl ?_ | refine r_gd rfl (by assumption) ?_ | refine r_gn rfl (by assumption) rfl ?_)
    refine r_v (q_load (v := .int .i64 (sg (zagU v2))) rfl (h.b 0 rfl) rfl) rfl ?_
    (first | refine r_gd rfl rfl ?_ | refine r_gn rfl rfl rfl ?_ | refine r_gu rfl rfl ?_ | refine r_gd rfl (by assumption) ?_ | refine r_gn rfl (by assumption) rfl ?_); refine r_v (q_gtr rfl rfl) rfl ?_; (first | refine r_v (q_pick1 rfl rfl rfl) rfl ?_ | refine r_v (q_pick0 rfl rfl rfl) rfl ?_ | refine r_v (q_pick1 rfl (by assumption) rfl) rfl ?_ | refine r_v (q_pick0 rfl (by assumption) rfl) rfl ?_ | refine r_v (q_pickB rfl rfl rfl) rfl ?_)
    refine r_nil (c_cond (decide (sg (zagU v1) > sg (zagU v2))) rfl (fun hc1 => ?_) (fun hc1 => ?_))
    · refine c_seq (c_region ?_)
      refine r_v (q_build (r := hdZ) rfl) rfl ?_
      refine r_c rfl (x_storeA (vs := hdZ) 1 h rfl rfl rfl rfl rfl rfl rfl fun w h => ?_)
      replace h := h.drop
      replace h : St w0 (pt b2 (.cells hdZ.toArray 46 (0, 0)) :: l) w := h
      refine r_v (q_assignS rfl) rfl ?_; refine r_v (q_assignB rfl) rfl ?_
      refine r_nil ?_
      exact c_ret (bqS3 (l := hdZ) rfl rfl (at_of (h.b 0 rfl) rfl) ⟨.inl ⟨by rw [hdef, if_pos (.inr (.inr (by rw [decide_eq_true_eq] at hc1; exact hc1)))], rfl⟩, h.drop⟩)
    · refine c_skip ⟨(), ⟨rfl, rfl, rfl, trivial⟩, ?_, h⟩
      rw [decide_eq_false_iff_not] at hc1
      rintro (h | h | h)
      · exact g1 h
      · exact g2 h
      · exact hc1 h
  clear h
  rintro _ w e ⟨hcond2, h⟩
  rw [if_neg hcond2] at hdef
  rw [show min v0 65536 = v0 by omega] at h
  refine c_seq (c_region ?_)
  refine r_v (q_loadS (l := hdC ⟨ch.toNat, v0, sg (zagU v1), sg (zagU v2)⟩) rfl rfl (at_of (h.b 0 rfl) rfl)) rfl ?_
  refine r_v (q_moveS rfl) rfl ?_
  refine r_c rfl (x_storeA (vs := hdC ⟨ch.toNat, v0, sg (zagU v1), sg (zagU v2)⟩) 1 h rfl rfl rfl rfl rfl rfl rfl fun w h => ?_)
  replace h := h.drop
  replace h : St w0 (pt b2 (.cells (hdC ⟨ch.toNat, v0, sg (zagU v1), sg (zagU v2)⟩).toArray 46 (0, 0)) :: l) w := h
  refine r_v (q_assignS rfl) rfl ?_; refine r_v (q_assignB rfl) rfl ?_
  refine r_nil ?_
  exact c_ret (bqS3 (l := hdC ⟨ch.toNat, v0, sg (zagU v1), sg (zagU v2)⟩) rfl rfl (at_of (h.b 0 rfl) rfl) ⟨.inr ⟨_, rest, ra, rc, hdef, rfl, hrc, by omega, by dsimp only; omega, by dsimp only; omega, hrr⟩, h.drop⟩)

theorem chnk_Head {sl : Option Addr} {c : Nat} {bs : List UInt8} (hn : bs.length ≤ 140737488355328) (hc : bs.length ≤ c) (hr : Reads w0 l 1 sl bs.length (bytesV bs)) (h : St w0 l w) :
    Ret Tryd.prog 22 [.slice sl bs.length c] w fun v w' => v = .tuple [.agg ((((headDec bs).map fun q => hdC q.1).getD hdZ)).toArray, .bool (headDec bs).isSome].toArray ∧ St w0 l w' := by
  refine enter Tryd.func22 rfl Tryd.results22 Tryd.ntmps22 rfl ?_
  refine c_seq (c_region ?_)
  refine r_c rfl (x_alloc h fun b2 w h => ?_)
  refine r_v (q_assignB rfl) rfl ?_
  refine r_nil ?_
  refine c_seq (c_region ?_)
  refine r_v (q_moveS rfl) rfl ?_
  refine r_c rfl (x_call rfl (chnk_head hn hc hr.cons h) ?_)
  rintro _ w ⟨(⟨hd0, rfl⟩ | ⟨hd, rest, ra, rc, hd0, rfl, hrc, hrl, hcnt, htag, hrr⟩), h⟩
  · rw [hd0]
    refine r_v (q_moveT rfl) rfl ?_; refine r_v (q_ext rfl rfl) rfl ?_; refine r_v (q_ext rfl rfl) rfl ?_; refine r_v (q_ext rfl rfl) rfl ?_
    refine r_c rfl (x_alloc h fun b4 w h => ?_)
    refine r_c rfl (x_storeA (vs := hdZ) 0 h rfl rfl rfl rfl rfl rfl rfl fun w h => ?_)
    replace h : St w0 (pt b4 (.cells hdZ.toArray 46 (0, 0)) :: pt b2 (.cells hdZ.toArray 46 (0, 0)) :: l) w := h
    refine r_v (q_assignS rfl) rfl ?_; refine r_v (q_assignB rfl) rfl ?_
    refine r_nil ?_
    refine c_seq (c_region ?_)
    refine r_v (q_loadS (l := hdZ) rfl rfl (at_of (h.b 0 rfl) rfl)) rfl ?_
    refine r_v (q_moveB rfl) rfl ?_
    refine r_c rfl (x_storeA (vs := hdZ) 1 h rfl rfl rfl rfl rfl rfl rfl fun w h => ?_)
    replace h := h.drop
    replace h : St w0 (pt b2 (.cells hdZ.toArray 46 (0, 0)) :: l) w := h
    refine r_v (q_assignB rfl) rfl ?_
    refine r_nil ?_
    exact c_ret (bqS2 (l := hdZ) rfl rfl (at_of (h.b 0 rfl) rfl) ⟨rfl, h.drop⟩)
  · rw [hd0]
    refine r_v (q_moveT rfl) rfl ?_; refine r_v (q_ext rfl rfl) rfl ?_; refine r_v (q_ext rfl rfl) rfl ?_; refine r_v (q_ext rfl rfl) rfl ?_
    refine r_c rfl (x_alloc h fun b4 w h => ?_)
    refine r_c rfl (x_storeA (vs := hdC hd) 0 h rfl rfl rfl rfl rfl rfl rfl fun w h => ?_)
    replace h : St w0 (pt b4 (.cells (hdC hd).toArray 46 (0, 0)) :: pt b2 (.cells hdZ.toArray 46 (0, 0)) :: l) w := h
    refine r_v (q_assignS rfl) rfl ?_; refine r_v (q_assignB rfl) rfl ?_
    refine r_nil ?_
    refine c_seq (c_region ?_)
    refine r_v (q_loadS (l := hdC hd) rfl rfl (at_of (h.b 0 rfl) rfl)) rfl ?_
    refine r_v (q_moveB rfl) rfl ?_
    refine r_c rfl (x_storeA (vs := hdC hd) 1 h rfl rfl rfl rfl rfl rfl rfl fun w h => ?_)
    replace h := h.drop
    replace h : St w0 (pt b2 (.cells (hdC hd).toArray 46 (0, 0)) :: l) w := h
    refine r_v (q_assignB rfl) rfl ?_
    refine r_nil ?_
    exact c_ret (bqS2 (l := hdC hd) rfl rfl (at_of (h.b 0 rfl) rfl) ⟨rfl, h.drop⟩)

theorem chnk_Open (hT : Tz w0) {sl : Option Addr} {c : Nat} {bs : List UInt8} (hn : bs.length ≤ 140737488355328) (hc : bs.length ≤ c) (hr : Reads w0 l 1 sl bs.length (bytesV bs)) (h : St w0 l w) :
    Ret Tryd.prog 23 [.slice sl bs.length c] w fun v w' => ∃ a c', v = .tuple [.slice a (((chOpen bs).map Prod.fst).getD []).length c', .int .i64 ((((chOpen bs).map Prod.snd).getD 0 : Nat) : Int), .bool (chOpen bs).isSome].toArray ∧ (∀ L t, chOpen bs = some (L, t) → L.length ≤ 65535 ∧ ∀ s ∈ L, s.Wf) ∧ St w0 (OwnS a c' (((chOpen bs).map Prod.fst).getD []) :: l) w' := by
  have bad : ∀ {w : World}, chOpen bs = none → St w0 l w → ∃ a c', Value.tuple [.slice none 0 0, .int .i64 0, .bool false].toArray = .tuple [.slice a (((chOpen bs).map Prod.fst).getD []).length c', .int .i64 ((((chOpen bs).map Prod.snd).getD 0 : Nat) : Int), .bool (chOpen bs).isSome].toArray ∧ (∀ L t, chOpen bs = some (L, t) → L.length ≤ 65535 ∧ ∀ s ∈ L, s.Wf) ∧ St w0 (OwnS a c' (((chOpen bs).map Prod.fst).getD []) :: l) w := fun hb h => by
    rw [hb]
    exact ⟨none, 0, rfl, (fun _ _ h => by cases h), St.ownNil _ _ h⟩
  have hdef : chOpen bs = _ := rfl
  conv at hdef => rhs; unfold chOpen
  refine enter Tryd.func23 rfl Tryd.results23 Tryd.ntmps23 rfl ?_
  refine c_seq (c_region ?_)
  refine r_v (q_assignS rfl) rfl ?_; refine r_v (q_assignI rfl) rfl ?_; refine r_v (q_assignB rfl) rfl ?_
  refine r_nil ?_
  refine c_seq (c_region ?_)
  refine r_v (q_moveS rfl) rfl ?_
  refine r_c rfl (x_call rfl (chnk_head hn hc hr h) ?_)
  clear h
  rintro _ w ⟨(⟨hd0, rfl⟩ | ⟨hd, rest, ra, rc, hd0, rfl, hrc, hrl, hcnt, htag, hrr⟩), h⟩
  · rw [hd0] at hdef
    refine r_v (q_moveT rfl) rfl ?_; refine r_v (q_ext rfl rfl) rfl ?_; refine r_v (q_ext rfl rfl) rfl ?_; refine r_v (q_ext rfl rfl) rfl ?_
    refine r_c rfl (x_alloc h fun b5 w h => ?_)
    refine r_c rfl (x_storeA (vs := hdZ) 0 h rfl rfl rfl rfl rfl rfl rfl fun w h => ?_)
    replace h := h.drop
    refine r_v (q_assignS rfl) rfl ?_; refine r_v (q_assignB rfl) rfl ?_
    refine r_nil ?_
    refine c_seq (c_seq (c_region ?_))
    refine r_v (q_moveB rfl) rfl ?_; refine r_v (q_not rfl) rfl ?_; refine r_v (q_moveB rfl) rfl ?_; (first | refine r_gd rfl rfl ?_ | refine r_gn rfl rfl rfl ?_ | refine r_gu rfl rfl ?_ | refine r_gd rfl (by assumption) ?_ | refine r_gn rfl (by assumption) rfl ?_); (first | refine r_gd rfl rfl ?_ | refine r_gn rfl rfl rfl ?_ | refine r_gu rfl rfl ?_ | refine r_gd rfl (by assumption) ?_ | refine r_gn rfl (by assumption) rfl ?_); (first | refine r_gd rfl rfl ?_ | refine r_gn rfl rfl rfl ?_ | refine r_gu rfl rfl ?_ | refine r_gd rfl (by assumption) ?_ | refine r_gn rfl (by assumption) rfl ?_); (first | refine r_v (q_pick1 rfl rfl rfl) rfl ?_ | refine r_v (q_pick0 rfl rfl rfl) rfl ?_ | refine r_v (q_pick1 rfl (by assumption) rfl) rfl ?_ | refine r_v (q_pick0 rfl (by assumption) rfl) rfl ?_ | refine r_v (q_pickB rfl rfl rfl) rfl ?_)
    refine r_nil (c_true rfl ?_)
    refine c_seq (c_region ?_)
    refine r_v (q_assignS rfl) rfl ?_; refine r_v (q_assignI rfl) rfl ?_; refine r_v (q_assignB rfl) rfl ?_
    refine r_nil ?_
    exact c_ret (bq3 (bad hdef h))
  rw [hd0] at hdef
  dsimp only at hdef
  refine r_v (q_moveT rfl) rfl ?_; refine r_v (q_ext rfl rfl) rfl ?_; refine r_v (q_ext rfl rfl) rfl ?_; refine r_v (q_ext rfl rfl) rfl ?_
  refine r_c rfl (x_alloc h fun b5 w h => ?_)
  refine r_c rfl (x_storeA (vs := hdC hd) 0 h rfl rfl rfl rfl rfl rfl rfl fun w h => ?_)
  replace h : St w0 (pt b5 (.cells (hdC hd).toArray 46 (0, 0)) :: l) w := h
  refine r_v (q_assignS rfl) rfl ?_; refine r_v (q_assignB rfl) rfl ?_
  refine r_nil ?_
  refine c_seq (c_seq (c_region ?_))
  refine r_v (q_moveB rfl) rfl ?_; refine r_v (q_not rfl) rfl ?_; refine r_v (q_moveB rfl) rfl ?_; (first | refine r_gd rfl rfl ?_ | refine r_gn rfl rfl rfl ?_ | refine r_gu rfl rfl ?_ | refine r_gd rfl (by assumption) ?_ | refine r_gn rfl (by assumption) rfl ?_); refine r_v (q_moveS rfl) rfl ?_; (first | refine r_gd rfl rfl ?_ | refine r_gn rfl rfl rfl ?_ | refine r_gu rfl rfl ?_ | refine r_gd rfl (by assumption) ?_ | refine r_gn rfl (by assumption) rfl ?_); refine r_v (q_len rfl) rfl ?_; (first | refine r_gd rfl rfl ?_ | refine r_gn rfl rfl rfl ?_ | refine r_gu rfl rfl ?_ | refine r_gd rfl (by assumption) ?_ | refine r_gn rfl (by assumption) rfl ?_); refine r_v (q_lss rfl rfl) rfl ?_; (first | refine r_v (q_pick1 rfl rfl rfl) rfl ?_ | refine r_v (q_pick0 rfl rfl rfl) rfl ?_ | refine r_v (q_pick1 rfl (by assumption) rfl) rfl ?_ | refine r_v (q_pick0 rfl (by assumption) rfl) rfl ?_ | refine r_v (q_pickB rfl rfl rfl) rfl ?_)
  refine r_nil (c_cond (decide ((rest.length : Int) < 4)) rfl (fun hc1 => ?_) (fun hc1 => ?_))
  · refine c_seq (c_region ?_)
    refine r_v (q_assignS rfl) rfl ?_; refine r_v (q_assignI rfl) rfl ?_; refine r_v (q_assignB rfl) rfl ?_
    refine r_nil ?_
    exact c_ret (bq3 (bad (by rw [hdef, if_pos (by simp at hc1; omega)]) h.drop))
  have hr4 : 4 ≤ rest.length := by simp at hc1; omega
  rw [if_neg (by omega)] at hdef
  refine c_skip ?_
  have hrh := hrr.head (i := rest.length - 4) (by omega)
  have htl : (rest.take (rest.length - 4)).length = rest.length - 4 := by rw [List.length_take]; omega
  have hrh' : Reads w0 l 1 ra (rest.take (rest.length - 4)).length (bytesV (rest.take (rest.length - 4))) := by
    rw [htl]
    have : bytesV (rest.take (rest.length - 4)) = (bytesV rest).take ((rest.length - 4) * 1) := by unfold bytesV; rw [List.map_take, Nat.mul_one]
    rw [this]
    exact hrh
  generalize hP : rest.take (rest.length - 4) = P at hdef htl hrh'
  refine c_cut (Γ := Option Addr × Nat) (fun q => [(0, .slice sl bs.length c), (5, .pointer (some ⟨b5, 0, none⟩)), (8, .slice q.1 ((suitDec hd.tag P hd.count).getD []).length q.2), (9, .bool (suitDec hd.tag P hd.count).isSome)])
    (fun q w => (∀ L, suitDec hd.tag P hd.count = some L → (L.length : Int) = hd.count ∧ ∀ s ∈ L, s.Wf) ∧ St w0 (OwnS q.1 q.2 ((suitDec hd.tag P hd.count).getD []) :: pt b5 (.cells (hdC hd).toArray 46 (0, 0)) :: l) w) ?_ ?_
  · refine c_anyW [0, 1, 2, 3, 4, 5, 6, 7, 8, 9, 10, 11, 13, 12, 14] none (fun w => w.heap[b5]? = some (.cells (hdC hd).toArray 46 (0, 0))) (by kernel_rfl) (by kernel_rfl) ?_
    replace h := h.drew
    generalize w.drew = w at h
    have hs := h
    replace h := hs.b 0 rfl
    refine cur_pure rfl rfl rfl rfl (fun _ => h) (fun _ => flt_v rfl (q_fa rfl)) ?_
    refine cur_float rfl rfl rfl rfl h (fun w h => flt_v rfl (q_load (v := .int .i64 (hd.tag : Int)) rfl h rfl)) ?_
    refine cur_pure rfl rfl rfl rfl (fun _ => h) (fun _ => flt_v rfl (q_moveS rfl)) ?_; refine cur_pure rfl rfl rfl rfl (fun _ => h) (fun _ => flt_v rfl (q_moveS rfl)) ?_; refine cur_pure rfl rfl rfl rfl (fun _ => h) (fun _ => flt_v rfl (q_len rfl)) ?_
    refine cur_pure rfl rfl rfl rfl (fun _ => h) (fun _ => flt_v rfl (q_is (v' := .int .i64 ((rest.length - 4 : Nat) : Int)) (q_sub rfl rfl) (by rw [wrap64 (by omega) (by omega)]; congr 1; omega))) ?_
    refine cur_pure rfl rfl rfl rfl (fun _ => h) (fun _ => flt_v rfl (q_is (v' := .slice ra P.length rc) (q_head (h := rest.length - 4) rfl rfl (by omega)) (by rw [htl]))) ?_
    refine cur_pure rfl rfl rfl rfl (fun _ => h) (fun _ => flt_v rfl (q_fa rfl)) ?_
    refine cur_float rfl rfl rfl rfl h (fun w h => flt_v rfl (q_load (v := .int .i64 (hd.count : Int)) rfl h rfl)) ?_
    refine cur_skip ?_; refine cur_skip ?_; refine cur_skip ?_; refine cur_skip ?_; refine cur_skip ?_; refine cur_skip ?_
    refine cur_one 9 rfl rfl rfl rfl ?_
    refine (x_call rfl (suit_Decode hT (suit_read _) (hd.count : Int) (by omega) (by omega) (hrh'.more [_]) hs) ?_)
    rintro _ w ⟨da, dc, rfl, hM, hs⟩
    replace h := hs.b 1 rfl
    refine ⟨fun _ => h, ?_⟩
    refine cur_pure rfl rfl rfl rfl (fun _ => h) (fun _ => flt_v rfl (q_moveT rfl)) ?_; refine cur_pure rfl rfl rfl rfl (fun _ => h) (fun _ => flt_v rfl (q_ext rfl rfl)) ?_; refine cur_pure rfl rfl rfl rfl (fun _ => h) (fun _ => flt_v rfl (q_ext rfl rfl)) ?_; refine cur_pure rfl rfl rfl rfl (fun _ => h) (fun _ => flt_v rfl (q_assignS rfl)) ?_; refine cur_pure rfl rfl rfl rfl (fun _ => h) (fun _ => flt_v rfl (q_assignB rfl)) ?_
    exact cur_end ⟨(da, dc), ⟨rfl, rfl, rfl, rfl, trivial⟩, hM, hs⟩
  clear h
  rintro ⟨da, dc⟩ w e ⟨hM, h⟩
  dsimp only at h ⊢
  refine c_seq (c_seq (c_region ?_))
  refine r_v (q_moveB rfl) rfl ?_; refine r_v (q_not rfl) rfl ?_
  cases hD : suitDec hd.tag P hd.count with
  | none =>
    rw [hD] at hdef
    refine r_nil (c_true rfl ?_)
    refine c_seq (c_region ?_)
    refine r_v (q_assignS rfl) rfl ?_; refine r_v (q_assignI rfl) rfl ?_; refine r_v (q_assignB rfl) rfl ?_
    refine r_nil ?_
    exact c_ret (bq3 (bad hdef h.drop.drop))
  | some M =>
  rw [hD] at hdef h
  obtain ⟨hMl, hMw⟩ := hM M hD
  have hM16 : M.length ≤ 65535 := by omega
  dsimp only at hdef
  refine r_nil (c_false rfl (c_skip ?_))
  replace h : St w0 (OwnS da dc M :: pt b5 (.cells (hdC hd).toArray 46 (0, 0)) :: l) w := h
  refine c_seq (c_region ?_)
  refine r_v (q_fa rfl) rfl ?_
  refine r_v (q_load (v := .int .i64 (hd.tag : Int)) rfl (h.b 1 rfl) rfl) rfl ?_
  refine r_v (q_moveS rfl) rfl ?_
  refine r_c rfl (x_call rfl (chnk_Make hT (hd.tag : Int) (L := M) hMw (by omega) Reads.own h) ?_)
  rintro _ w ⟨ea, ec, rfl, h⟩
  refine r_v (q_moveT rfl) rfl ?_; refine r_v (q_ext rfl rfl) rfl ?_; refine r_v (q_ext rfl rfl) rfl ?_; refine r_v (q_assignS rfl) rfl ?_; refine r_v (q_assignB rfl) rfl ?_
  refine r_nil ?_
  refine c_cut (Γ := Unit) (fun _ => [(5, .pointer (some ⟨b5, 0, none⟩)), (8, .slice da M.length dc)]) (fun _ w => chMake (hd.tag : Int) M = some bs ∧ St w0 (OwnS da dc M :: pt b5 (.cells (hdC hd).toArray 46 (0, 0)) :: l) w) ?_ ?_
  · refine c_seq (c_region ?_)
    cases hE : chMake (hd.tag : Int) M with
    | none =>
      refine r_v (q_moveB rfl) rfl ?_; refine r_v (q_not rfl) rfl ?_; refine r_v (q_moveB rfl) rfl ?_; (first | refine r_gd rfl rfl ?_ | refine r_gn rfl rfl rfl ?_ | refine r_gu rfl rfl ?_ | refine r_gd rfl (by assumption) ?_ | refine r_gn rfl (by assumption) rfl ?_); (first | refine r_gd rfl rfl ?_ | refine r_gn rfl rfl rfl ?_ | refine r_gu rfl rfl ?_ | refine r_gd rfl (by assumption) ?_ | refine r_gn rfl (by assumption) rfl ?_); (first | refine r_gd rfl rfl ?_ | refine r_gn rfl rfl rfl ?_ | refine r_gu rfl rfl ?_ | refine r_gd rfl (by assumption) ?_ | refine r_gn rfl (by assumption) rfl ?_); (first | refine r_gd rfl rfl ?_ | refine r_gn rfl rfl rfl ?_ | refine r_gu rfl rfl ?_ | refine r_gd rfl (by assumption) ?_ | refine r_gn rfl (by assumption) rfl ?_); (first | refine r_v (q_pick1 rfl rfl rfl) rfl ?_ | refine r_v (q_pick0 rfl rfl rfl) rfl ?_ | refine r_v (q_pick1 rfl (by assumption) rfl) rfl ?_ | refine r_v (q_pick0 rfl (by assumption) rfl) rfl ?_ | refine r_v (q_pickB rfl rfl rfl) rfl ?_)
      refine r_nil (c_true rfl ?_)
      refine c_seq (c_region ?_)
      refine r_v (q_assignS rfl) rfl ?_; refine r_v (q_assignI rfl) rfl ?_; refine r_v (q_assignB rfl) rfl ?_
      refine r_nil ?_
      exact c_ret (bq3 (bad (by rw [hdef, if_neg (by rw [hE]; simp)]) h.drop.drop.drop))
    | some d =>
      rw [hE] at h
      refine r_v (q_moveB rfl) rfl ?_; refine r_v (q_not rfl) rfl ?_; refine r_v (q_moveB rfl) rfl ?_; (first | refine r_gd rfl rfl ?_ | refine r_gn rfl rfl rfl ?_ | refine r_gu rfl rfl ?_ | refine r_gd rfl (by assumption) ?_ | refine r_gn rfl (by assumption) rfl ?_); refine r_v (q_moveS rfl) rfl ?_; (first | refine r_gd rfl rfl ?_ | refine r_gn rfl rfl rfl ?_ | refine r_gu rfl rfl ?_ | refine r_gd rfl (by assumption) ?_ | refine r_gn rfl (by assumption) rfl ?_); refine r_v (q_moveS rfl) rfl ?_; (first | refine r_gd rfl rfl ?_ | refine r_gn rfl rfl rfl ?_ | refine r_gu rfl rfl ?_ | refine r_gd rfl (by assumption) ?_ | refine r_gn rfl (by assumption) rfl ?_)
      refine r_c rfl (x_call rfl (bytes_Equal (b1 := d) (b2 := bs) h (fun w' h' => h'.own_rd) (hr.more [_, _, _]).rd) ?_)
      rintro _ w ⟨rfl, h⟩
      (first | refine r_gd rfl rfl ?_ | refine r_gn rfl rfl rfl ?_ | refine r_gu rfl rfl ?_ | refine r_gd rfl (by assumption) ?_ | refine r_gn rfl (by assumption) rfl ?_); refine r_v (q_not rfl) rfl ?_; (first | refine r_v (q_pick1 rfl rfl rfl) rfl ?_ | refine r_v (q_pick0 rfl rfl rfl) rfl ?_ | refine r_v (q_pick1 rfl (by assumption) rfl) rfl ?_ | refine r_v (q_pick0 rfl (by assumption) rfl) rfl ?_ | refine r_v (q_pickB rfl rfl rfl) rfl ?_)
      refine r_nil (c_cond (!decide (d = bs)) rfl (fun hc2 => ?_) (fun hc2 => ?_))
      · refine c_seq (c_region ?_)
        refine r_v (q_assignS rfl) rfl ?_; refine r_v (q_assignI rfl) rfl ?_; refine r_v (q_assignB rfl) rfl ?_
        refine r_nil ?_
        exact c_ret (bq3 (bad (by rw [hdef, if_neg (by rw [hE]; simpa using hc2)]) h.drop.drop.drop))
      · exact c_skip ⟨(), ⟨rfl, rfl, trivial⟩, by simpa using hc2, h.drop⟩
  clear h
  rintro _ w e ⟨hE, h⟩
  rw [if_pos hE] at hdef
  rw [hdef]
  refine c_seq (c_anyR [0, 2, 3, 1, 4, 5] none (fun w => St w0 _ w) (by kernel_rfl) (by kernel_rfl) h.drew fun w h => ?_)
  refine cur_pure rfl rfl rfl rfl (fun _ => h) (fun _ => flt_v rfl (q_moveS rfl)) ?_; refine cur_pure rfl rfl rfl rfl (fun _ => h) (fun _ => flt_v rfl (q_fa rfl)) ?_
  refine cur_float rfl rfl rfl rfl h (fun w h => flt_v rfl (q_load (v := .int .i64 (hd.tag : Int)) rfl (h.b 1 rfl) rfl)) ?_
  refine cur_pure rfl rfl rfl rfl (fun _ => h) (fun _ => flt_v rfl (q_assignS rfl)) ?_; refine cur_pure rfl rfl rfl rfl (fun _ => h) (fun _ => flt_v rfl (q_assignI rfl)) ?_; refine cur_pure rfl rfl rfl rfl (fun _ => h) (fun _ => flt_v rfl (q_assignB rfl)) ?_
  refine cur_end ?_
  refine c_ret (bq3 ⟨da, dc, rfl, fun L t hh => ?_, (h.f 1).drop⟩)
  cases hh
  exact ⟨hM16, hMw⟩
end
end Go.Proofs.YtjjacchnalemaaaDoor
