/- suit.read: any codec's bytes. -/
import Derived.Test.YtjjacchnalemaaaDoorRead6
import Derived.Test.YtjjacchnalemaaaDoorDecX
import Derived.Test.YtjjacchnalemaaaDoorDecM
import Derived.Test.YtjjacchnalemaaaDoorDecD
namespace Go.Proofs.YtjjacchnalemaaaDoor
open Go.Hw
set_option maxHeartbeats 4000000
set_option maxRecDepth 100000
theorem suit_read (tag : Int) : ReadOk tag := by
  intro w0 w l sl c bs n hT hr hn hc hn16 h
  by_cases n6 : tag = 6
  · subst n6; exact read_6 hT hr hn hc hn16 h
  have hdef : valuesDec tag bs n = _ := rfl
  conv at hdef => rhs; unfold valuesDec
  rw [if_neg n6] at hdef
  refine enter Tryd.func49 rfl Tryd.results49 Tryd.ntmps49 rfl ?_
  refine c_seq (c_region ?_)
  refine r_v (q_assignS rfl) rfl ?_; refine r_v (q_assignB rfl) rfl ?_
  refine r_nil ?_
  refine c_seq (c_seq (c_region ?_))
  refine r_v (q_moveI rfl) rfl ?_
  refine r_nil ?_
  refine c_block ?_
  refine c_seq (c_region ?_)
  refine r_v (q_eql rfl rfl) rfl ?_; refine r_v (q_assignB rfl) rfl ?_
  refine r_nil (c_cond (tag == 1) rfl (fun h1 => ?_) (fun h1 => ?_))
  · rw [beq_iff_eq] at h1
    rw [if_pos h1] at hdef
    refine c_seq (c_region ?_)
    refine r_v (q_moveS rfl) rfl ?_
    refine r_c rfl (x_call rfl (bits_NewReader h hr.rd hn) ?_)
    rintro _ w ⟨p, rfl, h⟩
    refine r_v (q_moveI rfl) rfl ?_
    refine r_c rfl (x_call rfl (xorv_Decode hT hn16 h) ?_)
    rintro _ w ⟨a, c', xs, b, rfl, hd, hb, s', h⟩
    refine r_v (q_ext rfl rfl) rfl ?_; refine r_v (q_ext rfl rfl) rfl ?_; refine r_v (q_assignS rfl) rfl ?_; refine r_v (q_assignB rfl) rfl ?_
    refine r_nil ?_
    exact c_ret (bq2 ⟨a, c', xs, b, rfl, by rw [hdef, hd], hb, (h.f 1).drop⟩)
  rw [beq_eq_false_iff_ne] at h1
  rw [if_neg h1] at hdef
  refine c_seq (c_region ?_)
  refine r_v (q_eql rfl rfl) rfl ?_; refine r_v (q_assignB rfl) rfl ?_
  refine r_nil (c_cond (tag == 2) rfl (fun h2 => ?_) (fun h2 => ?_))
  · rw [beq_iff_eq] at h2
    rw [if_pos h2] at hdef
    refine c_seq (c_region ?_)
    refine r_v (q_moveS rfl) rfl ?_
    refine r_c rfl (x_call rfl (suit_words hn hr h) ?_)
    rintro _ w ⟨wa, wc, rfl, hw1, hw2, h⟩
    refine r_v (q_moveT rfl) rfl ?_; refine r_v (q_ext rfl rfl) rfl ?_; refine r_v (q_ext rfl rfl) rfl ?_; refine r_v (q_assignS rfl) rfl ?_; refine r_v (q_assignB rfl) rfl ?_
    refine r_nil ?_
    refine c_seq (c_region ?_)
    refine r_v (q_moveS rfl) rfl ?_; refine r_v (q_moveI rfl) rfl ?_
    refine r_c rfl (x_call rfl (simp_Decode hw1 (by omega) hn16 Reads.own h) ?_)
    rintro _ w ⟨xa, xc, xs, b, rfl, hd, hb, hb', h⟩
    refine r_v (q_moveT rfl) rfl ?_; refine r_v (q_ext rfl rfl) rfl ?_; refine r_v (q_ext rfl rfl) rfl ?_; refine r_v (q_assignS rfl) rfl ?_; refine r_v (q_assignB rfl) rfl ?_
    refine r_nil ?_
    have hxl : xs.length ≤ 65535 ∧ ∀ x ∈ xs, x < 18446744073709551616 := by
      cases b with
      | true => obtain ⟨g1, g2⟩ := hb rfl; exact ⟨by omega, g2⟩
      | false => rw [hb' rfl]; exact ⟨Nat.zero_le _, fun _ h => by cases h⟩
    refine c_seq (c_region ?_)
    refine r_v (q_moveS rfl) rfl ?_
    refine r_c rfl (x_call rfl (suit_sums hxl.2 hxl.1 Reads.own h) ?_)
    rintro _ w ⟨sa, sc, rfl, hs, h⟩
    replace h := ((h.f 1).drop.f 1).drop
    have hsl := sumsL_len xs 0
    by_cases h8 : bs.length % 8 = 0
    · rw [if_pos h8, hd] at hdef
      rw [decide_eq_true h8]
      refine r_v (q_moveB rfl) rfl ?_; refine r_v (q_moveB rfl) rfl ?_; (first | refine r_gd rfl rfl ?_ | refine r_gn rfl rfl rfl ?_ | refine r_gu rfl rfl ?_ | refine r_gd rfl (by assumption) ?_ | refine r_gn rfl (by assumption) rfl ?_); refine r_v (q_moveB rfl) rfl ?_; (first | refine r_v (q_pick1 rfl rfl rfl) rfl ?_ | refine r_v (q_pick0 rfl rfl rfl) rfl ?_ | refine r_v (q_pick1 rfl (by assumption) rfl) rfl ?_ | refine r_v (q_pick0 rfl (by assumption) rfl) rfl ?_ | refine r_v (q_pickB rfl rfl rfl) rfl ?_); refine r_v (q_assignS rfl) rfl ?_; refine r_v (q_assignB rfl) rfl ?_
      refine r_nil ?_
      refine c_ret (bq2 ⟨sa, sc, sumsL 0 xs, b, rfl, ?_, fun hbt => ⟨by rw [hsl]; exact (hb hbt).1, hs⟩, h⟩)
      rw [hdef]
      cases b <;> rfl
    · rw [if_neg h8] at hdef
      rw [decide_eq_false h8]
      refine r_v (q_moveB rfl) rfl ?_; refine r_v (q_moveB rfl) rfl ?_; (first | refine r_gd rfl rfl ?_ | refine r_gn rfl rfl rfl ?_ | refine r_gu rfl rfl ?_ | refine r_gd rfl (by assumption) ?_ | refine r_gn rfl (by assumption) rfl ?_); (first | refine r_v (q_pick1 rfl rfl rfl) rfl ?_ | refine r_v (q_pick0 rfl rfl rfl) rfl ?_ | refine r_v (q_pick1 rfl (by assumption) rfl) rfl ?_ | refine r_v (q_pick0 rfl (by assumption) rfl) rfl ?_ | refine r_v (q_pickB rfl rfl rfl) rfl ?_); refine r_v (q_assignS rfl) rfl ?_; refine r_v (q_assignB rfl) rfl ?_
      refine r_nil ?_
      exact c_ret (bq2 ⟨sa, sc, sumsL 0 xs, false, rfl, hdef, (fun h => by cases h), h⟩)
  rw [beq_eq_false_iff_ne] at h2
  rw [if_neg h2] at hdef
  refine c_seq (c_region ?_)
  refine r_v (q_eql rfl rfl) rfl ?_; refine r_v (q_assignB rfl) rfl ?_
  refine r_nil (c_cond (tag == 3) rfl (fun h3 => ?_) (fun h3 => ?_))
  · rw [beq_iff_eq] at h3
    rw [if_pos h3] at hdef
    refine c_seq (c_region ?_)
    refine r_v (q_moveS rfl) rfl ?_; refine r_v (q_moveI rfl) rfl ?_
    refine r_c rfl (x_call rfl (runl_Decode hn16 hn hc hr h) ?_)
    rintro _ w ⟨a, c', xs, b, rfl, hd, hb, h⟩
    refine r_v (q_ext rfl rfl) rfl ?_; refine r_v (q_ext rfl rfl) rfl ?_; refine r_v (q_assignS rfl) rfl ?_; refine r_v (q_assignB rfl) rfl ?_
    refine r_nil ?_
    exact c_ret (bq2 ⟨a, c', xs, b, rfl, by rw [hdef, hd], hb, h⟩)
  rw [beq_eq_false_iff_ne] at h3
  rw [if_neg h3] at hdef
  refine c_seq (c_region ?_)
  refine r_v (q_eql rfl rfl) rfl ?_; refine r_v (q_assignB rfl) rfl ?_
  refine r_nil (c_cond (tag == 4) rfl (fun h4 => ?_) (fun h4 => ?_))
  · rw [beq_iff_eq] at h4
    rw [if_pos h4] at hdef
    refine c_seq (c_region ?_)
    refine r_v (q_moveS rfl) rfl ?_; refine r_v (q_moveI rfl) rfl ?_
    refine r_c rfl (x_call rfl (forp_Decode hn16 hn hc hr h) ?_)
    rintro _ w ⟨a, c', xs, b, rfl, hd, hb, h⟩
    refine r_v (q_ext rfl rfl) rfl ?_; refine r_v (q_ext rfl rfl) rfl ?_; refine r_v (q_assignS rfl) rfl ?_; refine r_v (q_assignB rfl) rfl ?_
    refine r_nil ?_
    exact c_ret (bq2 ⟨a, c', xs, b, rfl, by rw [hdef, hd], hb, h⟩)
  rw [beq_eq_false_iff_ne] at h4
  rw [if_neg h4] at hdef
  refine c_seq (c_region ?_)
  refine r_v (q_eql rfl rfl) rfl ?_; refine r_v (q_assignB rfl) rfl ?_
  refine r_nil (c_cond (tag == 5) rfl (fun h5 => ?_) (fun h5 => ?_))
  · rw [beq_iff_eq] at h5
    rw [if_pos h5] at hdef
    refine c_seq (c_region ?_)
    refine r_v (q_moveS rfl) rfl ?_; refine r_v (q_moveI rfl) rfl ?_
    refine r_c rfl (x_call rfl (dict_Decode hn16 hn hc hr h) ?_)
    rintro _ w ⟨a, c', xs, b, rfl, hd, hb, h⟩
    refine r_v (q_ext rfl rfl) rfl ?_; refine r_v (q_ext rfl rfl) rfl ?_; refine r_v (q_assignS rfl) rfl ?_; refine r_v (q_assignB rfl) rfl ?_
    refine r_nil ?_
    exact c_ret (bq2 ⟨a, c', xs, b, rfl, by rw [hdef, hd], hb, h⟩)
  rw [beq_eq_false_iff_ne] at h5
  rw [if_neg h5] at hdef
  refine c_seq (c_region ?_)
  refine r_v (q_eql rfl rfl) rfl ?_; refine r_v (q_assignB rfl) rfl ?_
  refine r_is (.bool false) (by congr 1; rw [beq_eq_false_iff_ne]; exact n6) ?_
  refine r_nil (c_false rfl (c_skip ?_))
  refine c_seq (c_region ?_)
  refine r_v (q_assignS rfl) rfl ?_; refine r_v (q_assignB rfl) rfl ?_
  refine r_nil ?_
  exact c_ret (bq2 ⟨none, 0, [], false, rfl, hdef, (fun h => by cases h), St.ownNil _ _ h⟩)
end Go.Proofs.YtjjacchnalemaaaDoor
