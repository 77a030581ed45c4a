/- simp, runl, forp: telling values. -/
import Derived.Test.YtjjacchnalemaaaDoorSimp
import Derived.Test.YtjjacchnalemaaaDoorXorv
namespace Go.Hw
theorem runsA_len : ∀ (l : List Nat) (x k : Nat), (runsA x k l).length ≤ 20 * (l.length + 1)
  | [], x, k => by
    have h1 := vput_len k; have h2 := vput_len x
    simp [runsA]; omega
  | y :: r, x, k => by
    have h1 := vput_len k; have h2 := vput_len x
    rw [runsA, List.length_cons]
    split
    · have := runsA_len r x (k + 1); omega
    · have := runsA_len r y 1
      rw [List.length_append, List.length_append]; omega
theorem runsEnc_len (l : List Nat) : (runsEnc l).length ≤ 20 * l.length := by
  cases l with
  | nil => exact Nat.le_refl _
  | cons x r => exact runsA_len r x 1
end Go.Hw
namespace Go.Proofs.YtjjacchnalemaaaDoor
open Go.Hw
set_option maxHeartbeats 4000000
set_option maxRecDepth 100000
abbrev OwnU (a : Option Addr) (c : Nat) (l : List Nat) : HProp := Own 22 1 a l.length c (u64V l)
section
variable {w0 w : World} {l : List HProp}
theorem reads_drop {a : Option Addr} {c : Nat} {u : List Nat} (hr : Reads w0 l 1 a u.length (u64V u)) {n : Nat} (hn : n ≤ u.length) (hc : u.length ≤ c) : Reads w0 l 1 (adv a (n * 1) (Nat.beq c n)) (u.drop n).length (u64V (u.drop n)) := by
  have := hr.tail hn hc
  rw [Nat.mul_one] at this ⊢
  rw [List.length_drop]
  simpa [List.map_drop] using this
theorem simp_Encode {sl : Option Addr} {c : Nat} {u : List Nat} (hu : ∀ x ∈ u, x < 18446744073709551616) (hn : u.length ≤ 65535) (hc : u.length ≤ c) (hr : Reads w0 l 1 sl u.length (u64V u)) (h : St w0 l w) :
    Ret Tryd.prog 67 [.slice sl u.length c] w fun v w' => ∃ a c', v = .tuple [.slice a ((simpEnc u).getD []).length c', .bool (simpEnc u).isSome].toArray ∧ St w0 (OwnU a c' ((simpEnc u).getD []) :: l) w' := by
  refine enter Tryd.func67 rfl Tryd.results67 Tryd.ntmps67 rfl ?_
  refine c_seq (c_region ?_)
  refine r_v (q_assignS rfl) rfl ?_; refine r_v (q_assignB rfl) rfl ?_
  refine r_nil ?_
  refine c_seq (c_region ?_)
  refine r_c rfl (x_call rfl (simp_kinds h) ?_)
  rintro _ w ⟨b, rfl, h⟩
  refine r_v (q_assignS rfl) rfl ?_
  refine r_nil ?_
  refine c_seq (c_region ?_)
  refine r_v (q_assignS rfl) rfl ?_
  refine r_nil ?_
  refine c_seq (c_block ?_)
  refine c_loop (Γ := List Nat × Option Addr × Nat × List Nat × Option Addr × Nat) (fun k => [(0, .slice k.2.1 k.1.length k.2.2.1), (4, .slice (some ⟨b, 0, none⟩) 16 16), (5, .slice k.2.2.2.2.1 k.2.2.2.1.length k.2.2.2.2.2)])
    (fun k w => (simpEnc k.1).map (fun r => k.2.2.2.1 ++ r) = simpEnc u ∧ (∀ x ∈ k.1, x < 18446744073709551616) ∧ k.2.2.2.1.length + k.1.length ≤ u.length ∧ k.1.length ≤ k.2.2.1 ∧ Reads w0 l 1 k.2.1 k.1.length (u64V k.1) ∧ St w0 (KindsPt b :: OwnU k.2.2.2.2.1 k.2.2.2.2.2 k.2.2.2.1 :: l) w)
    (fun k => k.1.length) (u, sl, c, [], none, 0) ⟨rfl, rfl, rfl, trivial⟩ ⟨by simp, hu, by simp, hc, hr, (St.ownNil 22 1 h).f 1⟩ ?_
  clear h hr hc hu
  rintro ⟨u', a', c', out, oa, oc⟩ w e ⟨he, hu, hlen, hc, hr, h⟩
  dsimp only at he hu hlen hc hr h ⊢
  refine c_seq (c_seq (c_region ?_))
  refine r_v (q_moveS rfl) rfl ?_; refine r_v (q_len rfl) rfl ?_; refine r_v (q_gtr rfl rfl) rfl ?_
  refine r_nil ?_
  refine c_cond (decide ((u'.length : Int) > 0)) rfl (fun hcc => ?_) (fun hcc => ?_)
  ·
    have hpos : 0 < u'.length := by simp at hcc; omega
    have hne : u' ≠ [] := List.length_pos_iff.1 hpos
    refine c_skip ?_
    refine c_block ?_
    refine c_seq (c_region ?_)
    refine r_v (q_moveS rfl) rfl ?_; refine r_v (q_moveS rfl) rfl ?_
    refine r_c rfl (x_call rfl (simp_word hu (by omega) hc (hr.more [_, _]) h) ?_)
    rintro _ w ⟨rfl, h⟩
    refine r_v (q_moveT rfl) rfl ?_; refine r_v (q_ext rfl rfl) rfl ?_; refine r_v (q_ext rfl rfl) rfl ?_; refine r_v (q_assignI rfl) rfl ?_; refine r_v (q_assignI rfl) rfl ?_
    refine r_nil ?_
    refine c_seq (c_seq (c_region ?_))
    refine r_v (q_moveI rfl) rfl ?_; refine r_v (q_eql rfl rfl) rfl ?_
    cases hw : wordA 0 kindsL u' with
    | none =>
      refine r_is (.bool true) rfl ?_
      refine r_nil (c_true rfl ?_)
      refine c_seq (c_region ?_)
      refine r_v (q_assignS rfl) rfl ?_; refine r_v (q_assignB rfl) rfl ?_
      refine r_nil ?_
      rw [simpEnc_none hne hw] at he
      rw [← he]
      exact c_ret (bq2 ⟨none, 0, rfl, St.ownNil _ _ h.drop.drop⟩)
    | some wn =>
      obtain ⟨x, n⟩ := wn
      have hp := wordA_pos hne hw
      rw [simpEnc_some hne hw, Option.map_map] at he
      refine r_is (.bool false) (by show Value.bool ((n : Int) == 0) = _; congr 1; rw [beq_eq_false_iff_ne]; omega) ?_
      refine r_nil (c_false rfl (c_skip ?_))
      refine c_seq (c_region ?_)
      refine r_v (q_moveS rfl) rfl ?_; refine r_v (q_moveI rfl) rfl ?_
      refine r_c rfl (x_bslice (r := u64V [x]) h rfl rfl rfl fun b2 w h => ?_)
      refine r_c rfl (x_append' (ys := u64V [x]) (zs := u64V (out ++ [x])) (m3 := (out ++ [x]).length) (h.f 2) rfl rfl ⟨rfl, .inr ⟨b2, 0, rfl, at_of (h.b 0 rfl) rfl⟩⟩ (u64V_one _) (by simp) (by simp [u64V]) (by simp; omega) (by simp; omega) rfl fun a2 c2 w _ h => ?_)
      refine r_v (q_assignS rfl) rfl ?_
      refine r_nil ?_
      refine c_region ?_
      refine r_v (q_moveS rfl) rfl ?_; refine r_v (q_moveI rfl) rfl ?_
      refine r_v (q_tail (i := n) rfl rfl hp.2) rfl ?_
      refine r_is (.slice (adv a' (n * 1) (Nat.beq c' n)) (u'.drop n).length (c' - n)) (by rw [List.length_drop]; rfl) ?_
      refine r_v (q_assignS rfl) rfl ?_
      refine r_nil ⟨(u'.drop n, adv a' (n * 1) (Nat.beq c' n), c' - n, out ++ [x], a2, c2), ⟨rfl, rfl, rfl, trivial⟩, ⟨?_, fun y hy => hu y (List.mem_of_mem_drop hy), by simp; omega, by simp; omega, reads_drop hr hp.2 hc, ?_⟩, by simp; omega⟩
      · rw [← he]
        congr 1
        funext r
        simp
      · exact ((h.f 1).drop.f 1)
  have hnil : u' = [] := by
    simp at hcc; exact hcc
  subst hnil
  rw [simpEnc_nil, Option.map_some, List.append_nil] at he
  refine c_exit ?_
  refine c_seq (c_region ?_)
  refine r_v (q_moveS rfl) rfl ?_; refine r_v (q_assignS rfl) rfl ?_; refine r_v (q_assignB rfl) rfl ?_
  refine r_nil ?_
  rw [← he]
  exact c_ret (bq2 ⟨oa, oc, rfl, h.drop⟩)

theorem runl_run {sl : Option Addr} {c : Nat} {x : Nat} {r : List Nat} (hn : r.length ≤ 65535) (hr : Reads w0 l 1 sl (x :: r).length (u64V (x :: r))) (h : St w0 l w) :
    Ret Tryd.prog 103 [.slice sl (x :: r).length c] w fun v w' => v = .int .i64 ((1 + lead x r : Nat)) ∧ St w0 l w' := by
  have hll : 1 + lead x r = lead x (x :: r) := by rw [lead, if_pos rfl, Nat.add_comm]
  rw [hll]
  have hg0 : (x :: r)[0]? = some x := rfl
  have hne : 0 < (x :: r).length := by simp
  have hn' : (x :: r).length ≤ 65536 := by simp; omega
  generalize x :: r = u at *
  clear hll
  refine enter Tryd.func103 rfl Tryd.results103 Tryd.ntmps103 rfl ?_
  refine c_seq (c_region ?_)
  refine r_v (q_assignI rfl) rfl ?_
  refine r_nil ?_
  refine c_seq (c_region ?_)
  refine r_v (q_assignI rfl) rfl ?_
  refine r_nil ?_
  refine c_cut (Γ := Unit) (fun _ => [(0, .slice sl u.length c), (3, .int .i64 (lead x u))]) (fun _ w => St w0 l w) ?_ ?_
  · refine c_block ?_
    refine c_loop (Γ := Nat) (fun n => [(0, .slice sl u.length c), (3, .int .i64 n)]) (fun n w => n ≤ u.length ∧ n + lead x (u.drop n) = lead x u ∧ St w0 l w) (fun n => u.length - n) 0 ⟨rfl, rfl, trivial⟩ ⟨Nat.zero_le _, by simp, h⟩ ?_
    clear h
    rintro n w e ⟨hnl, he, h⟩
    obtain ⟨b, o, hsl⟩ := (hr.at_ h).some hne
    by_cases hlt : n < u.length
    · have hg := List.getElem?_eq_getElem hlt
      have hdr := List.drop_eq_getElem_cons hlt
      generalize u[n] = y at hg hdr
      rw [hdr, lead] at he
      refine c_seq (c_seq (c_any none (fun w => St w0 _ w) (by kernel_rfl) (by kernel_rfl) h.drew fun w h => ?_))
      refine cur_pure rfl rfl rfl rfl (fun _ => h) (fun _ => flt_v rfl (q_moveI rfl)) ?_; refine cur_pure rfl rfl rfl rfl (fun _ => h) (fun _ => flt_v rfl (q_moveS rfl)) ?_; refine cur_pure rfl rfl rfl rfl (fun _ => h) (fun _ => flt_v rfl (q_len rfl)) ?_
      refine cur_pure rfl rfl rfl rfl (fun _ => h) (fun _ => flt_v rfl (q_is (v' := .bool true) (q_lss rfl rfl) (by simp; omega))) ?_
      refine cur_pure rfl rfl rfl rfl (fun _ => h) (fun _ => flt_v rfl (q_moveB rfl)) ?_; (first | refine cur_pure rfl rfl rfl rfl (fun _ => h) (fun _ => flt_g rfl rfl (q_moveS rfl)) ?_ | refine cur_pure rfl rfl rfl rfl (fun _ => h) (fun _ => flt_g rfl (by assumption) (q_moveS rfl)) ?_ | refine cur_pure rfl rfl rfl rfl (fun _ => h) (fun _ => flt_n rfl rfl) ?_ | refine cur_pure rfl rfl rfl rfl (fun _ => h) (fun _ => flt_n rfl (by assumption)) ?_); (first | refine cur_pure rfl rfl rfl rfl (fun _ => h) (fun _ => flt_g rfl rfl (q_moveI rfl)) ?_ | refine cur_pure rfl rfl rfl rfl (fun _ => h) (fun _ => flt_g rfl (by assumption) (q_moveI rfl)) ?_ | refine cur_pure rfl rfl rfl rfl (fun _ => h) (fun _ => flt_n rfl rfl) ?_ | refine cur_pure rfl rfl rfl rfl (fun _ => h) (fun _ => flt_n rfl (by assumption)) ?_)
      refine cur_pure rfl rfl rfl rfl (fun _ => h) (fun _ => flt_g rfl rfl (q_idx (b := b) (o := o) (m := u.length) (c := c) (o' := o + n) (by rw [← hsl]; rfl) rfl rfl hlt (by simp))) ?_
      refine cur_float rfl rfl rfl rfl h (fun w h => flt_g rfl rfl (q_loadc (v := .int .u64 y) rfl ((hsl ▸ hr.at_ h).cell (u64V_get hg)))) ?_
      (first | refine cur_pure rfl rfl rfl rfl (fun _ => h) (fun _ => flt_g rfl rfl (q_moveS rfl)) ?_ | refine cur_pure rfl rfl rfl rfl (fun _ => h) (fun _ => flt_g rfl (by assumption) (q_moveS rfl)) ?_ | refine cur_pure rfl rfl rfl rfl (fun _ => h) (fun _ => flt_n rfl rfl) ?_ | refine cur_pure rfl rfl rfl rfl (fun _ => h) (fun _ => flt_n rfl (by assumption)) ?_)
      refine cur_pure rfl rfl rfl rfl (fun _ => h) (fun _ => flt_g rfl rfl (q_idx (b := b) (o := o) (m := u.length) (c := c) (o' := o) (by rw [← hsl]; rfl) rfl (j := 0) rfl hne (by simp))) ?_
      refine cur_float rfl rfl rfl rfl h (fun w h => flt_g rfl rfl (q_loadc (v := .int .u64 x) rfl ((hsl ▸ hr.at_ h).cell (u64V_get hg0)))) ?_
      by_cases hyx : y = x
      · rw [if_pos hyx] at he
        refine cur_pure rfl rfl rfl rfl (fun _ => h) (fun _ => flt_g rfl rfl (q_is (v' := .bool true) (q_eql rfl rfl) (by rw [hyx]; simp))) ?_
        (first | refine cur_pure rfl rfl rfl rfl (fun _ => h) (fun _ => flt_v rfl (q_pick1 rfl rfl rfl)) ?_ | refine cur_pure rfl rfl rfl rfl (fun _ => h) (fun _ => flt_v rfl (q_pick0 rfl rfl rfl)) ?_ | refine cur_pure rfl rfl rfl rfl (fun _ => h) (fun _ => flt_v rfl (q_pick1 rfl (by assumption) rfl)) ?_ | refine cur_pure rfl rfl rfl rfl (fun _ => h) (fun _ => flt_v rfl (q_pick0 rfl (by assumption) rfl)) ?_ | refine cur_pure rfl rfl rfl rfl (fun _ => h) (fun _ => flt_v rfl (q_pickB rfl rfl rfl)) ?_)
        refine cur_end (c_true rfl (c_skip ?_))
        refine c_block ?_
        refine c_region ?_
        refine r_v (q_moveI rfl) rfl ?_; refine r_v (q_add rfl rfl) rfl ?_
        refine r_is (.int .i64 ((n + 1 : Nat) : Int)) (by rw [wrap64 (by omega) (by omega)]; rfl) ?_
        refine r_v (q_assignI rfl) rfl ?_
        exact r_nil ⟨n + 1, ⟨rfl, rfl, trivial⟩, ⟨hlt, by omega, h⟩, by omega⟩
      · rw [if_neg hyx] at he
        refine cur_pure rfl rfl rfl rfl (fun _ => h) (fun _ => flt_g rfl rfl (q_is (v' := .bool false) (q_eql rfl rfl) (by congr 1; rw [beq_eq_false_iff_ne]; omega))) ?_
        (first | refine cur_pure rfl rfl rfl rfl (fun _ => h) (fun _ => flt_v rfl (q_pick1 rfl rfl rfl)) ?_ | refine cur_pure rfl rfl rfl rfl (fun _ => h) (fun _ => flt_v rfl (q_pick0 rfl rfl rfl)) ?_ | refine cur_pure rfl rfl rfl rfl (fun _ => h) (fun _ => flt_v rfl (q_pick1 rfl (by assumption) rfl)) ?_ | refine cur_pure rfl rfl rfl rfl (fun _ => h) (fun _ => flt_v rfl (q_pick0 rfl (by assumption) rfl)) ?_ | refine cur_pure rfl rfl rfl rfl (fun _ => h) (fun _ => flt_v rfl (q_pickB rfl rfl rfl)) ?_)
        refine cur_end (c_false rfl ?_)
        refine c_exit ⟨(), ⟨rfl, ?_, trivial⟩, h⟩
        rw [← he]; rfl
    · have hnn : n = u.length := by omega
      rw [hnn, List.drop_length, lead] at he
      refine c_seq (c_seq (c_any none (fun w => St w0 _ w) (by kernel_rfl) (by kernel_rfl) h.drew fun w h => ?_))
      refine cur_pure rfl rfl rfl rfl (fun _ => h) (fun _ => flt_v rfl (q_moveI rfl)) ?_; refine cur_pure rfl rfl rfl rfl (fun _ => h) (fun _ => flt_v rfl (q_moveS rfl)) ?_; refine cur_pure rfl rfl rfl rfl (fun _ => h) (fun _ => flt_v rfl (q_len rfl)) ?_
      refine cur_pure rfl rfl rfl rfl (fun _ => h) (fun _ => flt_v rfl (q_is (v' := .bool false) (q_lss rfl rfl) (by simp; omega))) ?_
      refine cur_pure rfl rfl rfl rfl (fun _ => h) (fun _ => flt_v rfl (q_moveB rfl)) ?_; (first | refine cur_pure rfl rfl rfl rfl (fun _ => h) (fun _ => flt_g rfl rfl (q_nil rfl)) ?_ | refine cur_pure rfl rfl rfl rfl (fun _ => h) (fun _ => flt_g rfl (by assumption) (q_nil rfl)) ?_ | refine cur_pure rfl rfl rfl rfl (fun _ => h) (fun _ => flt_n rfl rfl) ?_ | refine cur_pure rfl rfl rfl rfl (fun _ => h) (fun _ => flt_n rfl (by assumption)) ?_); (first | refine cur_pure rfl rfl rfl rfl (fun _ => h) (fun _ => flt_g rfl rfl (q_nil rfl)) ?_ | refine cur_pure rfl rfl rfl rfl (fun _ => h) (fun _ => flt_g rfl (by assumption) (q_nil rfl)) ?_ | refine cur_pure rfl rfl rfl rfl (fun _ => h) (fun _ => flt_n rfl rfl) ?_ | refine cur_pure rfl rfl rfl rfl (fun _ => h) (fun _ => flt_n rfl (by assumption)) ?_); (first | refine cur_pure rfl rfl rfl rfl (fun _ => h) (fun _ => flt_g rfl rfl (q_nil rfl)) ?_ | refine cur_pure rfl rfl rfl rfl (fun _ => h) (fun _ => flt_g rfl (by assumption) (q_nil rfl)) ?_ | refine cur_pure rfl rfl rfl rfl (fun _ => h) (fun _ => flt_n rfl rfl) ?_ | refine cur_pure rfl rfl rfl rfl (fun _ => h) (fun _ => flt_n rfl (by assumption)) ?_); (first | refine cur_pure rfl rfl rfl rfl (fun _ => h) (fun _ => flt_g rfl rfl (q_nil rfl)) ?_ | refine cur_pure rfl rfl rfl rfl (fun _ => h) (fun _ => flt_g rfl (by assumption) (q_nil rfl)) ?_ | refine cur_pure rfl rfl rfl rfl (fun _ => h) (fun _ => flt_n rfl rfl) ?_ | refine cur_pure rfl rfl rfl rfl (fun _ => h) (fun _ => flt_n rfl (by assumption)) ?_); (first | refine cur_pure rfl rfl rfl rfl (fun _ => h) (fun _ => flt_g rfl rfl (q_nil rfl)) ?_ | refine cur_pure rfl rfl rfl rfl (fun _ => h) (fun _ => flt_g rfl (by assumption) (q_nil rfl)) ?_ | refine cur_pure rfl rfl rfl rfl (fun _ => h) (fun _ => flt_n rfl rfl) ?_ | refine cur_pure rfl rfl rfl rfl (fun _ => h) (fun _ => flt_n rfl (by assumption)) ?_); (first | refine cur_pure rfl rfl rfl rfl (fun _ => h) (fun _ => flt_g rfl rfl (q_nil rfl)) ?_ | refine cur_pure rfl rfl rfl rfl (fun _ => h) (fun _ => flt_g rfl (by assumption) (q_nil rfl)) ?_ | refine cur_pure rfl rfl rfl rfl (fun _ => h) (fun _ => flt_n rfl rfl) ?_ | refine cur_pure rfl rfl rfl rfl (fun _ => h) (fun _ => flt_n rfl (by assumption)) ?_); (first | refine cur_pure rfl rfl rfl rfl (fun _ => h) (fun _ => flt_g rfl rfl (q_nil rfl)) ?_ | refine cur_pure rfl rfl rfl rfl (fun _ => h) (fun _ => flt_g rfl (by assumption) (q_nil rfl)) ?_ | refine cur_pure rfl rfl rfl rfl (fun _ => h) (fun _ => flt_n rfl rfl) ?_ | refine cur_pure rfl rfl rfl rfl (fun _ => h) (fun _ => flt_n rfl (by assumption)) ?_); (first | refine cur_pure rfl rfl rfl rfl (fun _ => h) (fun _ => flt_g rfl rfl (q_nil rfl)) ?_ | refine cur_pure rfl rfl rfl rfl (fun _ => h) (fun _ => flt_g rfl (by assumption) (q_nil rfl)) ?_ | refine cur_pure rfl rfl rfl rfl (fun _ => h) (fun _ => flt_n rfl rfl) ?_ | refine cur_pure rfl rfl rfl rfl (fun _ => h) (fun _ => flt_n rfl (by assumption)) ?_); (first | refine cur_pure rfl rfl rfl rfl (fun _ => h) (fun _ => flt_v rfl (q_pick1 rfl rfl rfl)) ?_ | refine cur_pure rfl rfl rfl rfl (fun _ => h) (fun _ => flt_v rfl (q_pick0 rfl rfl rfl)) ?_ | refine cur_pure rfl rfl rfl rfl (fun _ => h) (fun _ => flt_v rfl (q_pick1 rfl (by assumption) rfl)) ?_ | refine cur_pure rfl rfl rfl rfl (fun _ => h) (fun _ => flt_v rfl (q_pick0 rfl (by assumption) rfl)) ?_ | refine cur_pure rfl rfl rfl rfl (fun _ => h) (fun _ => flt_v rfl (q_pickB rfl rfl rfl)) ?_)
      refine cur_end (c_false rfl ?_)
      refine c_exit ⟨(), ⟨rfl, ?_, trivial⟩, h⟩
      rw [← he, hnn]; rfl
  clear h
  rintro ⟨⟩ w e h
  refine c_seq (c_region ?_)
  refine r_v (q_moveI rfl) rfl ?_; refine r_v (q_assignI rfl) rfl ?_
  refine r_nil ?_
  exact c_ret (bq1 ⟨rfl, h⟩)

theorem runl_Encode {sl : Option Addr} {c : Nat} {u : List Nat} (hu : ∀ x ∈ u, x < 18446744073709551616) (hn : u.length ≤ 65535) (hc : u.length ≤ c) (hr : Reads w0 l 1 sl u.length (u64V u)) (h : St w0 l w) :
    Ret Tryd.prog 70 [.slice sl u.length c] w fun v w' => ∃ a c', v = .slice a (runsEnc u).length c' ∧ St w0 (OwnB a c' (runsEnc u) :: l) w' := by
  have hrl := runsEnc_len u
  refine enter Tryd.func70 rfl Tryd.results70 Tryd.ntmps70 rfl ?_
  refine c_seq (c_region ?_)
  refine r_v (q_assignS rfl) rfl ?_
  refine r_nil ?_
  refine c_seq (c_region ?_)
  refine r_v (q_assignS rfl) rfl ?_
  refine r_nil ?_
  refine c_seq (c_block ?_)
  refine c_loop (Γ := List Nat × Option Addr × Nat × List UInt8 × Option Addr × Nat) (fun k => [(0, .slice k.2.1 k.1.length k.2.2.1), (3, .slice k.2.2.2.2.1 k.2.2.2.1.length k.2.2.2.2.2)])
    (fun k w => k.2.2.2.1 ++ runsEnc k.1 = runsEnc u ∧ (∀ x ∈ k.1, x < 18446744073709551616) ∧ k.1.length ≤ u.length ∧ k.1.length ≤ k.2.2.1 ∧ Reads w0 l 1 k.2.1 k.1.length (u64V k.1) ∧ St w0 (OwnB k.2.2.2.2.1 k.2.2.2.2.2 k.2.2.2.1 :: l) w)
    (fun k => k.1.length) (u, sl, c, [], none, 0) ⟨rfl, rfl, trivial⟩ ⟨rfl, hu, Nat.le_refl _, hc, hr, St.ownNil _ _ h⟩ ?_
  clear h hr hc hu
  rintro ⟨u', a', c', out, oa, oc⟩ w e ⟨he, hu, hlen, hc, hr, h⟩
  dsimp only at he hu hlen hc hr h ⊢
  refine c_seq (c_seq (c_region ?_))
  refine r_v (q_moveS rfl) rfl ?_; refine r_v (q_len rfl) rfl ?_; refine r_v (q_gtr rfl rfl) rfl ?_
  refine r_nil ?_
  refine c_cond (decide ((u'.length : Int) > 0)) rfl (fun hcc => ?_) (fun hcc => ?_)
  ·
    cases u' with
    | nil => simp at hcc
    | cons x r =>
    have hx := hu x (List.mem_cons_self ..)
    have hle := lead_le x r
    have hlr : r.length + 1 ≤ u.length := hlen
    rw [runsEnc_cons] at he
    have hol := congrArg List.length he
    simp only [List.length_append] at hol
    refine c_skip ?_
    refine c_block ?_
    refine c_seq (c_region ?_)
    refine r_v (q_moveS rfl) rfl ?_
    refine r_c rfl (x_call rfl (runl_run (by omega) hr.cons h) ?_)
    rintro _ w ⟨rfl, h⟩
    refine r_v (q_assignI rfl) rfl ?_
    refine r_nil ?_
    obtain ⟨b, o, hsl⟩ := (hr.at_ h.drop).some (by simp)
    refine c_seq (c_anyW [0, 1, 2, 3, 4, 5, 6, 7, 8] none (fun w => ∃ L, St w0 (L ++ l) w) (by kernel_rfl) (by kernel_rfl) ?_)
    replace h := h.drew
    generalize w.drew = w at h
    have hs := h
    replace h : ∃ L, St w0 (L ++ l) w := ⟨[_], hs⟩
    refine cur_pure rfl rfl rfl rfl (fun _ => h) (fun _ => flt_v rfl (q_moveS rfl)) ?_; refine cur_pure rfl rfl rfl rfl (fun _ => h) (fun _ => flt_v rfl (q_moveI rfl)) ?_
    refine cur_pure rfl rfl rfl rfl (fun _ => h) (fun _ => flt_v rfl (q_is (v' := .int .u64 ((1 + lead x r : Nat) : Int)) (q_conv rfl) (by rw [wrap_u64, Nat.mod_eq_of_lt (by omega)]))) ?_
    refine cur_skip ?_; refine cur_pure rfl rfl rfl rfl (fun _ => h) (fun _ => flt_v rfl (q_moveS rfl)) ?_
    refine cur_pure rfl rfl rfl rfl (fun _ => h) (fun _ => flt_v rfl (q_idx (b := b) (o := o) (m := (x :: r).length) (c := c') (o' := o) (by rw [← hsl]; rfl) rfl (j := 0) rfl (by simp) (by simp))) ?_
    refine cur_float rfl rfl rfl rfl h (fun w h => flt_v rfl (q_loadc (v := .int .u64 x) rfl (by obtain ⟨L, h⟩ := h; exact (hsl ▸ hr L w h).cell (u64V_get (j := 0) rfl)))) ?_
    refine cur_skip ?_; refine cur_skip ?_
    refine cur_one 3 rfl rfl rfl rfl ?_
    refine (x_call rfl (vint_Put (1 + lead x r) (by omega) hs (fun w' h' => h'.own_rd) (by omega)) ?_)
    rintro _ w ⟨a1, c1, rfl, hs⟩
    replace h : ∃ L, St w0 (L ++ l) w := ⟨[_, _], hs⟩
    refine ⟨fun _ => h, ?_⟩
    refine cur_skip ?_; refine cur_skip ?_
    refine cur_one 7 rfl rfl rfl rfl ?_
    refine (x_call rfl (vint_Put x hx hs (fun w' h' => h'.own_rd) (by simp; omega)) ?_)
    rintro _ w ⟨a2, c2, rfl, hs⟩
    replace h : ∃ L, St w0 (L ++ l) w := ⟨[_, _, _], hs⟩
    refine ⟨fun _ => h, ?_⟩
    refine cur_pure rfl rfl rfl rfl (fun _ => h) (fun _ => flt_v rfl (q_assignS rfl)) ?_
    refine cur_end ?_
    refine c_region ?_
    refine r_v (q_moveS rfl) rfl ?_; refine r_v (q_moveI rfl) rfl ?_
    refine r_v (q_tail (i := 1 + lead x r) rfl rfl (by simp; omega)) rfl ?_
    refine r_is (.slice (adv a' ((1 + lead x r) * 1) (Nat.beq c' (1 + lead x r))) ((x :: r).drop (1 + lead x r)).length (c' - (1 + lead x r))) (by rw [List.length_drop]; rfl) ?_
    refine r_v (q_assignS rfl) rfl ?_
    have hd : (x :: r).drop (1 + lead x r) = r.drop (lead x r) := by rw [Nat.add_comm, List.drop_succ_cons]
    refine r_nil ⟨((x :: r).drop (1 + lead x r), adv a' ((1 + lead x r) * 1) (Nat.beq c' (1 + lead x r)), c' - (1 + lead x r), out ++ vput (1 + lead x r) ++ vput x, a2, c2), ⟨rfl, rfl, trivial⟩, ⟨?_, fun y hy => hu y (List.mem_of_mem_drop hy), by simp; omega, by simp at hc ⊢; omega, reads_drop hr (by simp; omega) hc, (hs.f 1).drop.f 1 |>.drop⟩, by simp; omega⟩
    dsimp only
    rw [hd, ← he, List.append_assoc, List.append_assoc]
  have hnil : u' = [] := by
    simp at hcc; exact hcc
  subst hnil
  rw [runsEnc, List.append_nil] at he
  refine c_exit ?_
  refine c_seq (c_region ?_)
  refine r_v (q_moveS rfl) rfl ?_; refine r_v (q_assignS rfl) rfl ?_
  refine r_nil ?_
  rw [← he]
  exact c_ret (bq1 ⟨oa, oc, rfl, h⟩)

theorem slices_Min {sl : Option Addr} {c : Nat} {x : Nat} {r : List Nat} (hn : r.length ≤ 65535) (hr : Reads w0 l 1 sl (x :: r).length (u64V (x :: r))) (h : St w0 l w) :
    Ret Tryd.prog 104 [.slice sl (x :: r).length c] w fun v w' => v = .int .u64 (leastA x r) ∧ St w0 l w' := by
  obtain ⟨b, o, hsl⟩ := (hr.at_ h).some (by simp)
  refine enter Tryd.func104 rfl Tryd.results104 Tryd.ntmps104 rfl ?_
  refine c_seq (c_region ?_)
  refine r_v (q_assignI rfl) rfl ?_
  refine r_nil ?_
  refine c_seq (c_seq (c_region ?_))
  refine r_v (q_moveS rfl) rfl ?_; refine r_v (q_len rfl) rfl ?_; refine r_v (q_lss rfl rfl) rfl ?_
  refine r_is (.bool false) (by simp; omega) ?_
  refine r_nil (c_false rfl (c_skip ?_))
  refine c_seq (c_region ?_)
  refine r_v (q_moveS rfl) rfl ?_
  refine r_v (q_idx (b := b) (o := o) (m := (x :: r).length) (c := c) (o' := o) (by rw [← hsl]; rfl) rfl (j := 0) rfl (by simp) (by simp)) rfl ?_
  refine r_v (q_loadc (v := .int .u64 x) rfl ((hsl ▸ hr.at_ h).cell (u64V_get (j := 0) rfl))) rfl ?_
  refine r_v (q_assignI rfl) rfl ?_
  refine r_nil ?_
  refine c_seq (c_seq (c_region ?_))
  refine r_v (q_assignI rfl) rfl ?_
  refine r_nil ?_
  refine c_block ?_
  refine c_loop (Γ := Nat × Nat) (fun k => [(0, .slice sl (x :: r).length c), (3, .int .u64 k.2), (4, .int .i64 ((k.1 + 1 : Nat) : Int))]) (fun k w => k.1 ≤ r.length ∧ leastA k.2 (r.drop k.1) = leastA x r ∧ St w0 l w) (fun k => r.length - k.1) (0, x) ⟨rfl, rfl, rfl, trivial⟩ ⟨Nat.zero_le _, rfl, h⟩ ?_
  clear h
  rintro ⟨i, m⟩ w e ⟨hi, he, h⟩
  dsimp only at hi he h ⊢
  refine c_seq (c_seq (c_region ?_))
  refine r_v (q_moveI rfl) rfl ?_; refine r_v (q_moveS rfl) rfl ?_; refine r_v (q_len rfl) rfl ?_; refine r_v (q_lss rfl rfl) rfl ?_
  by_cases hlt : i < r.length
  · have hg := List.getElem?_eq_getElem hlt
    have hdr := List.drop_eq_getElem_cons hlt
    generalize r[i] = y at hg hdr
    rw [hdr, leastA] at he
    refine r_is (.bool true) (by simp; omega) ?_
    refine r_nil (c_true rfl (c_skip ?_))
    refine c_seq (c_block ?_)
    refine c_region ?_
    refine r_v (q_moveI rfl) rfl ?_; refine r_v (q_moveS rfl) rfl ?_; refine r_v (q_moveI rfl) rfl ?_
    refine r_v (q_idx (b := b) (o := o) (m := (x :: r).length) (c := c) (o' := o + (i + 1)) (by rw [← hsl]; rfl) rfl rfl (by simp; omega) (by simp)) rfl ?_
    refine r_v (q_loadc (v := .int .u64 y) rfl ((hsl ▸ hr.at_ h).cell (u64V_get (j := i + 1) (by rw [List.getElem?_cons_succ]; exact hg)))) rfl ?_
    refine r_v (q_min rfl rfl) rfl ?_
    refine r_is (.int .u64 ((min m y : Nat) : Int)) (by congr 1; omega) ?_
    refine r_v (q_assignI rfl) rfl ?_
    refine r_nil ?_
    refine c_region ?_
    refine r_v (q_moveI rfl) rfl ?_; refine r_v (q_add rfl rfl) rfl ?_
    refine r_is (.int .i64 ((i + 1 + 1 : Nat) : Int)) (by rw [wrap64 (by omega) (by omega)]; rfl) ?_
    refine r_v (q_assignI rfl) rfl ?_
    exact r_nil ⟨(i + 1, min m y), ⟨rfl, rfl, rfl, trivial⟩, ⟨hlt, he, h⟩, by dsimp only; omega⟩
  refine r_is (.bool false) (by simp; omega) ?_
  refine r_nil (c_false rfl ?_)
  have hin : i = r.length := by omega
  rw [hin, List.drop_length, leastA] at he
  refine c_exit ?_
  refine c_seq (c_region ?_)
  refine r_v (q_moveI rfl) rfl ?_; refine r_v (q_assignI rfl) rfl ?_
  refine r_nil ?_
  rw [← he]
  exact c_ret (bq1 ⟨rfl, h⟩)
theorem slices_Max {sl : Option Addr} {c : Nat} {x : Nat} {r : List Nat} (hn : r.length ≤ 65535) (hr : Reads w0 l 1 sl (x :: r).length (u64V (x :: r))) (h : St w0 l w) :
    Ret Tryd.prog 106 [.slice sl (x :: r).length c] w fun v w' => v = .int .u64 (greatA x r) ∧ St w0 l w' := by
  obtain ⟨b, o, hsl⟩ := (hr.at_ h).some (by simp)
  refine enter Tryd.func106 rfl Tryd.results106 Tryd.ntmps106 rfl ?_
  refine c_seq (c_region ?_)
  refine r_v (q_assignI rfl) rfl ?_
  refine r_nil ?_
  refine c_seq (c_seq (c_region ?_))
  refine r_v (q_moveS rfl) rfl ?_; refine r_v (q_len rfl) rfl ?_; refine r_v (q_lss rfl rfl) rfl ?_
  refine r_is (.bool false) (by simp; omega) ?_
  refine r_nil (c_false rfl (c_skip ?_))
  refine c_seq (c_region ?_)
  refine r_v (q_moveS rfl) rfl ?_
  refine r_v (q_idx (b := b) (o := o) (m := (x :: r).length) (c := c) (o' := o) (by rw [← hsl]; rfl) rfl (j := 0) rfl (by simp) (by simp)) rfl ?_
  refine r_v (q_loadc (v := .int .u64 x) rfl ((hsl ▸ hr.at_ h).cell (u64V_get (j := 0) rfl))) rfl ?_
  refine r_v (q_assignI rfl) rfl ?_
  refine r_nil ?_
  refine c_seq (c_seq (c_region ?_))
  refine r_v (q_assignI rfl) rfl ?_
  refine r_nil ?_
  refine c_block ?_
  refine c_loop (Γ := Nat × Nat) (fun k => [(0, .slice sl (x :: r).length c), (3, .int .u64 k.2), (4, .int .i64 ((k.1 + 1 : Nat) : Int))]) (fun k w => k.1 ≤ r.length ∧ greatA k.2 (r.drop k.1) = greatA x r ∧ St w0 l w) (fun k => r.length - k.1) (0, x) ⟨rfl, rfl, rfl, trivial⟩ ⟨Nat.zero_le _, rfl, h⟩ ?_
  clear h
  rintro ⟨i, m⟩ w e ⟨hi, he, h⟩
  dsimp only at hi he h ⊢
  refine c_seq (c_seq (c_region ?_))
  refine r_v (q_moveI rfl) rfl ?_; refine r_v (q_moveS rfl) rfl ?_; refine r_v (q_len rfl) rfl ?_; refine r_v (q_lss rfl rfl) rfl ?_
  by_cases hlt : i < r.length
  · have hg := List.getElem?_eq_getElem hlt
    have hdr := List.drop_eq_getElem_cons hlt
    generalize r[i] = y at hg hdr
    rw [hdr, greatA] at he
    refine r_is (.bool true) (by simp; omega) ?_
    refine r_nil (c_true rfl (c_skip ?_))
    refine c_seq (c_block ?_)
    refine c_region ?_
    refine r_v (q_moveI rfl) rfl ?_; refine r_v (q_moveS rfl) rfl ?_; refine r_v (q_moveI rfl) rfl ?_
    refine r_v (q_idx (b := b) (o := o) (m := (x :: r).length) (c := c) (o' := o + (i + 1)) (by rw [← hsl]; rfl) rfl rfl (by simp; omega) (by simp)) rfl ?_
    refine r_v (q_loadc (v := .int .u64 y) rfl ((hsl ▸ hr.at_ h).cell (u64V_get (j := i + 1) (by rw [List.getElem?_cons_succ]; exact hg)))) rfl ?_
    refine r_v (q_max rfl rfl) rfl ?_
    refine r_is (.int .u64 ((max m y : Nat) : Int)) (by congr 1; omega) ?_
    refine r_v (q_assignI rfl) rfl ?_
    refine r_nil ?_
    refine c_region ?_
    refine r_v (q_moveI rfl) rfl ?_; refine r_v (q_add rfl rfl) rfl ?_
    refine r_is (.int .i64 ((i + 1 + 1 : Nat) : Int)) (by rw [wrap64 (by omega) (by omega)]; rfl) ?_
    refine r_v (q_assignI rfl) rfl ?_
    exact r_nil ⟨(i + 1, max m y), ⟨rfl, rfl, rfl, trivial⟩, ⟨hlt, he, h⟩, by dsimp only; omega⟩
  refine r_is (.bool false) (by simp; omega) ?_
  refine r_nil (c_false rfl ?_)
  have hin : i = r.length := by omega
  rw [hin, List.drop_length, greatA] at he
  refine c_exit ?_
  refine c_seq (c_region ?_)
  refine r_v (q_moveI rfl) rfl ?_; refine r_v (q_assignI rfl) rfl ?_
  refine r_nil ?_
  rw [← he]
  exact c_ret (bq1 ⟨rfl, h⟩)
theorem flat_bits_len (f : Nat → Nat) (wide : Nat) : ∀ v : List Nat, (v.flatMap fun y => bitsOf (f y) wide).length = wide * v.length
  | [] => rfl
  | x :: v => by rw [List.flatMap_cons, List.length_append, bitsOf_len, flat_bits_len f wide v, List.length_cons, Nat.mul_add]; omega

theorem forp_Encode {sl : Option Addr} {c : Nat} {u : List Nat} (hu : ∀ x ∈ u, x < 18446744073709551616) (hn : u.length ≤ 65535) (hr : Reads w0 l 1 sl u.length (u64V u)) (h : St w0 l w) :
    Ret Tryd.prog 71 [.slice sl u.length c] w fun v w' => ∃ a c', v = .slice a (frameEnc u).length c' ∧ St w0 (OwnB a c' (frameEnc u) :: l) w' := by
  refine enter Tryd.func71 rfl Tryd.results71 Tryd.ntmps71 rfl ?_
  refine c_seq (c_region ?_)
  refine r_v (q_assignS rfl) rfl ?_
  refine r_nil ?_
  refine c_seq (c_seq (c_region ?_))
  refine r_v (q_moveS rfl) rfl ?_; refine r_v (q_len rfl) rfl ?_; refine r_v (q_eql rfl rfl) rfl ?_
  cases u with
  | nil =>
    refine r_is (.bool true) rfl ?_
    refine r_nil (c_true rfl ?_)
    refine c_seq (c_region ?_)
    refine r_v (q_assignS rfl) rfl ?_
    refine r_nil ?_
    exact c_ret (bq1 ⟨none, 0, rfl, St.ownNil _ _ h⟩)
  | cons x r =>
  have hx := hu x (List.mem_cons_self ..)
  have hlst := leastA_lt r x hx
  have hgt := greatA_lt r x hx fun y hy => hu y (List.mem_cons_of_mem _ hy)
  have hlg : leastA x r ≤ greatA x r := Nat.le_trans (leastA_le r x).1 (greatA_ge r x).1
  have hw64 : len64 (greatA x r - leastA x r) ≤ 64 := len64_64 (by omega)
  have hnr : r.length ≤ 65534 := by simpa using hn
  refine r_is (.bool false) (by simp; omega) ?_
  refine r_nil (c_false rfl (c_skip ?_))
  refine c_seq (c_region ?_)
  refine r_v (q_moveS rfl) rfl ?_
  refine r_c rfl (x_call rfl (slices_Min (by omega) hr h) ?_)
  rintro _ w ⟨rfl, h⟩
  refine r_v (q_assignI rfl) rfl ?_
  refine r_nil ?_
  refine c_seq (c_region ?_)
  refine r_v (q_moveS rfl) rfl ?_
  refine r_c rfl (x_call rfl (slices_Max (by omega) hr h) ?_)
  rintro _ w ⟨rfl, h⟩
  refine r_v (q_moveI rfl) rfl ?_; refine r_v (q_sub rfl rfl) rfl ?_
  refine r_is (.int .u64 ((greatA x r - leastA x r : Nat) : Int)) (by rw [wrap_us]; unfold us; congr 1; omega) ?_
  refine r_c rfl (x_call rfl (mb_Len64 (by omega) h) ?_)
  rintro _ w ⟨rfl, h⟩
  have hfe : frameEnc (x :: r) = vput (leastA x r) ++ (UInt8.ofNat (len64 (greatA x r - leastA x r)) :: pack ((x :: r).flatMap fun y => bitsOf (y - leastA x r) (len64 (greatA x r - leastA x r)))) := rfl
  have hmem : ∀ y ∈ x :: r, leastA x r ≤ y := by
    intro y hy
    rcases List.mem_cons.1 hy with rfl | hy
    · exact (leastA_le r y).1
    · exact (leastA_le r x).2 y hy
  rw [hfe]
  generalize len64 (greatA x r - leastA x r) = wide at hw64 ⊢
  generalize leastA x r = least at hlst hmem ⊢
  have hflat := flat_bits_len (fun y => y - least) wide (x :: r)
  generalize hU : x :: r = u at *
  clear hfe hlg hgt hU
  refine r_v (q_assignI rfl) rfl ?_
  refine r_nil ?_
  refine c_seq (c_region ?_)
  refine r_c rfl (x_call rfl (bits_NewWriter h) ?_)
  rintro _ w ⟨p, rfl, h⟩
  refine r_v (q_assignP rfl) rfl ?_
  refine r_nil ?_
  refine c_seq (c_seq (c_region ?_))
  refine r_v (q_moveS rfl) rfl ?_; refine r_v (q_len rfl) rfl ?_; refine r_v (q_moveI rfl) rfl ?_
  refine r_nil ?_
  have hwl : wide * u.length ≤ 64 * 65535 := Nat.mul_le_mul hw64 hn
  refine c_block ?_
  refine c_loop (Γ := Nat) (fun k => [(3, .int .u64 least), (4, .int .i64 wide), (5, .pointer (some ⟨p, 0, none⟩)), (19, .slice sl u.length c), (20, .int .i64 u.length), (21, .int .i64 k)])
    (fun k w => k ≤ u.length ∧ St w0 (IsBW p ((u.take k).flatMap fun y => bitsOf (y - least) wide) :: l) w) (fun k => u.length - k) 0 ⟨rfl, rfl, rfl, rfl, rfl, rfl, trivial⟩ ⟨Nat.zero_le _, h⟩ ?_
  clear h
  rintro k w e ⟨hk, h⟩
  refine c_seq (c_region ?_)
  refine r_v (q_lss rfl rfl) rfl ?_
  refine r_nil ?_
  refine c_seq (c_cond (decide ((k : Int) < (u.length : Int))) rfl (fun hc => ?_) (fun hc => ?_))
  ·
    have hlt : k < u.length := by simp at hc; omega
    have hg := List.getElem?_eq_getElem hlt
    generalize u[k] = y at hg
    have hyl := hmem y (List.mem_of_getElem? hg)
    have hyu := hu y (List.mem_of_getElem? hg)
    have htl := flat_bits_len (fun y => y - least) wide (u.take k)
    rw [List.length_take, Nat.min_eq_left (Nat.le_of_lt hlt)] at htl
    have hwk : wide * k ≤ wide * u.length := Nat.mul_le_mul_left _ hk
    obtain ⟨b, o, hsl⟩ := (hr.at_ h.drop).some (by omega)
    refine c_skip ?_
    refine c_seq (c_block ?_)
    refine c_seq (c_region ?_)
    refine r_v (q_idx (b := b) (o := o) (m := u.length) (c := c) (o' := o + k) (by rw [← hsl]; rfl) rfl rfl hlt (by simp)) rfl ?_
    refine r_v (q_loadc (v := .int .u64 y) rfl ((hsl ▸ hr.at_ h.drop).cell (u64V_get hg))) rfl ?_
    refine r_v (q_assignI rfl) rfl ?_
    refine r_nil ?_
    refine c_region ?_
    refine r_v (q_moveP rfl) rfl ?_; refine r_v (q_moveI rfl) rfl ?_; refine r_v (q_moveI rfl) rfl ?_; refine r_v (q_sub rfl rfl) rfl ?_
    refine r_is (.int .u64 ((y - least : Nat) : Int)) (by rw [wrap_us]; unfold us; congr 1; omega) ?_
    refine r_v (q_moveI rfl) rfl ?_
    refine r_c rfl (x_call rfl (bits_Put (y - least) wide (by omega) (by rw [htl]; omega) h) ?_)
    rintro _ w ⟨rfl, h⟩
    refine r_nil ?_
    refine c_region ?_
    refine r_v (q_add rfl rfl) rfl ?_
    refine r_is (.int .i64 ((k + 1 : Nat) : Int)) (by rw [wrap64 (by omega) (by omega)]; rfl) ?_
    refine r_v (q_moveI rfl) rfl ?_
    refine r_nil ⟨k + 1, ⟨rfl, rfl, rfl, rfl, rfl, rfl, trivial⟩, ⟨hlt, ?_⟩, by omega⟩
    rw [heldN_nat hw64] at h
    rw [List.take_add_one, hg, List.flatMap_append]
    simpa using h
  have hkn : k = u.length := by simp at hc; omega
  rw [hkn, List.take_length] at h
  refine c_exit ?_
  have hv := vput_len least
  have hpl := pack_len (u.flatMap fun y => bitsOf (y - least) wide)
  refine c_seq (c_region ?_)
  refine r_v (q_moveI rfl) rfl ?_
  refine r_c rfl (x_call rfl (vint_Put (bs := []) least hlst h (fun w' h' => Reads.nil.at_ h') (by simp)) ?_)
  rintro _ w ⟨a1, c1, rfl, h⟩
  rw [List.nil_append] at h ⊢
  refine r_v (q_moveI rfl) rfl ?_; refine r_v (q_conv rfl) rfl ?_
  refine r_is (.int .u8 ((UInt8.ofNat wide).toNat : Int)) (by rw [wrap_u8, UInt8.toNat_ofNat']) ?_
  refine r_c rfl (x_bslice (r := bytesV [UInt8.ofNat wide]) h rfl rfl rfl fun b w h => ?_)
  refine r_c rfl (x_append' (ys := bytesV [UInt8.ofNat wide]) (zs := bytesV (vput least ++ [UInt8.ofNat wide])) (m3 := (vput least ++ [UInt8.ofNat wide]).length) (h.f 1) rfl rfl ⟨rfl, .inr ⟨b, 0, rfl, at_of (h.b 0 rfl) rfl⟩⟩ (bytesV_one _) (by simp) (by simp [bytesV]) (by simp; omega) (by simp; omega) rfl fun a2 c2 w _ h => ?_)
  replace h := (h.f 1).drop
  refine r_v (q_moveP rfl) rfl ?_
  refine r_c rfl (x_call rfl (bits_Bytes (h.f 1) (by omega)) ?_)
  rintro _ w ⟨a3, c3, rfl, h⟩
  refine r_c rfl (x_append' (ys := bytesV (pack (u.flatMap fun y => bitsOf (y - least) wide))) (zs := bytesV (vput least ++ (UInt8.ofNat wide :: pack (u.flatMap fun y => bitsOf (y - least) wide)))) (m3 := (vput least ++ (UInt8.ofNat wide :: pack (u.flatMap fun y => bitsOf (y - least) wide))).length) (h.f 2) rfl rfl h.own_rd (bytesV_one _) (by simp; omega) (by simp [bytesV]) (by simp; omega) (by simp; omega) rfl fun a4 c4 w _ h => ?_)
  refine r_v (q_assignS rfl) rfl ?_
  refine r_nil ?_
  exact c_ret (bq1 ⟨a4, c4, rfl, ((h.f 1).drop.f 1).drop⟩)
end
end Go.Proofs.YtjjacchnalemaaaDoor
