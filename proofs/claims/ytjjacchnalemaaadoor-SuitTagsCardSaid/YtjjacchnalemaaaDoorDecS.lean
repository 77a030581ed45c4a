/- suit: words, sums; slices.Equal; simp: reading small numbers. -/
import Derived.Test.YtjjacchnalemaaaDoorDec
namespace Go.Hw
set_option maxRecDepth 100000
theorem u64V_setlast (done : List Nat) (y z : Nat) : (u64V (done ++ [y])).set done.length (.int .u64 (z : Int)) = u64V (done ++ [z]) := by
  simp [u64V, List.set_append]
theorem shl8_or {y c : Nat} (hc : c < 256) : (y * 2 ^ 8 % 18446744073709551616) ||| c = (y * 256 + c) % 18446744073709551616 := by
  have e8 : (2 : Nat) ^ 8 = 256 := rfl
  have h1 : y * 2 ^ 8 % 18446744073709551616 = y % 72057594037927936 * 2 ^ 8 := by rw [e8]; omega
  have h2 : (y * 256 + c) % 18446744073709551616 = c + y % 72057594037927936 * 2 ^ 8 := by rw [e8]; omega
  rw [h1, h2, Nat.or_comm]
  exact or_shift (i := 8) hc
theorem unpackW_len (x b m : Nat) : (unpackW x b m).length = m := by simp [unpackW]
theorem simpDecA_len : ∀ (ws : List Nat) (room : Nat) (x : List Nat), simpDecA ws room = some x → x.length ≤ room
  | [], _, x, h => by cases h; exact Nat.zero_le _
  | w :: ws, room, x, h => by
    rw [simpDecA] at h
    split at h
    · cases h
    · obtain ⟨y, h1, rfl⟩ := Option.map_eq_some_iff.1 h
      have := simpDecA_len ws _ y h1
      rw [List.length_append, unpackW_len]
      omega
theorem unpackW_succ (x b m : Nat) : unpackW x b (m + 1) = unpackW x b m ++ [x / 2 ^ (m * b) % 2 ^ b] := by
  unfold unpackW
  rw [List.range_succ, List.map_append]; rfl
theorem and_word (x : Nat) : x &&& 1152921504606846975 = x % 1152921504606846976 := Nat.and_two_pow_sub_one_eq_mod x 60
theorem pow_le_64 {b : Nat} (h : b ≤ 60) : 2 ^ b < 18446744073709551616 := Nat.lt_of_le_of_lt (Nat.pow_le_pow_right (by decide) h) (by decide)
end Go.Hw
namespace Go.Proofs.YtjjacchnalemaaaDoor
open Go.Hw
set_option maxHeartbeats 4000000
set_option maxRecDepth 100000
section
variable {w0 w : World} {l : List HProp}
theorem slices_Equal {s1 s2 : Option Addr} {c1 c2 : Nat} {u1 u2 : List Nat} (h1n : u1.length ≤ 9223372036854775807) (h : St w0 l w) (h1 : Reads w0 l 1 s1 u1.length (u64V u1)) (h2 : Reads w0 l 1 s2 u2.length (u64V u2)) :
    Ret Tryd.prog 113 [.slice s1 u1.length c1, .slice s2 u2.length c2] w fun v w' => v = .bool (decide (u1 = u2)) ∧ St w0 l w' := by
  refine enter Tryd.func113 rfl Tryd.results113 Tryd.ntmps113 rfl ?_
  refine c_seq (c_region ?_)
  refine r_v (q_assignB rfl) rfl ?_
  refine r_nil ?_
  refine c_seq (c_seq (c_region ?_))
  refine r_v (q_moveS rfl) rfl ?_; refine r_v (q_len rfl) rfl ?_; refine r_v (q_moveS rfl) rfl ?_; refine r_v (q_len rfl) rfl ?_; refine r_v (q_neq rfl rfl) rfl ?_
  by_cases hl : u1.length = u2.length
  · refine r_is (.bool false) (by simp [hl]) ?_
    refine r_nil (c_false rfl (c_skip ?_))
    refine c_seq (c_seq (c_region ?_))
    refine r_v (q_moveS rfl) rfl ?_; refine r_v (q_len rfl) rfl ?_; refine r_v (q_moveI rfl) rfl ?_
    refine r_nil ?_
    refine c_block ?_
    refine c_loop (Γ := Nat) (fun k => [(0, .slice s1 u1.length c1), (1, .slice s2 u2.length c2), (12, .int .i64 u1.length), (13, .int .i64 k)]) (fun k w => k ≤ u1.length ∧ u1.take k = u2.take k ∧ St w0 l w) (fun k => u1.length - k) 0 ⟨rfl, rfl, rfl, rfl, trivial⟩ ⟨Nat.zero_le _, rfl, h⟩ ?_
    clear h
    rintro k w e ⟨hk, he, h⟩
    refine c_seq (c_region ?_)
    refine r_v (q_lss rfl rfl) rfl ?_
    refine r_nil ?_
    refine c_seq (c_cond (decide ((k : Int) < (u1.length : Int))) rfl (fun hc => ?_) (fun hc => ?_))
    ·
      have hlt : k < u1.length := by simp at hc; omega
      have hg1 := List.getElem?_eq_getElem hlt
      generalize u1[k] = x at hg1
      have hg2 := List.getElem?_eq_getElem (show k < u2.length by omega)
      generalize u2[k]'(by omega) = y at hg2
      obtain ⟨b1, o1, hs1⟩ := (h1.at_ h).some (by omega)
      obtain ⟨b2, o2, hs2⟩ := (h2.at_ h).some (by omega)
      refine c_skip ?_
      refine c_seq (c_block ?_)
      refine c_seq (c_region ?_)
      refine r_v (q_moveI rfl) rfl ?_; refine r_v (q_assignI rfl) rfl ?_
      refine r_nil ?_
      refine c_seq (c_any none (fun w => St w0 _ w) (by kernel_rfl) (by kernel_rfl) h.drew fun w h => ?_)
      refine cur_pure rfl rfl rfl rfl (fun _ => h) (fun _ => flt_v rfl (q_moveS rfl)) ?_; refine cur_pure rfl rfl rfl rfl (fun _ => h) (fun _ => flt_v rfl (q_moveI rfl)) ?_
      refine cur_pure rfl rfl rfl rfl (fun _ => h) (fun _ => flt_v rfl (q_idx (b := b1) (o := o1) (m := u1.length) (c := c1) (o' := o1 + k) (by rw [← hs1]; rfl) rfl rfl hlt (by simp))) ?_
      refine cur_float rfl rfl rfl rfl h (fun w h => flt_v rfl (q_loadc (v := .int .u64 x) rfl ((hs1 ▸ h1.at_ h).cell (u64V_get hg1)))) ?_
      refine cur_pure rfl rfl rfl rfl (fun _ => h) (fun _ => flt_v rfl (q_moveS rfl)) ?_; refine cur_pure rfl rfl rfl rfl (fun _ => h) (fun _ => flt_v rfl (q_moveI rfl)) ?_
      refine cur_pure rfl rfl rfl rfl (fun _ => h) (fun _ => flt_v rfl (q_idx (b := b2) (o := o2) (m := u2.length) (c := c2) (o' := o2 + k) (by rw [← hs2]; rfl) rfl rfl (by omega) (by simp))) ?_
      refine cur_float rfl rfl rfl rfl h (fun w h => flt_v rfl (q_loadc (v := .int .u64 y) rfl ((hs2 ▸ h2.at_ h).cell (u64V_get hg2)))) ?_
      by_cases hxy : x = y
      · refine cur_pure rfl rfl rfl rfl (fun _ => h) (fun _ => flt_v rfl (q_is (v' := .bool false) (q_neq rfl rfl) (by rw [hxy]; simp))) ?_
        refine cur_end (c_false rfl (c_skip ?_))
        refine c_region ?_
        refine r_v (q_add rfl rfl) rfl ?_
        refine r_is (.int .i64 ((k + 1 : Nat) : Int)) (by rw [wrap64 (by omega) (by omega)]; rfl) ?_
        refine r_v (q_moveI rfl) rfl ?_
        refine r_nil ⟨k + 1, ⟨rfl, rfl, rfl, rfl, trivial⟩, ⟨hlt, ?_, h⟩, by omega⟩
        rw [List.take_add_one, List.take_add_one, he, hg1, hg2, hxy]
      · refine cur_pure rfl rfl rfl rfl (fun _ => h) (fun _ => flt_v rfl (q_is (v' := .bool true) (q_neq rfl rfl) (by congr 1; rw [bne_iff_ne]; omega))) ?_
        refine cur_end (c_true rfl ?_)
        refine c_seq (c_region ?_)
        refine r_v (q_assignB rfl) rfl ?_
        refine r_nil (c_ret (bq1 ⟨?_, h⟩))
        rw [show decide (u1 = u2) = false from decide_eq_false fun hh => hxy (by rw [hh, hg2] at hg1; exact (Option.some.inj hg1).symm)]; rfl
    have hkn : k = u1.length := by simp at hc; omega
    refine c_exit ?_
    refine c_seq (c_region ?_)
    refine r_v (q_assignB rfl) rfl ?_
    refine r_nil (c_ret (bq1 ⟨?_, h⟩))
    rw [hkn, List.take_length, hl, List.take_length] at he
    rw [decide_eq_true he]; rfl
  · refine r_is (.bool true) (by congr 1; rw [bne_iff_ne]; omega) ?_
    refine r_nil (c_true rfl ?_)
    refine c_seq (c_region ?_)
    refine r_v (q_assignB rfl) rfl ?_
    refine r_nil (c_ret (bq1 ⟨?_, h⟩))
    rw [show decide (u1 = u2) = false from decide_eq_false fun hh => hl (by rw [hh])]; rfl

theorem suit_sums {sl : Option Addr} {c : Nat} {u : List Nat} (hu : ∀ x ∈ u, x < 18446744073709551616) (hn : u.length ≤ 65535) (hr : Reads w0 l 1 sl u.length (u64V u)) (h : St w0 l w) :
    Ret Tryd.prog 83 [.slice sl u.length c] w fun v w' => ∃ a c', v = .slice a (sumsL 0 u).length c' ∧ (∀ x ∈ sumsL 0 u, x < 18446744073709551616) ∧ St w0 (OwnU a c' (sumsL 0 u) :: l) w' := by
  refine enter Tryd.func83 rfl Tryd.results83 Tryd.ntmps83 rfl ?_
  refine c_seq (c_region ?_)
  refine r_v (q_assignS rfl) rfl ?_
  refine r_nil ?_
  refine c_seq (c_region ?_)
  refine r_v (q_assignS rfl) rfl ?_
  refine r_nil ?_
  refine c_seq (c_region ?_)
  refine r_v (q_assignI rfl) rfl ?_
  refine r_nil ?_
  refine c_seq (c_seq (c_region ?_))
  refine r_v (q_moveS rfl) rfl ?_; refine r_v (q_len rfl) rfl ?_; refine r_v (q_moveI rfl) rfl ?_
  refine r_nil ?_
  refine c_block ?_
  refine c_loop (Γ := Nat × Nat × List Nat × Option Addr × Nat) (fun k => [(3, .slice k.2.2.2.1 k.2.2.1.length k.2.2.2.2), (4, .int .u64 k.2.1), (7, .slice sl u.length c), (8, .int .i64 u.length), (9, .int .i64 k.1)])
    (fun k w => k.1 ≤ u.length ∧ k.2.1 < 18446744073709551616 ∧ k.2.2.1.length = k.1 ∧ (∀ x ∈ k.2.2.1, x < 18446744073709551616) ∧ k.2.2.1 ++ sumsL k.2.1 (u.drop k.1) = sumsL 0 u ∧ St w0 (OwnU k.2.2.2.1 k.2.2.2.2 k.2.2.1 :: l) w) (fun k => u.length - k.1) (0, 0, [], none, 0) ⟨rfl, rfl, rfl, rfl, rfl, trivial⟩ ⟨Nat.zero_le _, (by decide : (0 : Nat) < 18446744073709551616), rfl, (fun _ h => by cases h), rfl, St.ownNil _ _ h⟩ ?_
  clear h
  rintro ⟨i, was, out, a, c1⟩ w e ⟨hi, hw, hol, hout, he, h⟩
  dsimp only at hi hw hol hout he h ⊢
  refine c_seq (c_region ?_)
  refine r_v (q_lss rfl rfl) rfl ?_
  refine r_nil ?_
  refine c_seq (c_cond (decide ((i : Int) < (u.length : Int))) rfl (fun hc => ?_) (fun hc => ?_))
  ·
    have hlt : i < u.length := by simp at hc; omega
    have hg := List.getElem?_eq_getElem hlt
    have hdr := List.drop_eq_getElem_cons hlt
    generalize u[i] = x at hg hdr
    have hx := hu x (List.mem_of_getElem? hg)
    rw [hdr, sumsL] at he
    have hd : summ was (zagU x) < 18446744073709551616 := Nat.mod_lt _ (by decide)
    have hzl := zagU_lt hx
    obtain ⟨b, o, hsl⟩ := (hr.cons.at_ h).some (by omega)
    refine c_skip ?_
    refine c_seq (c_block ?_)
    refine c_seq (c_region ?_)
    refine r_v (q_idx (b := b) (o := o) (m := u.length) (c := c) (o' := o + i) (by rw [← hsl]; rfl) rfl rfl hlt (by simp)) rfl ?_
    refine r_v (q_loadc (v := .int .u64 x) rfl ((hsl ▸ hr.cons.at_ h).cell (u64V_get hg))) rfl ?_
    refine r_v (q_assignI rfl) rfl ?_
    refine r_nil ?_
    refine c_seq (c_region ?_)
    refine r_v (q_moveI rfl) rfl ?_; refine r_v (q_moveI rfl) rfl ?_
    refine r_c rfl (x_call rfl (vint_Zag hx h) ?_)
    rintro _ w ⟨rfl, h⟩
    refine r_v (q_conv rfl) rfl ?_
    refine r_is (.int .u64 (zagU x : Nat)) (by rw [wrap_us, us_sg hzl]) ?_
    refine r_v (q_add rfl rfl) rfl ?_
    refine r_is (.int .u64 (summ was (zagU x) : Nat)) (by rw [wrap_summ]) ?_
    refine r_v (q_assignI rfl) rfl ?_
    refine r_nil ?_
    generalize summ was (zagU x) = y at he hd ⊢
    refine c_region ?_
    refine r_v (q_moveS rfl) rfl ?_; refine r_v (q_moveI rfl) rfl ?_
    refine r_c rfl (x_bslice (r := u64V [y]) h rfl rfl rfl fun b2 w h => ?_)
    refine r_c rfl (x_append' (ys := u64V [y]) (zs := u64V (out ++ [y])) (m3 := (out ++ [y]).length) (h.f 1) rfl rfl ⟨rfl, .inr ⟨b2, 0, rfl, at_of (h.b 0 rfl) rfl⟩⟩ (u64V_one _) (by simp) (by simp [u64V]) (by simp; omega) (by simp; omega) rfl fun a2 c2 w _ h => ?_)
    refine r_v (q_assignS rfl) rfl ?_
    refine r_nil ?_
    refine c_region ?_
    refine r_v (q_add rfl rfl) rfl ?_
    refine r_is (.int .i64 ((i + 1 : Nat) : Int)) (by rw [wrap64 (by omega) (by omega)]; rfl) ?_
    refine r_v (q_moveI rfl) rfl ?_
    refine r_nil ⟨(i + 1, y, out ++ [y], a2, c2), ⟨rfl, rfl, rfl, rfl, rfl, trivial⟩, ⟨hlt, hd, by simp; omega, fun z hz => ?_, by rw [← he]; simp, (h.f 1).drop⟩, by dsimp only; omega⟩
    rcases List.mem_append.1 hz with hz | hz
    · exact hout z hz
    · simp at hz; subst hz; exact hd
  have hin : i = u.length := by simp at hc; omega
  rw [hin, List.drop_length, sumsL, List.append_nil] at he
  refine c_exit ?_
  refine c_seq (c_region ?_)
  refine r_v (q_moveS rfl) rfl ?_; refine r_v (q_assignS rfl) rfl ?_
  refine r_nil ?_
  rw [← he]
  exact c_ret (bq1 ⟨a, c1, rfl, hout, h⟩)

theorem suit_words {sl : Option Addr} {c : Nat} {bs : List UInt8} (hn : bs.length ≤ 140737488355328) (hr : Reads w0 l 1 sl bs.length (bytesV bs)) (h : St w0 l w) :
    Ret Tryd.prog 81 [.slice sl bs.length c] w fun v w' => ∃ a c', v = .tuple [.slice a (wordsL bs).length c', .bool (decide (bs.length % 8 = 0))].toArray ∧ (∀ x ∈ wordsL bs, x < 18446744073709551616) ∧ (wordsL bs).length ≤ bs.length ∧ St w0 (OwnU a c' (wordsL bs) :: l) w' := by
  refine enter Tryd.func81 rfl Tryd.results81 Tryd.ntmps81 rfl ?_
  refine c_seq (c_region ?_)
  refine r_v (q_assignS rfl) rfl ?_; refine r_v (q_assignB rfl) rfl ?_
  refine r_nil ?_
  refine c_seq (c_region ?_)
  refine r_v (q_assignS rfl) rfl ?_
  refine r_nil ?_
  refine c_seq (c_seq (c_region ?_))
  refine r_v (q_moveS rfl) rfl ?_; refine r_v (q_len rfl) rfl ?_; refine r_v (q_moveI rfl) rfl ?_
  refine r_nil ?_
  refine c_block ?_
  refine c_loop (Γ := Nat × List Nat × Option Addr × Nat) (fun k => [(0, .slice sl bs.length c), (4, .slice k.2.2.1 k.2.1.length k.2.2.2), (7, .slice sl bs.length c), (8, .int .i64 bs.length), (9, .int .i64 k.1)])
    (fun k w => k.1 ≤ bs.length ∧ 8 * k.2.1.length ≤ k.1 + 7 ∧ (∀ x ∈ k.2.1, x < 18446744073709551616) ∧ ((k.1 = 0 ∧ k.2.1 = []) ∨ ∃ done x j, k.2.1 = done ++ [x] ∧ 1 ≤ j ∧ j ≤ 8 ∧ k.1 % 8 = j % 8 ∧ done ++ wordsA x j (bs.drop k.1) = wordsL bs) ∧ St w0 (OwnU k.2.2.1 k.2.2.2 k.2.1 :: l) w)
    (fun k => bs.length - k.1) (0, [], none, 0) ⟨rfl, rfl, rfl, rfl, rfl, trivial⟩ ⟨Nat.zero_le _, Nat.zero_le _, (fun _ h => by cases h), .inl ⟨rfl, rfl⟩, St.ownNil _ _ h⟩ ?_
  clear h
  rintro ⟨i, out, a, c1⟩ w e ⟨hi, hol, hout, inv, h⟩
  dsimp only at hi hol hout inv h ⊢
  refine c_seq (c_region ?_)
  refine r_v (q_lss rfl rfl) rfl ?_
  refine r_nil ?_
  refine c_seq (c_cond (decide ((i : Int) < (bs.length : Int))) rfl (fun hc => ?_) (fun hc => ?_))
  ·
    have hlt : i < bs.length := by simp at hc; omega
    have hg := List.getElem?_eq_getElem hlt
    have hdr := List.drop_eq_getElem_cons hlt
    generalize bs[i] = x at hg hdr
    have hx := x.toNat_lt
    obtain ⟨b, o, hsl⟩ := (hr.cons.at_ h).some (by omega)
    refine c_skip ?_
    refine c_seq (c_block ?_)
    refine c_seq (c_region ?_)
    refine r_v (q_moveI rfl) rfl ?_
    refine r_v (q_idx (b := b) (o := o) (m := bs.length) (c := c) (o' := o + i) (by rw [← hsl]; rfl) rfl rfl hlt (by simp)) rfl ?_
    refine r_v (q_loadc (v := .int .u8 x.toNat) rfl ((hsl ▸ hr.cons.at_ h).cell (bytesV_get hg))) rfl ?_
    refine r_v (q_assignI rfl) rfl ?_; refine r_v (q_assignI rfl) rfl ?_
    refine r_nil ?_
    refine c_cut (Γ := List Nat × Nat × Option Addr × Nat) (fun k => [(0, .slice sl bs.length c), (4, .slice k.2.2.1 (k.1 ++ [k.2.1]).length k.2.2.2), (6, .int .u8 x.toNat), (7, .slice sl bs.length c), (8, .int .i64 bs.length), (9, .int .i64 i)])
      (fun k w => 8 * k.1.length ≤ i ∧ (∀ y ∈ k.1, y < 18446744073709551616) ∧ (∃ j, 1 ≤ j ∧ j ≤ 8 ∧ (i + 1) % 8 = j % 8 ∧ k.1 ++ wordsA ((k.2.1 * 256 + x.toNat) % 18446744073709551616) j (bs.drop (i + 1)) = wordsL bs) ∧ St w0 (OwnU k.2.2.1 k.2.2.2 (k.1 ++ [k.2.1]) :: l) w) ?_ ?_
    · refine c_seq (c_region ?_)
      refine r_v (q_moveI rfl) rfl ?_
      refine r_v (q_is (v' := .int .i64 ((i % 8 : Nat) : Int)) (q_rem rfl rfl (by decide)) (congrArg (Value.int .i64) (tmod_nat i 8))) rfl ?_
      refine r_v (q_eql rfl rfl) rfl ?_
      by_cases h8 : i % 8 = 0
      · refine r_is (.bool true) (by rw [h8]; rfl) ?_
        refine r_nil (c_true rfl ?_)
        refine c_region ?_
        refine r_v (q_moveS rfl) rfl ?_
        refine r_c rfl (x_bslice (r := u64V [0]) h rfl rfl rfl fun b2 w h => ?_)
        refine r_c rfl (x_append' (ys := u64V [0]) (zs := u64V (out ++ [0])) (m3 := (out ++ [0]).length) (h.f 1) rfl rfl ⟨rfl, .inr ⟨b2, 0, rfl, at_of (h.b 0 rfl) rfl⟩⟩ (u64V_one _) (by simp) (by simp [u64V]) (by simp; omega) (by simp; omega) rfl fun a2 c2 w _ h => ?_)
        refine r_v (q_assignS rfl) rfl ?_
        refine r_nil ⟨(out, 0, a2, c2), ⟨rfl, rfl, rfl, rfl, rfl, rfl, trivial⟩, by dsimp only; omega, hout, ⟨1, by decide, by decide, by omega, ?_⟩, (h.f 1).drop⟩
        dsimp only
        rw [show (0 * 256 + x.toNat) % 18446744073709551616 = x.toNat by omega]
        rcases inv with ⟨h0, hnil⟩ | ⟨done, y, j, ho, h1j, hj8, hij, he⟩
        · subst h0
          rw [hnil]
          rw [List.drop_zero] at hdr
          conv => rhs; rw [hdr]
          rfl
        · have : j = 8 := by omega
          subst this
          rw [hdr, wordsA, if_pos rfl] at he
          rw [← he, ho]
          simp
      · refine r_is (.bool false) (by congr 1; rw [beq_eq_false_iff_ne]; omega) ?_
        refine r_nil (c_false rfl ?_)
        rcases inv with ⟨h0, hnil⟩ | ⟨done, y, j, ho, h1j, hj8, hij, he⟩
        · omega
        · subst ho
          rw [hdr, wordsA, if_neg (by omega)] at he
          rw [List.length_append, List.length_singleton] at hol
          exact c_skip ⟨(done, y, a, c1), ⟨rfl, rfl, rfl, rfl, rfl, rfl, trivial⟩, by dsimp only; omega, fun z hz => hout z (List.mem_append_left _ hz), ⟨j + 1, by omega, by omega, by omega, he⟩, h⟩
    clear h inv hout hol
    rintro ⟨done, y, a, c1⟩ w e ⟨hol, hout, ⟨j, h1j, hj8, hij, he⟩, h⟩
    dsimp only at hol hout he h ⊢
    obtain ⟨bl, hal⟩ := h.own_some (by simp)
    subst hal
    have hll : (done ++ [y]).length = done.length + 1 := by simp
    have hlast : (done ++ [y])[done.length]? = some y := by simp
    have hnl : (y * 256 + x.toNat) % 18446744073709551616 < 18446744073709551616 := Nat.mod_lt _ (by decide)
    refine c_region ?_
    refine r_v (q_moveS rfl) rfl ?_; refine r_v (q_moveS rfl) rfl ?_; refine r_v (q_len rfl) rfl ?_; refine r_v (q_sub rfl rfl) rfl ?_
    refine r_is (.int .i64 (done.length : Int)) (by rw [hll, wrap64 (by omega) (by omega)]; congr 1; omega) ?_
    refine r_v (q_moveS rfl) rfl ?_; refine r_v (q_moveS rfl) rfl ?_; refine r_v (q_len rfl) rfl ?_; refine r_v (q_sub rfl rfl) rfl ?_
    refine r_is (.int .i64 (done.length : Int)) (by rw [hll, wrap64 (by omega) (by omega)]; congr 1; omega) ?_
    refine r_v (q_idx (b := bl) (o := 0) (m := (done ++ [y]).length) (c := c1) (o' := done.length) rfl rfl (j := done.length) rfl (by omega) (by simp)) rfl ?_
    refine r_v (q_loadc (v := .int .u64 y) rfl (by have := (h.own_rd).cell (u64V_get hlast); simpa using this)) rfl ?_
    refine r_v (q_is (v' := .int .u64 ((y * 2 ^ 8 % 18446744073709551616 : Nat) : Int)) (q_shl rfl rfl (by omega)) (congrArg (Value.int .u64) (shl_u64 y 8 (by decide)))) rfl ?_
    refine r_v (q_moveI rfl) rfl ?_; refine r_v (q_conv rfl) rfl ?_
    refine r_is (.int .u64 (x.toNat : Int)) (congrArg (Value.int .u64) (conv_nat (by omega))) ?_
    refine r_v (q_or rfl rfl) rfl ?_
    refine r_is (.int .u64 (((y * 256 + x.toNat) % 18446744073709551616 : Nat) : Int)) (congrArg (Value.int .u64) (((bit_u64 (Nat.mod_lt _ (by decide)) (by omega)).2.1).trans (by rw [shl8_or (by omega)]))) ?_
    generalize (y * 256 + x.toNat) % 18446744073709551616 = z at he hnl ⊢
    refine r_v (q_idx (b := bl) (o := 0) (m := (done ++ [y]).length) (c := c1) (o' := done.length) rfl rfl (j := done.length) rfl (by omega) (by simp)) rfl ?_
    refine r_c rfl (x_ownset (v := .int .u64 (z : Int)) h rfl rfl (by simp) rfl fun w h => ?_)
    rw [u64V_setlast] at h
    refine r_nil ?_
    refine c_region ?_
    refine r_v (q_add rfl rfl) rfl ?_
    refine r_is (.int .i64 ((i + 1 : Nat) : Int)) (by rw [wrap64 (by omega) (by omega)]; rfl) ?_
    refine r_v (q_moveI rfl) rfl ?_
    refine r_nil ⟨(i + 1, done ++ [z], some ⟨bl, 0, none⟩, c1), ⟨rfl, ?_, rfl, rfl, rfl, trivial⟩, ⟨hlt, by simp; omega, fun t ht => ?_, .inr ⟨done, z, j, rfl, h1j, hj8, hij, he⟩, ?_⟩, by dsimp only; omega⟩
    · show Value.slice _ _ _ = Value.slice _ _ _
      rw [hll]; simp
    · rcases List.mem_append.1 ht with ht | ht
      · exact hout t ht
      · simp at ht; subst ht; exact hnl
    · have : (done ++ [z]).length = (done ++ [y]).length := by simp
      show St w0 (Own _ 1 _ (done ++ [z]).length _ _ :: l) w
      rw [this]; exact h
  have hin : i = bs.length := by simp at hc; omega
  have he : out = wordsL bs := by
    rcases inv with ⟨h0, hnil⟩ | ⟨done, y, j, ho, h1j, hj8, hij, he⟩
    · have : bs = [] := List.eq_nil_of_length_eq_zero (by omega)
      rw [hnil, this]; rfl
    · rw [hin, List.drop_length, wordsA, if_neg (by omega)] at he
      rw [ho, he]
  subst he
  refine c_exit ?_
  refine c_seq (c_region ?_)
  refine r_v (q_moveS rfl) rfl ?_; refine r_v (q_moveS rfl) rfl ?_; refine r_v (q_len rfl) rfl ?_
  refine r_v (q_is (v' := .int .i64 ((bs.length % 8 : Nat) : Int)) (q_rem rfl rfl (by decide)) (congrArg (Value.int .i64) (tmod_nat bs.length 8))) rfl ?_
  refine r_v (q_eql rfl rfl) rfl ?_
  refine r_is (.bool (decide (bs.length % 8 = 0))) (by congr 1; rw [Bool.eq_iff_iff]; simp; omega) ?_
  refine r_v (q_assignS rfl) rfl ?_; refine r_v (q_assignB rfl) rfl ?_
  refine r_nil ?_
  exact c_ret (bq2 ⟨a, c1, rfl, hout, by omega, h⟩)
end
end Go.Proofs.YtjjacchnalemaaaDoor
