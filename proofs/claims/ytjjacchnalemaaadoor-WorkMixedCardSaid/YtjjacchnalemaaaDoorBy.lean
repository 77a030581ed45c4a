/- Bytes: copies, numbers of any length, the bit reader. -/
import Derived.Test.YtjjacchnalemaaaDoorBits
import Derived.Test.YtjjacchnalemaaaDoorHu
import Derived.Test.YtjjacchnalemaaaDoorPe
namespace Go.Proofs.YtjjacchnalemaaaDoor
open Go.Hw
set_option maxHeartbeats 4000000
set_option maxRecDepth 100000

/-- Bytes of one's own. -/
abbrev OwnB (a : Option Addr) (c : Nat) (bs : List UInt8) : HProp := Own 5 1 a bs.length c (bytesV bs)
section
variable {w0 w : World} {l : List HProp}
theorem bytes_Clone {sl : Option Addr} {c : Nat} {bs : List UInt8} (h : St w0 l w) (hr : ∀ w', St w0 l w' → Rd w' 1 sl bs.length (bytesV bs)) (hn : bs.length ≤ 140737488355328) : Ret Tryd.prog 57 [.slice sl bs.length c] w fun v w' => ∃ a c', v = .slice a bs.length c' ∧ St w0 (OwnB a c' bs :: l) w' := by
  refine enter Tryd.func57 rfl Tryd.results57 Tryd.ntmps57 rfl ?_
  refine c_seq (c_region ?_)
  refine r_v (q_assignS rfl) rfl ?_
  refine r_nil (c_seq (c_seq (c_region ?_)))
  refine r_v (q_moveS rfl) rfl ?_
  refine r_v (q_seqnil rfl rfl) rfl ?_
  refine r_nil (c_cond sl.isNone rfl (fun hs => ?_) (fun hs => ?_))
  · refine c_seq (c_region ?_)
    refine r_v (q_assignS rfl) rfl ?_
    obtain rfl : sl = none := by simpa using hs
    have h2 := hr w h
    obtain ⟨h3, h4⟩ := h2
    have h5 : bs.length = 0 := by rcases h4 with h | ⟨b, o, h, _⟩; exact h; cases h
    obtain rfl : bs = [] := List.eq_nil_of_length_eq_zero h5
    exact r_nil (c_ret (bq1 ⟨none, 0, rfl, St.ownNil _ _ h⟩))
  · refine c_skip ?_
    refine c_seq (c_region ?_)
    refine r_c rfl (x_bslice (r := []) h rfl rfl rfl fun b w h => ?_)
    refine r_v (q_moveS rfl) rfl ?_
    have h1 : St w0 (Own 5 1 (some ⟨b, 0, none⟩) 0 0 [] :: l) w := St.own_mk (cur := []) h rfl rfl (Nat.le_refl _)
    refine r_c rfl (x_append' (zs := bytesV bs) (m3 := bs.length) h1 rfl rfl (hr w h1.drop) (bytesV_one _) (by omega) (List.nil_append _) (by omega) (by omega) rfl fun a c' w hn h => ?_)
    refine r_v (q_assignS rfl) rfl ?_
    exact r_nil (c_ret (bq1 ⟨a, c', rfl, h⟩))
theorem bytes_Clip {a : Option Addr} {c n : Nat} {xs : List Value} (h : St w0 (Own 5 1 a n c xs :: l) w) : Ret Tryd.prog 76 [.slice a n c] w fun v w' => v = .slice a n n ∧ St w0 (Own 5 1 a n n xs :: l) w' := by
  have hc := h.own_cases.2.1
  refine enter Tryd.func76 rfl Tryd.results76 Tryd.ntmps76 rfl ?_
  refine c_seq (c_region ?_)
  refine r_v (q_assignS rfl) rfl ?_
  refine r_nil ?_
  refine c_seq (c_region ?_)
  refine r_v (q_moveS rfl) rfl ?_; refine r_v (q_moveS rfl) rfl ?_; refine r_v (q_len rfl) rfl ?_; refine r_v (q_moveS rfl) rfl ?_; refine r_v (q_len rfl) rfl ?_
  refine r_v (q_clip rfl rfl rfl (Nat.le_refl _) hc) rfl ?_
  refine r_v (q_assignS rfl) rfl ?_
  refine r_nil ?_
  exact c_ret (bq1 ⟨rfl, h.own_clip⟩)
theorem bits_Bytes {p : Nat} {bs : List Bool} (h : St w0 (IsBW p bs :: l) w) (hn : bs.length ≤ 70368744177664) : Ret Tryd.prog 44 [.pointer (some ⟨p, 0, none⟩)] w fun v w' => ∃ a c, v = .slice a (pack bs).length c ∧ St w0 (OwnB a c (pack bs) :: IsBW p bs :: l) w' := by
  obtain ⟨a, c, h⟩ := St.bw.1 h
  rw [← pack_len] at h
  refine enter Tryd.func44 rfl Tryd.results44 Tryd.ntmps44 rfl ?_
  refine c_seq (c_region ?_)
  refine r_v (q_assignS rfl) rfl ?_
  refine r_nil ?_
  refine c_seq (c_region ?_)
  refine r_v (q_moveP rfl) rfl ?_; refine r_v (q_nil rfl) rfl ?_; refine r_v (q_fa rfl) rfl ?_; (first | refine r_v (q_load rfl (h.b 0) rfl) rfl ?_ | refine r_v (q_load rfl (h.b 1) rfl) rfl ?_ | refine r_v (q_load rfl (h.b 2) rfl) rfl ?_ | refine r_v (q_load rfl (h.b 3) rfl) rfl ?_ | refine r_v (q_load rfl (h.b 4) rfl) rfl ?_ | refine r_v (q_load rfl (h.b 5) rfl) rfl ?_)
  refine r_c rfl (x_call rfl (bytes_Clone (bs := pack bs) h (fun w' h' => (h'.f 1).own_rd) (by rw [pack_len]; omega)) ?_)
  rintro _ w ⟨a', c', rfl, h⟩
  refine r_v (q_assignS rfl) rfl ?_
  refine r_nil ?_
  refine c_ret (bq1 ⟨a', c', rfl, ?_⟩)
  rw [pack_len] at h
  exact ((St.bw.2 ⟨a, c, (h.f 2).f 2⟩).f 1)

theorem or_more : ∀ x : Nat, x < 256 → x ||| 128 = x % 128 + 128 := by decide
theorem vint_Put {sl : Option Addr} {c : Nat} {bs : List UInt8} (u : Nat) (hu : u < 18446744073709551616) (h : St w0 l w) (hr : ∀ w', St w0 l w' → Rd w' 1 sl bs.length (bytesV bs)) (hn : bs.length ≤ 70368744177664) :
    Ret Tryd.prog 45 [.slice sl bs.length c, .int .u64 u] w fun v w' => ∃ a c', v = .slice a (bs ++ vput u).length c' ∧ St w0 (OwnB a c' (bs ++ vput u) :: l) w' := by
  refine enter Tryd.func45 rfl Tryd.results45 Tryd.ntmps45 rfl ?_
  refine c_seq (c_region ?_)
  refine r_v (q_assignS rfl) rfl ?_
  refine r_nil ?_
  refine c_seq (c_region ?_)
  refine r_v (q_moveS rfl) rfl ?_
  refine r_c rfl (x_call rfl (bytes_Clone h hr (by omega)) ?_)
  rintro _ w ⟨a, c1, rfl, h⟩
  refine r_c rfl (x_call rfl (bytes_Clip h) ?_)
  rintro _ w ⟨rfl, h⟩
  refine r_v (q_assignS rfl) rfl ?_
  refine r_nil ?_
  refine c_cut (Γ := Nat × List UInt8 × Option Addr × Nat) (fun k => [(1, .int .u64 k.1), (5, .slice k.2.2.1 k.2.1.length k.2.2.2)])
    (fun k w => k.1 < 128 ∧ k.2.1 ++ vput k.1 = bs ++ vput u ∧ St w0 (OwnB k.2.2.1 k.2.2.2 k.2.1 :: l) w) ?_ ?_
  · refine c_block ?_
    refine c_loop (Γ := Nat × List UInt8 × Option Addr × Nat) (fun k => [(1, .int .u64 k.1), (5, .slice k.2.2.1 k.2.1.length k.2.2.2)])
      (fun k w => k.1 < 18446744073709551616 ∧ k.2.1 ++ vput k.1 = bs ++ vput u ∧ St w0 (OwnB k.2.2.1 k.2.2.2 k.2.1 :: l) w) (fun k => k.1) (u, bs, a, bs.length) ⟨rfl, rfl, trivial⟩ ⟨hu, rfl, h⟩ ?_
    clear h hu
    rintro ⟨u', out, a, c⟩ w e ⟨hu, he, h⟩
    dsimp only at hu he h ⊢
    have hlen : out.length ≤ bs.length + 10 := by
      have h1 := congrArg List.length he
      have h2 := vput_len u
      have h3 := vput_len u'
      simp only [List.length_append] at h1
      omega
    refine c_seq (c_seq (c_region ?_))
    refine r_v (q_moveI rfl) rfl ?_; refine r_v (q_geq rfl rfl) rfl ?_
    refine r_nil (c_cond (decide ((u' : Int) ≥ 128)) rfl (fun hc => ?_) (fun hc => ?_))
    ·
      have hge : 128 ≤ u' := by simp at hc; omega
      refine c_skip ?_
      refine c_seq (c_block ?_)
      refine c_region ?_
      refine r_v (q_moveS rfl) rfl ?_; refine r_v (q_moveI rfl) rfl ?_; refine r_v (q_conv rfl) rfl ?_
      refine r_is (.int .u8 ((u' % 256 : Nat) : Int)) (by rw [wrap_u8]) ?_
      refine r_v (q_or rfl rfl) rfl ?_
      refine r_is (.int .u8 ((UInt8.ofNat (u' % 128 + 128)).toNat : Int)) (by
        rw [show bitOp .or .u8 ((u' % 256 : Nat) : Int) 128 = ((u' % 256 ||| 128 : Nat) : Int) from (bit_u8 (Nat.mod_lt _ (by decide)) (by decide)).2.1, or_more _ (Nat.mod_lt _ (by decide)), UInt8.toNat_ofNat', show u' % 256 % 128 + 128 = (u' % 128 + 128) % 2 ^ 8 by simp only [Nat.reducePow]; omega]) ?_
      refine r_c rfl (x_bslice (r := bytesV [UInt8.ofNat (u' % 128 + 128)]) h rfl rfl rfl fun b w h => ?_)
      refine r_c rfl (x_append' (ys := bytesV [UInt8.ofNat (u' % 128 + 128)]) (zs := bytesV (out ++ [UInt8.ofNat (u' % 128 + 128)])) (m3 := (out ++ [UInt8.ofNat (u' % 128 + 128)]).length) (h.f 1) rfl rfl ⟨rfl, .inr ⟨b, 0, rfl, at_of (h.b 0 rfl) rfl⟩⟩ (bytesV_one _) (by simp) (by simp [bytesV]) (by simp; omega) (by simp; omega) rfl fun a' c' w _ h => ?_)
      refine r_v (q_assignS rfl) rfl ?_
      refine r_nil ?_
      refine c_region ?_
      refine r_v (q_moveI rfl) rfl ?_
      refine r_v (q_is (v' := .int .u64 ((u' / 128 : Nat) : Int)) (q_shr rfl rfl (by omega)) (congrArg (Value.int .u64) (fdiv_nat u' 7 64 (by decide)))) rfl ?_
      refine r_v (q_assignI rfl) rfl ?_
      refine r_nil ⟨(u' / 128, out ++ [UInt8.ofNat (u' % 128 + 128)], a', c'), ⟨rfl, rfl, trivial⟩, ⟨by dsimp only; omega, ?_, (h.f 1).drop⟩, by dsimp only; omega⟩
      rw [← he, vput_ge (by omega) hu, List.append_assoc]; rfl
    exact c_exit ⟨(u', out, a, c), ⟨rfl, rfl, trivial⟩, by simp at hc; dsimp only; omega, he, h⟩
  clear h hu
  rintro ⟨u', out, a, c⟩ w e ⟨hu, he, h⟩
  dsimp only at hu he h ⊢
  rw [vput_lt hu] at he
  have hlen : out.length ≤ bs.length + 10 := by
    have h1 := congrArg List.length he
    have h2 := vput_len u
    simp only [List.length_append, List.length_singleton] at h1
    omega
  refine c_seq (c_region ?_)
  refine r_v (q_moveS rfl) rfl ?_; refine r_v (q_moveI rfl) rfl ?_; refine r_v (q_conv rfl) rfl ?_
  refine r_is (.int .u8 ((UInt8.ofNat u').toNat : Int)) (by rw [wrap_u8, UInt8.toNat_ofNat']) ?_
  refine r_c rfl (x_bslice (r := bytesV [UInt8.ofNat u']) h rfl rfl rfl fun b w h => ?_)
  refine r_c rfl (x_append' (ys := bytesV [UInt8.ofNat u']) (zs := bytesV (bs ++ vput u)) (m3 := (bs ++ vput u).length) (h.f 1) rfl rfl ⟨rfl, .inr ⟨b, 0, rfl, at_of (h.b 0 rfl) rfl⟩⟩ (bytesV_one _) (by rw [← he]; simp) (by rw [← he]; simp [bytesV]) (by rw [← he]; simp; omega) (by rw [← he]; simp; omega) rfl fun a' c' w _ h => ?_)
  refine r_v (q_assignS rfl) rfl ?_
  refine r_nil ?_
  exact c_ret (bq1 ⟨a', c', rfl, (h.f 1).drop⟩)

theorem vint_Get {sl : Option Addr} {c : Nat} {bs : List UInt8} (h : St w0 l w) (hr : ∀ w', St w0 l w' → Rd w' 1 sl bs.length (bytesV bs)) (hn : bs.length ≤ 140737488355328) :
    Ret Tryd.prog 46 [.slice sl bs.length c] w fun v w' => v = .tuple [.int .u64 ((vget bs).1 : Nat), .int .i64 ((vget bs).2 : Nat)].toArray ∧ St w0 l w' := by
  refine enter Tryd.func46 rfl Tryd.results46 Tryd.ntmps46 rfl ?_
  refine c_seq (c_region ?_)
  refine r_v (q_assignI rfl) rfl ?_; refine r_v (q_assignI rfl) rfl ?_
  refine r_nil ?_
  refine c_seq (c_region ?_)
  refine r_v (q_assignI rfl) rfl ?_
  refine r_nil ?_
  refine c_seq (c_seq (c_region ?_))
  refine r_v (q_moveS rfl) rfl ?_; refine r_v (q_len rfl) rfl ?_; refine r_v (q_moveI rfl) rfl ?_
  refine r_nil ?_
  refine c_block ?_
  refine c_loop (Γ := Nat × Nat) (fun k => [(4, .int .u64 k.2), (7, .slice sl bs.length c), (8, .int .i64 bs.length), (9, .int .i64 k.1)])
    (fun k w => k.1 ≤ bs.length ∧ k.1 ≤ 10 ∧ k.2 < 2 ^ (7 * k.1) ∧ vgetA (bs.drop k.1) k.1 k.2 = vget bs ∧ St w0 l w) (fun k => bs.length - k.1) (0, 0) ⟨rfl, rfl, rfl, rfl, trivial⟩ ⟨Nat.zero_le _, by decide, by decide, rfl, h⟩ ?_
  clear h
  rintro ⟨i, u⟩ w e ⟨hi, hi10, hu, hv, h⟩
  dsimp only at hi hi10 hu hv ⊢
  refine c_seq (c_region ?_)
  refine r_v (q_lss rfl rfl) rfl ?_
  refine r_nil ?_
  refine c_seq (c_cond (decide ((i : Int) < (bs.length : Int))) rfl (fun hc => ?_) (fun hc => ?_))
  ·
    have hin : i < bs.length := by simp at hc; omega
    have hg := List.getElem?_eq_getElem hin
    have hdr := List.drop_eq_getElem_cons hin
    generalize bs[i] = x at hg hdr
    rw [hdr, vgetA] at hv
    obtain ⟨b, o, hsl⟩ := (hr w h).some (by omega)
    have hx := x.toNat_lt
    refine c_skip ?_
    refine c_seq (c_block ?_)
    refine c_seq (c_region ?_)
    refine r_v (q_moveI rfl) rfl ?_
    refine r_v (q_idx (b := b) (o := o) (m := bs.length) (c := c) (o' := o + i) (by rw [← hsl]; rfl) rfl rfl hin (by simp)) rfl ?_
    refine r_v (q_loadc (v := .int .u8 x.toNat) rfl ((hsl ▸ hr w h).cell (bytesV_get hg))) rfl ?_
    refine r_v (q_assignI rfl) rfl ?_; refine r_v (q_assignI rfl) rfl ?_
    refine r_nil ?_
    refine c_cut (Γ := Unit) (fun k => [(4, .int .u64 u), (5, .int .i64 i), (6, .int .u8 x.toNat), (7, .slice sl bs.length c), (8, .int .i64 bs.length), (9, .int .i64 i)])
      (fun k w => i ≤ 9 ∧ (i = 9 → x.toNat ≤ 1) ∧ vgetA (bs.drop (i + 1)) (i + 1) (u + x.toNat % 128 * 2 ^ (7 * i)) = vget bs ∧ St w0 l w) ?_ ?_
    · refine c_block ?_
      refine c_cut (Γ := Bool) (fun k => [(4, .int .u64 u), (5, .int .i64 i), (6, .int .u8 x.toNat), (7, .slice sl bs.length c), (8, .int .i64 bs.length), (9, .int .i64 i), (14, .bool k)])
        (fun k w => (k = true ↔ (i = 10 ∨ (i = 9 ∧ 1 < x.toNat) ∨ (0 < i ∧ x.toNat = 0))) ∧ St w0 l w) ?_ ?_
      · refine c_region ?_
        refine r_v (q_moveI rfl) rfl ?_; refine r_v (q_eql rfl rfl) rfl ?_
        by_cases h10 : i = 10
        · refine r_is (.bool true) (by simp; omega) ?_
          refine r_v (q_moveB rfl) rfl ?_; (first | refine r_gd rfl rfl ?_ | refine r_gn rfl rfl rfl ?_ | refine r_gu rfl rfl ?_ | refine r_gd rfl (by assumption) ?_ | refine r_gn rfl (by assumption) rfl ?_); (first | refine r_gd rfl rfl ?_ | refine r_gn rfl rfl rfl ?_ | refine r_gu rfl rfl ?_ | refine r_gd rfl (by assumption) ?_ | refine r_gn rfl (by assumption) rfl ?_); (first | refine r_gd rfl rfl ?_ | refine r_gn rfl rfl rfl ?_ | refine r_gu rfl rfl ?_ | refine r_gd rfl (by assumption) ?_ | refine r_gn rfl (by assumption) rfl ?_); (first | refine r_gd rfl rfl ?_ | refine r_gn rfl rfl rfl ?_ | refine r_gu rfl rfl ?_ | refine r_gd rfl (by assumption) ?_ | refine r_gn rfl (by assumption) rfl ?_); (first | refine r_gd rfl rfl ?_ | refine r_gn rfl rfl rfl ?_ | refine r_gu rfl rfl ?_ | refine r_gd rfl (by assumption) ?_ | refine r_gn rfl (by assumption) rfl ?_); (first | refine r_gd rfl rfl ?_ | refine r_gn rfl rfl rfl ?_ | refine r_gu rfl rfl ?_ | refine r_gd rfl (by assumption) ?_ | refine r_gn rfl (by assumption) rfl ?_); (first | refine r_v (q_pick1 rfl rfl rfl) rfl ?_ | refine r_v (q_pick0 rfl rfl rfl) rfl ?_ | refine r_v (q_pick1 rfl (by assumption) rfl) rfl ?_ | refine r_v (q_pick0 rfl (by assumption) rfl) rfl ?_ | refine r_v (q_pickB rfl rfl rfl) rfl ?_); refine r_v (q_moveB rfl) rfl ?_; (first | refine r_gd rfl rfl ?_ | refine r_gn rfl rfl rfl ?_ | refine r_gu rfl rfl ?_ | refine r_gd rfl (by assumption) ?_ | refine r_gn rfl (by assumption) rfl ?_); (first | refine r_gd rfl rfl ?_ | refine r_gn rfl rfl rfl ?_ | refine r_gu rfl rfl ?_ | refine r_gd rfl (by assumption) ?_ | refine r_gn rfl (by assumption) rfl ?_); (first | refine r_gd rfl rfl ?_ | refine r_gn rfl rfl rfl ?_ | refine r_gu rfl rfl ?_ | refine r_gd rfl (by assumption) ?_ | refine r_gn rfl (by assumption) rfl ?_); (first | refine r_gd rfl rfl ?_ | refine r_gn rfl rfl rfl ?_ | refine r_gu rfl rfl ?_ | refine r_gd rfl (by assumption) ?_ | refine r_gn rfl (by assumption) rfl ?_); (first | refine r_gd rfl rfl ?_ | refine r_gn rfl rfl rfl ?_ | refine r_gu rfl rfl ?_ | refine r_gd rfl (by assumption) ?_ | refine r_gn rfl (by assumption) rfl ?_); (first | refine r_gd rfl rfl ?_ | refine r_gn rfl rfl rfl ?_ | refine r_gu rfl rfl ?_ | refine r_gd rfl (by assumption) ?_ | refine r_gn rfl (by assumption) rfl ?_); (first | refine r_v (q_pick1 rfl rfl rfl) rfl ?_ | refine r_v (q_pick0 rfl rfl rfl) rfl ?_ | refine r_v (q_pick1 rfl (by assumption) rfl) rfl ?_ | refine r_v (q_pick0 rfl (by assumption) rfl) rfl ?_ | refine r_v (q_pickB rfl rfl rfl) rfl ?_); refine r_v (q_assignB rfl) rfl ?_
          exact r_nil ⟨true, ⟨rfl, rfl, rfl, rfl, rfl, rfl, rfl, trivial⟩, ⟨fun _ => .inl h10, fun _ => rfl⟩, h⟩
        · refine r_is (.bool false) (by simp; omega) ?_
          refine r_v (q_moveB rfl) rfl ?_; (first | refine r_gd rfl rfl ?_ | refine r_gn rfl rfl rfl ?_ | refine r_gu rfl rfl ?_ | refine r_gd rfl (by assumption) ?_ | refine r_gn rfl (by assumption) rfl ?_); refine r_v (q_moveI rfl) rfl ?_; (first | refine r_gd rfl rfl ?_ | refine r_gn rfl rfl rfl ?_ | refine r_gu rfl rfl ?_ | refine r_gd rfl (by assumption) ?_ | refine r_gn rfl (by assumption) rfl ?_); refine r_v (q_eql rfl rfl) rfl ?_
          by_cases h9 : i = 9
          · refine r_is (.bool true) (by simp; omega) ?_
            (first | refine r_gd rfl rfl ?_ | refine r_gn rfl rfl rfl ?_ | refine r_gu rfl rfl ?_ | refine r_gd rfl (by assumption) ?_ | refine r_gn rfl (by assumption) rfl ?_); refine r_v (q_moveB rfl) rfl ?_; (first | refine r_gd rfl rfl ?_ | refine r_gn rfl rfl rfl ?_ | refine r_gu rfl rfl ?_ | refine r_gd rfl (by assumption) ?_ | refine r_gn rfl (by assumption) rfl ?_); refine r_v (q_moveI rfl) rfl ?_; (first | refine r_gd rfl rfl ?_ | refine r_gn rfl rfl rfl ?_ | refine r_gu rfl rfl ?_ | refine r_gd rfl (by assumption) ?_ | refine r_gn rfl (by assumption) rfl ?_); refine r_v (q_gtr rfl rfl) rfl ?_
            by_cases h1 : 1 < x.toNat
            · refine r_is (.bool true) (by simp; omega) ?_
              (first | refine r_gd rfl rfl ?_ | refine r_gn rfl rfl rfl ?_ | refine r_gu rfl rfl ?_ | refine r_gd rfl (by assumption) ?_ | refine r_gn rfl (by assumption) rfl ?_); (first | refine r_v (q_pick1 rfl rfl rfl) rfl ?_ | refine r_v (q_pick0 rfl rfl rfl) rfl ?_ | refine r_v (q_pick1 rfl (by assumption) rfl) rfl ?_ | refine r_v (q_pick0 rfl (by assumption) rfl) rfl ?_ | refine r_v (q_pickB rfl rfl rfl) rfl ?_); (first | refine r_v (q_pick1 rfl rfl rfl) rfl ?_ | refine r_v (q_pick0 rfl rfl rfl) rfl ?_ | refine r_v (q_pick1 rfl (by assumption) rfl) rfl ?_ | refine r_v (q_pick0 rfl (by assumption) rfl) rfl ?_ | refine r_v (q_pickB rfl rfl rfl) rfl ?_); refine r_v (q_moveB rfl) rfl ?_; (first | refine r_gd rfl rfl ?_ | refine r_gn rfl rfl rfl ?_ | refine r_gu rfl rfl ?_ | refine r_gd rfl (by assumption) ?_ | refine r_gn rfl (by assumption) rfl ?_); (first | refine r_gd rfl rfl ?_ | refine r_gn rfl rfl rfl ?_ | refine r_gu rfl rfl ?_ | refine r_gd rfl (by assumption) ?_ | refine r_gn rfl (by assumption) rfl ?_); (first | refine r_gd rfl rfl ?_ | refine r_gn rfl rfl rfl ?_ | refine r_gu rfl rfl ?_ | refine r_gd rfl (by assumption) ?_ | refine r_gn rfl (by assumption) rfl ?_); (first | refine r_gd rfl rfl ?_ | refine r_gn rfl rfl rfl ?_ | refine r_gu rfl rfl ?_ | refine r_gd rfl (by assumption) ?_ | refine r_gn rfl (by assumption) rfl ?_); (first | refine r_gd rfl rfl ?_ | refine r_gn rfl rfl rfl ?_ | refine r_gu rfl rfl ?_ | refine r_gd rfl (by assumption) ?_ | refine r_gn rfl (by assumption) rfl ?_); (first | refine r_gd rfl rfl ?_ | refine r_gn rfl rfl rfl ?_ | refine r_gu rfl rfl ?_ | refine r_gd rfl (by assumption) ?_ | refine r_gn rfl (by assumption) rfl ?_); (first | refine r_v (q_pick1 rfl rfl rfl) rfl ?_ | refine r_v (q_pick0 rfl rfl rfl) rfl ?_ | refine r_v (q_pick1 rfl (by assumption) rfl) rfl ?_ | refine r_v (q_pick0 rfl (by assumption) rfl) rfl ?_ | refine r_v (q_pickB rfl rfl rfl) rfl ?_); refine r_v (q_assignB rfl) rfl ?_
              exact r_nil ⟨true, ⟨rfl, rfl, rfl, rfl, rfl, rfl, rfl, trivial⟩, ⟨fun _ => .inr (.inl ⟨h9, h1⟩), fun _ => rfl⟩, h⟩
            · refine r_is (.bool false) (by simp; omega) ?_
              (first | refine r_gd rfl rfl ?_ | refine r_gn rfl rfl rfl ?_ | refine r_gu rfl rfl ?_ | refine r_gd rfl (by assumption) ?_ | refine r_gn rfl (by assumption) rfl ?_); (first | refine r_v (q_pick1 rfl rfl rfl) rfl ?_ | refine r_v (q_pick0 rfl rfl rfl) rfl ?_ | refine r_v (q_pick1 rfl (by assumption) rfl) rfl ?_ | refine r_v (q_pick0 rfl (by assumption) rfl) rfl ?_ | refine r_v (q_pickB rfl rfl rfl) rfl ?_); (first | refine r_v (q_pick1 rfl rfl rfl) rfl ?_ | refine r_v (q_pick0 rfl rfl rfl) rfl ?_ | refine r_v (q_pick1 rfl (by assumption) rfl) rfl ?_ | refine r_v (q_pick0 rfl (by assumption) rfl) rfl ?_ | refine r_v (q_pickB rfl rfl rfl) rfl ?_); refine r_v (q_moveB rfl) rfl ?_; (first | refine r_gd rfl rfl ?_ | refine r_gn rfl rfl rfl ?_ | refine r_gu rfl rfl ?_ | refine r_gd rfl (by assumption) ?_ | refine r_gn rfl (by assumption) rfl ?_); refine r_v (q_moveI rfl) rfl ?_; (first | refine r_gd rfl rfl ?_ | refine r_gn rfl rfl rfl ?_ | refine r_gu rfl rfl ?_ | refine r_gd rfl (by assumption) ?_ | refine r_gn rfl (by assumption) rfl ?_); refine r_v (q_gtr rfl rfl) rfl ?_
              refine r_is (.bool true) (by simp; omega) ?_
              (first | refine r_gd rfl rfl ?_ | refine r_gn rfl rfl rfl ?_ | refine r_gu rfl rfl ?_ | refine r_gd rfl (by assumption) ?_ | refine r_gn rfl (by assumption) rfl ?_); refine r_v (q_moveB rfl) rfl ?_; (first | refine r_gd rfl rfl ?_ | refine r_gn rfl rfl rfl ?_ | refine r_gu rfl rfl ?_ | refine r_gd rfl (by assumption) ?_ | refine r_gn rfl (by assumption) rfl ?_); refine r_v (q_moveI rfl) rfl ?_; (first | refine r_gd rfl rfl ?_ | refine r_gn rfl rfl rfl ?_ | refine r_gu rfl rfl ?_ | refine r_gd rfl (by assumption) ?_ | refine r_gn rfl (by assumption) rfl ?_); refine r_v (q_eql rfl rfl) rfl ?_
              by_cases h0 : x.toNat = 0
              · refine r_is (.bool true) (by rw [h0]; rfl) ?_
                (first | refine r_gd rfl rfl ?_ | refine r_gn rfl rfl rfl ?_ | refine r_gu rfl rfl ?_ | refine r_gd rfl (by assumption) ?_ | refine r_gn rfl (by assumption) rfl ?_); (first | refine r_v (q_pick1 rfl rfl rfl) rfl ?_ | refine r_v (q_pick0 rfl rfl rfl) rfl ?_ | refine r_v (q_pick1 rfl (by assumption) rfl) rfl ?_ | refine r_v (q_pick0 rfl (by assumption) rfl) rfl ?_ | refine r_v (q_pickB rfl rfl rfl) rfl ?_); (first | refine r_v (q_pick1 rfl rfl rfl) rfl ?_ | refine r_v (q_pick0 rfl rfl rfl) rfl ?_ | refine r_v (q_pick1 rfl (by assumption) rfl) rfl ?_ | refine r_v (q_pick0 rfl (by assumption) rfl) rfl ?_ | refine r_v (q_pickB rfl rfl rfl) rfl ?_); refine r_v (q_assignB rfl) rfl ?_
                exact r_nil ⟨true, ⟨rfl, rfl, rfl, rfl, rfl, rfl, rfl, trivial⟩, ⟨fun _ => .inr (.inr ⟨by omega, h0⟩), fun _ => rfl⟩, h⟩
              · refine r_is (.bool false) (by congr 1; rw [beq_eq_false_iff_ne]; omega) ?_
                (first | refine r_gd rfl rfl ?_ | refine r_gn rfl rfl rfl ?_ | refine r_gu rfl rfl ?_ | refine r_gd rfl (by assumption) ?_ | refine r_gn rfl (by assumption) rfl ?_); (first | refine r_v (q_pick1 rfl rfl rfl) rfl ?_ | refine r_v (q_pick0 rfl rfl rfl) rfl ?_ | refine r_v (q_pick1 rfl (by assumption) rfl) rfl ?_ | refine r_v (q_pick0 rfl (by assumption) rfl) rfl ?_ | refine r_v (q_pickB rfl rfl rfl) rfl ?_); (first | refine r_v (q_pick1 rfl rfl rfl) rfl ?_ | refine r_v (q_pick0 rfl rfl rfl) rfl ?_ | refine r_v (q_pick1 rfl (by assumption) rfl) rfl ?_ | refine r_v (q_pick0 rfl (by assumption) rfl) rfl ?_ | refine r_v (q_pickB rfl rfl rfl) rfl ?_); refine r_v (q_assignB rfl) rfl ?_
                exact r_nil ⟨false, ⟨rfl, rfl, rfl, rfl, rfl, rfl, rfl, trivial⟩, ⟨(fun h => by cases h), (fun h => by omega)⟩, h⟩
          · refine r_is (.bool false) (by simp; omega) ?_
            (first | refine r_gd rfl rfl ?_ | refine r_gn rfl rfl rfl ?_ | refine r_gu rfl rfl ?_ | refine r_gd rfl (by assumption) ?_ | refine r_gn rfl (by assumption) rfl ?_); refine r_v (q_moveB rfl) rfl ?_; (first | refine r_gd rfl rfl ?_ | refine r_gn rfl rfl rfl ?_ | refine r_gu rfl rfl ?_ | refine r_gd rfl (by assumption) ?_ | refine r_gn rfl (by assumption) rfl ?_); (first | refine r_gd rfl rfl ?_ | refine r_gn rfl rfl rfl ?_ | refine r_gu rfl rfl ?_ | refine r_gd rfl (by assumption) ?_ | refine r_gn rfl (by assumption) rfl ?_); (first | refine r_gd rfl rfl ?_ | refine r_gn rfl rfl rfl ?_ | refine r_gu rfl rfl ?_ | refine r_gd rfl (by assumption) ?_ | refine r_gn rfl (by assumption) rfl ?_); (first | refine r_v (q_pick1 rfl rfl rfl) rfl ?_ | refine r_v (q_pick0 rfl rfl rfl) rfl ?_ | refine r_v (q_pick1 rfl (by assumption) rfl) rfl ?_ | refine r_v (q_pick0 rfl (by assumption) rfl) rfl ?_ | refine r_v (q_pickB rfl rfl rfl) rfl ?_); (first | refine r_v (q_pick1 rfl rfl rfl) rfl ?_ | refine r_v (q_pick0 rfl rfl rfl) rfl ?_ | refine r_v (q_pick1 rfl (by assumption) rfl) rfl ?_ | refine r_v (q_pick0 rfl (by assumption) rfl) rfl ?_ | refine r_v (q_pickB rfl rfl rfl) rfl ?_); refine r_v (q_moveB rfl) rfl ?_; (first | refine r_gd rfl rfl ?_ | refine r_gn rfl rfl rfl ?_ | refine r_gu rfl rfl ?_ | refine r_gd rfl (by assumption) ?_ | refine r_gn rfl (by assumption) rfl ?_); refine r_v (q_moveI rfl) rfl ?_; (first | refine r_gd rfl rfl ?_ | refine r_gn rfl rfl rfl ?_ | refine r_gu rfl rfl ?_ | refine r_gd rfl (by assumption) ?_ | refine r_gn rfl (by assumption) rfl ?_); refine r_v (q_gtr rfl rfl) rfl ?_
            by_cases hp : 0 < i
            · refine r_is (.bool true) (by simp; omega) ?_
              (first | refine r_gd rfl rfl ?_ | refine r_gn rfl rfl rfl ?_ | refine r_gu rfl rfl ?_ | refine r_gd rfl (by assumption) ?_ | refine r_gn rfl (by assumption) rfl ?_); refine r_v (q_moveB rfl) rfl ?_; (first | refine r_gd rfl rfl ?_ | refine r_gn rfl rfl rfl ?_ | refine r_gu rfl rfl ?_ | refine r_gd rfl (by assumption) ?_ | refine r_gn rfl (by assumption) rfl ?_); refine r_v (q_moveI rfl) rfl ?_; (first | refine r_gd rfl rfl ?_ | refine r_gn rfl rfl rfl ?_ | refine r_gu rfl rfl ?_ | refine r_gd rfl (by assumption) ?_ | refine r_gn rfl (by assumption) rfl ?_); refine r_v (q_eql rfl rfl) rfl ?_
              by_cases h0 : x.toNat = 0
              · refine r_is (.bool true) (by rw [h0]; rfl) ?_
                (first | refine r_gd rfl rfl ?_ | refine r_gn rfl rfl rfl ?_ | refine r_gu rfl rfl ?_ | refine r_gd rfl (by assumption) ?_ | refine r_gn rfl (by assumption) rfl ?_); (first | refine r_v (q_pick1 rfl rfl rfl) rfl ?_ | refine r_v (q_pick0 rfl rfl rfl) rfl ?_ | refine r_v (q_pick1 rfl (by assumption) rfl) rfl ?_ | refine r_v (q_pick0 rfl (by assumption) rfl) rfl ?_ | refine r_v (q_pickB rfl rfl rfl) rfl ?_); (first | refine r_v (q_pick1 rfl rfl rfl) rfl ?_ | refine r_v (q_pick0 rfl rfl rfl) rfl ?_ | refine r_v (q_pick1 rfl (by assumption) rfl) rfl ?_ | refine r_v (q_pick0 rfl (by assumption) rfl) rfl ?_ | refine r_v (q_pickB rfl rfl rfl) rfl ?_); refine r_v (q_assignB rfl) rfl ?_
                exact r_nil ⟨true, ⟨rfl, rfl, rfl, rfl, rfl, rfl, rfl, trivial⟩, ⟨fun _ => .inr (.inr ⟨by omega, h0⟩), fun _ => rfl⟩, h⟩
              · refine r_is (.bool false) (by congr 1; rw [beq_eq_false_iff_ne]; omega) ?_
                (first | refine r_gd rfl rfl ?_ | refine r_gn rfl rfl rfl ?_ | refine r_gu rfl rfl ?_ | refine r_gd rfl (by assumption) ?_ | refine r_gn rfl (by assumption) rfl ?_); (first | refine r_v (q_pick1 rfl rfl rfl) rfl ?_ | refine r_v (q_pick0 rfl rfl rfl) rfl ?_ | refine r_v (q_pick1 rfl (by assumption) rfl) rfl ?_ | refine r_v (q_pick0 rfl (by assumption) rfl) rfl ?_ | refine r_v (q_pickB rfl rfl rfl) rfl ?_); (first | refine r_v (q_pick1 rfl rfl rfl) rfl ?_ | refine r_v (q_pick0 rfl rfl rfl) rfl ?_ | refine r_v (q_pick1 rfl (by assumption) rfl) rfl ?_ | refine r_v (q_pick0 rfl (by assumption) rfl) rfl ?_ | refine r_v (q_pickB rfl rfl rfl) rfl ?_); refine r_v (q_assignB rfl) rfl ?_
                exact r_nil ⟨false, ⟨rfl, rfl, rfl, rfl, rfl, rfl, rfl, trivial⟩, ⟨(fun h => by cases h), (fun h => by omega)⟩, h⟩
            · refine r_is (.bool false) (by simp; omega) ?_
              (first | refine r_gd rfl rfl ?_ | refine r_gn rfl rfl rfl ?_ | refine r_gu rfl rfl ?_ | refine r_gd rfl (by assumption) ?_ | refine r_gn rfl (by assumption) rfl ?_); refine r_v (q_moveB rfl) rfl ?_; (first | refine r_gd rfl rfl ?_ | refine r_gn rfl rfl rfl ?_ | refine r_gu rfl rfl ?_ | refine r_gd rfl (by assumption) ?_ | refine r_gn rfl (by assumption) rfl ?_); (first | refine r_gd rfl rfl ?_ | refine r_gn rfl rfl rfl ?_ | refine r_gu rfl rfl ?_ | refine r_gd rfl (by assumption) ?_ | refine r_gn rfl (by assumption) rfl ?_); (first | refine r_gd rfl rfl ?_ | refine r_gn rfl rfl rfl ?_ | refine r_gu rfl rfl ?_ | refine r_gd rfl (by assumption) ?_ | refine r_gn rfl (by assumption) rfl ?_); (first | refine r_v (q_pick1 rfl rfl rfl) rfl ?_ | refine r_v (q_pick0 rfl rfl rfl) rfl ?_ | refine r_v (q_pick1 rfl (by assumption) rfl) rfl ?_ | refine r_v (q_pick0 rfl (by assumption) rfl) rfl ?_ | refine r_v (q_pickB rfl rfl rfl) rfl ?_); (first | refine r_v (q_pick1 rfl rfl rfl) rfl ?_ | refine r_v (q_pick0 rfl rfl rfl) rfl ?_ | refine r_v (q_pick1 rfl (by assumption) rfl) rfl ?_ | refine r_v (q_pick0 rfl (by assumption) rfl) rfl ?_ | refine r_v (q_pickB rfl rfl rfl) rfl ?_); refine r_v (q_assignB rfl) rfl ?_
              exact r_nil ⟨false, ⟨rfl, rfl, rfl, rfl, rfl, rfl, rfl, trivial⟩, ⟨(fun h => by cases h), (fun h => by omega)⟩, h⟩
      clear h
      rintro k w e ⟨hk, h⟩
      refine c_cond k rfl (fun hc => ?_) (fun hc => ?_)
      ·
        rw [if_pos (hk.1 hc)] at hv
        refine c_seq (c_region ?_)
        refine r_v (q_assignI rfl) rfl ?_; refine r_v (q_assignI rfl) rfl ?_
        refine r_nil ?_
        exact c_ret (bq2 ⟨by rw [← hv]; rfl, h⟩)
      ·
        have hnb : ¬ (i = 10 ∨ (i = 9 ∧ 1 < x.toNat) ∨ (0 < i ∧ x.toNat = 0)) := fun hb => by rw [hk.2 hb] at hc; cases hc
        rw [if_neg hnb] at hv
        have hi9 : i ≤ 9 := by omega
        have hb : x.toNat * 2 ^ (7 * i) < 18446744073709551616 := by
          rcases Nat.lt_or_ge i 9 with h2 | h2
          · have h3 : (2 : Nat) ^ (7 * i) ≤ 2 ^ 56 := Nat.pow_le_pow_right (by decide) (by omega)
            have h4 : x.toNat * 2 ^ (7 * i) ≤ 255 * 2 ^ 56 := Nat.mul_le_mul (by omega) h3
            omega
          · obtain rfl : i = 9 := by omega
            have h4 : x.toNat * 2 ^ (7 * 9) ≤ 1 * 2 ^ (7 * 9) := Nat.mul_le_mul_right _ (by omega)
            have h5 : (2 : Nat) ^ (7 * 9) = 9223372036854775808 := by decide
            omega
        have hu64 : u < 18446744073709551616 := Nat.lt_of_lt_of_le hu (by
          have : (2 : Nat) ^ (7 * i) ≤ 2 ^ 64 := Nat.pow_le_pow_right (by decide) (by omega)
          exact this)
        refine c_seq (c_region ?_)
        refine r_v (q_moveI rfl) rfl ?_; refine r_v (q_lss rfl rfl) rfl ?_; refine r_v (q_assignB rfl) rfl ?_
        refine r_nil ?_
        refine c_cond (decide ((x.toNat : Int) < 128)) rfl (fun hc => ?_) (fun hc => ?_)
        ·
          rw [if_pos (by simp at hc; omega)] at hv
          refine c_seq (c_region ?_)
          refine r_v (q_moveI rfl) rfl ?_; refine r_v (q_moveI rfl) rfl ?_; refine r_v (q_conv rfl) rfl ?_
          refine r_is (.int .u64 (x.toNat : Int)) (by rw [wrap_u64, Nat.mod_eq_of_lt (by omega)]) ?_
          refine r_v (q_moveI rfl) rfl ?_; refine r_v (q_mul rfl rfl) rfl ?_
          refine r_is (.int .i64 ((7 * i : Nat) : Int)) (by rw [wrap64 (by omega) (by omega)]; rfl) ?_
          refine r_v (q_is (v' := .int .u64 ((x.toNat * 2 ^ (7 * i) : Nat) : Int)) (q_shl rfl rfl (by omega)) (by rw [shl_u64 _ _ (by omega), Nat.mod_eq_of_lt hb])) rfl ?_
          refine r_v (q_or rfl rfl) rfl ?_
          refine r_is (.int .u64 ((u + x.toNat * 2 ^ (7 * i) : Nat) : Int)) (by rw [(bit_u64 hu64 hb).2.1, or_shift hu]) ?_
          refine r_v (q_moveI rfl) rfl ?_; refine r_v (q_add rfl rfl) rfl ?_
          refine r_is (.int .i64 ((i + 1 : Nat) : Int)) (by rw [wrap64 (by omega) (by omega)]; rfl) ?_
          refine r_v (q_assignI rfl) rfl ?_; refine r_v (q_assignI rfl) rfl ?_
          refine r_nil ?_
          exact c_ret (bq2 ⟨by rw [← hv]; rfl, h⟩)
        ·
          rw [if_neg (by simp at hc; omega)] at hv
          exact c_skip ⟨(), ⟨rfl, rfl, rfl, rfl, rfl, rfl, trivial⟩, hi9, by omega, hv, h⟩
    clear h hv
    rintro ⟨⟩ w e ⟨hi9, hx1, hv, h⟩
    have hm : x.toNat % 128 * 2 ^ (7 * i) ≤ 127 * 2 ^ (7 * i) := Nat.mul_le_mul_right _ (by omega)
    have h63 : (2 : Nat) ^ (7 * i) ≤ 2 ^ 63 := Nat.pow_le_pow_right (by decide) (by omega)
    have hu64 : u < 18446744073709551616 := by omega
    have hb : x.toNat % 128 * 2 ^ (7 * i) < 18446744073709551616 := by
      rcases Nat.lt_or_ge i 9 with h2 | h2
      · have h3 : (2 : Nat) ^ (7 * i) ≤ 2 ^ 56 := Nat.pow_le_pow_right (by decide) (by omega)
        omega
      · obtain rfl : i = 9 := by omega
        have h4 : x.toNat % 128 * 2 ^ (7 * 9) ≤ 1 * 2 ^ (7 * 9) := Nat.mul_le_mul_right _ (by have := hx1 rfl; omega)
        have h5 : (2 : Nat) ^ (7 * 9) = 9223372036854775808 := by decide
        omega
    refine c_region ?_
    refine r_v (q_moveI rfl) rfl ?_; refine r_v (q_moveI rfl) rfl ?_; refine r_v (q_and rfl rfl) rfl ?_
    refine r_is (.int .u8 ((x.toNat % 128 : Nat) : Int)) (by rw [show bitOp .and .u8 (x.toNat : Int) 127 = ((x.toNat &&& 127 : Nat) : Int) from (bit_u8 hx (by decide)).1, show x.toNat &&& 127 = x.toNat % 128 from and_low x.toNat 7]) ?_
    refine r_v (q_conv rfl) rfl ?_
    refine r_is (.int .u64 ((x.toNat % 128 : Nat) : Int)) (by rw [wrap_u64, Nat.mod_eq_of_lt (by omega)]) ?_
    refine r_v (q_moveI rfl) rfl ?_; refine r_v (q_mul rfl rfl) rfl ?_
    refine r_is (.int .i64 ((7 * i : Nat) : Int)) (by rw [wrap64 (by omega) (by omega)]; rfl) ?_
    refine r_v (q_is (v' := .int .u64 ((x.toNat % 128 * 2 ^ (7 * i) : Nat) : Int)) (q_shl rfl rfl (by omega)) (by rw [shl_u64 _ _ (by omega), Nat.mod_eq_of_lt hb])) rfl ?_
    refine r_v (q_or rfl rfl) rfl ?_
    refine r_is (.int .u64 ((u + x.toNat % 128 * 2 ^ (7 * i) : Nat) : Int)) (by rw [(bit_u64 hu64 hb).2.1, or_shift hu]) ?_
    refine r_v (q_assignI rfl) rfl ?_
    refine r_nil ?_
    refine c_region ?_
    refine r_v (q_add rfl rfl) rfl ?_
    refine r_is (.int .i64 ((i + 1 : Nat) : Int)) (by rw [wrap64 (by omega) (by omega)]; rfl) ?_
    refine r_v (q_moveI rfl) rfl ?_
    refine r_nil ⟨(i + 1, u + x.toNat % 128 * 2 ^ (7 * i)), ⟨rfl, rfl, rfl, rfl, trivial⟩, ⟨by dsimp only; omega, by dsimp only; omega, ?_, hv, h⟩, by dsimp only; omega⟩
    have hp : (2 : Nat) ^ (7 * (i + 1)) = 128 * 2 ^ (7 * i) := by rw [Nat.mul_add, Nat.pow_add, Nat.mul_comm]
    dsimp only
    rw [hp]
    omega
  have hin : i = bs.length := by simp at hc; omega
  rw [hin, List.drop_length, vgetA] at hv
  refine c_exit ?_
  refine c_seq (c_region ?_)
  refine r_v (q_assignI rfl) rfl ?_; refine r_v (q_assignI rfl) rfl ?_
  refine r_nil ?_
  exact c_ret (bq2 ⟨by rw [← hv]; rfl, h⟩)
end
end Go.Proofs.YtjjacchnalemaaaDoor
