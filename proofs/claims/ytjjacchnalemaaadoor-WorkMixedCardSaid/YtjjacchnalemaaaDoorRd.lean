/- bits.Reader, and vint's numbers with a sign: what each method does. -/
import Derived.Test.YtjjacchnalemaaaDoorBy
import Derived.Test.YtjjacchnalemaaaDoorHv
namespace Go.Proofs.YtjjacchnalemaaaDoor
open Go.Hw
set_option maxHeartbeats 4000000
set_option maxRecDepth 100000
section
variable {w0 w : World} {l : List HProp}

theorem vint_Zig {t : Int} (ht : I64 t) (h : St w0 l w) : Ret Tryd.prog 51 [.int .i64 t] w fun v w' => v = .int .u64 (zigU (us t) : Nat) ∧ St w0 l w' := by
  have hlt := us_lt t
  refine enter Tryd.func51 rfl Tryd.results51 Tryd.ntmps51 rfl ?_
  refine c_seq (c_region ?_)
  refine r_v (q_assignI rfl) rfl ?_
  refine r_nil ?_
  refine c_seq (c_region ?_)
  refine r_v (q_moveI rfl) rfl ?_; refine r_v (q_conv rfl) rfl ?_
  refine r_is (.int .u64 (us t : Nat)) (by rw [wrap_us]) ?_
  refine r_v (q_is (v' := .int .u64 ((us t * 2 % 18446744073709551616 : Nat) : Int)) (q_shl rfl rfl (by omega)) (congrArg (Value.int .u64) (shl_u64 (us t) 1 (by decide)))) rfl ?_
  refine r_v (q_moveI rfl) rfl ?_
  refine r_v (q_is (v' := .int .i64 (if us t < 9223372036854775808 then 0 else -1)) (q_shr rfl rfl (by omega)) (by
    congr 1
    rw [show (2 : Int) ^ (min (63 : Int).toNat IntKind.i64.bits) = 9223372036854775808 by decide, Int.fdiv_eq_ediv_of_nonneg _ (by decide)]
    obtain ⟨h1, h2⟩ := ht
    unfold us
    split <;> omega)) rfl ?_
  refine r_v (q_conv rfl) rfl ?_
  refine r_is (.int .u64 ((if us t < 9223372036854775808 then 0 else 18446744073709551615 : Nat) : Int)) (by
    rw [wrap_us]; congr 2; split <;> rfl) ?_
  refine r_v (q_xor rfl rfl) rfl ?_
  refine r_is (.int .u64 (zigU (us t) : Nat)) (by
    rw [(bit_u64 (Nat.mod_lt _ (by decide)) (by split <;> decide)).2.2]
    congr 2
    unfold zigU
    split
    · rw [Nat.xor_zero, Nat.mod_eq_of_lt (by omega), Nat.mul_comm]
    · rw [xor_ones (Nat.mod_lt _ (by decide))]; omega) ?_
  refine r_v (q_assignI rfl) rfl ?_
  refine r_nil ?_
  exact c_ret (bq1 ⟨rfl, h⟩)
theorem vint_Zag {u : Nat} (hu : u < 18446744073709551616) (h : St w0 l w) : Ret Tryd.prog 87 [.int .u64 u] w fun v w' => v = .int .i64 (sg (zagU u)) ∧ St w0 l w' := by
  refine enter Tryd.func87 rfl Tryd.results87 Tryd.ntmps87 rfl ?_
  refine c_seq (c_region ?_)
  refine r_v (q_assignI rfl) rfl ?_
  refine r_nil ?_
  refine c_seq (c_region ?_)
  refine r_v (q_moveI rfl) rfl ?_
  refine r_v (q_is (v' := .int .u64 ((u / 2 : Nat) : Int)) (q_shr rfl rfl (by omega)) (congrArg (Value.int .u64) (fdiv_nat u 1 64 (by decide)))) rfl ?_
  refine r_v (q_conv rfl) rfl ?_
  refine r_is (.int .i64 ((u / 2 : Nat) : Int)) (by rw [wrap64 (by omega) (by omega)]) ?_
  refine r_v (q_moveI rfl) rfl ?_; refine r_v (q_and rfl rfl) rfl ?_
  refine r_is (.int .u64 ((u % 2 : Nat) : Int)) (by rw [show bitOp .and .u64 (u : Int) 1 = ((u &&& 1 : Nat) : Int) from (bit_u64 hu (by decide)).1, Nat.and_one_is_mod]) ?_
  refine r_v (q_conv rfl) rfl ?_
  refine r_is (.int .i64 ((u % 2 : Nat) : Int)) (by rw [wrap64 (by omega) (by omega)]) ?_
  refine r_v (q_neg rfl) rfl ?_
  refine r_is (.int .i64 (0 - ((u % 2 : Nat) : Int))) (by rw [wrap64 (by omega) (by omega)]) ?_
  refine r_v (q_xor rfl rfl) rfl ?_
  refine r_is (.int .i64 (sg (zagU u))) (by
    rw [(bit_i64 _ _).2.2]
    congr 2
    have h1 : us ((u / 2 : Nat) : Int) = u / 2 := by unfold us; omega
    rw [h1]
    unfold zagU
    split
    · rename_i h0
      rw [h0]
      exact Nat.xor_zero _
    · rename_i h0
      have h2 : u % 2 = 1 := by omega
      rw [h2]
      exact xor_ones (by omega)) ?_
  refine r_v (q_assignI rfl) rfl ?_
  refine r_nil ?_
  exact c_ret (bq1 ⟨rfl, h⟩)

abbrev BrPt (p : Nat) (a : Option Addr) (m c at_ : Nat) (bad : Bool) : HProp := pt p (.cells [.slice a m c, .int .i64 at_, .bool bad].toArray 117 (0, 0))
/-- A reader that has these bits before it. -/
def IsBR (p : Nat) (s : RS) : HProp := ex fun q : Option Addr × Nat × List UInt8 × Nat => all [BrPt p q.1 q.2.2.1.length q.2.1 q.2.2.2 s.bad, OwnB q.1 q.2.1 q.2.2.1, lift (s.rest = (bitsB q.2.2.1).drop q.2.2.2 ∧ q.2.2.2 ≤ 8 * q.2.2.1.length ∧ q.2.2.1.length ≤ 140737488355328)]
theorem St.br {p : Nat} {s : RS} : St w0 (IsBR p s :: l) w ↔ ∃ a c B at_, (s.rest = (bitsB B).drop at_ ∧ at_ ≤ 8 * B.length ∧ B.length ≤ 140737488355328) ∧ St w0 (BrPt p a B.length c at_ s.bad :: OwnB a c B :: l) w := by
  unfold IsBR
  rw [St.ex]
  constructor
  · rintro ⟨⟨a, c, B, at_⟩, h⟩
    obtain ⟨h1, h2⟩ := St.lift.1 (h.join.f 2)
    exact ⟨a, c, B, at_, h1, h2⟩
  · rintro ⟨a, c, B, at_, h1, h⟩
    refine ⟨(a, c, B, at_), St.fold [_, _, _] ?_⟩
    have h2 := St.lift.2 ⟨h1, h⟩
    exact h2.of_all (by simp only [List.cons_append, List.nil_append, all_star]; ac_rfl)

theorem bits_NewReader {sl : Option Addr} {c : Nat} {bs : List UInt8} (h : St w0 l w) (hr : ∀ w', St w0 l w' → Rd w' 1 sl bs.length (bytesV bs)) (hn : bs.length ≤ 140737488355328) : Ret Tryd.prog 48 [.slice sl bs.length c] w fun v w' => ∃ p, v = .pointer (some ⟨p, 0, none⟩) ∧ St w0 (IsBR p ⟨bitsB bs, false⟩ :: l) w' := by
  refine enter Tryd.func48 rfl Tryd.results48 Tryd.ntmps48 rfl ?_
  refine c_seq (c_region ?_)
  refine r_v (q_assignP rfl) rfl ?_
  refine r_nil ?_
  refine c_seq (c_region ?_)
  refine r_v (q_moveS rfl) rfl ?_
  refine r_c rfl (x_call rfl (bytes_Clone h hr hn) ?_)
  rintro _ w ⟨a, c1, rfl, h⟩
  refine r_v (q_build (r := [.slice a bs.length c1, .int .i64 0, .bool false]) rfl) rfl ?_
  refine r_c rfl (x_box h (show _ = Value.agg [.slice a bs.length c1, .int .i64 0, .bool false].toArray from rfl) fun p w h => ?_)
  refine r_v (q_assignP rfl) rfl ?_
  refine r_nil ?_
  exact c_ret (bq1 ⟨p, rfl, St.br.2 ⟨a, c1, bs, 0, ⟨rfl, Nat.zero_le _, hn⟩, h⟩⟩)
theorem bits_Ok {p : Nat} {s : RS} (h : St w0 (IsBR p s :: l) w) : Ret Tryd.prog 79 [.pointer (some ⟨p, 0, none⟩)] w fun v w' => v = .bool (!s.bad) ∧ St w0 (IsBR p s :: l) w' := by
  obtain ⟨a, c, B, at_, h1, h⟩ := St.br.1 h
  refine enter Tryd.func79 rfl Tryd.results79 Tryd.ntmps79 rfl ?_
  refine c_seq (c_region ?_)
  refine r_v (q_assignB rfl) rfl ?_
  refine r_nil ?_
  refine c_seq (c_region ?_)
  refine r_v (q_moveP rfl) rfl ?_; refine r_v (q_nil rfl) rfl ?_; refine r_v (q_fa rfl) rfl ?_; (first | refine r_v (q_load rfl (h.b 0) rfl) rfl ?_ | refine r_v (q_load rfl (h.b 1) rfl) rfl ?_ | refine r_v (q_load rfl (h.b 2) rfl) rfl ?_ | refine r_v (q_load rfl (h.b 3) rfl) rfl ?_ | refine r_v (q_load rfl (h.b 4) rfl) rfl ?_ | refine r_v (q_load rfl (h.b 5) rfl) rfl ?_); refine r_v (q_not rfl) rfl ?_; refine r_v (q_assignB rfl) rfl ?_
  refine r_nil ?_
  exact c_ret (bq1 ⟨rfl, St.br.2 ⟨a, c, B, at_, h1, h⟩⟩)
theorem bits_Left {p : Nat} {a : Option Addr} {c at_ : Nat} {bad : Bool} {B : List UInt8} (hat : at_ ≤ 8 * B.length) (hB : B.length ≤ 140737488355328) (h : St w0 (BrPt p a B.length c at_ bad :: OwnB a c B :: l) w) :
    Ret Tryd.prog 110 [.pointer (some ⟨p, 0, none⟩)] w fun v w' => v = .int .i64 (if bad = true then 0 else (8 * B.length - at_ : Nat) : Nat) ∧ St w0 (BrPt p a B.length c at_ bad :: OwnB a c B :: l) w' := by
  refine enter Tryd.func110 rfl Tryd.results110 Tryd.ntmps110 rfl ?_
  refine c_seq (c_region ?_)
  refine r_v (q_assignI rfl) rfl ?_
  refine r_nil ?_
  refine c_seq (c_seq (c_region ?_))
  refine r_v (q_moveP rfl) rfl ?_; refine r_v (q_nil rfl) rfl ?_; refine r_v (q_fa rfl) rfl ?_; (first | refine r_v (q_load rfl (h.b 0) rfl) rfl ?_ | refine r_v (q_load rfl (h.b 1) rfl) rfl ?_ | refine r_v (q_load rfl (h.b 2) rfl) rfl ?_ | refine r_v (q_load rfl (h.b 3) rfl) rfl ?_ | refine r_v (q_load rfl (h.b 4) rfl) rfl ?_ | refine r_v (q_load rfl (h.b 5) rfl) rfl ?_)
  refine r_nil (c_cond bad rfl (fun hc => ?_) (fun hc => ?_))
  ·
    refine c_seq (c_region ?_)
    refine r_v (q_assignI rfl) rfl ?_
    refine r_nil ?_
    exact c_ret (bq1 ⟨by rw [if_pos hc]; rfl, h⟩)
  refine c_skip ?_
  refine c_seq (c_any none (fun w => St w0 _ w) (by kernel_rfl) (by kernel_rfl) h.drew fun w h => ?_)
  refine cur_pure rfl rfl rfl rfl (fun _ => h) (fun _ => flt_v rfl (q_moveP rfl)) ?_; refine cur_pure rfl rfl rfl rfl (fun _ => h) (fun _ => flt_v rfl (q_nil rfl)) ?_; refine cur_pure rfl rfl rfl rfl (fun _ => h) (fun _ => flt_v rfl (q_fa rfl)) ?_; (first | refine cur_float rfl rfl rfl rfl h (fun _ h => flt_v rfl (q_load rfl (h.b 0) rfl)) ?_ | refine cur_float rfl rfl rfl rfl h (fun _ h => flt_v rfl (q_load rfl (h.b 1) rfl)) ?_ | refine cur_float rfl rfl rfl rfl h (fun _ h => flt_v rfl (q_load rfl (h.b 2) rfl)) ?_ | refine cur_float rfl rfl rfl rfl h (fun _ h => flt_v rfl (q_load rfl (h.b 3) rfl)) ?_ | refine cur_float rfl rfl rfl rfl h (fun _ h => flt_v rfl (q_load rfl (h.b 4) rfl)) ?_ | refine cur_float rfl rfl rfl rfl h (fun _ h => flt_v rfl (q_load rfl (h.b 5) rfl)) ?_); refine cur_pure rfl rfl rfl rfl (fun _ => h) (fun _ => flt_v rfl (q_len rfl)) ?_
  refine cur_pure rfl rfl rfl rfl (fun _ => h) (fun _ => flt_v rfl (q_is (v' := .int .i64 ((8 * B.length : Nat) : Int)) (q_mul rfl rfl) (by rw [wrap64 (by omega) (by omega)]; rfl))) ?_
  refine cur_pure rfl rfl rfl rfl (fun _ => h) (fun _ => flt_v rfl (q_moveP rfl)) ?_; refine cur_pure rfl rfl rfl rfl (fun _ => h) (fun _ => flt_v rfl (q_nil rfl)) ?_; refine cur_pure rfl rfl rfl rfl (fun _ => h) (fun _ => flt_v rfl (q_fa rfl)) ?_
  refine cur_float rfl rfl rfl rfl h (fun _ h => flt_v rfl (q_load (v := .int .i64 at_) rfl (h.b 0 rfl) rfl)) ?_
  refine cur_pure rfl rfl rfl rfl (fun _ => h) (fun _ => flt_v rfl (q_is (v' := .int .i64 ((8 * B.length - at_ : Nat) : Int)) (q_sub rfl rfl) (by rw [wrap64 (by omega) (by omega)]; congr 1; omega))) ?_
  refine cur_pure rfl rfl rfl rfl (fun _ => h) (fun _ => flt_v rfl (q_assignI rfl)) ?_
  refine cur_end ?_
  exact c_ret (bq1 ⟨by rw [if_neg (by rw [hc]; decide)]; rfl, h⟩)
theorem take_succ_num {s : List Bool} {k : Nat} {b : Bool} (h : s[k]? = some b) : num (s.take (k + 1)) = 2 * num (s.take k) + b.toNat := by
  rw [List.take_add_one, h]
  exact num_snoc _ _
theorem heldN_nat {n : Nat} (h : n ≤ 64) : heldN (n : Int) = n := by unfold heldN; omega

theorem bits_Get {p : Nat} {s : RS} (n : Int) (h : St w0 (IsBR p s :: l) w) : Ret Tryd.prog 77 [.pointer (some ⟨p, 0, none⟩), .int .i64 n] w fun v w' => v = .int .u64 ((s.get (heldN n)).1 : Nat) ∧ St w0 (IsBR p (s.get (heldN n)).2 :: l) w' := by
  obtain ⟨a, c, B, at_, ⟨hrest, hat, hB⟩, h⟩ := St.br.1 h
  obtain ⟨rest, bad⟩ := s
  dsimp only at hrest h
  have hm := heldN_le n
  have hrl : rest.length = 8 * B.length - at_ := by rw [hrest, List.length_drop, bitsB_len]
  refine enter Tryd.func77 rfl Tryd.results77 Tryd.ntmps77 rfl ?_
  refine c_seq (c_region ?_)
  refine r_v (q_assignI rfl) rfl ?_
  refine r_nil ?_
  refine c_seq (c_region ?_)
  refine r_v (q_moveI rfl) rfl ?_
  refine r_c rfl (x_call rfl (bits_held n h) ?_)
  rintro _ w ⟨rfl, h⟩
  generalize heldN n = m at hm ⊢
  refine r_v (q_assignI rfl) rfl ?_
  refine r_nil ?_
  refine c_cut (Γ := Bool) (fun _ => [(0, .pointer (some ⟨p, 0, none⟩)), (1, .int .i64 m)])
    (fun k w => (k = true ↔ (bad = true ∨ rest.length < m)) ∧ St w0 (BrPt p a B.length c at_ k :: OwnB a c B :: l) w) ?_ ?_
  · refine c_seq (c_region ?_)
    refine r_v (q_moveI rfl) rfl ?_; refine r_v (q_moveP rfl) rfl ?_
    refine r_c rfl (x_call rfl (bits_Left hat hB h) ?_)
    rintro _ w ⟨rfl, h⟩
    refine r_v (q_gtr rfl rfl) rfl ?_
    refine r_nil ?_
    refine c_cond (decide ((m : Int) > ((if bad = true then 0 else (8 * B.length - at_ : Nat) : Nat) : Int))) rfl (fun hc => ?_) (fun hc => ?_)
    · refine c_region ?_
      refine r_v (q_moveP rfl) rfl ?_; refine r_v (q_nil rfl) rfl ?_; refine r_v (q_fa rfl) rfl ?_
      refine r_c rfl (x_store 0 h rfl (show _ = Value.bool true from rfl) rfl rfl rfl rfl fun w h => ?_)
      refine r_nil ⟨true, ⟨rfl, rfl, trivial⟩, ⟨fun _ => ?_, fun _ => rfl⟩, h⟩
      rw [decide_eq_true_eq] at hc
      split at hc
      · exact .inl ‹_›
      · exact .inr (by omega)
    · refine c_skip ⟨bad, ⟨rfl, rfl, trivial⟩, ⟨fun hb => .inl hb, fun hb => ?_⟩, h⟩
      rw [decide_eq_false_iff_not] at hc
      rcases hb with hb | hb
      · exact hb
      · split at hc
        · assumption
        · omega
  clear h
  rintro k w e ⟨hk, h⟩
  refine c_seq (c_seq (c_region ?_))
  refine r_v (q_moveP rfl) rfl ?_; refine r_v (q_nil rfl) rfl ?_; refine r_v (q_fa rfl) rfl ?_; (first | refine r_v (q_load rfl (h.b 0) rfl) rfl ?_ | refine r_v (q_load rfl (h.b 1) rfl) rfl ?_ | refine r_v (q_load rfl (h.b 2) rfl) rfl ?_ | refine r_v (q_load rfl (h.b 3) rfl) rfl ?_ | refine r_v (q_load rfl (h.b 4) rfl) rfl ?_ | refine r_v (q_load rfl (h.b 5) rfl) rfl ?_)
  refine r_nil (c_cond k rfl (fun hc => ?_) (fun hc => ?_))
  ·
    subst hc
    have hbad := hk.1 rfl
    refine c_seq (c_region ?_)
    refine r_v (q_assignI rfl) rfl ?_
    refine r_nil ?_
    refine c_ret (bq1 ?_)
    have e1 : RS.get ⟨rest, bad⟩ m = (0, ⟨rest, true⟩) := by unfold RS.get; rw [if_pos hbad]
    rw [e1]
    exact ⟨rfl, St.br.2 ⟨a, c, B, at_, ⟨hrest, hat, hB⟩, h⟩⟩
  subst hc
  have hok : ¬ (bad = true ∨ rest.length < m) := fun hb => by cases hk.2 hb
  refine c_skip ?_
  refine c_seq (c_region ?_)
  refine r_v (q_assignI rfl) rfl ?_
  refine r_nil ?_
  refine c_seq (c_seq (c_region ?_))
  refine r_v (q_moveI rfl) rfl ?_; refine r_v (q_moveI rfl) rfl ?_
  refine r_nil ?_
  refine c_block ?_
  refine c_loop (Γ := Nat) (fun k => [(0, .pointer (some ⟨p, 0, none⟩)), (5, .int .u64 (num (rest.take k))), (19, .int .i64 m), (20, .int .i64 k)]) (fun k w => k ≤ m ∧ St w0 (BrPt p a B.length c (at_ + k) false :: OwnB a c B :: l) w) (fun k => m - k) 0 ⟨rfl, rfl, rfl, rfl, trivial⟩ ⟨Nat.zero_le _, h⟩ ?_
  clear h
  rintro k w e ⟨hkm, h⟩
  refine c_seq (c_region ?_)
  refine r_v (q_lss rfl rfl) rfl ?_
  refine r_nil ?_
  refine c_seq (c_cond (decide ((k : Int) < (m : Int))) rfl (fun hc => ?_) (fun hc => ?_))
  ·
    have hlt : k < m := by simp at hc; omega
    have hkr : k < rest.length := by omega
    have hbyte : (at_ + k) / 8 < B.length := by omega
    have hgB := List.getElem?_eq_getElem hbyte
    generalize B[(at_ + k) / 8] = x at hgB
    have hbit : rest[k]? = some (x.toNat.testBit (7 - (at_ + k) % 8)) := by rw [hrest, List.getElem?_drop, bitsB_get _ _ _ hgB]
    have hnum := take_succ_num hbit
    generalize hb : x.toNat.testBit (7 - (at_ + k) % 8) = b at hnum hbit
    have hn1 := num_lt (rest.take k)
    rw [List.length_take, Nat.min_eq_left (by omega)] at hn1
    have hn2 : (2 : Nat) ^ k ≤ 2 ^ 63 := Nat.pow_le_pow_right (by decide) (by omega)
    have hn3 : num (rest.take k) < 9223372036854775808 := by omega
    generalize num (rest.take k) = N at *
    have hb2 : b.toNat ≤ 1 := by cases b <;> decide
    have hx := x.toNat_lt
    obtain ⟨g, rfl⟩ := (h.f 1).own_some (by omega)
    refine c_skip ?_
    refine c_seq (c_block ?_)
    refine c_seq (c_any none (fun w => St w0 _ w) (by kernel_rfl) (by kernel_rfl) h.drew fun w h => ?_)
    refine cur_pure rfl rfl rfl rfl (fun _ => h) (fun _ => flt_v rfl (q_moveI rfl)) ?_
    refine cur_pure rfl rfl rfl rfl (fun _ => h) (fun _ => flt_v rfl (q_is (v' := .int .u64 ((2 ^ 1 * N : Nat) : Int)) (q_shl rfl rfl (by omega)) (by rw [show IntKind.u64.wrap ((N : Int) * 2 ^ (min (1 : Int).toNat IntKind.u64.bits)) = ((N * 2 ^ 1 % 18446744073709551616 : Nat) : Int) from shl_u64 N 1 (by decide), Nat.mod_eq_of_lt (by omega), Nat.mul_comm]))) ?_
    refine cur_pure rfl rfl rfl rfl (fun _ => h) (fun _ => flt_v rfl (q_moveP rfl)) ?_; refine cur_pure rfl rfl rfl rfl (fun _ => h) (fun _ => flt_v rfl (q_nil rfl)) ?_; refine cur_pure rfl rfl rfl rfl (fun _ => h) (fun _ => flt_v rfl (q_fa rfl)) ?_; (first | refine cur_float rfl rfl rfl rfl h (fun _ h => flt_v rfl (q_load rfl (h.b 0) rfl)) ?_ | refine cur_float rfl rfl rfl rfl h (fun _ h => flt_v rfl (q_load rfl (h.b 1) rfl)) ?_ | refine cur_float rfl rfl rfl rfl h (fun _ h => flt_v rfl (q_load rfl (h.b 2) rfl)) ?_ | refine cur_float rfl rfl rfl rfl h (fun _ h => flt_v rfl (q_load rfl (h.b 3) rfl)) ?_ | refine cur_float rfl rfl rfl rfl h (fun _ h => flt_v rfl (q_load rfl (h.b 4) rfl)) ?_ | refine cur_float rfl rfl rfl rfl h (fun _ h => flt_v rfl (q_load rfl (h.b 5) rfl)) ?_); refine cur_pure rfl rfl rfl rfl (fun _ => h) (fun _ => flt_v rfl (q_moveP rfl)) ?_; refine cur_pure rfl rfl rfl rfl (fun _ => h) (fun _ => flt_v rfl (q_nil rfl)) ?_; refine cur_pure rfl rfl rfl rfl (fun _ => h) (fun _ => flt_v rfl (q_fa rfl)) ?_
    refine cur_float rfl rfl rfl rfl h (fun _ h => flt_v rfl (q_load (v := .int .i64 ((at_ + k : Nat) : Int)) rfl (h.b 0 rfl) rfl)) ?_
    refine cur_pure rfl rfl rfl rfl (fun _ => h) (fun _ => flt_v rfl (q_is (v' := .int .i64 (((at_ + k) / 8 : Nat) : Int)) (q_quo rfl rfl (by decide)) (by rw [show ((at_ + k : Nat) : Int).tdiv 8 = (((at_ + k) / 8 : Nat) : Int) from tdiv_nat _ 8, wrap64 (by omega) (by omega)]))) ?_
    refine cur_pure rfl rfl rfl rfl (fun _ => h) (fun _ => flt_v rfl (q_idx (o' := (at_ + k) / 8) rfl rfl rfl hbyte (by simp))) ?_
    refine cur_float rfl rfl rfl rfl h (fun w h => flt_v rfl (q_loadc (v := .int .u8 x.toNat) rfl (by have := (h.f 1).own_rd.cell (bytesV_get hgB); simpa using this))) ?_
    refine cur_pure rfl rfl rfl rfl (fun _ => h) (fun _ => flt_v rfl (q_moveP rfl)) ?_; refine cur_pure rfl rfl rfl rfl (fun _ => h) (fun _ => flt_v rfl (q_nil rfl)) ?_; refine cur_pure rfl rfl rfl rfl (fun _ => h) (fun _ => flt_v rfl (q_fa rfl)) ?_
    refine cur_float rfl rfl rfl rfl h (fun _ h => flt_v rfl (q_load (v := .int .i64 ((at_ + k : Nat) : Int)) rfl (h.b 0 rfl) rfl)) ?_
    refine cur_pure rfl rfl rfl rfl (fun _ => h) (fun _ => flt_v rfl (q_is (v' := .int .i64 (((at_ + k) % 8 : Nat) : Int)) (q_rem rfl rfl (by decide)) (congrArg (Value.int .i64) (tmod_nat _ 8)))) ?_
    refine cur_pure rfl rfl rfl rfl (fun _ => h) (fun _ => flt_v rfl (q_is (v' := .int .i64 ((7 - (at_ + k) % 8 : Nat) : Int)) (q_sub rfl rfl) (by rw [wrap64 (by omega) (by omega)]; congr 1; omega))) ?_
    refine cur_pure rfl rfl rfl rfl (fun _ => h) (fun _ => flt_v rfl (q_is (v' := .int .u8 ((x.toNat / 2 ^ (7 - (at_ + k) % 8) : Nat) : Int)) (q_shr rfl rfl (by omega)) (congrArg (Value.int .u8) (fdiv_nat x.toNat _ 8 (by omega))))) ?_
    refine cur_pure rfl rfl rfl rfl (fun _ => h) (fun _ => flt_v rfl (q_is (v' := .int .u8 ((b.toNat : Nat) : Int)) (q_and rfl rfl) (by
      rw [show bitOp .and .u8 ((x.toNat / 2 ^ (7 - (at_ + k) % 8) : Nat) : Int) 1 = ((x.toNat / 2 ^ (7 - (at_ + k) % 8) &&& 1 : Nat) : Int) from (bit_u8 (Nat.lt_of_le_of_lt (Nat.div_le_self _ _) hx) (by decide)).1, Nat.and_one_is_mod, testBit_toNat, hb]))) ?_
    refine cur_pure rfl rfl rfl rfl (fun _ => h) (fun _ => flt_v rfl (q_is (v' := .int .u64 ((b.toNat : Nat) : Int)) (q_conv rfl) (by rw [wrap_u64, Nat.mod_eq_of_lt (by omega)]))) ?_
    refine cur_pure rfl rfl rfl rfl (fun _ => h) (fun _ => flt_v rfl (q_is (v' := .int .u64 (num (rest.take (k + 1)) : Nat)) (q_or rfl rfl) (by
      rw [(bit_u64 (by omega) (by omega)).2.1, hnum, ← Nat.two_pow_add_eq_or_of_lt (show b.toNat < 2 ^ 1 by omega)]))) ?_
    refine cur_pure rfl rfl rfl rfl (fun _ => h) (fun _ => flt_v rfl (q_assignI rfl)) ?_
    refine cur_end ?_
    refine c_region ?_
    refine r_v (q_moveP rfl) rfl ?_; refine r_v (q_nil rfl) rfl ?_; refine r_v (q_fa rfl) rfl ?_
    refine r_v (q_load (v := .int .i64 ((at_ + k : Nat) : Int)) rfl (h.b 0 rfl) rfl) rfl ?_
    refine r_v (q_add rfl rfl) rfl ?_
    refine r_is (.int .i64 ((at_ + (k + 1) : Nat) : Int)) (by rw [wrap64 (by omega) (by omega)]; congr 1) ?_
    refine r_v (q_nil rfl) rfl ?_; refine r_v (q_fa rfl) rfl ?_
    refine r_c rfl (x_store 0 h rfl (show _ = Value.int _ _ from rfl) rfl rfl rfl rfl fun w h => ?_)
    refine r_nil ?_
    refine c_region ?_
    refine r_v (q_add rfl rfl) rfl ?_
    refine r_is (.int .i64 ((k + 1 : Nat) : Int)) (by rw [wrap64 (by omega) (by omega)]; rfl) ?_
    refine r_v (q_moveI rfl) rfl ?_
    exact r_nil ⟨k + 1, ⟨rfl, rfl, rfl, rfl, trivial⟩, ⟨by omega, h⟩, by omega⟩
  obtain rfl : k = m := by simp at hc; omega
  refine c_exit ?_
  refine c_seq (c_region ?_)
  refine r_v (q_moveI rfl) rfl ?_; refine r_v (q_assignI rfl) rfl ?_
  refine r_nil ?_
  refine c_ret (bq1 ?_)
  have e1 : RS.get ⟨rest, bad⟩ k = (num (rest.take k), ⟨rest.drop k, false⟩) := by unfold RS.get; rw [if_neg hok]
  rw [e1]
  exact ⟨rfl, St.br.2 ⟨a, c, B, at_ + k, ⟨by rw [hrest, List.drop_drop], by omega, hB⟩, h⟩⟩
end
end Go.Proofs.YtjjacchnalemaaaDoor
