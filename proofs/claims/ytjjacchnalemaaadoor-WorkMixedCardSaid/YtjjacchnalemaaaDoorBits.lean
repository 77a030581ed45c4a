/- bits.Writer: what each method does. -/
import Derived.Test.YtjjacchnalemaaaDoorTy
import Derived.Test.YtjjacchnalemaaaDoorHn
import Derived.KernelRfl
namespace Go.Proofs.YtjjacchnalemaaaDoor
open Go.Hw
set_option maxHeartbeats 4000000

abbrev BwPt (p : Nat) (a : Option Addr) (m c n : Nat) : HProp := pt p (.cells [.slice a m c, .int .i64 n].toArray 109 (0, 0))
/-- A writer that holds these bits. -/
def IsBW (p : Nat) (bs : List Bool) : HProp := ex fun q : Option Addr × Nat => all [BwPt p q.1 ((bs.length + 7) / 8) q.2 bs.length, Own 5 1 q.1 ((bs.length + 7) / 8) q.2 (bytesV (pack bs))]
section
variable {w0 w : World} {l : List HProp} {p : Nat} {bs : List Bool}
theorem St.bw : St w0 (IsBW p bs :: l) w ↔ ∃ a c, St w0 (BwPt p a ((bs.length + 7) / 8) c bs.length :: Own 5 1 a ((bs.length + 7) / 8) c (bytesV (pack bs)) :: l) w := by
  unfold IsBW
  rw [St.ex]
  exact ⟨fun ⟨q, h⟩ => ⟨q.1, q.2, h.join⟩, fun ⟨a, c, h⟩ => ⟨(a, c), St.fold [_, _] h⟩⟩

theorem bits_NewWriter (h : St w0 l w) : Ret Tryd.prog 42 [] w fun v w' => ∃ p, v = .pointer (some ⟨p, 0, none⟩) ∧ St w0 (IsBW p [] :: l) w' := by
  refine enter Tryd.func42 rfl Tryd.results42 Tryd.ntmps42 rfl ?_
  refine c_seq (c_region ?_)
  refine r_v (q_assignP rfl) rfl ?_
  refine r_nil ?_
  refine c_seq (c_region ?_)
  refine r_v (q_build (r := [.slice none 0 0, .int .i64 0]) rfl) rfl ?_
  refine r_c rfl (x_box h (show _ = Value.agg [.slice none 0 0, .int .i64 0].toArray from rfl) fun p w h => ?_)
  refine r_v (q_assignP rfl) rfl ?_
  refine r_nil ?_
  refine c_ret (bq1 ⟨p, rfl, St.bw.2 ⟨none, 0, ?_⟩⟩)
  exact (St.ownNil 5 1 h).f 1
theorem bits_held (n : Int) (h : St w0 l w) : Ret Tryd.prog 109 [.int .i64 n] w fun v w' => v = .int .i64 (heldN n) ∧ St w0 l w' := by
  refine enter Tryd.func109 rfl Tryd.results109 Tryd.ntmps109 rfl ?_
  refine c_seq (c_region ?_)
  refine r_v (q_assignI rfl) rfl ?_
  refine r_nil ?_
  refine c_seq (c_region ?_)
  refine r_v (q_moveI rfl) rfl ?_; refine r_v (q_max rfl rfl) rfl ?_; refine r_v (q_min rfl rfl) rfl ?_
  refine r_is (.int .i64 (heldN n)) (by unfold heldN; congr 1; omega) ?_
  refine r_v (q_assignI rfl) rfl ?_
  refine r_nil ?_
  exact c_ret (bq1 ⟨rfl, h⟩)
theorem heldN_le (n : Int) : heldN n ≤ 64 := by unfold heldN; omega
theorem testBit_toNat (v k : Nat) : v / 2 ^ k % 2 = (v.testBit k).toNat := by
  rw [Nat.toNat_testBit]

theorem bits_Put (v : Nat) (n : Int) (hv : v < 18446744073709551616) (hlen : bs.length ≤ 70368744177664) (h : St w0 (IsBW p bs :: l) w) :
    Ret Tryd.prog 74 [.pointer (some ⟨p, 0, none⟩), .int .u64 v, .int .i64 n] w fun v' w' => v' = .tuple #[] ∧ St w0 (IsBW p (bs ++ bitsOf v (heldN n)) :: l) w' := by
  refine enter Tryd.func74 rfl Tryd.results74 Tryd.ntmps74 rfl ?_
  have hle := heldN_le n
  refine c_seq (c_region ?_)
  refine r_v (q_moveI rfl) rfl ?_
  refine r_c rfl (x_call rfl (bits_held n h) ?_)
  rintro _ w ⟨rfl, h⟩
  refine r_v (q_sub rfl rfl) rfl ?_
  refine r_is (.int .i64 ((heldN n : Int) - 1)) (by rw [wrap64 (by omega) (by omega)]) ?_
  refine r_v (q_assignI rfl) rfl ?_
  refine r_nil ?_
  refine c_block ?_
  refine c_loop (Γ := Nat × List Bool) (fun k => [(0, .pointer (some ⟨p, 0, none⟩)), (1, .int .u64 v), (6, .int .i64 ((k.1 : Int) - 1))])
    (fun k w => k.1 ≤ 64 ∧ k.2 ++ bitsOf v k.1 = bs ++ bitsOf v (heldN n) ∧ St w0 (IsBW p k.2 :: l) w) (fun k => k.1) (heldN n, bs) ⟨rfl, rfl, rfl, trivial⟩ ⟨hle, rfl, h⟩ ?_
  clear h
  rintro ⟨k, cur⟩ w e ⟨hk, hcur, h⟩
  dsimp only at hk hcur h ⊢
  have hcl : cur.length + k = bs.length + heldN n := by
    have := congrArg List.length hcur
    simpa [bitsOf_len] using this
  refine c_seq (c_seq (c_region ?_))
  refine r_v (q_moveI rfl) rfl ?_; refine r_v (q_geq rfl rfl) rfl ?_
  cases k with
  | zero =>
    refine r_is (.bool false) (by simp) ?_
    refine r_nil (c_false rfl ?_)
    refine c_exit ?_
    rw [← hcur, bitsOf, List.append_nil]
    exact (show (packv [] : Value) = .tuple #[] ∧ _ from ⟨rfl, h⟩)
  | succ k =>
  refine r_is (.bool true) (by simp <;> omega) ?_
  refine r_nil (c_true rfl (c_skip ?_))
  obtain ⟨a, c, h⟩ := St.bw.1 h
  refine c_seq (c_block ?_)
  refine c_cut (Γ := Option Addr × Nat) (fun q => [(0, .pointer (some ⟨p, 0, none⟩)), (1, .int .u64 v), (6, .int .i64 (((k + 1 : Nat) : Int) - 1))])
    (fun q w => St w0 (BwPt p q.1 (cur.length / 8 + 1) q.2 cur.length :: Own 5 1 q.1 (cur.length / 8 + 1) q.2 (bytesV (padz cur)) :: l) w) ?_ ?_
  · refine c_seq (c_region ?_)
    refine r_v (q_moveP rfl) rfl ?_; refine r_v (q_nil rfl) rfl ?_; refine r_v (q_fa rfl) rfl ?_; (first | refine r_v (q_load rfl (h.b 0) rfl) rfl ?_ | refine r_v (q_load rfl (h.b 1) rfl) rfl ?_ | refine r_v (q_load rfl (h.b 2) rfl) rfl ?_ | refine r_v (q_load rfl (h.b 3) rfl) rfl ?_ | refine r_v (q_load rfl (h.b 4) rfl) rfl ?_ | refine r_v (q_load rfl (h.b 5) rfl) rfl ?_)
    refine r_v (q_rem rfl rfl (by decide)) rfl ?_
    refine r_is (.int .i64 ((cur.length % 8 : Nat) : Int)) (by exact congrArg (Value.int .i64) (tmod_nat _ _)) ?_
    refine r_v (q_eql rfl rfl) rfl ?_
    by_cases h8 : cur.length % 8 = 0
    · refine r_is (.bool true) (by simp [h8]) ?_
      refine r_nil (c_true rfl ?_)
      refine c_region ?_
      refine r_v (q_moveP rfl) rfl ?_; refine r_v (q_moveP rfl) rfl ?_; refine r_v (q_nil rfl) rfl ?_; refine r_v (q_fa rfl) rfl ?_; (first | refine r_v (q_load rfl (h.b 0) rfl) rfl ?_ | refine r_v (q_load rfl (h.b 1) rfl) rfl ?_ | refine r_v (q_load rfl (h.b 2) rfl) rfl ?_ | refine r_v (q_load rfl (h.b 3) rfl) rfl ?_ | refine r_v (q_load rfl (h.b 4) rfl) rfl ?_ | refine r_v (q_load rfl (h.b 5) rfl) rfl ?_)
      refine r_c rfl (x_bslice (r := [.int .u8 0]) h rfl rfl rfl fun b w h => ?_)
      refine r_c rfl (x_append' (ys := [.int .u8 0]) (zs := bytesV (padz cur)) (m3 := cur.length / 8 + 1) (h.f 2) rfl rfl ⟨rfl, .inr ⟨b, 0, rfl, at_of (h.b 0 rfl) rfl⟩⟩ (fun u hu => by rw [List.mem_singleton.1 hu]; rfl) (by omega) (by rw [padz_even h8]; simp [bytesV]) (by omega) (by omega) rfl fun a' c' w _ h => ?_)
      refine r_v (q_nil rfl) rfl ?_; refine r_v (q_fa rfl) rfl ?_
      refine r_c rfl (x_store 2 h rfl (show _ = Value.slice _ _ _ from rfl) rfl rfl rfl rfl fun w h => ?_)
      refine r_nil ⟨(a', c'), ⟨rfl, rfl, rfl, trivial⟩, ?_⟩
      exact (h.f 1).drop.f 1
    · refine r_is (.bool false) (by simp; omega) ?_
      refine r_nil (c_false rfl (c_skip ⟨(a, c), ⟨rfl, rfl, rfl, trivial⟩, ?_⟩))
      rw [padz_odd h8]
      have e : cur.length / 8 + 1 = (cur.length + 7) / 8 := by omega
      rw [e]
      exact h
  clear h
  rintro ⟨a, c⟩ w e h
  dsimp only at h
  obtain ⟨g, rfl⟩ := (h.f 1).own_some (by omega)
  have hk64 : k < 64 := by omega
  have hb2 : (v.testBit k).toNat ≤ 1 := by cases v.testBit k <;> decide
  have hb3 : (v.testBit k).toNat * 2 ^ (7 - cur.length % 8) < 256 := by
    have : 2 ^ (7 - cur.length % 8) ≤ 2 ^ 7 := Nat.pow_le_pow_right (by decide) (by omega)
    have := Nat.mul_le_mul hb2 this
    omega
  refine c_seq (c_any (some 25) (fun w => St w0 _ w) (by kernel_rfl) (by kernel_rfl) h.drew fun w h => ?_)
  refine cur_pure rfl rfl rfl rfl (fun _ => h) (fun _ => flt_v rfl (q_moveP rfl)) ?_; refine cur_pure rfl rfl rfl rfl (fun _ => h) (fun _ => flt_v rfl (q_nil rfl)) ?_; refine cur_pure rfl rfl rfl rfl (fun _ => h) (fun _ => flt_v rfl (q_fa rfl)) ?_; (first | refine cur_float rfl rfl rfl rfl h (fun _ h => flt_v rfl (q_load rfl (h.b 0) rfl)) ?_ | refine cur_float rfl rfl rfl rfl h (fun _ h => flt_v rfl (q_load rfl (h.b 1) rfl)) ?_ | refine cur_float rfl rfl rfl rfl h (fun _ h => flt_v rfl (q_load rfl (h.b 2) rfl)) ?_ | refine cur_float rfl rfl rfl rfl h (fun _ h => flt_v rfl (q_load rfl (h.b 3) rfl)) ?_ | refine cur_float rfl rfl rfl rfl h (fun _ h => flt_v rfl (q_load rfl (h.b 4) rfl)) ?_ | refine cur_float rfl rfl rfl rfl h (fun _ h => flt_v rfl (q_load rfl (h.b 5) rfl)) ?_); refine cur_pure rfl rfl rfl rfl (fun _ => h) (fun _ => flt_v rfl (q_moveP rfl)) ?_; refine cur_pure rfl rfl rfl rfl (fun _ => h) (fun _ => flt_v rfl (q_nil rfl)) ?_; refine cur_pure rfl rfl rfl rfl (fun _ => h) (fun _ => flt_v rfl (q_fa rfl)) ?_; (first | refine cur_float rfl rfl rfl rfl h (fun _ h => flt_v rfl (q_load rfl (h.b 0) rfl)) ?_ | refine cur_float rfl rfl rfl rfl h (fun _ h => flt_v rfl (q_load rfl (h.b 1) rfl)) ?_ | refine cur_float rfl rfl rfl rfl h (fun _ h => flt_v rfl (q_load rfl (h.b 2) rfl)) ?_ | refine cur_float rfl rfl rfl rfl h (fun _ h => flt_v rfl (q_load rfl (h.b 3) rfl)) ?_ | refine cur_float rfl rfl rfl rfl h (fun _ h => flt_v rfl (q_load rfl (h.b 4) rfl)) ?_ | refine cur_float rfl rfl rfl rfl h (fun _ h => flt_v rfl (q_load rfl (h.b 5) rfl)) ?_)
  refine cur_pure rfl rfl rfl rfl (fun _ => h) (fun _ => flt_v rfl (q_is (v' := .int .i64 ((cur.length / 8 : Nat) : Int)) (q_quo rfl rfl (by decide)) (by rw [show ((cur.length : Nat) : Int).tdiv 8 = ((cur.length / 8 : Nat) : Int) from tdiv_nat _ 8, wrap64 (by omega) (by omega)]))) ?_
  refine cur_pure rfl rfl rfl rfl (fun _ => h) (fun _ => flt_v rfl (q_idx (o' := cur.length / 8) rfl rfl rfl (by omega) (by simp))) ?_
  refine cur_float rfl rfl rfl rfl h (fun w h => flt_v rfl (q_loadc (v := .int .u8 (byteAt cur (cur.length / 8)).toNat) rfl (by have := (h.f 1).own_rd.cell (bytesV_get (padz_at cur)); simpa using this))) ?_
  refine cur_pure rfl rfl rfl rfl (fun _ => h) (fun _ => flt_v rfl (q_moveI rfl)) ?_; refine cur_pure rfl rfl rfl rfl (fun _ => h) (fun _ => flt_v rfl (q_moveI rfl)) ?_
  refine cur_pure rfl rfl rfl rfl (fun _ => h) (fun _ => flt_v rfl (q_is (v' := .int .u64 ((v / 2 ^ k : Nat) : Int)) (q_shr rfl rfl (by omega)) (by rw [show (((k + 1 : Nat) : Int) - 1) = (k : Int) by omega]; exact congrArg (Value.int .u64) (fdiv_nat v k _ (Nat.le_of_lt hk64))))) ?_
  refine cur_pure rfl rfl rfl rfl (fun _ => h) (fun _ => flt_v rfl (q_is (v' := .int .u64 (((v.testBit k).toNat : Nat) : Int)) (q_and rfl rfl) (by
    rw [show bitOp .and .u64 ((v / 2 ^ k : Nat) : Int) 1 = ((v / 2 ^ k &&& 1 : Nat) : Int) from (bit_u64 (Nat.lt_of_le_of_lt (Nat.div_le_self _ _) hv) (by decide)).1, Nat.and_one_is_mod, testBit_toNat]))) ?_
  refine cur_pure rfl rfl rfl rfl (fun _ => h) (fun _ => flt_v rfl (q_is (v' := .int .u8 (((v.testBit k).toNat : Nat) : Int)) (q_conv rfl) (by rw [wrap_u8, Nat.mod_eq_of_lt (by omega)]))) ?_
  refine cur_pure rfl rfl rfl rfl (fun _ => h) (fun _ => flt_v rfl (q_moveP rfl)) ?_; refine cur_pure rfl rfl rfl rfl (fun _ => h) (fun _ => flt_v rfl (q_nil rfl)) ?_; refine cur_pure rfl rfl rfl rfl (fun _ => h) (fun _ => flt_v rfl (q_fa rfl)) ?_; (first | refine cur_float rfl rfl rfl rfl h (fun _ h => flt_v rfl (q_load rfl (h.b 0) rfl)) ?_ | refine cur_float rfl rfl rfl rfl h (fun _ h => flt_v rfl (q_load rfl (h.b 1) rfl)) ?_ | refine cur_float rfl rfl rfl rfl h (fun _ h => flt_v rfl (q_load rfl (h.b 2) rfl)) ?_ | refine cur_float rfl rfl rfl rfl h (fun _ h => flt_v rfl (q_load rfl (h.b 3) rfl)) ?_ | refine cur_float rfl rfl rfl rfl h (fun _ h => flt_v rfl (q_load rfl (h.b 4) rfl)) ?_ | refine cur_float rfl rfl rfl rfl h (fun _ h => flt_v rfl (q_load rfl (h.b 5) rfl)) ?_)
  refine cur_pure rfl rfl rfl rfl (fun _ => h) (fun _ => flt_v rfl (q_is (v' := .int .i64 ((cur.length % 8 : Nat) : Int)) (q_rem rfl rfl (by decide)) (congrArg (Value.int .i64) (tmod_nat _ 8)))) ?_
  refine cur_pure rfl rfl rfl rfl (fun _ => h) (fun _ => flt_v rfl (q_is (v' := .int .i64 ((7 - cur.length % 8 : Nat) : Int)) (q_sub rfl rfl) (by rw [wrap64 (by omega) (by omega)]; congr 1; omega))) ?_
  refine cur_pure rfl rfl rfl rfl (fun _ => h) (fun _ => flt_v rfl (q_is (v' := .int .u8 (((v.testBit k).toNat * 2 ^ (7 - cur.length % 8) : Nat) : Int)) (q_shl rfl rfl (by omega)) (by rw [shl_u8 _ _ (by omega), Nat.mod_eq_of_lt hb3]))) ?_
  refine cur_pure rfl rfl rfl rfl (fun _ => h) (fun _ => flt_v rfl (q_is (v' := .int .u8 ((byteAt cur (cur.length / 8) ||| UInt8.ofNat ((v.testBit k).toNat * 2 ^ (7 - cur.length % 8))).toNat : Int)) (q_or rfl rfl) (by
    rw [← or_bytes, UInt8.toNat_ofNat', Nat.mod_eq_of_lt hb3]))) ?_
  refine cur_pure rfl rfl rfl rfl (fun _ => h) (fun _ => flt_v rfl (q_idx (o' := cur.length / 8) rfl rfl rfl (by omega) (by simp))) ?_
  refine cur_skip ?_
  refine cur_last 25 rfl rfl rfl ?_
  refine x_ownset (v := .int .u8 ((byteAt cur (cur.length / 8) ||| UInt8.ofNat ((v.testBit k).toNat * 2 ^ (7 - cur.length % 8))).toNat : Int)) (h.f 1) rfl rfl (by omega) rfl fun w h => ?_
  rw [bytesV_set, ← pack_snoc] at h
  refine c_region ?_
  refine r_v (q_moveP rfl) rfl ?_; refine r_v (q_nil rfl) rfl ?_; refine r_v (q_fa rfl) rfl ?_
  refine r_v (q_load (v := .int .i64 cur.length) rfl (h.b 1 rfl) rfl) rfl ?_
  refine r_v (q_add rfl rfl) rfl ?_
  refine r_is (.int .i64 ((cur.length + 1 : Nat) : Int)) (by rw [wrap64 (by omega) (by omega)]; rfl) ?_
  refine r_v (q_nil rfl) rfl ?_; refine r_v (q_fa rfl) rfl ?_
  refine r_c rfl (x_store 1 h rfl (show _ = Value.int _ _ from rfl) rfl rfl rfl rfl fun w h => ?_)
  refine r_nil ?_
  refine c_region ?_
  refine r_v (q_moveI rfl) rfl ?_; refine r_v (q_sub rfl rfl) rfl ?_
  refine r_is (.int .i64 ((k : Int) - 1)) (by rw [wrap64 (by omega) (by omega)]; congr 1; omega) ?_
  refine r_v (q_assignI rfl) rfl ?_
  refine r_nil ⟨(k, cur ++ [v.testBit k]), ⟨rfl, rfl, rfl, trivial⟩, ⟨by dsimp only; omega, ?_, St.bw.2 ⟨some ⟨g, 0, none⟩, c, ?_⟩⟩, by dsimp only; omega⟩
  · rw [← hcur, List.append_assoc]; rfl
  · have e1 : ((cur ++ [v.testBit k]).length + 7) / 8 = cur.length / 8 + 1 := by simp; omega
    rw [e1, List.length_append]
    exact h.f 1
end
end Go.Proofs.YtjjacchnalemaaaDoor
