/- math/bits: how many bits a number has, how many 0s stand behind. -/
import Derived.Test.YtjjacchnalemaaaDoorRd
import Derived.Laws.Strings
namespace Go.Hw
section
variable {P : Program} {e : Env} {w : World} {d : Option Nat} {ty : TypeId} {pos : String} {af : Array Edge} {g : Option (Nat × Bool)}
/-- A text's byte. -/
theorem q_sidx {t : TypeId} [ht : Und P t .string] {x y : Operand} {s : ByteArray} {k : IntKind} {i : Nat} {b : UInt8} (hx : ev e x = .string s) (hy : ev e y = .int k (i : Int)) (hb : s.data.toList[i]? = some b) : Qv P e ⟨d, .index t x y, ty, pos, af, g⟩ w (.int .u8 b.toNat) := by
  unfold Qv
  obtain ⟨h1, h2⟩ := List.getElem?_eq_some_iff.1 hb
  have h3 : i < s.size := by simpa using h1
  have h4 := run_index_string (P := P) (w := w) t s k (i : Int) ht.h
  rw [dif_pos ⟨by omega, by omega⟩] at h4
  simp only [execOp, hx, hy, Sem.run_bind, h4, Result.andThen_ok]
  have h5 : (s[(i : Int).toNat]'(by omega)) = b := by rw [← h2]; simp; rfl
  rw [h5]; rfl
/-- The address of an array's element. -/
theorem q_aidx {t T m : Nat} [ht : Und P t (.array m T)] {z : List Value} {agg : Bool} {bytes : Nat} [hi : Inf P T z agg bytes] {x y : Operand} {b o o' j : Nat} {k : IntKind} {i : Int}
    (hx : ev e x = .pointer (some ⟨b, o, none⟩)) (hy : ev e y = .int k i) (hij : i = (j : Int)) (hj : j < m) (ho : o + j * z.length = o') : Qv P e ⟨d, .indexAddr t x y, ty, pos, af, g⟩ w (.pointer (some ⟨b, o', none⟩)) := by
  unfold Qv
  subst hij ho
  have h1 := hi.sizeOf w
  simp [execOp, hx, hy, Instr.indexAt, asIntOf, Instr.sureAddr, run_underlying ht.h, h1, Addr.add_mid, hj]
end
theorem len64_shift {x k : Nat} (h : 2 ^ k ≤ x) : len64 (x / 2 ^ k) + k = len64 x := by
  have key : ∀ m, len64 (x / 2 ^ k) + k ≤ m ↔ len64 x ≤ m := by
    intro m
    rw [len64_le]
    constructor
    · intro h1
      have h2 : len64 (x / 2 ^ k) ≤ m - k := by omega
      rw [len64_le, Nat.div_lt_iff_lt_mul (Nat.two_pow_pos k), ← Nat.pow_add] at h2
      rwa [show m - k + k = m by omega] at h2
    · intro h1
      have h2 : k < m := by
        rcases Nat.lt_or_ge k m with h3 | h3
        · exact h3
        · have : 2 ^ m ≤ 2 ^ k := Nat.pow_le_pow_right (by decide) h3
          omega
      have h3 : len64 (x / 2 ^ k) ≤ m - k := by
        rw [len64_le, Nat.div_lt_iff_lt_mul (Nat.two_pow_pos k), ← Nat.pow_add]
        rwa [show m - k + k = m by omega]
      omega
  exact Nat.le_antisymm ((key _).2 (Nat.le_refl _)) ((key _).1 (Nat.le_refl _))
def lenTab : ByteArray := ⟨((List.range 256).map fun x => UInt8.ofNat (len64 x)).toArray⟩
theorem lenTab_get {x : Nat} (h : x < 256) : lenTab.data.toList[x]? = some (UInt8.ofNat (len64 x)) := by
  show ((List.range 256).map fun x => UInt8.ofNat (len64 x))[x]? = _
  rw [List.getElem?_map, List.getElem?_range h]; rfl
theorem tzA_odd : ∀ (k x : Nat), x ≠ 0 → x < 2 ^ k → x / 2 ^ tzA k x % 2 = 1 ∧ tzA k x < k
  | 0, x, h0, h => by simp at h; omega
  | k + 1, x, h0, h => by
    rw [tzA]
    split
    · rename_i h1; simpa using h1
    · rename_i h1
      obtain ⟨h2, h3⟩ := tzA_odd k (x / 2) (by omega) (by rw [Nat.pow_succ] at h; omega)
      rw [Nat.pow_succ, Nat.mul_comm, ← Nat.div_div_eq_div_mul]
      exact ⟨h2, by omega⟩
theorem low_bit {x : Nat} (h0 : x ≠ 0) (h : x < 18446744073709551616) : x &&& (18446744073709551616 - x) = 2 ^ tz x := by
  obtain ⟨h1, h2⟩ := tzA_odd 64 x h0 h
  have h3 := tzA_dvd 64 x
  have ht : tzA 64 x = tz x := rfl
  rw [ht] at h1 h2 h3
  generalize tz x = t at *
  generalize hm : x / 2 ^ t = m at *
  have hp := Nat.two_pow_pos t
  have hx1 : (x - 1) / 2 ^ t = m - 1 := by
    have e : x - 1 = (m - 1) * 2 ^ t + (2 ^ t - 1) := by
      rw [Nat.sub_mul, Nat.one_mul, h3]
      have : 2 ^ t ≤ x := by rw [← h3]; exact Nat.le_mul_of_pos_left _ (by omega)
      omega
    rw [e, Nat.add_comm, Nat.add_mul_div_right _ _ hp, Nat.div_eq_of_lt (by omega), Nat.zero_add]
  apply Nat.eq_of_testBit_eq
  intro i
  rw [Nat.testBit_and, Nat.testBit_two_pow]
  have hs : (18446744073709551616 - x).testBit i = (decide (i < 64) && !(x - 1).testBit i) := by
    have := Nat.testBit_two_pow_sub_succ (n := 64) (x := x - 1) (by omega) i
    rw [show x - 1 + 1 = x by omega] at this
    exact this
  rw [hs]
  have hx : x.testBit i = (decide (i ≥ t) && m.testBit (i - t)) := by rw [← Nat.testBit_two_pow_mul, Nat.mul_comm, h3]
  by_cases hit : i < t
  · rw [hx]; simp [show ¬ t ≤ i by omega, show ¬ t = i by omega]
  · have hj : (x - 1).testBit i = (m - 1).testBit (i - t) := by rw [← hx1, Nat.testBit_div_two_pow]; congr 1; omega
    rw [hx, hj]
    cases hd : i - t with
    | zero =>
      have : i = t := by omega
      subst this
      simp [Nat.testBit_zero, h1, h2, show ¬ (m - 1) % 2 = 1 by omega]
    | succ j =>
      rw [Nat.testBit_succ, Nat.testBit_succ, show (m - 1) / 2 = m / 2 by omega]
      simp [show ¬ t = i by omega]
      intro _ h5 _
      exact h5
def deB : List Nat := [0, 1, 56, 2, 57, 49, 28, 3, 61, 58, 42, 50, 38, 29, 17, 4, 62, 47, 59, 36, 45, 43, 51, 22, 53, 39, 33, 30, 24, 18, 12, 5, 63, 55, 48, 27, 60, 41, 37, 16, 46, 35, 44, 21, 52, 32, 23, 11, 54, 26, 40, 15, 34, 20, 31, 10, 25, 14, 19, 9, 13, 8, 7, 6]
set_option maxRecDepth 100000
theorem deB_get : ∀ t, t < 64 → 2 ^ t * 285870213051353865 % 18446744073709551616 / 2 ^ 58 < 64 ∧ deB[2 ^ t * 285870213051353865 % 18446744073709551616 / 2 ^ 58]? = some t := by decide
end Go.Hw
namespace Go.Proofs.YtjjacchnalemaaaDoor
open Go.Hw
set_option maxHeartbeats 4000000
/-- The table that the program's text lays. -/
structure Tz (W : World) : Prop where
  size : 0 < W.heap.size
  cell : ∀ (i v : Nat), deB[i]? = some v → W.cell? ⟨0, i, none⟩ = some (.int .u8 v)
section
variable {w0 w : World} {l : List HProp}
theorem mb_Len64 {x : Nat} (hx : x < 18446744073709551616) (h : St w0 l w) : Ret Tryd.prog 105 [.int .u64 x] w fun v w' => v = .int .i64 (len64 x) ∧ St w0 l w' := by
  have hl64 := len64_64 hx
  refine enter Tryd.func105 rfl Tryd.results105 Tryd.ntmps105 rfl ?_
  refine c_seq (c_region ?_)
  refine r_v (q_assignI rfl) rfl ?_
  refine r_nil ?_
  refine c_cut (Γ := Nat × Nat) (fun k => [(0, .int .u64 k.1), (2, .int .i64 k.2)]) (fun k w => k.1 < 4294967296 ∧ len64 k.1 + k.2 = len64 x ∧ St w0 l w) ?_ ?_
  · refine c_seq (c_region ?_)
    refine r_v (q_moveI rfl) rfl ?_; refine r_v (q_geq rfl rfl) rfl ?_
    refine r_nil (c_cond (decide ((x : Int) ≥ 4294967296)) rfl (fun hc => ?_) (fun hc => ?_))
    · have hge : 4294967296 ≤ x := by simp at hc; omega
      refine c_seq (c_region ?_)
      refine r_v (q_moveI rfl) rfl ?_
      refine r_v (q_is (v' := .int .u64 ((x / 2 ^ 32 : Nat) : Int)) (q_shr rfl rfl (by omega)) (congrArg (Value.int .u64) (fdiv_nat x 32 64 (by decide)))) rfl ?_
      refine r_v (q_assignI rfl) rfl ?_
      refine r_nil ?_
      refine c_region ?_
      refine r_v (q_assignI rfl) rfl ?_
      exact r_nil ⟨(x / 2 ^ 32, 32), ⟨rfl, rfl, trivial⟩, by dsimp only; omega, len64_shift hge, h⟩
    · exact c_skip ⟨(x, 0), ⟨rfl, rfl, trivial⟩, by simp at hc; dsimp only; omega, rfl, h⟩
  clear h
  rintro ⟨x1, n1⟩ w e ⟨hx1, hl1, h⟩
  dsimp only at hx1 hl1 ⊢
  refine c_cut (Γ := Nat × Nat) (fun k => [(0, .int .u64 k.1), (2, .int .i64 k.2)]) (fun k w => k.1 < 65536 ∧ len64 k.1 + k.2 = len64 x ∧ St w0 l w) ?_ ?_
  · refine c_seq (c_region ?_)
    refine r_v (q_moveI rfl) rfl ?_; refine r_v (q_geq rfl rfl) rfl ?_
    refine r_nil (c_cond (decide ((x1 : Int) ≥ 65536)) rfl (fun hc => ?_) (fun hc => ?_))
    · have hge : 65536 ≤ x1 := by simp at hc; omega
      have hsh := len64_shift (k := 16) (x := x1) hge
      refine c_seq (c_region ?_)
      refine r_v (q_moveI rfl) rfl ?_
      refine r_v (q_is (v' := .int .u64 ((x1 / 2 ^ 16 : Nat) : Int)) (q_shr rfl rfl (by omega)) (congrArg (Value.int .u64) (fdiv_nat x1 16 64 (by decide)))) rfl ?_
      refine r_v (q_assignI rfl) rfl ?_
      refine r_nil ?_
      refine c_region ?_
      refine r_v (q_moveI rfl) rfl ?_; refine r_v (q_add rfl rfl) rfl ?_
      refine r_is (.int .i64 ((n1 + 16 : Nat) : Int)) (by rw [wrap64 (by omega) (by omega)]; rfl) ?_
      refine r_v (q_assignI rfl) rfl ?_
      exact r_nil ⟨(x1 / 2 ^ 16, n1 + 16), ⟨rfl, rfl, trivial⟩, by dsimp only; omega, by dsimp only; omega, h⟩
    · exact c_skip ⟨(x1, n1), ⟨rfl, rfl, trivial⟩, by simp at hc; dsimp only; omega, hl1, h⟩
  clear h
  rintro ⟨x2, n2⟩ w e ⟨hx2, hl2, h⟩
  dsimp only at hx2 hl2 ⊢
  refine c_cut (Γ := Nat × Nat) (fun k => [(0, .int .u64 k.1), (2, .int .i64 k.2)]) (fun k w => k.1 < 256 ∧ len64 k.1 + k.2 = len64 x ∧ St w0 l w) ?_ ?_
  · refine c_seq (c_region ?_)
    refine r_v (q_moveI rfl) rfl ?_; refine r_v (q_geq rfl rfl) rfl ?_
    refine r_nil (c_cond (decide ((x2 : Int) ≥ 256)) rfl (fun hc => ?_) (fun hc => ?_))
    · have hge : 256 ≤ x2 := by simp at hc; omega
      have hsh := len64_shift (k := 8) (x := x2) hge
      refine c_seq (c_region ?_)
      refine r_v (q_moveI rfl) rfl ?_
      refine r_v (q_is (v' := .int .u64 ((x2 / 2 ^ 8 : Nat) : Int)) (q_shr rfl rfl (by omega)) (congrArg (Value.int .u64) (fdiv_nat x2 8 64 (by decide)))) rfl ?_
      refine r_v (q_assignI rfl) rfl ?_
      refine r_nil ?_
      refine c_region ?_
      refine r_v (q_moveI rfl) rfl ?_; refine r_v (q_add rfl rfl) rfl ?_
      refine r_is (.int .i64 ((n2 + 8 : Nat) : Int)) (by rw [wrap64 (by omega) (by omega)]; rfl) ?_
      refine r_v (q_assignI rfl) rfl ?_
      exact r_nil ⟨(x2 / 2 ^ 8, n2 + 8), ⟨rfl, rfl, trivial⟩, by dsimp only; omega, by dsimp only; omega, h⟩
    · exact c_skip ⟨(x2, n2), ⟨rfl, rfl, trivial⟩, by simp at hc; dsimp only; omega, hl2, h⟩
  clear h
  rintro ⟨x3, n3⟩ w e ⟨hx3, hl3, h⟩
  dsimp only at hx3 hl3 ⊢
  have hl8 : len64 x3 ≤ 8 := len64_le.2 hx3
  refine c_seq (c_region ?_)
  refine r_v (q_moveI rfl) rfl ?_; refine r_v (q_moveI rfl) rfl ?_; refine r_v (q_conv rfl) rfl ?_
  refine r_is (.int .u8 (x3 : Int)) (by rw [wrap_u8, Nat.mod_eq_of_lt hx3]) ?_
  refine r_v (q_sidx (s := lenTab) (by kernel_rfl) rfl (lenTab_get hx3)) rfl ?_
  refine r_is (.int .u8 (len64 x3)) (by rw [UInt8.toNat_ofNat', Nat.mod_eq_of_lt (by omega)]) ?_
  refine r_v (q_conv rfl) rfl ?_
  refine r_is (.int .i64 (len64 x3)) (by rw [wrap64 (by omega) (by omega)]) ?_
  refine r_v (q_add rfl rfl) rfl ?_
  refine r_is (.int .i64 (len64 x)) (by rw [wrap64 (by omega) (by omega)]; congr 1; omega) ?_
  refine r_v (q_assignI rfl) rfl ?_
  refine r_nil ?_
  exact c_ret (bq1 ⟨rfl, h⟩)
theorem mb_Len {x : Nat} (hx : x < 18446744073709551616) (h : St w0 l w) : Ret Tryd.prog 108 [.int .u64 x] w fun v w' => v = .int .i64 (len64 x) ∧ St w0 l w' := by
  refine enter Tryd.func108 rfl Tryd.results108 Tryd.ntmps108 rfl ?_
  refine c_seq (c_region ?_)
  refine r_v (q_assignI rfl) rfl ?_
  refine r_nil ?_
  refine c_seq (c_false rfl (c_skip ?_))
  refine c_seq (c_region ?_)
  refine r_v (q_moveI rfl) rfl ?_
  refine r_c rfl (x_call rfl (mb_Len64 hx h) ?_)
  rintro _ w ⟨rfl, h⟩
  refine r_v (q_assignI rfl) rfl ?_
  refine r_nil ?_
  exact c_ret (bq1 ⟨rfl, h⟩)
theorem mb_LeadingZeros64 {x : Nat} (hx : x < 18446744073709551616) (h : St w0 l w) : Ret Tryd.prog 115 [.int .u64 x] w fun v w' => v = .int .i64 (64 - len64 x : Nat) ∧ St w0 l w' := by
  have hl64 := len64_64 hx
  refine enter Tryd.func115 rfl Tryd.results115 Tryd.ntmps115 rfl ?_
  refine c_seq (c_region ?_)
  refine r_v (q_assignI rfl) rfl ?_
  refine r_nil ?_
  refine c_seq (c_region ?_)
  refine r_v (q_moveI rfl) rfl ?_
  refine r_c rfl (x_call rfl (mb_Len64 hx h) ?_)
  rintro _ w ⟨rfl, h⟩
  refine r_v (q_sub rfl rfl) rfl ?_
  refine r_is (.int .i64 (64 - len64 x : Nat)) (by rw [wrap64 (by omega) (by omega)]; congr 1; omega) ?_
  refine r_v (q_assignI rfl) rfl ?_
  refine r_nil ?_
  exact c_ret (bq1 ⟨rfl, h⟩)
instance undDeB : Und Tryd.prog 158 (.array 64 5) := ⟨Tryd.underlying158⟩
theorem mb_TrailingZeros64 (hT : Tz w0) {x : Nat} (hx : x < 18446744073709551616) (h : St w0 l w) : Ret Tryd.prog 116 [.int .u64 x] w fun v w' => v = .int .i64 (tz x) ∧ St w0 l w' := by
  refine enter Tryd.func116 rfl Tryd.results116 Tryd.ntmps116 rfl ?_
  refine c_seq (c_region ?_)
  refine r_v (q_assignI rfl) rfl ?_
  refine r_nil ?_
  refine c_seq (c_seq (c_region ?_))
  refine r_v (q_moveI rfl) rfl ?_; refine r_v (q_eql rfl rfl) rfl ?_
  by_cases h0 : x = 0
  · refine r_is (.bool true) (by subst h0; rfl) ?_
    refine r_nil (c_true rfl ?_)
    refine c_seq (c_region ?_)
    refine r_v (q_assignI rfl) rfl ?_
    refine r_nil ?_
    exact c_ret (bq1 ⟨by subst h0; rfl, h⟩)
  refine r_is (.bool false) (by congr 1; rw [beq_eq_false_iff_ne]; omega) ?_
  refine r_nil (c_false rfl (c_skip ?_))
  have ht : tz x < 64 := (tzA_odd 64 x h0 hx).2
  obtain ⟨hd1, hd2⟩ := deB_get (tz x) ht
  have hc := hT.cell _ _ hd2
  refine c_seq (c_region ?_)
  refine r_v (q_moveI rfl) rfl ?_; refine r_v (q_moveI rfl) rfl ?_; refine r_v (q_neg rfl) rfl ?_
  refine r_is (.int .u64 ((18446744073709551616 - x : Nat) : Int)) (by rw [wrap_us]; unfold us; congr 1; omega) ?_
  refine r_v (q_and rfl rfl) rfl ?_
  refine r_is (.int .u64 ((2 ^ tz x : Nat) : Int)) (by rw [(bit_u64 hx (by omega)).1, low_bit h0 hx]) ?_
  refine r_v (q_mul rfl rfl) rfl ?_
  refine r_is (.int .u64 ((2 ^ tz x * 285870213051353865 % 18446744073709551616 : Nat) : Int)) (by rw [← wrap_u64]; rfl) ?_
  refine r_v (q_is (v' := .int .u64 ((2 ^ tz x * 285870213051353865 % 18446744073709551616 / 2 ^ 58 : Nat) : Int)) (q_shr rfl rfl (by omega)) (congrArg (Value.int .u64) (fdiv_nat _ 58 64 (by decide)))) rfl ?_
  generalize 2 ^ tz x * 285870213051353865 % 18446744073709551616 / 2 ^ 58 = j at hd1 hd2 hc ⊢
  refine r_v (q_aidx (j := j) (o' := j) rfl rfl rfl hd1 (by simp)) rfl ?_
  refine r_v (q_loadc (v := .int .u8 (tz x)) rfl ((h.cell_old hT.size).trans hc)) rfl ?_
  refine r_v (q_conv rfl) rfl ?_
  refine r_is (.int .i64 (tz x)) (by rw [wrap64 (by omega) (by omega)]) ?_
  refine r_v (q_assignI rfl) rfl ?_
  refine r_nil ?_
  exact c_ret (bq1 ⟨rfl, h⟩)
end
end Go.Proofs.YtjjacchnalemaaaDoor
