/- crcc: the table, the sum. -/
import Derived.Test.YtjjacchnalemaaaDoorPk
import Derived.Test.YtjjacchnalemaaaDoorDec
namespace Go.Hw
set_option maxRecDepth 100000
theorem wrap_u32 (x : Nat) : IntKind.u32.wrap (x : Int) = ((x % 4294967296 : Nat) : Int) := by
  unfold IntKind.wrap
  simp [IntKind.signed, IntKind.bits]
theorem bit_u32 {a b : Nat} (ha : a < 4294967296) (hb : b < 4294967296) :
    bitOp .and .u32 (a : Int) (b : Int) = ((a &&& b : Nat) : Int) ∧ bitOp .xor .u32 (a : Int) (b : Int) = ((a ^^^ b : Nat) : Int) := by
  have ha' : a % 2 ^ 32 = a := Nat.mod_eq_of_lt ha
  have hb' : b % 2 ^ 32 = b := Nat.mod_eq_of_lt hb
  have e : IntKind.u32.bits = 32 := rfl
  refine ⟨?_, ?_⟩ <;> unfold bitOp <;> simp only [e, BitVec.ofInt_natCast, BitVec.toNat_and, BitVec.toNat_xor, BitVec.toNat_ofNat, ha', hb', wrap_u32]
  · rw [Nat.mod_eq_of_lt (Nat.and_lt_two_pow (n := 32) _ hb)]
  · rw [Nat.mod_eq_of_lt (Nat.xor_lt_two_pow (n := 32) ha hb)]
def u32V (l : List Nat) : List Value := l.map fun (x : Nat) => .int .u32 (x : Int)
theorem u32V_len (l : List Nat) : (u32V l).length = l.length := by simp [u32V]
theorem u32V_get {l : List Nat} {j x : Nat} (h : l[j]? = some x) : (u32V l)[j]? = some (.int .u32 (x : Int)) := by simp [u32V, h]
/-- The table, so far. -/
def tabL (i : Nat) : List Nat := (List.range i).map crcByte ++ List.replicate (256 - i) 0
theorem tabL_len {i : Nat} (h : i ≤ 256) : (tabL i).length = 256 := by simp [tabL]; omega
theorem tabL_set {i : Nat} (h : i < 256) : (u32V (tabL i)).set i (.int .u32 (crcByte i : Int)) = u32V (tabL (i + 1)) := by
  have e : 256 - i = (256 - (i + 1)) + 1 := by omega
  have hl : (u32V ((List.range i).map crcByte)).length = i := by simp [u32V]
  have e1 : u32V (tabL i) = u32V ((List.range i).map crcByte) ++ (.int .u32 (0 : Nat)) :: u32V (List.replicate (256 - (i + 1)) 0) := by
    unfold tabL u32V
    rw [e, List.replicate_succ, List.map_append, List.map_cons]
  have e2 : u32V (tabL (i + 1)) = u32V ((List.range i).map crcByte) ++ (.int .u32 (crcByte i : Int)) :: u32V (List.replicate (256 - (i + 1)) 0) := by
    unfold tabL u32V
    rw [List.range_succ, List.map_append, List.map_append, List.map_append, List.append_assoc]
    rfl
  rw [e1, e2, List.set_append_right _ _ (by omega), hl, Nat.sub_self]
  rfl
def tabV : List Value := u32V (tabL 256)
theorem tabV_len : tabV.length = 256 := by unfold tabV; rw [u32V_len, tabL_len (Nat.le_refl _)]
theorem tabV_get {i : Nat} (h : i < 256) : tabV[i]? = some (.int .u32 (crcByte i : Int)) := by
  unfold tabV
  refine u32V_get ?_
  unfold tabL
  rw [List.getElem?_append_left (by simpa using h), List.getElem?_map, List.getElem?_range h]
  rfl
theorem tabV_one : tabV.all (·.oneCell') = true := by decide +kernel
end Go.Hw
namespace Go.Proofs.YtjjacchnalemaaaDoor
open Go.Hw
set_option maxHeartbeats 4000000
set_option maxRecDepth 100000
instance undTab : Und Tryd.prog 87 (.array 256 85) := ⟨Tryd.underlying87⟩
section
variable {w0 w : World} {l : List HProp}
theorem crcc_Table (h : St w0 l w) : Ret Tryd.prog 53 [] w fun v w' => v = .agg tabV.toArray ∧ St w0 l w' := by
  refine enter Tryd.func53 rfl Tryd.results53 Tryd.ntmps53 rfl ?_
  refine c_seq (c_region ?_)
  refine r_c rfl (x_alloc h fun b0 w h => ?_)
  refine r_nil ?_
  refine c_seq (c_region ?_)
  refine r_c rfl (x_alloc h fun b1 w h => ?_)
  refine r_nil ?_
  refine c_seq (c_seq (c_region ?_))
  refine r_v (q_moveI rfl) rfl ?_
  refine r_nil ?_
  have hz : (List.replicate 256 (Value.int .u32 0)) = u32V (tabL 0) := by show _ = (List.replicate 256 0).map _; rw [List.map_replicate]; rfl
  refine c_block ?_
  refine c_loop (Γ := Nat) (fun k => [(0, .pointer (some ⟨b0, 0, none⟩)), (1, .pointer (some ⟨b1, 0, none⟩)), (5, .int .i64 k)]) (fun k w => k ≤ 256 ∧ St w0 (pt b1 (.cells (u32V (tabL k)).toArray 87 (0, 0)) :: pt b0 (.cells (List.replicate 256 (Value.int .u32 0)).toArray 87 (0, 0)) :: l) w) (fun k => 256 - k) 0 ⟨rfl, rfl, rfl, trivial⟩ ⟨Nat.zero_le _, by rw [← hz]; exact h⟩ ?_
  clear h
  rintro i w e ⟨hi, h⟩
  refine c_seq (c_region ?_)
  refine r_v (q_lss rfl rfl) rfl ?_
  refine r_nil ?_
  refine c_seq (c_cond (decide ((i : Int) < 256)) rfl (fun hc => ?_) (fun hc => ?_))
  ·
    have hlt : i < 256 := by simp at hc; omega
    refine c_skip ?_
    refine c_seq (c_block ?_)
    refine c_seq (c_region ?_)
    refine r_v (q_moveI rfl) rfl ?_; refine r_v (q_assignI rfl) rfl ?_
    refine r_nil ?_
    refine c_seq (c_region ?_)
    refine r_v (q_moveI rfl) rfl ?_; refine r_v (q_conv rfl) rfl ?_
    refine r_is (.int .u32 (i : Int)) (by rw [wrap_u32, Nat.mod_eq_of_lt (by omega)]) ?_
    refine r_v (q_assignI rfl) rfl ?_
    refine r_nil ?_
    refine c_cut (Γ := Unit) (fun _ => [(0, .pointer (some ⟨b0, 0, none⟩)), (1, .pointer (some ⟨b1, 0, none⟩)), (2, .int .i64 i), (3, .int .u32 (crcByte i : Int)), (5, .int .i64 i)]) (fun _ w => St w0 (pt b1 (.cells (u32V (tabL i)).toArray 87 (0, 0)) :: pt b0 (.cells (List.replicate 256 (Value.int .u32 0)).toArray 87 (0, 0)) :: l) w) ?_ ?_
    · refine c_seq (c_region ?_)
      refine r_v (q_moveI rfl) rfl ?_
      refine r_nil ?_
      refine c_block ?_
      refine c_loop (Γ := Nat) (fun k => [(0, .pointer (some ⟨b0, 0, none⟩)), (1, .pointer (some ⟨b1, 0, none⟩)), (2, .int .i64 i), (3, .int .u32 (crcN k i : Int)), (5, .int .i64 i), (10, .int .i64 k)]) (fun k w => k ≤ 8 ∧ St w0 (pt b1 (.cells (u32V (tabL i)).toArray 87 (0, 0)) :: pt b0 (.cells (List.replicate 256 (Value.int .u32 0)).toArray 87 (0, 0)) :: l) w) (fun k => 8 - k) 0 ⟨rfl, rfl, rfl, rfl, rfl, rfl, trivial⟩ ⟨Nat.zero_le _, h⟩ ?_
      clear h
      rintro k w e ⟨hk, h⟩
      refine c_seq (c_region ?_)
      refine r_v (q_lss rfl rfl) rfl ?_
      refine r_nil ?_
      refine c_seq (c_cond (decide ((k : Int) < 8)) rfl (fun hc => ?_) (fun hc => ?_))
      ·
        have hk8 : k < 8 := by simp at hc; omega
        have hcl := crcN_lt (c := i) (by omega) k
        have hstep : crcN (k + 1) i = crcBit (crcN k i) := rfl
        generalize crcN k i = c at hcl hstep
        refine c_skip ?_
        refine c_cut (Γ := Unit) (fun _ => [(0, .pointer (some ⟨b0, 0, none⟩)), (1, .pointer (some ⟨b1, 0, none⟩)), (2, .int .i64 i), (3, .int .u32 (crcN (k + 1) i : Int)), (5, .int .i64 i), (10, .int .i64 k)]) (fun _ w => St w0 (pt b1 (.cells (u32V (tabL i)).toArray 87 (0, 0)) :: pt b0 (.cells (List.replicate 256 (Value.int .u32 0)).toArray 87 (0, 0)) :: l) w) ?_ ?_
        · refine c_block ?_
          refine c_seq (c_region ?_)
          refine r_v (q_moveI rfl) rfl ?_; refine r_v (q_and rfl rfl) rfl ?_
          refine r_is (.int .u32 ((c % 2 : Nat) : Int)) (congrArg (Value.int .u32) (((bit_u32 hcl (by decide : 1 < _)).1).trans (by rw [Nat.and_one_is_mod]))) ?_
          refine r_v (q_assignI rfl) rfl ?_
          refine r_nil ?_
          refine c_seq (c_region ?_)
          refine r_v (q_moveI rfl) rfl ?_
          refine r_v (q_is (v' := .int .u32 ((c / 2 ^ 1 : Nat) : Int)) (q_shr rfl rfl (by omega)) (congrArg (Value.int .u32) (fdiv_nat c 1 32 (by decide)))) rfl ?_
          refine r_v (q_assignI rfl) rfl ?_
          refine r_nil ?_
          refine c_seq (c_region ?_)
          refine r_v (q_moveI rfl) rfl ?_; refine r_v (q_eql rfl rfl) rfl ?_
          rw [hstep]
          unfold crcBit
          by_cases h1 : c % 2 = 1
          · rw [if_pos h1]
            refine r_is (.bool true) (by rw [h1]; rfl) ?_
            refine r_nil (c_true rfl ?_)
            refine c_region ?_
            refine r_v (q_moveI rfl) rfl ?_; refine r_v (q_xor rfl rfl) rfl ?_
            refine r_is (.int .u32 ((c / 2 ^ 1 ^^^ 2197175160 : Nat) : Int)) (congrArg (Value.int .u32) (bit_u32 (by omega) (by decide)).2) ?_
            refine r_v (q_assignI rfl) rfl ?_
            exact r_nil ⟨(), ⟨rfl, rfl, rfl, rfl, rfl, rfl, trivial⟩, h⟩
          · rw [if_neg h1]
            refine r_is (.bool false) (by congr 1; rw [beq_eq_false_iff_ne]; omega) ?_
            refine r_nil (c_false rfl ?_)
            exact c_skip ⟨(), ⟨rfl, rfl, rfl, rfl, rfl, rfl, trivial⟩, h⟩
        clear h
        rintro _ w e h
        refine c_region ?_
        refine r_v (q_add rfl rfl) rfl ?_
        refine r_is (.int .i64 ((k + 1 : Nat) : Int)) (by rw [wrap64 (by omega) (by omega)]; rfl) ?_
        refine r_v (q_moveI rfl) rfl ?_
        exact r_nil ⟨k + 1, ⟨rfl, rfl, rfl, rfl, rfl, rfl, trivial⟩, ⟨hk8, h⟩, by omega⟩
      have hk8 : k = 8 := by simp at hc; omega
      subst hk8
      exact c_exit ⟨(), ⟨rfl, rfl, rfl, rfl, rfl, trivial⟩, h⟩
    clear h
    rintro _ w e h
    refine c_region ?_
    refine r_v (q_moveI rfl) rfl ?_; refine r_v (q_moveI rfl) rfl ?_
    refine r_v (q_aidx (j := i) (o' := i) rfl rfl rfl hlt (by simp)) rfl ?_
    refine r_c rfl (x_store 0 h rfl (show _ = Value.int .u32 (crcByte i : Int) from rfl) rfl (by rw [Nat.blt_eq, u32V_len, tabL_len (by omega)]; omega) rfl rfl fun w h => ?_)
    simp only [List.set_cons_zero] at h
    rw [tabL_set hlt] at h
    refine r_nil ?_
    refine c_region ?_
    refine r_v (q_add rfl rfl) rfl ?_
    refine r_is (.int .i64 ((i + 1 : Nat) : Int)) (by rw [wrap64 (by omega) (by omega)]; rfl) ?_
    refine r_v (q_moveI rfl) rfl ?_
    exact r_nil ⟨i + 1, ⟨rfl, rfl, rfl, trivial⟩, ⟨hlt, h⟩, by omega⟩
  have hi256 : i = 256 := by simp at hc; omega
  subst hi256
  refine c_exit ?_
  refine c_seq (c_region ?_)
  refine r_v (q_loadS (l := tabV) rfl (by rw [tabV_len]; rfl) (at_of (h.b 0 rfl) rfl)) rfl ?_
  refine r_c rfl (x_storeA (vs := tabV) 1 h rfl rfl rfl (by rw [tabV_len]; rfl) (by rw [tabV_len]; rfl) rfl tabV_one fun w h => ?_)
  simp only [List.set_cons_zero, List.set_cons_succ] at h
  rw [show (List.replicate 256 (Value.int .u32 0)).take 0 ++ tabV ++ (List.replicate 256 (Value.int .u32 0)).drop (0 + tabV.length) = tabV by rw [List.take_zero, List.nil_append, tabV_len, List.drop_of_length_le (by rw [List.length_replicate]; decide), List.append_nil]] at h
  refine r_nil ?_
  exact c_ret (bqS1 (l := tabV) rfl (by rw [tabV_len]; rfl) (at_of (h.b 1 rfl) rfl) ⟨rfl, h.drop.drop⟩)

theorem crcc_Sum {sl : Option Addr} {c : Nat} {bs : List UInt8} (hn : bs.length ≤ 140737488355328) (hr : Reads w0 l 1 sl bs.length (bytesV bs)) (h : St w0 l w) :
    Ret Tryd.prog 52 [.agg tabV.toArray, .slice sl bs.length c] w fun v w' => v = .int .u32 (crc bs : Int) ∧ St w0 l w' := by
  refine enter Tryd.func52 rfl Tryd.results52 Tryd.ntmps52 rfl ?_
  refine c_seq (c_region ?_)
  refine r_c rfl (x_box h (show _ = Value.agg tabV.toArray from rfl) fun b2 w h => ?_)
  refine r_v (q_assignI rfl) rfl ?_
  refine r_nil ?_
  refine c_seq (c_region ?_)
  refine r_v (q_assignI rfl) rfl ?_
  refine r_nil ?_
  refine c_seq (c_seq (c_region ?_))
  refine r_v (q_moveS rfl) rfl ?_; refine r_v (q_len rfl) rfl ?_; refine r_v (q_moveI rfl) rfl ?_
  refine r_nil ?_
  refine c_block ?_
  refine c_loop (Γ := Nat × Nat) (fun k => [(2, .pointer (some ⟨b2, 0, none⟩)), (5, .int .u32 (k.2 : Int)), (8, .slice sl bs.length c), (9, .int .i64 bs.length), (10, .int .i64 k.1)])
    (fun k w => k.1 ≤ bs.length ∧ k.2 < 4294967296 ∧ crcA k.2 (bs.drop k.1) = crcA 4294967295 bs ∧ St w0 (pt b2 (.cells tabV.toArray 87 (0, 0)) :: l) w) (fun k => bs.length - k.1) (0, 4294967295) ⟨rfl, rfl, rfl, rfl, rfl, trivial⟩ ⟨Nat.zero_le _, (by decide : (4294967295 : Nat) < 4294967296), rfl, h⟩ ?_
  clear h
  rintro ⟨i, s⟩ w e ⟨hi, hs, he, h⟩
  dsimp only at hi hs he h ⊢
  refine c_seq (c_region ?_)
  refine r_v (q_lss rfl rfl) rfl ?_
  refine r_nil ?_
  refine c_seq (c_cond (decide ((i : Int) < (bs.length : Int))) rfl (fun hc => ?_) (fun hc => ?_))
  ·
    have hlt : i < bs.length := by simp at hc; omega
    have hg := List.getElem?_eq_getElem hlt
    have hdr := List.drop_eq_getElem_cons hlt
    generalize bs[i] = x at hg hdr
    have hx := x.toNat_lt
    rw [hdr, crcA] at he
    have hst := crcStep_lt (x := x.toNat) hs hx
    unfold crcStep at he hst
    have hj : (s % 256) ^^^ x.toNat < 256 := xor8 (Nat.mod_lt _ (by decide)) hx
    have hbl := crcByte_lt hj
    obtain ⟨b, o, hsl⟩ := (hr.cons.at_ h).some (by omega)
    refine c_skip ?_
    refine c_seq (c_block ?_)
    refine c_seq (c_region ?_)
    refine r_v (q_idx (b := b) (o := o) (m := bs.length) (c := c) (o' := o + i) (by rw [← hsl]; rfl) rfl rfl hlt (by simp)) rfl ?_
    refine r_v (q_loadc (v := .int .u8 x.toNat) rfl ((hsl ▸ hr.cons.at_ h).cell (bytesV_get hg))) rfl ?_
    refine r_v (q_assignI rfl) rfl ?_
    refine r_nil ?_
    refine c_region ?_
    refine r_v (q_moveI rfl) rfl ?_; refine r_v (q_conv rfl) rfl ?_
    refine r_is (.int .u8 ((s % 256 : Nat) : Int)) (by rw [wrap_u8]) ?_
    refine r_v (q_moveI rfl) rfl ?_; refine r_v (q_xor rfl rfl) rfl ?_
    refine r_is (.int .u8 (((s % 256) ^^^ x.toNat : Nat) : Int)) (congrArg (Value.int .u8) (bit_u8 (by omega) hx).2.2) ?_
    refine r_v (q_aidx (j := (s % 256) ^^^ x.toNat) (o' := (s % 256) ^^^ x.toNat) rfl rfl rfl hj (by simp)) rfl ?_
    refine r_v (q_loadc (v := .int .u32 (crcByte ((s % 256) ^^^ x.toNat) : Int)) rfl (by have := cell_of (h.b 0 rfl) (tabV_get hj); simpa using this)) rfl ?_
    generalize crcByte ((s % 256) ^^^ x.toNat) = tb at he hst hbl ⊢
    refine r_v (q_moveI rfl) rfl ?_
    refine r_v (q_is (v' := .int .u32 ((s / 2 ^ 8 : Nat) : Int)) (q_shr rfl rfl (by omega)) (congrArg (Value.int .u32) (fdiv_nat s 8 32 (by decide)))) rfl ?_
    refine r_v (q_xor rfl rfl) rfl ?_
    refine r_is (.int .u32 ((tb ^^^ (s / 256) : Nat) : Int)) (congrArg (Value.int .u32) (bit_u32 hbl (by omega)).2) ?_
    refine r_v (q_assignI rfl) rfl ?_
    refine r_nil ?_
    refine c_region ?_
    refine r_v (q_add rfl rfl) rfl ?_
    refine r_is (.int .i64 ((i + 1 : Nat) : Int)) (by rw [wrap64 (by omega) (by omega)]; rfl) ?_
    refine r_v (q_moveI rfl) rfl ?_
    exact r_nil ⟨(i + 1, tb ^^^ (s / 256)), ⟨rfl, rfl, rfl, rfl, rfl, trivial⟩, ⟨hlt, hst, he, h⟩, by dsimp only; omega⟩
  have hin : i = bs.length := by simp at hc; omega
  rw [hin, List.drop_length, crcA] at he
  refine c_exit ?_
  refine c_seq (c_region ?_)
  refine r_v (q_moveI rfl) rfl ?_; refine r_v (q_xor rfl rfl) rfl ?_
  refine r_is (.int .u32 ((s ^^^ 4294967295 : Nat) : Int)) (congrArg (Value.int .u32) (bit_u32 hs (by decide)).2) ?_
  refine r_v (q_assignI rfl) rfl ?_
  refine r_nil ?_
  exact c_ret (bq1 ⟨by unfold crc; rw [← he]; rfl, h.drop⟩)
end
end Go.Proofs.YtjjacchnalemaaaDoor
