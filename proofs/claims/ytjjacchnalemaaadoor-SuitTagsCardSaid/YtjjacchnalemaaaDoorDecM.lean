/- simp: reading small numbers. -/
import Derived.Test.YtjjacchnalemaaaDoorDecS
namespace Go.Proofs.YtjjacchnalemaaaDoor
open Go.Hw
set_option maxHeartbeats 4000000
set_option maxRecDepth 100000
section
variable {w0 w : World} {l : List HProp}
theorem simp_Decode {sl : Option Addr} {c : Nat} {ws : List Nat} {n : Nat} (hws : ∀ x ∈ ws, x < 18446744073709551616) (hwn : ws.length ≤ 140737488355328) (hn : n ≤ 65535) (hr : Reads w0 l 1 sl ws.length (u64V ws)) (h : St w0 l w) :
    Ret Tryd.prog 82 [.slice sl ws.length c, .int .i64 (n : Int)] w fun v w' => ∃ a c' xs b, v = .tuple [.slice a xs.length c', .bool b].toArray ∧ simpDec ws n = (if b = true then some xs else none) ∧ (b = true → xs.length = n ∧ ∀ x ∈ xs, x < 18446744073709551616) ∧ (b = false → xs = []) ∧ St w0 (OwnU a c' xs :: l) w' := by
  have bad : ∀ {w : World}, simpDec ws n = none → St w0 l w → ∃ a c xs b, Value.tuple [.slice none 0 0, .bool false].toArray = .tuple [.slice a xs.length c, .bool b].toArray ∧ simpDec ws n = (if b = true then some xs else none) ∧ (b = true → xs.length = n ∧ ∀ x ∈ xs, x < 18446744073709551616) ∧ (b = false → xs = []) ∧ St w0 (OwnU a c xs :: l) w := fun hb h => ⟨none, 0, [], false, rfl, hb, (fun h => by cases h), fun _ => rfl, St.ownNil _ _ h⟩
  have hdef : simpDec ws n = _ := rfl
  conv at hdef => rhs; unfold simpDec
  refine enter Tryd.func82 rfl Tryd.results82 Tryd.ntmps82 rfl ?_
  refine c_seq (c_region ?_)
  refine r_v (q_assignS rfl) rfl ?_; refine r_v (q_assignB rfl) rfl ?_
  refine r_nil ?_
  refine c_seq (c_region ?_)
  refine r_v (q_moveI rfl) rfl ?_; refine r_v (q_max rfl rfl) rfl ?_; refine r_v (q_min rfl rfl) rfl ?_
  refine r_is (.int .i64 (n : Int)) (by congr 1; omega) ?_
  refine r_v (q_assignI rfl) rfl ?_
  refine r_nil ?_
  refine c_seq (c_region ?_)
  refine r_c rfl (x_call rfl (simp_kinds h) ?_)
  rintro _ w ⟨kb, rfl, h⟩
  refine r_v (q_assignS rfl) rfl ?_
  refine r_nil ?_
  refine c_seq (c_region ?_)
  refine r_v (q_assignS rfl) rfl ?_
  refine r_nil ?_
  refine c_seq (c_seq (c_region ?_))
  refine r_v (q_moveS rfl) rfl ?_; refine r_v (q_len rfl) rfl ?_; refine r_v (q_moveI rfl) rfl ?_
  refine r_nil ?_
  refine c_block ?_
  refine c_loop (Γ := Nat × List Nat × Option Addr × Nat) (fun k => [(0, .slice sl ws.length c), (1, .int .i64 n), (6, .slice (some ⟨kb, 0, none⟩) 16 16), (7, .slice k.2.2.1 k.2.1.length k.2.2.2), (18, .slice sl ws.length c), (19, .int .i64 ws.length), (20, .int .i64 k.1)])
    (fun k w => k.1 ≤ ws.length ∧ k.2.1.length ≤ n ∧ (∀ x ∈ k.2.1, x < 18446744073709551616) ∧ simpDecA ws n = (simpDecA (ws.drop k.1) (n - k.2.1.length)).map (fun r => k.2.1 ++ r) ∧ St w0 (KindsPt kb :: OwnU k.2.2.1 k.2.2.2 k.2.1 :: l) w)
    (fun k => ws.length - k.1) (0, [], none, 0) ⟨rfl, rfl, rfl, rfl, rfl, rfl, rfl, trivial⟩ ⟨Nat.zero_le _, Nat.zero_le _, (fun _ h => by cases h), (by simp), (St.ownNil 22 1 h).f 1⟩ ?_
  clear h
  rintro ⟨i, out, oa, oc⟩ w e ⟨hi, hol, hout, inv, h⟩
  dsimp only at hi hol hout inv h ⊢
  refine c_seq (c_region ?_)
  refine r_v (q_lss rfl rfl) rfl ?_
  refine r_nil ?_
  refine c_seq (c_cond (decide ((i : Int) < (ws.length : Int))) rfl (fun hc => ?_) (fun hc => ?_))
  ·
    have hlt : i < ws.length := by simp at hc; omega
    have hg := List.getElem?_eq_getElem hlt
    have hdr := List.drop_eq_getElem_cons hlt
    generalize ws[i] = x at hg hdr
    have hx := hws x (List.mem_of_getElem? hg)
    rw [hdr, simpDecA] at inv
    have hkx : x / 1152921504606846976 < 16 := by omega
    have hgk := List.getElem?_eq_getElem (show x / 1152921504606846976 < kindsL.length from hkx)
    have hgd : kindsL.getD (x / 1152921504606846976) (0, 0) = kindsL[x / 1152921504606846976]'hkx := by rw [List.getD_eq_getElem?_getD, hgk]; rfl
    rw [hgd] at inv
    generalize kindsL[x / 1152921504606846976]'hkx = kd at hgk inv
    obtain ⟨_, k1, k2, k3⟩ := kindsL_ok _ kd hgk
    have hk2 : kd.2 ≤ 60 := Nat.le_trans (Nat.le_mul_of_pos_right _ k1) k3
    obtain ⟨b, o, hsl⟩ := ((hr.more [_, _]).at_ h).some (by omega)
    refine c_skip ?_
    refine c_seq (c_block ?_)
    refine c_seq (c_region ?_)
    refine r_v (q_idx (b := b) (o := o) (m := ws.length) (c := c) (o' := o + i) (by rw [← hsl]; rfl) rfl rfl hlt (by simp)) rfl ?_
    refine r_v (q_loadc (v := .int .u64 x) rfl ((hsl ▸ (hr.more [_, _]).at_ h).cell (u64V_get hg))) rfl ?_
    refine r_v (q_assignI rfl) rfl ?_
    refine r_nil ?_
    refine c_seq (c_seq (c_region ?_))
    refine r_v (q_moveS rfl) rfl ?_; refine r_v (q_len rfl) rfl ?_; refine r_v (q_moveI rfl) rfl ?_; refine r_v (q_geq rfl rfl) rfl ?_
    by_cases hfull : n ≤ out.length
    · refine r_is (.bool true) (by simp; omega) ?_
      refine r_nil (c_true rfl ?_)
      refine c_seq (c_region ?_)
      refine r_v (q_assignS rfl) rfl ?_; refine r_v (q_assignB rfl) rfl ?_
      refine r_nil ?_
      rw [if_pos (by omega)] at inv
      exact c_ret (bq2 (bad (by rw [hdef, inv]; rfl) h.drop.drop))
    refine r_is (.bool false) (by simp; omega) ?_
    refine r_nil (c_false rfl (c_skip ?_))
    rw [if_neg (by omega), Option.map_map] at inv
    refine c_seq (c_region ?_)
    refine r_v (q_moveS rfl) rfl ?_; refine r_v (q_moveI rfl) rfl ?_
    refine r_v (q_is (v' := .int .u64 ((x / 2 ^ 60 : Nat) : Int)) (q_shr rfl rfl (by omega)) (congrArg (Value.int .u64) (fdiv_nat x 60 64 (by decide)))) rfl ?_
    rw [show x / 2 ^ 60 = x / 1152921504606846976 from rfl]
    refine r_v (q_idx (b := kb) (o := 0) (m := 16) (c := 16) (o' := x / 1152921504606846976 * 2) rfl rfl rfl hkx (by simp)) rfl ?_
    refine r_v (q_loadS (l := kindC kd) rfl rfl (fun j v hj => cell_of (h.b 0 rfl) (flat_get kindC_len kindsL _ kd hgk j v hj))) rfl ?_
    refine r_c rfl (x_alloc h fun b10 w h => ?_)
    refine r_c rfl (x_storeA (vs := kindC kd) 0 h rfl rfl rfl rfl rfl rfl rfl fun w h => ?_)
    replace h : St w0 (pt b10 (.cells (kindC kd).toArray 150 (0, 0)) :: KindsPt kb :: OwnU oa oc out :: l) w := h
    refine r_nil ?_
    refine c_seq (c_region ?_)
    refine r_v (q_moveI rfl) rfl ?_; refine r_v (q_and rfl rfl) rfl ?_
    refine r_is (.int .u64 ((x % 1152921504606846976 : Nat) : Int)) (congrArg (Value.int .u64) (((bit_u64 hx (by decide : (1152921504606846975 : Nat) < _)).1).trans (by rw [and_word]))) ?_
    refine r_v (q_assignI rfl) rfl ?_
    refine r_nil ?_
    have hxm : x % 1152921504606846976 < 1152921504606846976 := Nat.mod_lt _ (by decide)
    generalize x % 1152921504606846976 = y at inv hxm ⊢
    generalize hmm : min kd.1 (n - out.length) = m at inv
    have hm1 : m ≤ kd.1 := by omega
    have hm2 : m ≤ n - out.length := by omega
    refine c_seq (c_region ?_)
    refine r_v (q_assignI rfl) rfl ?_
    refine r_nil ?_
    refine c_block ?_
    refine c_loop (Γ := Nat × Option Addr × Nat) (fun k => [(0, .slice sl ws.length c), (1, .int .i64 n), (6, .slice (some ⟨kb, 0, none⟩) 16 16), (7, .slice k.2.1 (out ++ unpackW y kd.2 k.1).length k.2.2), (9, .int .u64 y), (10, .pointer (some ⟨b10, 0, none⟩)), (11, .int .i64 k.1), (18, .slice sl ws.length c), (19, .int .i64 ws.length), (20, .int .i64 i)])
      (fun k w => k.1 ≤ m ∧ St w0 (pt b10 (.cells (kindC kd).toArray 150 (0, 0)) :: OwnU k.2.1 k.2.2 (out ++ unpackW y kd.2 k.1) :: KindsPt kb :: l) w)
      (fun k => m - k.1) (0, oa, oc) ⟨rfl, rfl, rfl, (by show Value.slice _ _ _ = Value.slice _ _ _; simp [unpackW]), rfl, rfl, rfl, rfl, rfl, rfl, trivial⟩ ⟨Nat.zero_le _, by simp only [unpackW, List.range_zero, List.map_nil, List.append_nil]; exact (h.f 2).f 1⟩ ?_
    clear h
    rintro ⟨j, oa, oc⟩ w e ⟨hj, h⟩
    dsimp only at hj h ⊢
    have hul : (out ++ unpackW y kd.2 j).length = out.length + j := by rw [List.length_append, unpackW_len]
    refine c_cut (Γ := Unit) (fun _ => [(0, .slice sl ws.length c), (1, .int .i64 n), (6, .slice (some ⟨kb, 0, none⟩) 16 16), (7, .slice oa (out ++ unpackW y kd.2 j).length oc), (9, .int .u64 y), (10, .pointer (some ⟨b10, 0, none⟩)), (11, .int .i64 j), (18, .slice sl ws.length c), (19, .int .i64 ws.length), (20, .int .i64 i)])
      (fun _ w => j < m ∧ St w0 (pt b10 (.cells (kindC kd).toArray 150 (0, 0)) :: OwnU oa oc (out ++ unpackW y kd.2 j) :: KindsPt kb :: l) w) ?_ ?_
    · refine c_seq (c_region ?_)
      refine r_v (q_moveI rfl) rfl ?_; refine r_v (q_fa rfl) rfl ?_
      refine r_v (q_load (v := .int .i64 kd.1) rfl (h.b 0 rfl) rfl) rfl ?_
      by_cases hjk : j < kd.1
      · refine r_v (q_is (v' := .bool true) (q_lss rfl rfl) (by congr 1; simpa using hjk)) rfl ?_
        refine r_v (q_moveB rfl) rfl ?_; (first | refine r_gd rfl rfl ?_ | refine r_gn rfl rfl rfl ?_ | refine r_gu rfl rfl ?_ | refine r_gd rfl (by assumption) ?_ | refine r_gn rfl (by assumption) rfl ?_); refine r_v (q_moveS rfl) rfl ?_; (first | refine r_gd rfl rfl ?_ | refine r_gn rfl rfl rfl ?_ | refine r_gu rfl rfl ?_ | refine r_gd rfl (by assumption) ?_ | refine r_gn rfl (by assumption) rfl ?_); refine r_v (q_len rfl) rfl ?_; (first | refine r_gd rfl rfl ?_ | refine r_gn rfl rfl rfl ?_ | refine r_gu rfl rfl ?_ | refine r_gd rfl (by assumption) ?_ | refine r_gn rfl (by assumption) rfl ?_); refine r_v (q_moveI rfl) rfl ?_; (first | refine r_gd rfl rfl ?_ | refine r_gn rfl rfl rfl ?_ | refine r_gu rfl rfl ?_ | refine r_gd rfl (by assumption) ?_ | refine r_gn rfl (by assumption) rfl ?_)
        by_cases hjn : out.length + j < n
        · refine r_v (q_is (v' := .bool true) (q_lss rfl rfl) (by rw [hul]; congr 1; simp; omega)) rfl ?_
          (first | refine r_v (q_pick1 rfl rfl rfl) rfl ?_ | refine r_v (q_pick0 rfl rfl rfl) rfl ?_ | refine r_v (q_pick1 rfl (by assumption) rfl) rfl ?_ | refine r_v (q_pick0 rfl (by assumption) rfl) rfl ?_ | refine r_v (q_pickB rfl rfl rfl) rfl ?_)
          refine r_nil (c_true rfl ?_)
          exact c_skip ⟨(), ⟨rfl, rfl, rfl, rfl, rfl, rfl, rfl, rfl, rfl, rfl, trivial⟩, by omega, h⟩
        · refine r_v (q_is (v' := .bool false) (q_lss rfl rfl) (by rw [hul]; congr 1; simp; omega)) rfl ?_
          (first | refine r_v (q_pick1 rfl rfl rfl) rfl ?_ | refine r_v (q_pick0 rfl rfl rfl) rfl ?_ | refine r_v (q_pick1 rfl (by assumption) rfl) rfl ?_ | refine r_v (q_pick0 rfl (by assumption) rfl) rfl ?_ | refine r_v (q_pickB rfl rfl rfl) rfl ?_)
          refine r_nil (c_false rfl ?_)
          have hjm : j = m := by omega
          refine c_exit ?_
          refine c_region ?_
          refine r_v (q_add rfl rfl) rfl ?_
          refine r_is (.int .i64 ((i + 1 : Nat) : Int)) (by rw [wrap64 (by omega) (by omega)]; rfl) ?_
          refine r_v (q_moveI rfl) rfl ?_
          refine r_nil ⟨(i + 1, out ++ unpackW y kd.2 j, oa, oc), ⟨rfl, rfl, rfl, rfl, rfl, rfl, rfl, trivial⟩, ⟨hlt, by rw [hul]; omega, fun z hz => ?_, ?_, (h.drop.f 1)⟩, by dsimp only; omega⟩
          · rcases List.mem_append.1 hz with hz | hz
            · exact hout z hz
            · obtain ⟨q, _, rfl⟩ := List.mem_map.1 hz
              exact Nat.lt_trans (Nat.mod_lt _ (Nat.two_pow_pos _)) (pow_le_64 hk2)
          · rw [inv, hul, hjm, Nat.sub_sub]
            congr 1
            funext r
            simp
      · refine r_v (q_is (v' := .bool false) (q_lss rfl rfl) (by congr 1; simpa using hjk)) rfl ?_
        refine r_v (q_moveB rfl) rfl ?_; (first | refine r_gd rfl rfl ?_ | refine r_gn rfl rfl rfl ?_ | refine r_gu rfl rfl ?_ | refine r_gd rfl (by assumption) ?_ | refine r_gn rfl (by assumption) rfl ?_); (first | refine r_gd rfl rfl ?_ | refine r_gn rfl rfl rfl ?_ | refine r_gu rfl rfl ?_ | refine r_gd rfl (by assumption) ?_ | refine r_gn rfl (by assumption) rfl ?_); (first | refine r_gd rfl rfl ?_ | refine r_gn rfl rfl rfl ?_ | refine r_gu rfl rfl ?_ | refine r_gd rfl (by assumption) ?_ | refine r_gn rfl (by assumption) rfl ?_); (first | refine r_gd rfl rfl ?_ | refine r_gn rfl rfl rfl ?_ | refine r_gu rfl rfl ?_ | refine r_gd rfl (by assumption) ?_ | refine r_gn rfl (by assumption) rfl ?_); (first | refine r_v (q_pick1 rfl rfl rfl) rfl ?_ | refine r_v (q_pick0 rfl rfl rfl) rfl ?_ | refine r_v (q_pick1 rfl (by assumption) rfl) rfl ?_ | refine r_v (q_pick0 rfl (by assumption) rfl) rfl ?_ | refine r_v (q_pickB rfl rfl rfl) rfl ?_)
        refine r_nil (c_false rfl ?_)
        have hjm : j = m := by omega
        refine c_exit ?_
        refine c_region ?_
        refine r_v (q_add rfl rfl) rfl ?_
        refine r_is (.int .i64 ((i + 1 : Nat) : Int)) (by rw [wrap64 (by omega) (by omega)]; rfl) ?_
        refine r_v (q_moveI rfl) rfl ?_
        refine r_nil ⟨(i + 1, out ++ unpackW y kd.2 j, oa, oc), ⟨rfl, rfl, rfl, rfl, rfl, rfl, rfl, trivial⟩, ⟨hlt, by rw [hul]; omega, fun z hz => ?_, ?_, (h.drop.f 1)⟩, by dsimp only; omega⟩
        · rcases List.mem_append.1 hz with hz | hz
          · exact hout z hz
          · obtain ⟨q, _, rfl⟩ := List.mem_map.1 hz
            exact Nat.lt_trans (Nat.mod_lt _ (Nat.two_pow_pos _)) (pow_le_64 hk2)
        · rw [inv, hul, hjm, Nat.sub_sub]
          congr 1
          funext r
          simp
    clear h
    rintro _ w e ⟨hjm, h⟩
    have hjb : j * kd.2 ≤ 60 := by
      have h1 : j * kd.2 ≤ kd.1 * kd.2 := Nat.mul_le_mul_right _ (by omega)
      rw [Nat.mul_comm kd.1] at h1
      omega
    have hp := pow_le_64 hk2
    have hp0 := Nat.two_pow_pos kd.2
    have hstep := unpackW_succ y kd.2 j
    have hul1 : (out ++ unpackW y kd.2 (j + 1)).length = out.length + (j + 1) := by rw [List.length_append, unpackW_len]
    have hyd : y / 2 ^ (j * kd.2) < 18446744073709551616 := Nat.lt_of_le_of_lt (Nat.div_le_self _ _) (by omega)
    refine c_cut (Γ := Option Addr × Nat) (fun q => [(0, .slice sl ws.length c), (1, .int .i64 n), (6, .slice (some ⟨kb, 0, none⟩) 16 16), (7, .slice q.1 (out ++ unpackW y kd.2 (j + 1)).length q.2), (9, .int .u64 y), (10, .pointer (some ⟨b10, 0, none⟩)), (11, .int .i64 j), (18, .slice sl ws.length c), (19, .int .i64 ws.length), (20, .int .i64 i)])
      (fun q w => St w0 (pt b10 (.cells (kindC kd).toArray 150 (0, 0)) :: OwnU q.1 q.2 (out ++ unpackW y kd.2 (j + 1)) :: KindsPt kb :: l) w) ?_ ?_
    · refine c_block ?_
      refine c_anyW [0, 1, 2, 3, 4, 5, 6, 7, 8, 9, 10, 11, 12, 13, 14] none (fun w => w.heap[b10]? = some (.cells (kindC kd).toArray 150 (0, 0))) (by kernel_rfl) (by kernel_rfl) ?_
      replace h := h.drew
      generalize w.drew = w at h
      have hs := h
      replace h := hs.b 0 rfl
      refine cur_pure rfl rfl rfl rfl (fun _ => h) (fun _ => flt_v rfl (q_moveS rfl)) ?_; refine cur_pure rfl rfl rfl rfl (fun _ => h) (fun _ => flt_v rfl (q_moveI rfl)) ?_; refine cur_pure rfl rfl rfl rfl (fun _ => h) (fun _ => flt_v rfl (q_moveI rfl)) ?_; refine cur_pure rfl rfl rfl rfl (fun _ => h) (fun _ => flt_v rfl (q_fa rfl)) ?_
      refine cur_float rfl rfl rfl rfl h (fun w h => flt_v rfl (q_load (v := .int .i64 kd.2) rfl h rfl)) ?_
      refine cur_pure rfl rfl rfl rfl (fun _ => h) (fun _ => flt_v rfl (q_is (v' := .int .i64 ((j * kd.2 : Nat) : Int)) (q_mul rfl rfl) (by rw [← Int.natCast_mul, wrap64 (by omega) (by omega)]))) ?_
      refine cur_pure rfl rfl rfl rfl (fun _ => h) (fun _ => flt_v rfl (q_is (v' := .int .u64 ((y / 2 ^ (j * kd.2) : Nat) : Int)) (q_shr rfl rfl (by omega)) (congrArg (Value.int .u64) (fdiv_nat y (j * kd.2) 64 (by omega))))) ?_
      refine cur_pure rfl rfl rfl rfl (fun _ => h) (fun _ => flt_v rfl (q_fa rfl)) ?_
      refine cur_float rfl rfl rfl rfl h (fun w h => flt_v rfl (q_load (v := .int .i64 kd.2) rfl h rfl)) ?_
      refine cur_pure rfl rfl rfl rfl (fun _ => h) (fun _ => flt_v rfl (q_is (v' := .int .u64 ((2 ^ kd.2 : Nat) : Int)) (q_shl rfl rfl (by omega)) (congrArg (Value.int .u64) ((shl_u64 1 kd.2 (by omega)).trans (by rw [Nat.one_mul, Nat.mod_eq_of_lt hp]))))) ?_
      refine cur_pure rfl rfl rfl rfl (fun _ => h) (fun _ => flt_v rfl (q_is (v' := .int .u64 ((2 ^ kd.2 - 1 : Nat) : Int)) (q_sub rfl rfl) (by rw [show (((2 ^ kd.2 : Nat) : Int) - 1) = ((2 ^ kd.2 - 1 : Nat) : Int) by omega, wrap_u64, Nat.mod_eq_of_lt (by omega)]))) ?_
      refine cur_pure rfl rfl rfl rfl (fun _ => h) (fun _ => flt_v rfl (q_is (v' := .int .u64 ((y / 2 ^ (j * kd.2) % 2 ^ kd.2 : Nat) : Int)) (q_and rfl rfl) (congrArg (Value.int .u64) (((bit_u64 hyd (by omega)).1).trans (by rw [Nat.and_two_pow_sub_one_eq_mod]))))) ?_
      generalize y / 2 ^ (j * kd.2) % 2 ^ kd.2 = z at hstep
      refine cur_skip ?_; refine cur_skip ?_; refine cur_skip ?_
      refine cur_one 12 rfl rfl rfl rfl ?_
      refine (x_bslice (r := u64V [z]) hs rfl rfl rfl fun b2 w hs => ?_)
      replace h := hs.b 1 rfl
      refine ⟨fun _ => h, ?_⟩
      refine cur_skip ?_; refine cur_skip ?_
      refine cur_one 13 rfl rfl rfl rfl ?_
      refine (x_append' (ys := u64V [z]) (zs := u64V (out ++ unpackW y kd.2 (j + 1))) (m3 := (out ++ unpackW y kd.2 (j + 1)).length) (hs.f 2) rfl rfl ⟨rfl, .inr ⟨b2, 0, rfl, at_of (hs.b 0 rfl) rfl⟩⟩ (u64V_one _) (by rw [hstep]; simp; omega) (by rw [hstep]; simp [u64V]) (by rw [hul1]; omega) (by rw [hul1]; omega) rfl fun a2 c2 w _ hs => ?_)
      replace h := hs.b 2 rfl
      refine ⟨fun _ => h, ?_⟩
      refine cur_pure rfl rfl rfl rfl (fun _ => h) (fun _ => flt_v rfl (q_assignS rfl)) ?_
      exact cur_end ⟨(a2, c2), ⟨rfl, rfl, rfl, rfl, rfl, rfl, rfl, rfl, rfl, rfl, trivial⟩, ((hs.f 1).drop.f 1)⟩
    clear h
    rintro ⟨oa, oc⟩ w e h
    dsimp only at h ⊢
    refine c_region ?_
    refine r_v (q_moveI rfl) rfl ?_; refine r_v (q_add rfl rfl) rfl ?_
    refine r_is (.int .i64 ((j + 1 : Nat) : Int)) (by rw [wrap64 (by omega) (by omega)]; rfl) ?_
    refine r_v (q_assignI rfl) rfl ?_
    exact r_nil ⟨(j + 1, oa, oc), ⟨rfl, rfl, rfl, rfl, rfl, rfl, rfl, rfl, rfl, rfl, trivial⟩, ⟨hjm, h⟩, by dsimp only; omega⟩
  have hin : i = ws.length := by simp at hc; omega
  rw [hin, List.drop_length, simpDecA, Option.map_some, List.append_nil] at inv
  rw [inv] at hdef
  dsimp only at hdef
  refine c_exit ?_
  refine c_seq (c_seq (c_region ?_))
  refine r_v (q_moveS rfl) rfl ?_; refine r_v (q_len rfl) rfl ?_; refine r_v (q_moveI rfl) rfl ?_; refine r_v (q_neq rfl rfl) rfl ?_
  by_cases hon : out.length = n
  · refine r_is (.bool false) (by rw [hon]; simp) ?_
    refine r_nil (c_false rfl (c_skip ?_))
    refine c_seq (c_region ?_)
    refine r_v (q_moveS rfl) rfl ?_
    replace h := h.f 1
    refine r_c rfl (x_call rfl (simp_Encode hout (by omega) h.own_cases.2.1 Reads.own h) ?_)
    rintro _ w ⟨ea, ec, rfl, h⟩
    refine r_v (q_moveT rfl) rfl ?_; refine r_v (q_ext rfl rfl) rfl ?_; refine r_v (q_ext rfl rfl) rfl ?_; refine r_v (q_assignS rfl) rfl ?_; refine r_v (q_assignB rfl) rfl ?_
    refine r_nil ?_
    refine c_cut (Γ := Unit) (fun _ => [(7, .slice oa out.length oc)]) (fun _ w => simpEnc out = some ws ∧ St w0 (OwnU oa oc out :: l) w) ?_ ?_
    · refine c_seq (c_region ?_)
      cases hE : simpEnc out with
      | none =>
        refine r_v (q_moveB rfl) rfl ?_; refine r_v (q_not rfl) rfl ?_; refine r_v (q_moveB rfl) rfl ?_; (first | refine r_gd rfl rfl ?_ | refine r_gn rfl rfl rfl ?_ | refine r_gu rfl rfl ?_ | refine r_gd rfl (by assumption) ?_ | refine r_gn rfl (by assumption) rfl ?_); (first | refine r_gd rfl rfl ?_ | refine r_gn rfl rfl rfl ?_ | refine r_gu rfl rfl ?_ | refine r_gd rfl (by assumption) ?_ | refine r_gn rfl (by assumption) rfl ?_); (first | refine r_gd rfl rfl ?_ | refine r_gn rfl rfl rfl ?_ | refine r_gu rfl rfl ?_ | refine r_gd rfl (by assumption) ?_ | refine r_gn rfl (by assumption) rfl ?_); (first | refine r_gd rfl rfl ?_ | refine r_gn rfl rfl rfl ?_ | refine r_gu rfl rfl ?_ | refine r_gd rfl (by assumption) ?_ | refine r_gn rfl (by assumption) rfl ?_); (first | refine r_v (q_pick1 rfl rfl rfl) rfl ?_ | refine r_v (q_pick0 rfl rfl rfl) rfl ?_ | refine r_v (q_pick1 rfl (by assumption) rfl) rfl ?_ | refine r_v (q_pick0 rfl (by assumption) rfl) rfl ?_ | refine r_v (q_pickB rfl rfl rfl) rfl ?_)
        refine r_nil (c_true rfl ?_)
        refine c_seq (c_region ?_)
        refine r_v (q_assignS rfl) rfl ?_; refine r_v (q_assignB rfl) rfl ?_
        refine r_nil ?_
        exact c_ret (bq2 (bad (by rw [hdef, if_neg]; rintro ⟨_, hh⟩; rw [hE] at hh; cases hh) h.drop.drop.drop))
      | some d =>
        rw [hE] at h
        refine r_v (q_moveB rfl) rfl ?_; refine r_v (q_not rfl) rfl ?_; refine r_v (q_moveB rfl) rfl ?_; (first | refine r_gd rfl rfl ?_ | refine r_gn rfl rfl rfl ?_ | refine r_gu rfl rfl ?_ | refine r_gd rfl (by assumption) ?_ | refine r_gn rfl (by assumption) rfl ?_); refine r_v (q_moveS rfl) rfl ?_; (first | refine r_gd rfl rfl ?_ | refine r_gn rfl rfl rfl ?_ | refine r_gu rfl rfl ?_ | refine r_gd rfl (by assumption) ?_ | refine r_gn rfl (by assumption) rfl ?_); refine r_v (q_moveS rfl) rfl ?_; (first | refine r_gd rfl rfl ?_ | refine r_gn rfl rfl rfl ?_ | refine r_gu rfl rfl ?_ | refine r_gd rfl (by assumption) ?_ | refine r_gn rfl (by assumption) rfl ?_)
        refine r_c rfl (x_call rfl (slices_Equal (u1 := d) (u2 := ws) (by have := h.own_cases.2.1; have := (simpEnc_len (u := out)).1; rw [hE] at this; exact Nat.le_trans this (by omega)) h Reads.own (hr.more [_, _, _])) ?_)
        rintro _ w ⟨rfl, h⟩
        (first | refine r_gd rfl rfl ?_ | refine r_gn rfl rfl rfl ?_ | refine r_gu rfl rfl ?_ | refine r_gd rfl (by assumption) ?_ | refine r_gn rfl (by assumption) rfl ?_); refine r_v (q_not rfl) rfl ?_; (first | refine r_v (q_pick1 rfl rfl rfl) rfl ?_ | refine r_v (q_pick0 rfl rfl rfl) rfl ?_ | refine r_v (q_pick1 rfl (by assumption) rfl) rfl ?_ | refine r_v (q_pick0 rfl (by assumption) rfl) rfl ?_ | refine r_v (q_pickB rfl rfl rfl) rfl ?_)
        refine r_nil (c_cond (!decide (d = ws)) rfl (fun hc1 => ?_) (fun hc1 => ?_))
        · refine c_seq (c_region ?_)
          refine r_v (q_assignS rfl) rfl ?_; refine r_v (q_assignB rfl) rfl ?_
          refine r_nil ?_
          exact c_ret (bq2 (bad (by rw [hdef, if_neg]; rintro ⟨_, hh⟩; rw [hE] at hh; cases hh; simp at hc1) h.drop.drop.drop))
        · exact c_skip ⟨(), ⟨rfl, trivial⟩, by simpa using hc1, (h.drop.f 1).drop⟩
    clear h
    rintro _ w e ⟨hE, h⟩
    refine c_seq (c_region ?_)
    refine r_v (q_moveS rfl) rfl ?_; refine r_v (q_assignS rfl) rfl ?_; refine r_v (q_assignB rfl) rfl ?_
    refine r_nil ?_
    exact c_ret (bq2 ⟨oa, oc, out, true, rfl, by rw [hdef, if_pos ⟨hon, hE⟩]; rfl, fun _ => ⟨hon, hout⟩, (fun h => by cases h), h⟩)
  · refine r_is (.bool true) (by congr 1; rw [bne_iff_ne]; omega) ?_
    refine r_nil (c_true rfl ?_)
    refine c_seq (c_region ?_)
    refine r_v (q_assignS rfl) rfl ?_; refine r_v (q_assignB rfl) rfl ?_
    refine r_nil ?_
    exact c_ret (bq2 (bad (by rw [hdef, if_neg]; rintro ⟨hh, _⟩; exact hon hh) h.drop.drop))
end
end Go.Proofs.YtjjacchnalemaaaDoor
