/- What the proof of WorkOwn needs, part 6: plain lemmas, and what each function does. -/
import Derived.Test.YtjjacchnalemaaaGreatDoorQWorkOwne
namespace Go.Proofs.YtjjacchnalemaaaGreatDoor
open Go.Hw
set_option maxHeartbeats 4000000
set_option maxRecDepth 100000
section
variable {w0 w : World} {l : List HProp}
theorem valsOf_get {L : List Smp} (hw : ∀ s ∈ L, s.Wf) {k : Nat} {s : Smp} (h : L[k]? = some s) : s.V = ((s.V.toNat : Nat) : Int) := by
 have := hw s (List.mem_of_getElem? h)
 obtain ⟨_, h2, _⟩ := this
 omega
theorem ref10_values {sl : Option Addr} {c : Nat} {L : List Smp} (hw : ∀ s ∈ L, s.Wf) (hn : L.length ≤ 65535) (hr : Reads w0 l 2 sl L.length (smpsV L)) (h : St w0 l w) :
  Ret Tryz.prog 39 [.slice sl L.length c] w fun v w' => ∃ a c', v = .slice a (valsOf L).length c' ∧ (valsOf L).length ≤ c' ∧ St w0 (OwnU a c' (valsOf L) :: l) w' := by
 refine enter Tryz.func39 rfl Tryz.results39 Tryz.ntmps39 rfl ?_
 refine c_seq (c_region ?_)
 refine r_v (q_assignS rfl) rfl ?_
 refine r_nil ?_
 refine c_seq (c_region ?_)
 refine r_v (q_assignS rfl) rfl ?_
 refine r_nil ?_
 refine c_seq (c_seq (c_region ?_))
 refine r_v (q_assignI rfl) rfl ?_
 refine r_nil ?_
 refine c_block ?_
 refine c_loop (Γ := Nat × Option Addr × Nat) (fun k => [(0, .slice sl L.length c), (3, .slice k.2.1 (valsOf (L.take k.1)).length k.2.2), (4, .int .i64 k.1)])
  (fun k w => k.1 ≤ L.length ∧ St w0 (OwnU k.2.1 k.2.2 (valsOf (L.take k.1)) :: l) w) (fun k => L.length - k.1) (0, none, 0) ⟨rfl, rfl, rfl, trivial⟩ ⟨Nat.zero_le _, St.ownNil 51 1 h⟩ ?_
 clear h
 rintro ⟨k, oa, oc⟩ w e ⟨hk, h⟩
 dsimp only at hk h ⊢
 refine c_seq (c_seq (c_region ?_))
 refine r_v (q_moveI rfl) rfl ?_; refine r_v (q_moveS rfl) rfl ?_; refine r_v (q_len rfl) rfl ?_; refine r_v (q_lss rfl rfl) rfl ?_
 refine r_nil ?_
 refine c_cond (decide ((k : Int) < (L.length : Int))) rfl (fun hc => ?_) (fun hc => ?_)
 ·have hlt : k < L.length := by simp at hc; omega
  have hg := List.getElem?_eq_getElem hlt
  generalize L[k] = s at hg
  have hsv := valsOf_get hw hg
  have hvl : (valsOf (L.take k)).length = k := by unfold valsOf; simp; omega
  have hvs : valsOf (L.take (k + 1)) = valsOf (L.take k) ++ [s.V.toNat] := by rw [List.take_add_one, hg]; simp [valsOf]
  obtain ⟨b, o, hsl⟩ := (hr.cons.at_ h).some (by omega)
  refine c_skip ?_
  refine c_seq (c_block ?_)
  refine c_region ?_
  refine r_v (q_moveS rfl) rfl ?_; refine r_v (q_moveS rfl) rfl ?_; refine r_v (q_moveI rfl) rfl ?_
  refine r_v (q_idx (b := b) (o := o) (m := L.length) (c := c) (o' := o + k * 2) (by rw [← hsl]; rfl) rfl rfl hlt rfl) rfl ?_
  refine r_v (q_fa rfl) rfl ?_
  refine r_v (q_loadc (v := .int .u64 (s.V.toNat : Int)) rfl (by rw [← hsv]; exact (hsl ▸ hr.cons.at_ h).elem smp_len hg 1 _ rfl)) rfl ?_
  refine r_app1 (v := .int .u64 (s.V.toNat : Int)) (m3 := (valsOf (L.take (k + 1))).length) (zs := u64V (valsOf (L.take (k + 1)))) h rfl rfl rfl rfl rfl (by rw [hvs]; simp) (by rw [hvs]; simp [u64V, vcells]) (by rw [hvs]; simp; omega) (by rw [hvs]; simp; omega) rfl rfl rfl rfl rfl fun b a' c' w _ h => ?_
  refine r_v (q_assignS rfl) rfl ?_
  refine r_nil ?_
  refine c_region ?_
  refine r_v (q_moveI rfl) rfl ?_; refine r_v (q_add rfl rfl) rfl ?_
  refine r_is (.int .i64 ((k + 1 : Nat) : Int)) (by rw [wrap64 (by omega) (by omega)]; rfl) ?_
  refine r_v (q_assignI rfl) rfl ?_
  exact r_nil ⟨(k + 1, a', c'), ⟨rfl, rfl, rfl, trivial⟩, ⟨hlt, h⟩, by dsimp only; omega⟩
 ·obtain rfl : k = L.length := by simp at hc; omega
  rw [List.take_length] at h
  refine c_exit ?_
  refine c_seq (c_region ?_)
  refine r_v (q_moveS rfl) rfl ?_; refine r_v (q_assignS rfl) rfl ?_
  refine r_nil (c_ret (bq1 ⟨oa, oc, ?_, h.own_cases.2.1, h⟩))
  show Value.slice oa (valsOf (L.take L.length)).length oc = _
  rw [List.take_length]
theorem ref10_steps {sl : Option Addr} {c : Nat} {u : List Nat} (hu : ∀ x ∈ u, x < 18446744073709551616) (hn : u.length ≤ 65535) (hr : Reads w0 l 1 sl u.length (u64V u)) (h : St w0 l w) :
  Ret Tryz.prog 75 [.slice sl u.length c] w fun v w' => ∃ a c', v = .slice a (stepsL 0 u).length c' ∧ (stepsL 0 u).length ≤ c' ∧ St w0 (OwnU a c' (stepsL 0 u) :: l) w' := by
 refine enter Tryz.func75 rfl Tryz.results75 Tryz.ntmps75 rfl ?_
 refine c_seq (c_region ?_)
 refine r_v (q_assignS rfl) rfl ?_
 refine r_nil ?_
 refine c_seq (c_region ?_)
 refine r_v (q_assignS rfl) rfl ?_
 refine r_nil ?_
 refine c_seq (c_region ?_)
 refine r_v (q_assignI rfl) rfl ?_
 refine r_nil ?_
 refine c_seq (c_seq (c_region ?_))
 refine r_v (q_assignI rfl) rfl ?_
 refine r_nil ?_
 refine c_block ?_
 refine c_loop (Γ := Nat × Nat × List Nat × Option Addr × Nat) (fun k => [(0, .slice sl u.length c), (3, .slice k.2.2.2.1 k.2.2.1.length k.2.2.2.2), (4, .int .u64 k.2.1), (5, .int .i64 k.1)])
  (fun k w => k.1 ≤ u.length ∧ k.2.1 < 18446744073709551616 ∧ k.2.2.1.length = k.1 ∧ k.2.2.1 ++ stepsL k.2.1 (u.drop k.1) = stepsL 0 u ∧ St w0 (OwnU k.2.2.2.1 k.2.2.2.2 k.2.2.1 :: l) w) (fun k => u.length - k.1) (0, 0, [], none, 0) ⟨rfl, rfl, rfl, rfl, trivial⟩ ⟨Nat.zero_le _, (by decide : (0 : Nat) < 18446744073709551616), rfl, rfl, St.ownNil _ _ h⟩ ?_
 clear h
 rintro ⟨i, was, out, a, c1⟩ w e ⟨hi, hw, hol, he, h⟩
 dsimp only at hi hw hol he h ⊢
 refine c_seq (c_seq (c_region ?_))
 refine r_v (q_moveI rfl) rfl ?_; refine r_v (q_moveS rfl) rfl ?_; refine r_v (q_len rfl) rfl ?_; refine r_v (q_lss rfl rfl) rfl ?_
 refine r_nil ?_
 refine c_cond (decide ((i : Int) < (u.length : Int))) rfl (fun hc => ?_) (fun hc => ?_)
 ·have hlt : i < u.length := by simp at hc; omega
  have hg := List.getElem?_eq_getElem hlt
  have hdr := List.drop_eq_getElem_cons hlt
  generalize u[i] = x at hg hdr
  have hx := hu x (List.mem_of_getElem? hg)
  have hd : diff x was < 18446744073709551616 := Nat.mod_lt _ (by decide)
  rw [hdr, stepsL] at he
  obtain ⟨b, o, hsl⟩ := (hr.cons.at_ h).some (by omega)
  refine c_skip ?_
  refine c_seq (c_block ?_)
  refine c_seq (c_region ?_)
  refine r_v (q_moveS rfl) rfl ?_; refine r_v (q_moveS rfl) rfl ?_; refine r_v (q_moveI rfl) rfl ?_
  refine r_v (q_idx (b := b) (o := o) (m := u.length) (c := c) (o' := o + i) (by rw [← hsl]; rfl) rfl rfl hlt (by simp)) rfl ?_
  refine r_v (q_loadc (v := .int .u64 x) rfl ((hsl ▸ hr.cons.at_ h).cell (u64V_get hg))) rfl ?_
  refine r_v (q_moveI rfl) rfl ?_; refine r_v (q_sub rfl rfl) rfl ?_
  refine r_is (.int .u64 (diff x was : Nat)) (by rw [wrap_diff hw]) ?_
  refine r_v (q_conv rfl) rfl ?_
  refine r_is (.int .i64 (sg (diff x was))) (by rw [wrap_sg hd]) ?_
  refine r_c rfl (x_call rfl (ref1_Zig (sg_wf hd) h) ?_)
  rintro _ w ⟨rfl, h⟩
  rw [show zigT (sg (diff x was)) = zigU (diff x was) by unfold zigT; rw [us_sg hd]]
  refine r_app1 (v := .int .u64 (zigU (diff x was) : Nat)) (m3 := (out ++ [zigU (diff x was)]).length) (zs := u64V (out ++ [zigU (diff x was)])) h rfl rfl rfl rfl rfl (by simp) (by simp [u64V, vcells]) (by simp; omega) (by simp; omega) rfl rfl rfl rfl rfl fun b2 a2 c2 w _ h => ?_
  refine r_v (q_assignS rfl) rfl ?_
  refine r_nil ?_
  refine c_region ?_
  refine r_v (q_moveS rfl) rfl ?_; refine r_v (q_moveI rfl) rfl ?_
  refine r_v (q_idx (b := b) (o := o) (m := u.length) (c := c) (o' := o + i) (by rw [← hsl]; rfl) rfl rfl hlt (by simp)) rfl ?_
  refine r_v (q_loadc (v := .int .u64 x) rfl ((hsl ▸ hr.cons.at_ h).cell (u64V_get hg))) rfl ?_
  refine r_v (q_assignI rfl) rfl ?_
  refine r_nil ?_
  refine c_region ?_
  refine r_v (q_moveI rfl) rfl ?_; refine r_v (q_add rfl rfl) rfl ?_
  refine r_is (.int .i64 ((i + 1 : Nat) : Int)) (by rw [wrap64 (by omega) (by omega)]; rfl) ?_
  refine r_v (q_assignI rfl) rfl ?_
  refine r_nil ⟨(i + 1, x, out ++ [zigU (diff x was)], a2, c2), ⟨rfl, rfl, rfl, rfl, trivial⟩, ⟨hlt, hx, by simp; omega, ?_, h⟩, by dsimp only; omega⟩
  rw [← he]; simp
 ·have hin : i = u.length := by simp at hc; omega
  rw [hin, List.drop_length, stepsL, List.append_nil] at he
  refine c_exit ?_
  refine c_seq (c_region ?_)
  refine r_v (q_moveS rfl) rfl ?_; refine r_v (q_assignS rfl) rfl ?_
  refine r_nil ?_
  rw [← he]
  exact c_ret (bq1 ⟨a, c1, rfl, h.own_cases.2.1, h⟩)
abbrev TellV (tag : Int) (u : List Nat) (l : List HProp) (w0 : World) (v : Value) (w' : World) : Prop := ∃ a c', v = .tuple [.slice a ((valuesEnc tag u).getD []).length c', .bool (valuesEnc tag u).isSome].toArray ∧ St w0 (OwnB a c' ((valuesEnc tag u).getD []) :: l) w'
theorem ref10_told (tag : Int) {sl : Option Addr} {c : Nat} {u : List Nat} (hu : ∀ x ∈ u, x < 18446744073709551616) (hn : u.length ≤ 65535) (hr : Reads w0 l 1 sl u.length (u64V u)) (h : St w0 l w) :
  Ret Tryz.prog 38 [.int .i64 tag, .slice sl u.length c] w fun v w' => TellV tag u l w0 v w' := by
 refine enter Tryz.func38 rfl Tryz.results38 Tryz.ntmps38 rfl ?_
 refine c_seq (c_region ?_)
 refine r_v (q_assignS rfl) rfl ?_; refine r_v (q_assignB rfl) rfl ?_
 refine r_nil ?_
 refine c_seq (c_seq (c_region ?_))
 refine r_v (q_moveI rfl) rfl ?_
 refine r_nil ?_
 refine c_block ?_
 refine c_seq (c_region ?_)
 refine r_v (q_eql rfl rfl) rfl ?_; refine r_v (q_assignB rfl) rfl ?_
 refine r_nil ?_
 refine c_cond (tag == 1) rfl (fun hc => ?_) (fun hc1 => ?_)
 ·have hv : valuesEnc tag u = some (pack (xorBits u)) := by unfold valuesEnc; rw [if_pos (by simpa using hc)]
  have hxl := xorBits_len u
  unfold TellV
  rw [hv]
  refine c_seq (c_region ?_)
  refine r_v (q_build (r := [.slice none 0 0]) rfl) rfl ?_
  refine r_c rfl (x_box h (show _ = Value.agg [.slice none 0 0].toArray from rfl) fun p w h => ?_)
  replace h : St w0 (IsRW p [] :: l) w := St.rw_new h
  refine r_v (q_assignP rfl) rfl ?_
  refine r_nil ?_
  refine c_seq (c_region ?_)
  refine r_v (q_moveP rfl) rfl ?_; refine r_v (q_moveS rfl) rfl ?_
  refine r_c rfl (x_call rfl (ref4_Values hu hn (by decide) h hr) ?_)
  rintro _ w ⟨rfl, h⟩
  rw [List.nil_append] at h
  refine r_nil ?_
  refine c_seq (c_region ?_)
  refine r_v (q_moveP rfl) rfl ?_
  refine r_c rfl (x_call rfl (rw_Bytes (by omega) h) ?_)
  rintro _ w ⟨a, c', rfl, h⟩
  refine r_v (q_assignS rfl) rfl ?_; refine r_v (q_assignB rfl) rfl ?_
  exact r_nil (c_ret (bq2 ⟨a, c', rfl, (h.f 1).drop⟩))
 have hn1 : ¬ tag = 1 := by simpa using hc1
 refine c_seq (c_region ?_)
 refine r_v (q_eql rfl rfl) rfl ?_; refine r_v (q_assignB rfl) rfl ?_
 refine r_nil ?_
 refine c_cond (tag == 2) rfl (fun hc => ?_) (fun hc2 => ?_)
 ·have hv : valuesEnc tag u = (simpEnc (stepsL 0 u)).map bigL := by unfold valuesEnc; rw [if_neg hn1, if_pos (by simpa using hc)]
  have hsl := stepsL_len u 0
  have hslt := stepsL_lt u 0
  obtain ⟨hsl2, hsw⟩ := simpEnc_len (u := stepsL 0 u)
  obtain ⟨e1, e2⟩ := simp_big (simpEnc (stepsL 0 u))
  unfold TellV
  rw [hv, e1, e2]
  refine c_seq (c_region ?_)
  refine r_v (q_moveS rfl) rfl ?_
  refine r_c rfl (x_call rfl (ref10_steps hu hn hr h) ?_)
  rintro _ w ⟨sa, sc, rfl, hsc, h⟩
  refine r_c rfl (x_call rfl (ref4_Simple hslt (by omega) hsc Reads.own h) ?_)
  rintro _ w ⟨wa, wc, rfl, h⟩
  generalize (simpEnc (stepsL 0 u)).getD [] = ws at hsl2 hsw h ⊢
  generalize (simpEnc (stepsL 0 u)).isSome = ok
  replace h : St w0 (OwnU wa wc ws :: l) w := (h.f 1).drop
  clear hr
  refine r_v (q_moveT rfl) rfl ?_; refine r_v (q_ext rfl rfl) rfl ?_; refine r_v (q_ext rfl rfl) rfl ?_; refine r_v (q_assignS rfl) rfl ?_; refine r_v (q_assignB rfl) rfl ?_
  refine r_nil ?_
  refine c_seq (c_region ?_)
  refine r_v (q_assignS rfl) rfl ?_
  refine r_nil ?_
  refine c_seq (c_seq (c_region ?_))
  refine r_v (q_assignI rfl) rfl ?_
  refine r_nil ?_
  refine c_block ?_
  refine c_loop (Γ := Nat × Option Addr × Nat) (fun k => [(7, .slice wa ws.length wc), (8, .bool ok), (9, .slice k.2.1 (bigL (ws.take k.1)).length k.2.2), (10, .int .i64 k.1)])
   (fun k w => k.1 ≤ ws.length ∧ St w0 (OwnB k.2.1 k.2.2 (bigL (ws.take k.1)) :: OwnU wa wc ws :: l) w) (fun k => ws.length - k.1) (0, none, 0) ⟨rfl, rfl, rfl, rfl, trivial⟩ ⟨Nat.zero_le _, St.ownNil _ _ h⟩ ?_
  clear h
  rintro ⟨i, a, c1⟩ w e ⟨hi, h⟩
  dsimp only at hi h ⊢
  have hbl := bigL_len (ws.take i)
  rw [List.length_take, Nat.min_eq_left hi] at hbl
  refine c_seq (c_seq (c_region ?_))
  refine r_v (q_moveI rfl) rfl ?_; refine r_v (q_moveS rfl) rfl ?_; refine r_v (q_len rfl) rfl ?_; refine r_v (q_lss rfl rfl) rfl ?_
  refine r_nil ?_
  refine c_cond (decide ((i : Int) < (ws.length : Int))) rfl (fun hc => ?_) (fun hc => ?_)
  ·have hlt : i < ws.length := by simp at hc; omega
   have hg := List.getElem?_eq_getElem hlt
   generalize ws[i] = x at hg
   have hx := hsw x (List.mem_of_getElem? hg)
   obtain ⟨g, rfl⟩ := (h.f 1).own_some (by omega)
   have hstep : bigL (ws.take (i + 1)) = bigL (ws.take i) ++ be8 x := by
    unfold bigL
    rw [List.take_add_one, hg, List.flatMap_append]; simp
   rw [show Value.slice a (bigL (ws.take i)).length c1 = Value.slice a (bigL (ws.take i) ++ (be8 x).take 0).length c1 by simp]
   replace h : St w0 (OwnB a c1 (bigL (ws.take i) ++ (be8 x).take 0) :: OwnU (some ⟨g, 0, none⟩) wc ws :: l) w := by simpa using h
   generalize bigL (ws.take i) = base at hbl hstep h ⊢
   refine c_skip ?_
   refine c_seq (c_block ?_)
   refine c_seq (c_region ?_)
   refine r_v (q_assignI rfl) rfl ?_
   refine r_nil ?_
   refine c_block ?_
   refine c_loop (Γ := Nat × Option Addr × Nat) (fun k => [(7, .slice (some ⟨g, 0, none⟩) ws.length wc), (8, .bool ok), (9, .slice k.2.1 (base ++ (be8 x).take k.1).length k.2.2), (10, .int .i64 i), (11, .int .i64 (7 - (k.1 : Int)))])
    (fun k w => k.1 ≤ 8 ∧ St w0 (OwnB k.2.1 k.2.2 (base ++ (be8 x).take k.1) :: OwnU (some ⟨g, 0, none⟩) wc ws :: l) w) (fun k => 8 - k.1) (0, a, c1) ⟨rfl, rfl, rfl, rfl, rfl, trivial⟩ ⟨Nat.zero_le _, h⟩ ?_
   clear h
   rintro ⟨j, a, c1⟩ w e ⟨hj, h⟩
   dsimp only at hj h ⊢
   have hb8 : (be8 x).length = 8 := rfl
   refine c_seq (c_seq (c_region ?_))
   refine r_v (q_moveI rfl) rfl ?_; refine r_v (q_geq rfl rfl) rfl ?_
   by_cases hj8 : j < 8
   ·refine r_is (.bool true) (by simp; omega) ?_
    refine r_nil (c_true rfl (c_skip ?_))
    have hgj := be8_get x j hj8
    have htk : (be8 x).take (j + 1) = (be8 x).take j ++ [UInt8.ofNat (x / 2 ^ (8 * (7 - j)))] := by rw [List.take_add_one, hgj]; rfl
    have htl : ((be8 x).take j).length = j := by rw [List.length_take, hb8]; omega
    refine c_seq (c_block ?_)
    refine c_region ?_
    refine r_v (q_moveS rfl) rfl ?_; refine r_v (q_moveS rfl) rfl ?_; refine r_v (q_moveI rfl) rfl ?_
    refine r_v (q_idx (b := g) (o := 0) (m := ws.length) (c := wc) (o' := i) rfl rfl rfl hlt (by simp)) rfl ?_
    refine r_v (q_loadc (v := .int .u64 x) rfl (by have := (h.f 1).own_rd.cell (u64V_get hg); simpa using this)) rfl ?_
    refine r_v (q_moveI rfl) rfl ?_; refine r_v (q_mul rfl rfl) rfl ?_
    refine r_is (.int .i64 ((8 * (7 - j) : Nat) : Int)) (by rw [wrap64 (by omega) (by omega)]; congr 1; omega) ?_
    refine r_v (q_conv rfl) rfl ?_
    refine r_is (.int .u64 ((8 * (7 - j) : Nat) : Int)) (by rw [wrap_u64, Nat.mod_eq_of_lt (by omega)]) ?_
    refine r_v (q_is (v' := .int .u64 ((x / 2 ^ (8 * (7 - j)) : Nat) : Int)) (q_shr rfl rfl (by omega)) (congrArg (Value.int .u64) (fdiv_nat x (8 * (7 - j)) 64 (by omega)))) rfl ?_
    refine r_v (q_conv rfl) rfl ?_
    refine r_is (.int .u8 ((UInt8.ofNat (x / 2 ^ (8 * (7 - j)))).toNat : Int)) (by rw [wrap_u8, UInt8.toNat_ofNat']) ?_
    refine r_app1 (v := .int .u8 ((UInt8.ofNat (x / 2 ^ (8 * (7 - j)))).toNat : Int)) (m3 := (base ++ (be8 x).take (j + 1)).length) (zs := bytesV (base ++ (be8 x).take (j + 1))) h rfl rfl rfl rfl rfl (by rw [htk]; simp; omega) (by rw [htk]; simp [bytesV, vcells]) (by rw [htk]; simp; omega) (by rw [htk]; simp; omega) rfl rfl rfl rfl rfl fun b2 a2 c2 w _ h => ?_
    refine r_v (q_assignS rfl) rfl ?_
    refine r_nil ?_
    refine c_region ?_
    refine r_v (q_moveI rfl) rfl ?_; refine r_v (q_sub rfl rfl) rfl ?_
    refine r_is (.int .i64 (7 - ((j + 1 : Nat) : Int))) (by rw [wrap64 (by omega) (by omega)]; congr 1; omega) ?_
    refine r_v (q_assignI rfl) rfl ?_
    exact r_nil ⟨(j + 1, a2, c2), ⟨rfl, rfl, rfl, rfl, rfl, trivial⟩, ⟨hj8, h⟩, by dsimp only; omega⟩
   refine r_is (.bool false) (by simp; omega) ?_
   refine r_nil (c_false rfl ?_)
   have hjj : j = 8 := by omega
   subst hjj
   rw [show (be8 x).take 8 = be8 x from rfl, ← hstep] at h
   refine c_exit ?_
   refine c_region ?_
   refine r_v (q_moveI rfl) rfl ?_; refine r_v (q_add rfl rfl) rfl ?_
   refine r_is (.int .i64 ((i + 1 : Nat) : Int)) (by rw [wrap64 (by omega) (by omega)]; rfl) ?_
   refine r_v (q_assignI rfl) rfl ?_
   refine r_nil ⟨(i + 1, a, c1), ⟨rfl, rfl, ?_, rfl, trivial⟩, ⟨hlt, h⟩, by dsimp only; omega⟩
   show Value.slice _ _ _ = Value.slice _ _ _
   rw [hstep]; rfl
  ·have hin : i = ws.length := by simp at hc; omega
   rw [hin, List.take_length] at h
   refine c_exit ?_
   refine c_seq (c_region ?_)
   refine r_v (q_moveS rfl) rfl ?_; refine r_v (q_moveB rfl) rfl ?_; refine r_v (q_assignS rfl) rfl ?_; refine r_v (q_assignB rfl) rfl ?_
   refine r_nil (c_ret (bq2 ⟨a, c1, ?_, (h.f 1).drop⟩))
   show Value.tuple [Value.slice a (bigL (ws.take i)).length c1, _].toArray = _
   rw [hin, List.take_length]
   rfl
 have hn2 : ¬ tag = 2 := by simpa using hc2
 refine c_seq (c_region ?_)
 refine r_v (q_eql rfl rfl) rfl ?_; refine r_v (q_assignB rfl) rfl ?_
 refine r_nil ?_
 refine c_cond (tag == 3) rfl (fun hc => ?_) (fun hc3 => ?_)
 ·have hv : valuesEnc tag u = some (runsEnc u) := by unfold valuesEnc; rw [if_neg hn1, if_neg hn2, if_pos (by simpa using hc)]
  unfold TellV
  rw [hv]
  refine c_seq (c_region ?_)
  refine r_v (q_moveS rfl) rfl ?_
  refine r_c rfl (x_call rfl (ref4_Runs hu hn hr h) ?_)
  rintro _ w ⟨a, c', rfl, h⟩
  refine r_v (q_assignS rfl) rfl ?_; refine r_v (q_assignB rfl) rfl ?_
  exact r_nil (c_ret (bq2 ⟨a, c', rfl, h⟩))
 have hn3 : ¬ tag = 3 := by simpa using hc3
 refine c_seq (c_region ?_)
 refine r_v (q_eql rfl rfl) rfl ?_; refine r_v (q_assignB rfl) rfl ?_
 refine r_nil ?_
 refine c_cond (tag == 4) rfl (fun hc => ?_) (fun hc4 => ?_)
 ·have hv : valuesEnc tag u = some (frameEnc u) := by unfold valuesEnc; rw [if_neg hn1, if_neg hn2, if_neg hn3, if_pos (by simpa using hc)]
  unfold TellV
  rw [hv]
  refine c_seq (c_region ?_)
  refine r_v (q_moveS rfl) rfl ?_
  refine r_c rfl (x_call rfl (ref4_Frame hu hn hr h) ?_)
  rintro _ w ⟨a, c', rfl, h⟩
  refine r_v (q_assignS rfl) rfl ?_; refine r_v (q_assignB rfl) rfl ?_
  exact r_nil (c_ret (bq2 ⟨a, c', rfl, h⟩))
 have hn4 : ¬ tag = 4 := by simpa using hc4
 refine c_seq (c_region ?_)
 refine r_v (q_eql rfl rfl) rfl ?_; refine r_v (q_assignB rfl) rfl ?_
 refine r_nil ?_
 refine c_cond (tag == 5) rfl (fun hc => ?_) (fun hc5 => ?_)
 ·have hv : valuesEnc tag u = dictEnc u := by unfold valuesEnc; rw [if_neg hn1, if_neg hn2, if_neg hn3, if_neg hn4, if_pos (by simpa using hc)]
  unfold TellV
  rw [hv]
  refine c_seq (c_region ?_)
  refine r_v (q_moveS rfl) rfl ?_
  refine r_c rfl (x_call rfl (ref4_Dict hu hn hr h) ?_)
  rintro _ w ⟨a, c', rfl, h⟩
  refine r_v (q_ext rfl rfl) rfl ?_; refine r_v (q_ext rfl rfl) rfl ?_; refine r_v (q_assignS rfl) rfl ?_; refine r_v (q_assignB rfl) rfl ?_
  exact r_nil (c_ret (bq2 ⟨a, c', rfl, h⟩))
 have hn5 : ¬ tag = 5 := by simpa using hc5
 refine c_seq (c_region ?_)
 refine r_v (q_eql rfl rfl) rfl ?_; refine r_v (q_assignB rfl) rfl ?_
 refine r_nil ?_
 refine c_cond (tag == 6) rfl (fun hc => ?_) (fun hc6 => ?_)
 ·have hv : valuesEnc tag u = sameEnc u := by unfold valuesEnc; rw [if_neg hn1, if_neg hn2, if_neg hn3, if_neg hn4, if_neg hn5, if_pos (by simpa using hc)]
  unfold TellV
  rw [hv]
  refine c_seq (c_seq (c_region ?_))
  refine r_v (q_moveS rfl) rfl ?_; refine r_v (q_len rfl) rfl ?_; refine r_v (q_eql rfl rfl) rfl ?_
  cases u with
  | nil =>
   refine r_is (.bool true) rfl ?_
   refine r_nil (c_true rfl ?_)
   refine c_seq (c_region ?_)
   refine r_v (q_assignS rfl) rfl ?_; refine r_v (q_assignB rfl) rfl ?_
   exact r_nil (c_ret (bq2 ⟨none, 0, rfl, St.ownNil _ _ h⟩))
  | cons x r =>
  have hx := hu x (List.mem_cons_self ..)
  have hgx : (x :: r)[0]? = some x := rfl
  have hpos : 0 < (x :: r).length := by simp
  refine r_is (.bool false) (by simp; omega) ?_
  refine r_nil (c_false rfl (c_skip ?_))
  obtain ⟨b, o, hsl⟩ := (hr.at_ h).some hpos
  refine c_cut (Γ := Unit) (fun _ => [(1, .slice sl (x :: r).length c)]) (fun _ w => (r.all fun y => decide (y = x)) = true ∧ St w0 l w) ?_ ?_
  ·refine c_seq (c_region ?_)
   refine r_v (q_assignI rfl) rfl ?_
   refine r_nil ?_
   refine c_block ?_
   refine c_loop (Γ := Nat) (fun k => [(1, .slice sl (x :: r).length c), (12, .int .i64 k)]) (fun k w => k ≤ (x :: r).length ∧ (∀ y ∈ (x :: r).take k, y = x) ∧ St w0 l w) (fun k => (x :: r).length - k) 0 ⟨rfl, rfl, trivial⟩ ⟨Nat.zero_le _, (fun _ h => by cases h), h⟩ ?_
   clear h
   rintro k w e ⟨hk, hall, h⟩
   refine c_seq (c_seq (c_region ?_))
   refine r_v (q_moveI rfl) rfl ?_; refine r_v (q_moveS rfl) rfl ?_; refine r_v (q_len rfl) rfl ?_; refine r_v (q_lss rfl rfl) rfl ?_
   refine r_nil ?_
   refine c_cond (decide ((k : Int) < ((x :: r).length : Int))) rfl (fun hc => ?_) (fun hc => ?_)
   ·have hlt : k < (x :: r).length := by simp at hc ⊢; omega
    have hg := List.getElem?_eq_getElem hlt
    have hgm : (x :: r)[k] ∈ x :: r := List.getElem_mem _
    generalize (x :: r)[k] = y at hg hgm
    refine c_skip ?_
    refine c_seq (c_block ?_)
    refine c_seq (c_any none (fun w => St w0 l w) (by kernel_rfl) (by kernel_rfl) h.drew fun w h => ?_)
    refine cur_pure rfl rfl rfl rfl (fun _ => h) (fun _ => flt_v rfl (q_moveS rfl)) ?_; refine cur_pure rfl rfl rfl rfl (fun _ => h) (fun _ => flt_v rfl (q_moveI rfl)) ?_
    refine cur_pure rfl rfl rfl rfl (fun _ => h) (fun _ => flt_v rfl (q_idx (b := b) (o := o) (m := (x :: r).length) (c := c) (o' := o + k) (by rw [← hsl]; rfl) rfl rfl hlt (by simp))) ?_
    refine cur_float rfl rfl rfl rfl h (fun w h => flt_v rfl (q_loadc (v := .int .u64 y) rfl ((hsl ▸ hr.at_ h).cell (u64V_get hg)))) ?_
    refine cur_pure rfl rfl rfl rfl (fun _ => h) (fun _ => flt_v rfl (q_moveS rfl)) ?_
    refine cur_pure rfl rfl rfl rfl (fun _ => h) (fun _ => flt_v rfl (q_idx (b := b) (o := o) (m := (x :: r).length) (c := c) (j := 0) (o' := o + 0) (by rw [← hsl]; rfl) rfl rfl hpos (by simp))) ?_
    refine cur_float rfl rfl rfl rfl h (fun w h => flt_v rfl (q_loadc (v := .int .u64 x) rfl ((hsl ▸ hr.at_ h).cell (u64V_get hgx)))) ?_
    refine cur_pure rfl rfl rfl rfl (fun _ => h) (fun _ => flt_v rfl (q_neq rfl rfl)) ?_
    refine cur_end ?_
    refine c_cond ((y : Int) != (x : Int)) rfl (fun hc => ?_) (fun hc => ?_)
    ·have hyx : y ≠ x := by rw [bne_iff_ne] at hc; omega
     have e1 : sameEnc (x :: r) = none := by
      rw [sameEnc, if_neg]
      intro hh
      rcases List.mem_cons.1 hgm with h1 | h1
      ·exact hyx h1
      ·exact hyx (by simpa using List.all_eq_true.1 hh y h1)
     rw [e1]
     refine c_seq (c_region ?_)
     refine r_v (q_assignS rfl) rfl ?_; refine r_v (q_assignB rfl) rfl ?_
     exact r_nil (c_ret (bq2 ⟨none, 0, rfl, St.ownNil _ _ h⟩))
    ·have hyx : y = x := by rw [bne_eq_false_iff_eq] at hc; omega
     refine c_skip ?_
     refine c_region ?_
     refine r_v (q_moveI rfl) rfl ?_; refine r_v (q_add rfl rfl) rfl ?_
     refine r_is (.int .i64 ((k + 1 : Nat) : Int)) (by rw [wrap64 (by omega) (by omega)]; rfl) ?_
     refine r_v (q_assignI rfl) rfl ?_
     refine r_nil ⟨k + 1, ⟨rfl, rfl, trivial⟩, ⟨hlt, fun z hz => ?_, h⟩, by omega⟩
     rw [List.take_add_one, hg] at hz
     rcases List.mem_append.1 hz with hz | hz
     ·exact hall z hz
     ·have : z = y := by simpa using hz
      rw [this, hyx]
   ·obtain rfl : k = (x :: r).length := by simp at hc hk ⊢; omega
    rw [List.take_length] at hall
    refine c_exit ⟨(), ⟨rfl, trivial⟩, ?_, h⟩
    exact List.all_eq_true.2 fun y hy => by simpa using hall y (List.mem_cons_of_mem _ hy)
  clear h
  rintro ⟨⟩ w e ⟨hall, h⟩
  rw [sameEnc, if_pos hall]
  refine c_seq (c_region ?_)
  refine r_v (q_moveS rfl) rfl ?_
  refine r_v (q_idx (b := b) (o := o) (m := (x :: r).length) (c := c) (j := 0) (o' := o + 0) (by rw [← hsl]; rfl) rfl rfl hpos (by simp)) rfl ?_
  refine r_v (q_loadc (v := .int .u64 x) rfl ((hsl ▸ hr.at_ h).cell (u64V_get hgx))) rfl ?_
  refine r_c rfl (x_call rfl (ref1_Put (bs := []) x hx h (fun w' h' => Reads.nil.at_ h') (by simp)) ?_)
  rintro _ w ⟨a1, c1, rfl, h⟩
  rw [List.nil_append] at h ⊢
  refine r_v (q_assignS rfl) rfl ?_; refine r_v (q_assignB rfl) rfl ?_
  exact r_nil (c_ret (bq2 ⟨a1, c1, rfl, h⟩))
 have hn6 : ¬ tag = 6 := by simpa using hc6
 have hv : valuesEnc tag u = none := by unfold valuesEnc; rw [if_neg hn1, if_neg hn2, if_neg hn3, if_neg hn4, if_neg hn5, if_neg hn6]
 unfold TellV
 rw [hv]
 refine c_skip ?_
 refine c_seq (c_region ?_)
 refine r_v (q_assignS rfl) rfl ?_; refine r_v (q_assignB rfl) rfl ?_
 exact r_nil (c_ret (bq2 ⟨none, 0, rfl, St.ownNil _ _ h⟩))
theorem ref10_Rising {sl : Option Addr} {c : Nat} {L : List Smp} (hn : L.length ≤ 1073741824) (hr : Reads w0 l 2 sl L.length (smpsV L)) (h : St w0 l w) :
  Ret Tryz.prog 9 [.slice sl L.length c] w fun v w' => v = .bool (rising L) ∧ St w0 l w' := by
 refine enter Tryz.func9 rfl Tryz.results9 Tryz.ntmps9 rfl ?_
 refine c_seq (c_region ?_)
 refine r_v (q_assignB rfl) rfl ?_
 refine r_nil ?_
 refine c_seq (c_seq (c_region ?_))
 refine r_v (q_assignI rfl) rfl ?_
 refine r_nil ?_
 refine c_block ?_
 refine c_loop (Γ := Nat) (fun k => [(0, .slice sl L.length c), (3, .int .i64 ((k + 1 : Nat) : Int))]) (fun k w => (L = [] ∨ (k < L.length ∧ ∀ s, L[k]? = some s → rises L = risesA s.T (L.drop (k + 1)))) ∧ St w0 l w) (fun k => L.length - k) 0 ⟨rfl, rfl, trivial⟩ ⟨by
  cases L with
  | nil => exact .inl rfl
  | cons s r => exact .inr ⟨by simp, fun x hx => by simp at hx; subst hx; rfl⟩, h⟩ ?_
 clear h
 rintro k w e ⟨inv, h⟩
 refine c_seq (c_seq (c_region ?_))
 refine r_v (q_moveI rfl) rfl ?_; refine r_v (q_moveS rfl) rfl ?_; refine r_v (q_len rfl) rfl ?_; refine r_v (q_lss rfl rfl) rfl ?_
 by_cases hlt : k + 1 < L.length
 ·refine r_is (.bool true) (by simp; omega) ?_
  refine r_nil (c_true rfl (c_skip ?_))
  rcases inv with inv | ⟨hk, inv⟩
  ·rw [inv] at hlt; simp at hlt
  have hg0 := List.getElem?_eq_getElem hk
  have hg := List.getElem?_eq_getElem hlt
  have hdr := List.drop_eq_getElem_cons hlt
  generalize L[k + 1] = s1 at hg hdr
  have he := inv _ hg0
  generalize L[k] = s0 at hg0 he
  rw [hdr, risesA] at he
  obtain ⟨b, o, hsl⟩ := (hr.at_ h).some (by omega)
  have hat1 : ∀ {w'}, St w0 l w' → w'.cell? ⟨b, o + (k + 1) * 2 + 0, none⟩ = some (.int .i64 s1.T) := fun h' => (hsl ▸ hr.at_ h').elem smp_len hg 0 _ rfl
  have hat0 : ∀ {w'}, St w0 l w' → w'.cell? ⟨b, o + k * 2 + 0, none⟩ = some (.int .i64 s0.T) := fun h' => (hsl ▸ hr.at_ h').elem smp_len hg0 0 _ rfl
  refine c_seq (c_block ?_)
  refine c_seq (c_any none (fun w => St w0 _ w) (by kernel_rfl) (by kernel_rfl) h.drew fun w h => ?_)
  refine cur_pure rfl rfl rfl rfl (fun _ => h) (fun _ => flt_v rfl (q_moveS rfl)) ?_; refine cur_pure rfl rfl rfl rfl (fun _ => h) (fun _ => flt_v rfl (q_moveI rfl)) ?_
  refine cur_pure rfl rfl rfl rfl (fun _ => h) (fun _ => flt_v rfl (q_idx (b := b) (o := o) (m := L.length) (c := c) (o' := o + (k + 1) * 2) (by rw [← hsl]; rfl) rfl rfl hlt rfl)) ?_
  refine cur_pure rfl rfl rfl rfl (fun _ => h) (fun _ => flt_v rfl (q_fa rfl)) ?_
  refine cur_float rfl rfl rfl rfl h (fun w h => flt_v rfl (q_loadc (v := .int .i64 s1.T) rfl (hat1 h))) ?_
  refine cur_pure rfl rfl rfl rfl (fun _ => h) (fun _ => flt_v rfl (q_moveS rfl)) ?_; refine cur_pure rfl rfl rfl rfl (fun _ => h) (fun _ => flt_v rfl (q_moveI rfl)) ?_
  refine cur_pure rfl rfl rfl rfl (fun _ => h) (fun _ => flt_v rfl (q_is (v' := .int .i64 (k : Int)) (q_sub rfl rfl) (by rw [wrap64 (by omega) (by omega)]; congr 1; omega))) ?_
  refine cur_pure rfl rfl rfl rfl (fun _ => h) (fun _ => flt_v rfl (q_idx (b := b) (o := o) (m := L.length) (c := c) (o' := o + k * 2) (by rw [← hsl]; rfl) rfl rfl hk rfl)) ?_
  refine cur_pure rfl rfl rfl rfl (fun _ => h) (fun _ => flt_v rfl (q_fa rfl)) ?_
  refine cur_float rfl rfl rfl rfl h (fun w h => flt_v rfl (q_loadc (v := .int .i64 s0.T) rfl (hat0 h))) ?_
  refine cur_pure rfl rfl rfl rfl (fun _ => h) (fun _ => flt_v rfl (q_leq rfl rfl)) ?_
  refine cur_end ?_
  refine c_cond (decide (s1.T ≤ s0.T)) rfl (fun hc => ?_) (fun hc => ?_)
  ·
   refine c_seq (c_region ?_)
   refine r_v (q_assignB rfl) rfl ?_
   refine r_nil ?_
   refine c_ret (bq1 ⟨?_, h⟩)
   have : rising L = false := by
    unfold rising
    rw [he, show decide (s0.T < s1.T) = false by rw [decide_eq_true_eq] at hc; rw [decide_eq_false_iff_not]; omega]
    rfl
   rw [this]; rfl
  ·rw [show decide (s0.T < s1.T) = true by rw [decide_eq_false_iff_not] at hc; rw [decide_eq_true_eq]; omega, Bool.true_and] at he
   refine c_skip ?_
   refine c_region ?_
   refine r_v (q_moveI rfl) rfl ?_; refine r_v (q_add rfl rfl) rfl ?_
   refine r_is (.int .i64 ((k + 1 + 1 : Nat) : Int)) (by rw [wrap64 (by omega) (by omega)]; rfl) ?_
   refine r_v (q_assignI rfl) rfl ?_
   refine r_nil ⟨k + 1, ⟨rfl, rfl, trivial⟩, ⟨.inr ⟨hlt, fun s hs => ?_⟩, h⟩, by omega⟩
   rw [hg] at hs; cases hs
   exact he
 refine r_is (.bool false) (by simp; omega) ?_
 refine r_nil (c_false rfl ?_)
 have hrise : rises L = true := by
  rcases inv with inv | ⟨hk, inv⟩
  ·rw [inv]; rfl
  ·have := inv _ (List.getElem?_eq_getElem hk)
   rw [this, show k + 1 = L.length by omega, List.drop_length]; rfl
 refine c_exit ?_
 refine c_seq (c_region ?_)
 refine r_v (q_moveS rfl) rfl ?_; refine r_v (q_len rfl) rfl ?_; refine r_v (q_leq rfl rfl) rfl ?_; refine r_v (q_assignB rfl) rfl ?_
 refine r_nil ?_
 refine c_ret (bq1 ⟨?_, h⟩)
 show Value.bool (decide ((L.length : Int) ≤ 65535)) = _
 unfold rising
 rw [hrise, Bool.true_and]
 congr 1
 rw [decide_eq_decide]
 omega


theorem ref10_Encode (tag : Int) {sl : Option Addr} {c : Nat} {L : List Smp} (hw : ∀ s ∈ L, s.Wf) (hn : L.length ≤ 65535) (hr : Reads w0 l 2 sl L.length (smpsV L)) (h : St w0 l w) :
  Ret Tryz.prog 13 [.int .i64 tag, .slice sl L.length c] w fun v w' => ∃ a c', v = .tuple [.slice a ((suitEnc tag L).getD []).length c', .bool (suitEnc tag L).isSome].toArray ∧ St w0 (OwnB a c' ((suitEnc tag L).getD []) :: l) w' := by
 have hvl : (valsOf L).length = L.length := by simp [valsOf]
 have hvlt := valsOf_lt hw
 have htl : (timesOf L).length = L.length := by simp [timesOf]
 have hvel := valuesEnc_len (tag := tag) (u := valsOf L) (by omega) hvlt
 refine enter Tryz.func13 rfl Tryz.results13 Tryz.ntmps13 rfl ?_
 refine c_seq (c_region ?_)
 refine r_v (q_assignS rfl) rfl ?_; refine r_v (q_assignB rfl) rfl ?_
 refine r_nil ?_
 refine c_seq (c_region ?_)
 refine r_v (q_moveI rfl) rfl ?_; refine r_v (q_moveS rfl) rfl ?_
 refine r_c rfl (x_call rfl (ref10_values hw hn hr h) ?_)
 rintro _ w ⟨va, vc, rfl, _, h⟩
 refine r_c rfl (x_call rfl (ref10_told tag hvlt (by omega) Reads.own h) ?_)
 rintro _ w ⟨ba, bc, rfl, h⟩
 replace h := (h.f 1).drop
 refine r_v (q_moveT rfl) rfl ?_; refine r_v (q_ext rfl rfl) rfl ?_; refine r_v (q_ext rfl rfl) rfl ?_; refine r_v (q_assignS rfl) rfl ?_; refine r_v (q_assignB rfl) rfl ?_
 refine r_nil ?_
 refine c_seq (c_seq (c_region ?_))
 cases hE : valuesEnc tag (valsOf L) with
 | none =>
  have hS : suitEnc tag L = none := by unfold suitEnc; rw [hE]; split <;> rfl
  rw [hS]
  rw [hE] at h
  show Rn _ _ _ _ _ (upd (upd _ 6 (.slice ba 0 bc)) 7 (.bool false)) _
  refine r_v (q_moveB rfl) rfl ?_; refine r_v (q_not rfl) rfl ?_; refine r_v (q_moveB rfl) rfl ?_; (first | refine r_gd rfl rfl ?_ | refine r_gn rfl rfl rfl ?_ | refine r_gu rfl rfl ?_ | refine r_gd rfl (by assumption) ?_ | refine r_gn rfl (by assumption) rfl ?_); (first | refine r_gd rfl rfl ?_ | refine r_gn rfl rfl rfl ?_ | refine r_gu rfl rfl ?_ | refine r_gd rfl (by assumption) ?_ | refine r_gn rfl (by assumption) rfl ?_); (first | refine r_gd rfl rfl ?_ | refine r_gn rfl rfl rfl ?_ | refine r_gu rfl rfl ?_ | refine r_gd rfl (by assumption) ?_ | refine r_gn rfl (by assumption) rfl ?_); (first | refine r_v (q_pick1 rfl rfl rfl) rfl ?_ | refine r_v (q_pick0 rfl rfl rfl) rfl ?_ | refine r_v (q_pick1 rfl (by assumption) rfl) rfl ?_ | refine r_v (q_pick0 rfl (by assumption) rfl) rfl ?_ | refine r_v (q_pickB rfl rfl rfl) rfl ?_)
  refine r_nil (c_true rfl ?_)
  refine c_seq (c_region ?_)
  refine r_v (q_assignS rfl) rfl ?_; refine r_v (q_assignB rfl) rfl ?_
  exact r_nil (c_ret (bq2 ⟨none, 0, rfl, St.ownNil _ _ h.drop⟩))
 | some vb =>
 rw [hE] at h hvel
 replace h : St w0 (OwnB ba bc vb :: l) w := h
 have hvel : vb.length ≤ 2000000 := hvel
 show Rn _ _ _ _ _ (upd (upd _ 6 (.slice ba vb.length bc)) 7 (.bool true)) _
 refine r_v (q_moveB rfl) rfl ?_; refine r_v (q_not rfl) rfl ?_; refine r_v (q_moveB rfl) rfl ?_; (first | refine r_gd rfl rfl ?_ | refine r_gn rfl rfl rfl ?_ | refine r_gu rfl rfl ?_ | refine r_gd rfl (by assumption) ?_ | refine r_gn rfl (by assumption) rfl ?_); refine r_v (q_moveS rfl) rfl ?_; (first | refine r_gd rfl rfl ?_ | refine r_gn rfl rfl rfl ?_ | refine r_gu rfl rfl ?_ | refine r_gd rfl (by assumption) ?_ | refine r_gn rfl (by assumption) rfl ?_)
 refine r_c rfl (x_call rfl (ref10_Rising (by omega) hr.cons h) ?_)
 rintro _ w ⟨rfl, h⟩
 cases hR : rising L with
 | false =>
  have hS : suitEnc tag L = none := by unfold suitEnc; rw [hR]; rfl
  rw [hS]
  (first | refine r_gd rfl rfl ?_ | refine r_gn rfl rfl rfl ?_ | refine r_gu rfl rfl ?_ | refine r_gd rfl (by assumption) ?_ | refine r_gn rfl (by assumption) rfl ?_); refine r_v (q_not rfl) rfl ?_; (first | refine r_v (q_pick1 rfl rfl rfl) rfl ?_ | refine r_v (q_pick0 rfl rfl rfl) rfl ?_ | refine r_v (q_pick1 rfl (by assumption) rfl) rfl ?_ | refine r_v (q_pick0 rfl (by assumption) rfl) rfl ?_ | refine r_v (q_pickB rfl rfl rfl) rfl ?_)
  refine r_nil (c_true rfl ?_)
  refine c_seq (c_region ?_)
  refine r_v (q_assignS rfl) rfl ?_; refine r_v (q_assignB rfl) rfl ?_
  exact r_nil (c_ret (bq2 ⟨none, 0, rfl, St.ownNil _ _ h.drop⟩))
 | true =>
 have hS : suitEnc tag L = some (suitBytes L vb) := by unfold suitEnc; rw [hR, hE]; rfl
 rw [hS]
 (first | refine r_gd rfl rfl ?_ | refine r_gn rfl rfl rfl ?_ | refine r_gu rfl rfl ?_ | refine r_gd rfl (by assumption) ?_ | refine r_gn rfl (by assumption) rfl ?_); refine r_v (q_not rfl) rfl ?_; (first | refine r_v (q_pick1 rfl rfl rfl) rfl ?_ | refine r_v (q_pick0 rfl rfl rfl) rfl ?_ | refine r_v (q_pick1 rfl (by assumption) rfl) rfl ?_ | refine r_v (q_pick0 rfl (by assumption) rfl) rfl ?_ | refine r_v (q_pickB rfl rfl rfl) rfl ?_)
 refine r_nil (c_false rfl (c_skip ?_))
 refine c_seq (c_region ?_)
 refine r_v (q_build (r := [.slice none 0 0]) rfl) rfl ?_
 refine r_c rfl (x_box h (show _ = Value.agg [.slice none 0 0].toArray from rfl) fun p w h => ?_)
 replace h : St w0 (IsRW p [] :: OwnB ba bc vb :: l) w := St.rw_new h
 refine r_v (q_assignP rfl) rfl ?_
 refine r_nil ?_
 refine c_seq (c_region ?_)
 refine r_v (q_assignS rfl) rfl ?_
 refine r_nil ?_
 refine c_cut (Γ := Option Addr × Nat) (fun q => [(6, .slice ba vb.length bc), (8, .pointer (some ⟨p, 0, none⟩)), (9, .slice q.1 (timesOf L).length q.2)])
  (fun q w => St w0 (IsRW p [] :: Own 2 1 q.1 (timesOf L).length q.2 (i64V (timesOf L)) :: OwnB ba bc vb :: l) w) ?_ ?_
 ·refine c_seq (c_region ?_)
  refine r_v (q_assignI rfl) rfl ?_
  refine r_nil ?_
  refine c_block ?_
  refine c_loop (Γ := Nat × Option Addr × Nat) (fun k => [(1, .slice sl L.length c), (6, .slice ba vb.length bc), (8, .pointer (some ⟨p, 0, none⟩)), (9, .slice k.2.1 (timesOf (L.take k.1)).length k.2.2), (10, .int .i64 k.1)])
   (fun k w => k.1 ≤ L.length ∧ St w0 (Own 2 1 k.2.1 (timesOf (L.take k.1)).length k.2.2 (i64V (timesOf (L.take k.1))) :: IsRW p [] :: OwnB ba bc vb :: l) w) (fun k => L.length - k.1) (0, none, 0) ⟨rfl, rfl, rfl, rfl, rfl, trivial⟩ ⟨Nat.zero_le _, St.ownNil _ _ h⟩ ?_
  clear h
  rintro ⟨k, oa, oc⟩ w e ⟨hk, h⟩
  dsimp only at hk h ⊢
  refine c_seq (c_seq (c_region ?_))
  refine r_v (q_moveI rfl) rfl ?_; refine r_v (q_moveS rfl) rfl ?_; refine r_v (q_len rfl) rfl ?_; refine r_v (q_lss rfl rfl) rfl ?_
  refine r_nil ?_
  refine c_cond (decide ((k : Int) < (L.length : Int))) rfl (fun hc => ?_) (fun hc => ?_)
  ·have hlt : k < L.length := by simp at hc; omega
   have hg := List.getElem?_eq_getElem hlt
   generalize L[k] = s at hg
   have hkl : (timesOf (L.take k)).length = k := by unfold timesOf; simp; omega
   have hvs : timesOf (L.take (k + 1)) = timesOf (L.take k) ++ [s.T] := by rw [List.take_add_one, hg]; simp [timesOf]
   obtain ⟨b, o, hsl⟩ := (hr [_, _, _] _ h).some (by omega)
   refine c_skip ?_
   refine c_seq (c_block ?_)
   refine c_region ?_
   refine r_v (q_moveS rfl) rfl ?_; refine r_v (q_moveS rfl) rfl ?_; refine r_v (q_moveI rfl) rfl ?_
   refine r_v (q_idx (b := b) (o := o) (m := L.length) (c := c) (o' := o + k * 2) (by rw [← hsl]; rfl) rfl rfl hlt rfl) rfl ?_
   refine r_v (q_fa rfl) rfl ?_
   refine r_v (q_loadc (v := .int .i64 s.T) rfl ((hsl ▸ hr [_, _, _] _ h).elem smp_len hg 0 _ rfl)) rfl ?_
   refine r_app1 (v := .int .i64 s.T) (m3 := (timesOf (L.take (k + 1))).length) (zs := i64V (timesOf (L.take (k + 1)))) h rfl rfl rfl rfl rfl (by rw [hvs]; simp) (by rw [hvs]; simp [i64V, vcells]) (by rw [hvs]; simp; omega) (by rw [hvs]; simp; omega) rfl rfl rfl rfl rfl fun b a' c' w _ h => ?_
   refine r_v (q_assignS rfl) rfl ?_
   refine r_nil ?_
   refine c_region ?_
   refine r_v (q_moveI rfl) rfl ?_; refine r_v (q_add rfl rfl) rfl ?_
   refine r_is (.int .i64 ((k + 1 : Nat) : Int)) (by rw [wrap64 (by omega) (by omega)]; rfl) ?_
   refine r_v (q_assignI rfl) rfl ?_
   exact r_nil ⟨(k + 1, a', c'), ⟨rfl, rfl, rfl, rfl, rfl, trivial⟩, ⟨hlt, h⟩, by dsimp only; omega⟩
  ·obtain rfl : k = L.length := by simp at hc; omega
   rw [List.take_length] at h
   refine c_exit ⟨(oa, oc), ⟨rfl, rfl, ?_, trivial⟩, h.f 1⟩
   show Value.slice oa (timesOf (L.take L.length)).length oc = _
   rw [List.take_length]
 clear h
 rintro ⟨ta, tc⟩ w e h
 dsimp only at h ⊢
 have htb := timesBits_len (timesOf L)
 have hpl := pack_len (timesBits (timesOf L))
 refine c_seq (c_region ?_)
 refine r_v (q_moveP rfl) rfl ?_; refine r_v (q_moveS rfl) rfl ?_
 refine r_c rfl (x_call rfl (ref4_Times (timesOf_wf hw) (by omega) (by decide) h Reads.own) ?_)
 rintro _ w ⟨rfl, h⟩
 rw [List.nil_append] at h
 refine r_nil ?_
 refine c_seq (c_region ?_)
 refine r_v (q_moveP rfl) rfl ?_
 refine r_c rfl (x_call rfl (rw_Bytes (by omega) h) ?_)
 rintro _ w ⟨xa, xc, rfl, h⟩
 replace h := ((h.f 1).drop.f 1).drop
 refine r_v (q_assignS rfl) rfl ?_
 refine r_nil ?_
 have hsb : suitBytes L vb = vput (pack (timesBits (timesOf L))).length ++ (pack (timesBits (timesOf L)) ++ vb) := rfl
 generalize pack (timesBits (timesOf L)) = tb at *
 have hvp := vput_len tb.length
 rw [hsb]
 refine c_seq (c_region ?_)
 refine r_v (q_moveS rfl) rfl ?_; refine r_v (q_len rfl) rfl ?_; refine r_v (q_conv rfl) rfl ?_
 refine r_is (.int .u64 (tb.length : Int)) (by rw [wrap_u64, Nat.mod_eq_of_lt (by omega)]) ?_
 refine r_c rfl (x_call rfl (ref1_Put (bs := []) tb.length (by omega) h (fun w' h' => Reads.nil.at_ h') (by simp)) ?_)
 rintro _ w ⟨a1, c1, rfl, h⟩
 rw [List.nil_append] at h ⊢
 refine r_v (q_moveS rfl) rfl ?_
 refine r_c rfl (x_append' (ys := bytesV tb) (zs := bytesV (vput tb.length ++ tb)) (m3 := (vput tb.length ++ tb).length) h rfl rfl (h.f 1).own_rd (bytesV_one _) (by simp) (by simp [bytesV]) (by simp; omega) (by simp; omega) rfl fun a2 c2 w _ h => ?_)
 refine r_v (q_moveS rfl) rfl ?_
 refine r_c rfl (x_append' (ys := bytesV vb) (zs := bytesV (vput tb.length ++ (tb ++ vb))) (m3 := (vput tb.length ++ (tb ++ vb)).length) h rfl rfl (h.f 2).own_rd (bytesV_one _) (by simp; omega) (by simp [bytesV]) (by simp; omega) (by simp; omega) rfl fun a3 c3 w _ h => ?_)
 refine r_v (q_assignS rfl) rfl ?_; refine r_v (q_assignB rfl) rfl ?_
 exact r_nil (c_ret (bq2 ⟨a3, c3, rfl, ((h.f 1).drop.f 1).drop⟩))

theorem ref10_Best {sl : Option Addr} {c : Nat} {L : List Smp} (hw : ∀ s ∈ L, s.Wf) (hn : L.length ≤ 65535) (hr : Reads w0 l 2 sl L.length (smpsV L)) (h : St w0 l w) :
  Ret Tryz.prog 11 [.slice sl L.length c] w fun v w' => ∃ a c', v = .tuple [.int .i64 (suitBest L).1, .slice a (suitBest L).2.length c'].toArray ∧ St w0 (OwnB a c' (suitBest L).2 :: l) w' := by
 refine enter Tryz.func11 rfl Tryz.results11 Tryz.ntmps11 rfl ?_
 refine c_seq (c_region ?_)
 refine r_v (q_assignI rfl) rfl ?_; refine r_v (q_assignS rfl) rfl ?_
 refine r_nil ?_
 refine c_seq (c_region ?_)
 refine r_v (q_assignI rfl) rfl ?_
 refine r_nil ?_
 refine c_seq (c_region ?_)
 refine r_v (q_assignS rfl) rfl ?_
 refine r_nil ?_
 refine c_seq (c_seq (c_region ?_))
 refine r_v (q_assignI rfl) rfl ?_
 refine r_nil ?_
 refine c_block ?_
 refine c_loop (Γ := Nat × Int × List UInt8 × Option Addr × Nat) (fun k => [(0, .slice sl L.length c), (4, .int .i64 k.2.1), (5, .slice k.2.2.2.1 k.2.2.1.length k.2.2.2.2), (6, .int .i64 ((k.1 + 1 : Nat) : Int))])
  (fun k w => k.1 ≤ 6 ∧ bestA L (([1, 2, 3, 4, 5, 6] : List Int).drop k.1) k.2.1 k.2.2.1 = suitBest L ∧ St w0 (OwnB k.2.2.2.1 k.2.2.2.2 k.2.2.1 :: l) w) (fun k => 6 - k.1) (0, 0, [], none, 0) ⟨rfl, rfl, rfl, rfl, trivial⟩ ⟨Nat.zero_le _, rfl, St.ownNil _ _ h⟩ ?_
 clear h
 rintro ⟨k, best, out, a, c1⟩ w e ⟨hk, he, h⟩
 dsimp only at hk he h ⊢
 refine c_seq (c_seq (c_region ?_))
 refine r_v (q_moveI rfl) rfl ?_; refine r_v (q_leq rfl rfl) rfl ?_
 by_cases hlt : k < 6
 ·refine r_is (.bool true) (by simp; omega) ?_
  refine r_nil (c_true rfl (c_skip ?_))
  rw [tags_drop hlt, bestA] at he
  refine c_cut (Γ := Int × List UInt8 × Option Addr × Nat) (fun q => [(0, .slice sl L.length c), (4, .int .i64 q.1), (5, .slice q.2.2.1 q.2.1.length q.2.2.2), (6, .int .i64 ((k + 1 : Nat) : Int))])
   (fun q w => bestA L (([1, 2, 3, 4, 5, 6] : List Int).drop (k + 1)) q.1 q.2.1 = suitBest L ∧ St w0 (OwnB q.2.2.1 q.2.2.2 q.2.1 :: l) w) ?_ ?_
  ·refine c_block ?_
   refine c_seq (c_region ?_)
   refine r_v (q_moveI rfl) rfl ?_; refine r_v (q_moveS rfl) rfl ?_
   refine r_c rfl (x_call rfl (ref10_Encode ((k + 1 : Nat) : Int) hw hn hr.cons h) ?_)
   rintro _ w ⟨a2, c2, rfl, h⟩
   refine r_v (q_moveT rfl) rfl ?_; refine r_v (q_ext rfl rfl) rfl ?_; refine r_v (q_ext rfl rfl) rfl ?_; refine r_v (q_assignS rfl) rfl ?_; refine r_v (q_assignB rfl) rfl ?_
   refine r_nil ?_
   refine c_seq (c_region ?_)
   cases hE : suitEnc ((k + 1 : Nat) : Int) L with
   | none =>
    rw [hE] at he h
    refine r_v (q_moveB rfl) rfl ?_; refine r_v (q_moveB rfl) rfl ?_; (first | refine r_gd rfl rfl ?_ | refine r_gn rfl rfl rfl ?_ | refine r_gu rfl rfl ?_ | refine r_gd rfl (by assumption) ?_ | refine r_gn rfl (by assumption) rfl ?_); (first | refine r_gd rfl rfl ?_ | refine r_gn rfl rfl rfl ?_ | refine r_gu rfl rfl ?_ | refine r_gd rfl (by assumption) ?_ | refine r_gn rfl (by assumption) rfl ?_); (first | refine r_gd rfl rfl ?_ | refine r_gn rfl rfl rfl ?_ | refine r_gu rfl rfl ?_ | refine r_gd rfl (by assumption) ?_ | refine r_gn rfl (by assumption) rfl ?_); (first | refine r_gd rfl rfl ?_ | refine r_gn rfl rfl rfl ?_ | refine r_gu rfl rfl ?_ | refine r_gd rfl (by assumption) ?_ | refine r_gn rfl (by assumption) rfl ?_); (first | refine r_gd rfl rfl ?_ | refine r_gn rfl rfl rfl ?_ | refine r_gu rfl rfl ?_ | refine r_gd rfl (by assumption) ?_ | refine r_gn rfl (by assumption) rfl ?_); (first | refine r_gd rfl rfl ?_ | refine r_gn rfl rfl rfl ?_ | refine r_gu rfl rfl ?_ | refine r_gd rfl (by assumption) ?_ | refine r_gn rfl (by assumption) rfl ?_); (first | refine r_gd rfl rfl ?_ | refine r_gn rfl rfl rfl ?_ | refine r_gu rfl rfl ?_ | refine r_gd rfl (by assumption) ?_ | refine r_gn rfl (by assumption) rfl ?_); (first | refine r_gd rfl rfl ?_ | refine r_gn rfl rfl rfl ?_ | refine r_gu rfl rfl ?_ | refine r_gd rfl (by assumption) ?_ | refine r_gn rfl (by assumption) rfl ?_); (first | refine r_gd rfl rfl ?_ | refine r_gn rfl rfl rfl ?_ | refine r_gu rfl rfl ?_ | refine r_gd rfl (by assumption) ?_ | refine r_gn rfl (by assumption) rfl ?_); (first | refine r_v (q_pick1 rfl rfl rfl) rfl ?_ | refine r_v (q_pick0 rfl rfl rfl) rfl ?_ | refine r_v (q_pick1 rfl (by assumption) rfl) rfl ?_ | refine r_v (q_pick0 rfl (by assumption) rfl) rfl ?_ | refine r_v (q_pickB rfl rfl rfl) rfl ?_)
    refine r_nil (c_false rfl (c_skip ?_))
    exact ⟨(best, out, a, c1), ⟨rfl, rfl, rfl, rfl, trivial⟩, he, h.drop⟩
   | some b =>
    rw [hE] at he h
    dsimp only at he
    have take : (best = 0 ∨ b.length < out.length) → bestA L (([1, 2, 3, 4, 5, 6] : List Int).drop (k + 1)) ((k + 1 : Nat) : Int) b = suitBest L := fun hh => by rw [if_pos hh] at he; exact he
    by_cases hb : best = 0
    ·refine r_v (q_moveB rfl) rfl ?_; refine r_v (q_moveB rfl) rfl ?_; (first | refine r_gd rfl rfl ?_ | refine r_gn rfl rfl rfl ?_ | refine r_gu rfl rfl ?_ | refine r_gd rfl (by assumption) ?_ | refine r_gn rfl (by assumption) rfl ?_); refine r_v (q_moveI rfl) rfl ?_; (first | refine r_gd rfl rfl ?_ | refine r_gn rfl rfl rfl ?_ | refine r_gu rfl rfl ?_ | refine r_gd rfl (by assumption) ?_ | refine r_gn rfl (by assumption) rfl ?_)
     refine r_v (q_is (v' := .bool true) (q_eql rfl rfl) (by rw [hb]; rfl)) rfl ?_
     (first | refine r_gd rfl rfl ?_ | refine r_gn rfl rfl rfl ?_ | refine r_gu rfl rfl ?_ | refine r_gd rfl (by assumption) ?_ | refine r_gn rfl (by assumption) rfl ?_); refine r_v (q_moveB rfl) rfl ?_; (first | refine r_gd rfl rfl ?_ | refine r_gn rfl rfl rfl ?_ | refine r_gu rfl rfl ?_ | refine r_gd rfl (by assumption) ?_ | refine r_gn rfl (by assumption) rfl ?_); (first | refine r_gd rfl rfl ?_ | refine r_gn rfl rfl rfl ?_ | refine r_gu rfl rfl ?_ | refine r_gd rfl (by assumption) ?_ | refine r_gn rfl (by assumption) rfl ?_); (first | refine r_gd rfl rfl ?_ | refine r_gn rfl rfl rfl ?_ | refine r_gu rfl rfl ?_ | refine r_gd rfl (by assumption) ?_ | refine r_gn rfl (by assumption) rfl ?_); (first | refine r_gd rfl rfl ?_ | refine r_gn rfl rfl rfl ?_ | refine r_gu rfl rfl ?_ | refine r_gd rfl (by assumption) ?_ | refine r_gn rfl (by assumption) rfl ?_); (first | refine r_gd rfl rfl ?_ | refine r_gn rfl rfl rfl ?_ | refine r_gu rfl rfl ?_ | refine r_gd rfl (by assumption) ?_ | refine r_gn rfl (by assumption) rfl ?_); (first | refine r_gd rfl rfl ?_ | refine r_gn rfl rfl rfl ?_ | refine r_gu rfl rfl ?_ | refine r_gd rfl (by assumption) ?_ | refine r_gn rfl (by assumption) rfl ?_); (first | refine r_v (q_pick1 rfl rfl rfl) rfl ?_ | refine r_v (q_pick0 rfl rfl rfl) rfl ?_ | refine r_v (q_pick1 rfl (by assumption) rfl) rfl ?_ | refine r_v (q_pick0 rfl (by assumption) rfl) rfl ?_ | refine r_v (q_pickB rfl rfl rfl) rfl ?_); (first | refine r_v (q_pick1 rfl rfl rfl) rfl ?_ | refine r_v (q_pick0 rfl rfl rfl) rfl ?_ | refine r_v (q_pick1 rfl (by assumption) rfl) rfl ?_ | refine r_v (q_pick0 rfl (by assumption) rfl) rfl ?_ | refine r_v (q_pickB rfl rfl rfl) rfl ?_)
     refine r_nil (c_true rfl ?_)
     refine c_region ?_
     refine r_v (q_moveI rfl) rfl ?_; refine r_v (q_moveS rfl) rfl ?_; refine r_v (q_assignI rfl) rfl ?_; refine r_v (q_assignS rfl) rfl ?_
     exact r_nil ⟨(((k + 1 : Nat) : Int), b, a2, c2), ⟨rfl, rfl, rfl, rfl, trivial⟩, take (.inl hb), (h.f 1).drop⟩
    ·refine r_v (q_moveB rfl) rfl ?_; refine r_v (q_moveB rfl) rfl ?_; (first | refine r_gd rfl rfl ?_ | refine r_gn rfl rfl rfl ?_ | refine r_gu rfl rfl ?_ | refine r_gd rfl (by assumption) ?_ | refine r_gn rfl (by assumption) rfl ?_); refine r_v (q_moveI rfl) rfl ?_; (first | refine r_gd rfl rfl ?_ | refine r_gn rfl rfl rfl ?_ | refine r_gu rfl rfl ?_ | refine r_gd rfl (by assumption) ?_ | refine r_gn rfl (by assumption) rfl ?_)
     refine r_v (q_is (v' := .bool false) (q_eql rfl rfl) (by congr 1; rw [beq_eq_false_iff_ne]; exact hb)) rfl ?_
     (first | refine r_gd rfl rfl ?_ | refine r_gn rfl rfl rfl ?_ | refine r_gu rfl rfl ?_ | refine r_gd rfl (by assumption) ?_ | refine r_gn rfl (by assumption) rfl ?_); refine r_v (q_moveB rfl) rfl ?_; (first | refine r_gd rfl rfl ?_ | refine r_gn rfl rfl rfl ?_ | refine r_gu rfl rfl ?_ | refine r_gd rfl (by assumption) ?_ | refine r_gn rfl (by assumption) rfl ?_); refine r_v (q_moveS rfl) rfl ?_; (first | refine r_gd rfl rfl ?_ | refine r_gn rfl rfl rfl ?_ | refine r_gu rfl rfl ?_ | refine r_gd rfl (by assumption) ?_ | refine r_gn rfl (by assumption) rfl ?_); refine r_v (q_len rfl) rfl ?_; (first | refine r_gd rfl rfl ?_ | refine r_gn rfl rfl rfl ?_ | refine r_gu rfl rfl ?_ | refine r_gd rfl (by assumption) ?_ | refine r_gn rfl (by assumption) rfl ?_); refine r_v (q_moveS rfl) rfl ?_; (first | refine r_gd rfl rfl ?_ | refine r_gn rfl rfl rfl ?_ | refine r_gu rfl rfl ?_ | refine r_gd rfl (by assumption) ?_ | refine r_gn rfl (by assumption) rfl ?_); refine r_v (q_len rfl) rfl ?_; (first | refine r_gd rfl rfl ?_ | refine r_gn rfl rfl rfl ?_ | refine r_gu rfl rfl ?_ | refine r_gd rfl (by assumption) ?_ | refine r_gn rfl (by assumption) rfl ?_); refine r_v (q_lss rfl rfl) rfl ?_; (first | refine r_gd rfl rfl ?_ | refine r_gn rfl rfl rfl ?_ | refine r_gu rfl rfl ?_ | refine r_gd rfl (by assumption) ?_ | refine r_gn rfl (by assumption) rfl ?_); (first | refine r_v (q_pick1 rfl rfl rfl) rfl ?_ | refine r_v (q_pick0 rfl rfl rfl) rfl ?_ | refine r_v (q_pick1 rfl (by assumption) rfl) rfl ?_ | refine r_v (q_pick0 rfl (by assumption) rfl) rfl ?_ | refine r_v (q_pickB rfl rfl rfl) rfl ?_); (first | refine r_v (q_pick1 rfl rfl rfl) rfl ?_ | refine r_v (q_pick0 rfl rfl rfl) rfl ?_ | refine r_v (q_pick1 rfl (by assumption) rfl) rfl ?_ | refine r_v (q_pick0 rfl (by assumption) rfl) rfl ?_ | refine r_v (q_pickB rfl rfl rfl) rfl ?_)
     refine r_nil (c_cond (decide ((b.length : Int) < (out.length : Int))) rfl (fun hc => ?_) (fun hc => ?_))
     ·refine c_region ?_
      refine r_v (q_moveI rfl) rfl ?_; refine r_v (q_moveS rfl) rfl ?_; refine r_v (q_assignI rfl) rfl ?_; refine r_v (q_assignS rfl) rfl ?_
      exact r_nil ⟨(((k + 1 : Nat) : Int), b, a2, c2), ⟨rfl, rfl, rfl, rfl, trivial⟩, take (.inr (by simpa using hc)), (h.f 1).drop⟩
     ·refine c_skip ⟨(best, out, a, c1), ⟨rfl, rfl, rfl, rfl, trivial⟩, ?_, h.drop⟩
      rw [if_neg] at he
      ·exact he
      ·rintro (h | h)
       ·exact hb h
       ·simp at hc; omega
  clear h he
  rintro ⟨best, out, a, c1⟩ w e ⟨he, h⟩
  dsimp only at he h ⊢
  refine c_region ?_
  refine r_v (q_moveI rfl) rfl ?_; refine r_v (q_add rfl rfl) rfl ?_
  refine r_is (.int .i64 ((k + 1 + 1 : Nat) : Int)) (by rw [wrap64 (by omega) (by omega)]; rfl) ?_
  refine r_v (q_assignI rfl) rfl ?_
  exact r_nil ⟨(k + 1, best, out, a, c1), ⟨rfl, rfl, rfl, rfl, trivial⟩, ⟨hlt, he, h⟩, by dsimp only; omega⟩
 refine r_is (.bool false) (by simp; omega) ?_
 refine r_nil (c_false rfl ?_)
 have hk6 : k = 6 := by omega
 subst hk6
 have he : (best, out) = suitBest L := he
 refine c_exit ?_
 refine c_seq (c_region ?_)
 refine r_v (q_moveI rfl) rfl ?_; refine r_v (q_moveS rfl) rfl ?_; refine r_v (q_assignI rfl) rfl ?_; refine r_v (q_assignS rfl) rfl ?_
 refine r_nil ?_
 rw [← he]
 exact c_ret (bq2 ⟨a, c1, rfl, h⟩)

theorem ref1_Entry {i : Nat} (hi : i < 4294967296) (h : St w0 l w) : Ret Tryz.prog 100 [.int .u32 i] w fun v w' => v = .int .u32 (crcByte i : Nat) ∧ St w0 l w' := by
 refine enter Tryz.func100 rfl Tryz.results100 Tryz.ntmps100 rfl ?_
 refine c_seq (c_region ?_)
 refine r_v (q_assignI rfl) rfl ?_
 refine r_nil ?_
 refine c_seq (c_seq (c_region ?_))
 refine r_v (q_assignI rfl) rfl ?_
 refine r_nil ?_
 refine c_block ?_
 refine c_loop (Γ := Nat) (fun k => [(0, .int .u32 (crcN k i : Nat)), (3, .int .i64 k)]) (fun k w => k ≤ 8 ∧ St w0 l w) (fun k => 8 - k) 0 ⟨rfl, rfl, trivial⟩ ⟨Nat.zero_le _, h⟩ ?_
 clear h
 rintro k w e ⟨hk, h⟩
 refine c_seq (c_seq (c_region ?_))
 refine r_v (q_moveI rfl) rfl ?_; refine r_v (q_lss rfl rfl) rfl ?_
 by_cases hk8 : k < 8
 ·refine r_is (.bool true) (by simp; omega) ?_
  refine r_nil (c_true rfl (c_skip ?_))
  have hcl := crcN_lt hi k
  have hstep : crcN (k + 1) i = crcBit (crcN k i) := rfl
  generalize crcN k i = c at hcl hstep
  refine c_cut (Γ := Unit) (fun _ => [(0, .int .u32 (crcN (k + 1) i : Nat)), (3, .int .i64 k)]) (fun _ w => St w0 l w) ?_ ?_
  ·refine c_block ?_
   refine c_seq (c_region ?_)
   refine r_v (q_moveI rfl) rfl ?_
   refine r_v (q_is (v' := .int .u32 ((c % 2 : Nat) : Int)) (q_and rfl rfl) (by rw [show bitOp .and .u32 (c : Int) 1 = ((c &&& 1 : Nat) : Int) from (bit_u32 hcl (by decide)).1, Nat.and_one_is_mod])) rfl ?_
   refine r_v (q_assignI rfl) rfl ?_
   refine r_nil ?_
   refine c_seq (c_region ?_)
   refine r_v (q_moveI rfl) rfl ?_
   refine r_v (q_is (v' := .int .u32 ((c / 2 : Nat) : Int)) (q_shr rfl rfl (by omega)) (congrArg (Value.int .u32) (fdiv_nat c 1 32 (by decide)))) rfl ?_
   refine r_v (q_assignI rfl) rfl ?_
   refine r_nil ?_
   refine c_seq (c_region ?_)
   refine r_v (q_moveI rfl) rfl ?_; refine r_v (q_eql rfl rfl) rfl ?_
   by_cases h1 : c % 2 = 1
   ·refine r_is (.bool true) (by rw [h1]; rfl) ?_
    refine r_nil (c_true rfl ?_)
    refine c_region ?_
    refine r_v (q_moveI rfl) rfl ?_; refine r_v (q_xor rfl rfl) rfl ?_
    refine r_is (.int .u32 ((crcN (k + 1) i : Nat) : Int)) (by rw [hstep, crcBit, if_pos h1]; exact congrArg (Value.int .u32) (bit_u32 (by omega) (by decide)).2) ?_
    refine r_v (q_assignI rfl) rfl ?_
    exact r_nil ⟨(), ⟨rfl, rfl, trivial⟩, h⟩
   ·refine r_is (.bool false) (by congr 1; rw [beq_eq_false_iff_ne]; omega) ?_
    refine r_nil (c_false rfl (c_skip ⟨(), ⟨?_, rfl, trivial⟩, h⟩))
    show Value.int .u32 ((c / 2 : Nat) : Int) = _
    rw [hstep, crcBit, if_neg h1]
  clear h
  rintro ⟨⟩ w e h
  refine c_region ?_
  refine r_v (q_moveI rfl) rfl ?_; refine r_v (q_add rfl rfl) rfl ?_
  refine r_is (.int .i64 ((k + 1 : Nat) : Int)) (by rw [wrap64 (by omega) (by omega)]; rfl) ?_
  refine r_v (q_assignI rfl) rfl ?_
  exact r_nil ⟨k + 1, ⟨rfl, rfl, trivial⟩, ⟨hk8, h⟩, by omega⟩
 ·refine r_is (.bool false) (by simp; omega) ?_
  obtain rfl : k = 8 := by omega
  refine r_nil (c_false rfl (c_exit ?_))
  refine c_seq (c_region ?_)
  refine r_v (q_moveI rfl) rfl ?_; refine r_v (q_assignI rfl) rfl ?_
  exact r_nil (c_ret (bq1 ⟨rfl, h⟩))
theorem ref1_Sum {sl : Option Addr} {c : Nat} {bs : List UInt8} (hn : bs.length ≤ 140737488355328) (hr : Reads w0 l 1 sl bs.length (bytesV bs)) (h : St w0 l w) :
  Ret Tryz.prog 55 [.slice sl bs.length c] w fun v w' => v = .int .u32 (crc bs : Int) ∧ St w0 l w' := by
 refine enter Tryz.func55 rfl Tryz.results55 Tryz.ntmps55 rfl ?_
 refine c_seq (c_region ?_)
 refine r_v (q_assignI rfl) rfl ?_
 refine r_nil ?_
 refine c_seq (c_region ?_)
 refine r_v (q_assignI rfl) rfl ?_
 refine r_nil ?_
 refine c_seq (c_seq (c_region ?_))
 refine r_v (q_assignI rfl) rfl ?_
 refine r_nil ?_
 refine c_block ?_
 refine c_loop (Γ := Nat × Nat) (fun k => [(0, .slice sl bs.length c), (3, .int .u32 (k.2 : Int)), (4, .int .i64 k.1)])
  (fun k w => k.1 ≤ bs.length ∧ k.2 < 4294967296 ∧ crcA k.2 (bs.drop k.1) = crcA 4294967295 bs ∧ St w0 l w) (fun k => bs.length - k.1) (0, 4294967295) ⟨rfl, rfl, rfl, trivial⟩ ⟨Nat.zero_le _, (by decide : (4294967295 : Nat) < 4294967296), rfl, h⟩ ?_
 clear h
 rintro ⟨i, s⟩ w e ⟨hi, hs, he, h⟩
 dsimp only at hi hs he h ⊢
 refine c_seq (c_seq (c_region ?_))
 refine r_v (q_moveI rfl) rfl ?_; refine r_v (q_moveS rfl) rfl ?_; refine r_v (q_len rfl) rfl ?_; refine r_v (q_lss rfl rfl) rfl ?_
 refine r_nil ?_
 refine c_cond (decide ((i : Int) < (bs.length : Int))) rfl (fun hc => ?_) (fun hc => ?_)
 ·have hlt : i < bs.length := by simp at hc; omega
  have hg := List.getElem?_eq_getElem hlt
  have hdr := List.drop_eq_getElem_cons hlt
  generalize bs[i] = x at hg hdr
  have hx := x.toNat_lt
  rw [hdr, crcA] at he
  have hst := crcStep_lt (x := x.toNat) hs hx
  unfold crcStep at he hst
  have hj : (s % 256) ^^^ x.toNat < 256 := xor8 (Nat.mod_lt _ (by decide)) hx
  have hbl := crcByte_lt hj
  have hxm : (s ^^^ x.toNat) % 256 = (s % 256) ^^^ x.toNat := by
   have := Nat.xor_mod_two_pow (a := s) (b := x.toNat) (n := 8)
   rw [show (2 : Nat) ^ 8 = 256 from rfl, Nat.mod_eq_of_lt hx] at this
   exact this
  obtain ⟨b, o, hsl⟩ := (hr.at_ h).some (by omega)
  refine c_skip ?_
  refine c_seq (c_block ?_)
  refine c_region ?_
  refine r_v (q_moveI rfl) rfl ?_; refine r_v (q_moveS rfl) rfl ?_; refine r_v (q_moveI rfl) rfl ?_
  refine r_v (q_idx (b := b) (o := o) (m := bs.length) (c := c) (o' := o + i) (by rw [← hsl]; rfl) rfl rfl hlt (by simp)) rfl ?_
  refine r_v (q_loadc (v := .int .u8 x.toNat) rfl ((hsl ▸ hr.at_ h).cell (bytesV_get hg))) rfl ?_
  refine r_v (q_conv rfl) rfl ?_
  refine r_is (.int .u32 (x.toNat : Int)) (by rw [wrap_u32, Nat.mod_eq_of_lt (by omega)]) ?_
  refine r_v (q_xor rfl rfl) rfl ?_
  refine r_is (.int .u32 ((s ^^^ x.toNat : Nat) : Int)) (congrArg (Value.int .u32) (bit_u32 hs (by omega)).2) ?_
  refine r_v (q_is (v' := .int .u32 (((s % 256) ^^^ x.toNat : Nat) : Int)) (q_and rfl rfl) (by
   rw [show bitOp .and .u32 ((s ^^^ x.toNat : Nat) : Int) 255 = (((s ^^^ x.toNat) &&& 255 : Nat) : Int) from (bit_u32 (Nat.xor_lt_two_pow (n := 32) hs (by omega)) (by decide)).1, show (s ^^^ x.toNat) &&& 255 = (s ^^^ x.toNat) % 256 from and_low _ 8, hxm])) rfl ?_
  refine r_c rfl (x_call rfl (ref1_Entry (by omega) h) ?_)
  rintro _ w ⟨rfl, h⟩
  generalize crcByte ((s % 256) ^^^ x.toNat) = tb at he hst hbl ⊢
  refine r_v (q_moveI rfl) rfl ?_
  refine r_v (q_is (v' := .int .u32 ((s / 2 ^ 8 : Nat) : Int)) (q_shr rfl rfl (by omega)) (congrArg (Value.int .u32) (fdiv_nat s 8 32 (by decide)))) rfl ?_
  refine r_v (q_xor rfl rfl) rfl ?_
  refine r_is (.int .u32 ((tb ^^^ (s / 256) : Nat) : Int)) (congrArg (Value.int .u32) (bit_u32 hbl (by omega)).2) ?_
  refine r_v (q_assignI rfl) rfl ?_
  refine r_nil ?_
  refine c_region ?_
  refine r_v (q_moveI rfl) rfl ?_; refine r_v (q_add rfl rfl) rfl ?_
  refine r_is (.int .i64 ((i + 1 : Nat) : Int)) (by rw [wrap64 (by omega) (by omega)]; rfl) ?_
  refine r_v (q_assignI rfl) rfl ?_
  exact r_nil ⟨(i + 1, tb ^^^ (s / 256)), ⟨rfl, rfl, rfl, trivial⟩, ⟨hlt, hst, he, h⟩, by dsimp only; omega⟩
 ·have hin : i = bs.length := by simp at hc; omega
  rw [hin, List.drop_length, crcA] at he
  refine c_exit ?_
  refine c_seq (c_region ?_)
  refine r_v (q_moveI rfl) rfl ?_; refine r_v (q_xor rfl rfl) rfl ?_
  refine r_is (.int .u32 ((s ^^^ 4294967295 : Nat) : Int)) (congrArg (Value.int .u32) (bit_u32 hs (by decide)).2) ?_
  refine r_v (q_assignI rfl) rfl ?_
  refine r_nil ?_
  exact c_ret (bq1 ⟨by unfold crc; rw [← he]; rfl, h⟩)

theorem ref10_Make (tag : Int) {sl : Option Addr} {c : Nat} {L : List Smp} (hw : ∀ s ∈ L, s.Wf) (hn : L.length ≤ 65535) (hr : Reads w0 l 2 sl L.length (smpsV L)) (h : St w0 l w) :
  Ret Tryz.prog 19 [.int .i64 tag, .slice sl L.length c] w fun v w' => ∃ a c', v = .tuple [.slice a ((chMake tag L).getD []).length c', .bool (chMake tag L).isSome].toArray ∧ St w0 (OwnB a c' ((chMake tag L).getD []) :: l) w' := by
 have hlen := suitEnc_len (tag := tag) hw
 refine enter Tryz.func19 rfl Tryz.results19 Tryz.ntmps19 rfl ?_
 refine c_seq (c_region ?_)
 refine r_v (q_assignS rfl) rfl ?_; refine r_v (q_assignB rfl) rfl ?_
 refine r_nil ?_
 refine c_seq (c_region ?_)
 refine r_v (q_moveI rfl) rfl ?_; refine r_v (q_moveS rfl) rfl ?_
 refine r_c rfl (x_call rfl (ref10_Encode tag hw hn hr h) ?_)
 cases hE : suitEnc tag L with
 | none =>
  have hM : chMake tag L = none := by unfold chMake; rw [hE]
  rw [hM]
  rintro _ w ⟨xa, xc, rfl, h⟩
  replace h := h.drop
  show Rn _ _ _ _ _ (upd _ _ (.tuple [.slice xa 0 xc, .bool false].toArray)) _
  refine r_v (q_moveT rfl) rfl ?_; refine r_v (q_ext rfl rfl) rfl ?_; refine r_v (q_ext rfl rfl) rfl ?_; refine r_v (q_assignS rfl) rfl ?_; refine r_v (q_assignB rfl) rfl ?_
  refine r_nil ?_
  refine c_seq (c_seq (c_region ?_))
  refine r_v (q_moveB rfl) rfl ?_; refine r_v (q_not rfl) rfl ?_; refine r_v (q_moveB rfl) rfl ?_; (first | refine r_gd rfl rfl ?_ | refine r_gn rfl rfl rfl ?_ | refine r_gu rfl rfl ?_ | refine r_gd rfl (by assumption) ?_ | refine r_gn rfl (by assumption) rfl ?_); (first | refine r_gd rfl rfl ?_ | refine r_gn rfl rfl rfl ?_ | refine r_gu rfl rfl ?_ | refine r_gd rfl (by assumption) ?_ | refine r_gn rfl (by assumption) rfl ?_); (first | refine r_gd rfl rfl ?_ | refine r_gn rfl rfl rfl ?_ | refine r_gu rfl rfl ?_ | refine r_gd rfl (by assumption) ?_ | refine r_gn rfl (by assumption) rfl ?_); (first | refine r_v (q_pick1 rfl rfl rfl) rfl ?_ | refine r_v (q_pick0 rfl rfl rfl) rfl ?_ | refine r_v (q_pick1 rfl (by assumption) rfl) rfl ?_ | refine r_v (q_pick0 rfl (by assumption) rfl) rfl ?_ | refine r_v (q_pickB rfl rfl rfl) rfl ?_)
  refine r_nil (c_true rfl ?_)
  refine c_seq (c_region ?_)
  refine r_v (q_assignS rfl) rfl ?_; refine r_v (q_assignB rfl) rfl ?_
  refine r_nil ?_
  exact c_ret (bq2 ⟨none, 0, rfl, St.ownNil _ _ h⟩)
 | some x =>
 rw [hE] at hlen
 have hxl : x.length ≤ 3000000 := hlen
 obtain ⟨ht1, ht6⟩ := suitEnc_tag hE
 obtain ⟨_, hL16⟩ := suitEnc_rises hE
 rintro _ w ⟨xa, xc, rfl, h⟩
 replace h : St w0 (OwnB xa xc x :: l) w := h
 show Rn _ _ _ _ _ (upd _ _ (.tuple [.slice xa x.length xc, .bool true].toArray)) _
 refine r_v (q_moveT rfl) rfl ?_; refine r_v (q_ext rfl rfl) rfl ?_; refine r_v (q_ext rfl rfl) rfl ?_; refine r_v (q_assignS rfl) rfl ?_; refine r_v (q_assignB rfl) rfl ?_
 refine r_nil ?_
 refine c_seq (c_seq (c_region ?_))
 refine r_v (q_moveB rfl) rfl ?_; refine r_v (q_not rfl) rfl ?_; refine r_v (q_moveB rfl) rfl ?_; (first | refine r_gd rfl rfl ?_ | refine r_gn rfl rfl rfl ?_ | refine r_gu rfl rfl ?_ | refine r_gd rfl (by assumption) ?_ | refine r_gn rfl (by assumption) rfl ?_); refine r_v (q_moveS rfl) rfl ?_; (first | refine r_gd rfl rfl ?_ | refine r_gn rfl rfl rfl ?_ | refine r_gu rfl rfl ?_ | refine r_gd rfl (by assumption) ?_ | refine r_gn rfl (by assumption) rfl ?_); refine r_v (q_len rfl) rfl ?_; (first | refine r_gd rfl rfl ?_ | refine r_gn rfl rfl rfl ?_ | refine r_gu rfl rfl ?_ | refine r_gd rfl (by assumption) ?_ | refine r_gn rfl (by assumption) rfl ?_)
 by_cases hL0 : L.length = 0
 ·have hLn : L = [] := List.eq_nil_of_length_eq_zero hL0
  have hM : chMake tag L = none := by unfold chMake; rw [hE]; dsimp only; rw [if_pos hLn]
  rw [hM]
  refine r_v (q_is (v' := .bool true) (q_eql rfl rfl) (by rw [hL0]; rfl)) rfl ?_
  (first | refine r_v (q_pick1 rfl rfl rfl) rfl ?_ | refine r_v (q_pick0 rfl rfl rfl) rfl ?_ | refine r_v (q_pick1 rfl (by assumption) rfl) rfl ?_ | refine r_v (q_pick0 rfl (by assumption) rfl) rfl ?_ | refine r_v (q_pickB rfl rfl rfl) rfl ?_)
  refine r_nil (c_true rfl ?_)
  refine c_seq (c_region ?_)
  refine r_v (q_assignS rfl) rfl ?_; refine r_v (q_assignB rfl) rfl ?_
  refine r_nil ?_
  exact c_ret (bq2 ⟨none, 0, rfl, St.ownNil _ _ h.drop⟩)
 have hLn : L ≠ [] := fun hh => hL0 (by rw [hh]; rfl)
 have hM : chMake tag L = some (chBody tag L x ++ be4 (crc (chBody tag L x))) := by unfold chMake; rw [hE]; dsimp only; rw [if_neg hLn]
 rw [hM]
 obtain ⟨w1, w2⟩ := ends_wf hw hLn
 refine r_v (q_is (v' := .bool false) (q_eql rfl rfl) (by congr 1; rw [beq_eq_false_iff_ne]; omega)) rfl ?_
 (first | refine r_v (q_pick1 rfl rfl rfl) rfl ?_ | refine r_v (q_pick0 rfl rfl rfl) rfl ?_ | refine r_v (q_pick1 rfl (by assumption) rfl) rfl ?_ | refine r_v (q_pick0 rfl (by assumption) rfl) rfl ?_ | refine r_v (q_pickB rfl rfl rfl) rfl ?_)
 refine r_nil (c_false rfl (c_skip ?_))
 refine c_seq (c_region ?_)
 refine r_v (q_moveI rfl) rfl ?_; refine r_v (q_conv rfl) rfl ?_
 refine r_is (.int .u8 ((UInt8.ofNat tag.toNat).toNat : Int)) (by rw [UInt8.toNat_ofNat', show tag = ((tag.toNat : Nat) : Int) by omega, wrap_u8]; simp) ?_
 refine r_c rfl (x_bslice (r := bytesV [UInt8.ofNat tag.toNat]) h rfl rfl rfl fun b2 w h => ?_)
 refine r_v (q_moveS rfl) rfl ?_; refine r_v (q_len rfl) rfl ?_; refine r_v (q_conv rfl) rfl ?_
 refine r_is (.int .u64 (L.length : Int)) (congrArg (Value.int .u64) (conv_nat (by omega))) ?_
 refine r_c rfl (x_call rfl (ref1_Put (bs := [UInt8.ofNat tag.toNat]) L.length (by omega) h (fun w' h' => (Reads.pt (m := 0) rfl rfl).at_ h') (by simp)) ?_)
 rintro _ w ⟨a1, c1, rfl, h⟩
 replace h := (h.f 1).drop
 refine r_v (q_assignS rfl) rfl ?_
 refine r_nil ?_
 have hp1 := vput_len L.length
 have hp2 := vput_len (zigT (firstT L))
 have hp3 := vput_len (zigT (lastT L))
 refine c_cut (Γ := Option Addr × Nat) (fun q => [(0, .int .i64 tag), (1, .slice sl L.length c), (6, .slice xa x.length xc), (8, .slice q.1 (UInt8.ofNat tag.toNat :: (chNums L).flatMap vput).length q.2)]) (fun q w => St w0 (OwnB q.1 q.2 (UInt8.ofNat tag.toNat :: (chNums L).flatMap vput) :: OwnB xa xc x :: l) w) ?_ ?_
 ·have hg0 : L[0]? = some (L[0]'(by omega)) := List.getElem?_eq_getElem _
  have hgl : L[L.length - 1]? = some (L[L.length - 1]'(by omega)) := List.getElem?_eq_getElem _
  have hf : firstT L = (L[0]'(by omega)).T := by unfold firstT; rw [List.head?_eq_getElem?, hg0]; rfl
  have ht : lastT L = (L[L.length - 1]'(by omega)).T := by unfold lastT; rw [List.getLast?_eq_getElem?, hgl]; rfl
  generalize L[0]'(by omega) = s0 at hg0 hf
  generalize L[L.length - 1]'(by omega) = s1 at hgl ht
  obtain ⟨b, o, hsl⟩ := ((hr.more [_, _]).at_ h).some (by omega)
  have hc0 : ∀ {w'}, (∃ M, St w0 (M ++ l) w') → w'.cell? ⟨b, o, none⟩ = some (.int .i64 s0.T) := fun ⟨M, h'⟩ => by
   have := (hsl ▸ hr M _ h').elem smp_len hg0 0 _ rfl; simpa using this
  have hc1 : ∀ {w'}, (∃ M, St w0 (M ++ l) w') → w'.cell? ⟨b, o + (L.length - 1) * 2 + 0, none⟩ = some (.int .i64 s1.T) := fun ⟨M, h'⟩ => (hsl ▸ hr M _ h').elem smp_len hgl 0 _ rfl
  refine c_anyW [0, 1, 2, 3, 4, 5, 6, 7, 8, 9, 10, 11, 12, 13, 14, 15, 16] none (fun w => ∃ M, St w0 (M ++ l) w) (by kernel_rfl) (by kernel_rfl) ?_
  replace h := h.drew
  generalize w.drew = w at h
  have hs := h
  replace h : ∃ M, St w0 (M ++ l) w := ⟨[_, _], hs⟩
  refine cur_pure rfl rfl rfl rfl (fun _ => h) (fun _ => flt_v rfl (q_moveS rfl)) ?_; refine cur_pure rfl rfl rfl rfl (fun _ => h) (fun _ => flt_v rfl (q_moveS rfl)) ?_
  refine cur_pure rfl rfl rfl rfl (fun _ => h) (fun _ => flt_v rfl (q_idx (b := b) (o := o) (m := L.length) (c := c) (j := 0) (o' := o) (by rw [← hsl]; rfl) rfl rfl (by omega) (by simp))) ?_
  refine cur_pure rfl rfl rfl rfl (fun _ => h) (fun _ => flt_v rfl (q_fa rfl)) ?_
  refine cur_float rfl rfl rfl rfl h (fun w h => flt_v rfl (q_loadc (v := .int .i64 s0.T) rfl (hc0 h))) ?_
  refine cur_skip ?_; refine cur_skip ?_; refine cur_pure rfl rfl rfl rfl (fun _ => h) (fun _ => flt_v rfl (q_moveS rfl)) ?_; refine cur_pure rfl rfl rfl rfl (fun _ => h) (fun _ => flt_v rfl (q_moveS rfl)) ?_; refine cur_pure rfl rfl rfl rfl (fun _ => h) (fun _ => flt_v rfl (q_len rfl)) ?_
  refine cur_pure rfl rfl rfl rfl (fun _ => h) (fun _ => flt_v rfl (q_is (v' := .int .i64 ((L.length - 1 : Nat) : Int)) (q_sub rfl rfl) (by rw [wrap64 (by omega) (by omega)]; congr 1; omega))) ?_
  refine cur_pure rfl rfl rfl rfl (fun _ => h) (fun _ => flt_v rfl (q_idx (b := b) (o := o) (m := L.length) (c := c) (j := L.length - 1) (o' := o + (L.length - 1) * 2) (by rw [← hsl]; rfl) rfl rfl (by omega) rfl)) ?_
  refine cur_pure rfl rfl rfl rfl (fun _ => h) (fun _ => flt_v rfl (q_fa rfl)) ?_
  refine cur_float rfl rfl rfl rfl h (fun w h => flt_v rfl (q_loadc (v := .int .i64 s1.T) rfl (hc1 h))) ?_
  refine cur_skip ?_; refine cur_skip ?_; refine cur_skip ?_
  refine cur_one 5 rfl rfl rfl rfl ?_
  refine (x_call rfl (ref1_Zig (hf ▸ w1) hs) ?_)
  rintro _ w ⟨rfl, hs⟩
  rw [← hf]
  replace h : ∃ M, St w0 (M ++ l) w := ⟨[_, _], hs⟩
  refine ⟨fun _ => h, ?_⟩
  refine cur_skip ?_; refine cur_skip ?_; refine cur_skip ?_; refine cur_skip ?_
  refine cur_one 6 rfl rfl rfl rfl ?_
  refine (x_call rfl (ref1_Put (zigT (firstT L)) (zigT_lt _) hs (fun w' h' => h'.own_rd) (by simp; omega)) ?_)
  rintro _ w ⟨a2, c2, rfl, hs⟩
  replace h : ∃ M, St w0 (M ++ l) w := ⟨[_, _, _], hs⟩
  refine ⟨fun _ => h, ?_⟩
  refine cur_skip ?_; refine cur_skip ?_; refine cur_skip ?_
  refine cur_one 14 rfl rfl rfl rfl ?_
  refine (x_call rfl (ref1_Zig (ht ▸ w2) hs) ?_)
  rintro _ w ⟨rfl, hs⟩
  rw [← ht]
  replace h : ∃ M, St w0 (M ++ l) w := ⟨[_, _, _], hs⟩
  refine ⟨fun _ => h, ?_⟩
  refine cur_skip ?_; refine cur_skip ?_
  refine cur_one 15 rfl rfl rfl rfl ?_
  refine (x_call rfl (ref1_Put (zigT (lastT L)) (zigT_lt _) hs (fun w' h' => h'.own_rd) (by simp; omega)) ?_)
  rintro _ w ⟨a3, c3, rfl, hs⟩
  replace h : ∃ M, St w0 (M ++ l) w := ⟨[_, _, _, _], hs⟩
  refine ⟨fun _ => h, ?_⟩
  refine cur_pure rfl rfl rfl rfl (fun _ => h) (fun _ => flt_v rfl (q_assignS rfl)) ?_
  have e3 : [UInt8.ofNat tag.toNat] ++ vput L.length ++ vput (zigT (firstT L)) ++ vput (zigT (lastT L)) = UInt8.ofNat tag.toNat :: (chNums L).flatMap vput := by simp [chNums]
  rw [e3] at hs
  refine cur_end ⟨(a3, c3), ⟨rfl, rfl, rfl, ?_, trivial⟩, ((hs.f 1).drop.f 1).drop⟩
  show Value.slice _ _ _ = Value.slice _ _ _
  rw [e3]
 clear h a1 c1
 rintro ⟨a1, c1⟩ w e h
 dsimp only at h ⊢
 have hbl := chBody_len tag L x
 have hbe : chBody tag L x = (UInt8.ofNat tag.toNat :: (chNums L).flatMap vput) ++ x := by simp [chBody]
 have hbl2 : (UInt8.ofNat tag.toNat :: (chNums L).flatMap vput).length + x.length = (chBody tag L x).length := by rw [hbe, List.length_append]
 generalize UInt8.ofNat tag.toNat :: (chNums L).flatMap vput = hd at h hbe hbl2 ⊢
 generalize chBody tag L x = B at hbe hbl hbl2 ⊢
 refine c_seq (c_region ?_)
 refine r_v (q_moveS rfl) rfl ?_; refine r_v (q_moveS rfl) rfl ?_
 refine r_c rfl (x_append' (ys := bytesV x) (zs := bytesV B) (m3 := B.length) h rfl rfl (h.f 1).own_rd (bytesV_one _) (by omega) (by rw [hbe]; simp [bytesV]) (by omega) (by omega) rfl fun a2 c2 w _ h => ?_)
 refine r_v (q_assignS rfl) rfl ?_
 refine r_nil ?_
 refine c_seq (c_region ?_)
 refine r_v (q_moveS rfl) rfl ?_
 refine r_c rfl (x_call rfl (ref1_Sum (bs := B) (by omega) Reads.own h) ?_)
 rintro _ w ⟨rfl, h⟩
 refine r_v (q_assignI rfl) rfl ?_
 refine r_nil ?_
 generalize crc B = k
 refine c_seq (c_region ?_)
 refine r_v (q_moveS rfl) rfl ?_; refine r_v (q_moveI rfl) rfl ?_
 refine r_v (q_is (v' := .int .u32 ((k / 2 ^ 24 : Nat) : Int)) (q_shr rfl rfl (by omega)) (congrArg (Value.int .u32) (fdiv_nat k 24 32 (by decide)))) rfl ?_
 refine r_v (q_conv rfl) rfl ?_
 refine r_is (.int .u8 ((UInt8.ofNat (k / 2 ^ 24)).toNat : Int)) (by rw [wrap_u8, UInt8.toNat_ofNat']) ?_
 refine r_v (q_moveI rfl) rfl ?_
 refine r_v (q_is (v' := .int .u32 ((k / 2 ^ 16 : Nat) : Int)) (q_shr rfl rfl (by omega)) (congrArg (Value.int .u32) (fdiv_nat k 16 32 (by decide)))) rfl ?_
 refine r_v (q_conv rfl) rfl ?_
 refine r_is (.int .u8 ((UInt8.ofNat (k / 2 ^ 16)).toNat : Int)) (by rw [wrap_u8, UInt8.toNat_ofNat']) ?_
 refine r_v (q_moveI rfl) rfl ?_
 refine r_v (q_is (v' := .int .u32 ((k / 2 ^ 8 : Nat) : Int)) (q_shr rfl rfl (by omega)) (congrArg (Value.int .u32) (fdiv_nat k 8 32 (by decide)))) rfl ?_
 refine r_v (q_conv rfl) rfl ?_
 refine r_is (.int .u8 ((UInt8.ofNat (k / 2 ^ 8)).toNat : Int)) (by rw [wrap_u8, UInt8.toNat_ofNat']) ?_
 refine r_v (q_moveI rfl) rfl ?_; refine r_v (q_conv rfl) rfl ?_
 refine r_is (.int .u8 ((UInt8.ofNat k).toNat : Int)) (by rw [wrap_u8, UInt8.toNat_ofNat']) ?_
 refine r_c rfl (x_bslice (r := bytesV (be4 k)) h rfl rfl rfl fun b4 w h => ?_)
 refine r_c rfl (x_append' (ys := bytesV (be4 k)) (zs := bytesV (B ++ be4 k)) (m3 := (B ++ be4 k).length) (h.f 1) rfl rfl ⟨rfl, .inr ⟨b4, 0, rfl, at_of (h.b 0 rfl) rfl⟩⟩ (bytesV_one _) (by simp [be4_len]) (by simp [bytesV]) (by rw [List.length_append, be4_len]; omega) (by rw [List.length_append, be4_len]; omega) rfl fun a3 c3 w _ h => ?_)
 refine r_v (q_assignS rfl) rfl ?_; refine r_v (q_assignB rfl) rfl ?_
 refine r_nil ?_
 refine c_ret (bq2 ⟨a3, c3, rfl, ?_⟩)
 have h' := ((h.f 1).drop.f 1).drop
 exact h'
end
end Go.Proofs.YtjjacchnalemaaaGreatDoor

namespace Go.Hw
theorem WkS.one {s : WkS} {k : Nat} (h : s.ov = true ∨ (s.ov = false ∧ 0 < s.lf ∧ s.lf ≤ 60 - (k : Int))) (hl : -200000 ≤ s.lf ∧ s.lf ≤ 60) :
  ((s.step 1).ov = true ∨ ((s.step 1).ov = false ∧ 0 < (s.step 1).lf ∧ (s.step 1).lf ≤ 60 - ((k + 1 : Nat) : Int))) ∧ -200000 ≤ (s.step 1).lf ∧ (s.step 1).lf ≤ 60 := by
 obtain ⟨bg, ov, lf, bad⟩ := s
 have h1 : clampN 1 = 1 := rfl
 unfold WkS.step
 rw [h1]
 dsimp only at h hl ⊢
 rcases h with rfl | ⟨rfl, h2, h3⟩
 ·exact ⟨.inl (by simp), by simpa using hl⟩
 ·by_cases hz : lf - 1 ≤ 0
  ·exact ⟨.inl (by simpa using hz), by simp; omega⟩
  ·exact ⟨.inr ⟨by simpa using hz, by simp; omega, by simp; omega⟩, by simp; omega⟩
end Go.Hw
namespace Go.Proofs.YtjjacchnalemaaaGreatDoor
open Go.Hw
set_option maxHeartbeats 4000000
set_option maxRecDepth 100000
section
variable {w0 w : World} {l : List HProp}
theorem law12_WorkOwn (hT : Tz w0) {st : Option Addr} {ct : Nat} {xs : List Int} {sv : Option Addr} {cv : Nat} {us_ : List Nat} (how : Int)
  (hx : ∀ x ∈ xs, I64 x) (hn : xs.length ≤ 9223372036854775807) (hrt : Reads w0 l 1 st xs.length (i64V xs))
  (hu : ∀ x ∈ us_, x < 18446744073709551616) (hnu : us_.length ≤ 9223372036854775807) (hrv : Reads w0 l 1 sv us_.length (u64V us_)) (h : St w0 l w) :
  Ret Tryz.prog 5 [.slice st xs.length ct, .slice sv us_.length cv, .int .i64 how] w fun v w' => v = .bool true ∧ St w0 l w' := by
 refine enter Tryz.func5 rfl Tryz.results5 Tryz.ntmps5 rfl ?_
 refine c_seq (c_region ?_)
 refine r_v (q_assignB rfl) rfl ?_
 refine r_nil ?_
 refine c_seq (c_region ?_)
 refine r_v (q_moveS rfl) rfl ?_; refine r_v (q_moveS rfl) rfl ?_; refine r_v (q_moveI rfl) rfl ?_
 refine r_c rfl (x_call rfl (law10_Row how hx hn hrt hu hnu hrv h) ?_)
 rintro _ w ⟨sa, sc, L, hL60, hwf, hris, rfl, h⟩
 refine r_v (q_assignS rfl) rfl ?_
 refine r_nil ?_
 refine c_seq (c_region ?_)
 refine r_v (q_moveS rfl) rfl ?_
 refine r_c rfl (x_call rfl (ref10_Make 1 hwf (by omega) Reads.own h) ?_)
 cases hM : chMake 1 L with
 | none =>
  rintro _ w ⟨wa, wc, rfl, h⟩
  show Rn _ _ _ _ _ (upd _ _ (.tuple [.slice wa 0 wc, .bool false].toArray)) _
  refine r_v (q_moveT rfl) rfl ?_; refine r_v (q_ext rfl rfl) rfl ?_; refine r_v (q_ext rfl rfl) rfl ?_; refine r_v (q_assignS rfl) rfl ?_; refine r_v (q_assignB rfl) rfl ?_
  refine r_nil ?_
  refine c_seq (c_seq (c_region ?_))
  refine r_v (q_moveB rfl) rfl ?_; refine r_v (q_not rfl) rfl ?_
  refine r_nil (c_true rfl ?_)
  refine c_seq (c_region ?_)
  refine r_c rfl (x_call rfl (law12_awake hT h) ?_)
  rintro _ w ⟨rfl, h⟩
  refine r_v (q_assignB rfl) rfl ?_
  exact r_nil (c_ret (bq1 ⟨rfl, h.drop.drop⟩))
 | some B =>
 have hBl : B.length ≤ 4000000 := chMake_len2 hwf hM
 have hopen := chOpen_told hwf (by omega) hM
 have hdL : decL B = L := by unfold decL; rw [hopen]; rfl
 have hdB : decBegin B = ⟨true, false, L.length, false⟩ := by unfold decBegin; rw [hdL, hopen]; rfl
 have heB : encBegin (chMake 1 L) L.length = ⟨true, false, L.length, false⟩ := by rw [hM]; rfl
 obtain ⟨_, _, hLn, _⟩ := chMake_some hM
 have hLpos : 0 < L.length := List.length_pos_iff.2 hLn
 rintro _ w ⟨wa, wc, rfl, h⟩
 replace h : St w0 (OwnB wa wc B :: OwnS sa sc L :: l) w := h
 show Rn _ _ _ _ _ (upd _ _ (.tuple [.slice wa B.length wc, .bool true].toArray)) _
 refine r_v (q_moveT rfl) rfl ?_; refine r_v (q_ext rfl rfl) rfl ?_; refine r_v (q_ext rfl rfl) rfl ?_; refine r_v (q_assignS rfl) rfl ?_; refine r_v (q_assignB rfl) rfl ?_
 refine r_nil ?_
 refine c_seq (c_seq (c_region ?_))
 refine r_v (q_moveB rfl) rfl ?_; refine r_v (q_not rfl) rfl ?_
 refine r_nil (c_false rfl (c_skip ?_))
 have hBpos : 0 < B.length := by
  obtain ⟨x, _, _, hb⟩ := chMake_some hM
  have := chBody_len 1 L x
  rw [hb, List.length_append]; omega
 refine c_seq (c_region ?_)
 refine r_c rfl (x_bslice (r := []) h rfl rfl rfl fun b1 w h => ?_)
 refine r_v (q_moveS rfl) rfl ?_
 have h1 : St w0 (Own 53 2 (some ⟨b1, 0, none⟩) 0 0 [] :: OwnB wa wc B :: OwnS sa sc L :: l) w := St.own_mk (cur := []) h rfl rfl (Nat.le_refl _)
 refine r_c rfl (x_append' (zs := smpsV L) (m3 := L.length) h1 rfl rfl (h.f 2).own_rd (smps_one _) (by omega) (List.nil_append _) (by omega) (by omega) rfl fun xa xc w hn1 h => ?_)
 clear h1
 refine r_c rfl (x_bslice (r := []) h rfl rfl rfl fun b2 w h => ?_)
 refine r_v (q_moveS rfl) rfl ?_
 have h1 : St w0 (Own 5 1 (some ⟨b2, 0, none⟩) 0 0 [] :: OwnS xa xc L :: OwnB wa wc B :: OwnS sa sc L :: l) w := St.own_mk (cur := []) h rfl rfl (Nat.le_refl _)
 refine r_c rfl (x_append' (zs := bytesV B) (m3 := B.length) h1 rfl rfl (h.f 2).own_rd (bytesV_one _) (by omega) (List.nil_append _) (by omega) (by omega) rfl fun ya yc w hn2 h => ?_)
 clear h1
 refine r_v (q_assignS rfl) rfl ?_; refine r_v (q_assignS rfl) rfl ?_
 refine r_nil ?_
 obtain ⟨gx, rfl⟩ := (h.f 1).own_some hLpos
 obtain ⟨gy, rfl⟩ := h.own_some hBpos
 refine c_seq (c_region ?_)
 refine r_v (q_moveS rfl) rfl ?_
 refine r_c rfl (x_call rfl (work_NewEncoder 1 (L := L) (by omega) Reads.own.cons h) ?_)
 rintro _ w ⟨p, la, lc, rfl, h⟩
 refine r_v (q_moveS rfl) rfl ?_
 refine r_c rfl (x_call rfl (work_NewDecoder (bs := B) (by omega) (Reads.own.more [_, _]) h) ?_)
 rintro _ w ⟨p2, ba, bc, rfl, h⟩
 refine r_v (q_assignP rfl) rfl ?_; refine r_v (q_assignP rfl) rfl ?_
 refine r_nil ?_
 refine c_seq (c_seq (c_region ?_))
 refine r_v (q_moveP rfl) rfl ?_; refine r_v (q_eqnil rfl rfl) rfl ?_; refine r_v (q_moveB rfl) rfl ?_; (first | refine r_gd rfl rfl ?_ | refine r_gn rfl rfl rfl ?_ | refine r_gu rfl rfl ?_ | refine r_gd rfl (by assumption) ?_ | refine r_gn rfl (by assumption) rfl ?_); refine r_v (q_moveP rfl) rfl ?_; (first | refine r_gd rfl rfl ?_ | refine r_gn rfl rfl rfl ?_ | refine r_gu rfl rfl ?_ | refine r_gd rfl (by assumption) ?_ | refine r_gn rfl (by assumption) rfl ?_); refine r_v (q_eqnil rfl rfl) rfl ?_; (first | refine r_v (q_pick1 rfl rfl rfl) rfl ?_ | refine r_v (q_pick0 rfl rfl rfl) rfl ?_ | refine r_v (q_pick1 rfl (by assumption) rfl) rfl ?_ | refine r_v (q_pick0 rfl (by assumption) rfl) rfl ?_ | refine r_v (q_pickB rfl rfl rfl) rfl ?_)
 refine r_nil (c_false rfl (c_skip ?_))
 replace h : St w0 (OwnS (some ⟨gx, 0, none⟩) xc L :: OwnB (some ⟨gy, 0, none⟩) yc B :: DecPt p2 ⟨false, false, 0, false⟩ ba B.length bc none 0 0 :: OwnB ba bc B :: EncPt p ⟨false, false, 0, false⟩ 1 la L.length lc none 0 0 :: OwnS la lc L :: OwnB wa wc B :: OwnS sa sc L :: l) w := (h.f 4).f 5
 refine c_cut (Γ := Unit) (fun _ => [(7, .slice sa L.length sc), (8, .slice wa B.length wc), (11, .slice (some ⟨gy, 0, none⟩) B.length yc), (12, .pointer (some ⟨p, 0, none⟩)), (13, .pointer (some ⟨p2, 0, none⟩))])
  (fun _ w => St w0 (OwnB (some ⟨gy, 0, none⟩) yc B :: DecPt p2 ⟨false, false, 0, false⟩ ba B.length bc none 0 0 :: OwnB ba bc B :: EncPt p ⟨false, false, 0, false⟩ 1 la L.length lc none 0 0 :: OwnS la lc L :: OwnB wa wc B :: OwnS sa sc L :: l) w) ?_ ?_
 ·refine c_seq (c_region ?_)
  refine r_v (q_moveS rfl) rfl ?_; refine r_v (q_len rfl) rfl ?_; refine r_v (q_moveI rfl) rfl ?_
  refine r_nil ?_
  refine c_block ?_
  refine c_loop (Γ := Nat × List Smp) (fun k => [(7, .slice sa L.length sc), (8, .slice wa B.length wc), (10, .slice (some ⟨gx, 0, none⟩) L.length xc), (11, .slice (some ⟨gy, 0, none⟩) B.length yc), (12, .pointer (some ⟨p, 0, none⟩)), (13, .pointer (some ⟨p2, 0, none⟩)), (53, .int .i64 L.length), (54, .int .i64 k.1)])
   (fun k w => k.2.length = L.length ∧ k.1 ≤ L.length ∧ St w0 (Own 53 2 (some ⟨gx, 0, none⟩) L.length xc (smpsV k.2) :: OwnB (some ⟨gy, 0, none⟩) yc B :: DecPt p2 ⟨false, false, 0, false⟩ ba B.length bc none 0 0 :: OwnB ba bc B :: EncPt p ⟨false, false, 0, false⟩ 1 la L.length lc none 0 0 :: OwnS la lc L :: OwnB wa wc B :: OwnS sa sc L :: l) w) (fun k => L.length - k.1) (0, L) ⟨rfl, rfl, rfl, rfl, rfl, rfl, rfl, rfl, trivial⟩ ⟨rfl, Nat.zero_le _, h⟩ ?_
  clear h
  rintro ⟨k, X⟩ w e ⟨hXl, hk, h⟩
  dsimp only at hXl hk h ⊢
  refine c_seq (c_region ?_)
  refine r_v (q_lss rfl rfl) rfl ?_
  refine r_nil ?_
  refine c_seq (c_cond (decide ((k : Int) < (L.length : Int))) rfl (fun hc => ?_) (fun hc => ?_))
  ·have hlt : k < L.length := by simp at hc; omega
   have hg := List.getElem?_eq_getElem (show k < X.length by omega)
   generalize X[k]'(by omega) = s at hg
   refine c_skip ?_
   refine c_seq (c_block ?_)
   refine c_seq (c_region ?_)
   refine r_v (q_moveI rfl) rfl ?_; refine r_v (q_assignI rfl) rfl ?_
   refine r_nil ?_
   refine c_region ?_
   refine r_v (q_moveS rfl) rfl ?_; refine r_v (q_moveI rfl) rfl ?_
   refine r_v (q_idx (o' := k * 2) rfl rfl rfl hlt (by simp)) rfl ?_
   refine r_v (q_fa rfl) rfl ?_
   refine r_v (q_loadc (v := .int .u64 s.V) rfl (by have := h.own_rd.cell (flat_get smp_len X k s hg 1 (.int .u64 s.V) rfl); simpa using this)) rfl ?_
   refine r_v (q_add rfl rfl) rfl ?_
   refine r_v (q_idx (o' := k * 2) rfl rfl rfl hlt (by simp)) rfl ?_
   refine r_v (q_fa rfl) rfl ?_
   refine r_c rfl (x_ownset (v := .int .u64 (IntKind.u64.wrap (s.V + 1))) h rfl rfl (by omega) rfl fun w h => ?_)
   rw [flat_set smp_len X k s ⟨s.T, IntKind.u64.wrap (s.V + 1)⟩ 1 _ hg (by decide) rfl] at h
   refine r_nil ?_
   refine c_region ?_
   refine r_v (q_add rfl rfl) rfl ?_
   refine r_is (.int .i64 ((k + 1 : Nat) : Int)) (by rw [wrap64 (by omega) (by omega)]; rfl) ?_
   refine r_v (q_moveI rfl) rfl ?_
   exact r_nil ⟨(k + 1, X.set k ⟨s.T, IntKind.u64.wrap (s.V + 1)⟩), ⟨rfl, rfl, rfl, rfl, rfl, rfl, rfl, rfl, trivial⟩, ⟨by simp [hXl], hlt, h⟩, by dsimp only; omega⟩
  ·exact c_exit ⟨(), ⟨rfl, rfl, rfl, rfl, rfl, trivial⟩, h.drop⟩
 clear h
 rintro ⟨⟩ w e h
 refine c_cut (Γ := Unit) (fun _ => [(7, .slice sa L.length sc), (8, .slice wa B.length wc), (12, .pointer (some ⟨p, 0, none⟩)), (13, .pointer (some ⟨p2, 0, none⟩))])
  (fun _ w => St w0 (DecPt p2 ⟨false, false, 0, false⟩ ba B.length bc none 0 0 :: OwnB ba bc B :: EncPt p ⟨false, false, 0, false⟩ 1 la L.length lc none 0 0 :: OwnS la lc L :: OwnB wa wc B :: OwnS sa sc L :: l) w) ?_ ?_
 ·refine c_seq (c_region ?_)
  refine r_v (q_moveS rfl) rfl ?_; refine r_v (q_len rfl) rfl ?_; refine r_v (q_moveI rfl) rfl ?_
  refine r_nil ?_
  refine c_block ?_
  refine c_loop (Γ := Nat × List UInt8) (fun k => [(7, .slice sa L.length sc), (8, .slice wa B.length wc), (11, .slice (some ⟨gy, 0, none⟩) B.length yc), (12, .pointer (some ⟨p, 0, none⟩)), (13, .pointer (some ⟨p2, 0, none⟩)), (67, .int .i64 B.length), (68, .int .i64 k.1)])
   (fun k w => k.2.length = B.length ∧ k.1 ≤ B.length ∧ St w0 (Own 5 1 (some ⟨gy, 0, none⟩) B.length yc (bytesV k.2) :: DecPt p2 ⟨false, false, 0, false⟩ ba B.length bc none 0 0 :: OwnB ba bc B :: EncPt p ⟨false, false, 0, false⟩ 1 la L.length lc none 0 0 :: OwnS la lc L :: OwnB wa wc B :: OwnS sa sc L :: l) w) (fun k => B.length - k.1) (0, B) ⟨rfl, rfl, rfl, rfl, rfl, rfl, rfl, trivial⟩ ⟨rfl, Nat.zero_le _, h⟩ ?_
  clear h
  rintro ⟨k, X⟩ w e ⟨hXl, hk, h⟩
  dsimp only at hXl hk h ⊢
  refine c_seq (c_region ?_)
  refine r_v (q_lss rfl rfl) rfl ?_
  refine r_nil ?_
  refine c_seq (c_cond (decide ((k : Int) < (B.length : Int))) rfl (fun hc => ?_) (fun hc => ?_))
  ·have hlt : k < B.length := by simp at hc; omega
   have hg := List.getElem?_eq_getElem (show k < X.length by omega)
   generalize X[k]'(by omega) = s at hg
   refine c_skip ?_
   refine c_seq (c_block ?_)
   refine c_seq (c_region ?_)
   refine r_v (q_moveI rfl) rfl ?_; refine r_v (q_assignI rfl) rfl ?_
   refine r_nil ?_
   refine c_region ?_
   refine r_v (q_moveS rfl) rfl ?_; refine r_v (q_moveI rfl) rfl ?_
   refine r_v (q_idx (o' := k) rfl rfl rfl hlt (by simp)) rfl ?_
   refine r_v (q_loadc (v := .int .u8 s.toNat) rfl (by have := h.own_rd.cell (bytesV_get hg); simpa using this)) rfl ?_
   refine r_v (q_add rfl rfl) rfl ?_
   refine r_is (.int .u8 ((UInt8.ofNat (s.toNat + 1)).toNat : Int)) (by rw [show (s.toNat : Int) + 1 = ((s.toNat + 1 : Nat) : Int) from rfl, wrap_u8, UInt8.toNat_ofNat']) ?_
   refine r_v (q_idx (o' := k) rfl rfl rfl hlt (by simp)) rfl ?_
   refine r_c rfl (x_ownset (v := .int .u8 ((UInt8.ofNat (s.toNat + 1)).toNat : Int)) h rfl rfl (by omega) rfl fun w h => ?_)
   rw [bytesV_set] at h
   refine r_nil ?_
   refine c_region ?_
   refine r_v (q_add rfl rfl) rfl ?_
   refine r_is (.int .i64 ((k + 1 : Nat) : Int)) (by rw [wrap64 (by omega) (by omega)]; rfl) ?_
   refine r_v (q_moveI rfl) rfl ?_
   exact r_nil ⟨(k + 1, X.set k (UInt8.ofNat (s.toNat + 1))), ⟨rfl, rfl, rfl, rfl, rfl, rfl, rfl, trivial⟩, ⟨by simp [hXl], hlt, h⟩, by dsimp only; omega⟩
  ·exact c_exit ⟨(), ⟨rfl, rfl, rfl, rfl, trivial⟩, h.drop⟩
 clear h
 rintro ⟨⟩ w e h
 refine c_cut (Γ := WkS × WkS × (Option Addr × Nat) × Option Addr × Nat) (fun _ => [(7, .slice sa L.length sc), (8, .slice wa B.length wc), (12, .pointer (some ⟨p, 0, none⟩)), (13, .pointer (some ⟨p2, 0, none⟩))])
  (fun q w => q.1.ov = true ∧ q.1.bad = false ∧ q.2.1.ov = true ∧ q.2.1.bad = false ∧ St w0 (EncPt p q.1 1 la L.length lc q.2.2.1.1 B.length q.2.2.1.2 :: OwnB q.2.2.1.1 q.2.2.1.2 B :: DecPt p2 q.2.1 ba B.length bc q.2.2.2.1 L.length q.2.2.2.2 :: OwnS q.2.2.2.1 q.2.2.2.2 L :: OwnB wa wc B :: OwnS sa sc L :: l) w) ?_ ?_
 ·refine c_seq (c_region ?_)
  refine r_v (q_assignI rfl) rfl ?_
  refine r_nil ?_
  refine c_block ?_
  refine c_loop (Γ := Nat × Option (WkS × WkS × (Option Addr × Nat) × Option Addr × Nat)) (fun k => [(7, .slice sa L.length sc), (8, .slice wa B.length wc), (12, .pointer (some ⟨p, 0, none⟩)), (13, .pointer (some ⟨p2, 0, none⟩)), (16, .int .i64 k.1)])
   (fun k w => k.1 ≤ 100 ∧ match k.2 with
    | none => k.1 = 0 ∧ St w0 (DecPt p2 ⟨false, false, 0, false⟩ ba B.length bc none 0 0 :: OwnB ba bc B :: EncPt p ⟨false, false, 0, false⟩ 1 la L.length lc none 0 0 :: OwnS la lc L :: OwnB wa wc B :: OwnS sa sc L :: l) w
    | some q => (q.1.bg = true ∧ q.1.bad = false ∧ (q.1.ov = true ∨ (q.1.ov = false ∧ 0 < q.1.lf ∧ q.1.lf ≤ 60 - (k.1 : Int))) ∧ -200000 ≤ q.1.lf ∧ q.1.lf ≤ 60) ∧
      (q.2.1.bg = true ∧ q.2.1.bad = false ∧ (q.2.1.ov = true ∨ (q.2.1.ov = false ∧ 0 < q.2.1.lf ∧ q.2.1.lf ≤ 60 - (k.1 : Int))) ∧ -200000 ≤ q.2.1.lf ∧ q.2.1.lf ≤ 60) ∧
      St w0 (EncPt p q.1 1 la L.length lc q.2.2.1.1 B.length q.2.2.1.2 :: OwnB q.2.2.1.1 q.2.2.1.2 B :: DecPt p2 q.2.1 ba B.length bc q.2.2.2.1 L.length q.2.2.2.2 :: OwnS q.2.2.2.1 q.2.2.2.2 L :: OwnB wa wc B :: OwnS sa sc L :: l) w)
   (fun k => 100 - k.1) (0, none) ⟨rfl, rfl, rfl, rfl, rfl, trivial⟩ ⟨Nat.zero_le _, rfl, h⟩ ?_
  clear h
  rintro ⟨k, o⟩ w e ⟨hk, hq⟩
  dsimp only at hk hq ⊢
  refine c_seq (c_seq (c_region ?_))
  refine r_v (q_moveI rfl) rfl ?_; refine r_v (q_lss rfl rfl) rfl ?_
  by_cases hlt : k < 100
  ·refine r_is (.bool true) (by simp; omega) ?_
   refine r_nil (c_true rfl (c_skip ?_))
   have e0 : (WkS.mk true false (L.length : Int) false).ov = true ∨ ((WkS.mk true false (L.length : Int) false).ov = false ∧ 0 < (WkS.mk true false (L.length : Int) false).lf ∧ (WkS.mk true false (L.length : Int) false).lf ≤ 60 - ((0 : Nat) : Int)) := .inr ⟨rfl, by dsimp only; omega, by dsimp only; omega⟩
   have e1 := WkS.one e0 (by dsimp only; omega)
   refine c_cut (Γ := WkS × WkS × (Option Addr × Nat) × Option Addr × Nat) (fun _ => [(7, .slice sa L.length sc), (8, .slice wa B.length wc), (12, .pointer (some ⟨p, 0, none⟩)), (13, .pointer (some ⟨p2, 0, none⟩)), (16, .int .i64 k)])
    (fun q w => (q.1.bg = true ∧ q.1.bad = false ∧ (q.1.ov = true ∨ (q.1.ov = false ∧ 0 < q.1.lf ∧ q.1.lf ≤ 60 - ((k + 1 : Nat) : Int))) ∧ -200000 ≤ q.1.lf ∧ q.1.lf ≤ 60) ∧
      (q.2.1.bg = true ∧ q.2.1.bad = false ∧ (q.2.1.ov = true ∨ (q.2.1.ov = false ∧ 0 < q.2.1.lf ∧ q.2.1.lf ≤ 60 - ((k + 1 : Nat) : Int))) ∧ -200000 ≤ q.2.1.lf ∧ q.2.1.lf ≤ 60) ∧
      St w0 (EncPt p q.1 1 la L.length lc q.2.2.1.1 B.length q.2.2.1.2 :: OwnB q.2.2.1.1 q.2.2.1.2 B :: DecPt p2 q.2.1 ba B.length bc q.2.2.2.1 L.length q.2.2.2.2 :: OwnS q.2.2.2.1 q.2.2.2.2 L :: OwnB wa wc B :: OwnS sa sc L :: l) w) ?_ ?_
   ·refine c_block ?_
    cases o with
    | none =>
     obtain ⟨hk0, h⟩ := hq
     subst hk0
     refine c_seq (c_region ?_)
     refine r_v (q_moveP rfl) rfl ?_
     refine r_c rfl (x_call rfl (enc_Step0 hT 1 hwf (by omega) (h.o [2, 3])) ?_)
     rw [heB, hM]
     rintro _ w ⟨ba2, bc2, rfl, h⟩
     replace h : St w0 (EncPt p ((WkS.mk true false (L.length : Int) false).step 1) 1 la L.length lc ba2 B.length bc2 :: OwnB ba2 bc2 B :: OwnS la lc L :: DecPt p2 ⟨false, false, 0, false⟩ ba B.length bc none 0 0 :: OwnB ba bc B :: OwnB wa wc B :: OwnS sa sc L :: l) w := h.f 1 |>.f 1
     refine r_nil ?_
     refine c_region ?_
     refine r_v (q_moveP rfl) rfl ?_
     refine r_c rfl (x_call rfl (dec_Step0 hT 1 (by omega) (h.o [3, 4])) ?_)
     rw [hdB, hdL]
     rintro _ w ⟨l2, lc2, rfl, _, h⟩
     replace h := h.x [2, 5]
     exact r_nil ⟨((WkS.mk true false (L.length : Int) false).step 1, (WkS.mk true false (L.length : Int) false).step 1, (ba2, bc2), l2, lc2), ⟨rfl, rfl, rfl, rfl, rfl, trivial⟩, ⟨rfl, rfl, e1⟩, ⟨rfl, rfl, e1⟩, h.o [2, 3]⟩
    | some q =>
     obtain ⟨s, t, ⟨ba2, bc2⟩, l2, lc2⟩ := q
     obtain ⟨⟨a1, a2, a3, a4, a5⟩, ⟨b1, b2, b3, b4, b5⟩, h⟩ := hq
     dsimp only at a1 a2 a3 a4 a5 b1 b2 b3 b4 b5 h
     refine c_seq (c_region ?_)
     refine r_v (q_moveP rfl) rfl ?_
     refine r_c rfl (x_call rfl (enc_Step (s := s) 1 a1 (by omega) h) ?_)
     rintro _ w ⟨rfl, h⟩
     refine r_nil ?_
     refine c_region ?_
     refine r_v (q_moveP rfl) rfl ?_
     refine r_c rfl (x_call rfl (dec_Step (s := t) 1 b1 (by omega) (h.f 2)) ?_)
     rintro _ w ⟨rfl, h⟩
     exact r_nil ⟨(s.step 1, t.step 1, (ba2, bc2), l2, lc2), ⟨rfl, rfl, rfl, rfl, rfl, trivial⟩, ⟨a1, a2, WkS.one a3 ⟨a4, a5⟩⟩, ⟨b1, b2, WkS.one b3 ⟨b4, b5⟩⟩, h.o [1, 2, 0]⟩
   clear hq
   rintro q w e ⟨hq1, hq2, h⟩
   refine c_region ?_
   refine r_v (q_moveI rfl) rfl ?_; refine r_v (q_add rfl rfl) rfl ?_
   refine r_is (.int .i64 ((k + 1 : Nat) : Int)) (by rw [wrap64 (by omega) (by omega)]; rfl) ?_
   refine r_v (q_assignI rfl) rfl ?_
   exact r_nil ⟨(k + 1, some q), ⟨rfl, rfl, rfl, rfl, rfl, trivial⟩, ⟨hlt, hq1, hq2, h⟩, by dsimp only; omega⟩
  ·refine r_is (.bool false) (by simp; omega) ?_
   refine r_nil (c_false rfl ?_)
   cases o with
   | none => have := hq.1; omega
   | some q =>
    obtain ⟨⟨a1, a2, a3, a4, a5⟩, ⟨b1, b2, b3, b4, b5⟩, h⟩ := hq
    refine c_exit ⟨q, ⟨rfl, rfl, rfl, rfl, trivial⟩, ?_, a2, ?_, b2, h⟩
    ·rcases a3 with a3 | ⟨_, a3, a3'⟩
     ·exact a3
     ·omega
    ·rcases b3 with b3 | ⟨_, b3, b3'⟩
     ·exact b3
     ·omega
 clear h
 rintro ⟨s, t, ⟨ba2, bc2⟩, l2, lc2⟩ w e ⟨s1, s2, t1, t2, h⟩
 dsimp only at s1 s2 t1 t2 h ⊢
 refine c_seq (c_region ?_)
 refine r_v (q_moveP rfl) rfl ?_
 refine r_c rfl (x_call rfl (enc_Done (bs := B) (by omega) h) ?_)
 rw [s1, s2]
 rintro _ w ⟨ca, cc, rfl, h⟩
 replace h : St w0 (OwnB ca cc B :: DecPt p2 t ba B.length bc l2 L.length lc2 :: OwnS l2 lc2 L :: OwnB wa wc B :: OwnS sa sc L :: l) w := ((h.f 1).drop.f 1).drop
 show Rn _ _ _ _ _ (upd _ _ (.tuple [.slice ca B.length cc, .bool true].toArray)) _
 refine r_v (q_moveT rfl) rfl ?_; refine r_v (q_ext rfl rfl) rfl ?_; refine r_v (q_ext rfl rfl) rfl ?_; refine r_v (q_assignS rfl) rfl ?_; refine r_v (q_assignB rfl) rfl ?_
 refine r_nil ?_
 refine c_seq (c_region ?_)
 refine r_v (q_moveP rfl) rfl ?_
 refine r_c rfl (x_call rfl (dec_Done (L := L) (by omega) (Reads.own.more [_, _]) (h.f 1)) ?_)
 rw [t1, t2]
 rintro _ w ⟨ya, yc, rfl, h⟩
 replace h : St w0 (OwnS ya yc L :: OwnB ca cc B :: DecPt p2 t ba B.length bc l2 L.length lc2 :: OwnS l2 lc2 L :: OwnB wa wc B :: OwnS sa sc L :: l) w := (h.f 2).f 1
 show Rn _ _ _ _ _ (upd _ _ (.tuple [.slice ya L.length yc, .bool true].toArray)) _
 refine r_v (q_moveT rfl) rfl ?_; refine r_v (q_ext rfl rfl) rfl ?_; refine r_v (q_ext rfl rfl) rfl ?_; refine r_v (q_assignS rfl) rfl ?_; refine r_v (q_assignB rfl) rfl ?_
 refine r_nil ?_
 obtain ⟨gy, rfl⟩ := h.own_some hLpos
 refine c_cut (Γ := Unit) (fun _ => [(7, .slice sa L.length sc), (8, .slice wa B.length wc), (13, .pointer (some ⟨p2, 0, none⟩)), (17, .slice ca B.length cc), (18, .bool true), (20, .bool true)])
  (fun _ w => St w0 (OwnB ca cc B :: DecPt p2 t ba B.length bc l2 L.length lc2 :: OwnS l2 lc2 L :: OwnB wa wc B :: OwnS sa sc L :: l) w) ?_ ?_
 ·refine c_seq (c_region ?_)
  refine r_v (q_moveS rfl) rfl ?_; refine r_v (q_len rfl) rfl ?_; refine r_v (q_moveI rfl) rfl ?_
  refine r_nil ?_
  refine c_block ?_
  refine c_loop (Γ := Nat × List Smp) (fun k => [(7, .slice sa L.length sc), (8, .slice wa B.length wc), (13, .pointer (some ⟨p2, 0, none⟩)), (17, .slice ca B.length cc), (18, .bool true), (19, .slice (some ⟨gy, 0, none⟩) L.length yc), (20, .bool true), (97, .int .i64 L.length), (98, .int .i64 k.1)])
   (fun k w => k.2.length = L.length ∧ k.1 ≤ L.length ∧ St w0 (Own 53 2 (some ⟨gy, 0, none⟩) L.length yc (smpsV k.2) :: OwnB ca cc B :: DecPt p2 t ba B.length bc l2 L.length lc2 :: OwnS l2 lc2 L :: OwnB wa wc B :: OwnS sa sc L :: l) w) (fun k => L.length - k.1) (0, L) ⟨rfl, rfl, rfl, rfl, rfl, rfl, rfl, rfl, rfl, trivial⟩ ⟨rfl, Nat.zero_le _, h⟩ ?_
  clear h
  rintro ⟨k, X⟩ w e ⟨hXl, hk, h⟩
  dsimp only at hXl hk h ⊢
  refine c_seq (c_region ?_)
  refine r_v (q_lss rfl rfl) rfl ?_
  refine r_nil ?_
  refine c_seq (c_cond (decide ((k : Int) < (L.length : Int))) rfl (fun hc => ?_) (fun hc => ?_))
  ·have hlt : k < L.length := by simp at hc; omega
   have hg := List.getElem?_eq_getElem (show k < X.length by omega)
   generalize X[k]'(by omega) = s at hg
   refine c_skip ?_
   refine c_seq (c_block ?_)
   refine c_seq (c_region ?_)
   refine r_v (q_moveI rfl) rfl ?_; refine r_v (q_assignI rfl) rfl ?_
   refine r_nil ?_
   refine c_region ?_
   refine r_v (q_moveS rfl) rfl ?_; refine r_v (q_moveI rfl) rfl ?_
   refine r_v (q_idx (o' := k * 2) rfl rfl rfl hlt (by simp)) rfl ?_
   refine r_v (q_fa rfl) rfl ?_
   refine r_c rfl (x_ownset (v := .int .i64 5) h rfl rfl (by omega) rfl fun w h => ?_)
   rw [flat_set smp_len X k s ⟨5, s.V⟩ 0 _ hg (by decide) rfl] at h
   refine r_nil ?_
   refine c_region ?_
   refine r_v (q_add rfl rfl) rfl ?_
   refine r_is (.int .i64 ((k + 1 : Nat) : Int)) (by rw [wrap64 (by omega) (by omega)]; rfl) ?_
   refine r_v (q_moveI rfl) rfl ?_
   exact r_nil ⟨(k + 1, X.set k ⟨5, s.V⟩), ⟨rfl, rfl, rfl, rfl, rfl, rfl, rfl, rfl, rfl, trivial⟩, ⟨by simp [hXl], hlt, h⟩, by dsimp only; omega⟩
  ·exact c_exit ⟨(), ⟨rfl, rfl, rfl, rfl, rfl, rfl, trivial⟩, h.drop⟩
 clear h
 rintro ⟨⟩ w e h
 refine c_seq (c_region ?_)
 refine r_v (q_moveP rfl) rfl ?_
 refine r_c rfl (x_call rfl (dec_Done (L := L) (by omega) (Reads.own.more [_, _]) (h.f 1)) ?_)
 rw [t1, t2]
 rintro _ w ⟨za, zc, rfl, h⟩
 replace h : St w0 (OwnS za zc L :: DecPt p2 t ba B.length bc l2 L.length lc2 :: OwnB ca cc B :: OwnS l2 lc2 L :: OwnB wa wc B :: OwnS sa sc L :: l) w := h
 show Rn _ _ _ _ _ (upd _ _ (.tuple [.slice za L.length zc, .bool true].toArray)) _
 refine r_v (q_moveT rfl) rfl ?_; refine r_v (q_ext rfl rfl) rfl ?_; refine r_v (q_ext rfl rfl) rfl ?_; refine r_v (q_assignS rfl) rfl ?_; refine r_v (q_assignB rfl) rfl ?_
 refine r_nil ?_
 refine c_seq (c_region ?_)
 refine r_v (q_moveB rfl) rfl ?_; refine r_v (q_moveB rfl) rfl ?_; (first | refine r_gd rfl rfl ?_ | refine r_gn rfl rfl rfl ?_ | refine r_gu rfl rfl ?_ | refine r_gd rfl (by assumption) ?_ | refine r_gn rfl (by assumption) rfl ?_); refine r_v (q_moveB rfl) rfl ?_; (first | refine r_v (q_pick1 rfl rfl rfl) rfl ?_ | refine r_v (q_pick0 rfl rfl rfl) rfl ?_ | refine r_v (q_pick1 rfl (by assumption) rfl) rfl ?_ | refine r_v (q_pick0 rfl (by assumption) rfl) rfl ?_ | refine r_v (q_pickB rfl rfl rfl) rfl ?_); refine r_v (q_moveB rfl) rfl ?_; (first | refine r_gd rfl rfl ?_ | refine r_gn rfl rfl rfl ?_ | refine r_gu rfl rfl ?_ | refine r_gd rfl (by assumption) ?_ | refine r_gn rfl (by assumption) rfl ?_); refine r_v (q_moveS rfl) rfl ?_; (first | refine r_gd rfl rfl ?_ | refine r_gn rfl rfl rfl ?_ | refine r_gu rfl rfl ?_ | refine r_gd rfl (by assumption) ?_ | refine r_gn rfl (by assumption) rfl ?_)
 refine r_v (q_btos (bs := B) rfl (h.f 2).own_rd) rfl ?_
 (first | refine r_gd rfl rfl ?_ | refine r_gn rfl rfl rfl ?_ | refine r_gu rfl rfl ?_ | refine r_gd rfl (by assumption) ?_ | refine r_gn rfl (by assumption) rfl ?_); refine r_v (q_moveS rfl) rfl ?_; (first | refine r_gd rfl rfl ?_ | refine r_gn rfl rfl rfl ?_ | refine r_gu rfl rfl ?_ | refine r_gd rfl (by assumption) ?_ | refine r_gn rfl (by assumption) rfl ?_)
 refine r_v (q_btos (bs := B) rfl (h.f 4).own_rd) rfl ?_
 refine r_gd rfl rfl ?_
 refine r_v (q_is (v' := .bool true) (q_streq rfl rfl) (by simp)) rfl ?_
 (first | refine r_v (q_pick1 rfl rfl rfl) rfl ?_ | refine r_v (q_pick0 rfl rfl rfl) rfl ?_ | refine r_v (q_pick1 rfl (by assumption) rfl) rfl ?_ | refine r_v (q_pick0 rfl (by assumption) rfl) rfl ?_ | refine r_v (q_pickB rfl rfl rfl) rfl ?_); refine r_v (q_moveB rfl) rfl ?_; (first | refine r_gd rfl rfl ?_ | refine r_gn rfl rfl rfl ?_ | refine r_gu rfl rfl ?_ | refine r_gd rfl (by assumption) ?_ | refine r_gn rfl (by assumption) rfl ?_); refine r_v (q_moveS rfl) rfl ?_; (first | refine r_gd rfl rfl ?_ | refine r_gn rfl rfl rfl ?_ | refine r_gu rfl rfl ?_ | refine r_gd rfl (by assumption) ?_ | refine r_gn rfl (by assumption) rfl ?_); refine r_v (q_moveS rfl) rfl ?_; (first | refine r_gd rfl rfl ?_ | refine r_gn rfl rfl rfl ?_ | refine r_gu rfl rfl ?_ | refine r_gd rfl (by assumption) ?_ | refine r_gn rfl (by assumption) rfl ?_)
 refine r_c rfl (x_call rfl (ref10_Same (L1 := L) (L2 := L) h (fun w' h' => h'.own_rd) (fun w' h' => (h'.f 5).own_rd) (by omega)) ?_)
 rintro _ w ⟨rfl, h⟩
 rw [show decide (L = L) = true by simp]
 (first | refine r_v (q_pick1 rfl rfl rfl) rfl ?_ | refine r_v (q_pick0 rfl rfl rfl) rfl ?_ | refine r_v (q_pick1 rfl (by assumption) rfl) rfl ?_ | refine r_v (q_pick0 rfl (by assumption) rfl) rfl ?_ | refine r_v (q_pickB rfl rfl rfl) rfl ?_); refine r_v (q_moveB rfl) rfl ?_; (first | refine r_gd rfl rfl ?_ | refine r_gn rfl rfl rfl ?_ | refine r_gu rfl rfl ?_ | refine r_gd rfl (by assumption) ?_ | refine r_gn rfl (by assumption) rfl ?_)
 refine r_c rfl (x_call rfl (law12_awake hT h) ?_)
 rintro _ w ⟨rfl, h⟩
 (first | refine r_v (q_pick1 rfl rfl rfl) rfl ?_ | refine r_v (q_pick0 rfl rfl rfl) rfl ?_ | refine r_v (q_pick1 rfl (by assumption) rfl) rfl ?_ | refine r_v (q_pick0 rfl (by assumption) rfl) rfl ?_ | refine r_v (q_pickB rfl rfl rfl) rfl ?_); refine r_v (q_assignB rfl) rfl ?_
 exact r_nil (c_ret (bq1 ⟨rfl, h.drop.drop.drop.drop.drop.drop⟩))
end
end Go.Proofs.YtjjacchnalemaaaGreatDoor
