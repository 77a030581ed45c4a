/- What the proof of SuitPicks needs, part 5: plain lemmas, and what each function does. -/
import Derived.Test.YtjjacchnalemaaaDoorQSuitPicksd
import Derived.KernelRfl
namespace Go.Proofs.YtjjacchnalemaaaDoor
open Go.Hw
set_option maxHeartbeats 4000000
set_option maxRecDepth 100000
section
variable {w0 w : World} {l : List HProp}
theorem valsOf_get {L : List Smp} (hw : ∀ s ∈ L, s.Wf) {k : Nat} {s : Smp} (h : L[k]? = some s) : s.V = ((s.V.toNat : Nat) : Int) := by
 have := hw s (List.mem_of_getElem? h)
 obtain ⟨_, h2, _⟩ := this
 omega
theorem ref10_values {sl : Option Addr} {c : Nat} {L : List Smp} (hw : ∀ s ∈ L, s.Wf) (hn : L.length ≤ 65535) (hr : Reads w0 l 2 sl L.length (smpsV L)) (h : St w0 l w) :
  Ret Tryd.prog 34 [.slice sl L.length c] w fun v w' => ∃ a c', v = .slice a (valsOf L).length c' ∧ (valsOf L).length ≤ c' ∧ St w0 (OwnU a c' (valsOf L) :: l) w' := by
 refine enter Tryd.func34 rfl Tryd.results34 Tryd.ntmps34 rfl ?_
 refine c_seq (c_region ?_)
 refine r_v (q_assignS rfl) rfl ?_
 refine r_nil ?_
 refine c_seq (c_region ?_)
 refine r_v (q_assignS rfl) rfl ?_
 refine r_nil ?_
 refine c_seq (c_seq (c_region ?_))
 refine r_v (q_assignI rfl) rfl ?_
 refine r_nil ?_
 refine c_block ?_
 refine c_loop (Γ := Nat × Option Addr × Nat) (fun k => [(0, .slice sl L.length c), (3, .slice k.2.1 (valsOf (L.take k.1)).length k.2.2), (4, .int .i64 k.1)])
  (fun k w => k.1 ≤ L.length ∧ St w0 (OwnU k.2.1 k.2.2 (valsOf (L.take k.1)) :: l) w) (fun k => L.length - k.1) (0, none, 0) ⟨rfl, rfl, rfl, trivial⟩ ⟨Nat.zero_le _, St.ownNil 22 1 h⟩ ?_
 clear h
 rintro ⟨k, oa, oc⟩ w e ⟨hk, h⟩
 dsimp only at hk h ⊢
 refine c_seq (c_seq (c_region ?_))
 refine r_v (q_moveI rfl) rfl ?_; refine r_v (q_moveS rfl) rfl ?_; refine r_v (q_len rfl) rfl ?_; refine r_v (q_lss rfl rfl) rfl ?_
 refine r_nil ?_
 refine c_cond (decide ((k : Int) < (L.length : Int))) rfl (fun hc => ?_) (fun hc => ?_)
 ·have hlt : k < L.length := by simp at hc; omega
  have hg := List.getElem?_eq_getElem hlt
  generalize L[k] = s at hg
  have hsv := valsOf_get hw hg
  have hvl : (valsOf (L.take k)).length = k := by unfold valsOf; simp; omega
  have hvs : valsOf (L.take (k + 1)) = valsOf (L.take k) ++ [s.V.toNat] := by rw [List.take_add_one, hg]; simp [valsOf]
  obtain ⟨b, o, hsl⟩ := (hr.cons.at_ h).some (by omega)
  refine c_skip ?_
  refine c_seq (c_block ?_)
  refine c_region ?_
  refine r_v (q_moveS rfl) rfl ?_; refine r_v (q_moveS rfl) rfl ?_; refine r_v (q_moveI rfl) rfl ?_
  refine r_v (q_idx (b := b) (o := o) (m := L.length) (c := c) (o' := o + k * 2) (by rw [← hsl]; rfl) rfl rfl hlt rfl) rfl ?_
  refine r_v (q_fa rfl) rfl ?_
  refine r_v (q_loadc (v := .int .u64 (s.V.toNat : Int)) rfl (by rw [← hsv]; exact (hsl ▸ hr.cons.at_ h).elem smp_len hg 1 _ rfl)) rfl ?_
  refine r_app1 (v := .int .u64 (s.V.toNat : Int)) (m3 := (valsOf (L.take (k + 1))).length) (zs := u64V (valsOf (L.take (k + 1)))) h rfl rfl rfl rfl rfl (by rw [hvs]; simp) (by rw [hvs]; simp [u64V, vcells]) (by rw [hvs]; simp; omega) (by rw [hvs]; simp; omega) rfl rfl rfl rfl rfl fun b a' c' w _ h => ?_
  refine r_v (q_assignS rfl) rfl ?_
  refine r_nil ?_
  refine c_region ?_
  refine r_v (q_moveI rfl) rfl ?_; refine r_v (q_add rfl rfl) rfl ?_
  refine r_is (.int .i64 ((k + 1 : Nat) : Int)) (by rw [wrap64 (by omega) (by omega)]; rfl) ?_
  refine r_v (q_assignI rfl) rfl ?_
  exact r_nil ⟨(k + 1, a', c'), ⟨rfl, rfl, rfl, trivial⟩, ⟨hlt, h⟩, by dsimp only; omega⟩
 ·obtain rfl : k = L.length := by simp at hc; omega
  rw [List.take_length] at h
  refine c_exit ?_
  refine c_seq (c_region ?_)
  refine r_v (q_moveS rfl) rfl ?_; refine r_v (q_assignS rfl) rfl ?_
  refine r_nil (c_ret (bq1 ⟨oa, oc, ?_, h.own_cases.2.1, h⟩))
  show Value.slice oa (valsOf (L.take L.length)).length oc = _
  rw [List.take_length]
theorem ref10_steps {sl : Option Addr} {c : Nat} {u : List Nat} (hu : ∀ x ∈ u, x < 18446744073709551616) (hn : u.length ≤ 65535) (hr : Reads w0 l 1 sl u.length (u64V u)) (h : St w0 l w) :
  Ret Tryd.prog 60 [.slice sl u.length c] w fun v w' => ∃ a c', v = .slice a (stepsL 0 u).length c' ∧ (stepsL 0 u).length ≤ c' ∧ St w0 (OwnU a c' (stepsL 0 u) :: l) w' := by
 refine enter Tryd.func60 rfl Tryd.results60 Tryd.ntmps60 rfl ?_
 refine c_seq (c_region ?_)
 refine r_v (q_assignS rfl) rfl ?_
 refine r_nil ?_
 refine c_seq (c_region ?_)
 refine r_v (q_assignS rfl) rfl ?_
 refine r_nil ?_
 refine c_seq (c_region ?_)
 refine r_v (q_assignI rfl) rfl ?_
 refine r_nil ?_
 refine c_seq (c_seq (c_region ?_))
 refine r_v (q_assignI rfl) rfl ?_
 refine r_nil ?_
 refine c_block ?_
 refine c_loop (Γ := Nat × Nat × List Nat × Option Addr × Nat) (fun k => [(0, .slice sl u.length c), (3, .slice k.2.2.2.1 k.2.2.1.length k.2.2.2.2), (4, .int .u64 k.2.1), (5, .int .i64 k.1)])
  (fun k w => k.1 ≤ u.length ∧ k.2.1 < 18446744073709551616 ∧ k.2.2.1.length = k.1 ∧ k.2.2.1 ++ stepsL k.2.1 (u.drop k.1) = stepsL 0 u ∧ St w0 (OwnU k.2.2.2.1 k.2.2.2.2 k.2.2.1 :: l) w) (fun k => u.length - k.1) (0, 0, [], none, 0) ⟨rfl, rfl, rfl, rfl, trivial⟩ ⟨Nat.zero_le _, (by decide : (0 : Nat) < 18446744073709551616), rfl, rfl, St.ownNil _ _ h⟩ ?_
 clear h
 rintro ⟨i, was, out, a, c1⟩ w e ⟨hi, hw, hol, he, h⟩
 dsimp only at hi hw hol he h ⊢
 refine c_seq (c_seq (c_region ?_))
 refine r_v (q_moveI rfl) rfl ?_; refine r_v (q_moveS rfl) rfl ?_; refine r_v (q_len rfl) rfl ?_; refine r_v (q_lss rfl rfl) rfl ?_
 refine r_nil ?_
 refine c_cond (decide ((i : Int) < (u.length : Int))) rfl (fun hc => ?_) (fun hc => ?_)
 ·have hlt : i < u.length := by simp at hc; omega
  have hg := List.getElem?_eq_getElem hlt
  have hdr := List.drop_eq_getElem_cons hlt
  generalize u[i] = x at hg hdr
  have hx := hu x (List.mem_of_getElem? hg)
  have hd : diff x was < 18446744073709551616 := Nat.mod_lt _ (by decide)
  rw [hdr, stepsL] at he
  obtain ⟨b, o, hsl⟩ := (hr.cons.at_ h).some (by omega)
  refine c_skip ?_
  refine c_seq (c_block ?_)
  refine c_seq (c_region ?_)
  refine r_v (q_moveS rfl) rfl ?_; refine r_v (q_moveS rfl) rfl ?_; refine r_v (q_moveI rfl) rfl ?_
  refine r_v (q_idx (b := b) (o := o) (m := u.length) (c := c) (o' := o + i) (by rw [← hsl]; rfl) rfl rfl hlt (by simp)) rfl ?_
  refine r_v (q_loadc (v := .int .u64 x) rfl ((hsl ▸ hr.cons.at_ h).cell (u64V_get hg))) rfl ?_
  refine r_v (q_moveI rfl) rfl ?_; refine r_v (q_sub rfl rfl) rfl ?_
  refine r_is (.int .u64 (diff x was : Nat)) (by rw [wrap_diff hw]) ?_
  refine r_v (q_conv rfl) rfl ?_
  refine r_is (.int .i64 (sg (diff x was))) (by rw [wrap_sg hd]) ?_
  refine r_c rfl (x_call rfl (ref1_Zig (sg_wf hd) h) ?_)
  rintro _ w ⟨rfl, h⟩
  rw [show zigT (sg (diff x was)) = zigU (diff x was) by unfold zigT; rw [us_sg hd]]
  refine r_app1 (v := .int .u64 (zigU (diff x was) : Nat)) (m3 := (out ++ [zigU (diff x was)]).length) (zs := u64V (out ++ [zigU (diff x was)])) h rfl rfl rfl rfl rfl (by simp) (by simp [u64V, vcells]) (by simp; omega) (by simp; omega) rfl rfl rfl rfl rfl fun b2 a2 c2 w _ h => ?_
  refine r_v (q_assignS rfl) rfl ?_
  refine r_nil ?_
  refine c_region ?_
  refine r_v (q_moveS rfl) rfl ?_; refine r_v (q_moveI rfl) rfl ?_
  refine r_v (q_idx (b := b) (o := o) (m := u.length) (c := c) (o' := o + i) (by rw [← hsl]; rfl) rfl rfl hlt (by simp)) rfl ?_
  refine r_v (q_loadc (v := .int .u64 x) rfl ((hsl ▸ hr.cons.at_ h).cell (u64V_get hg))) rfl ?_
  refine r_v (q_assignI rfl) rfl ?_
  refine r_nil ?_
  refine c_region ?_
  refine r_v (q_moveI rfl) rfl ?_; refine r_v (q_add rfl rfl) rfl ?_
  refine r_is (.int .i64 ((i + 1 : Nat) : Int)) (by rw [wrap64 (by omega) (by omega)]; rfl) ?_
  refine r_v (q_assignI rfl) rfl ?_
  refine r_nil ⟨(i + 1, x, out ++ [zigU (diff x was)], a2, c2), ⟨rfl, rfl, rfl, rfl, trivial⟩, ⟨hlt, hx, by simp; omega, ?_, h⟩, by dsimp only; omega⟩
  rw [← he]; simp
 ·have hin : i = u.length := by simp at hc; omega
  rw [hin, List.drop_length, stepsL, List.append_nil] at he
  refine c_exit ?_
  refine c_seq (c_region ?_)
  refine r_v (q_moveS rfl) rfl ?_; refine r_v (q_assignS rfl) rfl ?_
  refine r_nil ?_
  rw [← he]
  exact c_ret (bq1 ⟨a, c1, rfl, h.own_cases.2.1, h⟩)
abbrev TellV (tag : Int) (u : List Nat) (l : List HProp) (w0 : World) (v : Value) (w' : World) : Prop := ∃ a c', v = .tuple [.slice a ((valuesEnc tag u).getD []).length c', .bool (valuesEnc tag u).isSome].toArray ∧ St w0 (OwnB a c' ((valuesEnc tag u).getD []) :: l) w'
theorem ref10_told (tag : Int) {sl : Option Addr} {c : Nat} {u : List Nat} (hu : ∀ x ∈ u, x < 18446744073709551616) (hn : u.length ≤ 65535) (hr : Reads w0 l 1 sl u.length (u64V u)) (h : St w0 l w) :
  Ret Tryd.prog 33 [.int .i64 tag, .slice sl u.length c] w fun v w' => TellV tag u l w0 v w' := by
 refine enter Tryd.func33 rfl Tryd.results33 Tryd.ntmps33 rfl ?_
 refine c_seq (c_region ?_)
 refine r_v (q_assignS rfl) rfl ?_; refine r_v (q_assignB rfl) rfl ?_
 refine r_nil ?_
 refine c_seq (c_seq (c_region ?_))
 refine r_v (q_moveI rfl) rfl ?_
 refine r_nil ?_
 refine c_block ?_
 refine c_seq (c_region ?_)
 refine r_v (q_eql rfl rfl) rfl ?_; refine r_v (q_assignB rfl) rfl ?_
 refine r_nil ?_
 refine c_cond (tag == 1) rfl (fun hc => ?_) (fun hc1 => ?_)
 ·have hv : valuesEnc tag u = some (pack (xorBits u)) := by unfold valuesEnc; rw [if_pos (by simpa using hc)]
  have hxl := xorBits_len u
  unfold TellV
  rw [hv]
  refine c_seq (c_region ?_)
  refine r_v (q_build (r := [.slice none 0 0]) rfl) rfl ?_
  refine r_c rfl (x_box h (show _ = Value.agg [.slice none 0 0].toArray from rfl) fun p w h => ?_)
  replace h : St w0 (IsRW p [] :: l) w := St.rw_new h
  refine r_v (q_assignP rfl) rfl ?_
  refine r_nil ?_
  refine c_seq (c_region ?_)
  refine r_v (q_moveP rfl) rfl ?_; refine r_v (q_moveS rfl) rfl ?_
  refine r_c rfl (x_call rfl (ref4_Values hu hn (by decide) h hr) ?_)
  rintro _ w ⟨rfl, h⟩
  rw [List.nil_append] at h
  refine r_nil ?_
  refine c_seq (c_region ?_)
  refine r_v (q_moveP rfl) rfl ?_
  refine r_c rfl (x_call rfl (rw_Bytes (by omega) h) ?_)
  rintro _ w ⟨a, c', rfl, h⟩
  refine r_v (q_assignS rfl) rfl ?_; refine r_v (q_assignB rfl) rfl ?_
  exact r_nil (c_ret (bq2 ⟨a, c', rfl, (h.f 1).drop⟩))
 have hn1 : ¬ tag = 1 := by simpa using hc1
 refine c_seq (c_region ?_)
 refine r_v (q_eql rfl rfl) rfl ?_; refine r_v (q_assignB rfl) rfl ?_
 refine r_nil ?_
 refine c_cond (tag == 2) rfl (fun hc => ?_) (fun hc2 => ?_)
 ·have hv : valuesEnc tag u = (simpEnc (stepsL 0 u)).map bigL := by unfold valuesEnc; rw [if_neg hn1, if_pos (by simpa using hc)]
  have hsl := stepsL_len u 0
  have hslt := stepsL_lt u 0
  obtain ⟨hsl2, hsw⟩ := simpEnc_len (u := stepsL 0 u)
  obtain ⟨e1, e2⟩ := simp_big (simpEnc (stepsL 0 u))
  unfold TellV
  rw [hv, e1, e2]
  refine c_seq (c_region ?_)
  refine r_v (q_moveS rfl) rfl ?_
  refine r_c rfl (x_call rfl (ref10_steps hu hn hr h) ?_)
  rintro _ w ⟨sa, sc, rfl, hsc, h⟩
  refine r_c rfl (x_call rfl (ref4_Simple hslt (by omega) hsc Reads.own h) ?_)
  rintro _ w ⟨wa, wc, rfl, h⟩
  generalize (simpEnc (stepsL 0 u)).getD [] = ws at hsl2 hsw h ⊢
  generalize (simpEnc (stepsL 0 u)).isSome = ok
  replace h : St w0 (OwnU wa wc ws :: l) w := (h.f 1).drop
  clear hr
  refine r_v (q_moveT rfl) rfl ?_; refine r_v (q_ext rfl rfl) rfl ?_; refine r_v (q_ext rfl rfl) rfl ?_; refine r_v (q_assignS rfl) rfl ?_; refine r_v (q_assignB rfl) rfl ?_
  refine r_nil ?_
  refine c_seq (c_region ?_)
  refine r_v (q_assignS rfl) rfl ?_
  refine r_nil ?_
  refine c_seq (c_seq (c_region ?_))
  refine r_v (q_assignI rfl) rfl ?_
  refine r_nil ?_
  refine c_block ?_
  refine c_loop (Γ := Nat × Option Addr × Nat) (fun k => [(7, .slice wa ws.length wc), (8, .bool ok), (9, .slice k.2.1 (bigL (ws.take k.1)).length k.2.2), (10, .int .i64 k.1)])
   (fun k w => k.1 ≤ ws.length ∧ St w0 (OwnB k.2.1 k.2.2 (bigL (ws.take k.1)) :: OwnU wa wc ws :: l) w) (fun k => ws.length - k.1) (0, none, 0) ⟨rfl, rfl, rfl, rfl, trivial⟩ ⟨Nat.zero_le _, St.ownNil _ _ h⟩ ?_
  clear h
  rintro ⟨i, a, c1⟩ w e ⟨hi, h⟩
  dsimp only at hi h ⊢
  have hbl := bigL_len (ws.take i)
  rw [List.length_take, Nat.min_eq_left hi] at hbl
  refine c_seq (c_seq (c_region ?_))
  refine r_v (q_moveI rfl) rfl ?_; refine r_v (q_moveS rfl) rfl ?_; refine r_v (q_len rfl) rfl ?_; refine r_v (q_lss rfl rfl) rfl ?_
  refine r_nil ?_
  refine c_cond (decide ((i : Int) < (ws.length : Int))) rfl (fun hc => ?_) (fun hc => ?_)
  ·have hlt : i < ws.length := by simp at hc; omega
   have hg := List.getElem?_eq_getElem hlt
   generalize ws[i] = x at hg
   have hx := hsw x (List.mem_of_getElem? hg)
   obtain ⟨g, rfl⟩ := (h.f 1).own_some (by omega)
   have hstep : bigL (ws.take (i + 1)) = bigL (ws.take i) ++ be8 x := by
    unfold bigL
    rw [List.take_add_one, hg, List.flatMap_append]; simp
   rw [show Value.slice a (bigL (ws.take i)).length c1 = Value.slice a (bigL (ws.take i) ++ (be8 x).take 0).length c1 by simp]
   replace h : St w0 (OwnB a c1 (bigL (ws.take i) ++ (be8 x).take 0) :: OwnU (some ⟨g, 0, none⟩) wc ws :: l) w := by simpa using h
   generalize bigL (ws.take i) = base at hbl hstep h ⊢
   refine c_skip ?_
   refine c_seq (c_block ?_)
   refine c_seq (c_region ?_)
   refine r_v (q_assignI rfl) rfl ?_
   refine r_nil ?_
   refine c_block ?_
   refine c_loop (Γ := Nat × Option Addr × Nat) (fun k => [(7, .slice (some ⟨g, 0, none⟩) ws.length wc), (8, .bool ok), (9, .slice k.2.1 (base ++ (be8 x).take k.1).length k.2.2), (10, .int .i64 i), (11, .int .i64 (7 - (k.1 : Int)))])
    (fun k w => k.1 ≤ 8 ∧ St w0 (OwnB k.2.1 k.2.2 (base ++ (be8 x).take k.1) :: OwnU (some ⟨g, 0, none⟩) wc ws :: l) w) (fun k => 8 - k.1) (0, a, c1) ⟨rfl, rfl, rfl, rfl, rfl, trivial⟩ ⟨Nat.zero_le _, h⟩ ?_
   clear h
   rintro ⟨j, a, c1⟩ w e ⟨hj, h⟩
   dsimp only at hj h ⊢
   have hb8 : (be8 x).length = 8 := rfl
   refine c_seq (c_seq (c_region ?_))
   refine r_v (q_moveI rfl) rfl ?_; refine r_v (q_geq rfl rfl) rfl ?_
   by_cases hj8 : j < 8
   ·refine r_is (.bool true) (by simp; omega) ?_
    refine r_nil (c_true rfl (c_skip ?_))
    have hgj := be8_get x j hj8
    have htk : (be8 x).take (j + 1) = (be8 x).take j ++ [UInt8.ofNat (x / 2 ^ (8 * (7 - j)))] := by rw [List.take_add_one, hgj]; rfl
    have htl : ((be8 x).take j).length = j := by rw [List.length_take, hb8]; omega
    refine c_seq (c_block ?_)
    refine c_region ?_
    refine r_v (q_moveS rfl) rfl ?_; refine r_v (q_moveS rfl) rfl ?_; refine r_v (q_moveI rfl) rfl ?_
    refine r_v (q_idx (b := g) (o := 0) (m := ws.length) (c := wc) (o' := i) rfl rfl rfl hlt (by simp)) rfl ?_
    refine r_v (q_loadc (v := .int .u64 x) rfl (by have := (h.f 1).own_rd.cell (u64V_get hg); simpa using this)) rfl ?_
    refine r_v (q_moveI rfl) rfl ?_; refine r_v (q_mul rfl rfl) rfl ?_
    refine r_is (.int .i64 ((8 * (7 - j) : Nat) : Int)) (by rw [wrap64 (by omega) (by omega)]; congr 1; omega) ?_
    refine r_v (q_conv rfl) rfl ?_
    refine r_is (.int .u64 ((8 * (7 - j) : Nat) : Int)) (by rw [wrap_u64, Nat.mod_eq_of_lt (by omega)]) ?_
    refine r_v (q_is (v' := .int .u64 ((x / 2 ^ (8 * (7 - j)) : Nat) : Int)) (q_shr rfl rfl (by omega)) (congrArg (Value.int .u64) (fdiv_nat x (8 * (7 - j)) 64 (by omega)))) rfl ?_
    refine r_v (q_conv rfl) rfl ?_
    refine r_is (.int .u8 ((UInt8.ofNat (x / 2 ^ (8 * (7 - j)))).toNat : Int)) (by rw [wrap_u8, UInt8.toNat_ofNat']) ?_
    refine r_app1 (v := .int .u8 ((UInt8.ofNat (x / 2 ^ (8 * (7 - j)))).toNat : Int)) (m3 := (base ++ (be8 x).take (j + 1)).length) (zs := bytesV (base ++ (be8 x).take (j + 1))) h rfl rfl rfl rfl rfl (by rw [htk]; simp; omega) (by rw [htk]; simp [bytesV, vcells]) (by rw [htk]; simp; omega) (by rw [htk]; simp; omega) rfl rfl rfl rfl rfl fun b2 a2 c2 w _ h => ?_
    refine r_v (q_assignS rfl) rfl ?_
    refine r_nil ?_
    refine c_region ?_
    refine r_v (q_moveI rfl) rfl ?_; refine r_v (q_sub rfl rfl) rfl ?_
    refine r_is (.int .i64 (7 - ((j + 1 : Nat) : Int))) (by rw [wrap64 (by omega) (by omega)]; congr 1; omega) ?_
    refine r_v (q_assignI rfl) rfl ?_
    exact r_nil ⟨(j + 1, a2, c2), ⟨rfl, rfl, rfl, rfl, rfl, trivial⟩, ⟨hj8, h⟩, by dsimp only; omega⟩
   refine r_is (.bool false) (by simp; omega) ?_
   refine r_nil (c_false rfl ?_)
   have hjj : j = 8 := by omega
   subst hjj
   rw [show (be8 x).take 8 = be8 x from rfl, ← hstep] at h
   refine c_exit ?_
   refine c_region ?_
   refine r_v (q_moveI rfl) rfl ?_; refine r_v (q_add rfl rfl) rfl ?_
   refine r_is (.int .i64 ((i + 1 : Nat) : Int)) (by rw [wrap64 (by omega) (by omega)]; rfl) ?_
   refine r_v (q_assignI rfl) rfl ?_
   refine r_nil ⟨(i + 1, a, c1), ⟨rfl, rfl, ?_, rfl, trivial⟩, ⟨hlt, h⟩, by dsimp only; omega⟩
   show Value.slice _ _ _ = Value.slice _ _ _
   rw [hstep]; rfl
  ·have hin : i = ws.length := by simp at hc; omega
   rw [hin, List.take_length] at h
   refine c_exit ?_
   refine c_seq (c_region ?_)
   refine r_v (q_moveS rfl) rfl ?_; refine r_v (q_moveB rfl) rfl ?_; refine r_v (q_assignS rfl) rfl ?_; refine r_v (q_assignB rfl) rfl ?_
   refine r_nil (c_ret (bq2 ⟨a, c1, ?_, (h.f 1).drop⟩))
   show Value.tuple [Value.slice a (bigL (ws.take i)).length c1, _].toArray = _
   rw [hin, List.take_length]
   rfl
 have hn2 : ¬ tag = 2 := by simpa using hc2
 refine c_seq (c_region ?_)
 refine r_v (q_eql rfl rfl) rfl ?_; refine r_v (q_assignB rfl) rfl ?_
 refine r_nil ?_
 refine c_cond (tag == 3) rfl (fun hc => ?_) (fun hc3 => ?_)
 ·have hv : valuesEnc tag u = some (runsEnc u) := by unfold valuesEnc; rw [if_neg hn1, if_neg hn2, if_pos (by simpa using hc)]
  unfold TellV
  rw [hv]
  refine c_seq (c_region ?_)
  refine r_v (q_moveS rfl) rfl ?_
  refine r_c rfl (x_call rfl (ref4_Runs hu hn hr h) ?_)
  rintro _ w ⟨a, c', rfl, h⟩
  refine r_v (q_assignS rfl) rfl ?_; refine r_v (q_assignB rfl) rfl ?_
  exact r_nil (c_ret (bq2 ⟨a, c', rfl, h⟩))
 have hn3 : ¬ tag = 3 := by simpa using hc3
 refine c_seq (c_region ?_)
 refine r_v (q_eql rfl rfl) rfl ?_; refine r_v (q_assignB rfl) rfl ?_
 refine r_nil ?_
 refine c_cond (tag == 4) rfl (fun hc => ?_) (fun hc4 => ?_)
 ·have hv : valuesEnc tag u = some (frameEnc u) := by unfold valuesEnc; rw [if_neg hn1, if_neg hn2, if_neg hn3, if_pos (by simpa using hc)]
  unfold TellV
  rw [hv]
  refine c_seq (c_region ?_)
  refine r_v (q_moveS rfl) rfl ?_
  refine r_c rfl (x_call rfl (ref4_Frame hu hn hr h) ?_)
  rintro _ w ⟨a, c', rfl, h⟩
  refine r_v (q_assignS rfl) rfl ?_; refine r_v (q_assignB rfl) rfl ?_
  exact r_nil (c_ret (bq2 ⟨a, c', rfl, h⟩))
 have hn4 : ¬ tag = 4 := by simpa using hc4
 refine c_seq (c_region ?_)
 refine r_v (q_eql rfl rfl) rfl ?_; refine r_v (q_assignB rfl) rfl ?_
 refine r_nil ?_
 refine c_cond (tag == 5) rfl (fun hc => ?_) (fun hc5 => ?_)
 ·have hv : valuesEnc tag u = dictEnc u := by unfold valuesEnc; rw [if_neg hn1, if_neg hn2, if_neg hn3, if_neg hn4, if_pos (by simpa using hc)]
  unfold TellV
  rw [hv]
  refine c_seq (c_region ?_)
  refine r_v (q_moveS rfl) rfl ?_
  refine r_c rfl (x_call rfl (ref4_Dict hu hn hr h) ?_)
  rintro _ w ⟨a, c', rfl, h⟩
  refine r_v (q_ext rfl rfl) rfl ?_; refine r_v (q_ext rfl rfl) rfl ?_; refine r_v (q_assignS rfl) rfl ?_; refine r_v (q_assignB rfl) rfl ?_
  exact r_nil (c_ret (bq2 ⟨a, c', rfl, h⟩))
 have hn5 : ¬ tag = 5 := by simpa using hc5
 refine c_seq (c_region ?_)
 refine r_v (q_eql rfl rfl) rfl ?_; refine r_v (q_assignB rfl) rfl ?_
 refine r_nil ?_
 refine c_cond (tag == 6) rfl (fun hc => ?_) (fun hc6 => ?_)
 ·have hv : valuesEnc tag u = sameEnc u := by unfold valuesEnc; rw [if_neg hn1, if_neg hn2, if_neg hn3, if_neg hn4, if_neg hn5, if_pos (by simpa using hc)]
  unfold TellV
  rw [hv]
  refine c_seq (c_seq (c_region ?_))
  refine r_v (q_moveS rfl) rfl ?_; refine r_v (q_len rfl) rfl ?_; refine r_v (q_eql rfl rfl) rfl ?_
  cases u with
  | nil =>
   refine r_is (.bool true) rfl ?_
   refine r_nil (c_true rfl ?_)
   refine c_seq (c_region ?_)
   refine r_v (q_assignS rfl) rfl ?_; refine r_v (q_assignB rfl) rfl ?_
   exact r_nil (c_ret (bq2 ⟨none, 0, rfl, St.ownNil _ _ h⟩))
  | cons x r =>
  have hx := hu x (List.mem_cons_self ..)
  have hgx : (x :: r)[0]? = some x := rfl
  have hpos : 0 < (x :: r).length := by simp
  refine r_is (.bool false) (by simp; omega) ?_
  refine r_nil (c_false rfl (c_skip ?_))
  obtain ⟨b, o, hsl⟩ := (hr.at_ h).some hpos
  refine c_cut (Γ := Unit) (fun _ => [(1, .slice sl (x :: r).length c)]) (fun _ w => (r.all fun y => decide (y = x)) = true ∧ St w0 l w) ?_ ?_
  ·refine c_seq (c_region ?_)
   refine r_v (q_assignI rfl) rfl ?_
   refine r_nil ?_
   refine c_block ?_
   refine c_loop (Γ := Nat) (fun k => [(1, .slice sl (x :: r).length c), (12, .int .i64 k)]) (fun k w => k ≤ (x :: r).length ∧ (∀ y ∈ (x :: r).take k, y = x) ∧ St w0 l w) (fun k => (x :: r).length - k) 0 ⟨rfl, rfl, trivial⟩ ⟨Nat.zero_le _, (fun _ h => by cases h), h⟩ ?_
   clear h
   rintro k w e ⟨hk, hall, h⟩
   refine c_seq (c_seq (c_region ?_))
   refine r_v (q_moveI rfl) rfl ?_; refine r_v (q_moveS rfl) rfl ?_; refine r_v (q_len rfl) rfl ?_; refine r_v (q_lss rfl rfl) rfl ?_
   refine r_nil ?_
   refine c_cond (decide ((k : Int) < ((x :: r).length : Int))) rfl (fun hc => ?_) (fun hc => ?_)
   ·have hlt : k < (x :: r).length := by simp at hc ⊢; omega
    have hg := List.getElem?_eq_getElem hlt
    have hgm : (x :: r)[k] ∈ x :: r := List.getElem_mem _
    generalize (x :: r)[k] = y at hg hgm
    refine c_skip ?_
    refine c_seq (c_block ?_)
    refine c_seq (c_any none (fun w => St w0 l w) (by kernel_rfl) (by kernel_rfl) h.drew fun w h => ?_)
    refine cur_pure rfl rfl rfl rfl (fun _ => h) (fun _ => flt_v rfl (q_moveS rfl)) ?_; refine cur_pure rfl rfl rfl rfl (fun _ => h) (fun _ => flt_v rfl (q_moveI rfl)) ?_
    refine cur_pure rfl rfl rfl rfl (fun _ => h) (fun _ => flt_v rfl (q_idx (b := b) (o := o) (m := (x :: r).length) (c := c) (o' := o + k) (by rw [← hsl]; rfl) rfl rfl hlt (by simp))) ?_
    refine cur_float rfl rfl rfl rfl h (fun w h => flt_v rfl (q_loadc (v := .int .u64 y) rfl ((hsl ▸ hr.at_ h).cell (u64V_get hg)))) ?_
    refine cur_pure rfl rfl rfl rfl (fun _ => h) (fun _ => flt_v rfl (q_moveS rfl)) ?_
    refine cur_pure rfl rfl rfl rfl (fun _ => h) (fun _ => flt_v rfl (q_idx (b := b) (o := o) (m := (x :: r).length) (c := c) (j := 0) (o' := o + 0) (by rw [← hsl]; rfl) rfl rfl hpos (by simp))) ?_
    refine cur_float rfl rfl rfl rfl h (fun w h => flt_v rfl (q_loadc (v := .int .u64 x) rfl ((hsl ▸ hr.at_ h).cell (u64V_get hgx)))) ?_
    refine cur_pure rfl rfl rfl rfl (fun _ => h) (fun _ => flt_v rfl (q_neq rfl rfl)) ?_
    refine cur_end ?_
    refine c_cond ((y : Int) != (x : Int)) rfl (fun hc => ?_) (fun hc => ?_)
    ·have hyx : y ≠ x := by rw [bne_iff_ne] at hc; omega
     have e1 : sameEnc (x :: r) = none := by
      rw [sameEnc, if_neg]
      intro hh
      rcases List.mem_cons.1 hgm with h1 | h1
      ·exact hyx h1
      ·exact hyx (by simpa using List.all_eq_true.1 hh y h1)
     rw [e1]
     refine c_seq (c_region ?_)
     refine r_v (q_assignS rfl) rfl ?_; refine r_v (q_assignB rfl) rfl ?_
     exact r_nil (c_ret (bq2 ⟨none, 0, rfl, St.ownNil _ _ h⟩))
    ·have hyx : y = x := by rw [bne_eq_false_iff_eq] at hc; omega
     refine c_skip ?_
     refine c_region ?_
     refine r_v (q_moveI rfl) rfl ?_; refine r_v (q_add rfl rfl) rfl ?_
     refine r_is (.int .i64 ((k + 1 : Nat) : Int)) (by rw [wrap64 (by omega) (by omega)]; rfl) ?_
     refine r_v (q_assignI rfl) rfl ?_
     refine r_nil ⟨k + 1, ⟨rfl, rfl, trivial⟩, ⟨hlt, fun z hz => ?_, h⟩, by omega⟩
     rw [List.take_add_one, hg] at hz
     rcases List.mem_append.1 hz with hz | hz
     ·exact hall z hz
     ·have : z = y := by simpa using hz
      rw [this, hyx]
   ·obtain rfl : k = (x :: r).length := by simp at hc hk ⊢; omega
    rw [List.take_length] at hall
    refine c_exit ⟨(), ⟨rfl, trivial⟩, ?_, h⟩
    exact List.all_eq_true.2 fun y hy => by simpa using hall y (List.mem_cons_of_mem _ hy)
  clear h
  rintro ⟨⟩ w e ⟨hall, h⟩
  rw [sameEnc, if_pos hall]
  refine c_seq (c_region ?_)
  refine r_v (q_moveS rfl) rfl ?_
  refine r_v (q_idx (b := b) (o := o) (m := (x :: r).length) (c := c) (j := 0) (o' := o + 0) (by rw [← hsl]; rfl) rfl rfl hpos (by simp)) rfl ?_
  refine r_v (q_loadc (v := .int .u64 x) rfl ((hsl ▸ hr.at_ h).cell (u64V_get hgx))) rfl ?_
  refine r_c rfl (x_call rfl (ref1_Put (bs := []) x hx h (fun w' h' => Reads.nil.at_ h') (by simp)) ?_)
  rintro _ w ⟨a1, c1, rfl, h⟩
  rw [List.nil_append] at h ⊢
  refine r_v (q_assignS rfl) rfl ?_; refine r_v (q_assignB rfl) rfl ?_
  exact r_nil (c_ret (bq2 ⟨a1, c1, rfl, h⟩))
 have hn6 : ¬ tag = 6 := by simpa using hc6
 have hv : valuesEnc tag u = none := by unfold valuesEnc; rw [if_neg hn1, if_neg hn2, if_neg hn3, if_neg hn4, if_neg hn5, if_neg hn6]
 unfold TellV
 rw [hv]
 refine c_skip ?_
 refine c_seq (c_region ?_)
 refine r_v (q_assignS rfl) rfl ?_; refine r_v (q_assignB rfl) rfl ?_
 exact r_nil (c_ret (bq2 ⟨none, 0, rfl, St.ownNil _ _ h⟩))
theorem ref10_Rising {sl : Option Addr} {c : Nat} {L : List Smp} (hn : L.length ≤ 1073741824) (hr : Reads w0 l 2 sl L.length (smpsV L)) (h : St w0 l w) :
  Ret Tryd.prog 35 [.slice sl L.length c] w fun v w' => v = .bool (rising L) ∧ St w0 l w' := by
 refine enter Tryd.func35 rfl Tryd.results35 Tryd.ntmps35 rfl ?_
 refine c_seq (c_region ?_)
 refine r_v (q_assignB rfl) rfl ?_
 refine r_nil ?_
 refine c_seq (c_seq (c_region ?_))
 refine r_v (q_assignI rfl) rfl ?_
 refine r_nil ?_
 refine c_block ?_
 refine c_loop (Γ := Nat) (fun k => [(0, .slice sl L.length c), (3, .int .i64 ((k + 1 : Nat) : Int))]) (fun k w => (L = [] ∨ (k < L.length ∧ ∀ s, L[k]? = some s → rises L = risesA s.T (L.drop (k + 1)))) ∧ St w0 l w) (fun k => L.length - k) 0 ⟨rfl, rfl, trivial⟩ ⟨by
  cases L with
  | nil => exact .inl rfl
  | cons s r => exact .inr ⟨by simp, fun x hx => by simp at hx; subst hx; rfl⟩, h⟩ ?_
 clear h
 rintro k w e ⟨inv, h⟩
 refine c_seq (c_seq (c_region ?_))
 refine r_v (q_moveI rfl) rfl ?_; refine r_v (q_moveS rfl) rfl ?_; refine r_v (q_len rfl) rfl ?_; refine r_v (q_lss rfl rfl) rfl ?_
 by_cases hlt : k + 1 < L.length
 ·refine r_is (.bool true) (by simp; omega) ?_
  refine r_nil (c_true rfl (c_skip ?_))
  rcases inv with inv | ⟨hk, inv⟩
  ·rw [inv] at hlt; simp at hlt
  have hg0 := List.getElem?_eq_getElem hk
  have hg := List.getElem?_eq_getElem hlt
  have hdr := List.drop_eq_getElem_cons hlt
  generalize L[k + 1] = s1 at hg hdr
  have he := inv _ hg0
  generalize L[k] = s0 at hg0 he
  rw [hdr, risesA] at he
  obtain ⟨b, o, hsl⟩ := (hr.at_ h).some (by omega)
  have hat1 : ∀ {w'}, St w0 l w' → w'.cell? ⟨b, o + (k + 1) * 2 + 0, none⟩ = some (.int .i64 s1.T) := fun h' => (hsl ▸ hr.at_ h').elem smp_len hg 0 _ rfl
  have hat0 : ∀ {w'}, St w0 l w' → w'.cell? ⟨b, o + k * 2 + 0, none⟩ = some (.int .i64 s0.T) := fun h' => (hsl ▸ hr.at_ h').elem smp_len hg0 0 _ rfl
  refine c_seq (c_block ?_)
  refine c_seq (c_any none (fun w => St w0 _ w) (by kernel_rfl) (by kernel_rfl) h.drew fun w h => ?_)
  refine cur_pure rfl rfl rfl rfl (fun _ => h) (fun _ => flt_v rfl (q_moveS rfl)) ?_; refine cur_pure rfl rfl rfl rfl (fun _ => h) (fun _ => flt_v rfl (q_moveI rfl)) ?_
  refine cur_pure rfl rfl rfl rfl (fun _ => h) (fun _ => flt_v rfl (q_idx (b := b) (o := o) (m := L.length) (c := c) (o' := o + (k + 1) * 2) (by rw [← hsl]; rfl) rfl rfl hlt rfl)) ?_
  refine cur_pure rfl rfl rfl rfl (fun _ => h) (fun _ => flt_v rfl (q_fa rfl)) ?_
  refine cur_float rfl rfl rfl rfl h (fun w h => flt_v rfl (q_loadc (v := .int .i64 s1.T) rfl (hat1 h))) ?_
  refine cur_pure rfl rfl rfl rfl (fun _ => h) (fun _ => flt_v rfl (q_moveS rfl)) ?_; refine cur_pure rfl rfl rfl rfl (fun _ => h) (fun _ => flt_v rfl (q_moveI rfl)) ?_
  refine cur_pure rfl rfl rfl rfl (fun _ => h) (fun _ => flt_v rfl (q_is (v' := .int .i64 (k : Int)) (q_sub rfl rfl) (by rw [wrap64 (by omega) (by omega)]; congr 1; omega))) ?_
  refine cur_pure rfl rfl rfl rfl (fun _ => h) (fun _ => flt_v rfl (q_idx (b := b) (o := o) (m := L.length) (c := c) (o' := o + k * 2) (by rw [← hsl]; rfl) rfl rfl hk rfl)) ?_
  refine cur_pure rfl rfl rfl rfl (fun _ => h) (fun _ => flt_v rfl (q_fa rfl)) ?_
  refine cur_float rfl rfl rfl rfl h (fun w h => flt_v rfl (q_loadc (v := .int .i64 s0.T) rfl (hat0 h))) ?_
  refine cur_pure rfl rfl rfl rfl (fun _ => h) (fun _ => flt_v rfl (q_leq rfl rfl)) ?_
  refine cur_end ?_
  refine c_cond (decide (s1.T ≤ s0.T)) rfl (fun hc => ?_) (fun hc => ?_)
  ·
   refine c_seq (c_region ?_)
   refine r_v (q_assignB rfl) rfl ?_
   refine r_nil ?_
   refine c_ret (bq1 ⟨?_, h⟩)
   have : rising L = false := by
    unfold rising
    rw [he, show decide (s0.T < s1.T) = false by rw [decide_eq_true_eq] at hc; rw [decide_eq_false_iff_not]; omega]
    rfl
   rw [this]; rfl
  ·rw [show decide (s0.T < s1.T) = true by rw [decide_eq_false_iff_not] at hc; rw [decide_eq_true_eq]; omega, Bool.true_and] at he
   refine c_skip ?_
   refine c_region ?_
   refine r_v (q_moveI rfl) rfl ?_; refine r_v (q_add rfl rfl) rfl ?_
   refine r_is (.int .i64 ((k + 1 + 1 : Nat) : Int)) (by rw [wrap64 (by omega) (by omega)]; rfl) ?_
   refine r_v (q_assignI rfl) rfl ?_
   refine r_nil ⟨k + 1, ⟨rfl, rfl, trivial⟩, ⟨.inr ⟨hlt, fun s hs => ?_⟩, h⟩, by omega⟩
   rw [hg] at hs; cases hs
   exact he
 refine r_is (.bool false) (by simp; omega) ?_
 refine r_nil (c_false rfl ?_)
 have hrise : rises L = true := by
  rcases inv with inv | ⟨hk, inv⟩
  ·rw [inv]; rfl
  ·have := inv _ (List.getElem?_eq_getElem hk)
   rw [this, show k + 1 = L.length by omega, List.drop_length]; rfl
 refine c_exit ?_
 refine c_seq (c_region ?_)
 refine r_v (q_moveS rfl) rfl ?_; refine r_v (q_len rfl) rfl ?_; refine r_v (q_leq rfl rfl) rfl ?_; refine r_v (q_assignB rfl) rfl ?_
 refine r_nil ?_
 refine c_ret (bq1 ⟨?_, h⟩)
 show Value.bool (decide ((L.length : Int) ≤ 65535)) = _
 unfold rising
 rw [hrise, Bool.true_and]
 congr 1
 rw [decide_eq_decide]
 omega


theorem ref10_Encode (tag : Int) {sl : Option Addr} {c : Nat} {L : List Smp} (hw : ∀ s ∈ L, s.Wf) (hn : L.length ≤ 65535) (hr : Reads w0 l 2 sl L.length (smpsV L)) (h : St w0 l w) :
  Ret Tryd.prog 13 [.int .i64 tag, .slice sl L.length c] w fun v w' => ∃ a c', v = .tuple [.slice a ((suitEnc tag L).getD []).length c', .bool (suitEnc tag L).isSome].toArray ∧ St w0 (OwnB a c' ((suitEnc tag L).getD []) :: l) w' := by
 have hvl : (valsOf L).length = L.length := by simp [valsOf]
 have hvlt := valsOf_lt hw
 have htl : (timesOf L).length = L.length := by simp [timesOf]
 have hvel := valuesEnc_len (tag := tag) (u := valsOf L) (by omega) hvlt
 refine enter Tryd.func13 rfl Tryd.results13 Tryd.ntmps13 rfl ?_
 refine c_seq (c_region ?_)
 refine r_v (q_assignS rfl) rfl ?_; refine r_v (q_assignB rfl) rfl ?_
 refine r_nil ?_
 refine c_seq (c_region ?_)
 refine r_v (q_moveI rfl) rfl ?_; refine r_v (q_moveS rfl) rfl ?_
 refine r_c rfl (x_call rfl (ref10_values hw hn hr h) ?_)
 rintro _ w ⟨va, vc, rfl, _, h⟩
 refine r_c rfl (x_call rfl (ref10_told tag hvlt (by omega) Reads.own h) ?_)
 rintro _ w ⟨ba, bc, rfl, h⟩
 replace h := (h.f 1).drop
 refine r_v (q_moveT rfl) rfl ?_; refine r_v (q_ext rfl rfl) rfl ?_; refine r_v (q_ext rfl rfl) rfl ?_; refine r_v (q_assignS rfl) rfl ?_; refine r_v (q_assignB rfl) rfl ?_
 refine r_nil ?_
 refine c_seq (c_seq (c_region ?_))
 cases hE : valuesEnc tag (valsOf L) with
 | none =>
  have hS : suitEnc tag L = none := by unfold suitEnc; rw [hE]; split <;> rfl
  rw [hS]
  rw [hE] at h
  show Rn _ _ _ _ _ (upd (upd _ 6 (.slice ba 0 bc)) 7 (.bool false)) _
  refine r_v (q_moveB rfl) rfl ?_; refine r_v (q_not rfl) rfl ?_; refine r_v (q_moveB rfl) rfl ?_; (first | refine r_gd rfl rfl ?_ | refine r_gn rfl rfl rfl ?_ | refine r_gu rfl rfl ?_ | refine r_gd rfl (by assumption) ?_ | refine r_gn rfl (by assumption) rfl ?_); (first | refine r_gd rfl rfl ?_ | refine r_gn rfl rfl rfl ?_ | refine r_gu rfl rfl ?_ | refine r_gd rfl (by assumption) ?_ | refine r_gn rfl (by assumption) rfl ?_); (first | refine r_gd rfl rfl ?_ | refine r_gn rfl rfl rfl ?_ | refine r_gu rfl rfl ?_ | refine r_gd rfl (by assumption) ?_ | refine r_gn rfl (by assumption) rfl ?_); (first | refine r_v (q_pick1 rfl rfl rfl) rfl ?_ | refine r_v (q_pick0 rfl rfl rfl) rfl ?_ | refine r_v (q_pick1 rfl (by assumption) rfl) rfl ?_ | refine r_v (q_pick0 rfl (by assumption) rfl) rfl ?_ | refine r_v (q_pickB rfl rfl rfl) rfl ?_)
  refine r_nil (c_true rfl ?_)
  refine c_seq (c_region ?_)
  refine r_v (q_assignS rfl) rfl ?_; refine r_v (q_assignB rfl) rfl ?_
  exact r_nil (c_ret (bq2 ⟨none, 0, rfl, St.ownNil _ _ h.drop⟩))
 | some vb =>
 rw [hE] at h hvel
 replace h : St w0 (OwnB ba bc vb :: l) w := h
 have hvel : vb.length ≤ 2000000 := hvel
 show Rn _ _ _ _ _ (upd (upd _ 6 (.slice ba vb.length bc)) 7 (.bool true)) _
 refine r_v (q_moveB rfl) rfl ?_; refine r_v (q_not rfl) rfl ?_; refine r_v (q_moveB rfl) rfl ?_; (first | refine r_gd rfl rfl ?_ | refine r_gn rfl rfl rfl ?_ | refine r_gu rfl rfl ?_ | refine r_gd rfl (by assumption) ?_ | refine r_gn rfl (by assumption) rfl ?_); refine r_v (q_moveS rfl) rfl ?_; (first | refine r_gd rfl rfl ?_ | refine r_gn rfl rfl rfl ?_ | refine r_gu rfl rfl ?_ | refine r_gd rfl (by assumption) ?_ | refine r_gn rfl (by assumption) rfl ?_)
 refine r_c rfl (x_call rfl (ref10_Rising (by omega) hr.cons h) ?_)
 rintro _ w ⟨rfl, h⟩
 cases hR : rising L with
 | false =>
  have hS : suitEnc tag L = none := by unfold suitEnc; rw [hR]; rfl
  rw [hS]
  (first | refine r_gd rfl rfl ?_ | refine r_gn rfl rfl rfl ?_ | refine r_gu rfl rfl ?_ | refine r_gd rfl (by assumption) ?_ | refine r_gn rfl (by assumption) rfl ?_); refine r_v (q_not rfl) rfl ?_; (first | refine r_v (q_pick1 rfl rfl rfl) rfl ?_ | refine r_v (q_pick0 rfl rfl rfl) rfl ?_ | refine r_v (q_pick1 rfl (by assumption) rfl) rfl ?_ | refine r_v (q_pick0 rfl (by assumption) rfl) rfl ?_ | refine r_v (q_pickB rfl rfl rfl) rfl ?_)
  refine r_nil (c_true rfl ?_)
  refine c_seq (c_region ?_)
  refine r_v (q_assignS rfl) rfl ?_; refine r_v (q_assignB rfl) rfl ?_
  exact r_nil (c_ret (bq2 ⟨none, 0, rfl, St.ownNil _ _ h.drop⟩))
 | true =>
 have hS : suitEnc tag L = some (suitBytes L vb) := by unfold suitEnc; rw [hR, hE]; rfl
 rw [hS]
 (first | refine r_gd rfl rfl ?_ | refine r_gn rfl rfl rfl ?_ | refine r_gu rfl rfl ?_ | refine r_gd rfl (by assumption) ?_ | refine r_gn rfl (by assumption) rfl ?_); refine r_v (q_not rfl) rfl ?_; (first | refine r_v (q_pick1 rfl rfl rfl) rfl ?_ | refine r_v (q_pick0 rfl rfl rfl) rfl ?_ | refine r_v (q_pick1 rfl (by assumption) rfl) rfl ?_ | refine r_v (q_pick0 rfl (by assumption) rfl) rfl ?_ | refine r_v (q_pickB rfl rfl rfl) rfl ?_)
 refine r_nil (c_false rfl (c_skip ?_))
 refine c_seq (c_region ?_)
 refine r_v (q_build (r := [.slice none 0 0]) rfl) rfl ?_
 refine r_c rfl (x_box h (show _ = Value.agg [.slice none 0 0].toArray from rfl) fun p w h => ?_)
 replace h : St w0 (IsRW p [] :: OwnB ba bc vb :: l) w := St.rw_new h
 refine r_v (q_assignP rfl) rfl ?_
 refine r_nil ?_
 refine c_seq (c_region ?_)
 refine r_v (q_assignS rfl) rfl ?_
 refine r_nil ?_
 refine c_cut (Γ := Option Addr × Nat) (fun q => [(6, .slice ba vb.length bc), (8, .pointer (some ⟨p, 0, none⟩)), (9, .slice q.1 (timesOf L).length q.2)])
  (fun q w => St w0 (IsRW p [] :: Own 2 1 q.1 (timesOf L).length q.2 (i64V (timesOf L)) :: OwnB ba bc vb :: l) w) ?_ ?_
 ·refine c_seq (c_region ?_)
  refine r_v (q_assignI rfl) rfl ?_
  refine r_nil ?_
  refine c_block ?_
  refine c_loop (Γ := Nat × Option Addr × Nat) (fun k => [(1, .slice sl L.length c), (6, .slice ba vb.length bc), (8, .pointer (some ⟨p, 0, none⟩)), (9, .slice k.2.1 (timesOf (L.take k.1)).length k.2.2), (10, .int .i64 k.1)])
   (fun k w => k.1 ≤ L.length ∧ St w0 (Own 2 1 k.2.1 (timesOf (L.take k.1)).length k.2.2 (i64V (timesOf (L.take k.1))) :: IsRW p [] :: OwnB ba bc vb :: l) w) (fun k => L.length - k.1) (0, none, 0) ⟨rfl, rfl, rfl, rfl, rfl, trivial⟩ ⟨Nat.zero_le _, St.ownNil _ _ h⟩ ?_
  clear h
  rintro ⟨k, oa, oc⟩ w e ⟨hk, h⟩
  dsimp only at hk h ⊢
  refine c_seq (c_seq (c_region ?_))
  refine r_v (q_moveI rfl) rfl ?_; refine r_v (q_moveS rfl) rfl ?_; refine r_v (q_len rfl) rfl ?_; refine r_v (q_lss rfl rfl) rfl ?_
  refine r_nil ?_
  refine c_cond (decide ((k : Int) < (L.length : Int))) rfl (fun hc => ?_) (fun hc => ?_)
  ·have hlt : k < L.length := by simp at hc; omega
   have hg := List.getElem?_eq_getElem hlt
   generalize L[k] = s at hg
   have hkl : (timesOf (L.take k)).length = k := by unfold timesOf; simp; omega
   have hvs : timesOf (L.take (k + 1)) = timesOf (L.take k) ++ [s.T] := by rw [List.take_add_one, hg]; simp [timesOf]
   obtain ⟨b, o, hsl⟩ := (hr [_, _, _] _ h).some (by omega)
   refine c_skip ?_
   refine c_seq (c_block ?_)
   refine c_region ?_
   refine r_v (q_moveS rfl) rfl ?_; refine r_v (q_moveS rfl) rfl ?_; refine r_v (q_moveI rfl) rfl ?_
   refine r_v (q_idx (b := b) (o := o) (m := L.length) (c := c) (o' := o + k * 2) (by rw [← hsl]; rfl) rfl rfl hlt rfl) rfl ?_
   refine r_v (q_fa rfl) rfl ?_
   refine r_v (q_loadc (v := .int .i64 s.T) rfl ((hsl ▸ hr [_, _, _] _ h).elem smp_len hg 0 _ rfl)) rfl ?_
   refine r_app1 (v := .int .i64 s.T) (m3 := (timesOf (L.take (k + 1))).length) (zs := i64V (timesOf (L.take (k + 1)))) h rfl rfl rfl rfl rfl (by rw [hvs]; simp) (by rw [hvs]; simp [i64V, vcells]) (by rw [hvs]; simp; omega) (by rw [hvs]; simp; omega) rfl rfl rfl rfl rfl fun b a' c' w _ h => ?_
   refine r_v (q_assignS rfl) rfl ?_
   refine r_nil ?_
   refine c_region ?_
   refine r_v (q_moveI rfl) rfl ?_; refine r_v (q_add rfl rfl) rfl ?_
   refine r_is (.int .i64 ((k + 1 : Nat) : Int)) (by rw [wrap64 (by omega) (by omega)]; rfl) ?_
   refine r_v (q_assignI rfl) rfl ?_
   exact r_nil ⟨(k + 1, a', c'), ⟨rfl, rfl, rfl, rfl, rfl, trivial⟩, ⟨hlt, h⟩, by dsimp only; omega⟩
  ·obtain rfl : k = L.length := by simp at hc; omega
   rw [List.take_length] at h
   refine c_exit ⟨(oa, oc), ⟨rfl, rfl, ?_, trivial⟩, h.f 1⟩
   show Value.slice oa (timesOf (L.take L.length)).length oc = _
   rw [List.take_length]
 clear h
 rintro ⟨ta, tc⟩ w e h
 dsimp only at h ⊢
 have htb := timesBits_len (timesOf L)
 have hpl := pack_len (timesBits (timesOf L))
 refine c_seq (c_region ?_)
 refine r_v (q_moveP rfl) rfl ?_; refine r_v (q_moveS rfl) rfl ?_
 refine r_c rfl (x_call rfl (ref4_Times (timesOf_wf hw) (by omega) (by decide) h Reads.own) ?_)
 rintro _ w ⟨rfl, h⟩
 rw [List.nil_append] at h
 refine r_nil ?_
 refine c_seq (c_region ?_)
 refine r_v (q_moveP rfl) rfl ?_
 refine r_c rfl (x_call rfl (rw_Bytes (by omega) h) ?_)
 rintro _ w ⟨xa, xc, rfl, h⟩
 replace h := ((h.f 1).drop.f 1).drop
 refine r_v (q_assignS rfl) rfl ?_
 refine r_nil ?_
 have hsb : suitBytes L vb = vput (pack (timesBits (timesOf L))).length ++ (pack (timesBits (timesOf L)) ++ vb) := rfl
 generalize pack (timesBits (timesOf L)) = tb at *
 have hvp := vput_len tb.length
 rw [hsb]
 refine c_seq (c_region ?_)
 refine r_v (q_moveS rfl) rfl ?_; refine r_v (q_len rfl) rfl ?_; refine r_v (q_conv rfl) rfl ?_
 refine r_is (.int .u64 (tb.length : Int)) (by rw [wrap_u64, Nat.mod_eq_of_lt (by omega)]) ?_
 refine r_c rfl (x_call rfl (ref1_Put (bs := []) tb.length (by omega) h (fun w' h' => Reads.nil.at_ h') (by simp)) ?_)
 rintro _ w ⟨a1, c1, rfl, h⟩
 rw [List.nil_append] at h ⊢
 refine r_v (q_moveS rfl) rfl ?_
 refine r_c rfl (x_append' (ys := bytesV tb) (zs := bytesV (vput tb.length ++ tb)) (m3 := (vput tb.length ++ tb).length) h rfl rfl (h.f 1).own_rd (bytesV_one _) (by simp) (by simp [bytesV]) (by simp; omega) (by simp; omega) rfl fun a2 c2 w _ h => ?_)
 refine r_v (q_moveS rfl) rfl ?_
 refine r_c rfl (x_append' (ys := bytesV vb) (zs := bytesV (vput tb.length ++ (tb ++ vb))) (m3 := (vput tb.length ++ (tb ++ vb)).length) h rfl rfl (h.f 2).own_rd (bytesV_one _) (by simp; omega) (by simp [bytesV]) (by simp; omega) (by simp; omega) rfl fun a3 c3 w _ h => ?_)
 refine r_v (q_assignS rfl) rfl ?_; refine r_v (q_assignB rfl) rfl ?_
 exact r_nil (c_ret (bq2 ⟨a3, c3, rfl, ((h.f 1).drop.f 1).drop⟩))

end
end Go.Proofs.YtjjacchnalemaaaDoor

namespace Go.Proofs.YtjjacchnalemaaaDoor
open Go.Hw
set_option maxHeartbeats 4000000
instance eqiSmp : EqI Tryd.prog 25 [.i64, .u64] := ⟨⟨_, Tryd.underlying25, by kernel_rfl⟩, by kernel_rfl, by kernel_rfl⟩

section
variable {w0 w : World} {l : List HProp}
theorem ref10_Same {a1 a2 : Option Addr} {n1 n2 c1 c2 : Nat} {L1 L2 : List Smp} (h : St w0 l w) (hr1 : ∀ w', St w0 l w' → Rd w' 2 a1 n1 (smpsV L1)) (hr2 : ∀ w', St w0 l w' → Rd w' 2 a2 n2 (smpsV L2)) (hn : n1 < 9223372036854775807) :
  Ret Tryd.prog 19 [.slice a1 n1 c1, .slice a2 n2 c2] w fun v w' => v = .bool (decide (L1 = L2)) ∧ St w0 l w' := by
 have hl1 : L1.length = n1 := (hr1 w h).count smp_len (by decide)
 have hl2 : L2.length = n2 := (hr2 w h).count smp_len (by decide)
 refine enter Tryd.func19 rfl Tryd.results19 Tryd.ntmps19 rfl ?_
 refine c_seq (c_region ?_)
 refine r_v (q_assignB rfl) rfl ?_
 refine r_nil ?_
 refine c_seq (c_seq (c_region ?_))
 refine r_v (q_moveS rfl) rfl ?_; refine r_v (q_len rfl) rfl ?_; refine r_v (q_moveS rfl) rfl ?_; refine r_v (q_len rfl) rfl ?_; refine r_v (q_neq rfl rfl) rfl ?_
 refine r_nil ?_
 refine c_cond _ rfl (fun hc => ?_) (fun hc => ?_)
 ·
  refine c_seq (c_region ?_)
  refine r_v (q_assignB rfl) rfl ?_
  refine r_nil ?_
  refine c_ret (bq1 ⟨?_, h⟩)
  have : L1 ≠ L2 := by
   rintro rfl
   simp at hc
   omega
  show Value.bool false = _
  rw [decide_eq_false this]
 have hnn : n1 = n2 := by simp at hc; omega
 subst hnn
 refine c_skip ?_
 refine c_seq (c_seq (c_region ?_))
 refine r_v (q_assignI rfl) rfl ?_
 refine r_nil ?_
 refine c_block ?_
 refine c_loop (Γ := Nat) (fun k => [(0, .slice a1 n1 c1), (1, .slice a2 n1 c2), (5, .int .i64 k)]) (fun k w => k ≤ n1 ∧ L1.take k = L2.take k ∧ St w0 l w) (fun k => n1 - k) 0 ⟨rfl, rfl, rfl, trivial⟩ ⟨Nat.zero_le _, by simp, h⟩ ?_
 clear h
 rintro k w e ⟨hk, hpre, h⟩
 refine c_seq (c_seq (c_region ?_))
 refine r_v (q_moveI rfl) rfl ?_; refine r_v (q_moveS rfl) rfl ?_; refine r_v (q_len rfl) rfl ?_; refine r_v (q_lss rfl rfl) rfl ?_
 refine r_nil ?_
 refine c_cond (decide ((k : Int) < (n1 : Int))) rfl (fun hc => ?_) (fun hc => ?_)
 ·
  have hkn : k < n1 := by simp at hc; omega
  obtain ⟨b1, o1, rfl⟩ := (hr1 w h).some (by omega)
  obtain ⟨b2, o2, rfl⟩ := (hr2 w h).some (by omega)
  have hg1 := List.getElem?_eq_getElem (show k < L1.length by omega)
  have hg2 := List.getElem?_eq_getElem (show k < L2.length by omega)
  generalize L1[k] = s1 at hg1
  generalize L2[k] = s2 at hg2
  refine c_skip ?_
  refine c_seq (c_block ?_)
  refine c_seq (c_any none (fun w => St w0 _ w) (by kernel_rfl) (by kernel_rfl) h.drew fun w h => ?_)
  refine cur_pure rfl rfl rfl rfl (fun _ => h) (fun _ => flt_v rfl (q_moveS rfl)) ?_; refine cur_pure rfl rfl rfl rfl (fun _ => h) (fun _ => flt_v rfl (q_moveI rfl)) ?_
  refine cur_pure rfl rfl rfl rfl (fun _ => h) (fun _ => flt_v rfl (q_idx rfl rfl rfl hkn rfl)) ?_
  refine cur_float rfl rfl rfl rfl h (fun w h => flt_v rfl (q_loadS (l := s1.cells) rfl rfl ((hr1 w h).elem smp_len hg1))) ?_
  refine cur_pure rfl rfl rfl rfl (fun _ => h) (fun _ => flt_v rfl (q_moveS rfl)) ?_; refine cur_pure rfl rfl rfl rfl (fun _ => h) (fun _ => flt_v rfl (q_moveI rfl)) ?_
  refine cur_pure rfl rfl rfl rfl (fun _ => h) (fun _ => flt_v rfl (q_idx rfl rfl rfl hkn rfl)) ?_
  refine cur_float rfl rfl rfl rfl h (fun w h => flt_v rfl (q_loadS (l := s2.cells) rfl rfl ((hr2 w h).elem smp_len hg2))) ?_
  refine cur_pure rfl rfl rfl rfl (fun _ => h) (fun _ => flt_v rfl (q_neI [s1.T, s1.V] [s2.T, s2.V] rfl rfl rfl rfl)) ?_
  refine cur_end ?_
  refine c_cond _ rfl (fun hc => ?_) (fun hc => ?_)
  ·
   refine c_seq (c_region ?_)
   refine r_v (q_assignB rfl) rfl ?_
   refine r_nil ?_
   refine c_ret (bq1 ⟨?_, h⟩)
   have : L1 ≠ L2 := by
    rintro rfl
    rw [hg1] at hg2
    cases hg2
    simp at hc
   show Value.bool false = _
   rw [decide_eq_false this]
  ·have hss : s1 = s2 := by
    obtain ⟨T1, V1⟩ := s1
    obtain ⟨T2, V2⟩ := s2
    simp at hc
    simp [hc.1, hc.2]
   subst hss
   refine c_skip ?_
   refine c_region ?_
   refine r_v (q_moveI rfl) rfl ?_; refine r_v (q_add rfl rfl) rfl ?_
   refine r_is (.int .i64 ((k + 1 : Nat) : Int)) (by rw [wrap64 (by omega) (by omega)]; rfl) ?_
   refine r_v (q_assignI rfl) rfl ?_
   refine r_nil ⟨k + 1, ⟨rfl, rfl, rfl, trivial⟩, ⟨by omega, ?_, h⟩, by omega⟩
   rw [List.take_add_one, List.take_add_one, hpre, hg1, hg2]
 have hkn : k = n1 := by simp at hc; omega
 subst hkn
 refine c_exit ?_
 refine c_seq (c_region ?_)
 refine r_v (q_assignB rfl) rfl ?_
 refine r_nil ?_
 refine c_ret (bq1 ⟨?_, h⟩)
 have : L1 = L2 := by
  rw [List.take_of_length_le (by omega), List.take_of_length_le (by omega)] at hpre
  exact hpre
 show Value.bool true = _
 rw [decide_eq_true this]
end
end Go.Proofs.YtjjacchnalemaaaDoor

namespace Go.Hw
set_option maxRecDepth 100000
def A3 : List Smp := [⟨1, 7⟩, ⟨2, 7⟩, ⟨3, 7⟩]
def A3b : List UInt8 := (suitEnc 6 A3).getD []
theorem A3_enc : suitEnc 6 A3 = some A3b := by decide +kernel
theorem A3_len : A3b.length = 12 := by decide +kernel
theorem A3_best : suitBest A3 = (6, A3b) := by decide +kernel
theorem A3_wf : ∀ s ∈ A3, s.Wf := by
 intro s hs
 simp only [A3, List.mem_cons, List.not_mem_nil, or_false] at hs
 rcases hs with rfl | rfl | rfl <;> exact ⟨⟨by decide, by decide⟩, by decide, by decide⟩
theorem A3_dec : suitDec 6 A3b 3 = some A3 := suitDec_told A3_wf (by rw [A3_len]; decide) A3_enc
def A2 : List Smp := [⟨1, 0⟩, ⟨1, 0⟩]
theorem A2_wf : ∀ s ∈ A2, s.Wf := by
 intro s hs
 simp only [A2, List.mem_cons, List.not_mem_nil, or_false] at hs
 rcases hs with rfl | rfl <;> exact ⟨⟨by decide, by decide⟩, by decide, by decide⟩
end Go.Hw
namespace Go.Proofs.YtjjacchnalemaaaDoor
open Go.Hw
set_option maxHeartbeats 4000000
set_option maxRecDepth 100000
section
variable {w0 w : World} {l : List HProp}
theorem law10_awake (hT : Tz w0) (h : St w0 l w) : Ret Tryd.prog 14 [] w fun v w' => v = .bool true ∧ St w0 l w' := by
 refine enter Tryd.func14 rfl Tryd.results14 Tryd.ntmps14 rfl ?_
 refine c_seq (c_region ?_)
 refine r_v (q_assignB rfl) rfl ?_
 refine r_nil ?_
 refine c_seq (c_region ?_)
 refine r_v (q_build (r := (Smp.mk 1 7).cells) rfl) rfl ?_
 refine r_v (q_build (r := (Smp.mk 2 7).cells) rfl) rfl ?_
 refine r_v (q_build (r := (Smp.mk 3 7).cells) rfl) rfl ?_
 refine r_c rfl (x_bslice (r := smpsV A3) h rfl rfl rfl fun b w h => ?_)
 have hr : ∀ M : List HProp, Reads w0 (M ++ pt b (.cells (smpsV A3).toArray 25 (0, 0)) :: l) 2 (some ⟨b, 0, none⟩) A3.length (smpsV A3) := fun M => (Reads.pt (m := 0) rfl rfl).more M
 refine r_v (q_assignS rfl) rfl ?_
 refine r_nil ?_
 refine c_seq (c_region ?_)
 refine r_v (q_moveS rfl) rfl ?_
 refine r_c rfl (x_call rfl (suit_Encode hT 6 A3_wf (by decide) (hr []) h) ?_)
 rw [A3_enc]
 rintro _ w ⟨ea, ec, rfl, h⟩
 replace h : St w0 (OwnB ea ec A3b :: pt b (.cells (smpsV A3).toArray 25 (0, 0)) :: l) w := h
 show Rn _ _ _ _ _ (upd _ _ (.tuple [.slice ea A3b.length ec, .bool true].toArray)) _
 refine r_v (q_moveT rfl) rfl ?_; refine r_v (q_ext rfl rfl) rfl ?_; refine r_v (q_ext rfl rfl) rfl ?_; refine r_v (q_assignS rfl) rfl ?_; refine r_v (q_assignB rfl) rfl ?_
 refine r_nil ?_
 refine c_seq (c_region ?_)
 refine r_v (q_moveS rfl) rfl ?_
 refine r_c rfl (x_call rfl (suit_Decode hT read_6 3 (by rw [A3_len]; decide) h.own_cases.2.1 Reads.own h) ?_)
 rw [A3_dec]
 rintro _ w ⟨da, dc, rfl, _, h⟩
 replace h : St w0 (OwnS da dc A3 :: OwnB ea ec A3b :: pt b (.cells (smpsV A3).toArray 25 (0, 0)) :: l) w := h
 show Rn _ _ _ _ _ (upd _ _ (.tuple [.slice da A3.length dc, .bool true].toArray)) _
 refine r_v (q_moveT rfl) rfl ?_; refine r_v (q_ext rfl rfl) rfl ?_; refine r_v (q_ext rfl rfl) rfl ?_; refine r_v (q_assignS rfl) rfl ?_; refine r_v (q_assignB rfl) rfl ?_
 refine r_nil ?_
 refine c_seq (c_region ?_)
 refine r_v (q_moveS rfl) rfl ?_
 refine r_c rfl (x_call rfl (suit_Best hT A3_wf (by decide) (hr [_, _]) h) ?_)
 rw [A3_best]
 rintro _ w ⟨ba, bc, rfl, h⟩
 replace h : St w0 (OwnB ba bc A3b :: OwnS da dc A3 :: OwnB ea ec A3b :: pt b (.cells (smpsV A3).toArray 25 (0, 0)) :: l) w := h
 show Rn _ _ _ _ _ (upd _ _ (.tuple [.int .i64 6, .slice ba A3b.length bc].toArray)) _
 refine r_v (q_moveT rfl) rfl ?_; refine r_v (q_ext rfl rfl) rfl ?_; refine r_v (q_ext rfl rfl) rfl ?_; refine r_v (q_assignI rfl) rfl ?_; refine r_v (q_assignS rfl) rfl ?_
 refine r_nil ?_
 refine c_seq (c_region ?_)
 refine r_v (q_build (r := (Smp.mk 1 0).cells) rfl) rfl ?_
 refine r_v (q_build (r := (Smp.mk 1 0).cells) rfl) rfl ?_
 refine r_c rfl (x_bslice (r := smpsV A2) h rfl rfl rfl fun b2 w h => ?_)
 refine r_c rfl (x_call rfl (suit_Encode (L := A2) hT 1 A2_wf (by decide) (Reads.pt (m := 0) rfl rfl) h) ?_)
 rw [show suitEnc 1 A2 = none from rfl]
 rintro _ w ⟨fa, fc, rfl, h⟩
 replace h := h.drop.drop
 show Rn _ _ _ _ _ (upd _ _ (.tuple [.slice fa 0 fc, .bool false].toArray)) _
 refine r_v (q_moveT rfl) rfl ?_; refine r_v (q_ext rfl rfl) rfl ?_; refine r_v (q_ext rfl rfl) rfl ?_; refine r_v (q_assignS rfl) rfl ?_; refine r_v (q_assignB rfl) rfl ?_
 refine r_nil ?_
 refine c_seq (c_region ?_)
 refine r_v (q_moveB rfl) rfl ?_; refine r_v (q_moveB rfl) rfl ?_; (first | refine r_gd rfl rfl ?_ | refine r_gn rfl rfl rfl ?_ | refine r_gu rfl rfl ?_ | refine r_gd rfl (by assumption) ?_ | refine r_gn rfl (by assumption) rfl ?_); refine r_v (q_moveS rfl) rfl ?_; (first | refine r_gd rfl rfl ?_ | refine r_gn rfl rfl rfl ?_ | refine r_gu rfl rfl ?_ | refine r_gd rfl (by assumption) ?_ | refine r_gn rfl (by assumption) rfl ?_); refine r_v (q_len rfl) rfl ?_; (first | refine r_gd rfl rfl ?_ | refine r_gn rfl rfl rfl ?_ | refine r_gu rfl rfl ?_ | refine r_gd rfl (by assumption) ?_ | refine r_gn rfl (by assumption) rfl ?_)
 refine r_v (q_is (v' := .bool true) (q_eql rfl rfl) (by rw [A3_len]; rfl)) rfl ?_
 (first | refine r_v (q_pick1 rfl rfl rfl) rfl ?_ | refine r_v (q_pick0 rfl rfl rfl) rfl ?_ | refine r_v (q_pick1 rfl (by assumption) rfl) rfl ?_ | refine r_v (q_pick0 rfl (by assumption) rfl) rfl ?_ | refine r_v (q_pickB rfl rfl rfl) rfl ?_); refine r_v (q_moveB rfl) rfl ?_; (first | refine r_gd rfl rfl ?_ | refine r_gn rfl rfl rfl ?_ | refine r_gu rfl rfl ?_ | refine r_gd rfl (by assumption) ?_ | refine r_gn rfl (by assumption) rfl ?_); refine r_v (q_moveB rfl) rfl ?_; (first | refine r_v (q_pick1 rfl rfl rfl) rfl ?_ | refine r_v (q_pick0 rfl rfl rfl) rfl ?_ | refine r_v (q_pick1 rfl (by assumption) rfl) rfl ?_ | refine r_v (q_pick0 rfl (by assumption) rfl) rfl ?_ | refine r_v (q_pickB rfl rfl rfl) rfl ?_); refine r_v (q_moveB rfl) rfl ?_; (first | refine r_gd rfl rfl ?_ | refine r_gn rfl rfl rfl ?_ | refine r_gu rfl rfl ?_ | refine r_gd rfl (by assumption) ?_ | refine r_gn rfl (by assumption) rfl ?_); refine r_v (q_moveS rfl) rfl ?_; (first | refine r_gd rfl rfl ?_ | refine r_gn rfl rfl rfl ?_ | refine r_gu rfl rfl ?_ | refine r_gd rfl (by assumption) ?_ | refine r_gn rfl (by assumption) rfl ?_); refine r_v (q_moveS rfl) rfl ?_; (first | refine r_gd rfl rfl ?_ | refine r_gn rfl rfl rfl ?_ | refine r_gu rfl rfl ?_ | refine r_gd rfl (by assumption) ?_ | refine r_gn rfl (by assumption) rfl ?_)
 refine r_c rfl (x_call rfl (ref10_Same (L1 := A3) (L2 := A3) h (fun w' h' => (h'.f 1).own_rd) ((hr [_, _, _]).rd) (by decide)) ?_)
 rintro _ w ⟨rfl, h⟩
 rw [show decide (A3 = A3) = true by simp]
 (first | refine r_v (q_pick1 rfl rfl rfl) rfl ?_ | refine r_v (q_pick0 rfl rfl rfl) rfl ?_ | refine r_v (q_pick1 rfl (by assumption) rfl) rfl ?_ | refine r_v (q_pick0 rfl (by assumption) rfl) rfl ?_ | refine r_v (q_pickB rfl rfl rfl) rfl ?_); refine r_v (q_moveB rfl) rfl ?_; (first | refine r_gd rfl rfl ?_ | refine r_gn rfl rfl rfl ?_ | refine r_gu rfl rfl ?_ | refine r_gd rfl (by assumption) ?_ | refine r_gn rfl (by assumption) rfl ?_); refine r_v (q_moveI rfl) rfl ?_; (first | refine r_gd rfl rfl ?_ | refine r_gn rfl rfl rfl ?_ | refine r_gu rfl rfl ?_ | refine r_gd rfl (by assumption) ?_ | refine r_gn rfl (by assumption) rfl ?_); refine r_v (q_eql rfl rfl) rfl ?_; (first | refine r_v (q_pick1 rfl rfl rfl) rfl ?_ | refine r_v (q_pick0 rfl rfl rfl) rfl ?_ | refine r_v (q_pick1 rfl (by assumption) rfl) rfl ?_ | refine r_v (q_pick0 rfl (by assumption) rfl) rfl ?_ | refine r_v (q_pickB rfl rfl rfl) rfl ?_); refine r_v (q_moveB rfl) rfl ?_; (first | refine r_gd rfl rfl ?_ | refine r_gn rfl rfl rfl ?_ | refine r_gu rfl rfl ?_ | refine r_gd rfl (by assumption) ?_ | refine r_gn rfl (by assumption) rfl ?_); refine r_v (q_moveS rfl) rfl ?_; (first | refine r_gd rfl rfl ?_ | refine r_gn rfl rfl rfl ?_ | refine r_gu rfl rfl ?_ | refine r_gd rfl (by assumption) ?_ | refine r_gn rfl (by assumption) rfl ?_)
 refine r_v (q_btos (bs := A3b) rfl h.own_rd) rfl ?_
 (first | refine r_gd rfl rfl ?_ | refine r_gn rfl rfl rfl ?_ | refine r_gu rfl rfl ?_ | refine r_gd rfl (by assumption) ?_ | refine r_gn rfl (by assumption) rfl ?_); refine r_v (q_moveS rfl) rfl ?_; (first | refine r_gd rfl rfl ?_ | refine r_gn rfl rfl rfl ?_ | refine r_gu rfl rfl ?_ | refine r_gd rfl (by assumption) ?_ | refine r_gn rfl (by assumption) rfl ?_)
 refine r_v (q_btos (bs := A3b) rfl (h.f 2).own_rd) rfl ?_
 (first | refine r_gd rfl rfl ?_ | refine r_gn rfl rfl rfl ?_ | refine r_gu rfl rfl ?_ | refine r_gd rfl (by assumption) ?_ | refine r_gn rfl (by assumption) rfl ?_); refine r_v (q_streq rfl rfl) rfl ?_
 rw [show ((strB A3b).data.toList == (strB A3b).data.toList) = true by simp]
 (first | refine r_v (q_pick1 rfl rfl rfl) rfl ?_ | refine r_v (q_pick0 rfl rfl rfl) rfl ?_ | refine r_v (q_pick1 rfl (by assumption) rfl) rfl ?_ | refine r_v (q_pick0 rfl (by assumption) rfl) rfl ?_ | refine r_v (q_pickB rfl rfl rfl) rfl ?_); refine r_v (q_moveB rfl) rfl ?_; (first | refine r_gd rfl rfl ?_ | refine r_gn rfl rfl rfl ?_ | refine r_gu rfl rfl ?_ | refine r_gd rfl (by assumption) ?_ | refine r_gn rfl (by assumption) rfl ?_); refine r_v (q_moveB rfl) rfl ?_; (first | refine r_gd rfl rfl ?_ | refine r_gn rfl rfl rfl ?_ | refine r_gu rfl rfl ?_ | refine r_gd rfl (by assumption) ?_ | refine r_gn rfl (by assumption) rfl ?_); refine r_v (q_not rfl) rfl ?_; (first | refine r_v (q_pick1 rfl rfl rfl) rfl ?_ | refine r_v (q_pick0 rfl rfl rfl) rfl ?_ | refine r_v (q_pick1 rfl (by assumption) rfl) rfl ?_ | refine r_v (q_pick0 rfl (by assumption) rfl) rfl ?_ | refine r_v (q_pickB rfl rfl rfl) rfl ?_); refine r_v (q_moveB rfl) rfl ?_; (first | refine r_gd rfl rfl ?_ | refine r_gn rfl rfl rfl ?_ | refine r_gu rfl rfl ?_ | refine r_gd rfl (by assumption) ?_ | refine r_gn rfl (by assumption) rfl ?_)
 refine r_c rfl (x_call rfl (suit_Rising (L := []) (by decide) Reads.nil h) ?_)
 rintro _ w ⟨rfl, h⟩
 (first | refine r_v (q_pick1 rfl rfl rfl) rfl ?_ | refine r_v (q_pick0 rfl rfl rfl) rfl ?_ | refine r_v (q_pick1 rfl (by assumption) rfl) rfl ?_ | refine r_v (q_pick0 rfl (by assumption) rfl) rfl ?_ | refine r_v (q_pickB rfl rfl rfl) rfl ?_); refine r_v (q_moveB rfl) rfl ?_; (first | refine r_gd rfl rfl ?_ | refine r_gn rfl rfl rfl ?_ | refine r_gu rfl rfl ?_ | refine r_gd rfl (by assumption) ?_ | refine r_gn rfl (by assumption) rfl ?_)
 refine r_v (q_build (r := (Smp.mk 1 0).cells) rfl) rfl ?_
 refine r_gd rfl rfl ?_
 refine r_v (q_build (r := (Smp.mk 0 0).cells) rfl) rfl ?_
 refine r_gd rfl rfl ?_
 refine r_c rfl (x_bslice (r := smpsV [⟨1, 0⟩, ⟨0, 0⟩]) h rfl rfl rfl fun b3 w h => ?_)
 refine r_gd rfl rfl ?_
 refine r_c rfl (x_call rfl (suit_Rising (L := [⟨1, 0⟩, ⟨0, 0⟩]) (by decide) (Reads.pt (m := 0) rfl rfl) h) ?_)
 rintro _ w ⟨rfl, h⟩
 rw [show rising [⟨1, 0⟩, ⟨0, 0⟩] = false from rfl]
 (first | refine r_gd rfl rfl ?_ | refine r_gn rfl rfl rfl ?_ | refine r_gu rfl rfl ?_ | refine r_gd rfl (by assumption) ?_ | refine r_gn rfl (by assumption) rfl ?_); refine r_v (q_not rfl) rfl ?_; (first | refine r_v (q_pick1 rfl rfl rfl) rfl ?_ | refine r_v (q_pick0 rfl rfl rfl) rfl ?_ | refine r_v (q_pick1 rfl (by assumption) rfl) rfl ?_ | refine r_v (q_pick0 rfl (by assumption) rfl) rfl ?_ | refine r_v (q_pickB rfl rfl rfl) rfl ?_); refine r_v (q_assignB rfl) rfl ?_
 refine r_nil ?_
 exact c_ret (bq1 ⟨rfl, h.drop.drop.drop.drop.drop⟩)
end
end Go.Proofs.YtjjacchnalemaaaDoor

namespace Go.Hw
set_option maxRecDepth 100000
def rowL (step every n : Nat) : List Smp := (List.range n).map fun i => ⟨((10 * i : Nat) : Int), ((1000000 + step * (i / every) : Nat) : Int)⟩
theorem rowL_len (step every n : Nat) : (rowL step every n).length = n := by simp [rowL]
theorem rowL_snoc (step every n : Nat) : rowL step every (n + 1) = rowL step every n ++ [⟨((10 * n : Nat) : Int), ((1000000 + step * (n / every) : Nat) : Int)⟩] := by simp [rowL, List.range_succ]
def pickL (k : Nat) : List Smp := if k = 0 then [] else if k = 1 then rowL 0 1 20 else if k = 2 then rowL 1 20 40 else if k = 3 then rowL 1099511627776 30 60 else rowL 1 1 60
def pickT (k : Nat) : Int := if k = 0 then 1 else if k = 1 then 6 else if k = 2 then 4 else if k = 3 then 3 else 2
theorem pick_ok0 : (suitBest (pickL 0)).1 = pickT 0 := by decide +kernel
theorem pick_ok1 : (suitBest (pickL 1)).1 = pickT 1 := by decide +kernel
theorem rowL_wf {step every n : Nat} (hn : n ≤ 60) (hs : step ≤ 1099511627776) : ∀ s ∈ rowL step every n, s.Wf := by
 intro s h
 simp only [rowL, List.mem_map, List.mem_range] at h
 obtain ⟨i, hi, rfl⟩ := h
 have h1 : i / every ≤ 60 := Nat.le_trans (Nat.div_le_self _ _) (by omega)
 have h2 : step * (i / every) ≤ 1099511627776 * 60 := Nat.mul_le_mul hs h1
 exact ⟨⟨by dsimp only; omega, by dsimp only; omega⟩, by dsimp only; omega, by dsimp only; omega⟩
theorem pickL_wf (k : Nat) : ∀ s ∈ pickL k, s.Wf := by
 unfold pickL
 split
 ·intro s h; cases h
 ·repeat' split
  all_goals exact rowL_wf (by decide) (by decide)
theorem pickL_len (k : Nat) : (pickL k).length ≤ 60 := by
 unfold pickL
 repeat' split
 all_goals simp [rowL_len]
end Go.Hw
namespace Go.Proofs.YtjjacchnalemaaaDoor
open Go.Hw
set_option maxHeartbeats 4000000
set_option maxRecDepth 100000
section
variable {w0 w : World} {l : List HProp}
theorem picks_row {n step every : Nat} (hn : n ≤ 60) (hs : step ≤ 1099511627776) (he : 1 ≤ every) (he2 : every ≤ 60) (h : St w0 l w) :
  Ret Tryd.prog 11 [.int .i64 n, .int .u64 step, .int .i64 every] w fun v w' => ∃ a c, v = .slice a n c ∧ St w0 (Own 25 2 a n c (smpsV (rowL step every n)) :: l) w' := by
 refine enter Tryd.func11 rfl Tryd.results11 Tryd.ntmps11 rfl ?_
 refine c_seq (c_region ?_)
 refine r_v (q_assignS rfl) rfl ?_
 refine r_nil ?_
 refine c_seq (c_region ?_)
 refine r_v (q_assignS rfl) rfl ?_
 refine r_nil ?_
 refine c_seq (c_seq (c_region ?_))
 refine r_v (q_assignI rfl) rfl ?_
 refine r_nil ?_
 refine c_block ?_
 refine c_loop (Γ := Nat × Option Addr × Nat) (fun k => [(0, .int .i64 n), (1, .int .u64 step), (2, .int .i64 every), (7, .slice k.2.1 k.1 k.2.2), (8, .int .i64 k.1)])
  (fun k w => k.1 ≤ n ∧ St w0 (Own 25 2 k.2.1 k.1 k.2.2 (smpsV (rowL step every k.1)) :: l) w) (fun k => n - k.1) (0, none, 0) ⟨rfl, rfl, rfl, rfl, rfl, trivial⟩ ⟨Nat.zero_le _, St.ownNil _ _ h⟩ ?_
 clear h
 rintro ⟨i, a, c⟩ w e ⟨hi, h⟩
 dsimp only at hi h ⊢
 refine c_seq (c_seq (c_region ?_))
 refine r_v (q_moveI rfl) rfl ?_; refine r_v (q_moveI rfl) rfl ?_; refine r_v (q_lss rfl rfl) rfl ?_
 refine r_nil ?_
 refine c_cond (decide ((i : Int) < (n : Int))) rfl (fun hc => ?_) (fun hc => ?_)
 ·have hlt : i < n := by simp at hc; omega
  have h1 : i / every ≤ 60 := Nat.le_trans (Nat.div_le_self _ _) (by omega)
  have h2 : step * (i / every) ≤ 1099511627776 * 60 := Nat.mul_le_mul hs h1
  refine c_skip ?_
  refine c_seq (c_block ?_)
  refine c_region ?_
  refine r_v (q_moveS rfl) rfl ?_; refine r_v (q_moveI rfl) rfl ?_; refine r_v (q_mul rfl rfl) rfl ?_
  refine r_is (.int .i64 ((10 * i : Nat) : Int)) (by rw [wrap64 (by omega) (by omega)]; rfl) ?_
  refine r_v (q_moveI rfl) rfl ?_; refine r_v (q_moveI rfl) rfl ?_; refine r_v (q_moveI rfl) rfl ?_
  refine r_v (q_is (v' := .int .i64 ((i / every : Nat) : Int)) (q_quo rfl rfl (by omega)) (by rw [tdiv_nat]; generalize i / every = q at h1 ⊢; rw [wrap64 (by omega) (by omega)])) rfl ?_
  refine r_v (q_conv rfl) rfl ?_
  refine r_is (.int .u64 ((i / every : Nat) : Int)) (by rw [wrap_u64, Nat.mod_eq_of_lt (by omega)]) ?_
  refine r_v (q_mul rfl rfl) rfl ?_
  refine r_is (.int .u64 ((step * (i / every) : Nat) : Int)) (by rw [← Int.natCast_mul, wrap_u64, Nat.mod_eq_of_lt (by omega)]) ?_
  refine r_v (q_add rfl rfl) rfl ?_
  refine r_is (.int .u64 ((1000000 + step * (i / every) : Nat) : Int)) (by rw [show (1000000 : Int) + ((step * (i / every) : Nat) : Int) = ((1000000 + step * (i / every) : Nat) : Int) from rfl, wrap_u64, Nat.mod_eq_of_lt (by omega)]) ?_
  refine r_v (q_build (r := (Smp.mk ((10 * i : Nat) : Int) ((1000000 + step * (i / every) : Nat) : Int)).cells) rfl) rfl ?_
  refine r_app1 (v := .agg (Smp.mk ((10 * i : Nat) : Int) ((1000000 + step * (i / every) : Nat) : Int)).cells.toArray) (m3 := i + 1) (zs := smpsV (rowL step every (i + 1))) h rfl rfl rfl rfl rfl rfl (by rw [rowL_snoc]; simp [vcells]) (by omega) (by omega) rfl rfl rfl rfl rfl fun b a' c' w _ h => ?_
  refine r_v (q_assignS rfl) rfl ?_
  refine r_nil ?_
  refine c_region ?_
  refine r_v (q_moveI rfl) rfl ?_; refine r_v (q_add rfl rfl) rfl ?_
  refine r_is (.int .i64 ((i + 1 : Nat) : Int)) (by rw [wrap64 (by omega) (by omega)]; rfl) ?_
  refine r_v (q_assignI rfl) rfl ?_
  exact r_nil ⟨(i + 1, a', c'), ⟨rfl, rfl, rfl, rfl, rfl, trivial⟩, ⟨hlt, h⟩, by dsimp only; omega⟩
 ·obtain rfl : i = n := by simp at hc; omega
  refine c_exit ?_
  refine c_seq (c_region ?_)
  refine r_v (q_moveS rfl) rfl ?_; refine r_v (q_assignS rfl) rfl ?_
  exact r_nil (c_ret (bq1 ⟨a, c, rfl, h⟩))
theorem law10_SuitPicks (hT : Tz w0) (which : Int) (h : St w0 l w) :
  Ret Tryd.prog 3 [.int .i64 which] w fun v w' => v = .bool true ∧ St w0 l w' := by
 obtain ⟨k0, hk0⟩ := Int.eq_ofNat_of_zero_le (show 0 ≤ which % 2 ^ 8 by omega)
 have q1 : bitOp .and .i64 which 255 = (k0 : Int) := (and_mask 8 (by decide) (by decide)).trans hk0
 have q2 : (k0 : Int).tmod 5 = ((k0 % 5 : Nat) : Int) := tmod_nat k0 5
 refine enter Tryd.func3 rfl Tryd.results3 Tryd.ntmps3 rfl ?_
 refine c_seq (c_region ?_)
 refine r_v (q_assignB rfl) rfl ?_
 refine r_nil ?_
 refine c_seq (c_region ?_)
 refine r_v (q_assignF rfl) rfl ?_
 refine r_nil ?_
 refine c_seq (c_region ?_)
 refine r_v (q_build (r := [.slice none 0 0, .int .i64 1]) rfl) rfl ?_
 refine r_v (q_moveF rfl) rfl ?_
 refine r_c rfl (x_callv rfl rfl (picks_row (n := 20) (step := 0) (every := 1) (by decide) (by decide) (by decide) (by decide) h) ?_)
 rintro _ w ⟨a1, c1, rfl, h⟩
 refine r_v (q_build (r := [.slice a1 20 c1, .int .i64 6]) rfl) rfl ?_
 refine r_v (q_moveF rfl) rfl ?_
 refine r_c rfl (x_callv rfl rfl (picks_row (n := 40) (step := 1) (every := 20) (by decide) (by decide) (by decide) (by decide) h) ?_)
 rintro _ w ⟨a2, c2, rfl, h⟩
 refine r_v (q_build (r := [.slice a2 40 c2, .int .i64 4]) rfl) rfl ?_
 refine r_v (q_moveF rfl) rfl ?_
 refine r_c rfl (x_callv rfl rfl (picks_row (n := 60) (step := 1099511627776) (every := 30) (by decide) (by decide) (by decide) (by decide) h) ?_)
 rintro _ w ⟨a3, c3, rfl, h⟩
 refine r_v (q_build (r := [.slice a3 60 c3, .int .i64 3]) rfl) rfl ?_
 refine r_v (q_moveF rfl) rfl ?_
 refine r_c rfl (x_callv rfl rfl (picks_row (n := 60) (step := 1) (every := 1) (by decide) (by decide) (by decide) (by decide) h) ?_)
 rintro _ w ⟨a4, c4, rfl, h⟩
 refine r_v (q_build (r := [.slice a4 60 c4, .int .i64 2]) rfl) rfl ?_
 refine r_c rfl (x_bslice (r := [.slice none 0 0, .int .i64 1, .slice a1 20 c1, .int .i64 6, .slice a2 40 c2, .int .i64 4, .slice a3 60 c3, .int .i64 3, .slice a4 60 c4, .int .i64 2]) h rfl rfl rfl fun b w h => ?_)
 refine r_v (q_assignS rfl) rfl ?_
 refine r_nil ?_
 generalize hM : [pt b (.cells [.slice none 0 0, .int .i64 1, .slice a1 20 c1, .int .i64 6, .slice a2 40 c2, .int .i64 4, .slice a3 60 c3, .int .i64 3, .slice a4 60 c4, .int .i64 2].toArray 27 (0, 0)), Own 25 2 a4 60 c4 (smpsV (rowL 1 1 60)), Own 25 2 a3 60 c3 (smpsV (rowL 1099511627776 30 60)), Own 25 2 a2 40 c2 (smpsV (rowL 1 20 40)), Own 25 2 a1 20 c1 (smpsV (rowL 0 1 20))] = M
 have hr : ∀ k, k < 5 → ∃ a c, (∀ w, St w0 (M ++ l) w → At w b (0 + k * 2) [.slice a (pickL k).length c, .int .i64 (pickT k)]) ∧ Reads w0 (M ++ l) 2 a (pickL k).length (smpsV (pickL k)) := by
  subst hM
  intro k hk
  rcases (by omega : k = 0 ∨ k = 1 ∨ k = 2 ∨ k = 3 ∨ k = 4) with rfl | rfl | rfl | rfl | rfl
  ·exact ⟨none, 0, fun w h => at_of (h.b 0 rfl) rfl, Reads.nil⟩
  ·exact ⟨a1, c1, fun w h => at_of (h.b 0 rfl) rfl, (Reads.own (l := l)).more [_, _, _, _]⟩
  ·exact ⟨a2, c2, fun w h => at_of (h.b 0 rfl) rfl, (Reads.own (l := _ :: l)).more [_, _, _]⟩
  ·exact ⟨a3, c3, fun w h => at_of (h.b 0 rfl) rfl, (Reads.own (l := _ :: _ :: l)).more [_, _]⟩
  ·exact ⟨a4, c4, fun w h => at_of (h.b 0 rfl) rfl, (Reads.own (l := _ :: _ :: _ :: l)).more [_]⟩
 replace h : St w0 (M ++ l) w := by rw [← hM]; exact h
 obtain ⟨a, c, hat, hrd⟩ := hr (k0 % 5) (Nat.mod_lt _ (by decide))
 have hwf := pickL_wf (k0 % 5)
 have hl60 := pickL_len (k0 % 5)
 have hk5 : k0 % 5 < 5 := Nat.mod_lt _ (by decide)
 have hpk : k0 % 5 ≤ 1 → (suitBest (pickL (k0 % 5))).1 = pickT (k0 % 5) := by
  intro hh
  rcases (by omega : k0 % 5 = 0 ∨ k0 % 5 = 1) with h | h <;> rw [h]
  ·exact pick_ok0
  ·exact pick_ok1
 have hMl : ∀ w, St w0 (M ++ l) w → St w0 l w := fun w h => St.drops (L := M) h
 clear hr
 generalize pickL (k0 % 5) = L at hat hrd hwf hl60 hpk
 generalize hgt : pickT (k0 % 5) = T at hat hpk
 refine c_seq (c_region ?_)
 refine r_v (q_moveS rfl) rfl ?_; refine r_v (q_moveI rfl) rfl ?_
 refine r_v (q_is (v' := .int .i64 (k0 : Int)) (q_and rfl rfl) (congrArg (Value.int .i64) q1)) rfl ?_
 refine r_v (q_moveS rfl) rfl ?_; refine r_v (q_len rfl) rfl ?_
 refine r_v (q_is (v' := .int .i64 ((k0 % 5 : Nat) : Int)) (q_rem rfl rfl (by decide)) (congrArg (Value.int .i64) q2)) rfl ?_
 refine r_v (q_idx (o' := 0 + k0 % 5 * 2) rfl rfl rfl hk5 rfl) rfl ?_
 refine r_v (q_loadS (l := [.slice a L.length c, .int .i64 T]) rfl rfl (hat _ h)) rfl ?_
 refine r_c rfl (x_alloc h fun b5 w h => ?_)
 refine r_c rfl (x_storeA (vs := [.slice a L.length c, .int .i64 T]) 0 h rfl rfl rfl rfl rfl rfl rfl fun w h => ?_)
 replace h : St w0 (pt b5 (.cells [.slice a L.length c, .int .i64 T].toArray 27 (0, 0)) :: (M ++ l)) w := h
 refine r_nil ?_
 refine c_seq (c_region ?_)
 refine r_v (q_fa rfl) rfl ?_; refine r_v (q_load rfl (h.b 0) rfl) rfl ?_
 refine r_c rfl (x_call rfl (suit_Best hT hwf (by omega) hrd.cons h) ?_)
 rintro _ w ⟨ba, bc, rfl, h⟩
 replace h := h.drop
 refine r_v (q_moveT rfl) rfl ?_; refine r_v (q_ext rfl rfl) rfl ?_; refine r_v (q_ext rfl rfl) rfl ?_; refine r_v (q_assignI rfl) rfl ?_; refine r_v (q_assignS rfl) rfl ?_
 refine r_nil ?_
 generalize hB : suitBest L = B at hpk
 obtain ⟨bt, bb⟩ := B
 dsimp only at hpk ⊢
 refine c_seq (c_region ?_)
 refine r_v (q_assignI rfl) rfl ?_; refine r_v (q_assignI rfl) rfl ?_
 refine r_nil ?_
 refine c_cut (Γ := Unit) (fun _ => [(0, .int .i64 which), (4, .slice (some ⟨b, 0, none⟩) 5 5), (5, .pointer (some ⟨b5, 0, none⟩)), (6, .int .i64 bt), (7, .slice ba bb.length bc), (8, .int .i64 bb.length), (9, .int .i64 bt)])
  (fun _ w => St w0 (pt b5 (.cells [.slice a L.length c, .int .i64 T].toArray 27 (0, 0)) :: (M ++ l)) w) ?_ ?_
 ·refine c_seq (c_region ?_)
  refine r_v (q_assignI rfl) rfl ?_
  refine r_nil ?_
  refine c_block ?_
  refine c_loop (Γ := Nat × Int × List UInt8) (fun k => [(0, .int .i64 which), (4, .slice (some ⟨b, 0, none⟩) 5 5), (5, .pointer (some ⟨b5, 0, none⟩)), (6, .int .i64 bt), (7, .slice ba bb.length bc), (8, .int .i64 k.2.2.length), (9, .int .i64 k.2.1), (10, .int .i64 ((k.1 + 1 : Nat) : Int))])
   (fun k w => k.1 ≤ 6 ∧ bestA L (([1, 2, 3, 4, 5, 6] : List Int).drop k.1) k.2.1 k.2.2 = (bt, bb) ∧ St w0 (pt b5 (.cells [.slice a L.length c, .int .i64 T].toArray 27 (0, 0)) :: (M ++ l)) w) (fun k => 6 - k.1) (0, 0, []) ⟨rfl, rfl, rfl, rfl, rfl, rfl, rfl, rfl, trivial⟩ ⟨Nat.zero_le _, hB, h⟩ ?_
  clear h
  rintro ⟨k, best, out⟩ w e ⟨hk, he, h⟩
  dsimp only at hk he h ⊢
  refine c_seq (c_seq (c_region ?_))
  refine r_v (q_moveI rfl) rfl ?_; refine r_v (q_leq rfl rfl) rfl ?_
  by_cases hlt : k < 6
  ·refine r_is (.bool true) (by simp; omega) ?_
   refine r_nil (c_true rfl (c_skip ?_))
   rw [tags_drop hlt, bestA] at he
   refine c_cut (Γ := Int × List UInt8) (fun q => [(0, .int .i64 which), (4, .slice (some ⟨b, 0, none⟩) 5 5), (5, .pointer (some ⟨b5, 0, none⟩)), (6, .int .i64 bt), (7, .slice ba bb.length bc), (8, .int .i64 q.2.length), (9, .int .i64 q.1), (10, .int .i64 ((k + 1 : Nat) : Int))])
    (fun q w => bestA L (([1, 2, 3, 4, 5, 6] : List Int).drop (k + 1)) q.1 q.2 = (bt, bb) ∧ St w0 (pt b5 (.cells [.slice a L.length c, .int .i64 T].toArray 27 (0, 0)) :: (M ++ l)) w) ?_ ?_
   ·refine c_block ?_
    refine c_seq (c_region ?_)
    refine r_v (q_moveI rfl) rfl ?_; refine r_v (q_fa rfl) rfl ?_; refine r_v (q_load rfl (h.b 0) rfl) rfl ?_
    refine r_c rfl (x_call rfl (ref10_Encode ((k + 1 : Nat) : Int) hwf (by omega) hrd.cons h) ?_)
    rintro _ w ⟨a2, c2, rfl, h⟩
    replace h := h.drop
    refine r_v (q_moveT rfl) rfl ?_; refine r_v (q_ext rfl rfl) rfl ?_; refine r_v (q_ext rfl rfl) rfl ?_; refine r_v (q_assignS rfl) rfl ?_; refine r_v (q_assignB rfl) rfl ?_
    refine r_nil ?_
    refine c_seq (c_region ?_)
    cases hE : suitEnc ((k + 1 : Nat) : Int) L with
    | none =>
     rw [hE] at he
     refine r_v (q_moveB rfl) rfl ?_; refine r_v (q_moveB rfl) rfl ?_; (first | refine r_gd rfl rfl ?_ | refine r_gn rfl rfl rfl ?_ | refine r_gu rfl rfl ?_ | refine r_gd rfl (by assumption) ?_ | refine r_gn rfl (by assumption) rfl ?_); (first | refine r_gd rfl rfl ?_ | refine r_gn rfl rfl rfl ?_ | refine r_gu rfl rfl ?_ | refine r_gd rfl (by assumption) ?_ | refine r_gn rfl (by assumption) rfl ?_); (first | refine r_gd rfl rfl ?_ | refine r_gn rfl rfl rfl ?_ | refine r_gu rfl rfl ?_ | refine r_gd rfl (by assumption) ?_ | refine r_gn rfl (by assumption) rfl ?_); (first | refine r_gd rfl rfl ?_ | refine r_gn rfl rfl rfl ?_ | refine r_gu rfl rfl ?_ | refine r_gd rfl (by assumption) ?_ | refine r_gn rfl (by assumption) rfl ?_); (first | refine r_gd rfl rfl ?_ | refine r_gn rfl rfl rfl ?_ | refine r_gu rfl rfl ?_ | refine r_gd rfl (by assumption) ?_ | refine r_gn rfl (by assumption) rfl ?_); (first | refine r_gd rfl rfl ?_ | refine r_gn rfl rfl rfl ?_ | refine r_gu rfl rfl ?_ | refine r_gd rfl (by assumption) ?_ | refine r_gn rfl (by assumption) rfl ?_); (first | refine r_gd rfl rfl ?_ | refine r_gn rfl rfl rfl ?_ | refine r_gu rfl rfl ?_ | refine r_gd rfl (by assumption) ?_ | refine r_gn rfl (by assumption) rfl ?_); (first | refine r_gd rfl rfl ?_ | refine r_gn rfl rfl rfl ?_ | refine r_gu rfl rfl ?_ | refine r_gd rfl (by assumption) ?_ | refine r_gn rfl (by assumption) rfl ?_); (first | refine r_v (q_pick1 rfl rfl rfl) rfl ?_ | refine r_v (q_pick0 rfl rfl rfl) rfl ?_ | refine r_v (q_pick1 rfl (by assumption) rfl) rfl ?_ | refine r_v (q_pick0 rfl (by assumption) rfl) rfl ?_ | refine r_v (q_pickB rfl rfl rfl) rfl ?_)
     refine r_nil (c_false rfl (c_skip ?_))
     exact ⟨(best, out), ⟨rfl, rfl, rfl, rfl, rfl, rfl, rfl, rfl, trivial⟩, he, h⟩
    | some bs =>
     rw [hE] at he
     dsimp only at he
     have take : (best = 0 ∨ bs.length < out.length) → bestA L (([1, 2, 3, 4, 5, 6] : List Int).drop (k + 1)) ((k + 1 : Nat) : Int) bs = (bt, bb) := fun hh => by rw [if_pos hh] at he; exact he
     by_cases hb : best = 0
     ·refine r_v (q_moveB rfl) rfl ?_; refine r_v (q_moveB rfl) rfl ?_; (first | refine r_gd rfl rfl ?_ | refine r_gn rfl rfl rfl ?_ | refine r_gu rfl rfl ?_ | refine r_gd rfl (by assumption) ?_ | refine r_gn rfl (by assumption) rfl ?_); refine r_v (q_moveI rfl) rfl ?_; (first | refine r_gd rfl rfl ?_ | refine r_gn rfl rfl rfl ?_ | refine r_gu rfl rfl ?_ | refine r_gd rfl (by assumption) ?_ | refine r_gn rfl (by assumption) rfl ?_)
      refine r_v (q_is (v' := .bool true) (q_eql rfl rfl) (by rw [hb]; rfl)) rfl ?_
      (first | refine r_gd rfl rfl ?_ | refine r_gn rfl rfl rfl ?_ | refine r_gu rfl rfl ?_ | refine r_gd rfl (by assumption) ?_ | refine r_gn rfl (by assumption) rfl ?_); refine r_v (q_moveB rfl) rfl ?_; (first | refine r_gd rfl rfl ?_ | refine r_gn rfl rfl rfl ?_ | refine r_gu rfl rfl ?_ | refine r_gd rfl (by assumption) ?_ | refine r_gn rfl (by assumption) rfl ?_); (first | refine r_gd rfl rfl ?_ | refine r_gn rfl rfl rfl ?_ | refine r_gu rfl rfl ?_ | refine r_gd rfl (by assumption) ?_ | refine r_gn rfl (by assumption) rfl ?_); (first | refine r_gd rfl rfl ?_ | refine r_gn rfl rfl rfl ?_ | refine r_gu rfl rfl ?_ | refine r_gd rfl (by assumption) ?_ | refine r_gn rfl (by assumption) rfl ?_); (first | refine r_gd rfl rfl ?_ | refine r_gn rfl rfl rfl ?_ | refine r_gu rfl rfl ?_ | refine r_gd rfl (by assumption) ?_ | refine r_gn rfl (by assumption) rfl ?_); (first | refine r_gd rfl rfl ?_ | refine r_gn rfl rfl rfl ?_ | refine r_gu rfl rfl ?_ | refine r_gd rfl (by assumption) ?_ | refine r_gn rfl (by assumption) rfl ?_); (first | refine r_v (q_pick1 rfl rfl rfl) rfl ?_ | refine r_v (q_pick0 rfl rfl rfl) rfl ?_ | refine r_v (q_pick1 rfl (by assumption) rfl) rfl ?_ | refine r_v (q_pick0 rfl (by assumption) rfl) rfl ?_ | refine r_v (q_pickB rfl rfl rfl) rfl ?_); (first | refine r_v (q_pick1 rfl rfl rfl) rfl ?_ | refine r_v (q_pick0 rfl rfl rfl) rfl ?_ | refine r_v (q_pick1 rfl (by assumption) rfl) rfl ?_ | refine r_v (q_pick0 rfl (by assumption) rfl) rfl ?_ | refine r_v (q_pickB rfl rfl rfl) rfl ?_)
      refine r_nil (c_true rfl ?_)
      refine c_region ?_
      refine r_v (q_moveI rfl) rfl ?_; refine r_v (q_moveS rfl) rfl ?_; refine r_v (q_len rfl) rfl ?_; refine r_v (q_assignI rfl) rfl ?_; refine r_v (q_assignI rfl) rfl ?_
      exact r_nil ⟨(((k + 1 : Nat) : Int), bs), ⟨rfl, rfl, rfl, rfl, rfl, rfl, rfl, rfl, trivial⟩, take (.inl hb), h⟩
     ·refine r_v (q_moveB rfl) rfl ?_; refine r_v (q_moveB rfl) rfl ?_; (first | refine r_gd rfl rfl ?_ | refine r_gn rfl rfl rfl ?_ | refine r_gu rfl rfl ?_ | refine r_gd rfl (by assumption) ?_ | refine r_gn rfl (by assumption) rfl ?_); refine r_v (q_moveI rfl) rfl ?_; (first | refine r_gd rfl rfl ?_ | refine r_gn rfl rfl rfl ?_ | refine r_gu rfl rfl ?_ | refine r_gd rfl (by assumption) ?_ | refine r_gn rfl (by assumption) rfl ?_)
      refine r_v (q_is (v' := .bool false) (q_eql rfl rfl) (by congr 1; rw [beq_eq_false_iff_ne]; exact hb)) rfl ?_
      (first | refine r_gd rfl rfl ?_ | refine r_gn rfl rfl rfl ?_ | refine r_gu rfl rfl ?_ | refine r_gd rfl (by assumption) ?_ | refine r_gn rfl (by assumption) rfl ?_); refine r_v (q_moveB rfl) rfl ?_; (first | refine r_gd rfl rfl ?_ | refine r_gn rfl rfl rfl ?_ | refine r_gu rfl rfl ?_ | refine r_gd rfl (by assumption) ?_ | refine r_gn rfl (by assumption) rfl ?_); refine r_v (q_moveS rfl) rfl ?_; (first | refine r_gd rfl rfl ?_ | refine r_gn rfl rfl rfl ?_ | refine r_gu rfl rfl ?_ | refine r_gd rfl (by assumption) ?_ | refine r_gn rfl (by assumption) rfl ?_); refine r_v (q_len rfl) rfl ?_; (first | refine r_gd rfl rfl ?_ | refine r_gn rfl rfl rfl ?_ | refine r_gu rfl rfl ?_ | refine r_gd rfl (by assumption) ?_ | refine r_gn rfl (by assumption) rfl ?_); refine r_v (q_moveI rfl) rfl ?_; (first | refine r_gd rfl rfl ?_ | refine r_gn rfl rfl rfl ?_ | refine r_gu rfl rfl ?_ | refine r_gd rfl (by assumption) ?_ | refine r_gn rfl (by assumption) rfl ?_); refine r_v (q_lss rfl rfl) rfl ?_; (first | refine r_gd rfl rfl ?_ | refine r_gn rfl rfl rfl ?_ | refine r_gu rfl rfl ?_ | refine r_gd rfl (by assumption) ?_ | refine r_gn rfl (by assumption) rfl ?_); (first | refine r_v (q_pick1 rfl rfl rfl) rfl ?_ | refine r_v (q_pick0 rfl rfl rfl) rfl ?_ | refine r_v (q_pick1 rfl (by assumption) rfl) rfl ?_ | refine r_v (q_pick0 rfl (by assumption) rfl) rfl ?_ | refine r_v (q_pickB rfl rfl rfl) rfl ?_); (first | refine r_v (q_pick1 rfl rfl rfl) rfl ?_ | refine r_v (q_pick0 rfl rfl rfl) rfl ?_ | refine r_v (q_pick1 rfl (by assumption) rfl) rfl ?_ | refine r_v (q_pick0 rfl (by assumption) rfl) rfl ?_ | refine r_v (q_pickB rfl rfl rfl) rfl ?_)
      refine r_nil (c_cond (decide ((bs.length : Int) < (out.length : Int))) rfl (fun hc => ?_) (fun hc => ?_))
      ·refine c_region ?_
       refine r_v (q_moveI rfl) rfl ?_; refine r_v (q_moveS rfl) rfl ?_; refine r_v (q_len rfl) rfl ?_; refine r_v (q_assignI rfl) rfl ?_; refine r_v (q_assignI rfl) rfl ?_
       exact r_nil ⟨(((k + 1 : Nat) : Int), bs), ⟨rfl, rfl, rfl, rfl, rfl, rfl, rfl, rfl, trivial⟩, take (.inr (by simpa using hc)), h⟩
      ·refine c_skip ⟨(best, out), ⟨rfl, rfl, rfl, rfl, rfl, rfl, rfl, rfl, trivial⟩, ?_, h⟩
       rw [if_neg] at he
       ·exact he
       ·rintro (h | h)
        ·exact hb h
        ·simp at hc; omega
   clear h he
   rintro ⟨best, out⟩ w e ⟨he, h⟩
   dsimp only at he h ⊢
   refine c_region ?_
   refine r_v (q_moveI rfl) rfl ?_; refine r_v (q_add rfl rfl) rfl ?_
   refine r_is (.int .i64 ((k + 1 + 1 : Nat) : Int)) (by rw [wrap64 (by omega) (by omega)]; rfl) ?_
   refine r_v (q_assignI rfl) rfl ?_
   exact r_nil ⟨(k + 1, best, out), ⟨rfl, rfl, rfl, rfl, rfl, rfl, rfl, rfl, trivial⟩, ⟨hlt, he, h⟩, by dsimp only; omega⟩
  ·refine r_is (.bool false) (by simp; omega) ?_
   have hk6 : k = 6 := by omega
   subst hk6
   have he : (best, out) = (bt, bb) := he
   cases he
   exact r_nil (c_false rfl (c_exit ⟨(), ⟨rfl, rfl, rfl, rfl, rfl, rfl, rfl, trivial⟩, h⟩))
 clear h
 rintro ⟨⟩ w e h
 refine c_seq (c_region ?_)
 refine r_v (q_moveI rfl) rfl ?_; refine r_v (q_moveI rfl) rfl ?_
 refine r_v (q_is (v' := .bool true) (q_eql rfl rfl) (by simp)) rfl ?_
 refine r_v (q_moveB rfl) rfl ?_; (first | refine r_gd rfl rfl ?_ | refine r_gn rfl rfl rfl ?_ | refine r_gu rfl rfl ?_ | refine r_gd rfl (by assumption) ?_ | refine r_gn rfl (by assumption) rfl ?_); refine r_v (q_moveS rfl) rfl ?_; (first | refine r_gd rfl rfl ?_ | refine r_gn rfl rfl rfl ?_ | refine r_gu rfl rfl ?_ | refine r_gd rfl (by assumption) ?_ | refine r_gn rfl (by assumption) rfl ?_); refine r_v (q_len rfl) rfl ?_; (first | refine r_gd rfl rfl ?_ | refine r_gn rfl rfl rfl ?_ | refine r_gu rfl rfl ?_ | refine r_gd rfl (by assumption) ?_ | refine r_gn rfl (by assumption) rfl ?_); refine r_v (q_moveI rfl) rfl ?_; (first | refine r_gd rfl rfl ?_ | refine r_gn rfl rfl rfl ?_ | refine r_gu rfl rfl ?_ | refine r_gd rfl (by assumption) ?_ | refine r_gn rfl (by assumption) rfl ?_)
 refine r_v (q_is (v' := .bool true) (q_eql rfl rfl) (by simp)) rfl ?_
 (first | refine r_v (q_pick1 rfl rfl rfl) rfl ?_ | refine r_v (q_pick0 rfl rfl rfl) rfl ?_ | refine r_v (q_pick1 rfl (by assumption) rfl) rfl ?_ | refine r_v (q_pick0 rfl (by assumption) rfl) rfl ?_ | refine r_v (q_pickB rfl rfl rfl) rfl ?_); refine r_v (q_moveB rfl) rfl ?_; (first | refine r_gd rfl rfl ?_ | refine r_gn rfl rfl rfl ?_ | refine r_gu rfl rfl ?_ | refine r_gd rfl (by assumption) ?_ | refine r_gn rfl (by assumption) rfl ?_); refine r_v (q_moveI rfl) rfl ?_; (first | refine r_gd rfl rfl ?_ | refine r_gn rfl rfl rfl ?_ | refine r_gu rfl rfl ?_ | refine r_gd rfl (by assumption) ?_ | refine r_gn rfl (by assumption) rfl ?_)
 refine r_v (q_is (v' := .int .i64 (k0 : Int)) (q_and rfl rfl) (congrArg (Value.int .i64) q1)) rfl ?_
 (first | refine r_gd rfl rfl ?_ | refine r_gn rfl rfl rfl ?_ | refine r_gu rfl rfl ?_ | refine r_gd rfl (by assumption) ?_ | refine r_gn rfl (by assumption) rfl ?_); refine r_v (q_moveS rfl) rfl ?_; (first | refine r_gd rfl rfl ?_ | refine r_gn rfl rfl rfl ?_ | refine r_gu rfl rfl ?_ | refine r_gd rfl (by assumption) ?_ | refine r_gn rfl (by assumption) rfl ?_); refine r_v (q_len rfl) rfl ?_; (first | refine r_gd rfl rfl ?_ | refine r_gn rfl rfl rfl ?_ | refine r_gu rfl rfl ?_ | refine r_gd rfl (by assumption) ?_ | refine r_gn rfl (by assumption) rfl ?_)
 refine r_v (q_is (v' := .int .i64 ((k0 % 5 : Nat) : Int)) (q_rem rfl rfl (by decide)) (congrArg (Value.int .i64) q2)) rfl ?_
 (first | refine r_gd rfl rfl ?_ | refine r_gn rfl rfl rfl ?_ | refine r_gu rfl rfl ?_ | refine r_gd rfl (by assumption) ?_ | refine r_gn rfl (by assumption) rfl ?_); refine r_v (q_gtr rfl rfl) rfl ?_
 by_cases hk1 : k0 % 5 ≤ 1
 ·refine r_is (.bool false) (by congr 1; rw [decide_eq_false_iff_not]; omega) ?_
  (first | refine r_gd rfl rfl ?_ | refine r_gn rfl rfl rfl ?_ | refine r_gu rfl rfl ?_ | refine r_gd rfl (by assumption) ?_ | refine r_gn rfl (by assumption) rfl ?_); refine r_v (q_moveB rfl) rfl ?_; (first | refine r_gd rfl rfl ?_ | refine r_gn rfl rfl rfl ?_ | refine r_gu rfl rfl ?_ | refine r_gd rfl (by assumption) ?_ | refine r_gn rfl (by assumption) rfl ?_); refine r_v (q_moveI rfl) rfl ?_; (first | refine r_gd rfl rfl ?_ | refine r_gn rfl rfl rfl ?_ | refine r_gu rfl rfl ?_ | refine r_gd rfl (by assumption) ?_ | refine r_gn rfl (by assumption) rfl ?_); refine r_v (q_fa rfl) rfl ?_; (first | refine r_gd rfl rfl ?_ | refine r_gn rfl rfl rfl ?_ | refine r_gu rfl rfl ?_ | refine r_gd rfl (by assumption) ?_ | refine r_gn rfl (by assumption) rfl ?_); refine r_v (q_load rfl (h.b 0) rfl) rfl ?_; (first | refine r_gd rfl rfl ?_ | refine r_gn rfl rfl rfl ?_ | refine r_gu rfl rfl ?_ | refine r_gd rfl (by assumption) ?_ | refine r_gn rfl (by assumption) rfl ?_)
  refine r_v (q_is (v' := .bool true) (q_eql rfl rfl) (by rw [hpk hk1]; simp)) rfl ?_
  (first | refine r_gd rfl rfl ?_ | refine r_gn rfl rfl rfl ?_ | refine r_gu rfl rfl ?_ | refine r_gd rfl (by assumption) ?_ | refine r_gn rfl (by assumption) rfl ?_); (first | refine r_v (q_pick1 rfl rfl rfl) rfl ?_ | refine r_v (q_pick0 rfl rfl rfl) rfl ?_ | refine r_v (q_pick1 rfl (by assumption) rfl) rfl ?_ | refine r_v (q_pick0 rfl (by assumption) rfl) rfl ?_ | refine r_v (q_pickB rfl rfl rfl) rfl ?_); (first | refine r_v (q_pick1 rfl rfl rfl) rfl ?_ | refine r_v (q_pick0 rfl rfl rfl) rfl ?_ | refine r_v (q_pick1 rfl (by assumption) rfl) rfl ?_ | refine r_v (q_pick0 rfl (by assumption) rfl) rfl ?_ | refine r_v (q_pickB rfl rfl rfl) rfl ?_); refine r_v (q_moveB rfl) rfl ?_; (first | refine r_gd rfl rfl ?_ | refine r_gn rfl rfl rfl ?_ | refine r_gu rfl rfl ?_ | refine r_gd rfl (by assumption) ?_ | refine r_gn rfl (by assumption) rfl ?_)
  refine r_c rfl (x_call rfl (law10_awake hT (hMl _ h.drop)) ?_)
  rintro _ w ⟨rfl, h⟩
  (first | refine r_v (q_pick1 rfl rfl rfl) rfl ?_ | refine r_v (q_pick0 rfl rfl rfl) rfl ?_ | refine r_v (q_pick1 rfl (by assumption) rfl) rfl ?_ | refine r_v (q_pick0 rfl (by assumption) rfl) rfl ?_ | refine r_v (q_pickB rfl rfl rfl) rfl ?_); refine r_v (q_assignB rfl) rfl ?_
  exact r_nil (c_ret (bq1 ⟨rfl, h⟩))
 ·refine r_is (.bool true) (by congr 1; rw [decide_eq_true_eq]; omega) ?_
  (first | refine r_gd rfl rfl ?_ | refine r_gn rfl rfl rfl ?_ | refine r_gu rfl rfl ?_ | refine r_gd rfl (by assumption) ?_ | refine r_gn rfl (by assumption) rfl ?_); refine r_v (q_moveB rfl) rfl ?_; (first | refine r_gd rfl rfl ?_ | refine r_gn rfl rfl rfl ?_ | refine r_gu rfl rfl ?_ | refine r_gd rfl (by assumption) ?_ | refine r_gn rfl (by assumption) rfl ?_); (first | refine r_gd rfl rfl ?_ | refine r_gn rfl rfl rfl ?_ | refine r_gu rfl rfl ?_ | refine r_gd rfl (by assumption) ?_ | refine r_gn rfl (by assumption) rfl ?_); (first | refine r_gd rfl rfl ?_ | refine r_gn rfl rfl rfl ?_ | refine r_gu rfl rfl ?_ | refine r_gd rfl (by assumption) ?_ | refine r_gn rfl (by assumption) rfl ?_); (first | refine r_gd rfl rfl ?_ | refine r_gn rfl rfl rfl ?_ | refine r_gu rfl rfl ?_ | refine r_gd rfl (by assumption) ?_ | refine r_gn rfl (by assumption) rfl ?_); (first | refine r_gd rfl rfl ?_ | refine r_gn rfl rfl rfl ?_ | refine r_gu rfl rfl ?_ | refine r_gd rfl (by assumption) ?_ | refine r_gn rfl (by assumption) rfl ?_); (first | refine r_v (q_pick1 rfl rfl rfl) rfl ?_ | refine r_v (q_pick0 rfl rfl rfl) rfl ?_ | refine r_v (q_pick1 rfl (by assumption) rfl) rfl ?_ | refine r_v (q_pick0 rfl (by assumption) rfl) rfl ?_ | refine r_v (q_pickB rfl rfl rfl) rfl ?_); (first | refine r_v (q_pick1 rfl rfl rfl) rfl ?_ | refine r_v (q_pick0 rfl rfl rfl) rfl ?_ | refine r_v (q_pick1 rfl (by assumption) rfl) rfl ?_ | refine r_v (q_pick0 rfl (by assumption) rfl) rfl ?_ | refine r_v (q_pickB rfl rfl rfl) rfl ?_); refine r_v (q_moveB rfl) rfl ?_; (first | refine r_gd rfl rfl ?_ | refine r_gn rfl rfl rfl ?_ | refine r_gu rfl rfl ?_ | refine r_gd rfl (by assumption) ?_ | refine r_gn rfl (by assumption) rfl ?_)
  refine r_c rfl (x_call rfl (law10_awake hT (hMl _ h.drop)) ?_)
  rintro _ w ⟨rfl, h⟩
  (first | refine r_v (q_pick1 rfl rfl rfl) rfl ?_ | refine r_v (q_pick0 rfl rfl rfl) rfl ?_ | refine r_v (q_pick1 rfl (by assumption) rfl) rfl ?_ | refine r_v (q_pick0 rfl (by assumption) rfl) rfl ?_ | refine r_v (q_pickB rfl rfl rfl) rfl ?_); refine r_v (q_assignB rfl) rfl ?_
  exact r_nil (c_ret (bq1 ⟨rfl, h⟩))
end
end Go.Proofs.YtjjacchnalemaaaDoor
