/- What the proof of TakeLeaves needs, part 6: plain lemmas, and what each function does. -/
import Derived.Test.YtnnehiiblfmpnaaGreatDoorQTakeLeavese
set_option linter.unusedVariables false
set_option linter.unusedSimpArgs false
set_option linter.unnecessarySimpa false
namespace Go.Proofs.YtnnehiiblfmpnaaGreatDoor
open Go.Hw
set_option maxHeartbeats 4000000
set_option maxRecDepth 100000
section
variable {w0 w : World} {l : List HProp}
abbrev ToldE (w0 : World) (l : List HProp) (n : Nat) (D : Option (List Nat)) (v : Value) (w' : World) : Prop := ∃ a c xs b, v = .tuple [.slice a xs.length c, .bool b].toArray ∧ D = (if b = true then some xs else none) ∧ (b = true → xs.length = n) ∧ (∀ x ∈ xs, x < 18446744073709551616) ∧ xs.length ≤ n ∧ St w0 (OwnU a c xs :: l) w'
theorem ToldE.no {n : Nat} {D : Option (List Nat)} (hb : D = none) (h : St w0 l w) : ToldE w0 l n D (.tuple [.slice none 0 0, .bool false].toArray) w := ⟨none, 0, [], false, rfl, hb, (fun h => by cases h), (fun _ h => by cases h), Nat.zero_le _, St.ownNil _ _ h⟩
theorem ref4_GetSimple {sl : Option Addr} {c : Nat} {ws : List Nat} {n : Nat} (hws : ∀ x ∈ ws, x < 18446744073709551616) (hwn : ws.length ≤ 140737488355328) (hn : n ≤ 65535) (hr : Reads w0 l 1 sl ws.length (u64V ws)) (h : St w0 l w) :
  Ret Tryz.prog 163 [.slice sl ws.length c, .int .i64 (n : Int)] w fun v w' => ToldE w0 l n (simpDec ws n) v w' := by
 have hdef := simpDec_loose (ws := ws) (n := n)
 have hLn := looseA_le ws n
 refine enter Tryz.func163 rfl Tryz.results163 Tryz.ntmps163 rfl ?_
 refine Y39 ?_
 refine qw rfl (qj rfl (ref4_held n h) ?_)
 rw [askN_nat hn]
 rintro _ w ⟨rfl, h⟩
 refine Y6 ?_; refine Yn ?_
 generalize hL : looseA ws n = L at hdef hLn
 refine qo (Γ := Option Addr × Nat) (fun q => [(0, .slice sl ws.length c), (1, .int .i64 n), (6, .slice q.1 L.length q.2)]) (fun q w => (∀ x ∈ L, x < 18446744073709551616) ∧ St w0 (OwnU q.1 q.2 L :: l) w) ?_ ?_
 ·refine Y17 ?_
  refine qc (Γ := Nat × List Nat × Option Addr × Nat) (fun k => [(0, .slice sl ws.length c), (1, .int .i64 n), (6, .slice k.2.2.1 k.2.1.length k.2.2.2), (7, .int .i64 k.1)])
   (fun k w => k.1 ≤ ws.length ∧ k.2.1.length ≤ n ∧ (∀ x ∈ k.2.1, x < 18446744073709551616) ∧ L = k.2.1 ++ looseA (ws.drop k.1) (n - k.2.1.length) ∧ St w0 (OwnU k.2.2.1 k.2.2.2 k.2.1 :: l) w)
   (fun k => ws.length - k.1) (0, [], none, 0) ⟨rfl, rfl, rfl, rfl, trivial⟩ ⟨Nat.zero_le _, Nat.zero_le _, (fun _ h => by cases h), hL.symm, St.ownNil _ _ h⟩ ?_
  clear h
  rintro ⟨i, out, oa, oc⟩ w e ⟨hi, hol, hout, inv, h⟩
  dsimp only at hi hol hout inv h ⊢
  refine Y4z ?_; refine Ys ?_
  by_cases hlt : i < ws.length
  ·refine qg (.bool true) O1 ?_
   refine Y36 ?_; refine Y1k ?_; refine Ys ?_; refine Yi ?_
   by_cases hfull : out.length < n
   ·refine qg (.bool true) O1 ?_
    refine Y1z ?_
    have hg := List.getElem?_eq_getElem hlt
    have hdr := List.drop_eq_getElem_cons hlt
    generalize ws[i] = x at hg hdr
    have hx := hws x (List.mem_of_getElem? hg)
    rw [hdr, looseA, if_neg O0] at inv
    have hkx : x / 1152921504606846976 < 16 := by omega
    obtain ⟨k1, k2, k3, k4⟩ := kinds_le _ hkx
    rw [show (kindsL.getD (x / 1152921504606846976) (0, 0)).1 = kNum (x / 1152921504606846976) from rfl, show (kindsL.getD (x / 1152921504606846976) (0, 0)).2 = kBit (x / 1152921504606846976) from rfl] at inv
    obtain ⟨b, o, hsl⟩ := (hr.cons.at_ h).some O0
    refine Y1y ?_; refine Yo ?_
    refine qz (qn (b := b) (o := o) (m := ws.length) (c := c) (o' := o + i) O8 rfl rfl hlt O7) rfl ?_
    refine qz (qx (v := .int .u64 (x : Int)) rfl ((hsl ▸ hr.cons.at_ h).cell (u64V_get hg))) rfl ?_
    refine qz (qh (v' := .int .u64 ((x / 2 ^ 60 : Nat) : Int)) (ju rfl rfl O0) (congrArg (Value.int .u64) (q9 x 60 64 O4))) rfl ?_
    rw [show x / 2 ^ 60 = x / 1152921504606846976 from rfl]
    refine Yb ?_
    refine qg (.int .i64 ((x / 1152921504606846976 : Nat) : Int)) O13 ?_
    refine Y6 ?_
    generalize hK : x / 1152921504606846976 = K at inv hkx k1 k2 k3 k4 ⊢
    generalize hM : min (kNum K) (n - out.length) = m at inv
    have hm1 : m ≤ kNum K := by omega
    have hm2 : m ≤ n - out.length := by omega
    refine Y17 ?_
    refine qc (Γ := Nat × Option Addr × Nat) (fun k => [(0, .slice sl ws.length c), (1, .int .i64 n), (6, .slice k.2.1 (out ++ unpackW (x % 1152921504606846976) (kBit K) k.1).length k.2.2), (7, .int .i64 i), (8, .int .i64 K), (9, .int .i64 k.1)])
     (fun k w => k.1 ≤ m ∧ St w0 (OwnU k.2.1 k.2.2 (out ++ unpackW (x % 1152921504606846976) (kBit K) k.1) :: l) w)
     (fun k => m - k.1) (0, oa, oc) ⟨rfl, rfl, (by show Value.slice _ _ _ = Value.slice _ _ _; simp [unpackW]), rfl, rfl, rfl, trivial⟩ ⟨Nat.zero_le _, by simp only [unpackW, List.range_zero, List.map_nil, List.append_nil]; exact h⟩ ?_
    clear h
    rintro ⟨j, oa, oc⟩ w e ⟨hj, h⟩
    dsimp only at hj h ⊢
    have hul : (out ++ unpackW (x % 1152921504606846976) (kBit K) j).length = out.length + j := by rw [List.length_append, unpackW_len]
    have leave : ∀ {w : World}, j = m → St w0 (OwnU oa oc (out ++ unpackW (x % 1152921504606846976) (kBit K) j) :: l) w → (∀ z ∈ out ++ unpackW (x % 1152921504606846976) (kBit K) j, z < 18446744073709551616) ∧ L = (out ++ unpackW (x % 1152921504606846976) (kBit K) j) ++ looseA (ws.drop (i + 1)) (n - (out ++ unpackW (x % 1152921504606846976) (kBit K) j).length) := by
     intro w hjm _
     refine ⟨fun z hz => ?_, ?_⟩
     ·rcases List.mem_append.1 hz with hz | hz
      ·exact hout z hz
      ·exact unpackW_lt k2 z hz
     ·rw [inv, hul, hjm, List.append_assoc, Nat.sub_sub]
    refine Y31 ?_
    refine qw rfl (qj rfl (ref4_numbers hkx h) ?_)
    rintro _ w ⟨rfl, h⟩
    refine Ys ?_
    by_cases hjk : j < kNum K
    ·refine qg (.bool true) O1 ?_
     refine Y36 ?_; refine Y1k ?_; refine Ys ?_; refine Yi ?_
     by_cases hjn : out.length + j < n
     ·refine qg (.bool true) (by rw [hul]; congr 1; rw [decide_eq_true_eq]; omega) ?_
      refine Y1z ?_
      have hjm : j < m := by omega
      have hjb : j * kBit K + kBit K ≤ 60 := by
       have h1 : (j + 1) * kBit K ≤ kNum K * kBit K := Nat.mul_le_mul_right _ hjk
       rw [Nat.mul_comm (kNum K), Nat.succ_mul] at h1
       omega
      have hun := unpack_at (x := x) hjb
      have hstep := unpackW_snoc (x % 1152921504606846976) (kBit K) j
      rw [hun] at hstep
      have hp := pow_le_64 k2
      have hp0 := Nat.two_pow_pos (kBit K)
      have hyd : x / 2 ^ (j * kBit K) < 18446744073709551616 := Nat.lt_of_le_of_lt (Nat.div_le_self _ _) hx
      refine Y1y ?_; refine Yf ?_
      refine qo (Γ := Unit) (fun _ => [(0, .slice sl ws.length c), (1, .int .i64 n), (6, .slice oa (out ++ unpackW (x % 1152921504606846976) (kBit K) j).length oc), (7, .int .i64 i), (8, .int .i64 K), (9, .int .i64 j), (10, .int .u64 (x / 2 ^ (j * kBit K) % 2 ^ kBit K : Nat))])
       (fun _ w => St w0 (OwnU oa oc (out ++ unpackW (x % 1152921504606846976) (kBit K) j) :: l) w) ?_ ?_
      ·refine Y4 ?_
       refine qw rfl (qj rfl (ref4_bits hkx h) ?_)
       rintro _ w ⟨rfl, h⟩
       refine Y1q ?_
       refine qq (qy (decide ((kBit K : Int) > 0)) rfl (fun hc1 => ?_) (fun hc1 => ?_))
       ·refine jj none (fun w => St w0 _ w) O2 O2 h.drew fun w h => ?_
        refine Yq ?_
        refine cpv rfl rfl rfl rfl h rfl (qn (b := b) (o := o) (m := ws.length) (c := c) (o' := o + i) O8 rfl rfl hlt O7) ?_
        refine qu rfl rfl rfl rfl h (fun w h => qm rfl (qx (v := .int .u64 (x : Int)) rfl ((hsl ▸ hr.cons.at_ h).cell (u64V_get hg)))) ?_
        refine Yj ?_; refine Yj ?_; refine Y13 ?_; refine Yj ?_; refine Y40 ?_
        refine qt 6 rfl rfl rfl rfl ?_
        refine (qj rfl (ref4_bits hkx h) ?_)
        rintro _ w ⟨rfl, h⟩
        refine ⟨fun _ => h, ?_⟩
        refine cpv rfl rfl rfl rfl h rfl (qh (v' := .int .i64 ((j * kBit K : Nat) : Int)) (q_mul rfl rfl) O34) ?_
        refine cpv rfl rfl rfl rfl h rfl (qh (v' := .int .u64 ((j * kBit K : Nat) : Int)) (jb rfl) O9) ?_
        refine cpv rfl rfl rfl rfl h rfl (qh (v' := .int .u64 ((x / 2 ^ (j * kBit K) : Nat) : Int)) (ju rfl rfl O0) (congrArg (Value.int .u64) (q9 x (j * kBit K) 64 O0))) ?_
        refine Y40 ?_
        refine qt 11 rfl rfl rfl rfl ?_
        refine (qj rfl (ref4_bits hkx h) ?_)
        rintro _ w ⟨rfl, h⟩
        refine ⟨fun _ => h, ?_⟩
        refine cpv rfl rfl rfl rfl h rfl (qh (v' := .int .u64 ((kBit K : Nat) : Int)) (jb rfl) O9) ?_
        refine cpv rfl rfl rfl rfl h rfl (qh (v' := .int .u64 ((2 ^ kBit K : Nat) : Int)) (gk rfl rfl O0) (congrArg (Value.int .u64) ((ji 1 (kBit K) O0).trans (by rw [Nat.one_mul, Nat.mod_eq_of_lt hp])))) ?_
        refine cpv rfl rfl rfl rfl h rfl (qh (v' := .int .u64 ((2 ^ kBit K - 1 : Nat) : Int)) (jm rfl rfl) (by rw [show (((2 ^ kBit K : Nat) : Int) - 1) = ((2 ^ kBit K - 1 : Nat) : Int) by omega, g9, Nat.mod_eq_of_lt O0])) ?_
        refine cpv rfl rfl rfl rfl h rfl (qh (v' := .int .u64 ((x / 2 ^ (j * kBit K) % 2 ^ kBit K : Nat) : Int)) (q_and rfl rfl) (congrArg (Value.int .u64) (((jv hyd O0).1).trans (by rw [Nat.and_two_pow_sub_one_eq_mod])))) ?_
        refine Y2h ?_
        exact qi ⟨(), ⟨rfl, rfl, rfl, rfl, rfl, rfl, rfl, trivial⟩, h⟩
       ·have hb0 : kBit K = 0 := by simp at hc1; omega
        refine qr ⟨(), ⟨rfl, rfl, rfl, rfl, rfl, rfl, ?_, trivial⟩, h⟩
        show Value.int .u64 0 = Value.int .u64 _
        rw [hb0, Nat.pow_zero, Nat.mod_one]; rfl
      clear h
      rintro ⟨⟩ w e h
      generalize x / 2 ^ (j * kBit K) % 2 ^ kBit K = z at hstep e ⊢
      have hst2 : out ++ unpackW (x % 1152921504606846976) (kBit K) (j + 1) = (out ++ unpackW (x % 1152921504606846976) (kBit K) j) ++ [z] := by rw [hstep, List.append_assoc]
      refine Y29 ?_
      refine jo (v := .int .u64 (z : Int)) (m3 := (out ++ unpackW (x % 1152921504606846976) (kBit K) (j + 1)).length) (zs := u64V (out ++ unpackW (x % 1152921504606846976) (kBit K) (j + 1))) h rfl rfl rfl rfl rfl (by rw [hst2]; simp; omega) (by rw [hst2]; simp [u64V, vcells]) (by rw [hst2, List.length_append, hul]; simp; omega) (by rw [hst2, List.length_append, hul]; simp; omega) rfl rfl rfl rfl rfl fun b2 a2 c2 w _ h => ?_
      refine Y42 ?_
      refine qg (.int .i64 ((j + 1 : Nat) : Int)) O5 ?_
      refine Y2 ?_
      exact qq ⟨(j + 1, a2, c2), ⟨rfl, rfl, rfl, rfl, rfl, rfl, trivial⟩, ⟨hjm, h⟩, by dsimp only; omega⟩
     ·refine qg (.bool false) (by rw [hul]; congr 1; rw [decide_eq_false_iff_not]; omega) ?_
      refine Y11 ?_
      obtain ⟨t1, t2⟩ := leave O0 h
      refine qd ?_
      refine Y1b ?_
      refine qg (.int .i64 ((i + 1 : Nat) : Int)) O5 ?_
      refine Y2 ?_
      exact qq ⟨(i + 1, out ++ unpackW (x % 1152921504606846976) (kBit K) j, oa, oc), ⟨rfl, rfl, rfl, rfl, trivial⟩, ⟨hlt, by dsimp only; rw [hul]; omega, t1, t2, h⟩, by dsimp only; omega⟩
    ·refine qg (.bool false) O1 ?_
     refine Y41 ?_; refine Y11 ?_
     obtain ⟨t1, t2⟩ := leave O0 h
     refine qd ?_
     refine Y1b ?_
     refine qg (.int .i64 ((i + 1 : Nat) : Int)) O5 ?_
     refine Y2 ?_
     exact qq ⟨(i + 1, out ++ unpackW (x % 1152921504606846976) (kBit K) j, oa, oc), ⟨rfl, rfl, rfl, rfl, trivial⟩, ⟨hlt, by dsimp only; rw [hul]; omega, t1, t2, h⟩, by dsimp only; omega⟩
   ·refine qg (.bool false) O1 ?_
    refine Y11 ?_
    rw [show n - out.length = 0 by omega, looseA_zero, List.append_nil] at inv
    subst inv
    exact qd ⟨(oa, oc), ⟨rfl, rfl, rfl, trivial⟩, hout, h⟩
  ·refine qg (.bool false) O1 ?_
   refine Y41 ?_; refine Y11 ?_
   rw [List.drop_eq_nil_of_le O0, looseA, List.append_nil] at inv
   subst inv
   exact qd ⟨(oa, oc), ⟨rfl, rfl, rfl, trivial⟩, hout, h⟩
 clear h
 rintro ⟨oa, oc⟩ w e ⟨hL64, h⟩
 dsimp only at h ⊢
 refine Y5 ?_
 refine qw rfl (qj rfl (ref4_Simple hL64 O0 h.own_cases.2.1 Reads.own h) ?_)
 rintro _ w ⟨ea, ec, rfl, h⟩
 refine Y14 ?_; refine Y1w ?_; refine Y0 ?_; refine Y2y ?_
 by_cases hon : L.length = n
 ·refine qg (.bool false) (by rw [hon]; simp) ?_
  cases hE : simpEnc L with
  | none =>
   refine Y2i ?_; refine Y2i ?_; refine Y1j ?_; refine Y8 ?_; refine Y2g ?_; refine Y2e ?_
   exact qq (qv (bq2 (ToldE.no (by rw [hdef, if_neg]; rintro ⟨_, hh⟩; rw [hE] at hh; cases hh) h.drop.drop)))
  | some d =>
   rw [hE] at h
   refine Y2i ?_; refine Y2i ?_; refine Y1j ?_; refine Y8 ?_; refine Y2f ?_; refine Y3v ?_
   refine qw rfl (qj rfl (ref1_SameWords (L1 := d) (L2 := ws) Reads.own (hr.more [_, _]) (by have := (simpEnc_len (u := L)).1; rw [hE] at this; exact Nat.lt_of_le_of_lt this O0) h) ?_)
   rintro _ w ⟨rfl, h⟩
   refine Y3e ?_; refine Y8 ?_
   refine qq (qy (!decide (d = ws)) rfl (fun hc1 => ?_) (fun hc1 => ?_))
   ·refine Y26 ?_
    exact qq (qv (bq2 (ToldE.no (by rw [hdef, if_neg]; rintro ⟨_, hh⟩; rw [hE] at hh; cases hh; simp at hc1) h.drop.drop)))
   ·refine Yh ?_; refine Y5 ?_; refine Y1f ?_
    exact qq (qv (bq2 ⟨oa, oc, L, true, rfl, by rw [hdef, if_pos ⟨hon, by rw [hE]; congr 1; simpa using hc1⟩]; rfl, fun _ => hon, hL64, hLn, h.drop⟩))
 ·refine qg (.bool true) O18 ?_
  refine Y3d ?_; refine Y2g ?_; refine Y2e ?_
  exact qq (qv (bq2 (ToldE.no (by rw [hdef, if_neg]; rintro ⟨hh, _⟩; exact hon hh) h.drop.drop)))
end
end Go.Proofs.YtnnehiiblfmpnaaGreatDoor

namespace Go.Hw
set_option maxRecDepth 100000
theorem turnR_lt {s : RS} {win win' : Win} {x : Nat} {s' : RS} (h : turnR s win = (some (x, win'), s')) : x < 18446744073709551616 := by
 unfold turnR at h
 split at h
 ·cases h; decide
 ·split at h
  ·dsimp only at h
   split at h
   ·cases h; exact Nat.mod_lt _ O4
   ·cases h
  ·dsimp only at h
   split at h
   ·cases h
   ·split at h
    ·cases h
    ·cases h; exact Nat.mod_lt _ O4
theorem xorDecA_ok : ∀ (k was : Nat) (win : Win) (s : RS) (v : List Nat), was < 18446744073709551616 → xorDecA k was win s = some v → v.length = k ∧ ∀ x ∈ v, x < 18446744073709551616
 | 0, _, _, _, v, _, h => by cases h; exact ⟨rfl, fun _ h => by cases h⟩
 | k + 1, was, win, s, v, hw, h => by
  rw [xorDecA] at h
  split at h
  ·cases h
  ·rename_i x win' s' ht
   split at h
   ·cases h
   ·obtain ⟨y, h1, rfl⟩ := Option.map_eq_some_iff.1 h
    have hx : was ^^^ x < 18446744073709551616 := Nat.xor_lt_two_pow (n := 64) hw (turnR_lt ht)
    obtain ⟨h2, h3⟩ := xorDecA_ok k _ _ _ y hx h1
    refine ⟨by simp [h2], fun z hz => ?_⟩
    rcases List.mem_cons.1 hz with rfl | hz
    ·exact hx
    ·exact h3 z hz
theorem xorDec_ok {n : Nat} {s : RS} {v : List Nat} (h : xorDec n s = some v) : v.length = n ∧ ∀ x ∈ v, x < 18446744073709551616 := by
 cases n with
 | zero =>
  unfold xorDec at h
  dsimp only at h
  split at h
  ·cases h
  ·cases h; exact ⟨rfl, fun _ h => by cases h⟩
 | succ k =>
  unfold xorDec at h
  dsimp only at h
  split at h
  ·cases h
  ·obtain ⟨y, h1, rfl⟩ := Option.map_eq_some_iff.1 h
   have hx : (s.get 64).1 < 18446744073709551616 := RS.get_lt s 64
   obtain ⟨h2, h3⟩ := xorDecA_ok k _ _ _ y hx h1
   refine ⟨by simp [h2], fun z hz => ?_⟩
   rcases List.mem_cons.1 hz with rfl | hz
   ·exact hx
   ·exact h3 z hz
theorem sumsL_lt : ∀ (v : List Nat) (was : Nat), ∀ x ∈ sumsL was v, x < 18446744073709551616
 | [], _, x, h => by cases h
 | y :: r, was, x, h => by
  rw [sumsL] at h
  rcases List.mem_cons.1 h with rfl | h
  ·exact Nat.mod_lt _ O4
  ·exact sumsL_lt r _ x h
theorem runsDecA_ok : ∀ (f : Nat) (b : List UInt8) (room : Nat) (last : Option Nat) (v : List Nat), runsDecA f b room last = some v → v.length = room ∧ ∀ x ∈ v, x < 18446744073709551616
 | f, [], room, last, v, h => by
  have : runsDecA f [] room last = if room = 0 then some [] else none := by cases f <;> rfl
  rw [this] at h
  split at h
  ·cases h; exact ⟨by simp [*], fun _ h => by cases h⟩
  ·cases h
 | 0, _ :: _, _, _, _, h => by cases h
 | f + 1, c :: b, room, last, v, h => by
  rw [runsDecA] at h
  split at h
  ·cases h
  ·rename_i hc
   obtain ⟨y, h1, rfl⟩ := Option.map_eq_some_iff.1 h
   obtain ⟨h2, h3⟩ := runsDecA_ok f _ _ _ y h1
   refine ⟨by rw [List.length_append, List.length_replicate, h2]; omega, fun z hz => ?_⟩
   rcases List.mem_append.1 hz with hz | hz
   ·rw [(List.mem_replicate.1 hz).2]; exact jp _
   ·exact h3 z hz
theorem frameDec_ok {b : List UInt8} {n : Nat} {v : List Nat} (h : frameDec b n = some v) : v.length = n ∧ ∀ x ∈ v, x < 18446744073709551616 := by
 unfold frameDec at h
 repeat' split at h
 all_goals first | cases h | skip
 ·subst_vars; exact ⟨rfl, fun _ h => by cases h⟩
 ·rename_i l hl _
  refine ⟨by rw [List.length_map]; exact getAll_len _ _ _ _ hl, fun z hz => ?_⟩
  obtain ⟨y, _, rfl⟩ := List.mem_map.1 hz
  exact Nat.mod_lt _ O4
theorem getVs_lt : ∀ (k : Nat) (b : List UInt8) (x : List Nat × List UInt8), getVs k b = some x → ∀ y ∈ x.1, y < 18446744073709551616
 | 0, _, x, h => by cases h; exact fun _ h => by cases h
 | k + 1, b, x, h => by
  rw [getVs] at h; split at h
  ·cases h
  ·obtain ⟨y, h1, rfl⟩ := Option.map_eq_some_iff.1 h
   intro z hz
   rcases List.mem_cons.1 hz with rfl | hz
   ·exact jp _
   ·exact getVs_lt k _ y h1 z hz
theorem pickAll_ok {l : List Nat} : ∀ (at_ v : List Nat), pickAll l at_ = some v → v.length = at_.length ∧ ∀ x ∈ v, x ∈ l
 | [], v, h => by cases h; exact ⟨rfl, fun _ h => by cases h⟩
 | a :: r, v, h => by
  rw [pickAll] at h
  split at h
  ·cases h
  ·rename_i x hx
   obtain ⟨y, h1, rfl⟩ := Option.map_eq_some_iff.1 h
   obtain ⟨h2, h3⟩ := pickAll_ok r y h1
   refine ⟨by simp [h2], fun z hz => ?_⟩
   rcases List.mem_cons.1 hz with rfl | hz
   ·exact List.mem_of_getElem? hx
   ·exact h3 z hz
theorem dictDec_ok {b : List UInt8} {n : Nat} {v : List Nat} (h : dictDec b n = some v) : v.length = n ∧ ∀ x ∈ v, x < 18446744073709551616 := by
 rw [dictDec] at h
 split at h
 ·split at h
  ·cases h; subst_vars; exact ⟨rfl, fun _ h => by cases h⟩
  ·cases h
 ·split at h
  ·cases h
  ·split at h
   ·cases h
   ·rename_i l rest hg
    split at h
    ·cases h
    ·rename_i at_ ha
     split at h
     ·cases h
     ·rename_i out ho
      split at h
      ·cases h
       obtain ⟨h1, h2⟩ := pickAll_ok _ _ ho
       exact ⟨by rw [h1]; exact getAll_len _ _ _ _ ha, fun x hx => getVs_lt _ _ _ hg x (h2 x hx)⟩
      ·cases h
theorem simpDec_len {ws : List Nat} {n : Nat} {v : List Nat} (h : simpDec ws n = some v) : v.length = n := by
 rw [simpDec_loose] at h
 split at h
 ·rename_i hh; cases h; exact hh.1
 ·cases h
theorem valuesDec_ok {tag : Int} {b : List UInt8} {n : Nat} {v : List Nat} (h : valuesDec tag b n = some v) : v.length = n ∧ ∀ x ∈ v, x < 18446744073709551616 := by
 unfold valuesDec at h
 split at h
 ·exact xorDec_ok h
 split at h
 ·split at h
  ·obtain ⟨y, h1, rfl⟩ := Option.map_eq_some_iff.1 h
   exact ⟨by rw [sumsL_len]; exact simpDec_len h1, sumsL_lt _ _⟩
  ·cases h
 split at h
 ·exact runsDecA_ok _ _ _ _ _ h
 split at h
 ·exact frameDec_ok h
 split at h
 ·exact dictDec_ok h
 split at h
 ·cases h
  refine ⟨List.length_replicate, fun x hx => ?_⟩
  rw [(List.mem_replicate.1 hx).2]; exact jp _
 ·cases h
theorem vals_zipS : ∀ (x : List Int) (v : List Nat), x.length = v.length → valsOf (zipS x v) = v
 | [], [], _ => rfl
 | [], _ :: _, h => by simp at h
 | _ :: _, [], h => by simp at h
 | t :: x, a :: v, h => by
  have := vals_zipS x v O19
  show Int.toNat (a : Int) :: valsOf (zipS x v) = _
  rw [this, Int.toNat_natCast]
theorem be8_get (x : Nat) (r : List UInt8) {j : Nat} (h : j < 8) : (be8 x ++ r)[j]? = some (UInt8.ofNat (x / 2 ^ (56 - 8 * j))) := by
 rcases j with _ | _ | _ | _ | _ | _ | _ | _ | j
 ·rfl
 ·rfl
 ·rfl
 ·rfl
 ·rfl
 ·rfl
 ·rfl
 ·show some (UInt8.ofNat x) = some (UInt8.ofNat (x / 2 ^ 0))
  rw [Nat.pow_zero, Nat.div_one]
 ·omega
theorem bigL_get : ∀ (ws : List Nat) (k : Nat) {j x : Nat}, ws[k]? = some x → j < 8 → (bigL ws)[8 * k + j]? = some (UInt8.ofNat (x / 2 ^ (56 - 8 * j)))
 | [], _, _, _, h, _ => by cases h
 | y :: ws, 0, j, x, h, hj => by
  cases h
  rw [show 8 * 0 + j = j by omega]
  exact be8_get y (bigL ws) hj
 | y :: ws, k + 1, j, x, h, hj => by
  show (be8 y ++ bigL ws)[8 * (k + 1) + j]? = _
  have hl : (be8 y).length = 8 := rfl
  rw [List.getElem?_append_right O0, hl, show 8 * (k + 1) + j - 8 = 8 * k + j by omega]
  exact bigL_get ws k h hj
theorem word_up {x j : Nat} (hj : j < 8) : x / 2 ^ (64 - 8 * j) * 256 + (UInt8.ofNat (x / 2 ^ (56 - 8 * j))).toNat = x / 2 ^ (64 - 8 * (j + 1)) := by
 have e : 2 ^ (64 - 8 * j) = 2 ^ (56 - 8 * j) * 256 := by rw [show 64 - 8 * j = (56 - 8 * j) + 8 by omega, Nat.pow_add]
 rw [UInt8.toNat_ofNat', show 64 - 8 * (j + 1) = 56 - 8 * j by omega, e, ← Nat.div_div_eq_div_mul]
 generalize x / 2 ^ (56 - 8 * j) = z
 omega
end Go.Hw
namespace Go.Proofs.YtnnehiiblfmpnaaGreatDoor
open Go.Hw
set_option maxHeartbeats 4000000
set_option maxRecDepth 100000
theorem suitDec_parts {tag : Int} {bs : List UInt8} {n : Int} {D : List Smp} (h : suitDec tag bs n = some D) : 0 ≤ n ∧ n ≤ 65535 ∧ (vget bs).2 ≠ 0 ∧ (vget bs).1 ≤ bs.length - (vget bs).2 ∧
  ∃ x v, timesDec n.toNat ⟨bitsB ((bs.drop (vget bs).2).take (vget bs).1), false⟩ = some x ∧ v.length = n.toNat ∧ (∀ y ∈ v, y < 18446744073709551616) ∧ valuesEnc tag v = some (bs.drop ((vget bs).2 + (vget bs).1)) ∧ D = zipS x.1 v ∧ suitEnc tag D = some bs ∧ (∀ s ∈ D, s.Wf) ∧ (D.length : Int) = n := by
 unfold suitDec at h
 split at h
 ·cases h
 rename_i hc
 split at h
 ·rename_i x v hx hv
  split at h
  ·rename_i hE
   cases h
   obtain ⟨hvl, hv64⟩ := valuesDec_ok hv
   have htl := timesDec_len hx
   have hwf := zipS_wf x.1 v (timesDec_i64 hx) hv64
   refine ⟨by omega, by omega, by omega, by omega, x, v, hx, hvl, hv64, ?_, rfl, hE, hwf, by rw [zipS_len _ _ O0]; omega⟩
   have hlen := suitEnc_len (tag := tag) hwf
   rw [hE] at hlen
   have hbl : bs.length ≤ 3000000 := hlen
   have hE2 := hE
   unfold suitEnc at hE2
   split at hE2
   ·obtain ⟨b, hb, hb2⟩ := Option.map_eq_some_iff.1 hE2
    rw [vals_zipS _ _ O0] at hb
    rw [hb]
    congr 1
    unfold suitBytes at hb2
    generalize pack (timesBits (timesOf (zipS x.1 v))) = tb at hb2
    have hg := gb (show tb.length < 18446744073709551616 by rw [← hb2] at hbl; simp at hbl; omega) (tb ++ b)
    rw [hb2] at hg
    rw [hg, ← hb2, ← List.drop_drop, List.drop_left, List.drop_left]
   ·cases hE2
  ·cases h
 ·cases h
section
variable {w0 w : World} {l : List HProp}
abbrev ReadsV (w0 : World) (l : List HProp) (n : Nat) (tag : Int) (bs : List UInt8) (v : Value) (w' : World) : Prop := ∃ ok a c vs, v = .tuple [.slice a vs.length c, .bool ok].toArray ∧ (ok = true → ∀ x ∈ vs, x < 18446744073709551616) ∧ (∀ V : List Nat, (∀ x ∈ V, x < 18446744073709551616) → V.length = n → valuesEnc tag V = some bs → ok = true ∧ vs = V) ∧ St w0 (OwnU a c vs :: l) w'
theorem Told.reads {n : Nat} {tag : Int} {bs : List UInt8} {D : Option (List Nat)} {v : Value} {w' : World} (h : Told w0 l n D v w') (hD : ∀ V : List Nat, (∀ x ∈ V, x < 18446744073709551616) → V.length = n → valuesEnc tag V = some bs → D = some V) : ReadsV w0 l n tag bs v w' := by
 obtain ⟨a, c, xs, b, rfl, h1, h2, h3⟩ := h
 refine ⟨b, a, c, xs, rfl, fun hb => (h2 hb).2, fun V v1 v2 v3 => ?_, h3⟩
 have := hD V v1 v2 v3
 rw [h1] at this
 cases b with
 | false => cases this
 | true => cases this; exact ⟨rfl, rfl⟩
theorem sameEnc_some {V : List Nat} {bs : List UInt8} (h : sameEnc V = some bs) : (V = [] ∧ bs = []) ∨ ∃ x, V = List.replicate V.length x ∧ 0 < V.length ∧ x ∈ V ∧ bs = vput x := by
 cases V with
 | nil => cases h; exact .inl ⟨rfl, rfl⟩
 | cons x r =>
  rw [sameEnc] at h
  split at h
  ·rename_i ha
   cases h
   refine .inr ⟨x, ?_, by simp, List.mem_cons_self .., rfl⟩
   rw [List.length_cons, List.replicate_succ]
   congr 1
   exact List.eq_replicate_iff.2 ⟨rfl, fun b hb => by simpa using List.all_eq_true.1 ha b hb⟩
  ·cases h
end
end Go.Proofs.YtnnehiiblfmpnaaGreatDoor

namespace Go.Proofs.YtnnehiiblfmpnaaGreatDoor
open Go.Hw
set_option maxHeartbeats 4000000
set_option maxRecDepth 100000
section
variable {w0 w : World} {l : List HProp}
theorem ref10_read (tag : Int) {sl : Option Addr} {c : Nat} {bs : List UInt8} {n : Nat} (hn : n ≤ 65535) (hbn : bs.length ≤ 140737488355328) (hc : bs.length ≤ c) (hr : Reads w0 l 1 sl bs.length (bytesV bs)) (h : St w0 l w) :
  Ret Tryz.prog 119 [.int .i64 tag, .slice sl bs.length c, .int .i64 (n : Int)] w fun v w' => ReadsV w0 l n tag bs v w' := by
 refine enter Tryz.func119 rfl Tryz.results119 Tryz.ntmps119 rfl ?_
 refine Y18 ?_; refine Y1g ?_; refine Y3 ?_; refine Ya ?_; refine Y20 ?_
 refine qy (tag == 1) rfl (fun hc1 => ?_) (fun hc1 => ?_)
 ·have ht : tag = 1 := by simpa using hc1
  subst ht
  refine Y5 ?_; refine qz (qe rfl) rfl ?_
  refine qw rfl (jy h rfl fun b w h => ?_)
  replace h : St w0 (RrPt b sl bs.length c 0 false :: l) w := h
  refine Y0 ?_
  refine qw rfl (qj rfl (ref4_GetValues (n : Int) hbn hr h) ?_)
  rw [askN_nat hn]
  rintro _ w ⟨ok, vs, va, vc, rfl, h64, hV, h⟩
  refine Y3m ?_; refine Y1f ?_
  refine qq (qv (bq2 ⟨ok, va, vc, vs, rfl, fun _ => h64, fun V v1 v2 v3 => ?_, h⟩))
  have e : pack (xorBits V) = bs := by
   unfold valuesEnc at v3
   rw [if_pos rfl] at v3
   exact Option.some.inj v3
  exact hV V _ v1 v2 (by rw [← e, bitsB_pack])
 have n1 : tag ≠ 1 := by simpa using hc1
 refine Y20 ?_
 refine qy (tag == 2) rfl (fun hc1 => ?_) (fun hc1 => ?_)
 ·have ht : tag = 2 := by simpa using hc1
  subst ht
  clear n1
  have hve : ∀ V : List Nat, valuesEnc 2 V = some bs → ∃ ws, simpEnc (stepsL 0 V) = some ws ∧ bs = bigL ws ∧ ∀ x ∈ ws, x < 18446744073709551616 := by
   intro V v3
   unfold valuesEnc at v3
   rw [if_neg O4, if_pos rfl] at v3
   obtain ⟨ws, h1, h2⟩ := Option.map_eq_some_iff.1 v3
   exact ⟨ws, h1, h2.symm, (simpDecA_told _ _ ws (Nat.le_refl _) h1).2⟩
  refine Yn ?_
  refine qo (Γ := List Nat × Option Addr × Nat) (fun k => [(2, .int .i64 n), (8, .slice k.2.1 k.1.length k.2.2)])
   (fun k w => (∀ x ∈ k.1, x < 18446744073709551616) ∧ k.1.length ≤ bs.length ∧ (∀ ws : List Nat, (∀ x ∈ ws, x < 18446744073709551616) → bs = bigL ws → k.1 = ws) ∧ St w0 (OwnU k.2.1 k.2.2 k.1 :: l) w) ?_ ?_
  ·refine Y17 ?_
   refine qc (Γ := Nat × List Nat × Option Addr × Nat) (fun k => [(1, .slice sl bs.length c), (2, .int .i64 n), (8, .slice k.2.2.1 k.2.1.length k.2.2.2), (9, .int .i64 (8 * k.1 : Nat))])
    (fun k w => 8 * k.1 ≤ bs.length ∧ k.2.1.length = k.1 ∧ (∀ x ∈ k.2.1, x < 18446744073709551616) ∧ (∀ ws : List Nat, (∀ x ∈ ws, x < 18446744073709551616) → bs = bigL ws → k.2.1 = ws.take k.1) ∧ St w0 (OwnU k.2.2.1 k.2.2.2 k.2.1 :: l) w) (fun k => bs.length - 8 * k.1) (0, [], none, 0) ⟨rfl, rfl, rfl, rfl, trivial⟩ ⟨Nat.zero_le _, rfl, (fun _ h => by cases h), (fun _ _ _ => by simp), St.ownNil _ _ h⟩ ?_
   clear h
   rintro ⟨k, out, oa, oc⟩ w e ⟨hk, hol, hout, hT, h⟩
   dsimp only at hk hol hout hT h ⊢
   refine Y1g ?_; refine Y1n ?_
   refine qg (.int .i64 ((8 * (k + 1) : Nat) : Int)) O14 ?_
   refine Y1r ?_; refine Y4x ?_
   by_cases hlt : 8 * (k + 1) ≤ bs.length
   ·refine qg (.bool true) O10 ?_
    refine Y4o ?_; refine Yf ?_
    refine qo (Γ := Nat) (fun x => [(1, .slice sl bs.length c), (2, .int .i64 n), (8, .slice oa out.length oc), (9, .int .i64 (8 * k : Nat)), (10, .int .u64 x)])
     (fun x w => x < 18446744073709551616 ∧ (∀ ws : List Nat, (∀ x ∈ ws, x < 18446744073709551616) → bs = bigL ws → ws[k]? = some x) ∧ St w0 (OwnU oa oc out :: l) w) ?_ ?_
    ·refine Y17 ?_
     refine qc (Γ := Nat × Nat) (fun q => [(1, .slice sl bs.length c), (2, .int .i64 n), (8, .slice oa out.length oc), (9, .int .i64 (8 * k : Nat)), (10, .int .u64 q.2), (11, .int .i64 q.1)])
      (fun q w => q.1 ≤ 8 ∧ q.2 < 18446744073709551616 ∧ (∀ (ws : List Nat), (∀ x ∈ ws, x < 18446744073709551616) → bs = bigL ws → ∀ x, ws[k]? = some x → q.2 = x / 2 ^ (64 - 8 * q.1)) ∧ St w0 (OwnU oa oc out :: l) w) (fun q => 8 - q.1) (0, 0) ⟨rfl, rfl, rfl, rfl, rfl, rfl, trivial⟩
      ⟨by decide, by decide, (fun ws h1 h2 x hx => (Nat.div_eq_of_lt (h1 x (List.mem_of_getElem? hx))).symm), h⟩ ?_
     clear h
     rintro ⟨j, y⟩ w e ⟨hj, hy, hY, h⟩
     dsimp only at hj hy hY h ⊢
     refine Y3s ?_
     by_cases hj8 : j < 8
     ·refine qg (.bool true) O10 ?_
      refine Y1z ?_
      have hlt2 : 8 * k + j < bs.length := by omega
      have hg := List.getElem?_eq_getElem hlt2
      generalize bs[8 * k + j] = q at hg
      have hq := q.toNat_lt
      obtain ⟨b, o, hsl⟩ := (hr.cons.at_ h).some O0
      refine Y1y ?_; refine Y1a ?_
      refine qz (qh (v' := .int .u64 ((y * 2 ^ 8 % 18446744073709551616 : Nat) : Int)) (gk rfl rfl O0) (congrArg (Value.int .u64) (ji y 8 O4))) rfl ?_
      refine Y27 ?_; refine Y3h ?_
      refine qg (.int .i64 ((8 * k + j : Nat) : Int)) O5 ?_
      refine qz (qn (b := b) (o := o) (m := bs.length) (c := c) (o' := o + (8 * k + j)) O8 rfl rfl hlt2 O7) rfl ?_
      refine qz (qx (v := .int .u8 q.toNat) rfl ((hsl ▸ hr.cons.at_ h).cell (bytesV_get hg))) rfl ?_
      refine Yb ?_
      refine qg (.int .u64 ((q.toNat : Nat) : Int)) O9 ?_
      refine Y50 ?_
      refine qg (.int .u64 (((y * 256 + q.toNat) % 18446744073709551616 : Nat) : Int)) (by rw [(jv (Nat.mod_lt _ O4) O0).2.1, shl8_or O0]) ?_
      refine Y49 ?_
      refine qg (.int .i64 ((j + 1 : Nat) : Int)) O5 ?_
      refine Y2 ?_
      refine qq ⟨(j + 1, (y * 256 + q.toNat) % 18446744073709551616), ⟨rfl, rfl, rfl, rfl, rfl, rfl, trivial⟩, ⟨hj8, Nat.mod_lt _ O4, fun ws h1 h2 x hx => ?_, h⟩, by dsimp only; omega⟩
      dsimp only
      have hb := bigL_get ws k hx hj8
      rw [← h2, hg] at hb
      rw [Option.some.inj hb, hY ws h1 h2 x hx, word_up hj8]
      exact Nat.mod_eq_of_lt (Nat.lt_of_le_of_lt (Nat.div_le_self _ _) (h1 x (List.mem_of_getElem? hx)))
     ·refine qg (.bool false) O11 ?_
      refine Y11 ?_
      refine qd ⟨y, ⟨rfl, rfl, rfl, rfl, rfl, trivial⟩, hy, fun ws h1 h2 => ?_, h⟩
      have hwl : bs.length = 8 * ws.length := by rw [h2, bigL_len]
      have hgw := List.getElem?_eq_getElem (show k < ws.length by omega)
      rw [hgw]
      congr 1
      rw [hY ws h1 h2 _ hgw, show 64 - 8 * j = 0 by omega, Nat.pow_zero, Nat.div_one]
    clear h
    rintro x w e ⟨hx, hX, h⟩
    refine Y29 ?_
    refine jo (v := .int .u64 (x : Int)) (m3 := (out ++ [x]).length) (zs := u64V (out ++ [x])) h rfl rfl rfl rfl rfl O7 O22 O1 O1 rfl rfl rfl rfl rfl fun b2 a2 c2 w _ h => ?_
    refine Y42 ?_
    refine qg (.int .i64 ((8 * (k + 1) : Nat) : Int)) O14 ?_
    refine Y2 ?_
    refine qq ⟨(k + 1, out ++ [x], a2, c2), ⟨rfl, rfl, rfl, rfl, trivial⟩, ⟨hlt, by simp; omega, fun z hz => ?_, fun ws h1 h2 => ?_, h⟩, by dsimp only; omega⟩
    ·rcases List.mem_append.1 hz with hz | hz
     ·exact hout z hz
     ·rw [show z = x by simpa using hz]; exact hx
    ·dsimp only
     rw [List.take_add_one, hX ws h1 h2, hT ws h1 h2]; rfl
   ·refine qg (.bool false) O11 ?_
    refine Y11 ?_
    refine qd ⟨(out, oa, oc), ⟨rfl, rfl, trivial⟩, hout, by dsimp only; omega, fun ws h1 h2 => ?_, h⟩
    have hwl : bs.length = 8 * ws.length := by rw [h2, bigL_len]
    dsimp only
    rw [hT ws h1 h2, List.take_of_length_le O0]
  clear h
  rintro ⟨ws, wa, wc⟩ w e ⟨hws, hwl, hW, h⟩
  dsimp only at hws hwl hW h ⊢
  refine Yo ?_
  refine qw rfl (qj rfl (ref4_GetSimple hws O0 hn Reads.own h) ?_)
  rintro _ w ⟨sa, sc, S, ok, rfl, hS1, hS2, hS64, hSn, h⟩
  refine Y14 ?_; refine Yn ?_; refine Yf ?_
  refine qo (Γ := Option Addr × Nat) (fun k => [(13, .bool ok), (14, .slice k.1 (sumsL 0 S).length k.2)]) (fun k w => St w0 (OwnU k.1 k.2 (sumsL 0 S) :: l) w) ?_ ?_
  ·refine Y17 ?_
   refine qc (Γ := Nat × List Nat × Nat × Option Addr × Nat) (fun k => [(12, .slice sa S.length sc), (13, .bool ok), (14, .slice k.2.2.2.1 k.2.1.length k.2.2.2.2), (15, .int .u64 k.2.2.1), (16, .int .i64 k.1)])
    (fun k w => k.1 ≤ S.length ∧ k.2.1.length = k.1 ∧ k.2.2.1 < 18446744073709551616 ∧ sumsL 0 S = k.2.1 ++ sumsL k.2.2.1 (S.drop k.1) ∧ St w0 (OwnU k.2.2.2.1 k.2.2.2.2 k.2.1 :: OwnU sa sc S :: l) w) (fun k => S.length - k.1) (0, [], 0, none, 0) ⟨rfl, rfl, rfl, rfl, rfl, trivial⟩ ⟨Nat.zero_le _, rfl, by decide, rfl, St.ownNil _ _ (h.x [1])⟩ ?_
   clear h
   rintro ⟨k, out, was, oa, oc⟩ w e ⟨hk, hol, hwas, inv, h⟩
   dsimp only at hk hol hwas inv h ⊢
   refine Y2n ?_
   refine qy (decide ((k : Int) < (S.length : Int))) rfl (fun hc1 => ?_) (fun hc1 => ?_)
   ·have hlt : k < S.length := by simp at hc1; omega
    have hg := List.getElem?_eq_getElem hlt
    have hdr := List.drop_eq_getElem_cons hlt
    generalize S[k] = z at hg hdr
    have hz := hS64 z (List.mem_of_getElem? hg)
    rw [hdr, sumsL] at inv
    obtain ⟨g, rfl⟩ := (h.f 1).own_some O0
    refine Yy ?_; refine Y4 ?_; refine Y27 ?_
    refine qz (qn (b := g) (o := 0) (m := S.length) (c := sc) (o' := k) rfl rfl rfl hlt O7) rfl ?_
    refine qz (qx (v := .int .u64 (z : Int)) rfl O30) rfl ?_
    refine qw rfl (qj rfl (ref1_Zag hz h) ?_)
    rintro _ w ⟨rfl, h⟩
    refine Yb ?_
    refine qg (.int .u64 (zagU z : Nat)) (by rw [jt, us_sg (zagU_lt hz)]) ?_
    refine Y1n ?_
    refine qg (.int .u64 (summ was (zagU z) : Nat)) (by rw [gr]) ?_
    refine Y6 ?_
    have hx : summ was (zagU z) < 18446744073709551616 := Nat.mod_lt _ O4
    generalize summ was (zagU z) = x at inv hx ⊢
    refine Y29 ?_
    refine jo (v := .int .u64 (x : Int)) (m3 := (out ++ [x]).length) (zs := u64V (out ++ [x])) h rfl rfl rfl rfl rfl O7 O22 O1 O1 rfl rfl rfl rfl rfl fun b2 a2 c2 w _ h => ?_
    refine Y42 ?_
    refine qg (.int .i64 ((k + 1 : Nat) : Int)) O5 ?_
    refine Y2 ?_
    exact qq ⟨(k + 1, out ++ [x], x, a2, c2), ⟨rfl, rfl, rfl, rfl, rfl, trivial⟩, ⟨hlt, by simp; omega, hx, by rw [inv]; simp, h⟩, by dsimp only; omega⟩
   ·obtain rfl : k = S.length := by simp at hc1; omega
    rw [List.drop_length, sumsL, List.append_nil] at inv
    rw [inv]
    exact qd ⟨(oa, oc), ⟨rfl, rfl, trivial⟩, h.x [1]⟩
  clear h
  rintro ⟨oa, oc⟩ w e h
  dsimp only at h ⊢
  refine Y5 ?_; refine Y2u ?_; refine Y1f ?_
  refine qq (qv (bq2 ⟨ok, oa, oc, sumsL 0 S, rfl, fun _ => sumsL_lt S 0, fun V v1 v2 v3 => ?_, h⟩))
  obtain ⟨ws', e1, e2, e3⟩ := hve V v3
  obtain rfl := hW ws' e3 e2
  have e4 := simpDec_told e1
  rw [stepsL_len, v2] at e4
  rw [e4] at hS1
  cases ok with
  | false => cases hS1
  | true => cases hS1; exact ⟨rfl, sums_steps V 0 O4 v1⟩
 have n2 : tag ≠ 2 := by simpa using hc1
 refine Y20 ?_
 refine qy (tag == 3) rfl (fun hc1 => ?_) (fun hc1 => ?_)
 ·have ht : tag = 3 := by simpa using hc1
  subst ht
  refine Yo ?_
  refine qw rfl (qj rfl (ref4_GetRuns hn hbn hc hr h) ?_)
  intro v w h
  obtain ⟨ok, a, c', vs, rfl, h1, h2, h⟩ : ReadsV w0 l n 3 bs v w := Told.reads h fun V v1 v2 v3 => by
   unfold valuesEnc at v3
   rw [if_neg O4, if_neg O4, if_pos rfl] at v3
   rw [← Option.some.inj v3, ← v2]
   exact runsDec_told O0 v1
  refine Y3m ?_; refine Y1f ?_
  exact qq (qv (bq2 ⟨ok, a, c', vs, rfl, h1, h2, h⟩))
 have n3 : tag ≠ 3 := by simpa using hc1
 refine Y20 ?_
 refine qy (tag == 4) rfl (fun hc1 => ?_) (fun hc1 => ?_)
 ·have ht : tag = 4 := by simpa using hc1
  subst ht
  refine Yo ?_
  refine qw rfl (qj rfl (ref4_GetFrame hn hbn hc hr h) ?_)
  intro v w h
  obtain ⟨ok, a, c', vs, rfl, h1, h2, h⟩ : ReadsV w0 l n 4 bs v w := Told.reads h fun V v1 v2 v3 => by
   unfold valuesEnc at v3
   rw [if_neg O4, if_neg O4, if_neg O4, if_pos rfl] at v3
   rw [← Option.some.inj v3, ← v2]
   exact frameDec_told v1
  refine Y3m ?_; refine Y1f ?_
  exact qq (qv (bq2 ⟨ok, a, c', vs, rfl, h1, h2, h⟩))
 have n4 : tag ≠ 4 := by simpa using hc1
 refine Y20 ?_
 refine qy (tag == 5) rfl (fun hc1 => ?_) (fun hc1 => ?_)
 ·have ht : tag = 5 := by simpa using hc1
  subst ht
  refine Yo ?_
  refine qw rfl (qj rfl (ref4_GetDict hn hbn hc hr h) ?_)
  intro v w h
  obtain ⟨ok, a, c', vs, rfl, h1, h2, h⟩ : ReadsV w0 l n 5 bs v w := Told.reads h fun V v1 v2 v3 => by
   unfold valuesEnc at v3
   rw [if_neg O4, if_neg O4, if_neg O4, if_neg O4, if_pos rfl] at v3
   rw [← v2]
   exact dictDec_told v1 v3
  refine Y3m ?_; refine Y1f ?_
  exact qq (qv (bq2 ⟨ok, a, c', vs, rfl, h1, h2, h⟩))
 have n5 : tag ≠ 5 := by simpa using hc1
 refine Y20 ?_
 refine qy (tag == 6) rfl (fun hc1 => ?_) (fun hc1 => ?_)
 ·have ht : tag = 6 := by simpa using hc1
  subst ht
  have hm := jp bs
  have hk := ja bs
  refine Y5 ?_
  refine qw rfl (qj rfl (ref1_Get h hr hbn) ?_)
  rintro _ w ⟨rfl, h⟩
  refine Y2l ?_; refine Yn ?_
  have hV : ∀ V : List Nat, (∀ x ∈ V, x < 18446744073709551616) → V.length = n → valuesEnc 6 V = some bs → (n = 0 ∨ 0 < (vget bs).2) ∧ V = List.replicate n (vget bs).1 := by
   intro V v1 v2 v3
   unfold valuesEnc at v3
   rw [if_neg O4, if_neg O4, if_neg O4, if_neg O4, if_neg O4, if_pos rfl] at v3
   rcases sameEnc_some v3 with ⟨rfl, _⟩ | ⟨x, e1, e2, e3, rfl⟩
   ·obtain rfl : 0 = n := v2
    exact ⟨.inl rfl, rfl⟩
   ·have hg := gb (v1 x e3) []
    rw [List.append_nil] at hg
    rw [hg, ← v2]
    have := jq x
    exact ⟨.inr (by dsimp only; omega), e1⟩
  generalize (vget bs).1 = x at hm hV ⊢
  generalize (vget bs).2 = i at hk hV ⊢
  refine qo (Γ := Option Addr × Nat) (fun k => [(2, .int .i64 n), (18, .int .i64 i), (19, .slice k.1 (List.replicate n x).length k.2)]) (fun k w => St w0 (OwnU k.1 k.2 (List.replicate n x) :: l) w) ?_ ?_
  ·refine Y17 ?_
   refine qc (Γ := Nat × Option Addr × Nat) (fun k => [(2, .int .i64 n), (17, .int .u64 x), (18, .int .i64 i), (19, .slice k.2.1 (List.replicate k.1 x).length k.2.2), (20, .int .i64 k.1)])
    (fun k w => k.1 ≤ n ∧ St w0 (OwnU k.2.1 k.2.2 (List.replicate k.1 x) :: l) w) (fun k => n - k.1) (0, none, 0) ⟨rfl, rfl, rfl, rfl, rfl, trivial⟩ ⟨Nat.zero_le _, St.ownNil _ _ h⟩ ?_
   clear h
   rintro ⟨k, oa, oc⟩ w e ⟨hkn, h⟩
   dsimp only at hkn h ⊢
   refine Y31 ?_; refine Ys ?_
   by_cases hlt : k < n
   ·refine qg (.bool true) O10 ?_
    refine Y4o ?_; refine Y29 ?_
    refine jo (v := .int .u64 (x : Int)) (m3 := (List.replicate (k + 1) x).length) (zs := u64V (List.replicate (k + 1) x)) h rfl rfl rfl rfl rfl O7 (by rw [List.replicate_succ']; simp [u64V, vcells]) O1 O1 rfl rfl rfl rfl rfl fun b2 a2 c2 w _ h => ?_
    refine Y42 ?_
    refine qg (.int .i64 ((k + 1 : Nat) : Int)) O5 ?_
    refine Y2 ?_
    exact qq ⟨(k + 1, a2, c2), ⟨rfl, rfl, rfl, rfl, rfl, trivial⟩, ⟨hlt, h⟩, by dsimp only; omega⟩
   ·refine qg (.bool false) O11 ?_
    refine Y11 ?_
    obtain rfl : k = n := by omega
    exact qd ⟨(oa, oc), ⟨rfl, rfl, rfl, trivial⟩, h⟩
  clear h
  rintro ⟨oa, oc⟩ w e h
  dsimp only at h ⊢
  refine Yo ?_; refine Yd ?_
  by_cases hn0 : n = 0
  ·refine qg (.bool true) (by rw [hn0]; rfl) ?_
   refine Y3d ?_; refine Y1f ?_
   refine qq (qv (bq2 ⟨true, oa, oc, List.replicate n x, rfl, fun _ y hy => by rw [(List.mem_replicate.1 hy).2]; exact hm, fun V v1 v2 v3 => ⟨rfl, ((hV V v1 v2 v3).2).symm⟩, h⟩))
  ·refine qg (.bool false) O3 ?_
   refine Y10 ?_; refine Y57 ?_; refine Y1f ?_
   refine qq (qv (bq2 ⟨decide ((i : Int) > 0), oa, oc, List.replicate n x, rfl, fun _ y hy => by rw [(List.mem_replicate.1 hy).2]; exact hm, fun V v1 v2 v3 => ⟨?_, ((hV V v1 v2 v3).2).symm⟩, h⟩))
   have := (hV V v1 v2 v3).1
   rw [decide_eq_true_eq]; omega
 have n6 : tag ≠ 6 := by simpa using hc1
 refine Yh ?_; refine Y26 ?_
 refine qq (qv (bq2 ⟨false, none, 0, [], rfl, (fun h => by cases h), fun V v1 v2 v3 => ?_, St.ownNil _ _ h⟩))
 unfold valuesEnc at v3
 rw [if_neg n1, if_neg n2, if_neg n3, if_neg n4, if_neg n5, if_neg n6] at v3
 cases v3
end
end Go.Proofs.YtnnehiiblfmpnaaGreatDoor

namespace Go.Proofs.YtnnehiiblfmpnaaGreatDoor
open Go.Hw
set_option maxHeartbeats 4000000
set_option maxRecDepth 100000
section
variable {w0 w : World} {l : List HProp}
theorem ref10_Decode {tag : Int} {sl : Option Addr} {c : Nat} {bs : List UInt8} (n : Int) (hn : bs.length ≤ 140737488355328) (hc : bs.length ≤ c) (hr : Reads w0 l 1 sl bs.length (bytesV bs)) (h : St w0 l w) :
  Ret Tryz.prog 69 [.int .i64 tag, .slice sl bs.length c, .int .i64 n] w fun v w' => ∃ a c', v = .tuple [.slice a ((suitDec tag bs n).getD []).length c', .bool (suitDec tag bs n).isSome].toArray ∧ (∀ L, suitDec tag bs n = some L → (L.length : Int) = n ∧ ∀ s ∈ L, s.Wf) ∧ St w0 (OwnS a c' ((suitDec tag bs n).getD []) :: l) w' := by
 have hk := ja bs
 have hsz := jp bs
 have hM : ∀ L, suitDec tag bs n = some L → (L.length : Int) = n ∧ ∀ s ∈ L, s.Wf := fun L hL => by
  obtain ⟨_, _, _, _, _, _, _, _, _, _, _, _, h1, h2⟩ := suitDec_parts hL
  exact ⟨h2, h1⟩
 have bad : ∀ {w : World}, suitDec tag bs n = none → St w0 l w → ∃ a c', Value.tuple [.slice none 0 0, .bool false].toArray = .tuple [.slice a ((suitDec tag bs n).getD []).length c', .bool (suitDec tag bs n).isSome].toArray ∧ (∀ L, suitDec tag bs n = some L → (L.length : Int) = n ∧ ∀ s ∈ L, s.Wf) ∧ St w0 (OwnS a c' ((suitDec tag bs n).getD []) :: l) w := fun hb h => by
  rw [hb]
  exact ⟨none, 0, rfl, (fun _ h => by cases h), St.ownNil _ _ h⟩
 have hdef : ∀ D, suitDec tag bs n = some D → _ := fun D hD => suitDec_parts hD
 have htold := fun (D : List Smp) (hw : ∀ s ∈ D, s.Wf) (hE : suitEnc tag D = some bs) => suitDec_told hw O0 hE
 have none_of : (∀ D, suitDec tag bs n = some D → False) → suitDec tag bs n = none := fun hh => by
  cases hD : suitDec tag bs n with
  | none => rfl
  | some D => exact (hh D hD).elim
 refine enter Tryz.func69 rfl Tryz.results69 Tryz.ntmps69 rfl ?_
 refine Y18 ?_; refine Y5 ?_
 refine qw rfl (qj rfl (ref1_Get h hr hn) ?_)
 rintro _ w ⟨rfl, h⟩
 refine Y2l ?_
 generalize (vget bs).1 = size at hsz hdef ⊢
 generalize (vget bs).2 = k at hk hdef ⊢
 refine qo (Γ := Unit) (fun _ => [(0, .int .i64 tag), (1, .slice sl bs.length c), (2, .int .i64 n), (8, .int .u64 size), (9, .int .i64 k)]) (fun _ w => (¬ (k = 0 ∨ n < 0 ∨ 65535 < n ∨ bs.length - k < size)) ∧ St w0 l w) ?_ ?_
 ·refine Y1 ?_
  have bad2 : ∀ {w : World}, (k = 0 ∨ n < 0 ∨ 65535 < n ∨ bs.length - k < size) → St w0 l w → _ := fun hb h => bad (none_of fun D hD => by have := hdef D hD; omega) h
  by_cases g2 : n < 0
  ·refine Y0 ?_
   refine qz (qh (v' := .bool true) (gt rfl rfl) (by congr 1; simpa using g2)) rfl ?_
   refine Y4f ?_; refine Y2b ?_; refine Y2c ?_
   exact qq (qv (bq2 (bad2 (.inr (.inl g2)) h)))
  refine Y0 ?_
  refine qz (qh (v' := .bool false) (gt rfl rfl) (by congr 1; simpa using g2)) rfl ?_
  by_cases g3 : 65535 < n
  ·refine Y10 ?_
   refine qz (qh (v' := .bool true) (gn rfl rfl) (by congr 1; simpa using g3)) rfl ?_
   refine Y8 ?_; refine Y3d ?_; refine Y2b ?_; refine Y2c ?_
   exact qq (qv (bq2 (bad2 (.inr (.inr (.inl g3))) h)))
  refine Y10 ?_
  refine qz (qh (v' := .bool false) (gn rfl rfl) (by congr 1; simpa using g3)) rfl ?_
  by_cases g1 : k = 0
  ·refine Y2r ?_
   refine qz (qh (v' := .bool true) (jg rfl rfl) O37) rfl ?_
   refine Y8 ?_; refine Y2b ?_; refine Y2c ?_
   exact qq (qv (bq2 (bad2 (.inl g1) h)))
  refine Y2r ?_
  refine qz (qh (v' := .bool false) (jg rfl rfl) O3) rfl ?_
  refine Y2r ?_; refine Y4s ?_; refine Y1k ?_
  refine qz (qh (v' := .int .i64 ((bs.length - k : Nat) : Int)) (jm rfl rfl) O6) rfl ?_
  refine Y7 ?_
  refine qz (qh (v' := .int .u64 ((bs.length - k : Nat) : Int)) (jb rfl) (congrArg (Value.int .u64) (gu O0))) rfl ?_
  refine Y4t ?_
  refine qq (qy (decide ((size : Int) > ((bs.length - k : Nat) : Int))) rfl (fun hc1 => ?_) (fun hc1 => ?_))
  ·refine Y26 ?_
   exact qq (qv (bq2 (bad2 (.inr (.inr (.inr O24))) h)))
  ·exact qr ⟨(), ⟨rfl, rfl, rfl, rfl, rfl, trivial⟩, by simp at hc1; omega, h⟩
 clear h
 rintro _ w e ⟨hcond, h⟩
 obtain ⟨n, rfl⟩ := Int.eq_ofNat_of_zero_le (show 0 ≤ n by omega)
 have hn16 : n ≤ 65535 := by omega
 have hsk : k + size ≤ bs.length := by omega
 refine Yo ?_; refine Y0 ?_; refine Y2k ?_
 refine qg (.int .i64 (size : Int)) O13 ?_
 refine Y1n ?_
 refine qg (.int .i64 ((k + size : Nat) : Int)) O5 ?_
 refine qz (q_cut rfl rfl rfl O0 O0) rfl ?_
 have hrc := Reads.cut hr (i := k) (j := k + size) O0 O0 hc
 have hpl : ((bs.drop k).take size).length = k + size - k := by rw [List.length_take, List.length_drop]; omega
 have hrc' : Reads w0 l 1 (adv sl (k * 1) (Nat.beq c k)) ((bs.drop k).take size).length (bytesV ((bs.drop k).take size)) := by
  rw [hpl]
  have : bytesV ((bs.drop k).take size) = ((bytesV bs).drop (k * 1)).take ((k + size - k) * 1) := by
   unfold bytesV
   rw [List.map_take, List.map_drop]
   congr 1
   ·omega
   ·congr 1; omega
  rw [this]
  exact hrc
 show Rn _ _ _ _ _ (upd _ _ (.slice (adv sl (k * 1) (Nat.beq c k)) (k + size - k) (c - k))) _
 rw [← hpl]
 refine qz (qe rfl) rfl ?_
 generalize hP : (bs.drop k).take size = P at hpl hrc' hdef
 refine qw rfl (jy h rfl fun b w h => ?_)
 replace h : St w0 (RrS b (adv sl (k * 1) (Nat.beq c k)) (c - k) P ⟨bitsB P, false⟩ :: l) w := by
  show St w0 (RrPt b (adv sl (k * 1) (Nat.beq c k)) P.length (c - k) (8 * P.length - (bitsB P).length) false :: l) w
  rw [bitsB_len, Nat.sub_self]; exact h
 refine Y0 ?_
 refine qw rfl (qj rfl (ref4_GetTimes (n : Int) (Suf.all P) O0 hrc' h) ?_)
 rw [askN_nat hn16]
 simp only [Int.toNat_natCast] at hdef
 generalize hX : timesDec n ⟨bitsB P, false⟩ = X at hdef
 rintro _ w ⟨ta, tc, s', rfl, hti, h⟩
 refine Y14 ?_
 have hrt : Reads w0 l 1 (adv sl ((k + size) * 1) (Nat.beq c (k + size))) (bs.drop (k + size)).length (bytesV (bs.drop (k + size))) := by
  have := Reads.tail hr (i := k + size) hsk hc
  rw [List.length_drop]
  have e1 : bytesV (bs.drop (k + size)) = (bytesV bs).drop ((k + size) * 1) := by
   unfold bytesV
   rw [List.map_drop]
   congr 1; omega
  rw [e1]
  exact this
 refine Y4 ?_; refine Y27 ?_; refine Y2k ?_
 refine qg (.int .i64 (size : Int)) O13 ?_
 refine Y1n ?_
 refine qg (.int .i64 ((k + size : Nat) : Int)) O5 ?_
 refine qz (jh (i := k + size) rfl rfl hsk) rfl ?_
 show Rn _ _ _ _ _ (upd _ _ (.slice (adv sl ((k + size) * 1) (Nat.beq c (k + size))) (bs.length - (k + size)) (c - (k + size)))) _
 rw [← List.length_drop]
 refine Y0 ?_
 refine qw rfl (qj rfl (ref10_read tag hn16 O15 O15 (hrt.more [_, _]) h) ?_)
 rintro _ w ⟨ok, va, vc, vs, rfl, hv64, hvt, h⟩
 refine Y14 ?_
 refine qo (Γ := List Int × RS) (fun q => [(0, .int .i64 tag), (1, .slice sl bs.length c), (2, .int .i64 n), (10, .slice ta q.1.length tc), (12, .slice va vs.length vc)]) (fun q w => X = some q ∧ ok = true ∧ vs.length = n ∧ St w0 (OwnU va vc vs :: OwnT64 ta tc q.1 :: RrS b (adv sl (k * 1) (Nat.beq c k)) (c - k) P s' :: l) w) ?_ ?_
 ·have bad2 : ∀ {w : World}, (X = none ∨ ok = false ∨ vs.length ≠ n) → St w0 l w → _ := fun hb h => bad (none_of fun D hD => by
   obtain ⟨_, _, _, _, x', v, e1, e2, e3, e4, _⟩ := hdef D hD
   obtain ⟨t1, t2⟩ := hvt v e3 e2 e4
   rcases hb with hb | hb | hb
   ·rw [hb] at e1; cases e1
   ·rw [hb] at t1; cases t1
   ·rw [t2] at hb; exact hb e2) h
  refine Y1 ?_
  cases X with
  | none =>
   refine Y1l ?_; refine Y3d ?_; refine Y2g ?_; refine Y2g ?_; refine Y2e ?_
   exact qq (qv (bq2 (bad2 (.inl rfl) h.drop.drop.drop)))
  | some x =>
   have hxl := timesDec_len hX
   cases ok with
   | false =>
    refine Y1l ?_; refine Y2i ?_; refine Y2i ?_; refine Y1j ?_; refine Y8 ?_; refine Y2g ?_; refine Y2g ?_; refine Y2e ?_
    exact qq (qv (bq2 (bad2 (.inr (.inl rfl)) h.drop.drop.drop)))
   | true =>
    refine Y1l ?_; refine Y2i ?_; refine Y2i ?_; refine Y1j ?_; refine Y8 ?_; refine Y36 ?_; refine Y1k ?_
    refine qz (qh (v' := .bool false) (q_neq rfl rfl) (by rw [show ((Option.map Prod.fst (some x)).getD []).length = n from hxl]; simp)) rfl ?_
    refine Y8 ?_; refine Y36 ?_; refine Y1k ?_; refine Y2y ?_; refine Y8 ?_
    refine qq (qy ((vs.length : Int) != (n : Int)) rfl (fun hc1 => ?_) (fun hc1 => ?_))
    ·refine Y26 ?_
     exact qq (qv (bq2 (bad2 (.inr (.inr (by rw [bne_iff_ne] at hc1; omega))) h.drop.drop.drop)))
    ·exact qr ⟨x, ⟨rfl, rfl, rfl, rfl, rfl, trivial⟩, rfl, rfl, by rw [bne_eq_false_iff_eq] at hc1; omega, h⟩
 clear h
 rintro ⟨ts, s2⟩ w e ⟨hX2, rfl, hvl, h⟩
 dsimp only at h ⊢
 rw [hX2] at hX hdef hti
 have htl : ts.length = n := timesDec_len hX
 replace hti : ∀ t ∈ ts, I64 t := hti
 replace hv64 := hv64 rfl
 have hzl : (zipS ts vs).length = n := by rw [zipS_len _ _ O0, htl]
 have hzw := zipS_wf ts vs hti hv64
 refine Yn ?_
 refine qo (Γ := Option Addr × Nat) (fun q => [(0, .int .i64 tag), (1, .slice sl bs.length c), (14, .slice q.1 (zipS ts vs).length q.2)]) (fun q w => St w0 (OwnS q.1 q.2 (zipS ts vs) :: l) w) ?_ ?_
 ·refine Y17 ?_
  refine qc (Γ := Nat × Option Addr × Nat) (fun q => [(0, .int .i64 tag), (1, .slice sl bs.length c), (2, .int .i64 n), (10, .slice ta ts.length tc), (12, .slice va vs.length vc), (14, .slice q.2.1 (zipS (ts.take q.1) (vs.take q.1)).length q.2.2), (15, .int .i64 q.1)])
   (fun q w => q.1 ≤ n ∧ St w0 (OwnS q.2.1 q.2.2 (zipS (ts.take q.1) (vs.take q.1)) :: OwnU va vc vs :: OwnT64 ta tc ts :: l) w) (fun q => n - q.1) (0, none, 0) ⟨rfl, rfl, rfl, rfl, rfl, rfl, rfl, trivial⟩ ⟨Nat.zero_le _, St.ownNil _ _ (h.x [2])⟩ ?_
  clear h
  rintro ⟨i, a, c1⟩ w e ⟨hi, h⟩
  dsimp only at hi h ⊢
  refine Y31 ?_; refine Ys ?_
  by_cases hlt : i < n
  ·refine qg (.bool true) O10 ?_
   refine Y1z ?_
   have hgt := List.getElem?_eq_getElem (show i < ts.length by omega)
   generalize ts[i]'O0 = t at hgt
   have hgv := List.getElem?_eq_getElem (show i < vs.length by omega)
   generalize vs[i]'O0 = x at hgv
   have hstep := zipS_snoc ts vs i t x hgt hgv
   have hzi : (zipS (ts.take i) (vs.take i)).length = i := by rw [zipS_len _ _ (by rw [take_len1 O0, take_len1 O0]), take_len1 O0]
   obtain ⟨bt, htsl⟩ := (h.f 2).own_some O0
   obtain ⟨bv, hvsl⟩ := (h.f 1).own_some O0
   refine Y1y ?_
   have hct : ∀ {w'}, (∃ L, St w0 (L ++ (OwnU va vc vs :: OwnT64 ta tc ts :: l)) w') → w'.cell? ⟨bt, i, none⟩ = some (.int .i64 t) := fun ⟨L, h'⟩ => by
    have := (htsl ▸ (h'.drops.f 1).own_rd).cell (i64V_get hgt); simpa using this
   have hcv : ∀ {w'}, (∃ L, St w0 (L ++ (OwnU va vc vs :: OwnT64 ta tc ts :: l)) w') → w'.cell? ⟨bv, i, none⟩ = some (.int .u64 x) := fun ⟨L, h'⟩ => by
    have := (hvsl ▸ (h'.drops.f 0).own_rd).cell (u64V_get hgv); simpa using this
   refine j7 [0, 1, 2, 3, 4, 5, 6, 7, 8, 9, 10, 11, 12] none (fun w => ∃ L, St w0 (L ++ (OwnU va vc vs :: OwnT64 ta tc ts :: l)) w) O2 O2 ?_
   replace h := h.drew
   generalize w.drew = w at h
   have hs := h
   replace h : ∃ L, St w0 (L ++ (OwnU va vc vs :: OwnT64 ta tc ts :: l)) w := ⟨[_], hs⟩
   refine Y1i ?_; refine Yq ?_
   refine cpv rfl rfl rfl rfl h rfl (qn (b := bt) (o := 0) (m := ts.length) (c := tc) (j := i) (o' := i) (by rw [← htsl]; rfl) rfl rfl O0 O7) ?_
   refine qu rfl rfl rfl rfl h (fun w h => qm rfl (qx (v := .int .i64 t) rfl (hct h))) ?_
   refine Yq ?_
   refine cpv rfl rfl rfl rfl h rfl (qn (b := bv) (o := 0) (m := vs.length) (c := vc) (j := i) (o' := i) (by rw [← hvsl]; rfl) rfl rfl O0 O7) ?_
   refine qu rfl rfl rfl rfl h (fun w h => qm rfl (qx (v := .int .u64 x) rfl (hcv h))) ?_
   refine cpv rfl rfl rfl rfl h rfl (qe (r := (Smp.mk t x).cells) rfl) ?_
   refine Y1m ?_
   refine qt 10 rfl rfl rfl rfl ?_
   refine (q5 (r := smpsV [Smp.mk t x]) hs rfl rfl rfl fun b2 w hs => ?_)
   replace h : ∃ L, St w0 (L ++ (OwnU va vc vs :: OwnT64 ta tc ts :: l)) w := ⟨[_, _], hs⟩
   refine ⟨fun _ => h, ?_⟩
   refine Yz ?_
   refine qt 11 rfl rfl rfl rfl ?_
   refine (qa (ys := smpsV [Smp.mk t x]) (zs := smpsV (zipS (ts.take (i + 1)) (vs.take (i + 1)))) (m3 := (zipS (ts.take (i + 1)) (vs.take (i + 1))).length) (hs.f 1) rfl rfl ⟨rfl, .inr ⟨b2, 0, rfl, qp (hs.b 0 rfl) rfl⟩⟩ (smps_one _) (by rw [hstep]; simp) (by rw [hstep]; simp [smpsV]) O21 O21 rfl fun a2 c2 w _ hs => ?_)
   replace h : ∃ L, St w0 (L ++ (OwnU va vc vs :: OwnT64 ta tc ts :: l)) w := ⟨[_, _], hs⟩
   refine ⟨fun _ => h, ?_⟩
   refine Y1t ?_
   refine qi ?_
   refine Y1b ?_
   refine qg (.int .i64 ((i + 1 : Nat) : Int)) O5 ?_
   refine Y2 ?_
   exact qq ⟨(i + 1, a2, c2), ⟨rfl, rfl, rfl, rfl, rfl, rfl, rfl, trivial⟩, ⟨hlt, (hs.f 1).drop⟩, by dsimp only; omega⟩
  ·refine qg (.bool false) O11 ?_
   refine Y11 ?_
   have hz : zipS (ts.take i) (vs.take i) = zipS ts vs := by rw [show i = n by omega, List.take_of_length_le O0, List.take_of_length_le O0]
   rw [hz] at h
   refine qd ⟨(a, c1), ⟨rfl, rfl, ?_, trivial⟩, h.x [1, 2]⟩
   show Value.slice _ _ _ = Value.slice _ _ _
   rw [hz]
 clear h
 rintro ⟨a, c1⟩ w e h
 dsimp only at h ⊢
 have hdef2 : suitDec tag bs (n : Int) = if suitEnc tag (zipS ts vs) = some bs then some (zipS ts vs) else none := by
  by_cases hE : suitEnc tag (zipS ts vs) = some bs
  ·have := htold _ hzw hE
   rw [hzl] at this
   rw [if_pos hE, this]
  ·rw [if_neg hE]
   refine none_of fun D hD => ?_
   obtain ⟨_, _, _, _, x', v, e1, e2, e3, e4, e5, e6, _⟩ := hdef D hD
   obtain ⟨_, t2⟩ := hvt v e3 e2 e4
   cases e1
   rw [← t2] at e5
   rw [e5] at e6
   exact hE e6
 refine Y4 ?_; refine Yp ?_
 refine qw rfl (qj rfl (ref10_Encode tag hzw O0 Reads.own h) ?_)
 rintro _ w ⟨ea, ec, rfl, h⟩
 refine Y14 ?_
 generalize zipS ts vs = Z at hdef2 h hzl hzw ⊢
 refine Y44 ?_
 cases hE : suitEnc tag Z with
 | none =>
  rw [hE] at hdef2
  refine Y1l ?_; refine Y16 ?_; refine Y2c ?_
  exact qq (qv (bq2 (bad (by rw [hdef2]; rfl) h.drop.drop)))
 | some d =>
  rw [hE] at hdef2 h
  refine Y1l ?_; refine Y2f ?_
  refine qz (q_btos (bs := d) rfl h.own_rd) rfl ?_
  refine Y7 ?_; refine Y3v ?_
  refine qz (q_btos (bs := bs) rfl ((hr.more [_, _]).at_ h)) rfl ?_
  refine Y7 ?_; refine qz (q_strne rfl rfl) rfl ?_
  rw [strB_eq]
  refine Y8 ?_
  refine qq (qy (!decide (d = bs)) rfl (fun hc2 => ?_) (fun hc2 => ?_))
  ·refine Y26 ?_
   exact qq (qv (bq2 (bad (by rw [hdef2, if_neg O32]) h.drop.drop)))
  ·refine Yh ?_; refine Y5 ?_; refine Y1f ?_
   refine qq (qv (bq2 ?_))
   rw [hdef2, if_pos O32]
   exact ⟨a, c1, rfl, fun L hL => by cases hL; exact ⟨by omega, hzw⟩, h.drop⟩
end
end Go.Proofs.YtnnehiiblfmpnaaGreatDoor

namespace Go.Hw
theorem getVs3 (r : List UInt8) : getVs 3 r = if (vget r).2 = 0 ∨ (vget (r.drop (vget r).2)).2 = 0 ∨ (vget ((r.drop (vget r).2).drop (vget (r.drop (vget r).2)).2)).2 = 0 then none
  else some ([(vget r).1, (vget (r.drop (vget r).2)).1, (vget ((r.drop (vget r).2).drop (vget (r.drop (vget r).2)).2)).1], ((r.drop (vget r).2).drop (vget (r.drop (vget r).2)).2).drop (vget ((r.drop (vget r).2).drop (vget (r.drop (vget r).2)).2)).2) := by
 rw [getVs, getVs, getVs, getVs]
 by_cases h0 : (vget r).2 = 0
 ·rw [if_pos h0, if_pos (.inl h0)]
 rw [if_neg h0]
 by_cases h1 : (vget (r.drop (vget r).2)).2 = 0
 ·rw [if_pos h1, if_pos (.inr (.inl h1))]; rfl
 rw [if_neg h1]
 by_cases h2 : (vget ((r.drop (vget r).2).drop (vget (r.drop (vget r).2)).2)).2 = 0
 ·rw [if_pos h2, if_pos (.inr (.inr h2))]; rfl
 rw [if_neg h2, if_neg (by rintro (h | h | h); exact h0 h; exact h1 h; exact h2 h)]
 rfl
end Go.Hw
namespace Go.Proofs.YtnnehiiblfmpnaaGreatDoor
open Go.Hw
set_option maxHeartbeats 4000000
set_option maxRecDepth 100000
section
variable {w0 w : World} {l : List HProp}
abbrev HeadR (bs : List UInt8) (v : Value) : Prop :=
 (headDec bs = none ∧ v = .tuple [.agg hdZ.toArray, .int .i64 0, .bool false].toArray) ∨
 ∃ hd k, headDec bs = some (hd, bs.drop k) ∧ v = .tuple [.agg (hdC hd).toArray, .int .i64 (k : Nat), .bool true].toArray ∧ k ≤ bs.length ∧ hd.count ≤ 65535 ∧ hd.tag ≤ 6
theorem ref10_head {sl : Option Addr} {c : Nat} {bs : List UInt8} (hn : bs.length ≤ 140737488355328) (hc : bs.length ≤ c) (hr : Reads w0 l 1 sl bs.length (bytesV bs)) (h : St w0 l w) :
  Ret Tryz.prog 68 [.slice sl bs.length c] w fun v w' => HeadR bs v ∧ St w0 l w' := by
 refine enter Tryz.func68 rfl Tryz.results68 Tryz.ntmps68 rfl ?_
 refine Y1 ?_
 refine qw rfl (q7 h fun b2 w h => ?_)
 replace h : St w0 (pt b2 (.cells hdZ.toArray 141 (0, 0)) :: l) w := h
 refine Yt ?_
 cases bs with
 | nil =>
  refine Y1w ?_
  refine qz (qh (v' := .bool true) (jg rfl rfl) rfl) rfl ?_
  refine Y2g ?_; refine Y2g ?_; refine Y28 ?_
  refine qz (qe (r := hdZ) rfl) rfl ?_
  refine qw rfl (qb (vs := hdZ) 0 h rfl rfl rfl rfl rfl rfl rfl fun w h => ?_)
  replace h : St w0 (pt b2 (.cells hdZ.toArray 141 (0, 0)) :: l) w := h
  refine Yt ?_
  exact qv (bqS3 (l := hdZ) rfl rfl (qp (h.b 0 rfl) rfl) ⟨.inl ⟨rfl, rfl⟩, h.drop⟩)
 | cons ch r =>
 have hdef : headDec (ch :: r) = _ := rfl
 conv at hdef => rhs; unfold headDec
 dsimp only at hdef
 have hlc : (ch :: r).length = r.length + 1 := rfl
 obtain ⟨b, o, hsl⟩ := (hr.cons.at_ h).some O7
 have hc0 : ∀ {M : List HProp} {w'}, St w0 (M ++ l) w' → w'.cell? ⟨b, o, none⟩ = some (.int .u8 ch.toNat) := fun {M} {w'} h' => by
  have := (hsl ▸ hr M _ h').cell (bytesV_get (bs := ch :: r) (j := 0) rfl); simpa using this
 refine qo (Γ := Unit) (fun _ => [(0, .slice sl (ch :: r).length c), (2, .pointer (some ⟨b2, 0, none⟩))]) (fun _ w => ¬ (ch.toNat < 1 ∨ 6 < ch.toNat) ∧ St w0 (pt b2 (.cells hdZ.toArray 141 (0, 0)) :: l) w) ?_ ?_
 ·refine Y21 ?_
  refine qz (qh (v' := .bool false) (jg rfl rfl) (by congr 1)) rfl ?_
  refine Y2f ?_
  refine qz (qn (b := b) (o := o) (m := (ch :: r).length) (c := c) (j := 0) (o' := o) O8 rfl rfl O7 O7) rfl ?_
  refine Y7 ?_
  refine qz (qx (v := .int .u8 ch.toNat) rfl (hc0 (M := [_]) h)) rfl ?_
  refine Y7 ?_
  by_cases g1 : ch.toNat < 1
  ·refine qz (qh (v' := .bool true) (gt rfl rfl) O17) rfl ?_
   refine Y8 ?_; refine Y2g ?_; refine Y28 ?_
   refine qz (qe (r := hdZ) rfl) rfl ?_
   refine qw rfl (qb (vs := hdZ) 0 h rfl rfl rfl rfl rfl rfl rfl fun w h => ?_)
   replace h : St w0 (pt b2 (.cells hdZ.toArray 141 (0, 0)) :: l) w := h
   refine Yt ?_
   exact qv (bqS3 (l := hdZ) rfl rfl (qp (h.b 0 rfl) rfl) ⟨.inl ⟨by rw [hdef, if_pos (.inl g1)], rfl⟩, h.drop⟩)
  refine qz (qh (v' := .bool false) (gt rfl rfl) O17) rfl ?_
  refine Y8 ?_; refine Y2f ?_
  refine qz (qn (b := b) (o := o) (m := (ch :: r).length) (c := c) (j := 0) (o' := o) O8 rfl rfl O7 O7) rfl ?_
  refine Y7 ?_
  refine qz (qx (v := .int .u8 ch.toNat) rfl (hc0 (M := [_]) h)) rfl ?_
  refine Y4t ?_
  refine qq (qy (decide ((ch.toNat : Int) > 6)) rfl (fun hc1 => ?_) (fun hc1 => ?_))
  ·refine Y1 ?_
   refine qz (qe (r := hdZ) rfl) rfl ?_
   refine qw rfl (qb (vs := hdZ) 0 h rfl rfl rfl rfl rfl rfl rfl fun w h => ?_)
   replace h : St w0 (pt b2 (.cells hdZ.toArray 141 (0, 0)) :: l) w := h
   refine Yt ?_
   exact qv (bqS3 (l := hdZ) rfl rfl (qp (h.b 0 rfl) rfl) ⟨.inl ⟨by rw [hdef, if_pos (.inr O24)], rfl⟩, h.drop⟩)
  ·exact qr ⟨(), ⟨rfl, rfl, trivial⟩, by simp at hc1; omega, h⟩
 clear h
 rintro _ w e ⟨hcond, h⟩
 rw [if_neg hcond, getVs3] at hdef
 have hrt := hr.tailB (i := 1) O0 hc
 rw [show (ch :: r).drop 1 = r from rfl] at hrt
 have hk0 := ja r
 have hv0 := jp r
 refine Y5 ?_
 refine qz (jh (i := 1) rfl rfl O0) rfl ?_
 show Rn _ _ _ _ _ (upd _ _ (.slice (adv sl (1 * 1) (Nat.beq c 1)) r.length (c - 1))) _
 refine qw rfl (qj rfl (ref1_Get h hrt.cons O0) ?_)
 rintro _ w ⟨rfl, h⟩
 refine Y2l ?_
 generalize (vget r).1 = v0 at hv0 hdef ⊢
 generalize (vget r).2 = k0 at hk0 hdef ⊢
 have hrt1 := hr.tailB (i := 1 + k0) O0 hc
 rw [show (ch :: r).drop (1 + k0) = r.drop k0 by rw [Nat.add_comm]; rfl] at hrt1
 have hk1 := ja (r.drop k0)
 have hv1 := jp (r.drop k0)
 refine Yo ?_; refine Y1n ?_
 refine qg (.int .i64 ((1 + k0 : Nat) : Int)) O5 ?_
 refine qz (jh (i := 1 + k0) rfl rfl O0) rfl ?_
 show Rn _ _ _ _ _ (upd _ _ (.slice (adv sl ((1 + k0) * 1) (Nat.beq c (1 + k0))) (r.length + 1 - (1 + k0)) (c - (1 + k0)))) _
 rw [show r.length + 1 - (1 + k0) = (r.drop k0).length by rw [List.length_drop]; omega]
 refine qw rfl (qj rfl (ref1_Get h hrt1.cons O15) ?_)
 rintro _ w ⟨rfl, h⟩
 refine Y2l ?_
 generalize (vget (r.drop k0)).1 = v1 at hv1 hdef ⊢
 generalize (vget (r.drop k0)).2 = k1 at hk1 hdef ⊢
 rw [List.length_drop] at hk1
 have hrt2 := hr.tailB (i := 1 + k0 + k1) O0 hc
 have ed : (ch :: r).drop (1 + k0 + k1) = (r.drop k0).drop k1 := by rw [List.drop_drop, show 1 + k0 + k1 = (k0 + k1) + 1 by omega]; rfl
 rw [ed] at hrt2
 have hk2 := ja ((r.drop k0).drop k1)
 have hv2 := jp ((r.drop k0).drop k1)
 refine Yo ?_; refine Y1n ?_
 refine qg (.int .i64 ((1 + k0 : Nat) : Int)) O5 ?_
 refine Y3h ?_
 refine qg (.int .i64 ((1 + k0 + k1 : Nat) : Int)) (by rw [wrap64 O0 O0]; exact congrArg (Value.int .i64) O0) ?_
 refine qz (jh (i := 1 + k0 + k1) rfl rfl O0) rfl ?_
 show Rn _ _ _ _ _ (upd _ _ (.slice (adv sl ((1 + k0 + k1) * 1) (Nat.beq c (1 + k0 + k1))) (r.length + 1 - (1 + k0 + k1)) (c - (1 + k0 + k1)))) _
 rw [show r.length + 1 - (1 + k0 + k1) = ((r.drop k0).drop k1).length by rw [List.length_drop, List.length_drop]; omega]
 refine qw rfl (qj rfl (ref1_Get h hrt2.cons (by rw [List.length_drop, List.length_drop]; omega)) ?_)
 rintro _ w ⟨rfl, h⟩
 refine Y2l ?_
 generalize (vget ((r.drop k0).drop k1)).1 = v2 at hv2 hdef ⊢
 generalize (vget ((r.drop k0).drop k1)).2 = k2 at hk2 hdef ⊢
 rw [List.length_drop, List.length_drop] at hk2
 have hch := ch.toNat_lt
 refine qo (Γ := Nat) (fun b10 => [(2, .pointer (some ⟨b2, 0, none⟩)), (5, .int .u64 v0), (6, .int .i64 k0), (8, .int .i64 k1), (10, .int .i64 k2), (11, .pointer (some ⟨b10, 0, none⟩))])
  (fun b10 w => St w0 (pt b10 (.cells (hdC ⟨ch.toNat, min v0 65536, sg (zagU v1), sg (zagU v2)⟩).toArray 141 (0, 0)) :: pt b2 (.cells hdZ.toArray 141 (0, 0)) :: l) w) ?_ ?_
 ·have hcc : ∀ {w'}, (∃ M, St w0 (M ++ (pt b2 (.cells hdZ.toArray 141 (0, 0)) :: l)) w') → w'.cell? ⟨b, o, none⟩ = some (.int .u8 ch.toNat) := fun ⟨M, h'⟩ => hc0 (M := []) ((h'.drops).drop)
  refine j7 [0, 1, 2, 3, 4, 5, 6, 7, 8, 9, 10, 11, 12, 13] (some 13) (fun w => ∃ M, St w0 (M ++ (pt b2 (.cells hdZ.toArray 141 (0, 0)) :: l)) w) O2 O2 ?_
  replace h := h.drew
  generalize w.drew = w at h
  have hs := h
  replace h : ∃ M, St w0 (M ++ (pt b2 (.cells hdZ.toArray 141 (0, 0)) :: l)) w := ⟨[], hs⟩
  refine Y1i ?_
  refine cpv rfl rfl rfl rfl h rfl (qn (b := b) (o := o) (m := (ch :: r).length) (c := c) (j := 0) (o' := o) O8 rfl rfl O7 O7) ?_
  refine qu rfl rfl rfl rfl h (fun w h => qm rfl (qx (v := .int .u8 ch.toNat) rfl (hcc h))) ?_
  refine cpv rfl rfl rfl rfl h rfl (qh (v' := .int .i64 (ch.toNat : Int)) (jb rfl) O13) ?_
  refine Yj ?_
  refine cpv rfl rfl rfl rfl h rfl (qh (v' := .int .u64 ((min v0 65536 : Nat) : Int)) (q_min rfl rfl) O20) ?_
  refine cpv rfl rfl rfl rfl h rfl (qh (v' := .int .i64 ((min v0 65536 : Nat) : Int)) (jb rfl) O13) ?_
  refine Yj ?_; refine Yl ?_; refine Yj ?_; refine Y13 ?_
  refine cur_two 8 12 rfl rfl rfl rfl rfl rfl ?_ ?_
  ·refine (qj rfl (ref1_Zag hv1 hs) ?_)
   rintro _ w ⟨rfl, hs⟩
   replace h : ∃ M, St w0 (M ++ (pt b2 (.cells hdZ.toArray 141 (0, 0)) :: l)) w := ⟨[], hs⟩
   refine ⟨fun _ => h, ?_⟩
   refine Y13 ?_
   refine cur_two 10 12 rfl rfl rfl rfl rfl rfl ?_ ?_
   ·refine (qj rfl (ref1_Zag hv2 hs) ?_)
    rintro _ w ⟨rfl, hs⟩
    replace h : ∃ M, St w0 (M ++ (pt b2 (.cells hdZ.toArray 141 (0, 0)) :: l)) w := ⟨[], hs⟩
    refine ⟨fun _ => h, ?_⟩
    refine cpv rfl rfl rfl rfl h rfl (qe (r := hdC ⟨ch.toNat, min v0 65536, sg (zagU v1), sg (zagU v2)⟩) rfl) ?_
    refine Yz ?_
    refine qt 12 rfl rfl rfl rfl ?_
    refine (q7 hs fun b10 w hs => ?_)
    replace h : ∃ M, St w0 (M ++ (pt b2 (.cells hdZ.toArray 141 (0, 0)) :: l)) w := ⟨[_], hs⟩
    refine ⟨fun _ => h, ?_⟩
    refine Yl ?_
    refine jd 13 rfl rfl rfl ?_
    refine qb (vs := hdC ⟨ch.toNat, min v0 65536, sg (zagU v1), sg (zagU v2)⟩) 0 hs rfl rfl rfl rfl rfl rfl rfl fun w hs => ?_
    exact ⟨b10, ⟨rfl, rfl, rfl, rfl, rfl, rfl, trivial⟩, hs⟩
   ·refine (q7 hs fun b10 w hs => ?_)
    replace h : ∃ M, St w0 (M ++ (pt b2 (.cells hdZ.toArray 141 (0, 0)) :: l)) w := ⟨[_], hs⟩
    refine ⟨fun _ => h, ?_⟩
    refine Y1m ?_
    refine qt 10 rfl rfl rfl rfl ?_
    refine (qj rfl (ref1_Zag hv2 hs) ?_)
    rintro _ w ⟨rfl, hs⟩
    replace h : ∃ M, St w0 (M ++ (pt b2 (.cells hdZ.toArray 141 (0, 0)) :: l)) w := ⟨[_], hs⟩
    refine ⟨fun _ => h, ?_⟩
    refine cpv rfl rfl rfl rfl h rfl (qe (r := hdC ⟨ch.toNat, min v0 65536, sg (zagU v1), sg (zagU v2)⟩) rfl) ?_
    refine Yl ?_
    refine jd 13 rfl rfl rfl ?_
    refine qb (vs := hdC ⟨ch.toNat, min v0 65536, sg (zagU v1), sg (zagU v2)⟩) 0 hs rfl rfl rfl rfl rfl rfl rfl fun w hs => ?_
    exact ⟨b10, ⟨rfl, rfl, rfl, rfl, rfl, rfl, trivial⟩, hs⟩
  ·refine (q7 hs fun b10 w hs => ?_)
   replace h : ∃ M, St w0 (M ++ (pt b2 (.cells hdZ.toArray 141 (0, 0)) :: l)) w := ⟨[_], hs⟩
   refine ⟨fun _ => h, ?_⟩
   refine Y13 ?_
   refine qt 8 rfl rfl rfl rfl ?_
   refine (qj rfl (ref1_Zag hv1 hs) ?_)
   rintro _ w ⟨rfl, hs⟩
   replace h : ∃ M, St w0 (M ++ (pt b2 (.cells hdZ.toArray 141 (0, 0)) :: l)) w := ⟨[_], hs⟩
   refine ⟨fun _ => h, ?_⟩
   refine Y1m ?_
   refine qt 10 rfl rfl rfl rfl ?_
   refine (qj rfl (ref1_Zag hv2 hs) ?_)
   rintro _ w ⟨rfl, hs⟩
   replace h : ∃ M, St w0 (M ++ (pt b2 (.cells hdZ.toArray 141 (0, 0)) :: l)) w := ⟨[_], hs⟩
   refine ⟨fun _ => h, ?_⟩
   refine cpv rfl rfl rfl rfl h rfl (qe (r := hdC ⟨ch.toNat, min v0 65536, sg (zagU v1), sg (zagU v2)⟩) rfl) ?_
   refine Yl ?_
   refine jd 13 rfl rfl rfl ?_
   refine qb (vs := hdC ⟨ch.toNat, min v0 65536, sg (zagU v1), sg (zagU v2)⟩) 0 hs rfl rfl rfl rfl rfl rfl rfl fun w hs => ?_
   exact ⟨b10, ⟨rfl, rfl, rfl, rfl, rfl, rfl, trivial⟩, hs⟩
 clear h
 rintro b10 w e h
 have bad : (k0 = 0 ∨ k1 = 0 ∨ k2 = 0 ∨ v0 < 1 ∨ 65535 < v0 ∨ sg (zagU v2) < sg (zagU v1)) → headDec (ch :: r) = none := by
  intro hb
  rw [hdef]
  by_cases hz : k0 = 0 ∨ k1 = 0 ∨ k2 = 0
  ·rw [if_pos hz]
  ·rw [if_neg hz]
   dsimp only
   rw [show [v0, v1, v2].getD 0 0 = v0 from rfl, show [v0, v1, v2].getD 1 0 = v1 from rfl, show [v0, v1, v2].getD 2 0 = v2 from rfl, if_pos O0]
 refine qo (Γ := Unit) (fun _ => [(2, .pointer (some ⟨b2, 0, none⟩)), (6, .int .i64 k0), (8, .int .i64 k1), (10, .int .i64 k2), (11, .pointer (some ⟨b10, 0, none⟩))])
  (fun _ w => ¬ (k0 = 0 ∨ k1 = 0 ∨ k2 = 0 ∨ v0 < 1 ∨ 65535 < v0 ∨ sg (zagU v2) < sg (zagU v1)) ∧ St w0 (pt b10 (.cells (hdC ⟨ch.toNat, min v0 65536, sg (zagU v1), sg (zagU v2)⟩).toArray 141 (0, 0)) :: pt b2 (.cells hdZ.toArray 141 (0, 0)) :: l) w) ?_ ?_
 ·refine Y4 ?_
  by_cases g1 : k0 = 0
  ·refine qz (qh (v' := .bool true) (jg rfl rfl) O37) rfl ?_
   refine Y4f ?_; refine Y4f ?_; refine Y16 ?_; refine Y3q ?_
   refine qz (qe (r := hdZ) rfl) rfl ?_
   refine qw rfl (qb (vs := hdZ) 1 h rfl rfl rfl rfl rfl rfl rfl fun w h => ?_)
   replace h := h.drop
   replace h : St w0 (pt b2 (.cells hdZ.toArray 141 (0, 0)) :: l) w := h
   refine Y2 ?_; refine Ye ?_
   exact qq (qv (bqS3 (l := hdZ) rfl rfl (qp (h.b 0 rfl) rfl) ⟨.inl ⟨bad (.inl g1), rfl⟩, h.drop⟩))
  refine qz (qh (v' := .bool false) (jg rfl rfl) O3) rfl ?_
  refine Y10 ?_
  by_cases g2 : k1 = 0
  ·refine qz (qh (v' := .bool true) (jg rfl rfl) (by rw [g2]; rfl)) rfl ?_
   refine Y8 ?_; refine Y4f ?_; refine Y3d ?_; refine Y16 ?_; refine Y3q ?_
   refine qz (qe (r := hdZ) rfl) rfl ?_
   refine qw rfl (qb (vs := hdZ) 1 h rfl rfl rfl rfl rfl rfl rfl fun w h => ?_)
   replace h := h.drop
   replace h : St w0 (pt b2 (.cells hdZ.toArray 141 (0, 0)) :: l) w := h
   refine Y2 ?_; refine Ye ?_
   exact qq (qv (bqS3 (l := hdZ) rfl rfl (qp (h.b 0 rfl) rfl) ⟨.inl ⟨bad (.inr (.inl g2)), rfl⟩, h.drop⟩))
  refine qz (qh (v' := .bool false) (jg rfl rfl) O3) rfl ?_
  refine Y2r ?_
  by_cases g3 : k2 = 0
  ·refine qz (qh (v' := .bool true) (jg rfl rfl) (by rw [g3]; rfl)) rfl ?_
   refine Y8 ?_; refine Y4f ?_; refine Y16 ?_; refine Y3q ?_
   refine qz (qe (r := hdZ) rfl) rfl ?_
   refine qw rfl (qb (vs := hdZ) 1 h rfl rfl rfl rfl rfl rfl rfl fun w h => ?_)
   replace h := h.drop
   replace h : St w0 (pt b2 (.cells hdZ.toArray 141 (0, 0)) :: l) w := h
   refine Y2 ?_; refine Ye ?_
   exact qq (qv (bqS3 (l := hdZ) rfl rfl (qp (h.b 0 rfl) rfl) ⟨.inl ⟨bad (.inr (.inr (.inl g3))), rfl⟩, h.drop⟩))
  refine qz (qh (v' := .bool false) (jg rfl rfl) O3) rfl ?_
  refine Y2r ?_
  by_cases g4 : v0 < 1
  ·refine qz (qh (v' := .bool true) (gt rfl rfl) O10) rfl ?_
   refine Y8 ?_; refine Y3d ?_; refine Y16 ?_; refine Y3q ?_
   refine qz (qe (r := hdZ) rfl) rfl ?_
   refine qw rfl (qb (vs := hdZ) 1 h rfl rfl rfl rfl rfl rfl rfl fun w h => ?_)
   replace h := h.drop
   replace h : St w0 (pt b2 (.cells hdZ.toArray 141 (0, 0)) :: l) w := h
   refine Y2 ?_; refine Ye ?_
   exact qq (qv (bqS3 (l := hdZ) rfl rfl (qp (h.b 0 rfl) rfl) ⟨.inl ⟨bad (.inr (.inr (.inr (.inl g4)))), rfl⟩, h.drop⟩))
  refine qz (qh (v' := .bool false) (gt rfl rfl) O11) rfl ?_
  refine Y2r ?_
  by_cases g5 : 65535 < v0
  ·refine qz (qh (v' := .bool true) (gn rfl rfl) O10) rfl ?_
   refine Y8 ?_; refine Y16 ?_; refine Y3q ?_
   refine qz (qe (r := hdZ) rfl) rfl ?_
   refine qw rfl (qb (vs := hdZ) 1 h rfl rfl rfl rfl rfl rfl rfl fun w h => ?_)
   replace h := h.drop
   replace h : St w0 (pt b2 (.cells hdZ.toArray 141 (0, 0)) :: l) w := h
   refine Y2 ?_; refine Ye ?_
   exact qq (qv (bqS3 (l := hdZ) rfl rfl (qp (h.b 0 rfl) rfl) ⟨.inl ⟨bad (.inr (.inr (.inr (.inr (.inl g5))))), rfl⟩, h.drop⟩))
  refine qz (qh (v' := .bool false) (gn rfl rfl) O11) rfl ?_
  refine Y8 ?_; refine Y3i ?_
  refine qz (qk (v := .int .i64 (sg (zagU v1))) rfl (h.b 0 rfl) rfl) rfl ?_
  refine Y4b ?_
  refine qz (qk (v := .int .i64 (sg (zagU v2))) rfl (h.b 0 rfl) rfl) rfl ?_
  refine Y4t ?_
  refine qq (qy (decide (sg (zagU v1) > sg (zagU v2))) rfl (fun hc1 => ?_) (fun hc1 => ?_))
  ·refine Y1 ?_
   refine qz (qe (r := hdZ) rfl) rfl ?_
   refine qw rfl (qb (vs := hdZ) 1 h rfl rfl rfl rfl rfl rfl rfl fun w h => ?_)
   replace h := h.drop
   replace h : St w0 (pt b2 (.cells hdZ.toArray 141 (0, 0)) :: l) w := h
   refine Y2 ?_; refine Ye ?_
   exact qq (qv (bqS3 (l := hdZ) rfl rfl (qp (h.b 0 rfl) rfl) ⟨.inl ⟨bad (.inr (.inr (.inr (.inr (.inr (by rw [decide_eq_true_eq] at hc1; exact hc1)))))), rfl⟩, h.drop⟩))
  ·refine qr ⟨(), ⟨rfl, rfl, rfl, rfl, rfl, trivial⟩, ?_, h⟩
   rw [decide_eq_false_iff_not] at hc1
   omega
 clear h
 rintro _ w e ⟨hcond2, h⟩
 rw [if_neg O0] at hdef
 dsimp only at hdef
 rw [show [v0, v1, v2].getD 0 0 = v0 from rfl, show [v0, v1, v2].getD 1 0 = v1 from rfl, show [v0, v1, v2].getD 2 0 = v2 from rfl, show hdOf ch [v0, v1, v2] = ⟨ch.toNat, v0, sg (zagU v1), sg (zagU v2)⟩ from rfl, if_neg O0] at hdef
 rw [show min v0 65536 = v0 by omega] at h
 have edr : ((r.drop k0).drop k1).drop k2 = (ch :: r).drop (1 + k0 + k1 + k2) := by rw [← ed, List.drop_drop]
 rw [edr] at hdef
 refine Y1 ?_
 refine qz (qf (l := hdC ⟨ch.toNat, v0, sg (zagU v1), sg (zagU v2)⟩) rfl rfl (qp (h.b 0 rfl) rfl)) rfl ?_
 refine Y3h ?_
 refine qg (.int .i64 ((1 + k0 : Nat) : Int)) O5 ?_
 refine Y3h ?_
 refine qg (.int .i64 ((1 + k0 + k1 : Nat) : Int)) (by rw [wrap64 O0 O0]; exact congrArg (Value.int .i64) O0) ?_
 refine Y3h ?_
 refine qg (.int .i64 ((1 + k0 + k1 + k2 : Nat) : Int)) (by rw [wrap64 O0 O0]; exact congrArg (Value.int .i64) O0) ?_
 refine qw rfl (qb (vs := hdC ⟨ch.toNat, v0, sg (zagU v1), sg (zagU v2)⟩) 1 h rfl rfl rfl rfl rfl rfl rfl fun w h => ?_)
 replace h := h.drop
 replace h : St w0 (pt b2 (.cells (hdC ⟨ch.toNat, v0, sg (zagU v1), sg (zagU v2)⟩).toArray 141 (0, 0)) :: l) w := h
 refine Yt ?_
 exact qv (bqS3 (l := hdC ⟨ch.toNat, v0, sg (zagU v1), sg (zagU v2)⟩) rfl rfl (qp (h.b 0 rfl) rfl) ⟨.inr ⟨_, 1 + k0 + k1 + k2, hdef, rfl, by omega, by dsimp only; omega, by dsimp only; omega⟩, h.drop⟩)
end
end Go.Proofs.YtnnehiiblfmpnaaGreatDoor

namespace Go.Proofs.YtnnehiiblfmpnaaGreatDoor
open Go.Hw
set_option maxHeartbeats 4000000
set_option maxRecDepth 100000
section
variable {w0 w : World} {l : List HProp}
theorem ref10_Open {sl : Option Addr} {c : Nat} {bs : List UInt8} (hn : bs.length ≤ 140737488355328) (hc : bs.length ≤ c) (hr : Reads w0 l 1 sl bs.length (bytesV bs)) (h : St w0 l w) :
  Ret Tryz.prog 35 [.slice sl bs.length c] w fun v w' => ∃ a c', v = .tuple [.slice a (((chOpen bs).map Prod.fst).getD []).length c', .int .i64 ((((chOpen bs).map Prod.snd).getD 0 : Nat) : Int), .bool (chOpen bs).isSome].toArray ∧ (∀ L t, chOpen bs = some (L, t) → L.length ≤ 65535 ∧ ∀ s ∈ L, s.Wf) ∧ St w0 (OwnS a c' (((chOpen bs).map Prod.fst).getD []) :: l) w' := by
 have bad : ∀ {w : World}, chOpen bs = none → St w0 l w → ∃ a c', Value.tuple [.slice none 0 0, .int .i64 0, .bool false].toArray = .tuple [.slice a (((chOpen bs).map Prod.fst).getD []).length c', .int .i64 ((((chOpen bs).map Prod.snd).getD 0 : Nat) : Int), .bool (chOpen bs).isSome].toArray ∧ (∀ L t, chOpen bs = some (L, t) → L.length ≤ 65535 ∧ ∀ s ∈ L, s.Wf) ∧ St w0 (OwnS a c' (((chOpen bs).map Prod.fst).getD []) :: l) w := fun hb h => by
  rw [hb]
  exact ⟨none, 0, rfl, (fun _ _ h => by cases h), St.ownNil _ _ h⟩
 have hdef : chOpen bs = _ := rfl
 conv at hdef => rhs; unfold chOpen
 refine enter Tryz.func35 rfl Tryz.results35 Tryz.ntmps35 rfl ?_
 refine Y2p ?_; refine Yt ?_; refine Y5 ?_
 refine qw rfl (qj rfl (ref10_head hn hc hr h) ?_)
 clear h
 rintro _ w ⟨(⟨hd0, rfl⟩ | ⟨hd, k, hd0, rfl, hk, hcnt, htag⟩), h⟩
 ·rw [hd0] at hdef
  refine Y3k ?_
  refine qw rfl (q7 h fun b5 w h => ?_)
  refine qw rfl (qb (vs := hdZ) 0 h rfl rfl rfl rfl rfl rfl rfl fun w h => ?_)
  replace h := h.drop
  refine Yt ?_; refine Y1s ?_; refine Y16 ?_; refine Y2d ?_; refine Y3n ?_; refine Yt ?_
  exact qv (bq3 (bad hdef h))
 rw [hd0] at hdef
 dsimp only at hdef
 have hdl : (bs.drop k).length = bs.length - k := List.length_drop
 refine Y3k ?_
 refine qw rfl (q7 h fun b5 w h => ?_)
 refine qw rfl (qb (vs := hdC hd) 0 h rfl rfl rfl rfl rfl rfl rfl fun w h => ?_)
 replace h : St w0 (pt b5 (.cells (hdC hd).toArray 141 (0, 0)) :: l) w := h
 refine Yt ?_; refine Y1s ?_; refine Y36 ?_; refine Y1k ?_
 refine qz (qh (v' := .int .i64 ((k + 4 : Nat) : Int)) (ga rfl rfl) O5) rfl ?_
 refine Y7 ?_; refine Ys ?_; refine Y8 ?_
 refine qq (qy (decide ((bs.length : Int) < ((k + 4 : Nat) : Int))) rfl (fun hc1 => ?_) (fun hc1 => ?_))
 ·refine Y2p ?_; refine Yt ?_
  exact qv (bq3 (bad (by rw [hdef, if_pos (by rw [decide_eq_true_eq] at hc1; omega)]) h.drop))
 rw [decide_eq_false_iff_not] at hc1
 rw [if_neg O0] at hdef
 refine Yh ?_
 have hrh := Reads.cut hr (i := k) (j := bs.length - 4) O0 O0 hc
 have htl : ((bs.drop k).take ((bs.drop k).length - 4)).length = bs.length - 4 - k := by rw [List.length_take]; omega
 have hrh' : Reads w0 l 1 (adv sl (k * 1) (Nat.beq c k)) ((bs.drop k).take ((bs.drop k).length - 4)).length (bytesV ((bs.drop k).take ((bs.drop k).length - 4))) := by
  rw [htl]
  have : bytesV ((bs.drop k).take ((bs.drop k).length - 4)) = ((bytesV bs).drop (k * 1)).take ((bs.length - 4 - k) * 1) := by
   unfold bytesV
   rw [List.map_take, List.map_drop, Nat.mul_one, Nat.mul_one]
   congr 1; omega
  rw [this]
  exact hrh
 generalize hP : (bs.drop k).take ((bs.drop k).length - 4) = P at hdef htl hrh'
 refine qo (Γ := Option Addr × Nat) (fun q => [(0, .slice sl bs.length c), (5, .pointer (some ⟨b5, 0, none⟩)), (8, .slice q.1 ((suitDec hd.tag P hd.count).getD []).length q.2), (9, .bool (suitDec hd.tag P hd.count).isSome)])
  (fun q w => (∀ L, suitDec hd.tag P hd.count = some L → (L.length : Int) = hd.count ∧ ∀ s ∈ L, s.Wf) ∧ St w0 (OwnS q.1 q.2 ((suitDec hd.tag P hd.count).getD []) :: pt b5 (.cells (hdC hd).toArray 141 (0, 0)) :: l) w) ?_ ?_
 ·refine j7 [0, 1, 2, 3, 4, 5, 6, 7, 8, 9, 10, 11, 12, 14, 13, 15] none (fun w => w.heap[b5]? = some (.cells (hdC hd).toArray 141 (0, 0))) O2 O2 ?_
  replace h := h.drew
  generalize w.drew = w at h
  have hs := h
  replace h := hs.b 0 rfl
  refine Y1c ?_
  refine qu rfl rfl rfl rfl h (fun w h => qm rfl (qk (v := .int .i64 (hd.tag : Int)) rfl h rfl)) ?_
  refine Yq ?_; refine Y37 ?_
  refine cpv rfl rfl rfl rfl h rfl (qh (v' := .int .i64 ((bs.length - 4 : Nat) : Int)) (jm rfl rfl) O6) ?_
  refine cpv rfl rfl rfl rfl h rfl (qh (v' := .slice (adv sl (k * 1) (Nat.beq c k)) P.length (c - k)) (q_cut (i := k) (j := bs.length - 4) rfl rfl rfl O0 O0) (by rw [htl]; rfl)) ?_
  refine Y1c ?_
  refine qu rfl rfl rfl rfl h (fun w h => qm rfl (qk (v := .int .i64 (hd.count : Int)) rfl h rfl)) ?_
  refine Y40 ?_
  refine qt 10 rfl rfl rfl rfl ?_
  refine (qj rfl (ref10_Decode (hd.count : Int) O0 O0 (hrh'.more [_]) hs) ?_)
  rintro _ w ⟨da, dc, rfl, hM, hs⟩
  replace h := hs.b 1 rfl
  refine ⟨fun _ => h, ?_⟩
  refine Y4v ?_; refine Y1t ?_; refine Y3l ?_
  exact qi ⟨(da, dc), ⟨rfl, rfl, rfl, rfl, trivial⟩, hM, hs⟩
 clear h
 rintro ⟨da, dc⟩ w e ⟨hM, h⟩
 dsimp only at h ⊢
 refine Y1s ?_
 cases hD : suitDec hd.tag P hd.count with
 | none =>
  rw [hD] at hdef
  refine Y3n ?_; refine Yt ?_
  exact qv (bq3 (bad hdef h.drop.drop))
 | some M =>
 rw [hD] at hdef h
 obtain ⟨hMl, hMw⟩ := hM M hD
 have hM16 : M.length ≤ 65535 := by omega
 dsimp only at hdef
 refine Y9 ?_
 replace h : St w0 (OwnS da dc M :: pt b5 (.cells (hdC hd).toArray 141 (0, 0)) :: l) w := h
 refine Y35 ?_
 refine qz (qk (v := .int .i64 (hd.tag : Int)) rfl (h.b 1 rfl) rfl) rfl ?_
 refine Yp ?_
 refine qw rfl (qj rfl (ref10_Make (hd.tag : Int) (L := M) hMw O0 Reads.own h) ?_)
 rintro _ w ⟨ea, ec, rfl, h⟩
 refine Y14 ?_
 refine qo (Γ := Unit) (fun _ => [(5, .pointer (some ⟨b5, 0, none⟩)), (8, .slice da M.length dc)]) (fun _ w => chMake (hd.tag : Int) M = some bs ∧ St w0 (OwnS da dc M :: pt b5 (.cells (hdC hd).toArray 141 (0, 0)) :: l) w) ?_ ?_
 ·refine Y1 ?_
  cases hE : chMake (hd.tag : Int) M with
  | none =>
   refine Y1l ?_; refine Y16 ?_; refine Y2d ?_; refine Y3n ?_; refine Yt ?_
   exact qv (bq3 (bad (by rw [hdef, if_neg (by rw [hE]; simp)]) h.drop.drop.drop))
  | some d =>
   rw [hE] at h
   refine Y1l ?_; refine Y2f ?_
   refine qz (q_btos (bs := d) rfl h.own_rd) rfl ?_
   refine Y7 ?_; refine Y3v ?_
   refine qz (q_btos (bs := bs) rfl ((hr.more [_, _, _]).at_ h)) rfl ?_
   refine Y7 ?_; refine qz (q_strne rfl rfl) rfl ?_
   rw [strB_eq]
   refine Y8 ?_
   refine qq (qy (!decide (d = bs)) rfl (fun hc2 => ?_) (fun hc2 => ?_))
   ·refine Y2p ?_; refine Yt ?_
    exact qv (bq3 (bad (by rw [hdef, if_neg (by rw [hE]; simpa using hc2)]) h.drop.drop.drop))
   ·exact qr ⟨(), ⟨rfl, rfl, trivial⟩, by simpa using hc2, h.drop⟩
 clear h
 rintro _ w e ⟨hE, h⟩
 rw [if_pos hE] at hdef
 rw [hdef]
 refine ql (c_anyR [0, 2, 3, 1, 4, 5] none (fun w => St w0 _ w) O2 O2 h.drew fun w h => ?_)
 refine Y1i ?_; refine Y1c ?_
 refine qu rfl rfl rfl rfl h (fun w h => qm rfl (qk (v := .int .i64 (hd.tag : Int)) rfl (h.b 1 rfl) rfl)) ?_
 refine Y1t ?_; refine Y2h ?_; refine Y3l ?_
 refine qi ?_
 refine qv (bq3 ⟨da, dc, rfl, fun L t hh => ?_, (h.f 1).drop⟩)
 cases hh
 exact ⟨hM16, hMw⟩
end
end Go.Proofs.YtnnehiiblfmpnaaGreatDoor

namespace Go.Proofs.YtnnehiiblfmpnaaGreatDoor
open Go.Hw
set_option maxRecDepth 100000
theorem chMake1_len {L : List Smp} {c : List UInt8} (hn : L.length ≤ 60) (h : chMake 1 L = some c) : c.length ≤ 2000 := by
 obtain ⟨x, hx, _, he⟩ := chMake_some h
 have hb := chBody_len 1 L x
 rw [he, List.length_append, be4_len]
 unfold suitEnc at hx
 split at hx
 ·have h1 : valuesEnc 1 (valsOf L) = some (pack (xorBits (valsOf L))) := by unfold valuesEnc; rw [if_pos rfl]
  rw [h1] at hx
  have hx' : suitBytes L (pack (xorBits (valsOf L))) = x := Option.some.inj hx
  have h2 := timesBits_len (timesOf L)
  have h3 := jc (timesBits (timesOf L))
  have h4 := jq (pack (timesBits (timesOf L))).length
  have h5 : (timesOf L).length = L.length := by simp [timesOf]
  have h6 := xorBits_len (valsOf L)
  have h7 := jc (xorBits (valsOf L))
  have h8 : (valsOf L).length = L.length := by simp [valsOf]
  have h9 : x.length ≤ 1500 := by
   rw [← hx']
   unfold suitBytes
   rw [List.length_append, List.length_append]
   omega
  omega
 ·cases hx
theorem within_all {L : List Smp} {fr to : Int} (h : ∀ s ∈ L, fr ≤ s.T ∧ s.T ≤ to) : within L fr to = L := by
 unfold within
 rw [List.filter_eq_self]
 intro s hs
 simpa using h s hs
theorem rises_span {L : List Smp} (hr : rises L = true) {x y : Smp} (hx : L[0]? = some x) (hy : L[L.length - 1]? = some y) : ∀ s ∈ L, x.T ≤ s.T ∧ s.T ≤ y.T := by
 intro s hs
 obtain ⟨i, hi⟩ := List.mem_iff_getElem?.1 hs
 have hlt := (List.getElem?_eq_some_iff.1 hi).1
 have hh := (rises_iff L).1 hr
 constructor
 ·rcases Nat.eq_zero_or_pos i with rfl | h0
  ·rw [hi] at hx; cases hx; exact Int.le_refl _
  ·exact Int.le_of_lt (hh 0 i x s hx hi h0)
 ·by_cases he : i = L.length - 1
  ·subst he; rw [hi] at hy; cases hy; exact Int.le_refl _
  ·exact Int.le_of_lt (hh i (L.length - 1) s y hi hy O0)
def SC (c : List UInt8) : Sto := ⟨1048576, 1, c.length, 0, [(1, ⟨c, 1⟩)]⟩
theorem SC_le {c : List UInt8} (hc : c.length ≤ 2000) : ∀ id e, mget id (SC c).l = some e → e.bs.length ≤ 140737488355328 := by
 intro id e he
 have : e = ⟨c, 1⟩ := by
  simp only [SC, mget] at he
  split at he
  ·exact (Option.some.inj he).symm
  ·cases he
 rw [this]; dsimp only; omega
namespace Rn0
variable {R : Rn0} {S : Sto} {N : Int} {tg : Nat}
theorem new_run (hc : chOpen R.c = some (R.L, tg)) (hb : ∃ e, mget R.key.blob S.l = some e ∧ e.bs = R.c) (hlen : R.L.length ≤ 65535) (hG : R.C0.Good N) (hN : 0 ≤ N) (hk : R.C0.pins R.key = none) (hroom : (R.C0.rows.length : Int) < R.C0.clk.most) :
  R.Ok S ∧ R.hit = false ∧ R.fin.Good N ∧ R.fin.clk.most = R.C0.clk.most ∧ R.fin.rows = mset R.key R.L R.C0.rows ∧ ∀ j, R.fin.pins j = if j = R.key then some 0 else R.C0.pins j := by
 have hh : R.hit = false := by rw [hit_iff hG, hk]; rfl
 have hl : (R.C0.clk.res.length : Int) < R.C0.clk.most := by rw [← hG.frames]; exact hroom
 have hok : R.Ok S := ⟨by rw [hc]; rfl, hb, fun M hM => (by
  have : R.hit = true := by unfold hit; rw [hM]; rfl
  rw [hh] at this; cases this), fun _ => (Cac.put_in hG hN O0 hk (fun h => by omega)).1, hlen⟩
 have hf := fin_ok hG hN hok
 have hp := (base_good hG hN hok).2.2.2 hh
 refine ⟨hok, hh, hf.good, by rw [hf.most, hp.most], ?_, fun j => ?_⟩
 ·rw [hf.rows]
  rcases hp.others with ⟨_, e, _⟩ | ⟨e, _⟩
  ·exact e
  ·omega
 ·rw [hf.pins]
  split
  ·rename_i e; rw [e]; exact hp.here
  ·rename_i e
   rcases hp.others with ⟨_, _, e2⟩ | ⟨e2, _⟩
   ·exact e2 j e
   ·omega
end Rn0
end Go.Proofs.YtnnehiiblfmpnaaGreatDoor

namespace Go.Proofs.YtnnehiiblfmpnaaGreatDoor
open Go.Hw
set_option maxHeartbeats 4000000
set_option maxRecDepth 100000
section
def S2 (c raw : List UInt8) : Sto := ⟨1048576, 2, c.length + raw.length, 0, [(1, ⟨c, 1⟩), (2, ⟨raw, 1⟩)]⟩
theorem S2_le {c raw : List UInt8} (hc : c.length ≤ 2000) (hr : raw.length ≤ 200) : ∀ id e, mget id (S2 c raw).l = some e → e.bs.length ≤ 140737488355328 := by
 intro id e he
 have : e = ⟨c, 1⟩ ∨ e = ⟨raw, 1⟩ := by
  simp only [S2, mget] at he
  split at he
  ·exact .inl (Option.some.inj he).symm
  ·split at he
   ·exact .inr (Option.some.inj he).symm
   ·cases he
 rcases this with h | h <;> rw [h] <;> dsimp only <;> omega
theorem Rn0.Ph.left {R : Rn0} {k : Nat} {x : Tk} {C : Cac} (h : R.Ph k x C) : (x.leave C).2 = R.C0 ∨ (x.leave C).2 = R.fin := by
 have e1 : x.pin = false → (x.leave C).2 = C := fun hp => by unfold Tk.leave; rw [hp]; rfl
 have e2 : x.pin = true → (x.leave C).2 = (C.unpin x.key).1 := fun hp => by unfold Tk.leave; rw [hp]; rfl
 rcases h.2.2.2 with ⟨a, b, _⟩ | ⟨r, a, b, _⟩ | ⟨a, b, _⟩ | ⟨a, b, _⟩ | ⟨a, b, _⟩
 ·exact .inl ((e1 a.pin).trans b)
 ·exact .inl ((e1 a.pin).trans b)
 ·exact .inl ((e1 a.pin).trans b)
 ·refine .inr ((e2 a.pin).trans ?_)
  rw [b, h.1]; rfl
 ·exact .inr ((e1 a.pin).trans b)
def BadPh (raw : List UInt8) (i : Nat) (x : Tk) : Prop := x.key = ⟨0, 0, 2⟩ ∧ ((i = 0 ∧ x.PhA) ∨ (i = 1 ∧ x.PhB raw 0 true) ∨ (i = 2 ∧ x.PhC none))
theorem BadPh.le {raw : List UInt8} {i : Nat} {x : Tk} (h : BadPh raw i x) : i ≤ 2 := by
 rcases h.2 with ⟨h, _⟩ | ⟨h, _⟩ | ⟨h, _⟩ <;> omega
theorem BadPh.size {raw : List UInt8} {i : Nat} {x : Tk} (h : BadPh raw i x) : x.row.length + x.out.length ≤ 200000 ∧ x.done = false := by
 rcases h.2 with ⟨_, a⟩ | ⟨_, a⟩ | ⟨_, a⟩ <;> exact ⟨by rw [a.row, a.out]; exact Nat.zero_le _, a.done⟩
theorem BadPh.step {c raw : List UInt8} {i : Nat} {x : Tk} {C : Cac} (hb : chOpen raw = none) (hC : (C.get ⟨0, 0, 2⟩).2 = none) (h : BadPh raw i x) :
  (i < 2 → ∃ x', x.step (S2 c raw) C = (x', C, 0) ∧ BadPh raw (i + 1) x') ∧ (i = 2 → x.step (S2 c raw) C = (x, C, 7)) := by
 obtain ⟨k1, h⟩ := h
 have hd : decL raw = [] := by unfold decL; rw [hb]; rfl
 rcases h with ⟨rfl, a⟩ | ⟨rfl, a⟩ | ⟨rfl, a⟩
 ·refine ⟨fun _ => ?_, fun h => by cases h⟩
  have hg : mget x.key.blob (S2 c raw).l = some ⟨raw, 1⟩ := by rw [k1]; rfl
  obtain ⟨e1, e2⟩ := Tk.stepA_miss (S := S2 c raw) (C := C) a (by rw [k1]; exact hC) hg
  rw [hb, hd] at e2
  exact ⟨_, e1, k1, .inr (.inl ⟨rfl, e2⟩)⟩
 ·refine ⟨fun _ => ?_, fun h => by cases h⟩
  obtain ⟨x', e1, e2, _, _, _, e6⟩ := Tk.stepB (S := S2 c raw) (C := C) a
  exact ⟨x', e1, e2.trans k1, .inr (.inr ⟨rfl, e6 O4⟩)⟩
 ·exact ⟨fun h => absurd h O4, fun _ => Tk.stepC a⟩
variable {w0 w : World} {l : List HProp}
theorem law20_TakeLeaves (hT : Tz w0) {st : Option Addr} {ct : Nat} {xs : List Int} {sv : Option Addr} {cv : Nat} {us_ : List Nat} {sr : Option Addr} {cr : Nat} {raw : List UInt8} (how : Int)
  (hx : ∀ x ∈ xs, I64 x) (hn : xs.length ≤ 9223372036854775807) (hrt : Reads w0 l 1 st xs.length (i64V xs))
  (hu : ∀ x ∈ us_, x < 18446744073709551616) (hnu : us_.length ≤ 9223372036854775807) (hrv : Reads w0 l 1 sv us_.length (u64V us_)) (a3 : Int) (hn4 : raw.length ≤ 9223372036854775807) (hcr : raw.length ≤ cr) (hr4 : Reads w0 l 1 sr raw.length (bytesV raw)) (h : St w0 l w) :
  Ret Tryz.prog 9 [.slice st xs.length ct, .slice sv us_.length cv, .int .i64 how, .int .i64 a3, .slice sr raw.length cr] w fun v w' => v = .bool true ∧ St w0 l w' := by
 refine enter Tryz.func9 rfl Tryz.results9 Tryz.ntmps9 rfl ?_
 refine Y2a ?_; refine Y5 ?_; refine Y27 ?_
 refine qw rfl (qj rfl (law10_Row how hx hn hrt hu hnu hrv h) ?_)
 clear h
 rintro _ w ⟨sa, sc, L, hL60, hwf, hris, rfl, h⟩
 refine Ym ?_; refine Y5 ?_
 refine qw rfl (qj rfl (ref10_Make 1 hwf O0 Reads.own h) ?_)
 clear h
 rintro _ w ⟨ca, cc, rfl, h⟩
 refine Y14 ?_; refine Y44 ?_
 generalize hM : chMake 1 L = M at h ⊢
 cases M with
 | none =>
  refine Y1l ?_; refine Y15 ?_; refine Y3q ?_
  refine qw rfl (qj rfl (law20_awake hT (St.drops (L := [_, _]) h)) ?_)
  clear h
  rintro _ w ⟨rfl, h⟩
  refine Ye ?_
  exact qq (qv (bq1 ⟨rfl, h⟩))
 | some c =>
  refine Y1l ?_; refine Y36 ?_; refine Y1q ?_
  by_cases hraw : raw.length > 200
  ·refine qg (.bool true) O10 ?_
   refine Y8 ?_; refine Y28 ?_
   refine qw rfl (qj rfl (law20_awake hT (St.drops (L := [_, _]) h)) ?_)
   clear h
   rintro _ w ⟨rfl, h⟩
   refine Ye ?_
   exact qq (qv (bq1 ⟨rfl, h⟩))
  refine qg (.bool false) O11 ?_
  refine Y4p ?_
  replace h : St w0 (OwnB ca cc c :: OwnS sa sc L :: l) w := h
  have hne : L ≠ [] := fun e => by rw [e, chMake_nil] at hM; cases hM
  have hL0 : 0 < L.length := List.length_pos_iff.2 hne
  have hc := chMake1_len hL60 hM
  have hopen := chOpen_told hwf O0 hM
  refine Y1 ?_
  refine qw rfl (qj rfl (blob_New 1048576 h) ?_)
  clear h
  rintro _ w ⟨b, rfl, h⟩
  refine qw rfl (qj rfl (cach_New 2 h) ?_)
  clear h
  rintro _ w ⟨p, rfl, h⟩
  refine Y4w ?_; refine Y1d ?_; refine Y2m ?_; refine Y3u ?_; refine Y38 ?_; refine Y3u ?_; refine Y4p ?_; refine Y3y ?_
  refine qw rfl (qj rfl (blob_Add (bs := c) (n := c.length) (h.f 1) (fun w' h' => (h'.f 1).own_rd) O0 rfl) ?_)
  clear h
  rintro _ w h
  have e0 : IntKind.i64.wrap ((⟨min (max 1048576 0) 1073741824, 0, 0, 0, []⟩ : Sto).budget - IntKind.i64.wrap ((⟨min (max 1048576 0) 1073741824, 0, 0, 0, []⟩ : Sto).bytes + (⟨min (max 1048576 0) 1073741824, 0, 0, 0, []⟩ : Sto).charged)) = 1048576 := by decide
  rw [e0, if_neg O0] at h
  obtain ⟨rfl, h⟩ := h
  have e1 : IntKind.i64.wrap ((⟨min (max 1048576 0) 1073741824, 0, 0, 0, []⟩ : Sto).last + 1) = 1 := by decide
  have e2 : IntKind.i64.wrap ((⟨min (max 1048576 0) 1073741824, 0, 0, 0, []⟩ : Sto).bytes + (c.length : Int)) = (c.length : Int) := by
   show IntKind.i64.wrap (0 + (c.length : Int)) = _
   rw [wrap64 O0 O0]; omega
  rw [e1] at h ⊢
  rw [e2] at h
  replace h : St w0 (IsStore b (SC c) :: IsCache p (Cac.new 2) :: OwnB ca cc c :: OwnS sa sc L :: l) w := h
  refine Y2j ?_; refine Y2 ?_; refine Ye ?_
  obtain ⟨g, rfl⟩ := (h.f 3).own_some hL0
  obtain ⟨x0, hx0⟩ : ∃ x, L[0]? = some x := ⟨L[0], List.getElem?_eq_getElem hL0⟩
  obtain ⟨x9, hx9⟩ : ∃ x, L[L.length - 1]? = some x := ⟨L[L.length - 1], List.getElem?_eq_getElem O0⟩
  have hspan := within_all (rises_span hris hx0 hx9)
  have hS := SC_le hc
  have hb1 : ∃ e, mget (1 : Int) (SC c).l = some e ∧ e.bs = c := ⟨_, rfl, rfl⟩
  refine Y3 ?_
  refine qo (Γ := Nat) (fun t => [(3, .int .i64 a3), (4, .slice sr raw.length cr), (14, .pointer (some ⟨b, 0, none⟩)), (15, .pointer (some ⟨p, 0, none⟩)), (16, .int .i64 1), (18, .pointer (some ⟨t, 0, none⟩))])
   (fun t w => St w0 (IsTk t (Tk.new 0 0 1 x0.T x9.T) :: IsStore b (SC c) :: IsCache p (Cac.new 2) :: l) w) ?_ ?_
  ·refine jj none (fun w => St w0 (IsStore b (SC c) :: IsCache p (Cac.new 2) :: OwnB ca cc c :: OwnS (some ⟨g, 0, none⟩) sc L :: l) w) O2 O2 h.drew fun w h => ?_
   have hT0 : ∀ {w'}, St w0 (IsStore b (SC c) :: IsCache p (Cac.new 2) :: OwnB ca cc c :: OwnS (some ⟨g, 0, none⟩) sc L :: l) w' → w'.cell? ⟨g, 0 + 0, none⟩ = some (.int .i64 x0.T) := fun h' => (h'.f 3).own_rd.cell (flat_get js L 0 x0 hx0 0 (.int .i64 x0.T) rfl)
   have hT9 : ∀ {w'}, St w0 (IsStore b (SC c) :: IsCache p (Cac.new 2) :: OwnB ca cc c :: OwnS (some ⟨g, 0, none⟩) sc L :: l) w' → w'.cell? ⟨g, (L.length - 1) * 2 + 0, none⟩ = some (.int .i64 x9.T) := fun h' => by
    have := (h'.f 3).own_rd.cell (flat_get js L (L.length - 1) x9 hx9 0 (.int .i64 x9.T) rfl)
    rwa [Nat.zero_add] at this
   refine Yj ?_; refine Y37 ?_; refine Y1i ?_
   refine cpv rfl rfl rfl rfl h rfl (qn (j := 0) (o' := 0) rfl rfl rfl hL0 O7) ?_
   refine Y1c ?_
   refine qu rfl rfl rfl rfl h (fun w h => qm rfl (qx (v := .int .i64 x0.T) rfl (hT0 h))) ?_
   refine Y1i ?_; refine Y37 ?_
   refine cpv rfl rfl rfl rfl h rfl (qh (v' := .int .i64 ((L.length - 1 : Nat) : Int)) (jm rfl rfl) O6) ?_
   refine cpv rfl rfl rfl rfl h rfl (qn (j := L.length - 1) (o' := (L.length - 1) * 2) rfl rfl rfl O0 O7) ?_
   refine Y1c ?_
   refine qu rfl rfl rfl rfl h (fun w h => qm rfl (qx (v := .int .i64 x9.T) rfl (hT9 h))) ?_
   refine cpv rfl rfl rfl rfl h rfl (qe (r := (Prt.mk 1 1 L.length x0.T x9.T).cells) rfl) ?_
   refine Y1i ?_
   refine cpv rfl rfl rfl rfl h rfl (qn (j := 0) (o' := 0) rfl rfl rfl hL0 O7) ?_
   refine Y1c ?_
   refine qu rfl rfl rfl rfl h (fun w h => qm rfl (qx (v := .int .i64 x0.T) rfl (hT0 h))) ?_
   refine Y1i ?_; refine Y37 ?_
   refine cpv rfl rfl rfl rfl h rfl (qh (v' := .int .i64 ((L.length - 1 : Nat) : Int)) (jm rfl rfl) O6) ?_
   refine cpv rfl rfl rfl rfl h rfl (qn (j := L.length - 1) (o' := (L.length - 1) * 2) rfl rfl rfl O0 O7) ?_
   refine Y1c ?_
   refine qu rfl rfl rfl rfl h (fun w h => qm rfl (qx (v := .int .i64 x9.T) rfl (hT9 h))) ?_
   refine Yz ?_
   refine qt 26 rfl rfl rfl rfl ?_
   refine qj rfl (take_New 0 0 ⟨1, 1, L.length, x0.T, x9.T⟩ x0.T x9.T h) ?_
   rintro _ w ⟨t, rfl, h1⟩
   replace h := h1.drop
   refine ⟨fun _ => h, ?_⟩
   refine cpv rfl rfl rfl rfl h rfl (q_assignP rfl) ?_
   exact qi ⟨t, ⟨rfl, rfl, rfl, rfl, rfl, rfl, trivial⟩, h1.x [3, 4]⟩
  clear h
  rintro t w e h
  obtain ⟨R, hR⟩ : ∃ R : Rn0, R = ⟨⟨0, 0, 1⟩, x0.T, x9.T, c, L, Cac.new 2⟩ := ⟨_, rfl⟩
  have k1 : R.key = ⟨0, 0, 1⟩ := by rw [hR]
  have c1 : R.C0 = Cac.new 2 := by rw [hR]
  have hw : R.w = L := by rw [hR]; exact hspan
  obtain ⟨a1, a2, a3', a4, a5, a6⟩ := Rn0.new_run (R := R) (S := SC c) (N := 0) (tg := 1) (by rw [hR]; exact hopen) (by rw [hR]; exact hb1) (by rw [hR]; dsimp only; omega) (by rw [c1]; exact Cac.new_good 2) (Int.le_refl 0) (by rw [hR]; rfl) (by rw [hR]; show ((Cac.new 2).rows.length : Int) < (Cac.new 2).clk.most; decide)
  have hG0 : R.C0.Good 0 := by rw [c1]; exact Cac.new_good 2
  have hst : R.Ph R.total (Tk.new 0 0 1 x0.T x9.T) (Cac.new 2) := by
   have := Rn0.Ph.start (R := R) 0 0 1 k1
   rw [hR] at this ⊢; exact this
  obtain ⟨n, hn, hn63⟩ : ∃ n : Nat, bitOp .and .i64 a3 63 = (n : Int) ∧ n ≤ 63 := by
   rw [and_mask (a := a3) (m := 63) 6 O4 O4]
   exact ⟨(a3 % 2 ^ 6).toNat, by omega, by omega⟩
  refine Y2m ?_; refine Y3u ?_; refine Y9 ?_
  refine qo (Γ := Tk × Cac) (fun _ => [(4, .slice sr raw.length cr), (14, .pointer (some ⟨b, 0, none⟩)), (15, .pointer (some ⟨p, 0, none⟩)), (16, .int .i64 1), (18, .pointer (some ⟨t, 0, none⟩))])
   (fun q w => (∃ k, R.Ph k q.1 q.2) ∧ St w0 (IsTk t q.1 :: IsStore b (SC c) :: IsCache p q.2 :: l) w) ?_ ?_
  ·refine Y17 ?_
   refine qc (Γ := Nat × Tk × Cac) (fun q => [(3, .int .i64 a3), (4, .slice sr raw.length cr), (14, .pointer (some ⟨b, 0, none⟩)), (15, .pointer (some ⟨p, 0, none⟩)), (16, .int .i64 1), (18, .pointer (some ⟨t, 0, none⟩)), (19, .int .i64 (q.1 : Int))])
    (fun q w => (q.1 ≤ n ∧ ∃ k, R.Ph k q.2.1 q.2.2) ∧ St w0 (IsTk t q.2.1 :: IsStore b (SC c) :: IsCache p q.2.2 :: l) w) (fun q => n - q.1) (0, Tk.new 0 0 1 x0.T x9.T, Cac.new 2) ⟨rfl, rfl, rfl, rfl, rfl, rfl, rfl, trivial⟩ ⟨⟨Nat.zero_le _, _, hst⟩, h⟩ ?_
   clear h hst
   rintro ⟨q, x, C⟩ w e ⟨⟨hq, k, hph⟩, h⟩
   dsimp only at hq hph h
   refine Y31 ?_; refine Y33 ?_
   refine qg (.int .i64 (n : Int)) (congrArg (Value.int .i64) hn) ?_
   refine Ys ?_
   by_cases hq2 : q = n
   ·refine qg (.bool false) O11 ?_
    refine qq (q6 rfl (qd ?_))
    exact Eq.mpr (if_pos rfl) ⟨(x, C), ⟨rfl, rfl, rfl, rfl, rfl, trivial⟩, ⟨k, hph⟩, h⟩
   refine qg (.bool true) O10 ?_
   refine Y4o ?_; refine Y4e ?_; refine Y1x ?_
   have hst := hph.step a1 (S := SC c)
   refine qw rfl (qj rfl (step_good hT (hph.size a1) (hph.good hG0 (Int.le_refl 0) a1) ⟨by decide, by decide⟩ hS h) ?_)
   clear h
   rintro _ w ⟨rfl, h⟩
   obtain ⟨hs0, hs1⟩ := hst
   rw [hs0]
   refine Y2y ?_; refine Y9 ?_; refine Y1b ?_
   refine qg (.int .i64 (q + 1 : Nat)) O14 ?_
   refine Y2 ?_
   exact qq ⟨(q + 1, (x.step (SC c) C).1, (x.step (SC c) C).2.1), ⟨rfl, rfl, rfl, rfl, rfl, rfl, rfl, trivial⟩, ⟨⟨by dsimp only; omega, _, hs1⟩, h⟩, by dsimp only; omega⟩
  clear h hst
  rintro ⟨x, C⟩ w e ⟨⟨k, hph⟩, h⟩
  dsimp only at hph h
  have hlv := hph.left
  have hCg := hph.good hG0 (Int.le_refl 0) a1
  obtain ⟨C', hC'⟩ : ∃ C', (x.leave C).2 = C' := ⟨_, rfl⟩
  rw [hC'] at hlv
  have hgood : C'.Good 0 ∧ (∀ a, C'.pins ⟨0, 0, 1⟩ = some a → a = 0) ∧ C'.pins ⟨0, 0, 2⟩ = none := by
   rcases hlv with e | e
   ·rw [e, c1]; exact ⟨Cac.new_good 2, fun a h => (by cases h), rfl⟩
   ·rw [e]; refine ⟨a3', fun a h => ?_, ?_⟩
    ·rw [a6, k1, if_pos rfl] at h; exact (Option.some.inj h).symm
    ·rw [a6, k1, if_neg O4, c1]; rfl
  obtain ⟨g1, g2, g3⟩ := hgood
  refine Y4e ?_
  refine qw rfl (qj rfl (take_Leave (hCg.ok O4) (h.o [0, 2])) ?_)
  clear h
  rintro _ w h
  rw [hC'] at h
  replace h : St w0 (IsStore b (SC c) :: IsCache p C' :: l) w := (h.x [0]).o [1, 0]
  refine Y3 ?_; refine Y2m ?_; refine Y0 ?_
  refine qz (qe (r := (Key3.mk 0 0 1).C) rfl) rfl ?_
  have hun := cach_Unpin (k := ⟨0, 0, 1⟩) (g1.ok O4) (h.f 1)
  rw [Cac.unpin_zero g1 g2] at hun
  refine qw rfl (qj rfl hun ?_)
  clear h hun
  rintro _ w ⟨rfl, h⟩
  replace h : St w0 (IsStore b (SC c) :: IsCache p C' :: l) w := h.f 1
  refine Y9 ?_; refine ql ?_; refine Y5 ?_
  refine qw rfl (qj rfl (ref10_Open O0 hcr (hr4.more [_, _]) h) ?_)
  clear h
  rintro _ w ⟨oa, oc, rfl, _, h⟩
  replace h := h.drop
  cases ho : chOpen raw with
  | some q =>
   refine Y3k ?_; refine Yx ?_; refine Yt ?_; refine Y2x ?_; refine Y28 ?_
   refine qw rfl (qj rfl (law20_awake hT (St.drops (L := [_, _]) h)) ?_)
   clear h
   rintro _ w ⟨rfl, h⟩
   refine Ye ?_
   exact qq (qv (bq1 ⟨rfl, h⟩))
  | none =>
   refine Y3k ?_; refine Yx ?_; refine Yt ?_; refine Y2x ?_; refine Y9 ?_; refine Y3y ?_
   refine qw rfl (qj rfl (blob_Add (bs := raw) (n := raw.length) h (fun w' h' => (hr4.more [_]).rd w' h') O0 rfl) ?_)
   clear h
   rintro _ w h
   have e3 : IntKind.i64.wrap ((SC c).budget - IntKind.i64.wrap ((SC c).bytes + (SC c).charged)) = 1048576 - (c.length : Int) := by
    show IntKind.i64.wrap (1048576 - IntKind.i64.wrap ((c.length : Int) + 0)) = _
    rw [wrap64 (x := (c.length : Int) + 0) O0 O0, wrap64 O0 O0]; omega
   rw [e3, if_neg O0] at h
   obtain ⟨rfl, h⟩ := h
   have e4 : IntKind.i64.wrap ((SC c).bytes + (raw.length : Int)) = (c.length : Int) + (raw.length : Int) := by
    show IntKind.i64.wrap ((c.length : Int) + (raw.length : Int)) = _
    exact wrap64 O0 O0
   have e5 : IntKind.i64.wrap ((SC c).last + 1) = 2 := rfl
   rw [e5] at h ⊢
   rw [e4] at h
   replace h : St w0 (IsStore b (S2 c raw) :: IsCache p C' :: l) w := h
   refine Y2j ?_; refine Yt ?_; refine Y4 ?_
   refine qz (qe (r := (Prt.mk 2 1 3 0 0).cells) rfl) rfl ?_
   refine qw rfl (qj rfl (take_New 0 0 ⟨2, 1, 3, 0, 0⟩ 0 9 h) ?_)
   clear h
   rintro _ w ⟨u, rfl, h⟩
   refine Y1d ?_; refine Y2m ?_; refine Y3u ?_; refine Y9 ?_
   have hmiss : (C'.get ⟨0, 0, 2⟩).2 = none := by
    rw [(Cac.get_good g1 _).2.2.2.1]; exact g1.norow g3
   have hS2 := S2_le (raw := raw) hc O0
   have hst : BadPh raw 0 (Tk.new 0 0 2 0 9) := ⟨rfl, .inl ⟨rfl, Tk.new_A _ _ _ _ _⟩⟩
   refine qo (Γ := Unit) (fun _ => []) (fun _ _ => False) ?_ (fun _ _ _ h => h.elim)
   refine Y17 ?_
   refine qc (Γ := Nat × Tk) (fun q => [(14, .pointer (some ⟨b, 0, none⟩)), (15, .pointer (some ⟨p, 0, none⟩)), (25, .pointer (some ⟨u, 0, none⟩)), (26, .int .i64 (q.1 : Int))])
    (fun q w => BadPh raw q.1 q.2 ∧ St w0 (IsTk u q.2 :: IsStore b (S2 c raw) :: IsCache p C' :: l) w) (fun q => 2 - q.1) (0, Tk.new 0 0 2 0 9) ⟨rfl, rfl, rfl, rfl, trivial⟩ ⟨hst, h⟩ ?_
   clear h hst
   rintro ⟨i, x⟩ w e ⟨hph, h⟩
   dsimp only at hph h
   have hi := hph.le
   obtain ⟨hsz, hdn⟩ := hph.size
   refine Y3s ?_
   refine qg (.bool true) O10 ?_
   refine Y4o ?_; refine Y4e ?_; refine Y1x ?_
   obtain ⟨hlt, heq⟩ := hph.step (c := c) ho hmiss
   have hstep := step_good (x := x) (S := S2 c raw) hT hsz g1 ⟨Int.le_refl 0, by decide⟩ hS2 h
   clear h
   by_cases hi2 : i = 2
   ·rw [heq hi2] at hstep
    refine qw rfl (qj rfl hstep ?_)
    clear hstep
    rintro _ w ⟨rfl, h⟩
    refine Y3p ?_; refine Y2y ?_; refine Yk ?_; refine Yr ?_
    have hd := take_Done (x := x) O0 h
    rw [hdn] at hd
    refine qw rfl (qj rfl hd ?_)
    clear h hd
    rintro _ w ⟨da, dc, rfl, h⟩
    refine Y14 ?_; refine Y4 ?_; refine Yd ?_; refine Y2i ?_; refine Y2i ?_; refine Y1j ?_; refine Yi ?_; refine Y2i ?_
    refine qw rfl (qj rfl (law20_awake hT (St.drops (L := [_, _, _, _]) h)) ?_)
    clear h
    rintro _ w ⟨rfl, h⟩
    refine Y4m ?_
    exact qq (qv (bq1 ⟨rfl, h⟩))
   ·obtain ⟨x', hx', hph'⟩ := hlt O0
    rw [hx'] at hstep
    refine qw rfl (qj rfl hstep ?_)
    clear hstep
    rintro _ w ⟨rfl, h⟩
    refine Y3p ?_; refine Y2y ?_; refine Y9 ?_; refine Y1b ?_
    refine qg (.int .i64 (i + 1 : Nat)) O14 ?_
    refine Y2 ?_
    exact qq ⟨(i + 1, x'), ⟨rfl, rfl, rfl, rfl, trivial⟩, ⟨hph', h⟩, by dsimp only; omega⟩
end
end Go.Proofs.YtnnehiiblfmpnaaGreatDoor

namespace Go.Hw
open Go.ChangeShapes Go.WideShapes Go.ChangeAt Go.RowKit
section
variable {H : Type} {enc : TypeId × Value → H} {P : Program} {W : World} {r : Reach} {b0 : Nat}
end
end Go.Hw

namespace Go.Hw
open Go.ChangeShapes Go.WideShapes Go.ChangeAt Go.RowKit
section
variable {P : Program} {W : World} {H : Type} {enc : TypeId × Value → H} {r : Reach} {b0 : Nat}
theorem arg_cap {t e : TypeId} {k : IntKind} {a : Option Addr} {n c : Nat} {d : DataW H} {p : List MemPlace} (ht : P.underlying t = some (.slice e)) (he : P.underlying e = some (.int k)) (hc : P.cellsOf e = 1)
  (h : DataW.Trod enc P W 0 (fun _ => true) true t (.slice a n c) d p) : n ≤ c := by
 obtain ⟨fuel, hf⟩ := h
 rcases open_ints ht he hc hf with ⟨hcs, _⟩ | ⟨a', len', cap', zs, hcs, _, hl, _⟩
 ·simp [Value.cells] at hcs
  omega
 ·simp [Value.cells] at hcs
  obtain ⟨_, rfl, rfl⟩ := hcs
  exact hl
theorem arg_bytesC {t e : TypeId} {v : Value} {d : DataW H} {p : List MemPlace} (ht : P.underlying t = some (.slice e)) (he : P.underlying e = some (.int .u8)) (hc : P.cellsOf e = 1)
  (hval : Value.okWide P W r b0 t v) (h : DataW.Trod enc P W 0 (fun _ => true) true t v d p) (hlt : ∀ x ∈ p, x.block < W.heap.size) :
  ∃ (a : Option Addr) (c : Nat) (bs : List UInt8), v = .slice a bs.length c ∧ bs.length ≤ 9223372036854775807 ∧ bs.length ≤ c ∧ Reads W [] 1 a bs.length (bytesV bs) := by
 obtain ⟨a, n, c, bs, rfl, h2, h3, h4⟩ := arg_bytes ht he hc hval h hlt
 have hcap := arg_cap ht he hc h
 have hl : bs.length = n := by have := h3.1; rw [bytesV_len] at this; omega
 subst hl
 exact ⟨a, c, bs, rfl, maxLen_le h2, hcap, Reads.old h3 h4⟩
end
end Go.Hw
