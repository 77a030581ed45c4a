/- What the proof of TakeCached needs, part 5: plain lemmas, and what each function does. -/
import Derived.Test.YtnnehiiblfmpnaaGreatDoorQTakeCachedd
set_option linter.unusedVariables false
set_option linter.unusedSimpArgs false
set_option linter.unnecessarySimpa false
namespace Go.Hw
def b2u (b : Bool) : UInt8 := UInt8.ofNat b.toNat
def b2us (l : List Bool) : List UInt8 := l.map b2u
theorem b2u_nat (b : Bool) : (b2u b).toNat = b.toNat := by cases b <;> rfl
theorem b2us_get {l : List Bool} {j : Nat} {b : Bool} (h : l[j]? = some b) : (b2us l)[j]? = some (b2u b) := by simp [b2us, h]
theorem shl_i64 {a : Int} {m : Nat} (hm : m ≤ 64) (h : I64 (a * 2 ^ m)) : IntKind.i64.wrap (a * 2 ^ (min ((m : Int)).toNat IntKind.i64.bits)) = a * 2 ^ m := by
 rw [show min ((m : Int)).toNat IntKind.i64.bits = m by simp [IntKind.bits]; omega]
 exact wrap64 h.1 h.2
theorem two_pow_int (m : Nat) : ((2 : Int) ^ m) = ((2 ^ m : Nat) : Int) := by simp
theorem lead31 (x : Nat) : (winOf x).lead = min (64 - len64 x) 31 := rfl
end Go.Hw
namespace Go.Proofs.YtnnehiiblfmpnaaGreatDoor
open Go.Hw
set_option maxHeartbeats 4000000
set_option maxRecDepth 100000
abbrev RwPt (p : Nat) (a : Option Addr) (n c : Nat) : HProp := pt p (.cells [.slice a n c].toArray 190 (0, 0))
def IsRW (p : Nat) (bs : List Bool) : HProp := ex fun q : Option Addr × Nat => all [RwPt p q.1 bs.length q.2, Own 5 1 q.1 bs.length q.2 (bytesV (b2us bs))]
section
variable {w0 w : World} {l : List HProp} {p : Nat} {bs : List Bool}
theorem St.rw : St w0 (IsRW p bs :: l) w ↔ ∃ a c, St w0 (RwPt p a bs.length c :: Own 5 1 a bs.length c (bytesV (b2us bs)) :: l) w := by
 unfold IsRW
 rw [St.ex]
 exact ⟨fun ⟨q, h⟩ => ⟨q.1, q.2, h.join⟩, fun ⟨a, c, h⟩ => ⟨(a, c), St.fold [_, _] h⟩⟩
theorem St.rw_new (h : St w0 (pt p (.cells [.slice none 0 0].toArray 190 (0, 0)) :: l) w) : St w0 (IsRW p [] :: l) w := St.rw.2 ⟨none, 0, (St.ownNil 5 1 h).f 1⟩
theorem rw_Put (v : Nat) (n : Int) (hv : v < 18446744073709551616) (hlen : bs.length ≤ 70368744177664) (h : St w0 (IsRW p bs :: l) w) :
  Ret Tryz.prog 140 [.pointer (some ⟨p, 0, none⟩), .int .u64 v, .int .i64 n] w fun v' w' => v' = .tuple #[] ∧ St w0 (IsRW p (bs ++ bitsOf v (heldN n)) :: l) w' := by
 refine enter Tryz.func140 rfl Tryz.results140 Tryz.ntmps140 rfl ?_
 have hle := heldN_le n
 refine Y4 ?_; refine Y3f ?_
 refine qv (.int .i64 (heldN n)) (by unfold heldN; congr 1; omega) ?_
 refine Y1l ?_
 refine qv (.int .i64 ((heldN n : Int) - 1)) O15 ?_
 refine Y5 ?_; refine Ya ?_
 refine qo (Γ := Nat × List Bool) (fun k => [(0, .pointer (some ⟨p, 0, none⟩)), (1, .int .u64 v), (6, .int .i64 ((k.1 : Int) - 1))])
  (fun k w => k.1 ≤ 64 ∧ k.2 ++ bitsOf v k.1 = bs ++ bitsOf v (heldN n) ∧ St w0 (IsRW p k.2 :: l) w) (fun k => k.1) (heldN n, bs) ⟨rfl, rfl, rfl, trivial⟩ ⟨hle, rfl, h⟩ ?_
 clear h
 rintro ⟨k, cur⟩ w e ⟨hk, hcur, h⟩
 dsimp only at hk hcur h ⊢
 have hcl : cur.length + k = bs.length + heldN n := by
  have := congrArg List.length hcur
  simpa [bitsOf_len] using this
 refine Y1c ?_; refine Y1v ?_
 cases k with
 | zero =>
  refine qv (.bool false) O8 ?_
  refine Y11 ?_
  refine qn ?_
  rw [← hcur, bitsOf, List.append_nil]
  exact (show (packv [] : Value) = .tuple #[] ∧ _ from ⟨rfl, h⟩)
 | succ k =>
 refine qv (.bool true) (by simp <;> omega) ?_
 refine Y1y ?_
 obtain ⟨a, c, h⟩ := St.rw.1 h
 have hk64 : k < 64 := by omega
 refine Y1x ?_; refine Y22 ?_; refine Y2p ?_; refine qz (qk rfl (h.b 0) rfl) rfl ?_; refine Y0 ?_; refine Y2k ?_
 refine qv (.int .u64 (k : Int)) (by rw [show (((k + 1 : Nat) : Int) - 1) = (k : Int) by omega, wrap_u64, Nat.mod_eq_of_lt O0]) ?_
 refine qz (qm (v' := .int .u64 ((v / 2 ^ k : Nat) : Int)) (jk rfl rfl O0) (congrArg (Value.int .u64) (q9 v k _ (Nat.le_of_lt hk64)))) rfl ?_
 refine qz (qm (v' := .int .u64 (((v.testBit k).toNat : Nat) : Int)) (q_and rfl rfl) (by
  rw [show bitOp .and .u64 ((v / 2 ^ k : Nat) : Int) 1 = ((v / 2 ^ k &&& 1 : Nat) : Int) from (jx (Nat.lt_of_le_of_lt (Nat.div_le_self _ _) hv) O2).1, Nat.and_one_is_mod, testBit_toNat])) rfl ?_
 refine qz (qm (v' := .int .u8 ((b2u (v.testBit k)).toNat : Int)) (jr rfl) (by rw [wrap_u8, b2u_nat]; cases v.testBit k <;> rfl)) rfl ?_
 refine r_app1 (v := .int .u8 (b2u (v.testBit k)).toNat) (m3 := cur.length + 1) (zs := bytesV (b2us (cur ++ [v.testBit k]))) (h.f 1) rfl rfl rfl rfl rfl rfl (by simp [b2us, bytesV, vcells]) O0 O0 rfl rfl rfl rfl rfl fun b a' c' w _ h => ?_
 refine Y12 ?_
 refine qx rfl (q6 1 h rfl (show _ = Value.slice _ _ _ from rfl) rfl rfl rfl rfl fun w h => ?_)
 refine Y3 ?_; refine Y18 ?_; refine Y1l ?_
 refine qv (.int .i64 ((k : Int) - 1)) O6 ?_
 refine Y2 ?_
 refine qj ⟨(k, cur ++ [v.testBit k]), ⟨rfl, rfl, rfl, trivial⟩, ⟨by dsimp only; omega, ?_, St.rw.2 ⟨a', c', ?_⟩⟩, by dsimp only; omega⟩
 ·rw [← hcur, List.append_assoc]; rfl
 ·rw [List.length_append]
  exact h.f 1
theorem rw_Bytes (hn : bs.length ≤ 70368744177664) (h : St w0 (IsRW p bs :: l) w) :
  Ret Tryz.prog 95 [.pointer (some ⟨p, 0, none⟩)] w fun v w' => ∃ a c, v = .slice a (pack bs).length c ∧ St w0 (OwnB a c (pack bs) :: IsRW p bs :: l) w' := by
 obtain ⟨ba, bc, h⟩ := St.rw.1 h
 refine enter Tryz.func95 rfl Tryz.results95 Tryz.ntmps95 rfl ?_
 refine Y3j ?_; refine Y2v ?_
 refine qo (Γ := Nat × Option Addr × Nat) (fun k => [(0, .pointer (some ⟨p, 0, none⟩)), (3, .slice k.2.1 ((k.1 + 7) / 8) k.2.2), (4, .int .i64 k.1)])
  (fun k w => k.1 ≤ bs.length ∧ St w0 (Own 5 1 k.2.1 ((k.1 + 7) / 8) k.2.2 (bytesV (pack (bs.take k.1))) :: RwPt p ba bs.length bc :: Own 5 1 ba bs.length bc (bytesV (b2us bs)) :: l) w) (fun k => bs.length - k.1) (0, none, 0) ⟨rfl, rfl, rfl, trivial⟩ ⟨Nat.zero_le _, by simpa [pack, bytesV] using St.ownNil 5 1 h⟩ ?_
 clear h
 rintro ⟨i, oa, oc⟩ w e ⟨hi, h⟩
 dsimp only at hi h ⊢
 refine Y1c ?_; refine Y2p ?_; refine qz (qk rfl (h.b 1) rfl) rfl ?_; refine Y35 ?_; refine Y4m ?_
 refine qy (decide ((i : Int) < (bs.length : Int))) rfl (fun hc => ?_) (fun hc => ?_)
 ·
  have hlt : i < bs.length := by simp at hc; omega
  have hg := List.getElem?_eq_getElem hlt
  generalize bs[i] = x at hg
  have htl : (bs.take i).length = i := by rw [List.length_take]; omega
  have htk : bs.take (i + 1) = bs.take i ++ [x] := by rw [List.take_add_one, hg]; rfl
  refine Yr ?_
  refine qe (Γ := Option Addr × Nat) (fun q => [(0, .pointer (some ⟨p, 0, none⟩)), (3, .slice q.1 (i / 8 + 1) q.2), (4, .int .i64 i)])
   (fun q w => St w0 (Own 5 1 q.1 (i / 8 + 1) q.2 (bytesV (padz (bs.take i))) :: RwPt p ba bs.length bc :: Own 5 1 ba bs.length bc (bytesV (b2us bs)) :: l) w) ?_ ?_
  ·refine Y4 ?_
   refine qz (qm (v' := .int .i64 ((i % 8 : Nat) : Int)) (q_rem rfl rfl O2) (congrArg (Value.int .i64) (gy _ _))) rfl ?_
   refine Yc ?_
   by_cases h8 : i % 8 = 0
   ·refine qv (.bool true) (by simp [h8]) ?_
    refine Yi ?_; refine Y44 ?_
    refine r_app1 (v := .int .u8 0) (m3 := i / 8 + 1) (zs := bytesV (padz (bs.take i))) h rfl rfl rfl rfl rfl O0 (by rw [padz_even (by rw [htl]; exact h8)]; simp [bytesV, vcells]) O0 O0 rfl rfl rfl rfl rfl fun b a' c' w _ h => ?_
    refine Y10 ?_
    exact qj ⟨(a', c'), ⟨rfl, rfl, rfl, trivial⟩, h⟩
   ·refine qv (.bool false) O3 ?_
    refine qj (q8 rfl (q4 ⟨(oa, oc), ⟨rfl, ?_, rfl, trivial⟩, ?_⟩))
    ·show Value.slice oa ((i + 7) / 8) oc = _
     rw [show (i + 7) / 8 = i / 8 + 1 by omega]
    ·rw [padz_odd (by rw [htl]; exact h8)]
     have e1 : i / 8 + 1 = (i + 7) / 8 := by omega
     rw [e1]
     exact h
  clear h
  rintro ⟨oa, oc⟩ w e h
  dsimp only at h ⊢
  obtain ⟨g, rfl⟩ := h.own_some O0
  obtain ⟨g2, rfl⟩ := (h.f 2).own_some O0
  have hx2 : (b2u x).toNat ≤ 1 := by cases x <;> decide
  have hx3 : (b2u x).toNat * 2 ^ (7 - i % 8) < 256 := by
   have : 2 ^ (7 - i % 8) ≤ 2 ^ 7 := Nat.pow_le_pow_right O2 O0
   have := Nat.mul_le_mul hx2 this
   omega
  have hpz : (padz (bs.take i))[i / 8]? = some (byteAt (bs.take i) (i / 8)) := by have := padz_at (bs.take i); rwa [htl] at this
  have hq8 : Value.int .i64 (IntKind.i64.wrap ((i : Int).tdiv 8)) = .int .i64 ((i / 8 : Nat) : Int) := by rw [show (i : Int).tdiv 8 = ((i / 8 : Nat) : Int) from tdiv_nat _ 8, wrap64 O0 O0]
  refine jq (some 22) (fun w => St w0 _ w) O1 O1 h.drew fun w h => ?_
  refine Yq ?_
  refine cpv rfl rfl rfl rfl h rfl (qm (v' := .int .i64 ((i / 8 : Nat) : Int)) (q_quo rfl rfl O2) hq8) ?_
  refine Yq ?_
  refine cpv rfl rfl rfl rfl h rfl (qm (v' := .int .i64 ((i / 8 : Nat) : Int)) (q_quo rfl rfl O2) hq8) ?_
  refine cpv rfl rfl rfl rfl h rfl (qc (o' := i / 8) rfl rfl rfl O0 O8) ?_
  refine qg rfl rfl rfl rfl h (fun w h => qp rfl (qw (v := .int .u8 (byteAt (bs.take i) (i / 8)).toNat) rfl (by have := h.own_rd.cell (bytesV_get hpz); simpa using this))) ?_
  refine Yh ?_; refine qg rfl rfl rfl rfl h (fun _ h => qp rfl (qk rfl (h.b 1) rfl)) ?_; refine Yl ?_
  refine cpv rfl rfl rfl rfl h rfl (qc (o' := i) rfl rfl rfl hlt O8) ?_
  refine qg rfl rfl rfl rfl h (fun w h => qp rfl (qw (v := .int .u8 (b2u x).toNat) rfl (by have := (h.f 2).own_rd.cell (bytesV_get (b2us_get hg)); simpa using this))) ?_
  refine Yl ?_
  refine cpv rfl rfl rfl rfl h rfl (qm (v' := .int .i64 ((i % 8 : Nat) : Int)) (q_rem rfl rfl O2) (congrArg (Value.int .i64) (gy _ 8))) ?_
  refine cpv rfl rfl rfl rfl h rfl (qm (v' := .int .i64 ((7 - i % 8 : Nat) : Int)) (jt rfl rfl) O6) ?_
  refine cpv rfl rfl rfl rfl h rfl (qm (v' := .int .u64 ((7 - i % 8 : Nat) : Int)) (jr rfl) O9) ?_
  refine cpv rfl rfl rfl rfl h rfl (qm (v' := .int .u8 (((b2u x).toNat * 2 ^ (7 - i % 8) : Nat) : Int)) (q_shl rfl rfl O0) (by rw [shl_u8 _ _ O0, Nat.mod_eq_of_lt hx3])) ?_
  refine cpv rfl rfl rfl rfl h rfl (qm (v' := .int .u8 ((byteAt (bs.take i) (i / 8) ||| UInt8.ofNat (x.toNat * 2 ^ (7 - i % 8))).toNat : Int)) (q_or rfl rfl) (by
   rw [← or_bytes, UInt8.toNat_ofNat', b2u_nat] ; rw [b2u_nat] at hx3; rw [Nat.mod_eq_of_lt hx3])) ?_
  refine cpv rfl rfl rfl rfl h rfl (qc (o' := i / 8) rfl rfl rfl O0 O8) ?_
  refine Ym ?_
  refine jy 22 rfl rfl rfl ?_
  refine jh (v := .int .u8 ((byteAt (bs.take i) (i / 8) ||| UInt8.ofNat (x.toNat * 2 ^ (7 - i % 8))).toNat : Int)) h rfl rfl O0 rfl fun w h => ?_
  have hps := pack_snoc (bs.take i) x
  rw [htl] at hps
  rw [bytesV_set, ← hps, ← htk] at h
  refine Y1d ?_
  refine qv (.int .i64 ((i + 1 : Nat) : Int)) O4 ?_
  refine Y2 ?_
  have e1 : i / 8 + 1 = (i + 1 + 7) / 8 := by omega
  rw [e1] at h
  refine qj ⟨(i + 1, some ⟨g, 0, none⟩, oc), ⟨rfl, ?_, rfl, trivial⟩, ⟨by dsimp only; omega, h⟩, by dsimp only; omega⟩
  show Value.slice _ (i / 8 + 1) _ = _
  rw [e1]
 ·have hin : i = bs.length := by simp at hc; omega
  subst hin
  rw [List.take_length] at h
  refine qn ?_
  refine Y4e ?_
  refine qu (bq1 ⟨oa, oc, ?_, ?_⟩)
  ·show Value.slice oa ((bs.length + 7) / 8) oc = _
   rw [jd]
  ·rw [← jd] at h
   exact (St.rw.2 ⟨ba, bc, (h.f 2).f 2⟩ |>.f 1)
end
end Go.Proofs.YtnnehiiblfmpnaaGreatDoor

namespace Go.Hw
theorem le_lead {x n : Nat} : x / 2 ^ n = 0 ↔ len64 x ≤ n := by
 rw [len64_le, Nat.div_eq_zero_iff]
 have := Nat.two_pow_pos n
 omega
theorem tz_even {x n : Nat} (h : n < tz x) : x / 2 ^ n % 2 = 0 := by
 have h1 := tz_dvd (x := x) (t := n + 1) h
 have h2 : x / 2 ^ n = x / 2 ^ (n + 1) * 2 := by
  conv => lhs; rw [← h1]
  rw [Nat.pow_succ, Nat.mul_comm (2 ^ n) 2, ← Nat.mul_assoc, Nat.mul_div_cancel _ (Nat.two_pow_pos n), Nat.mul_comm 2 (2 ^ n), ← Nat.pow_succ]
 omega
end Go.Hw
namespace Go.Proofs.YtnnehiiblfmpnaaGreatDoor
open Go.Hw
set_option maxHeartbeats 4000000
set_option maxRecDepth 100000
section
variable {w0 w : World} {l : List HProp}
theorem ref1_Zig {n : Int} (hn : I64 n) (h : St w0 l w) : Ret Tryz.prog 56 [.int .i64 n] w fun v w' => v = .int .u64 (zigT n : Nat) ∧ St w0 l w' := by
 obtain ⟨h1, h2⟩ := hn
 refine enter Tryz.func56 rfl Tryz.results56 Tryz.ntmps56 rfl ?_
 refine Ye ?_; refine Y1c ?_; refine Y4m ?_
 refine qy (decide (n < 0)) rfl (fun hc => ?_) (fun hc => ?_)
 ·
  have hc : n < 0 := by simpa using hc
  refine Y4 ?_; refine Y1k ?_
  refine qv (.int .i64 (n + 1)) O15 ?_
  refine qz (q_neg rfl) rfl ?_
  refine qv (.int .i64 (-(n + 1))) O6 ?_
  refine Yd ?_
  refine qv (.int .u64 (((-(n + 1)).toNat : Nat) : Int)) O14 ?_
  refine Y41 ?_
  refine qv (.int .u64 ((2 * (-(n + 1)).toNat : Nat) : Int)) O14 ?_
  refine Y1k ?_
  refine qv (.int .u64 ((zigT n : Nat) : Int)) (by rw [je]; unfold us zigT zigU us; congr 1; split <;> omega) ?_
  refine Y5 ?_
  exact qu (bq1 ⟨rfl, h⟩)
 ·
  have hc : 0 ≤ n := by simpa using hc
  refine Yj ?_; refine Y47 ?_
  refine qv (.int .u64 ((n.toNat : Nat) : Int)) O14 ?_
  refine Y41 ?_
  refine qv (.int .u64 ((zigT n : Nat) : Int)) (by rw [je]; unfold us zigT zigU us; congr 1; split <;> omega) ?_
  refine Y5 ?_
  exact qu (bq1 ⟨rfl, h⟩)
theorem ref1_Put {sl : Option Addr} {c : Nat} {bs : List UInt8} (u : Nat) (hu : u < 18446744073709551616) (h : St w0 l w) (hr : ∀ w', St w0 l w' → Rd w' 1 sl bs.length (bytesV bs)) (hn : bs.length ≤ 70368744177664) :
  Ret Tryz.prog 55 [.slice sl bs.length c, .int .u64 u] w fun v w' => ∃ a c', v = .slice a (bs ++ vput u).length c' ∧ St w0 (OwnB a c' (bs ++ vput u) :: l) w' := by
 refine enter Tryz.func55 rfl Tryz.results55 Tryz.ntmps55 rfl ?_
 refine Yo ?_; refine Y1 ?_
 refine qx rfl (qr (r := []) h rfl rfl rfl fun b w h => ?_)
 refine Yn ?_
 have h1 : St w0 (Own 5 1 (some ⟨b, 0, none⟩) 0 0 [] :: l) w := St.own_mk (cur := []) h rfl rfl (Nat.le_refl _)
 refine qx rfl (ql (zs := bytesV bs) (m3 := bs.length) h1 rfl rfl (hr w h1.drop) (bytesV_one _) O0 (List.nil_append _) O0 O0 rfl fun a c1 w _ h => ?_)
 refine Yk ?_
 refine qe (Γ := Nat × List UInt8 × Option Addr × Nat) (fun k => [(1, .int .u64 k.1), (5, .slice k.2.2.1 k.2.1.length k.2.2.2)])
  (fun k w => k.1 < 128 ∧ k.2.1 ++ vput k.1 = bs ++ vput u ∧ St w0 (OwnB k.2.2.1 k.2.2.2 k.2.1 :: l) w) ?_ ?_
 ·refine Ya ?_
  refine qo (Γ := Nat × List UInt8 × Option Addr × Nat) (fun k => [(1, .int .u64 k.1), (5, .slice k.2.2.1 k.2.1.length k.2.2.2)])
   (fun k w => k.1 < 18446744073709551616 ∧ k.2.1 ++ vput k.1 = bs ++ vput u ∧ St w0 (OwnB k.2.2.1 k.2.2.2 k.2.1 :: l) w) (fun k => k.1) (u, bs, a, c1) ⟨rfl, rfl, trivial⟩ ⟨hu, rfl, h⟩ ?_
  clear h hu
  rintro ⟨u', out, a, c⟩ w e ⟨hu, he, h⟩
  dsimp only at hu he h ⊢
  have hlen : out.length ≤ bs.length + 10 := by
   have h1 := congrArg List.length he
   have h2 := q7 u
   have h3 := q7 u'
   simp only [List.length_append] at h1
   omega
  refine Y1c ?_; refine Y1r ?_
  refine qj (qy (decide ((u' : Int) > 127)) rfl (fun hc => ?_) (fun hc => ?_))
  ·
   have hge : 128 ≤ u' := by simp at hc; omega
   refine Y3s ?_; refine Yp ?_
   refine qz (qm (v' := .int .u64 ((u' % 128 : Nat) : Int)) (q_and rfl rfl) (by rw [show bitOp .and .u64 (u' : Int) 127 = ((u' &&& 127 : Nat) : Int) from (jx hu O2).1, show u' &&& 127 = u' % 128 from and_low u' 7])) rfl ?_
   refine qz (qm (v' := .int .u64 ((u' % 128 + 128 : Nat) : Int)) (q_or rfl rfl) (by rw [show bitOp .or .u64 ((u' % 128 : Nat) : Int) 128 = ((u' % 128 ||| 128 : Nat) : Int) from (jx O0 O2).2.1, or_more _ O0, Nat.mod_mod])) rfl ?_
   refine qz (qm (v' := .int .u8 ((UInt8.ofNat (u' % 128 + 128)).toNat : Int)) (jr rfl) O12) rfl ?_
   refine r_app1 (v := .int .u8 ((UInt8.ofNat (u' % 128 + 128)).toNat : Int)) (m3 := (out ++ [UInt8.ofNat (u' % 128 + 128)]).length) (zs := bytesV (out ++ [UInt8.ofNat (u' % 128 + 128)])) h rfl rfl rfl rfl rfl O8 (by simp [bytesV, vcells]) O3 O3 rfl rfl rfl rfl rfl fun b a' c' w _ h => ?_
   refine Y4p ?_
   refine qz (qm (v' := .int .u64 ((u' / 128 : Nat) : Int)) (jk rfl rfl O0) (congrArg (Value.int .u64) (q9 u' 7 64 O2))) rfl ?_
   refine Y2 ?_
   refine qj ⟨(u' / 128, out ++ [UInt8.ofNat (u' % 128 + 128)], a', c'), ⟨rfl, rfl, trivial⟩, ⟨by dsimp only; omega, ?_, h⟩, by dsimp only; omega⟩
   rw [← he, vput_ge O0 hu, List.append_assoc]; rfl
  exact qn ⟨(u', out, a, c), ⟨rfl, rfl, trivial⟩, by simp at hc; dsimp only; omega, he, h⟩
 clear h hu
 rintro ⟨u', out, a, c⟩ w e ⟨hu, he, h⟩
 dsimp only at hu he h ⊢
 rw [vput_lt hu] at he
 have hlen : out.length ≤ bs.length + 10 := by
  have h1 := congrArg List.length he
  have h2 := q7 u
  simp only [List.length_append, List.length_singleton] at h1
  omega
 refine Yp ?_; refine Yd ?_
 refine qv (.int .u8 ((UInt8.ofNat u').toNat : Int)) O12 ?_
 refine r_app1 (v := .int .u8 ((UInt8.ofNat u').toNat : Int)) (m3 := (bs ++ vput u).length) (zs := bytesV (bs ++ vput u)) h rfl rfl rfl rfl rfl (by rw [← he]; simp) (by rw [← he]; simp [bytesV, vcells]) (by rw [← he]; simp; omega) (by rw [← he]; simp; omega) rfl rfl rfl rfl rfl fun b a' c' w _ h => ?_
 refine Yk ?_
 exact qu (bq1 ⟨a', c', rfl, h⟩)
theorem ref4_within (d : Int) {m : Nat} {n : Int} (hm : m ≤ 62) (hn : n = (m : Int) + 1) (h : St w0 l w) : Ret Tryz.prog 192 [.int .i64 d, .int .i64 n] w fun v w' => v = .bool (decide (-(2 ^ m : Int) ≤ d ∧ d < 2 ^ m)) ∧ St w0 l w' := by
 subst hn
 have hp : (2 : Nat) ^ m ≤ 2 ^ 62 := Nat.pow_le_pow_right O2 hm
 have hp0 := Nat.two_pow_pos m
 have hpi := two_pow_int m
 refine enter Tryz.func192 rfl Tryz.results192 Tryz.ntmps192 rfl ?_
 refine Y2b ?_; refine Y4 ?_; refine Y1u ?_
 refine qv (.int .i64 ((m : Nat) : Int)) O6 ?_
 refine Yd ?_
 refine qv (.int .u64 ((m : Nat) : Int)) O9 ?_
 refine qz (qm (v' := .int .i64 (-(2 ^ m : Int))) (q_shl rfl rfl O0) (by rw [shl_i64 O0 ⟨by omega, by omega⟩]; congr 1; omega)) rfl ?_
 refine Y1v ?_
 by_cases h1 : -(2 ^ m : Int) ≤ d
 ·refine qv (.bool true) (congrArg Value.bool (decide_eq_true h1)) ?_
  refine Yy ?_; refine Y1t ?_; refine Y1l ?_
  refine qv (.int .i64 ((m : Nat) : Int)) O6 ?_
  refine Y8 ?_; refine Yd ?_
  refine qv (.int .u64 ((m : Nat) : Int)) O9 ?_
  refine Y8 ?_
  refine qz (qm (v' := .int .i64 (2 ^ m : Int)) (q_shl rfl rfl O0) (by rw [shl_i64 O0 ⟨by omega, by omega⟩]; congr 1; omega)) rfl ?_
  refine Y8 ?_; refine Ys ?_; refine Yg ?_; refine Yb ?_
  refine qu (bq1 ⟨?_, h⟩)
  exact congrArg Value.bool (by simp [h1])
 ·refine qv (.bool false) (congrArg Value.bool (decide_eq_false h1)) ?_
  refine Y2c ?_; refine Y7 ?_; refine Yb ?_
  refine qu (bq1 ⟨?_, h⟩)
  exact congrArg Value.bool (by simp [h1])
theorem ref4_kind (d : Int) (h : St w0 l w) : Ret Tryz.prog 141 [.int .i64 d] w fun v w' => v = .tuple [.int .i64 (which d).bits, .int .u64 (which d).ahead, .int .i64 (which d).long].toArray ∧ St w0 l w' := by
 refine enter Tryz.func141 rfl Tryz.results141 Tryz.ntmps141 rfl ?_
 refine Y23 ?_; refine Y21 ?_
 refine qe (Γ := Unit) (fun _ => []) (fun _ w => which d = ⟨15, 4, 64⟩ ∧ St w0 l w) ?_ ?_
 ·refine Ya ?_; refine Y4 ?_; refine Yc ?_; refine Yb ?_
  refine qy (d == 0) rfl (fun hc => ?_) (fun h0 => ?_)
  ·have hw : which d = ⟨0, 1, 0⟩ := by unfold which; rw [if_pos O23]
   rw [hw]
   refine Y23 ?_; refine Y2 ?_; refine Y2 ?_
   exact qj (qu (bq3 ⟨rfl, h⟩))
  have h0 : ¬ d = 0 := by simpa using h0
  refine Y4 ?_
  refine qx rfl (qq rfl (ref4_within d (m := 6) O2 rfl h) ?_)
  rintro _ w ⟨rfl, h⟩
  refine Yb ?_
  refine qy _ rfl (fun hc => ?_) (fun h1 => ?_)
  ·have hw : which d = ⟨2, 2, 7⟩ := by unfold which; rw [if_neg h0, if_pos O29]
   rw [hw]
   refine Y23 ?_; refine Y2 ?_; refine Y2 ?_
   exact qj (qu (bq3 ⟨rfl, h⟩))
  have h1 : ¬ (-64 ≤ d ∧ d ≤ 63) := by rw [decide_eq_false_iff_not] at h1; omega
  refine Y4 ?_
  refine qx rfl (qq rfl (ref4_within d (m := 8) O2 rfl h) ?_)
  rintro _ w ⟨rfl, h⟩
  refine Yb ?_
  refine qy _ rfl (fun hc => ?_) (fun h2 => ?_)
  ·have hw : which d = ⟨6, 3, 9⟩ := by unfold which; rw [if_neg h0, if_neg h1, if_pos O29]
   rw [hw]
   refine Y23 ?_; refine Y2 ?_; refine Y2 ?_
   exact qj (qu (bq3 ⟨rfl, h⟩))
  have h2 : ¬ (-256 ≤ d ∧ d ≤ 255) := by rw [decide_eq_false_iff_not] at h2; omega
  refine Y4 ?_
  refine qx rfl (qq rfl (ref4_within d (m := 11) O2 rfl h) ?_)
  rintro _ w ⟨rfl, h⟩
  refine Yb ?_
  refine qy _ rfl (fun hc => ?_) (fun h3 => ?_)
  ·have hw : which d = ⟨14, 4, 12⟩ := by unfold which; rw [if_neg h0, if_neg h1, if_neg h2, if_pos O29]
   rw [hw]
   refine Y23 ?_; refine Y2 ?_; refine Y2 ?_
   exact qj (qu (bq3 ⟨rfl, h⟩))
  have h3 : ¬ (-2048 ≤ d ∧ d ≤ 2047) := by rw [decide_eq_false_iff_not] at h3; omega
  exact q4 ⟨(), trivial, by unfold which; rw [if_neg h0, if_neg h1, if_neg h2, if_neg h3], h⟩
 clear h
 rintro ⟨⟩ w e ⟨hw, h⟩
 rw [hw]
 refine Y23 ?_; refine Y2 ?_; refine Y2 ?_
 exact qj (qu (bq3 ⟨rfl, h⟩))
theorem ref4_Times {p : Nat} {bs : List Bool} {sl : Option Addr} {c : Nat} {ts : List Int} (hi : ∀ t ∈ ts, I64 t) (hn : ts.length ≤ 65535) (hb : bs.length ≤ 1073741824) (h : St w0 (IsRW p bs :: l) w) (hr : Reads w0 l 1 sl ts.length (i64V ts)) :
  Ret Tryz.prog 94 [.pointer (some ⟨p, 0, none⟩), .slice sl ts.length c] w fun v w' => v = .tuple #[] ∧ St w0 (IsRW p (bs ++ timesBits ts) :: l) w' := by
 refine enter Tryz.func94 rfl Tryz.results94 Tryz.ntmps94 rfl ?_
 have htl := timesBits_len ts
 have hrd : ∀ {Q : HProp} {w' : World}, St w0 (Q :: l) w' → Rd w' 1 sl ts.length (i64V ts) := fun {Q w'} h' => hr [Q] w' h'
 refine Ye ?_; refine Y19 ?_
 refine qo (Γ := Nat × Nat × List Bool) (fun k => [(0, .pointer (some ⟨p, 0, none⟩)), (1, .slice sl ts.length c), (4, .int .u64 k.2.1), (5, .int .i64 k.1)])
  (fun k w => k.1 ≤ ts.length ∧ k.2.1 < 18446744073709551616 ∧ (k.1 = 0 → k.2.1 = 0 ∧ k.2.2 = bs) ∧ (0 < k.1 → k.2.2 ++ timesRest (us (ts.getD (k.1 - 1) 0)) k.2.1 (ts.drop k.1) = bs ++ timesBits ts) ∧ St w0 (IsRW p k.2.2 :: l) w)
  (fun k => ts.length - k.1) (0, 0, bs) ⟨rfl, rfl, rfl, rfl, trivial⟩ ⟨Nat.zero_le _, (by decide : (0 : Nat) < 18446744073709551616), fun _ => ⟨rfl, rfl⟩, (fun h => absurd h (by decide : ¬ (0 : Nat) < 0)), h⟩ ?_
 clear h
 rintro ⟨i, step, out⟩ w e ⟨hin, hstep, h00, hnz, h⟩
 dsimp only at hin hstep h00 hnz h ⊢
 refine Y2m ?_
 refine qy (decide ((i : Int) < (ts.length : Int))) rfl (fun hc => ?_) (fun hc => ?_)
 ·
  have hlt : i < ts.length := by simp at hc; omega
  have hg := List.getElem?_eq_getElem hlt
  have hdr := List.drop_eq_getElem_cons hlt
  generalize ts[i] = t at hg hdr
  have ht := hi t (List.mem_of_getElem? hg)
  have hut := us_lt t
  have hgd : ts.getD i 0 = t := by rw [List.getD, hg]; rfl
  obtain ⟨b, o, hsl⟩ := (hrd h).some O0
  have hol : out.length ≤ bs.length + (timesBits ts).length := by
   rcases Nat.eq_zero_or_pos i with h0 | h0
   ·rw [(h00 h0).2]; omega
   ·have := congrArg List.length (hnz h0)
    simp only [List.length_append] at this
    omega
  refine Yj ?_
  refine qe (Γ := Nat × List Bool) (fun k => [(0, .pointer (some ⟨p, 0, none⟩)), (1, .slice sl ts.length c), (4, .int .u64 k.1), (5, .int .i64 i)])
   (fun k w => k.1 < 18446744073709551616 ∧ k.2 ++ timesRest (us t) k.1 (ts.drop (i + 1)) = bs ++ timesBits ts ∧ St w0 (IsRW p k.2 :: l) w) ?_ ?_
  ·refine Ya ?_; refine Y2r ?_
   by_cases hi0 : i = 0
   ·refine qv (.bool true) (by subst hi0; rfl) ?_
    refine Yi ?_
    obtain ⟨hs0, ho0⟩ := h00 hi0
    refine Y4f ?_
    refine qz (qc (b := b) (o := o) (m := ts.length) (c := c) (j := 0) (o' := o + 0) O7 rfl rfl O0 O8) rfl ?_
    refine qz (qw (v := .int .i64 t) rfl ((hsl ▸ hrd h).cell (i64V_get (by rw [← hi0]; exact hg)))) rfl ?_
    refine Yd ?_
    refine qv (.int .u64 (us t : Nat)) (by rw [je]) ?_
    refine qx rfl (qq rfl (rw_Put (us t) 64 hut O0 h) ?_)
    rintro _ w ⟨rfl, h⟩
    refine Y3 ?_
    refine qn ⟨(step, out ++ bitsOf (us t) (heldN 64)), ⟨rfl, rfl, rfl, rfl, trivial⟩, hstep, ?_, h⟩
    rw [hi0, List.drop_zero] at hdr
    rw [ho0, hs0, hi0, List.append_assoc]
    conv => rhs; rw [hdr, timesBits]
    rfl
   refine qv (.bool false) O3 ?_
   refine Y9 ?_
   have he := hnz O0
   have hg1 : ts[i - 1]? = some (ts.getD (i - 1) 0) := by
    rw [List.getD, List.getElem?_eq_getElem (show i - 1 < ts.length by omega)]; rfl
   generalize ts.getD (i - 1) 0 = t1 at hg1 he
   have hwas := us_lt t1
   rw [hdr, timesRest] at he
   refine qf (jq none (fun w => St w0 _ w) O1 O1 h.drew fun w h => ?_)
   refine Yq ?_
   refine cpv rfl rfl rfl rfl h rfl (qc (b := b) (o := o) (m := ts.length) (c := c) (o' := o + i) O7 rfl rfl hlt O8) ?_
   refine qg rfl rfl rfl rfl h (fun _ h => qp rfl (qw (v := .int .i64 t) rfl ((hsl ▸ hrd h).cell (i64V_get hg)))) ?_
   refine cpv rfl rfl rfl rfl h rfl (qm (v' := .int .u64 (us t : Nat)) (jr rfl) (by rw [je])) ?_
   refine Yq ?_
   refine cpv rfl rfl rfl rfl h rfl (qm (v' := .int .i64 ((i - 1 : Nat) : Int)) (jt rfl rfl) O6) ?_
   refine cpv rfl rfl rfl rfl h rfl (qc (b := b) (o := o) (m := ts.length) (c := c) (o' := o + (i - 1)) O7 rfl rfl O0 O8) ?_
   refine qg rfl rfl rfl rfl h (fun _ h => qp rfl (qw (v := .int .i64 t1) rfl ((hsl ▸ hrd h).cell (i64V_get hg1)))) ?_
   refine cpv rfl rfl rfl rfl h rfl (qm (v' := .int .u64 (us t1 : Nat)) (jr rfl) (by rw [je])) ?_
   refine cpv rfl rfl rfl rfl h rfl (qm (v' := .int .u64 (diff (us t) (us t1) : Nat)) (jt rfl rfl) (by rw [wrap_diff hwas])) ?_
   refine Y2i ?_
   refine qi ?_
   have hd : diff (diff (us t) (us t1)) step < 18446744073709551616 := Nat.mod_lt _ O2
   have hd1 : diff (us t) (us t1) < 18446744073709551616 := Nat.mod_lt _ O2
   refine Y4 ?_; refine Y1u ?_
   refine qv (.int .u64 (diff (diff (us t) (us t1)) step : Nat)) (by rw [wrap_diff hstep]) ?_
   generalize hde : diff (diff (us t) (us t1)) step = d at *
   obtain ⟨hf1, hf2, hf3⟩ := which_le (sg d)
   have hlen := congrArg List.length he
   simp only [List.length_append, bitsOf_len] at hlen
   refine Yd ?_
   refine qv (.int .i64 (sg d)) (by rw [wrap_sg hd]) ?_
   refine Y5 ?_; refine Y2w ?_; refine Y4 ?_
   refine qx rfl (qq rfl (ref4_kind (sg d) h) ?_)
   rintro _ w ⟨rfl, h⟩
   refine Y3t ?_; refine Y2 ?_; refine Y21 ?_; refine Yt ?_; refine Y0 ?_; refine Y0 ?_
   refine qx rfl (qq rfl (rw_Put (which (sg d)).ahead (which (sg d)).long O0 O0 h) ?_)
   rintro _ w ⟨rfl, h⟩
   refine Y4s ?_; refine Y2k ?_
   refine qv (.int .u64 (d : Nat)) (by rw [je, us_sg hd]) ?_
   refine Y0 ?_
   refine qx rfl (qq rfl (rw_Put d (which (sg d)).bits hd (by rw [heldN_nat O0, List.length_append, bitsOf_len]; omega) h) ?_)
   rintro _ w ⟨rfl, h⟩
   refine qj ⟨(diff (us t) (us t1), _), ⟨rfl, rfl, rfl, rfl, trivial⟩, hd1, ?_, h⟩
   rw [heldN_nat O0, heldN_nat O0, List.append_assoc, List.append_assoc, ← he]
  clear h
  rintro ⟨step', out'⟩ w e ⟨hs', he', h⟩
  dsimp only at hs' he' h ⊢
  refine Y1d ?_
  refine qv (.int .i64 ((i + 1 : Nat) : Int)) O4 ?_
  refine Y2 ?_
  refine qj ⟨(i + 1, step', out'), ⟨rfl, rfl, rfl, rfl, trivial⟩, ⟨hlt, hs', (fun h => by cases h), fun _ => ?_, h⟩, by dsimp only; omega⟩
  dsimp only
  rw [Nat.add_sub_cancel, hgd]
  exact he'
 have hin' : i = ts.length := by simp at hc; omega
 refine qn ?_
 have : out = bs ++ timesBits ts := by
  rcases Nat.eq_zero_or_pos i with h0 | h0
  ·rw [(h00 h0).2]
   have : ts = [] := List.eq_nil_of_length_eq_zero O0
   rw [this]; simp [timesBits]
  ·have := hnz h0
   rw [hin', List.drop_length, timesRest, List.append_nil] at this
   exact this
 rw [← this]
 exact (show (packv [] : Value) = .tuple #[] ∧ _ from ⟨rfl, h⟩)
theorem ref4_ahead {x : Nat} (hx : x < 18446744073709551616) (h : St w0 l w) : Ret Tryz.prog 184 [.int .u64 x] w fun v w' => v = .int .i64 ((winOf x).lead : Nat) ∧ St w0 l w' := by
 have h64 := len64_64 hx
 refine enter Tryz.func184 rfl Tryz.results184 Tryz.ntmps184 rfl ?_
 refine Ye ?_; refine Ye ?_
 refine qe (Γ := Unit) (fun _ => [(3, .int .i64 ((winOf x).lead : Nat))]) (fun _ w => St w0 l w) ?_ ?_
 ·refine Ya ?_
  refine qo (Γ := Nat) (fun k => [(0, .int .u64 x), (3, .int .i64 k)]) (fun k w => k ≤ 31 ∧ k ≤ 64 - len64 x ∧ St w0 l w) (fun k => 31 - k) 0 ⟨rfl, rfl, trivial⟩ ⟨Nat.zero_le _, Nat.zero_le _, h⟩ ?_
  clear h
  rintro n w e ⟨hn, hn2, h⟩
  refine Y3z ?_
  by_cases h31 : n < 31
  ·refine qv (.bool true) O3 ?_
   refine Yy ?_; refine Y1t ?_; refine Y1l ?_
   refine qv (.int .i64 ((63 - n : Nat) : Int)) O6 ?_
   refine Y8 ?_; refine Yd ?_
   refine qv (.int .u64 ((63 - n : Nat) : Int)) O9 ?_
   refine Y8 ?_
   refine qz (qm (v' := .int .u64 ((x / 2 ^ (63 - n) : Nat) : Int)) (jk rfl rfl O0) (congrArg (Value.int .u64) (q9 x (63 - n) _ (show 63 - n ≤ 64 by omega)))) rfl ?_
   refine Y3v ?_
   by_cases h0 : x / 2 ^ (63 - n) = 0
   ·refine qv (.bool true) (by rw [h0]; rfl) ?_
    refine Yg ?_; refine Y1y ?_; refine Ya ?_; refine Y1d ?_
    refine qv (.int .i64 ((n + 1 : Nat) : Int)) O4 ?_
    refine Y2 ?_
    have := le_lead.1 h0
    exact qj ⟨n + 1, ⟨rfl, rfl, trivial⟩, ⟨by omega, by omega, h⟩, by omega⟩
   ·refine qv (.bool false) O5 ?_
    refine Yg ?_; refine Y11 ?_
    have : ¬ len64 x ≤ 63 - n := fun hh => h0 (le_lead.2 hh)
    refine qn ⟨(), ⟨?_, trivial⟩, h⟩
    show Value.int .i64 (n : Int) = _
    rw [lead31]; congr 1; omega
  ·refine qv (.bool false) O3 ?_
   refine Y2c ?_; refine Y7 ?_; refine Y11 ?_
   refine qn ⟨(), ⟨?_, trivial⟩, h⟩
   show Value.int .i64 (n : Int) = _
   rw [lead31]; congr 1; omega
 clear h
 rintro ⟨⟩ w e h
 refine Y4 ?_; refine Y2 ?_
 exact qj (qu (bq1 ⟨rfl, h⟩))
theorem ref4_behind {x : Nat} (h0 : x ≠ 0) (hx : x < 18446744073709551616) (h : St w0 l w) : Ret Tryz.prog 185 [.int .u64 x] w fun v w' => v = .int .i64 (tz x : Nat) ∧ St w0 l w' := by
 obtain ⟨ht1, ht2⟩ := tzA_odd 64 x h0 hx
 have ht1 : x / 2 ^ tz x % 2 = 1 := ht1
 have ht2 : tz x < 64 := ht2
 refine enter Tryz.func185 rfl Tryz.results185 Tryz.ntmps185 rfl ?_
 refine Ye ?_; refine Ye ?_
 refine qe (Γ := Unit) (fun _ => [(3, .int .i64 (tz x : Nat))]) (fun _ w => St w0 l w) ?_ ?_
 ·refine Ya ?_
  refine qo (Γ := Nat) (fun k => [(0, .int .u64 x), (3, .int .i64 k)]) (fun k w => k ≤ tz x ∧ St w0 l w) (fun k => tz x - k) 0 ⟨rfl, rfl, trivial⟩ ⟨Nat.zero_le _, h⟩ ?_
  clear h
  rintro n w e ⟨hn, h⟩
  refine Y1c ?_; refine Y2k ?_
  refine qv (.int .u64 (n : Int)) O9 ?_
  refine qz (qm (v' := .int .u64 ((x / 2 ^ n : Nat) : Int)) (jk rfl rfl O0) (congrArg (Value.int .u64) (q9 x n _ (show n ≤ 64 by omega)))) rfl ?_
  refine qz (qm (v' := .int .u64 ((x / 2 ^ n % 2 : Nat) : Int)) (q_and rfl rfl) (by
   rw [show bitOp .and .u64 ((x / 2 ^ n : Nat) : Int) 1 = ((x / 2 ^ n &&& 1 : Nat) : Int) from (jx (Nat.lt_of_le_of_lt (Nat.div_le_self _ _) hx) O2).1, Nat.and_one_is_mod])) rfl ?_
  refine Yc ?_
  by_cases hlt : n < tz x
  ·rw [tz_even hlt]
   refine Y1y ?_; refine Ya ?_; refine Y1d ?_
   refine qv (.int .i64 ((n + 1 : Nat) : Int)) O4 ?_
   refine Y2 ?_
   exact qj ⟨n + 1, ⟨rfl, rfl, trivial⟩, ⟨by omega, h⟩, by omega⟩
  ·obtain rfl : n = tz x := by omega
   rw [ht1]
   refine Y11 ?_
   exact qn ⟨(), ⟨rfl, trivial⟩, h⟩
 clear h
 rintro ⟨⟩ w e h
 refine Y4 ?_; refine Y2 ?_
 exact qj (qu (bq1 ⟨rfl, h⟩))
end
end Go.Proofs.YtnnehiiblfmpnaaGreatDoor

namespace Go.Hw
def kNum (k : Nat) : Nat := (kindsL.getD k (0, 0)).1
def kBit (k : Nat) : Nat := (kindsL.getD k (0, 0)).2
abbrev intsV (l : List Nat) : List Value := l.map fun v : Nat => Value.int .i64 (v : Int)
def numsL : List Nat := [240, 120, 60, 30, 20, 15, 12, 10, 8, 7, 6, 5, 4, 3, 2, 1]
def bitsL : List Nat := [0, 0, 1, 2, 3, 4, 5, 6, 7, 8, 10, 12, 15, 20, 30, 60]
theorem numsL_get : ∀ k, k < 16 → numsL[k]? = some (kNum k) := by decide
theorem bitsL_get : ∀ k, k < 16 → bitsL[k]? = some (kBit k) := by decide
theorem intsV_get {l : List Nat} {j v : Nat} (h : l[j]? = some v) : (intsV l)[j]? = some (.int .i64 (v : Int)) := by simp [intsV, h]
theorem kinds_at {k : Nat} (h : k < 16) : kindsL[k]? = some (kNum k, kBit k) := by
 rw [List.getElem?_eq_getElem (show k < kindsL.length from h)]
 unfold kNum kBit
 rw [List.getD, List.getElem?_eq_getElem (show k < kindsL.length from h)]
 rfl
theorem kinds_two : ∀ k, k < 16 → (k < 2 ↔ kBit k = 0) := by decide
theorem kinds_le : ∀ k, k < 16 → kNum k ≤ 240 ∧ kBit k ≤ 60 ∧ 0 < kNum k ∧ kBit k * kNum k ≤ 60 := by decide
theorem idx_lead (x : Nat) (r : List Nat) {j : Nat} (h : j < lead x r) : r[j]? = some x := by
 have h1 := lead_split x r
 rw [← h1, List.getElem?_append_left O17]
 simp [h]
theorem idx_lead_end (x : Nat) (r : List Nat) : r[lead x r]? ≠ some x := by
 have := lead_head x r
 rwa [List.head?_drop] at this
end Go.Hw
namespace Go.Proofs.YtnnehiiblfmpnaaGreatDoor
open Go.Hw
set_option maxHeartbeats 4000000
set_option maxRecDepth 100000
instance und16 : Und Tryz.prog 316 (.array 16 3) := ⟨Tryz.underlying316⟩
section
variable {w0 w : World} {l : List HProp}
theorem ref4_Values {p : Nat} {bs : List Bool} {sl : Option Addr} {c : Nat} {vs : List Nat} (hv : ∀ v ∈ vs, v < 18446744073709551616) (hn : vs.length ≤ 65535) (hb : bs.length ≤ 1073741824) (h : St w0 (IsRW p bs :: l) w) (hr : Reads w0 l 1 sl vs.length (u64V vs)) :
  Ret Tryz.prog 134 [.pointer (some ⟨p, 0, none⟩), .slice sl vs.length c] w fun v w' => v = .tuple #[] ∧ St w0 (IsRW p (bs ++ xorBits vs) :: l) w' := by
 have htl := xorBits_len vs
 have hrd : ∀ {Q : HProp} {w' : World}, St w0 (Q :: l) w' → Rd w' 1 sl vs.length (u64V vs) := fun {Q w'} h' => hr [Q] w' h'
 refine enter Tryz.func134 rfl Tryz.results134 Tryz.ntmps134 rfl ?_
 refine Y3p ?_; refine Y21 ?_; refine Y19 ?_
 refine qo (Γ := Nat × Win × List Bool) (fun k => [(0, .pointer (some ⟨p, 0, none⟩)), (1, .slice sl vs.length c), (4, .bool k.2.1.is), (5, .int .i64 k.2.1.lead), (6, .int .i64 k.2.1.trail), (7, .int .i64 k.1)])
  (fun k w => k.1 ≤ vs.length ∧ WinOk k.2.1 ∧ (k.1 = 0 → k.2.1 = ⟨false, 0, 0⟩ ∧ k.2.2 = bs) ∧ (0 < k.1 → k.2.2 ++ xorRest k.2.1 (vs.getD (k.1 - 1) 0) (vs.drop k.1) = bs ++ xorBits vs) ∧ St w0 (IsRW p k.2.2 :: l) w)
  (fun k => vs.length - k.1) (0, ⟨false, 0, 0⟩, bs) ⟨rfl, rfl, rfl, rfl, rfl, rfl, trivial⟩ ⟨Nat.zero_le _, (show (0 : Nat) + 0 ≤ 63 by decide), fun _ => ⟨rfl, rfl⟩, (fun h => absurd h (by decide : ¬ (0 : Nat) < 0)), h⟩ ?_
 clear h
 rintro ⟨i, win, out⟩ w e ⟨hin, hwo, h00, hnz, h⟩
 dsimp only at hin hwo h00 hnz h ⊢
 refine Y2m ?_
 refine qy (decide ((i : Int) < (vs.length : Int))) rfl (fun hc => ?_) (fun hc => ?_)
 ·
  have hlt : i < vs.length := by simp at hc; omega
  have hg := List.getElem?_eq_getElem hlt
  have hdr := List.drop_eq_getElem_cons hlt
  generalize vs[i] = now at hg hdr
  have hnow := hv now (List.mem_of_getElem? hg)
  have hgd : vs.getD i 0 = now := by rw [List.getD, hg]; rfl
  obtain ⟨bs_, o, hsl⟩ := (hrd h).some O0
  have hol : out.length ≤ bs.length + (xorBits vs).length := by
   rcases Nat.eq_zero_or_pos i with h0 | h0
   ·rw [(h00 h0).2]; omega
   ·have := congrArg List.length (hnz h0)
    simp only [List.length_append] at this
    omega
  refine Yj ?_
  refine qe (Γ := Win × List Bool) (fun k => [(0, .pointer (some ⟨p, 0, none⟩)), (1, .slice sl vs.length c), (4, .bool k.1.is), (5, .int .i64 k.1.lead), (6, .int .i64 k.1.trail), (7, .int .i64 i)])
   (fun k w => WinOk k.1 ∧ k.2 ++ xorRest k.1 now (vs.drop (i + 1)) = bs ++ xorBits vs ∧ St w0 (IsRW p k.2 :: l) w) ?_ ?_
  ·refine Ya ?_; refine Y2r ?_
   by_cases hi0 : i = 0
   ·refine qv (.bool true) (by subst hi0; rfl) ?_
    refine Yi ?_
    obtain ⟨hw0, ho0⟩ := h00 hi0
    refine Y4f ?_
    refine qz (qc (b := bs_) (o := o) (m := vs.length) (c := c) (j := 0) (o' := o + 0) O7 rfl rfl O0 O8) rfl ?_
    refine qz (qw (v := .int .u64 now) rfl ((hsl ▸ hrd h).cell (u64V_get (by rw [← hi0]; exact hg)))) rfl ?_
    refine qx rfl (qq rfl (rw_Put now 64 hnow O0 h) ?_)
    rintro _ w ⟨rfl, h⟩
    refine Y3 ?_
    refine qn ⟨(win, out ++ bitsOf now (heldN 64)), ⟨rfl, rfl, rfl, rfl, rfl, rfl, trivial⟩, hwo, ?_, h⟩
    rw [hi0, List.drop_zero] at hdr
    rw [ho0, hw0, hi0, List.append_assoc]
    conv => rhs; rw [hdr, xorBits]
    rfl
   refine qv (.bool false) O3 ?_
   refine Y9 ?_
   have he := hnz O0
   have hg1 : vs[i - 1]? = some (vs.getD (i - 1) 0) := by
    rw [List.getD, List.getElem?_eq_getElem (show i - 1 < vs.length by omega)]; rfl
   generalize vs.getD (i - 1) 0 = was at hg1 he
   have hwas := hv was (List.mem_of_getElem? hg1)
   have hx : now ^^^ was < 18446744073709551616 := Nat.xor_lt_two_pow (n := 64) hnow hwas
   rw [hdr, xorRest] at he
   refine qf (jq none (fun w => St w0 _ w) O1 O1 h.drew fun w h => ?_)
   refine Yq ?_
   refine cpv rfl rfl rfl rfl h rfl (qc (b := bs_) (o := o) (m := vs.length) (c := c) (o' := o + i) O7 rfl rfl hlt O8) ?_
   refine qg rfl rfl rfl rfl h (fun _ h => qp rfl (qw (v := .int .u64 now) rfl ((hsl ▸ hrd h).cell (u64V_get hg)))) ?_
   refine Yq ?_
   refine cpv rfl rfl rfl rfl h rfl (qm (v' := .int .i64 ((i - 1 : Nat) : Int)) (jt rfl rfl) O6) ?_
   refine cpv rfl rfl rfl rfl h rfl (qc (b := bs_) (o := o) (m := vs.length) (c := c) (o' := o + (i - 1)) O7 rfl rfl O0 O8) ?_
   refine qg rfl rfl rfl rfl h (fun _ h => qp rfl (qw (v := .int .u64 was) rfl ((hsl ▸ hrd h).cell (u64V_get hg1)))) ?_
   refine cpv rfl rfl rfl rfl h rfl (qm (v' := .int .u64 ((now ^^^ was : Nat) : Int)) (q_xor rfl rfl) (by rw [(jx hnow hwas).2.2])) ?_
   refine Y2i ?_
   refine qi ?_
   generalize now ^^^ was = x at hx he
   refine Y2r ?_
   by_cases hx0 : x = 0
   ·refine qv (.bool true) (by rw [hx0]; rfl) ?_
    refine Yi ?_
    rw [if_pos hx0] at he
    refine Yt ?_
    refine qx rfl (qq rfl (rw_Put 0 1 O2 O0 h) ?_)
    rintro _ w ⟨rfl, h⟩
    refine Y3 ?_
    refine qn ⟨(win, out ++ bitsOf 0 (heldN 1)), ⟨rfl, rfl, rfl, rfl, rfl, rfl, trivial⟩, hwo, ?_, h⟩
    rw [← he, List.append_assoc]; rfl
   refine qv (.bool false) O5 ?_
   refine Y9 ?_
   rw [if_neg hx0] at he
   obtain ⟨l1, l2, l3, l4⟩ := winOf_long hx0 hx
   refine Yt ?_
   refine qx rfl (qq rfl (rw_Put 1 1 O2 O0 h) ?_)
   rintro _ w ⟨rfl, h⟩
   refine Y3 ?_
   have hl1 : (out ++ bitsOf 1 (heldN 1)).length = out.length + 1 := by rw [List.length_append]; rfl
   refine qf (qe (Γ := Bool) (fun k => [(0, .pointer (some ⟨p, 0, none⟩)), (1, .slice sl vs.length c), (4, .bool win.is), (5, .int .i64 win.lead), (6, .int .i64 win.trail), (7, .int .i64 i), (8, .int .u64 x), (50, .bool k)])
    (fun k w => k = win.fits x ∧ St w0 (IsRW p (out ++ bitsOf 1 (heldN 1)) :: l) w) ?_ ?_)
   ·refine j0 ?_
    have hfit : win.fits x = (win.is && decide (win.lead ≤ (winOf x).lead) && decide (win.trail ≤ (winOf x).trail)) := rfl
    cases hi : win.is with
    | false =>
     refine Y2e ?_; refine Y3y ?_; refine Y3y ?_
     exact qj ⟨false, ⟨rfl, rfl, rfl, rfl, rfl, rfl, rfl, rfl, trivial⟩, by rw [hfit, hi]; rfl, h⟩
    | true =>
     refine Y2e ?_; refine Yy ?_
     refine qx rfl (qq rfl (ref4_ahead hx h) ?_)
     rintro _ w ⟨rfl, h⟩
     refine Y4u ?_; refine Y1v ?_; refine Yg ?_
     by_cases h1 : win.lead ≤ (winOf x).lead
     ·refine qv (.bool true) O10 ?_
      refine Yy ?_
      refine qx rfl (qq rfl (ref4_behind hx0 hx h) ?_)
      rintro _ w ⟨rfl, h⟩
      refine Y4u ?_; refine Y1v ?_; refine Yg ?_
      refine qj ⟨decide (win.trail ≤ (winOf x).trail), ⟨rfl, rfl, rfl, rfl, rfl, rfl, rfl, ?_, trivial⟩, by rw [hfit, hi, decide_eq_true h1]; rfl, h⟩
      show Value.bool _ = _
      congr 1
      rw [decide_eq_decide]
      show (tz x : Int) ≥ _ ↔ win.trail ≤ tz x
      omega
     ·refine qv (.bool false) O11 ?_
      refine Y3y ?_
      exact qj ⟨false, ⟨rfl, rfl, rfl, rfl, rfl, rfl, rfl, rfl, trivial⟩, by rw [hfit, hi, decide_eq_false h1]; rfl, h⟩
   clear h
   rintro k w e ⟨hk, h⟩
   have hw1 := hwo
   unfold WinOk at hw1
   refine qy k rfl (fun hc => ?_) (fun hc => ?_)
   ·
    rw [if_pos (by rw [← hk]; exact hc)] at he
    refine Yt ?_
    refine qx rfl (qq rfl (rw_Put 0 1 O2 O0 h) ?_)
    rintro _ w ⟨rfl, h⟩
    refine Y2u ?_; refine Y0 ?_; refine Y2k ?_
    refine qv (.int .u64 (win.trail : Int)) O9 ?_
    refine qz (qm (v' := .int .u64 ((x / 2 ^ win.trail : Nat) : Int)) (jk rfl rfl O0) (congrArg (Value.int .u64) (q9 x win.trail _ (show win.trail ≤ 64 by omega)))) rfl ?_
    refine Y1u ?_
    refine qv (.int .i64 ((64 - win.lead : Nat) : Int)) O6 ?_
    refine Y1u ?_
    refine qv (.int .i64 ((win.long : Nat) : Int)) (by unfold Win.long; rw [wrap64 O0 O0]; congr 1; omega) ?_
    refine qx rfl (qq rfl (rw_Put (x / 2 ^ win.trail) win.long (Nat.lt_of_le_of_lt (Nat.div_le_self _ _) hx) (by rw [List.length_append, hl1, bitsOf_len, show heldN 1 = 1 from rfl]; omega) h) ?_)
    rintro _ w ⟨rfl, h⟩
    refine Y3 ?_
    refine qn ⟨(win, _), ⟨rfl, rfl, rfl, rfl, rfl, rfl, trivial⟩, hwo, ?_, h⟩
    rw [heldN_nat (win_long_le win), ← he]
    simp only [List.append_assoc]
    rfl
   rw [if_neg (by rw [← hk, hc]; simp)] at he
   refine Yj ?_; refine Y4 ?_
   refine qx rfl (qq rfl (ref4_ahead hx h) ?_)
   rintro _ w ⟨rfl, h⟩
   refine Y0 ?_
   refine qx rfl (qq rfl (ref4_behind hx0 hx h) ?_)
   rintro _ w ⟨rfl, h⟩
   replace l1 : (winOf x).lead + tz x + (winOf x).long = 64 := l1
   refine Yf ?_; refine Y21 ?_; refine Yt ?_
   refine qx rfl (qq rfl (rw_Put 1 1 O2 O0 h) ?_)
   rintro _ w ⟨rfl, h⟩
   have hl2 : (out ++ bitsOf 1 (heldN 1) ++ bitsOf 1 (heldN 1)).length = out.length + 2 := by rw [List.length_append, hl1]; rfl
   refine Y2u ?_; refine Y2k ?_
   refine qv (.int .u64 ((winOf x).lead : Int)) O9 ?_
   refine qx rfl (qq rfl (rw_Put (winOf x).lead 5 O0 O0 h) ?_)
   rintro _ w ⟨rfl, h⟩
   refine Y2u ?_; refine Y1u ?_
   refine qv (.int .i64 ((63 - (winOf x).lead : Nat) : Int)) O6 ?_
   refine Y1u ?_
   refine qv (.int .i64 (((winOf x).long - 1 : Nat) : Int)) O6 ?_
   refine Yd ?_
   refine qv (.int .u64 (((winOf x).long - 1 : Nat) : Int)) O9 ?_
   refine qx rfl (qq rfl (rw_Put ((winOf x).long - 1) 6 O0 (by rw [List.length_append, hl2, bitsOf_len, show heldN 5 = 5 from rfl]; omega) h) ?_)
   rintro _ w ⟨rfl, h⟩
   refine Y4s ?_; refine Y0 ?_; refine Y2k ?_
   refine qv (.int .u64 (tz x : Int)) O9 ?_
   refine qz (qm (v' := .int .u64 ((x / 2 ^ tz x : Nat) : Int)) (jk rfl rfl O0) (congrArg (Value.int .u64) (q9 x (tz x) _ (show tz x ≤ 64 by omega)))) rfl ?_
   refine Y1u ?_
   refine qv (.int .i64 ((64 - (winOf x).lead : Nat) : Int)) O6 ?_
   refine Y1u ?_
   refine qv (.int .i64 (((winOf x).long : Nat) : Int)) O6 ?_
   refine qx rfl (qq rfl (rw_Put (x / 2 ^ tz x) (winOf x).long (Nat.lt_of_le_of_lt (Nat.div_le_self _ _) hx) (by rw [List.length_append, List.length_append, hl2, bitsOf_len, bitsOf_len, show heldN 5 = 5 from rfl, show heldN 6 = 6 from rfl]; omega) h) ?_)
   rintro _ w ⟨rfl, h⟩
   refine qj ⟨(winOf x, _), ⟨rfl, rfl, rfl, rfl, rfl, rfl, trivial⟩, winOk_of hx0 hx, ?_, h⟩
   rw [heldN_nat O0, ← he]
   simp only [List.append_assoc]
   rfl
  clear h
  rintro ⟨win, out⟩ w e ⟨hwo, he, h⟩
  dsimp only at hwo he h ⊢
  refine Y1d ?_
  refine qv (.int .i64 ((i + 1 : Nat) : Int)) O4 ?_
  refine Y2 ?_
  refine qj ⟨(i + 1, win, out), ⟨rfl, rfl, rfl, rfl, rfl, rfl, trivial⟩, ⟨hlt, hwo, (fun h => by cases h), fun _ => ?_, h⟩, by dsimp only; omega⟩
  dsimp only
  rw [Nat.add_sub_cancel, hgd]
  exact he
 have hin' : i = vs.length := by simp at hc; omega
 refine qn ?_
 have : out = bs ++ xorBits vs := by
  rcases Nat.eq_zero_or_pos i with h0 | h0
  ·rw [(h00 h0).2]
   have : vs = [] := List.eq_nil_of_length_eq_zero O0
   rw [this]; simp [xorBits]
  ·have := hnz h0
   rw [hin', List.drop_length, xorRest, List.append_nil] at this
   exact this
 rw [← this]
 exact (show (packv [] : Value) = .tuple #[] ∧ _ from ⟨rfl, h⟩)
theorem ref4_numbers {k : Nat} (hk : k < 16) (h : St w0 l w) : Ret Tryz.prog 187 [.int .i64 k] w fun v w' => v = .int .i64 (kNum k) ∧ St w0 l w' := by
 refine enter Tryz.func187 rfl Tryz.results187 Tryz.ntmps187 rfl ?_
 refine Ye ?_; refine Y1 ?_
 refine qz (q_abuild (m := 16) (r := intsV numsL) O1) rfl ?_
 refine qx rfl (q5 h fun b w h => ?_)
 refine qx rfl (qs (vs := intsV numsL) 0 h rfl rfl rfl rfl rfl rfl rfl fun w h => ?_)
 replace h : St w0 (pt b (.cells (intsV numsL).toArray 316 (0, 0)) :: l) w := h
 refine Y3 ?_; refine Y4 ?_
 refine qz (q_aidx (m := 16) (o' := k) rfl rfl rfl hk O8) rfl ?_
 refine qz (qk (v := .int .i64 (kNum k)) rfl (h.b 0 rfl) (intsV_get (numsL_get k hk))) rfl ?_
 refine Y2 ?_
 exact qj (qu (bq1 ⟨rfl, h.drop⟩))
theorem ref4_bits {k : Nat} (hk : k < 16) (h : St w0 l w) : Ret Tryz.prog 188 [.int .i64 k] w fun v w' => v = .int .i64 (kBit k) ∧ St w0 l w' := by
 refine enter Tryz.func188 rfl Tryz.results188 Tryz.ntmps188 rfl ?_
 refine Ye ?_; refine Y1 ?_
 refine qz (q_abuild (m := 16) (r := intsV bitsL) O1) rfl ?_
 refine qx rfl (q5 h fun b w h => ?_)
 refine qx rfl (qs (vs := intsV bitsL) 0 h rfl rfl rfl rfl rfl rfl rfl fun w h => ?_)
 replace h : St w0 (pt b (.cells (intsV bitsL).toArray 316 (0, 0)) :: l) w := h
 refine Y3 ?_; refine Y4 ?_
 refine qz (q_aidx (m := 16) (o' := k) rfl rfl rfl hk O8) rfl ?_
 refine qz (qk (v := .int .i64 (kBit k)) rfl (h.b 0 rfl) (intsV_get (bitsL_get k hk))) rfl ?_
 refine Y2 ?_
 exact qj (qu (bq1 ⟨rfl, h.drop⟩))
theorem ref4_fits {k : Nat} (hk : k < 16) {sl : Option Addr} {c : Nat} {u : List Nat} (hu : ∀ x ∈ u, x < 18446744073709551616) (hn : u.length ≤ 65535) (hr : Reads w0 l 1 sl u.length (u64V u)) (h : St w0 l w) :
  Ret Tryz.prog 186 [.slice sl u.length c, .int .i64 k] w fun v w' => v = .bool (fitsK (kNum k, kBit k) u).isSome ∧ St w0 l w' := by
 obtain ⟨k1, k2, k3, _⟩ := kinds_le k hk
 have k4 := kinds_two k hk
 refine enter Tryz.func186 rfl Tryz.results186 Tryz.ntmps186 rfl ?_
 refine Y2b ?_
 refine qe (Γ := Unit) (fun _ => [(0, .slice sl u.length c), (1, .int .i64 k)]) (fun _ w => ¬ (kBit k = 0 ∧ u.length < kNum k) ∧ St w0 l w) ?_ ?_
 ·refine Y4 ?_; refine Ys ?_
  by_cases h2 : k < 2
  ·refine qv (.bool true) O3 ?_
   refine Y3a ?_; refine Y1t ?_
   refine qx rfl (qq rfl (ref4_numbers hk h) ?_)
   rintro _ w ⟨rfl, h⟩
   refine Y8 ?_; refine Ys ?_; refine Yg ?_
   by_cases h3 : u.length < kNum k
   ·refine qv (.bool true) O3 ?_
    refine Y2j ?_; refine Yf ?_
    refine qj (qu (bq1 ⟨?_, h⟩))
    unfold fitsK
    rw [if_pos ⟨k4.1 h2, h3⟩]; rfl
   ·refine qv (.bool false) O3 ?_
    refine qj (q8 rfl (q4 ⟨(), ⟨rfl, rfl, trivial⟩, fun hh => h3 hh.2, h⟩))
  ·refine qv (.bool false) O3 ?_
   refine Y4q ?_
   refine qj (q8 rfl (q4 ⟨(), ⟨rfl, rfl, trivial⟩, fun hh => h2 (k4.2 hh.1), h⟩))
 clear h
 rintro ⟨⟩ w e ⟨hno, h⟩
 have hfit : fitsK (kNum k, kBit k) u = if (u.take (kNum k)).all (fun x => decide (len64 x ≤ kBit k)) = true then some (min u.length (kNum k)) else none := by
  unfold fitsK
  rw [if_neg hno]
 refine qe (Γ := Unit) (fun _ => []) (fun _ w => (fitsK (kNum k, kBit k) u).isSome = true ∧ St w0 l w) ?_ ?_
 ·refine Y19 ?_
  refine qo (Γ := Nat) (fun j => [(0, .slice sl u.length c), (1, .int .i64 k), (5, .int .i64 j)]) (fun j w => j ≤ u.length ∧ j ≤ kNum k ∧ (u.take j).all (fun x => decide (len64 x ≤ kBit k)) = true ∧ St w0 l w) (fun j => u.length - j) 0 ⟨rfl, rfl, rfl, trivial⟩ ⟨Nat.zero_le _, Nat.zero_le _, rfl, h⟩ ?_
  clear h
  rintro j w e ⟨hj, hj2, hall, h⟩
  refine Y51 ?_; refine Ys ?_
  by_cases hlt : j < u.length
  ·refine qv (.bool true) O3 ?_
   refine Yy ?_; refine Y1t ?_
   refine qx rfl (qq rfl (ref4_numbers hk h) ?_)
   rintro _ w ⟨rfl, h⟩
   refine Y8 ?_; refine Ys ?_; refine Yg ?_
   by_cases hlk : j < kNum k
   ·refine qv (.bool true) O3 ?_
    refine Y1y ?_
    have hg := List.getElem?_eq_getElem hlt
    generalize u[j] = x at hg
    have hx := hu x (List.mem_of_getElem? hg)
    obtain ⟨b, o, hsl⟩ := (hr.at_ h).some O0
    refine Y1x ?_
    refine qf (jq none (fun w => St w0 l w) O1 O1 h.drew fun w h => ?_)
    refine Yq ?_
    refine cpv rfl rfl rfl rfl h rfl (qc (b := b) (o := o) (m := u.length) (c := c) (o' := o + j) O7 rfl rfl hlt O8) ?_
    refine qg rfl rfl rfl rfl h (fun _ h => qp rfl (qw (v := .int .u64 x) rfl ((hsl ▸ hr.at_ h).cell (u64V_get hg)))) ?_
    refine Yl ?_; refine Y13 ?_
    refine qt 5 rfl rfl rfl rfl ?_
    refine (qq rfl (ref4_bits hk h) ?_)
    rintro _ w ⟨rfl, h⟩
    refine ⟨fun _ => h, ?_⟩
    refine cpv rfl rfl rfl rfl h rfl (qm (v' := .int .u64 (kBit k : Int)) (jr rfl) O9) ?_
    refine cpv rfl rfl rfl rfl h rfl (qm (v' := .int .u64 ((x / 2 ^ kBit k : Nat) : Int)) (jk rfl rfl O0) (congrArg (Value.int .u64) (q9 x (kBit k) _ (show kBit k ≤ 64 by omega)))) ?_
    refine cpv rfl rfl rfl rfl h rfl (q_neq rfl rfl) ?_
    refine qi ?_
    refine qy (((x / 2 ^ kBit k : Nat) : Int) != 0) rfl (fun hc => ?_) (fun hc => ?_)
    ·have hb : ¬ len64 x ≤ kBit k := fun hh => by rw [le_lead.2 hh] at hc; simp at hc
     refine Y3p ?_
     refine qj (qu (bq1 ⟨?_, h⟩))
     rw [hfit, if_neg]
     ·rfl
     ·intro hh
      rw [List.all_eq_true] at hh
      have hm : x ∈ u.take (kNum k) := by
       have : (u.take (kNum k))[j]? = some x := by rw [List.getElem?_take, if_pos hlk, hg]
       exact List.mem_of_getElem? this
      exact hb (by simpa using hh x hm)
    ·have hb : len64 x ≤ kBit k := le_lead.1 (by rw [bne_eq_false_iff_eq] at hc; omega)
     refine Y4t ?_
     refine qv (.int .i64 ((j + 1 : Nat) : Int)) O4 ?_
     refine Y2 ?_
     exact qj ⟨j + 1, ⟨rfl, rfl, rfl, trivial⟩, ⟨hlt, hlk, all_take_succ _ hg hall (by simpa using hb), h⟩, by omega⟩
   ·refine qv (.bool false) O3 ?_
    obtain rfl : j = kNum k := by omega
    refine qj (q8 rfl (qn ⟨(), trivial, ?_, h⟩))
    rw [hfit, if_pos hall]; rfl
  ·refine qv (.bool false) O3 ?_
   refine Y3y ?_
   refine qj (q8 rfl (qn ⟨(), trivial, ?_, h⟩))
   rw [hfit, if_pos]
   ·rfl
   ·rw [List.take_of_length_le O0] at hall ⊢; exact hall
 clear h
 rintro ⟨⟩ w e ⟨hs, h⟩
 rw [hs]
 refine Y3p ?_
 exact qj (qu (bq1 ⟨rfl, h⟩))
theorem ref4_width {x : Nat} (hx : x < 18446744073709551616) (h : St w0 l w) : Ret Tryz.prog 190 [.int .u64 x] w fun v w' => v = .int .i64 (len64 x) ∧ St w0 l w' := by
 have h64 := len64_64 hx
 refine enter Tryz.func190 rfl Tryz.results190 Tryz.ntmps190 rfl ?_
 refine Ye ?_; refine Ye ?_
 refine qe (Γ := Unit) (fun _ => [(3, .int .i64 (len64 x : Nat))]) (fun _ w => St w0 l w) ?_ ?_
 ·refine Ya ?_
  refine qo (Γ := Nat) (fun k => [(0, .int .u64 x), (3, .int .i64 k)]) (fun k w => k ≤ len64 x ∧ St w0 l w) (fun k => 64 - k) 0 ⟨rfl, rfl, trivial⟩ ⟨Nat.zero_le _, h⟩ ?_
  clear h
  rintro n w e ⟨hn, h⟩
  refine Y3z ?_
  by_cases hl : n < 64
  ·refine qv (.bool true) O3 ?_
   refine Yy ?_; refine Y1t ?_; refine Yd ?_
   refine qv (.int .u64 (n : Int)) O9 ?_
   refine Y8 ?_
   refine qz (qm (v' := .int .u64 ((x / 2 ^ n : Nat) : Int)) (jk rfl rfl O0) (congrArg (Value.int .u64) (q9 x n _ (show n ≤ 64 by omega)))) rfl ?_
   refine Y8 ?_; refine Y3c ?_; refine Yg ?_
   by_cases h0 : x / 2 ^ n = 0
   ·refine qv (.bool false) (by rw [h0]; rfl) ?_
    have := le_lead.1 h0
    obtain rfl : n = len64 x := by omega
    exact qj (q8 rfl (qn ⟨(), ⟨rfl, trivial⟩, h⟩))
   ·refine qv (.bool true) O21 ?_
    have : ¬ len64 x ≤ n := fun hh => h0 (le_lead.2 hh)
    refine Y1y ?_; refine Ya ?_; refine Y1d ?_
    refine qv (.int .i64 ((n + 1 : Nat) : Int)) O4 ?_
    refine Y2 ?_
    exact qj ⟨n + 1, ⟨rfl, rfl, trivial⟩, ⟨by omega, h⟩, by omega⟩
  ·refine qv (.bool false) O3 ?_
   refine Y4q ?_
   obtain rfl : n = len64 x := by omega
   exact qj (q8 rfl (qn ⟨(), ⟨rfl, trivial⟩, h⟩))
 clear h
 rintro ⟨⟩ w e h
 refine Y4 ?_; refine Y2 ?_
 exact qj (qu (bq1 ⟨rfl, h⟩))
theorem ref4_place {sl : Option Addr} {c : Nat} {m : List Nat} (v : Nat) (hn : m.length ≤ 65535) (hr : Reads w0 l 1 sl m.length (u64V m)) (h : St w0 l w) :
  Ret Tryz.prog 191 [.slice sl m.length c, .int .u64 v] w fun r w' => r = .int .i64 (if v ∈ m then ((m.idxOf v : Nat) : Int) else -1) ∧ St w0 l w' := by
 refine enter Tryz.func191 rfl Tryz.results191 Tryz.ntmps191 rfl ?_
 refine Ye ?_
 refine qe (Γ := Unit) (fun _ => []) (fun _ w => v ∉ m ∧ St w0 l w) ?_ ?_
 ·refine Y19 ?_
  refine qo (Γ := Nat) (fun k => [(0, .slice sl m.length c), (1, .int .u64 v), (5, .int .i64 k)]) (fun k w => k ≤ m.length ∧ v ∉ m.take k ∧ St w0 l w) (fun k => m.length - k) 0 ⟨rfl, rfl, rfl, trivial⟩ ⟨Nat.zero_le _, by simp, h⟩ ?_
  clear h
  rintro k w e ⟨hk, hno, h⟩
  refine Y2m ?_
  refine qy (decide ((k : Int) < (m.length : Int))) rfl (fun hc => ?_) (fun hc => ?_)
  ·have hlt : k < m.length := by simp at hc; omega
   have hg := List.getElem?_eq_getElem hlt
   have hdr := List.drop_eq_getElem_cons hlt
   generalize m[k] = x at hg hdr
   obtain ⟨b, o, hsl⟩ := (hr.at_ h).some O0
   refine Yr ?_; refine Yp ?_
   refine qz (qc (b := b) (o := o) (m := m.length) (c := c) (o' := o + k) O7 rfl rfl hlt O8) rfl ?_
   refine qz (qw (v := .int .u64 x) rfl ((hsl ▸ hr.at_ h).cell (u64V_get hg))) rfl ?_
   refine Y0 ?_; refine Yc ?_
   by_cases hx : x = v
   ·refine qv (.bool true) (by rw [hx]; simp) ?_
    refine Yi ?_; refine Y4 ?_; refine Y2 ?_
    refine qj (qu (bq1 ⟨?_, h⟩))
    have hsp : m = m.take k ++ (x :: m.drop (k + 1)) := by rw [← hdr, List.take_append_drop]
    have hmem : v ∈ m := by rw [hsp, hx]; simp
    have hidx : m.idxOf v = k := by
     rw [hsp, List.idxOf_append, if_neg hno, hx, List.idxOf_cons_self, List.length_take]
     omega
    rw [if_pos hmem, hidx]
    rfl
   ·refine qv (.bool false) O5 ?_
    refine Y9 ?_; refine Y1d ?_
    refine qv (.int .i64 ((k + 1 : Nat) : Int)) O4 ?_
    refine Y2 ?_
    refine qj ⟨k + 1, ⟨rfl, rfl, rfl, trivial⟩, ⟨hlt, ?_, h⟩, by omega⟩
    rw [List.take_add_one, hg]
    simp only [List.mem_append, not_or]
    exact ⟨hno, by simpa using fun hh => hx hh.symm⟩
  ·obtain rfl : k = m.length := by simp at hc; omega
   rw [List.take_length] at hno
   exact qn ⟨(), trivial, hno, h⟩
 clear h
 rintro ⟨⟩ w e ⟨hno, h⟩
 rw [if_neg hno]
 refine Y23 ?_
 exact qj (qu (bq1 ⟨rfl, h⟩))
end
end Go.Proofs.YtnnehiiblfmpnaaGreatDoor

namespace Go.Proofs.YtnnehiiblfmpnaaGreatDoor
open Go.Hw
set_option maxHeartbeats 4000000
set_option maxRecDepth 100000
section
variable {w0 w : World} {l : List HProp}
theorem ref4_Simple {sl : Option Addr} {c : Nat} {u : List Nat} (hu : ∀ x ∈ u, x < 18446744073709551616) (hn : u.length ≤ 65535) (hcl : u.length ≤ c) (hr : Reads w0 l 1 sl u.length (u64V u)) (h : St w0 l w) :
  Ret Tryz.prog 135 [.slice sl u.length c] w fun v w' => ∃ a c', v = .tuple [.slice a ((simpEnc u).getD []).length c', .bool (simpEnc u).isSome].toArray ∧ St w0 (OwnU a c' ((simpEnc u).getD []) :: l) w' := by
 refine enter Tryz.func135 rfl Tryz.results135 Tryz.ntmps135 rfl ?_
 refine Y16 ?_; refine Yo ?_
 refine qe (Γ := List Nat × Option Addr × Nat) (fun q => [(4, .slice q.2.1 q.1.length q.2.2)]) (fun q w => simpEnc u = some q.1 ∧ St w0 (OwnU q.2.1 q.2.2 q.1 :: l) w) ?_ ?_
 ·refine Y19 ?_
  refine qo (Γ := Nat × List Nat × Option Addr × Nat) (fun k => [(0, .slice sl u.length c), (4, .slice k.2.2.1 k.2.1.length k.2.2.2), (5, .int .i64 k.1)])
   (fun k w => k.1 ≤ u.length ∧ k.2.1.length ≤ k.1 ∧ (simpEnc (u.drop k.1)).map (fun r => k.2.1 ++ r) = simpEnc u ∧ St w0 (OwnU k.2.2.1 k.2.2.2 k.2.1 :: l) w) (fun k => u.length - k.1) (0, [], none, 0) ⟨rfl, rfl, rfl, trivial⟩ ⟨Nat.zero_le _, Nat.zero_le _, by simp, St.ownNil 30 1 h⟩ ?_
  clear h
  rintro ⟨at', out, oa, oc⟩ w e ⟨hat, hol, he, h⟩
  dsimp only at hat hol he h ⊢
  refine Y2m ?_
  refine qy (decide ((at' : Int) < (u.length : Int))) rfl (fun hc => ?_) (fun hc => ?_)
  ·have hlt : at' < u.length := by simp at hc; omega
   have hne : u.drop at' ≠ [] := fun hh => by have := congrArg List.length hh; simp at this; omega
   have hdl : (u.drop at').length = u.length - at' := List.length_drop
   have hud : ∀ x ∈ u.drop at', x < 18446744073709551616 := fun x hx => hu x (List.mem_of_mem_drop hx)
   refine Y3s ?_; refine Ye ?_
   refine qe (Γ := Nat) (fun k => [(0, .slice sl u.length c), (4, .slice oa out.length oc), (5, .int .i64 at'), (6, .int .i64 k)])
    (fun k w => k ≤ 16 ∧ wordA k (kindsL.drop k) (u.drop at') = wordA 0 kindsL (u.drop at') ∧ (k < 16 → (fitsK (kNum k, kBit k) (u.drop at')).isSome = true) ∧ St w0 (OwnU oa oc out :: l) w) ?_ ?_
   ·refine Ya ?_
    refine qo (Γ := Nat) (fun k => [(0, .slice sl u.length c), (4, .slice oa out.length oc), (5, .int .i64 at'), (6, .int .i64 k)])
     (fun k w => k ≤ 16 ∧ wordA k (kindsL.drop k) (u.drop at') = wordA 0 kindsL (u.drop at') ∧ St w0 (OwnU oa oc out :: l) w) (fun k => 16 - k) 0 ⟨rfl, rfl, rfl, rfl, trivial⟩ ⟨Nat.zero_le _, rfl, h⟩ ?_
    clear h
    rintro k w e ⟨hk, hw, h⟩
    refine Y3z ?_
    by_cases hlk : k < 16
    ·refine qv (.bool true) O3 ?_
     have hdr := List.drop_eq_getElem_cons (show k < kindsL.length from hlk)
     have hka := kinds_at hlk
     rw [List.getElem?_eq_getElem (show k < kindsL.length from hlk)] at hka
     rw [Option.some.inj hka] at hdr
     rw [hdr, wordA] at hw
     refine Y3d ?_; refine Y1t ?_
     refine qz (jc (i := at') rfl rfl hat) rfl ?_
     refine qv (.slice (adv sl (at' * 1) (Nat.beq c at')) (u.drop at').length (c - at')) (by rw [hdl]; rfl) ?_
     refine Y4u ?_
     refine qx rfl (qq rfl (ref4_fits hlk hud O0 (reads_drop hr.cons hat hcl) h) ?_)
     rintro _ w ⟨rfl, h⟩
     refine Y33 ?_; refine Yg ?_
     cases hf : fitsK (kNum k, kBit k) (u.drop at') with
     | none =>
      rw [hf] at hw
      refine Y1y ?_; refine Ya ?_; refine Y1d ?_
      refine qv (.int .i64 ((k + 1 : Nat) : Int)) O4 ?_
      refine Y2 ?_
      exact qj ⟨k + 1, ⟨rfl, rfl, rfl, rfl, trivial⟩, ⟨hlk, hw, h⟩, by omega⟩
     | some n =>
      refine qj (q8 rfl (qn ⟨k, ⟨rfl, rfl, rfl, rfl, trivial⟩, hk, ?_, fun _ => by rw [hf]; rfl, h⟩))
      rw [hdr, wordA]
      exact hw
    ·refine qv (.bool false) O3 ?_
     refine Y2c ?_; refine Y7 ?_
     exact qj (q8 rfl (qn ⟨k, ⟨rfl, rfl, rfl, rfl, trivial⟩, hk, hw, fun hh => absurd hh hlk, h⟩))
   clear h
   rintro k w e ⟨hk, hw, hfit, h⟩
   refine Y2r ?_
   by_cases h16 : k = 16
   ·refine qv (.bool true) (by rw [h16]; rfl) ?_
    refine Y2s ?_
    rw [h16] at hw
    rw [simpEnc_none hne hw.symm] at he
    rw [← he]
    exact qu (bq2 ⟨none, 0, rfl, St.ownNil _ _ h.drop⟩)
   refine qv (.bool false) O5 ?_
   refine Y9 ?_
   have hlk : k < 16 := by omega
   obtain ⟨k1, k2, k3, k60⟩ := kinds_le k hlk
   have hdr := List.drop_eq_getElem_cons (show k < kindsL.length from hlk)
   have hka := kinds_at hlk
   rw [List.getElem?_eq_getElem (show k < kindsL.length from hlk)] at hka
   rw [Option.some.inj hka] at hdr
   rw [hdr, wordA] at hw
   obtain ⟨m, hf⟩ := Option.isSome_iff_exists.1 (hfit hlk)
   rw [hf] at hw
   obtain ⟨f1, f2, f3⟩ := fitsK_some hf
   dsimp only at f1 f2
   rw [hdl] at f1
   rw [simpEnc_some hne hw.symm, Option.map_map, List.drop_drop] at he
   refine Y47 ?_
   refine qv (.int .u64 (k : Int)) O9 ?_
   refine qz (qm (v' := .int .u64 ((k * 1152921504606846976 + packW (kBit k) ((u.drop at').take 0) : Nat) : Int)) (q_shl rfl rfl O0) (by rw [show IntKind.u64.wrap ((k : Int) * 2 ^ (min (60 : Int).toNat IntKind.u64.bits)) = ((k * 2 ^ 60 % 18446744073709551616 : Nat) : Int) from j9 k 60 O2, Nat.mod_eq_of_lt O0]; simp [packW])) rfl ?_
   refine Y5 ?_; refine Y4 ?_
   refine qx rfl (qq rfl (ref4_numbers hlk h) ?_)
   rintro _ w ⟨rfl, h⟩
   refine Y1p ?_; refine Y1u ?_
   refine qv (.int .i64 ((u.length - at' : Nat) : Int)) O6 ?_
   refine Y54 ?_
   refine qv (.int .i64 ((m : Nat) : Int)) O18 ?_
   refine Y5 ?_
   have hm1 : 0 < m := by omega
   refine qe (Γ := Unit) (fun _ => [(0, .slice sl u.length c), (4, .slice oa out.length oc), (5, .int .i64 at'), (7, .int .u64 ((k * 1152921504606846976 + packW (kBit k) ((u.drop at').take m) : Nat) : Int)), (8, .int .i64 m)]) (fun _ w => St w0 (OwnU oa oc out :: l) w) ?_ ?_
   ·refine Y19 ?_
    refine qo (Γ := Nat) (fun j => [(0, .slice sl u.length c), (4, .slice oa out.length oc), (5, .int .i64 at'), (6, .int .i64 k), (7, .int .u64 ((k * 1152921504606846976 + packW (kBit k) ((u.drop at').take j) : Nat) : Int)), (8, .int .i64 m), (9, .int .i64 j)])
     (fun j w => j ≤ m ∧ St w0 (OwnU oa oc out :: l) w) (fun j => m - j) 0 ⟨rfl, rfl, rfl, rfl, rfl, rfl, rfl, trivial⟩ ⟨Nat.zero_le _, h⟩ ?_
    clear h
    rintro j w e ⟨hj, h⟩
    refine Y32 ?_; refine Y4m ?_
    refine qy (decide ((j : Int) < (m : Int))) rfl (fun hc => ?_) (fun hc => ?_)
    ·have hjm : j < m := by simp at hc; omega
     have hgu : (u.drop at')[j]? = some (u[at' + j]'O0) := by rw [List.getElem?_drop, List.getElem?_eq_getElem]
     have hgx : u[at' + j]? = some (u[at' + j]'O0) := List.getElem?_eq_getElem _
     generalize u[at' + j]'O0 = x at hgu hgx
     have hxb : x < 2 ^ kBit k := f2 x (by
      have : ((u.drop at').take m)[j]? = some x := by rw [List.getElem?_take, if_pos hjm, hgu]
      exact List.mem_of_getElem? this)
     have hsum : packW (kBit k) ((u.drop at').take (j + 1)) = packW (kBit k) ((u.drop at').take j) + 2 ^ (kBit k * j) * x := by
      rw [List.take_add_one, hgu]
      show packW (kBit k) ((u.drop at').take j ++ [x]) = _
      rw [packW_snoc, List.length_take, Nat.min_eq_left O0]
     have hjk : j * kBit k ≤ 60 := by
      have : j * kBit k ≤ kNum k * kBit k := Nat.mul_le_mul_right _ O0
      rw [Nat.mul_comm (kNum k)] at this; omega
     have hlt60 : packW (kBit k) ((u.drop at').take (j + 1)) < 1152921504606846976 := by
      refine Nat.lt_of_lt_of_le (packW_lt (fun y hy => f2 y (by
       have hp : (u.drop at').take (j + 1) = ((u.drop at').take m).take (j + 1) := by rw [List.take_take, Nat.min_eq_left O0]
       rw [hp] at hy; exact List.mem_of_mem_take hy))) ?_
      have : kBit k * ((u.drop at').take (j + 1)).length ≤ 60 := by
       rw [List.length_take]
       exact Nat.le_trans (Nat.mul_le_mul_left _ O0) k60
      exact Nat.pow_le_pow_right O2 this
     have hpl : packW (kBit k) ((u.drop at').take j) < 2 ^ (j * kBit k) := by
      have := packW_lt (b := kBit k) (l := (u.drop at').take j) (fun y hy => f2 y (by
       have hp : (u.drop at').take j = ((u.drop at').take m).take j := by rw [List.take_take, Nat.min_eq_left O0]
       rw [hp] at hy; exact List.mem_of_mem_take hy))
      rwa [List.length_take, Nat.min_eq_left O0, Nat.mul_comm] at this
     rw [Nat.mul_comm (kBit k) j, Nat.mul_comm (2 ^ (j * kBit k)) x] at hsum
     obtain ⟨bs, o, hsl⟩ := (hr.cons.at_ h).some O0
     refine Yr ?_
     refine jq none (fun w => St w0 (OwnU oa oc out :: l) w) O1 O1 h.drew fun w h => ?_
     refine Yl ?_; refine Yq ?_; refine Yl ?_
     refine cpv rfl rfl rfl rfl h rfl (qm (v' := .int .i64 ((at' + j : Nat) : Int)) (q_add rfl rfl) O13) ?_
     refine cpv rfl rfl rfl rfl h rfl (qc (b := bs) (o := o) (m := u.length) (c := c) (o' := o + (at' + j)) O7 rfl rfl O0 O8) ?_
     refine qg rfl rfl rfl rfl h (fun _ h => qp rfl (qw (v := .int .u64 x) rfl ((hsl ▸ hr.cons.at_ h).cell (u64V_get hgx)))) ?_
     refine Yl ?_; refine Yl ?_; refine Y3x ?_
     refine qt 9 rfl rfl rfl rfl ?_
     refine (qq rfl (ref4_bits hlk h) ?_)
     rintro _ w ⟨rfl, h⟩
     refine ⟨fun _ => h, ?_⟩
     refine cpv rfl rfl rfl rfl h rfl (qm (v' := .int .i64 ((j * kBit k : Nat) : Int)) (q_mul rfl rfl) (by rw [← Int.natCast_mul, wrap64 O0 O0])) ?_
     refine cpv rfl rfl rfl rfl h rfl (qm (v' := .int .u64 ((j * kBit k : Nat) : Int)) (jr rfl) O9) ?_
     refine cpv rfl rfl rfl rfl h rfl (qm (v' := .int .u64 ((x * 2 ^ (j * kBit k) : Nat) : Int)) (q_shl rfl rfl O0) (by rw [j9 _ _ O0, Nat.mod_eq_of_lt O0])) ?_
     refine cpv rfl rfl rfl rfl h rfl (qm (v' := .int .u64 ((k * 1152921504606846976 + packW (kBit k) ((u.drop at').take (j + 1)) : Nat) : Int)) (q_or rfl rfl) (by
      rw [(jx O0 O0).2.1, hsum, or_three hpl O0])) ?_
     refine Y2i ?_
     refine qi ?_
     refine Y1d ?_
     refine qv (.int .i64 ((j + 1 : Nat) : Int)) O4 ?_
     refine Y2 ?_
     exact qj ⟨j + 1, ⟨rfl, rfl, rfl, rfl, rfl, rfl, rfl, trivial⟩, ⟨hjm, h⟩, by omega⟩
    ·obtain rfl : j = m := by simp at hc; omega
     exact qn ⟨(), ⟨rfl, rfl, rfl, rfl, rfl, trivial⟩, h⟩
   clear h
   rintro ⟨⟩ w e h
   generalize hx : k * 1152921504606846976 + packW (kBit k) ((u.drop at').take m) = x at *
   refine Yp ?_
   refine r_app1 (v := .int .u64 (x : Int)) (m3 := (out ++ [x]).length) (zs := u64V (out ++ [x])) h rfl rfl rfl rfl rfl O8 (by simp [u64V, vcells]) O3 O3 rfl rfl rfl rfl rfl fun b a' c' w _ h => ?_
   refine Y4p ?_; refine Y3g ?_
   refine qv (.int .i64 ((at' + m : Nat) : Int)) O13 ?_
   refine Y2 ?_
   refine qj ⟨(at' + m, out ++ [x], a', c'), ⟨rfl, rfl, rfl, trivial⟩, ⟨by dsimp only; omega, by simp; omega, ?_, h⟩, by dsimp only; omega⟩
   rw [← he]
   congr 1
   funext r
   simp
  ·have hin : at' = u.length := by simp at hc; omega
   rw [hin, List.drop_length, simpEnc_nil, Option.map_some, List.append_nil] at he
   exact qn ⟨(out, oa, oc), ⟨rfl, trivial⟩, he.symm, h⟩
 clear h
 rintro ⟨out, oa, oc⟩ w e ⟨he, h⟩
 dsimp only at he h ⊢
 rw [he]
 refine Y6 ?_; refine Y1b ?_
 exact qj (qu (bq2 ⟨oa, oc, rfl, h⟩))
theorem ref4_pack {ba la : Option Addr} {bc lc : Nat} {bs : List UInt8} {ls : List Nat} {n : Nat} (hn : n ≤ 64) (hll : ls.length ≤ 65535) (hbl : bs.length ≤ 1073741824) (hu : ∀ x ∈ ls, x < 18446744073709551616) (hr : Reads w0 l 1 ba bs.length (bytesV bs)) (hr2 : Reads w0 l 1 la ls.length (u64V ls)) (h : St w0 l w) :
  Ret Tryz.prog 189 [.slice ba bs.length bc, .slice la ls.length lc, .int .i64 n] w fun v w' => ∃ a c', v = .slice a (bs ++ pack (ls.flatMap fun y => bitsOf y n)).length c' ∧ St w0 (OwnB a c' (bs ++ pack (ls.flatMap fun y => bitsOf y n)) :: l) w' := by
 have hflat := flat_bits_len (fun y => y) n ls
 have hwl : n * ls.length ≤ 64 * 65535 := Nat.mul_le_mul hn hll
 refine enter Tryz.func189 rfl Tryz.results189 Tryz.ntmps189 rfl ?_
 refine Yo ?_; refine Y1 ?_
 refine qz (qa (r := [.slice none 0 0]) rfl) rfl ?_
 refine qx rfl (jv h (show _ = Value.agg [.slice none 0 0].toArray from rfl) fun p w h => ?_)
 replace h : St w0 (IsRW p [] :: l) w := St.rw_new h
 refine Y1e ?_
 refine qe (Γ := Unit) (fun _ => [(0, .slice ba bs.length bc), (7, .pointer (some ⟨p, 0, none⟩))]) (fun _ w => St w0 (IsRW p (ls.flatMap fun y => bitsOf y n) :: l) w) ?_ ?_
 ·refine Y19 ?_
  refine qo (Γ := Nat) (fun k => [(0, .slice ba bs.length bc), (1, .slice la ls.length lc), (2, .int .i64 n), (7, .pointer (some ⟨p, 0, none⟩)), (8, .int .i64 k)]) (fun k w => k ≤ ls.length ∧ St w0 (IsRW p ((ls.take k).flatMap fun y => bitsOf y n) :: l) w) (fun k => ls.length - k) 0 ⟨rfl, rfl, rfl, rfl, rfl, trivial⟩ ⟨Nat.zero_le _, h⟩ ?_
  clear h
  rintro k w e ⟨hk, h⟩
  refine Y2m ?_
  refine qy (decide ((k : Int) < (ls.length : Int))) rfl (fun hc => ?_) (fun hc => ?_)
  ·have hlt : k < ls.length := by simp at hc; omega
   have hg := List.getElem?_eq_getElem hlt
   generalize ls[k] = y at hg
   have hyu := hu y (List.mem_of_getElem? hg)
   have htl := flat_bits_len (fun y => y) n (ls.take k)
   rw [List.length_take, Nat.min_eq_left (Nat.le_of_lt hlt)] at htl
   have hwk : n * k ≤ n * ls.length := Nat.mul_le_mul_left _ hk
   obtain ⟨b, o, hsl⟩ := (hr2.cons.at_ h).some O0
   refine Yr ?_; refine Y22 ?_; refine Y29 ?_
   refine qz (qc (b := b) (o := o) (m := ls.length) (c := lc) (o' := o + k) O7 rfl rfl hlt O8) rfl ?_
   refine qz (qw (v := .int .u64 y) rfl ((hsl ▸ hr2.cons.at_ h).cell (u64V_get hg))) rfl ?_
   refine Y0 ?_
   refine qx rfl (qq rfl (rw_Put y n hyu (by rw [htl]; omega) h) ?_)
   rintro _ w ⟨rfl, h⟩
   refine Y3 ?_; refine Y1d ?_
   refine qv (.int .i64 ((k + 1 : Nat) : Int)) O4 ?_
   refine Y2 ?_
   refine qj ⟨k + 1, ⟨rfl, rfl, rfl, rfl, rfl, trivial⟩, ⟨hlt, ?_⟩, by omega⟩
   rw [heldN_nat hn] at h
   rw [List.take_add_one, hg, List.flatMap_append]
   simpa using h
  ·obtain rfl : k = ls.length := by simp at hc; omega
   rw [List.take_length] at h
   exact qn ⟨(), ⟨rfl, rfl, trivial⟩, h⟩
 clear h
 rintro ⟨⟩ w e h
 have hpl := jd (ls.flatMap fun y => bitsOf y n)
 refine Y1 ?_
 refine qx rfl (qr (r := []) h rfl rfl rfl fun b w h => ?_)
 refine Yn ?_
 have h1 : St w0 (Own 5 1 (some ⟨b, 0, none⟩) 0 0 [] :: IsRW p (ls.flatMap fun y => bitsOf y n) :: l) w := St.own_mk (cur := []) h rfl rfl (Nat.le_refl _)
 refine qx rfl (ql (zs := bytesV bs) (m3 := bs.length) h1 rfl rfl (hr [_] _ h1.drop) (bytesV_one _) O0 (List.nil_append _) O0 O0 rfl fun a c1 w _ h => ?_)
 refine Y24 ?_
 refine qx rfl (qq rfl (rw_Bytes O0 (h.f 1)) ?_)
 rintro _ w ⟨a3, c3, rfl, h⟩
 refine qx rfl (ql (ys := bytesV (pack (ls.flatMap fun y => bitsOf y n))) (zs := bytesV (bs ++ pack (ls.flatMap fun y => bitsOf y n))) (m3 := (bs ++ pack (ls.flatMap fun y => bitsOf y n)).length) (h.f 2) rfl rfl h.own_rd (bytesV_one _) O8 O27 O3 O3 rfl fun a4 c4 w _ h => ?_)
 refine Yk ?_
 exact qu (bq1 ⟨a4, c4, rfl, ((h.f 1).drop.f 1).drop⟩)
theorem ref4_Runs {sl : Option Addr} {c : Nat} {u : List Nat} (hu : ∀ x ∈ u, x < 18446744073709551616) (hn : u.length ≤ 65535) (hr : Reads w0 l 1 sl u.length (u64V u)) (h : St w0 l w) :
  Ret Tryz.prog 137 [.slice sl u.length c] w fun v w' => ∃ a c', v = .slice a (runsEnc u).length c' ∧ St w0 (OwnB a c' (runsEnc u) :: l) w' := by
 have hrl := runsEnc_len u
 refine enter Tryz.func137 rfl Tryz.results137 Tryz.ntmps137 rfl ?_
 refine Y3j ?_
 refine qe (Γ := Option Addr × Nat) (fun q => [(3, .slice q.1 (runsEnc u).length q.2)]) (fun q w => St w0 (OwnB q.1 q.2 (runsEnc u) :: l) w) ?_ ?_
 ·refine Y19 ?_
  refine qo (Γ := Nat × List UInt8 × Option Addr × Nat) (fun k => [(0, .slice sl u.length c), (3, .slice k.2.2.1 k.2.1.length k.2.2.2), (4, .int .i64 k.1)])
   (fun k w => k.1 ≤ u.length ∧ k.2.1 ++ runsEnc (u.drop k.1) = runsEnc u ∧ St w0 (OwnB k.2.2.1 k.2.2.2 k.2.1 :: l) w) (fun k => u.length - k.1) (0, [], none, 0) ⟨rfl, rfl, rfl, trivial⟩ ⟨Nat.zero_le _, rfl, St.ownNil _ _ h⟩ ?_
  clear h
  rintro ⟨i, out, oa, oc⟩ w e ⟨hi, he, h⟩
  dsimp only at hi he h ⊢
  refine Y2m ?_
  refine qy (decide ((i : Int) < (u.length : Int))) rfl (fun hc => ?_) (fun hc => ?_)
  ·have hlt : i < u.length := by simp at hc; omega
   have hg := List.getElem?_eq_getElem hlt
   have hdr := List.drop_eq_getElem_cons hlt
   generalize u[i] = x at hg hdr
   have hx := hu x (List.mem_of_getElem? hg)
   have hrd : ∀ {Q : HProp} {w' : World}, St w0 (Q :: l) w' → Rd w' 1 sl u.length (u64V u) := fun {Q w'} h' => hr [Q] w' h'
   obtain ⟨b, o, hsl⟩ := (hrd h).some O0
   have hle := lead_le x (u.drop (i + 1))
   rw [List.length_drop] at hle
   have hin : ∀ j, j < lead x (u.drop (i + 1)) → u[i + 1 + j]? = some x := fun j hj => by
    have := idx_lead x _ hj
    rwa [List.getElem?_drop] at this
   have hend : u[i + 1 + lead x (u.drop (i + 1))]? ≠ some x := by
    have := idx_lead_end x (u.drop (i + 1))
    rwa [List.getElem?_drop] at this
   rw [hdr, runsEnc_cons, List.drop_drop] at he
   generalize hL : lead x (u.drop (i + 1)) = L at *
   refine Y3s ?_; refine Y2w ?_
   refine qe (Γ := Unit) (fun _ => [(0, .slice sl u.length c), (3, .slice oa out.length oc), (4, .int .i64 i), (5, .int .i64 ((i + 1 + L : Nat) : Int))]) (fun _ w => St w0 (OwnB oa oc out :: l) w) ?_ ?_
   ·refine Ya ?_
    refine qo (Γ := Nat) (fun k => [(0, .slice sl u.length c), (3, .slice oa out.length oc), (4, .int .i64 i), (5, .int .i64 k)]) (fun k w => i ≤ k ∧ k ≤ i + 1 + L ∧ St w0 (OwnB oa oc out :: l) w) (fun k => u.length - k) i ⟨rfl, rfl, rfl, rfl, trivial⟩ ⟨Nat.le_refl _, by omega, h⟩ ?_
    clear h
    rintro k w e ⟨hik, hkL, h⟩
    by_cases hku : k < u.length
    ·have hgk := List.getElem?_eq_getElem hku
     generalize u[k] = y at hgk
     have hyx : y = x ↔ k < i + 1 + L := by
      constructor
      ·intro hh
       rcases Nat.lt_or_ge k (i + 1 + L) with h2 | h2
       ·exact h2
       ·obtain rfl : k = i + 1 + L := by omega
        rw [hgk, hh] at hend
        exact absurd rfl hend
      ·intro hh
       rcases Nat.eq_or_lt_of_le hik with h2 | h2
       ·subst h2; rw [hg] at hgk; exact (Option.some.inj hgk).symm
       ·have := hin (k - (i + 1)) O0
        rw [show i + 1 + (k - (i + 1)) = k by omega, hgk] at this
        exact Option.some.inj this
     refine qf (qf (jq none (fun w => St w0 (OwnB oa oc out :: l) w) O1 O1 h.drew fun w h => ?_))
     refine Yl ?_; refine Y3b ?_
     refine cpv rfl rfl rfl rfl h rfl (qm (v' := .bool true) (q_lss rfl rfl) O3) ?_
     refine Y38 ?_; refine qd rfl rfl rfl rfl (fun _ => h) (fun _ => ju rfl rfl (q_moveS rfl)) (qd rfl rfl rfl rfl (fun _ => h) (fun _ => ju rfl rfl (q_moveI rfl)) ?_)
     refine qd rfl rfl rfl rfl (fun _ => h) (fun _ => ju rfl rfl (qc (b := b) (o := o) (m := u.length) (c := c) (o' := o + k) O7 rfl rfl hku O8)) ?_
     refine qg rfl rfl rfl rfl h (fun _ h => ju rfl rfl (qw (v := .int .u64 y) rfl ((hsl ▸ hrd h).cell (u64V_get hgk)))) ?_
     refine qd rfl rfl rfl rfl (fun _ => h) (fun _ => ju rfl rfl (q_moveS rfl)) (qd rfl rfl rfl rfl (fun _ => h) (fun _ => ju rfl rfl (q_moveI rfl)) ?_)
     refine qd rfl rfl rfl rfl (fun _ => h) (fun _ => ju rfl rfl (qc (b := b) (o := o) (m := u.length) (c := c) (o' := o + i) O7 rfl rfl hlt O8)) ?_
     refine qg rfl rfl rfl rfl h (fun _ h => ju rfl rfl (qw (v := .int .u64 x) rfl ((hsl ▸ hrd h).cell (u64V_get hg)))) ?_
     refine qd rfl rfl rfl rfl (fun _ => h) (fun _ => ju rfl rfl (js rfl rfl)) (cpv rfl rfl rfl rfl h rfl (q_pick1 rfl rfl rfl) ?_)
     refine qi ?_
     refine qy ((y : Int) == (x : Int)) rfl (fun hc => ?_) (fun hc => ?_)
     ·have hk2 := hyx.1 (by rw [beq_iff_eq] at hc; omega)
      refine Y3s ?_; refine Y1d ?_
      refine qv (.int .i64 ((k + 1 : Nat) : Int)) O4 ?_
      refine Y2 ?_
      exact qj ⟨k + 1, ⟨rfl, rfl, rfl, rfl, trivial⟩, ⟨by omega, by omega, h⟩, by omega⟩
     ·have hk2 : ¬ k < i + 1 + L := fun hh => by rw [beq_eq_false_iff_ne] at hc; have := hyx.2 hh; omega
      obtain rfl : k = i + 1 + L := by omega
      exact qn ⟨(), ⟨rfl, rfl, rfl, rfl, trivial⟩, h⟩
    ·obtain rfl : k = i + 1 + L := by omega
     refine qf (qf (jq none (fun w => St w0 (OwnB oa oc out :: l) w) O1 O1 h.drew fun w h => ?_))
     refine Yl ?_; refine Y3b ?_
     refine cpv rfl rfl rfl rfl h rfl (qm (v' := .bool false) (q_lss rfl rfl) O3) ?_
     refine Y38 ?_; refine qd rfl rfl rfl rfl (fun _ => h) (fun _ => jg rfl rfl) (qd rfl rfl rfl rfl (fun _ => h) (fun _ => jg rfl rfl) (qd rfl rfl rfl rfl (fun _ => h) (fun _ => jg rfl rfl) (qd rfl rfl rfl rfl (fun _ => h) (fun _ => jg rfl rfl) (qd rfl rfl rfl rfl (fun _ => h) (fun _ => jg rfl rfl) (qd rfl rfl rfl rfl (fun _ => h) (fun _ => jg rfl rfl) ?_))))); refine qd rfl rfl rfl rfl (fun _ => h) (fun _ => jg rfl rfl) (qd rfl rfl rfl rfl (fun _ => h) (fun _ => jg rfl rfl) (qd rfl rfl rfl rfl (fun _ => h) (fun _ => jg rfl rfl) (cpv rfl rfl rfl rfl h rfl (q_pick0 rfl rfl rfl) ?_)))
     refine qi ?_
     exact q8 rfl (qn ⟨(), ⟨rfl, rfl, rfl, rfl, trivial⟩, h⟩)
   clear h
   rintro ⟨⟩ w e h
   have hlen := congrArg List.length he
   simp only [List.length_append] at hlen
   refine qf (gj [0, 1, 2, 3, 4, 5, 6, 7, 8, 9, 10, 11] none (fun w => ∃ M, St w0 (M ++ l) w) O1 O1 ?_)
   replace h := h.drew
   generalize w.drew = w at h
   have hs := h
   replace h : ∃ M, St w0 (M ++ l) w := ⟨[_], hs⟩
   refine Yq ?_; refine Yl ?_
   refine cpv rfl rfl rfl rfl h rfl (qm (v' := .int .i64 ((1 + L : Nat) : Int)) (jt rfl rfl) O6) ?_
   refine cpv rfl rfl rfl rfl h rfl (qm (v' := .int .u64 ((1 + L : Nat) : Int)) (jr rfl) O9) ?_
   refine Ym ?_; refine Yq ?_
   refine cpv rfl rfl rfl rfl h rfl (qc (b := b) (o := o) (m := u.length) (c := c) (o' := o + i) O7 rfl rfl hlt O8) ?_
   refine qg rfl rfl rfl rfl h (fun w h => qp rfl (qw (v := .int .u64 x) rfl (by obtain ⟨M, h⟩ := h; exact (hsl ▸ hr M w h).cell (u64V_get hg)))) ?_
   refine Yz ?_
   refine qt 5 rfl rfl rfl rfl ?_
   refine (qq rfl (ref1_Put (1 + L) O0 hs (fun w' h' => h'.own_rd) O0) ?_)
   rintro _ w ⟨a1, c1, rfl, hs⟩
   replace h : ∃ M, St w0 (M ++ l) w := ⟨[_, _], hs⟩
   refine ⟨fun _ => h, ?_⟩
   refine Yz ?_
   refine qt 10 rfl rfl rfl rfl ?_
   refine (qq rfl (ref1_Put x hx hs (fun w' h' => h'.own_rd) O3) ?_)
   rintro _ w ⟨a2, c2, rfl, hs⟩
   replace h : ∃ M, St w0 (M ++ l) w := ⟨[_, _, _], hs⟩
   refine ⟨fun _ => h, ?_⟩
   refine Y1s ?_
   refine qi ?_
   refine Y18 ?_; refine Y2 ?_
   refine qj ⟨(i + 1 + L, out ++ vput (1 + L) ++ vput x, a2, c2), ⟨rfl, rfl, rfl, trivial⟩, ⟨by dsimp only; omega, ?_, (hs.f 1).drop.f 1 |>.drop⟩, by dsimp only; omega⟩
   dsimp only
   rw [← he, List.append_assoc, List.append_assoc]
  ·have hin : i = u.length := by simp at hc; omega
   rw [hin, List.drop_length, runsEnc, List.append_nil] at he
   refine qn ⟨(oa, oc), ⟨?_, trivial⟩, he ▸ h⟩
   rw [← he]
   rfl
 clear h
 rintro ⟨oa, oc⟩ w e h
 refine Y6 ?_; refine Y10 ?_
 exact qj (qu (bq1 ⟨oa, oc, rfl, h⟩))
end
end Go.Proofs.YtnnehiiblfmpnaaGreatDoor

namespace Go.Hw
theorem flat_map_bits (f : Nat → Nat) (n : Nat) (v : List Nat) : (v.map f).flatMap (fun y => bitsOf y n) = v.flatMap fun y => bitsOf (f y) n := by
 induction v with
 | nil => rfl
 | cons x v ih => rw [List.map_cons, List.flatMap_cons, List.flatMap_cons, ih]
theorem idxOf_append_of_mem {l t : List Nat} {x : Nat} (h : x ∈ l) : (l ++ t).idxOf x = l.idxOf x := by rw [List.idxOf_append, if_pos h]
end Go.Hw
namespace Go.Proofs.YtnnehiiblfmpnaaGreatDoor
open Go.Hw
set_option maxHeartbeats 4000000
set_option maxRecDepth 100000
section
variable {w0 w : World} {l : List HProp}
theorem ref4_Frame {sl : Option Addr} {c : Nat} {u : List Nat} (hu : ∀ x ∈ u, x < 18446744073709551616) (hn : u.length ≤ 65535) (hr : Reads w0 l 1 sl u.length (u64V u)) (h : St w0 l w) :
  Ret Tryz.prog 138 [.slice sl u.length c] w fun v w' => ∃ a c', v = .slice a (frameEnc u).length c' ∧ St w0 (OwnB a c' (frameEnc u) :: l) w' := by
 refine enter Tryz.func138 rfl Tryz.results138 Tryz.ntmps138 rfl ?_
 refine Yo ?_; refine Y1w ?_; refine Yc ?_
 cases u with
 | nil =>
  refine qv (.bool true) rfl ?_
  refine Yi ?_; refine Yo ?_
  exact qu (bq1 ⟨none, 0, rfl, St.ownNil _ _ h⟩)
 | cons x r =>
 have hx := hu x (List.mem_cons_self ..)
 have hlst := leastA_lt r x hx
 have hgt := greatA_lt r x hx fun y hy => hu y (List.mem_cons_of_mem _ hy)
 have hlg : leastA x r ≤ greatA x r := Nat.le_trans (leastA_le r x).1 (greatA_ge r x).1
 have hw64 : len64 (greatA x r - leastA x r) ≤ 64 := len64_64 O0
 refine qv (.bool false) O3 ?_
 refine Y9 ?_
 have hfe : frameEnc (x :: r) = vput (leastA x r) ++ (UInt8.ofNat (len64 (greatA x r - leastA x r)) :: pack ((x :: r).flatMap fun y => bitsOf (y - leastA x r) (len64 (greatA x r - leastA x r)))) := rfl
 have hmem : ∀ y ∈ x :: r, leastA x r ≤ y := by
  intro y hy
  rcases List.mem_cons.1 hy with rfl | hy
  ·exact (leastA_le r y).1
  ·exact (leastA_le r x).2 y hy
 have hl0 : leastA x (x :: r) = leastA x r := by rw [leastA, Nat.min_self]
 have hg0 : greatA x (x :: r) = greatA x r := by rw [greatA, Nat.max_self]
 have hgx : (x :: r)[0]? = some x := rfl
 rw [hfe]
 generalize hlo : leastA x r = lo at *
 generalize hhi : greatA x r = hi at *
 have hpos : 0 < (x :: r).length := by simp
 generalize hU : x :: r = u at *
 clear hfe
 have hrd : ∀ {M : List HProp} {w' : World}, St w0 (M ++ l) w' → Rd w' 1 sl u.length (u64V u) := fun {M w'} h' => hr M w' h'
 obtain ⟨b, o, hsl⟩ := (hrd (M := []) h).some hpos
 refine qf (c_anyR [0, 1, 2, 4, 5, 6, 3, 7] none (fun w => St w0 l w) O1 O1 h.drew fun w h => ?_)
 refine Y1m ?_
 refine cpv rfl rfl rfl rfl h rfl (qc (b := b) (o := o) (m := u.length) (c := c) (j := 0) (o' := o + 0) O7 rfl rfl hpos O8) ?_
 refine qg rfl rfl rfl rfl h (fun w h => qp rfl (qw (v := .int .u64 x) rfl ((hsl ▸ hrd (M := []) h).cell (u64V_get hgx)))) ?_
 refine Y1m ?_
 refine cpv rfl rfl rfl rfl h rfl (qc (b := b) (o := o) (m := u.length) (c := c) (j := 0) (o' := o + 0) O7 rfl rfl hpos O8) ?_
 refine qg rfl rfl rfl rfl h (fun w h => qp rfl (qw (v := .int .u64 x) rfl ((hsl ▸ hrd (M := []) h).cell (u64V_get hgx)))) ?_
 refine Y2i ?_; refine Y2i ?_
 refine qi ?_
 refine qe (Γ := Unit) (fun _ => [(0, .slice sl u.length c), (3, .int .u64 lo), (4, .int .u64 hi)]) (fun _ w => St w0 l w) ?_ ?_
 ·refine Y19 ?_
  refine qo (Γ := Nat × Nat × Nat) (fun k => [(0, .slice sl u.length c), (3, .int .u64 k.2.1), (4, .int .u64 k.2.2), (5, .int .i64 k.1)])
   (fun k w => k.1 ≤ u.length ∧ leastA k.2.1 (u.drop k.1) = lo ∧ greatA k.2.2 (u.drop k.1) = hi ∧ St w0 l w) (fun k => u.length - k.1) (0, x, x) ⟨rfl, rfl, rfl, rfl, trivial⟩ ⟨Nat.zero_le _, hl0, hg0, h⟩ ?_
  clear h
  rintro ⟨k, a, z⟩ w e ⟨hk, ha, hz, h⟩
  dsimp only at hk ha hz h ⊢
  refine Y2m ?_
  refine qy (decide ((k : Int) < (u.length : Int))) rfl (fun hc => ?_) (fun hc => ?_)
  ·have hlt : k < u.length := by simp at hc; omega
   have hg := List.getElem?_eq_getElem hlt
   have hdr := List.drop_eq_getElem_cons hlt
   generalize u[k] = y at hg hdr
   rw [hdr] at ha hz
   rw [leastA] at ha
   rw [greatA] at hz
   refine Yr ?_
   refine jq none (fun w => St w0 l w) O1 O1 h.drew fun w h => ?_
   refine Yl ?_; refine Yq ?_
   refine cpv rfl rfl rfl rfl h rfl (qc (b := b) (o := o) (m := u.length) (c := c) (o' := o + k) O7 rfl rfl hlt O8) ?_
   refine qg rfl rfl rfl rfl h (fun w h => qp rfl (qw (v := .int .u64 y) rfl ((hsl ▸ hrd (M := []) h).cell (u64V_get hg)))) ?_
   refine cpv rfl rfl rfl rfl h rfl (qm (v' := .int .u64 ((min a y : Nat) : Int)) (q_min rfl rfl) O18) ?_
   refine Yl ?_; refine Yq ?_
   refine cpv rfl rfl rfl rfl h rfl (qc (b := b) (o := o) (m := u.length) (c := c) (o' := o + k) O7 rfl rfl hlt O8) ?_
   refine qg rfl rfl rfl rfl h (fun w h => qp rfl (qw (v := .int .u64 y) rfl ((hsl ▸ hrd (M := []) h).cell (u64V_get hg)))) ?_
   refine cpv rfl rfl rfl rfl h rfl (qm (v' := .int .u64 ((max z y : Nat) : Int)) (q_max rfl rfl) O18) ?_
   refine Y2i ?_; refine Y2i ?_
   refine qi ?_
   refine Y1d ?_
   refine qv (.int .i64 ((k + 1 : Nat) : Int)) O4 ?_
   refine Y2 ?_
   exact qj ⟨(k + 1, min a y, max z y), ⟨rfl, rfl, rfl, rfl, trivial⟩, ⟨hlt, ha, hz, h⟩, by dsimp only; omega⟩
  ·obtain rfl : k = u.length := by simp at hc; omega
   rw [List.drop_length, leastA] at ha
   rw [List.drop_length, greatA] at hz
   subst ha hz
   exact qn ⟨(), ⟨rfl, rfl, rfl, trivial⟩, h⟩
 clear h
 rintro ⟨⟩ w e h
 refine Yo ?_
 refine qe (Γ := Option Addr × Nat) (fun q => [(3, .int .u64 lo), (4, .int .u64 hi), (6, .slice q.1 (u.map fun y => y - lo).length q.2)]) (fun q w => St w0 (OwnU q.1 q.2 (u.map fun y => y - lo) :: l) w) ?_ ?_
 ·refine Y19 ?_
  refine qo (Γ := Nat × Option Addr × Nat) (fun k => [(0, .slice sl u.length c), (3, .int .u64 lo), (4, .int .u64 hi), (6, .slice k.2.1 ((u.take k.1).map fun y => y - lo).length k.2.2), (7, .int .i64 k.1)])
   (fun k w => k.1 ≤ u.length ∧ St w0 (OwnU k.2.1 k.2.2 ((u.take k.1).map fun y => y - lo) :: l) w) (fun k => u.length - k.1) (0, none, 0) ⟨rfl, rfl, rfl, rfl, rfl, trivial⟩ ⟨Nat.zero_le _, St.ownNil 30 1 h⟩ ?_
  clear h
  rintro ⟨k, oa, oc⟩ w e ⟨hk, h⟩
  dsimp only at hk h ⊢
  refine Y2m ?_
  refine qy (decide ((k : Int) < (u.length : Int))) rfl (fun hc => ?_) (fun hc => ?_)
  ·have hlt : k < u.length := by simp at hc; omega
   have hg := List.getElem?_eq_getElem hlt
   generalize u[k] = y at hg
   have hyl := hmem y (List.mem_of_getElem? hg)
   have hyu := hu y (List.mem_of_getElem? hg)
   refine Yr ?_; refine Y4w ?_
   refine qz (qc (b := b) (o := o) (m := u.length) (c := c) (o' := o + k) O7 rfl rfl hlt O8) rfl ?_
   refine qz (qw (v := .int .u64 y) rfl ((hsl ▸ hrd (M := [_]) h).cell (u64V_get hg))) rfl ?_
   refine Y1u ?_
   refine qv (.int .u64 ((y - lo : Nat) : Int)) O14 ?_
   refine r_app1 (v := .int .u64 ((y - lo : Nat) : Int)) (m3 := ((u.take (k + 1)).map fun y => y - lo).length) (zs := u64V ((u.take (k + 1)).map fun y => y - lo)) h rfl rfl rfl rfl rfl O3 (by rw [List.take_add_one, hg]; simp [u64V, vcells]) O3 O3 rfl rfl rfl rfl rfl fun b a' c' w _ h => ?_
   refine Y40 ?_
   refine qv (.int .i64 ((k + 1 : Nat) : Int)) O4 ?_
   refine Y2 ?_
   exact qj ⟨(k + 1, a', c'), ⟨rfl, rfl, rfl, rfl, rfl, trivial⟩, ⟨hlt, h⟩, by dsimp only; omega⟩
  ·obtain rfl : k = u.length := by simp at hc; omega
   rw [List.take_length] at h
   refine qn ⟨(oa, oc), ⟨rfl, rfl, ?_, trivial⟩, h⟩
   show Value.slice oa ((u.take u.length).map fun y => y - lo).length oc = _
   rw [List.take_length]
 clear h
 rintro ⟨oa, oc⟩ w e h
 dsimp only at h ⊢
 have hv := q7 lo
 refine Y4 ?_
 refine qx rfl (qq rfl (ref1_Put (bs := []) lo hlst h (fun w' h' => Reads.nil.at_ h') O8) ?_)
 rintro _ w ⟨a1, c1, rfl, h⟩
 rw [List.nil_append] at h ⊢
 refine Y0 ?_; refine Y1u ?_
 refine qv (.int .u64 ((hi - lo : Nat) : Int)) O14 ?_
 refine qx rfl (qq rfl (ref4_width O0 h) ?_)
 rintro _ w ⟨rfl, h⟩
 refine Yd ?_
 refine qv (.int .u8 ((UInt8.ofNat (len64 (hi - lo))).toNat : Int)) O12 ?_
 refine r_app1 (v := .int .u8 ((UInt8.ofNat (len64 (hi - lo))).toNat : Int)) (m3 := (vput lo ++ [UInt8.ofNat (len64 (hi - lo))]).length) (zs := bytesV (vput lo ++ [UInt8.ofNat (len64 (hi - lo))])) h rfl rfl rfl rfl rfl O8 (by simp [bytesV, vcells]) O3 O3 rfl rfl rfl rfl rfl fun b2 a2 c2 w _ h => ?_
 refine Y29 ?_; refine Y1u ?_
 refine qv (.int .u64 ((hi - lo : Nat) : Int)) O14 ?_
 refine qx rfl (qq rfl (ref4_width O0 h) ?_)
 rintro _ w ⟨rfl, h⟩
 refine qx rfl (qq rfl (ref4_pack (ls := u.map fun y => y - lo) hw64 (by simp; exact hn) O3 (fun y hy => by obtain ⟨z, hz, rfl⟩ := List.mem_map.1 hy; have := hu z hz; omega) Reads.own Reads.own.cons h) ?_)
 rintro _ w ⟨a3, c3, rfl, h⟩
 rw [flat_map_bits, List.append_assoc] at h
 refine Yk ?_
 refine qu (bq1 ⟨a3, c3, ?_, (h.f 1).drop.f 1 |>.drop⟩)
 rw [flat_map_bits, List.append_assoc]
 rfl
theorem ref4_Dict {sl : Option Addr} {c : Nat} {u : List Nat} (hu : ∀ x ∈ u, x < 18446744073709551616) (hn : u.length ≤ 65535) (hr : Reads w0 l 1 sl u.length (u64V u)) (h : St w0 l w) :
  Ret Tryz.prog 139 [.slice sl u.length c] w fun v w' => ∃ a c', v = .tuple [.slice a ((dictEnc u).getD []).length c', .bool (dictEnc u).isSome].toArray ∧ St w0 (OwnB a c' ((dictEnc u).getD []) :: l) w' := by
 have hrd : ∀ {M : List HProp} {w' : World}, St w0 (M ++ l) w' → Rd w' 1 sl u.length (u64V u) := fun {M w'} h' => hr M w' h'
 refine enter Tryz.func139 rfl Tryz.results139 Tryz.ntmps139 rfl ?_
 refine Y16 ?_; refine Y2o ?_; refine Yk ?_
 refine qe (Γ := List Nat × Option Addr × Nat × Option Addr × Nat) (fun q => [(0, .slice sl u.length c), (4, .slice q.2.1 q.1.length q.2.2.1), (5, .slice q.2.2.2.1 (u.map fun x => q.1.idxOf x).length q.2.2.2.2)])
  (fun q w => unlikeA [] u = some q.1 ∧ St w0 (OwnU q.2.1 q.2.2.1 q.1 :: OwnU q.2.2.2.1 q.2.2.2.2 (u.map fun x => q.1.idxOf x) :: l) w) ?_ ?_
 ·refine Y19 ?_
  refine qo (Γ := Nat × List Nat × Option Addr × Nat × Option Addr × Nat) (fun k => [(0, .slice sl u.length c), (4, .slice k.2.2.1 k.2.1.length k.2.2.2.1), (5, .slice k.2.2.2.2.1 ((u.take k.1).map fun x => k.2.1.idxOf x).length k.2.2.2.2.2), (6, .int .i64 k.1)])
   (fun k w => k.1 ≤ u.length ∧ k.2.1.length ≤ 256 ∧ (∀ x ∈ u.take k.1, x ∈ k.2.1) ∧ unlikeA k.2.1 (u.drop k.1) = unlikeA [] u ∧ St w0 (OwnU k.2.2.1 k.2.2.2.1 k.2.1 :: OwnU k.2.2.2.2.1 k.2.2.2.2.2 ((u.take k.1).map fun x => k.2.1.idxOf x) :: l) w)
   (fun k => u.length - k.1) (0, [], none, 0, none, 0) ⟨rfl, rfl, rfl, rfl, trivial⟩ ⟨Nat.zero_le _, by decide, (fun _ h => by cases h), rfl, St.ownNil 30 1 (St.ownNil 30 1 h)⟩ ?_
  clear h
  rintro ⟨i, m, ma, mc, ia, ic⟩ w e ⟨hi, hm, hall, he, h⟩
  dsimp only at hi hm hall he h ⊢
  refine Y2m ?_
  refine qy (decide ((i : Int) < (u.length : Int))) rfl (fun hc => ?_) (fun hc => ?_)
  ·have hlt : i < u.length := by simp at hc; omega
   have hg := List.getElem?_eq_getElem hlt
   have hdr := List.drop_eq_getElem_cons hlt
   generalize u[i] = x at hg hdr
   have hx := hu x (List.mem_of_getElem? hg)
   obtain ⟨b, o, hsl⟩ := (hrd (M := [_, _]) h).some O0
   rw [hdr, unlikeA] at he
   refine Yr ?_
   refine qe (Γ := List Nat × Option Addr × Nat) (fun q => [(0, .slice sl u.length c), (4, .slice q.2.1 q.1.length q.2.2), (5, .slice ia ((u.take i).map fun x => q.1.idxOf x).length ic), (6, .int .i64 i)])
    (fun q w => q.1.length ≤ 257 ∧ x ∈ q.1 ∧ (∀ y ∈ u.take i, y ∈ q.1) ∧ (if 256 < q.1.length then none else unlikeA q.1 (u.drop (i + 1))) = unlikeA [] u ∧ St w0 (OwnU q.2.1 q.2.2 q.1 :: OwnU ia ic ((u.take i).map fun x => q.1.idxOf x) :: l) w) ?_ ?_
   ·refine Y6 ?_; refine Y29 ?_
    refine qz (qc (b := b) (o := o) (m := u.length) (c := c) (o' := o + i) O7 rfl rfl hlt O8) rfl ?_
    refine qz (qw (v := .int .u64 x) rfl ((hsl ▸ hrd (M := [_, _]) h).cell (u64V_get hg))) rfl ?_
    refine qx rfl (qq rfl (ref4_place x O0 Reads.own h) ?_)
    rintro _ w ⟨rfl, h⟩
    refine Ys ?_
    by_cases hxm : x ∈ m
    ·rw [if_pos hxm] at he
     refine qv (.bool false) (by rw [if_pos hxm]; exact congrArg Value.bool (decide_eq_false O0)) ?_
     refine qj (q8 rfl (q4 ⟨(m, ma, mc), ⟨rfl, rfl, rfl, rfl, trivial⟩, by dsimp only; omega, hxm, hall, ?_, h⟩))
     dsimp only
     rw [if_neg O0]
     exact he
    ·rw [if_neg hxm] at he
     refine qv (.bool true) (by rw [if_neg hxm]; rfl) ?_
     refine Yi ?_; refine Y4w ?_
     refine qz (qc (b := b) (o := o) (m := u.length) (c := c) (o' := o + i) O7 rfl rfl hlt O8) rfl ?_
     refine qz (qw (v := .int .u64 x) rfl ((hsl ▸ hrd (M := [_, _]) h).cell (u64V_get hg))) rfl ?_
     refine r_app1 (v := .int .u64 (x : Int)) (m3 := (m ++ [x]).length) (zs := u64V (m ++ [x])) h rfl rfl rfl rfl rfl O8 (by simp [u64V, vcells]) O3 O3 rfl rfl rfl rfl rfl fun b a' c' w _ h => ?_
     refine Y10 ?_
     have hmap : ((u.take i).map fun y => m.idxOf y) = (u.take i).map fun y => (m ++ [x]).idxOf y := List.map_congr_left fun y hy => (idxOf_append_of_mem (hall y hy)).symm
     refine qj ⟨(m ++ [x], a', c'), ⟨rfl, rfl, ?_, rfl, trivial⟩, by simp; omega, by simp, fun y hy => List.mem_append_left _ (hall y hy), ?_, ?_⟩
     ·show Value.slice ia _ ic = _
      rw [← hmap]
     ·dsimp only
      rw [← he, List.length_append, List.length_singleton]
      by_cases h6 : m.length = 256
      ·rw [if_pos O0, if_pos h6]
      ·rw [if_neg O0, if_neg h6]
     ·dsimp only
      rw [← hmap]
      exact h
   clear h he hall hm
   rintro ⟨m, ma, mc⟩ w e ⟨hm, hxm, hall, he, h⟩
   dsimp only at hm hxm hall he h ⊢
   have hix := List.idxOf_lt_length_of_mem hxm
   refine Y6 ?_; refine Yn ?_; refine Y29 ?_
   refine qz (qc (b := b) (o := o) (m := u.length) (c := c) (o' := o + i) O7 rfl rfl hlt O8) rfl ?_
   refine qz (qw (v := .int .u64 x) rfl ((hsl ▸ hrd (M := [_, _]) h).cell (u64V_get hg))) rfl ?_
   refine qx rfl (qq rfl (ref4_place x O0 Reads.own h) ?_)
   rintro _ w ⟨rfl, h⟩
   rw [if_pos hxm]
   refine Yd ?_
   refine qv (.int .u64 ((m.idxOf x : Nat) : Int)) O9 ?_
   refine r_app1 (v := .int .u64 ((m.idxOf x : Nat) : Int)) (m3 := ((u.take (i + 1)).map fun y => m.idxOf y).length) (zs := u64V ((u.take (i + 1)).map fun y => m.idxOf y)) (h.f 1) rfl rfl rfl rfl rfl O3 (by rw [List.take_add_one, hg]; simp [u64V, vcells]) O3 O3 rfl rfl rfl rfl rfl fun b a' c' w _ h => ?_
   refine Yk ?_; refine Y20 ?_; refine Y1r ?_; refine Y3 ?_
   refine qy (decide ((m.length : Int) > 256)) rfl (fun hc => ?_) (fun hc => ?_)
   ·rw [if_pos (by simp at hc; omega)] at he
    have hd : dictEnc u = none := by unfold dictEnc; rw [← he]
    rw [hd]
    refine Y27 ?_
    exact qj (qu (bq2 ⟨none, 0, rfl, St.ownNil _ _ h.drop.drop⟩))
   ·rw [if_neg (by simp at hc; omega)] at he
    refine Y4t ?_
    refine qv (.int .i64 ((i + 1 : Nat) : Int)) O4 ?_
    refine Y2 ?_
    refine qj ⟨(i + 1, m, ma, mc, a', c'), ⟨rfl, rfl, rfl, rfl, trivial⟩, ⟨hlt, by simp at hc; dsimp only; omega, fun y hy => ?_, he, h.f 1⟩, by dsimp only; omega⟩
    dsimp only at hy ⊢
    rw [List.take_add_one, hg] at hy
    rcases List.mem_append.1 hy with hy | hy
    ·exact hall y hy
    ·have : y = x := by simpa using hy
     rw [this]; exact hxm
  ·obtain rfl : i = u.length := by simp at hc; omega
   rw [List.drop_length, unlikeA] at he
   rw [List.take_length] at h
   refine qn ⟨(m, ma, mc, ia, ic), ⟨rfl, rfl, ?_, trivial⟩, he.symm, h⟩
   show Value.slice ia ((u.take u.length).map _).length ic = _
   rw [List.take_length]
 clear h
 rintro ⟨m, ma, mc, ia, ic⟩ w e ⟨hso, h⟩
 dsimp only at hso h ⊢
 obtain ⟨_, hmem, hm256, hfrom⟩ := unlikeA_some u [] m hso O8
 have hm64 : ∀ x ∈ m, x < 18446744073709551616 := fun x hx => by
  rcases hfrom x hx with h | h
  ·cases h
  ·exact hu x h
 refine Y1w ?_; refine Yc ?_
 by_cases hu0 : u.length = 0
 ·refine qv (.bool true) (by rw [hu0]; rfl) ?_
  refine Yi ?_
  have hd : dictEnc u = some [] := by unfold dictEnc; rw [hso]; exact if_pos (List.eq_nil_of_length_eq_zero hu0)
  rw [hd]
  refine Y27 ?_
  exact qj (qu (bq2 ⟨none, 0, rfl, St.ownNil _ _ h.drop.drop⟩))
 have hd : dictEnc u = some (dictBytes m u) := by unfold dictEnc; rw [hso]; dsimp only; rw [if_neg (fun hh => hu0 (by rw [hh]; rfl))]
 rw [hd]
 have hmpos : 0 < m.length := by
  have hg := List.getElem?_eq_getElem (show 0 < u.length by omega)
  exact List.length_pos_of_mem (hmem _ (List.mem_of_getElem? hg))
 refine qv (.bool false) O5 ?_
 refine Y9 ?_
 have hvl := q7 m.length
 refine Y20 ?_; refine Yd ?_
 refine qv (.int .u64 (m.length : Int)) O9 ?_
 refine qx rfl (qq rfl (ref1_Put (bs := []) m.length O0 h (fun w' h' => Reads.nil.at_ h') O8) ?_)
 rintro _ w ⟨a1, c1, rfl, h⟩
 rw [List.nil_append] at h ⊢
 refine Yk ?_
 refine qe (Γ := Option Addr × Nat) (fun q => [(4, .slice ma m.length mc), (5, .slice ia (u.map fun x => m.idxOf x).length ic), (7, .slice q.1 (vput m.length ++ m.flatMap vput).length q.2)]) (fun q w => St w0 (OwnB q.1 q.2 (vput m.length ++ m.flatMap vput) :: OwnU ma mc m :: OwnU ia ic (u.map fun x => m.idxOf x) :: l) w) ?_ ?_
 ·refine Y19 ?_
  refine qo (Γ := Nat × Option Addr × Nat) (fun k => [(4, .slice ma m.length mc), (5, .slice ia (u.map fun x => m.idxOf x).length ic), (7, .slice k.2.1 (vput m.length ++ (m.take k.1).flatMap vput).length k.2.2), (8, .int .i64 k.1)])
   (fun k w => k.1 ≤ m.length ∧ St w0 (OwnB k.2.1 k.2.2 (vput m.length ++ (m.take k.1).flatMap vput) :: OwnU ma mc m :: OwnU ia ic (u.map fun x => m.idxOf x) :: l) w) (fun k => m.length - k.1) (0, a1, c1) ⟨rfl, rfl, by simp; rfl, rfl, trivial⟩ ⟨Nat.zero_le _, by simpa using h⟩ ?_
  clear h
  rintro ⟨k, a1, c1⟩ w e ⟨hk, h⟩
  dsimp only at hk h ⊢
  refine Y2m ?_
  refine qy (decide ((k : Int) < (m.length : Int))) rfl (fun hc => ?_) (fun hc => ?_)
  ·have hlt : k < m.length := by simp at hc; omega
   have hg := List.getElem?_eq_getElem hlt
   generalize m[k] = y at hg
   have hvs := vputs_len (m.take k)
   rw [List.length_take, Nat.min_eq_left hk] at hvs
   obtain ⟨g, rfl⟩ := (h.f 1).own_some O0
   refine Yr ?_; refine Y4w ?_
   refine qz (qc (b := g) (o := 0) (m := m.length) (c := mc) (o' := k) rfl rfl rfl hlt O8) rfl ?_
   refine qz (qw (v := .int .u64 y) rfl (by have := (h.f 1).own_rd.cell (u64V_get hg); simpa using this)) rfl ?_
   refine qx rfl (qq rfl (ref1_Put y (hm64 y (List.mem_of_getElem? hg)) h (fun w' h' => h'.own_rd) O25) ?_)
   rintro _ w ⟨a2, c2, rfl, h⟩
   have e1 : vput m.length ++ (m.take k).flatMap vput ++ vput y = vput m.length ++ (m.take (k + 1)).flatMap vput := by rw [List.take_add_one, hg]; simp
   rw [e1] at h ⊢
   refine Y40 ?_
   refine qv (.int .i64 ((k + 1 : Nat) : Int)) O4 ?_
   refine Y2 ?_
   exact qj ⟨(k + 1, a2, c2), ⟨rfl, rfl, rfl, rfl, trivial⟩, ⟨hlt, (h.f 1).drop⟩, by dsimp only; omega⟩
  ·obtain rfl : k = m.length := by simp at hc; omega
   rw [List.take_length] at h
   refine qn ⟨(a1, c1), ⟨rfl, rfl, ?_, trivial⟩, h⟩
   show Value.slice a1 (vput m.length ++ (m.take m.length).flatMap vput).length c1 = _
   rw [List.take_length]
 clear h
 rintro ⟨a2, c2⟩ w e h
 dsimp only at h ⊢
 have hvs := vputs_len m
 have hw64 : len64 (m.length - 1) ≤ 64 := len64_64 O0
 refine Y6 ?_; refine Yn ?_; refine Y1p ?_; refine Y1l ?_
 refine qv (.int .i64 ((m.length - 1 : Nat) : Int)) O6 ?_
 refine Yd ?_
 refine qv (.int .u64 ((m.length - 1 : Nat) : Int)) O9 ?_
 refine qx rfl (qq rfl (ref4_width O0 h) ?_)
 rintro _ w ⟨rfl, h⟩
 refine qx rfl (qq rfl (ref4_pack (ls := u.map fun x => m.idxOf x) hw64 (by simp; exact hn) O25 (fun y hy => by obtain ⟨z, hz, rfl⟩ := List.mem_map.1 hy; have := List.idxOf_lt_length_of_mem (hmem z hz); omega) Reads.own Reads.own.cons.cons h) ?_)
 rintro _ w ⟨a3, c3, rfl, h⟩
 have e2 : vput m.length ++ m.flatMap vput ++ pack ((u.map fun x => m.idxOf x).flatMap fun y => bitsOf y (len64 (m.length - 1))) = dictBytes m u := by rw [flat_map_bits, List.append_assoc]; rfl
 rw [e2] at h ⊢
 refine Y1b ?_
 exact qj (qu (bq2 ⟨a3, c3, rfl, ((h.f 1).drop.f 1).drop.f 1 |>.drop⟩))
end
end Go.Proofs.YtnnehiiblfmpnaaGreatDoor

namespace Go.Hw
end Go.Hw
namespace Go.Proofs.YtnnehiiblfmpnaaGreatDoor
open Go.Hw
set_option maxHeartbeats 4000000
set_option maxRecDepth 100000
section
variable {w0 w : World} {l : List HProp}
end
end Go.Proofs.YtnnehiiblfmpnaaGreatDoor

namespace Go.Proofs.YtnnehiiblfmpnaaGreatDoor
open Go.Hw
set_option maxHeartbeats 4000000
set_option maxRecDepth 100000
section
variable {w0 w : World} {l : List HProp}
theorem valsOf_get {L : List Smp} (hw : ∀ s ∈ L, s.Wf) {k : Nat} {s : Smp} (h : L[k]? = some s) : s.V = ((s.V.toNat : Nat) : Int) := by
 have := hw s (List.mem_of_getElem? h)
 obtain ⟨_, h2, _⟩ := this
 omega
theorem ref10_values {sl : Option Addr} {c : Nat} {L : List Smp} (hw : ∀ s ∈ L, s.Wf) (hn : L.length ≤ 65535) (hr : Reads w0 l 2 sl L.length (smpsV L)) (h : St w0 l w) :
  Ret Tryz.prog 92 [.slice sl L.length c] w fun v w' => ∃ a c', v = .slice a (valsOf L).length c' ∧ (valsOf L).length ≤ c' ∧ St w0 (OwnU a c' (valsOf L) :: l) w' := by
 refine enter Tryz.func92 rfl Tryz.results92 Tryz.ntmps92 rfl ?_
 refine Y3j ?_; refine Y2v ?_
 refine qo (Γ := Nat × Option Addr × Nat) (fun k => [(0, .slice sl L.length c), (3, .slice k.2.1 (valsOf (L.take k.1)).length k.2.2), (4, .int .i64 k.1)])
  (fun k w => k.1 ≤ L.length ∧ St w0 (OwnU k.2.1 k.2.2 (valsOf (L.take k.1)) :: l) w) (fun k => L.length - k.1) (0, none, 0) ⟨rfl, rfl, rfl, trivial⟩ ⟨Nat.zero_le _, St.ownNil 30 1 h⟩ ?_
 clear h
 rintro ⟨k, oa, oc⟩ w e ⟨hk, h⟩
 dsimp only at hk h ⊢
 refine Y2m ?_
 refine qy (decide ((k : Int) < (L.length : Int))) rfl (fun hc => ?_) (fun hc => ?_)
 ·have hlt : k < L.length := by simp at hc; omega
  have hg := List.getElem?_eq_getElem hlt
  generalize L[k] = s at hg
  have hsv := valsOf_get hw hg
  have hvl : (valsOf (L.take k)).length = k := by unfold valsOf; simp; omega
  have hvs : valsOf (L.take (k + 1)) = valsOf (L.take k) ++ [s.V.toNat] := by rw [List.take_add_one, hg]; simp [valsOf]
  obtain ⟨b, o, hsl⟩ := (hr.cons.at_ h).some O0
  refine Yr ?_; refine Y4w ?_
  refine qz (qc (b := b) (o := o) (m := L.length) (c := c) (o' := o + k * 2) O7 rfl rfl hlt rfl) rfl ?_
  refine Y1f ?_
  refine qz (qw (v := .int .u64 (s.V.toNat : Int)) rfl (by rw [← hsv]; exact (hsl ▸ hr.cons.at_ h).elem jz hg 1 _ rfl)) rfl ?_
  refine r_app1 (v := .int .u64 (s.V.toNat : Int)) (m3 := (valsOf (L.take (k + 1))).length) (zs := u64V (valsOf (L.take (k + 1)))) h rfl rfl rfl rfl rfl (by rw [hvs]; simp) (by rw [hvs]; simp [u64V, vcells]) (by rw [hvs]; simp; omega) (by rw [hvs]; simp; omega) rfl rfl rfl rfl rfl fun b a' c' w _ h => ?_
  refine Y40 ?_
  refine qv (.int .i64 ((k + 1 : Nat) : Int)) O4 ?_
  refine Y2 ?_
  exact qj ⟨(k + 1, a', c'), ⟨rfl, rfl, rfl, trivial⟩, ⟨hlt, h⟩, by dsimp only; omega⟩
 ·obtain rfl : k = L.length := by simp at hc; omega
  rw [List.take_length] at h
  refine qn ?_
  refine Y6 ?_; refine Y10 ?_
  refine qj (qu (bq1 ⟨oa, oc, ?_, h.own_cases.2.1, h⟩))
  show Value.slice oa (valsOf (L.take L.length)).length oc = _
  rw [List.take_length]
theorem ref10_steps {sl : Option Addr} {c : Nat} {u : List Nat} (hu : ∀ x ∈ u, x < 18446744073709551616) (hn : u.length ≤ 65535) (hr : Reads w0 l 1 sl u.length (u64V u)) (h : St w0 l w) :
  Ret Tryz.prog 136 [.slice sl u.length c] w fun v w' => ∃ a c', v = .slice a (stepsL 0 u).length c' ∧ (stepsL 0 u).length ≤ c' ∧ St w0 (OwnU a c' (stepsL 0 u) :: l) w' := by
 refine enter Tryz.func136 rfl Tryz.results136 Tryz.ntmps136 rfl ?_
 refine Y3j ?_; refine Ye ?_; refine Y2v ?_
 refine qo (Γ := Nat × Nat × List Nat × Option Addr × Nat) (fun k => [(0, .slice sl u.length c), (3, .slice k.2.2.2.1 k.2.2.1.length k.2.2.2.2), (4, .int .u64 k.2.1), (5, .int .i64 k.1)])
  (fun k w => k.1 ≤ u.length ∧ k.2.1 < 18446744073709551616 ∧ k.2.2.1.length = k.1 ∧ k.2.2.1 ++ stepsL k.2.1 (u.drop k.1) = stepsL 0 u ∧ St w0 (OwnU k.2.2.2.1 k.2.2.2.2 k.2.2.1 :: l) w) (fun k => u.length - k.1) (0, 0, [], none, 0) ⟨rfl, rfl, rfl, rfl, trivial⟩ ⟨Nat.zero_le _, (by decide : (0 : Nat) < 18446744073709551616), rfl, rfl, St.ownNil _ _ h⟩ ?_
 clear h
 rintro ⟨i, was, out, a, c1⟩ w e ⟨hi, hw, hol, he, h⟩
 dsimp only at hi hw hol he h ⊢
 refine Y2m ?_
 refine qy (decide ((i : Int) < (u.length : Int))) rfl (fun hc => ?_) (fun hc => ?_)
 ·have hlt : i < u.length := by simp at hc; omega
  have hg := List.getElem?_eq_getElem hlt
  have hdr := List.drop_eq_getElem_cons hlt
  generalize u[i] = x at hg hdr
  have hx := hu x (List.mem_of_getElem? hg)
  have hd : diff x was < 18446744073709551616 := Nat.mod_lt _ O2
  rw [hdr, stepsL] at he
  obtain ⟨b, o, hsl⟩ := (hr.cons.at_ h).some O0
  refine Yr ?_; refine Y6 ?_; refine Y29 ?_
  refine qz (qc (b := b) (o := o) (m := u.length) (c := c) (o' := o + i) O7 rfl rfl hlt O8) rfl ?_
  refine qz (qw (v := .int .u64 x) rfl ((hsl ▸ hr.cons.at_ h).cell (u64V_get hg))) rfl ?_
  refine Y1u ?_
  refine qv (.int .u64 (diff x was : Nat)) (by rw [wrap_diff hw]) ?_
  refine Yd ?_
  refine qv (.int .i64 (sg (diff x was))) (by rw [wrap_sg hd]) ?_
  refine qx rfl (qq rfl (ref1_Zig (sg_wf hd) h) ?_)
  rintro _ w ⟨rfl, h⟩
  rw [show zigT (sg (diff x was)) = zigU (diff x was) by unfold zigT; rw [us_sg hd]]
  refine r_app1 (v := .int .u64 (zigU (diff x was) : Nat)) (m3 := (out ++ [zigU (diff x was)]).length) (zs := u64V (out ++ [zigU (diff x was)])) h rfl rfl rfl rfl rfl O8 (by simp [u64V, vcells]) O3 O3 rfl rfl rfl rfl rfl fun b2 a2 c2 w _ h => ?_
  refine Yk ?_; refine Y2a ?_
  refine qz (qc (b := b) (o := o) (m := u.length) (c := c) (o' := o + i) O7 rfl rfl hlt O8) rfl ?_
  refine qz (qw (v := .int .u64 x) rfl ((hsl ▸ hr.cons.at_ h).cell (u64V_get hg))) rfl ?_
  refine Y49 ?_
  refine qv (.int .i64 ((i + 1 : Nat) : Int)) O4 ?_
  refine Y2 ?_
  refine qj ⟨(i + 1, x, out ++ [zigU (diff x was)], a2, c2), ⟨rfl, rfl, rfl, rfl, trivial⟩, ⟨hlt, hx, by simp; omega, ?_, h⟩, by dsimp only; omega⟩
  rw [← he]; simp
 ·have hin : i = u.length := by simp at hc; omega
  rw [hin, List.drop_length, stepsL, List.append_nil] at he
  refine qn ?_
  refine Y4e ?_
  rw [← he]
  exact qu (bq1 ⟨a, c1, rfl, h.own_cases.2.1, h⟩)
abbrev TellV (tag : Int) (u : List Nat) (l : List HProp) (w0 : World) (v : Value) (w' : World) : Prop := ∃ a c', v = .tuple [.slice a ((valuesEnc tag u).getD []).length c', .bool (valuesEnc tag u).isSome].toArray ∧ St w0 (OwnB a c' ((valuesEnc tag u).getD []) :: l) w'
theorem ref10_told (tag : Int) {sl : Option Addr} {c : Nat} {u : List Nat} (hu : ∀ x ∈ u, x < 18446744073709551616) (hn : u.length ≤ 65535) (hr : Reads w0 l 1 sl u.length (u64V u)) (h : St w0 l w) :
  Ret Tryz.prog 91 [.int .i64 tag, .slice sl u.length c] w fun v w' => TellV tag u l w0 v w' := by
 refine enter Tryz.func91 rfl Tryz.results91 Tryz.ntmps91 rfl ?_
 refine Y16 ?_; refine Y1c ?_; refine Y3 ?_; refine Ya ?_; refine Y1z ?_
 refine qy (tag == 1) rfl (fun hc => ?_) (fun hc1 => ?_)
 ·have hv : valuesEnc tag u = some (pack (xorBits u)) := by unfold valuesEnc; rw [if_pos O23]
  have hxl := xorBits_len u
  unfold TellV
  rw [hv]
  refine Y1 ?_
  refine qz (qa (r := [.slice none 0 0]) rfl) rfl ?_
  refine qx rfl (jv h (show _ = Value.agg [.slice none 0 0].toArray from rfl) fun p w h => ?_)
  replace h : St w0 (IsRW p [] :: l) w := St.rw_new h
  refine Y1e ?_; refine Y4f ?_
  refine qx rfl (qq rfl (ref4_Values hu hn O2 h hr) ?_)
  rintro _ w ⟨rfl, h⟩
  rw [List.nil_append] at h
  refine Y2u ?_
  refine qx rfl (qq rfl (rw_Bytes O0 h) ?_)
  rintro _ w ⟨a, c', rfl, h⟩
  refine Y1b ?_
  exact qj (qu (bq2 ⟨a, c', rfl, (h.f 1).drop⟩))
 have hn1 : ¬ tag = 1 := by simpa using hc1
 refine Y1z ?_
 refine qy (tag == 2) rfl (fun hc => ?_) (fun hc2 => ?_)
 ·have hv : valuesEnc tag u = (simpEnc (stepsL 0 u)).map bigL := by unfold valuesEnc; rw [if_neg hn1, if_pos O23]
  have hsl := stepsL_len u 0
  have hslt := stepsL_lt u 0
  obtain ⟨hsl2, hsw⟩ := simpEnc_len (u := stepsL 0 u)
  obtain ⟨e1, e2⟩ := simp_big (simpEnc (stepsL 0 u))
  unfold TellV
  rw [hv, e1, e2]
  refine Y6 ?_
  refine qx rfl (qq rfl (ref10_steps hu hn hr h) ?_)
  rintro _ w ⟨sa, sc, rfl, hsc, h⟩
  refine qx rfl (qq rfl (ref4_Simple hslt O0 hsc Reads.own h) ?_)
  rintro _ w ⟨wa, wc, rfl, h⟩
  generalize (simpEnc (stepsL 0 u)).getD [] = ws at hsl2 hsw h ⊢
  generalize (simpEnc (stepsL 0 u)).isSome = ok
  replace h : St w0 (OwnU wa wc ws :: l) w := (h.f 1).drop
  clear hr
  refine Y14 ?_; refine Yo ?_; refine Y2v ?_
  refine qo (Γ := Nat × Option Addr × Nat) (fun k => [(7, .slice wa ws.length wc), (8, .bool ok), (9, .slice k.2.1 (bigL (ws.take k.1)).length k.2.2), (10, .int .i64 k.1)])
   (fun k w => k.1 ≤ ws.length ∧ St w0 (OwnB k.2.1 k.2.2 (bigL (ws.take k.1)) :: OwnU wa wc ws :: l) w) (fun k => ws.length - k.1) (0, none, 0) ⟨rfl, rfl, rfl, rfl, trivial⟩ ⟨Nat.zero_le _, St.ownNil _ _ h⟩ ?_
  clear h
  rintro ⟨i, a, c1⟩ w e ⟨hi, h⟩
  dsimp only at hi h ⊢
  have hbl := bigL_len (ws.take i)
  rw [List.length_take, Nat.min_eq_left hi] at hbl
  refine Y2m ?_
  refine qy (decide ((i : Int) < (ws.length : Int))) rfl (fun hc => ?_) (fun hc => ?_)
  ·have hlt : i < ws.length := by simp at hc; omega
   have hg := List.getElem?_eq_getElem hlt
   generalize ws[i] = x at hg
   have hx := hsw x (List.mem_of_getElem? hg)
   obtain ⟨g, rfl⟩ := (h.f 1).own_some O0
   have hstep : bigL (ws.take (i + 1)) = bigL (ws.take i) ++ be8 x := by
    unfold bigL
    rw [List.take_add_one, hg, List.flatMap_append]; simp
   rw [show Value.slice a (bigL (ws.take i)).length c1 = Value.slice a (bigL (ws.take i) ++ (be8 x).take 0).length c1 by simp]
   replace h : St w0 (OwnB a c1 (bigL (ws.take i) ++ (be8 x).take 0) :: OwnU (some ⟨g, 0, none⟩) wc ws :: l) w := by simpa using h
   generalize bigL (ws.take i) = base at hbl hstep h ⊢
   refine Yr ?_; refine Y19 ?_
   refine qo (Γ := Nat × Option Addr × Nat) (fun k => [(7, .slice (some ⟨g, 0, none⟩) ws.length wc), (8, .bool ok), (9, .slice k.2.1 (base ++ (be8 x).take k.1).length k.2.2), (10, .int .i64 i), (11, .int .i64 (7 - (k.1 : Int)))])
    (fun k w => k.1 ≤ 8 ∧ St w0 (OwnB k.2.1 k.2.2 (base ++ (be8 x).take k.1) :: OwnU (some ⟨g, 0, none⟩) wc ws :: l) w) (fun k => 8 - k.1) (0, a, c1) ⟨rfl, rfl, rfl, rfl, rfl, trivial⟩ ⟨Nat.zero_le _, h⟩ ?_
   clear h
   rintro ⟨j, a, c1⟩ w e ⟨hj, h⟩
   dsimp only at hj h ⊢
   have hb8 : (be8 x).length = 8 := rfl
   refine Y1c ?_; refine Y1v ?_
   by_cases hj8 : j < 8
   ·refine qv (.bool true) O3 ?_
    refine Y1y ?_
    have hgj := be8_get x j hj8
    have htk : (be8 x).take (j + 1) = (be8 x).take j ++ [UInt8.ofNat (x / 2 ^ (8 * (7 - j)))] := by rw [List.take_add_one, hgj]; rfl
    have htl : ((be8 x).take j).length = j := by rw [List.length_take, hb8]; omega
    refine Y1x ?_; refine Y4w ?_
    refine qz (qc (b := g) (o := 0) (m := ws.length) (c := wc) (o' := i) rfl rfl rfl hlt O8) rfl ?_
    refine qz (qw (v := .int .u64 x) rfl (by have := (h.f 1).own_rd.cell (u64V_get hg); simpa using this)) rfl ?_
    refine Y0 ?_; refine Y41 ?_
    refine qv (.int .i64 ((8 * (7 - j) : Nat) : Int)) O6 ?_
    refine Yd ?_
    refine qv (.int .u64 ((8 * (7 - j) : Nat) : Int)) O9 ?_
    refine qz (qm (v' := .int .u64 ((x / 2 ^ (8 * (7 - j)) : Nat) : Int)) (jk rfl rfl O0) (congrArg (Value.int .u64) (q9 x (8 * (7 - j)) 64 O0))) rfl ?_
    refine Yd ?_
    refine qv (.int .u8 ((UInt8.ofNat (x / 2 ^ (8 * (7 - j)))).toNat : Int)) O12 ?_
    refine r_app1 (v := .int .u8 ((UInt8.ofNat (x / 2 ^ (8 * (7 - j)))).toNat : Int)) (m3 := (base ++ (be8 x).take (j + 1)).length) (zs := bytesV (base ++ (be8 x).take (j + 1))) h rfl rfl rfl rfl rfl O28 (by rw [htk]; simp [bytesV, vcells]) O28 O28 rfl rfl rfl rfl rfl fun b2 a2 c2 w _ h => ?_
    refine Y4p ?_; refine Y1l ?_
    refine qv (.int .i64 (7 - ((j + 1 : Nat) : Int))) O6 ?_
    refine Y2 ?_
    exact qj ⟨(j + 1, a2, c2), ⟨rfl, rfl, rfl, rfl, rfl, trivial⟩, ⟨hj8, h⟩, by dsimp only; omega⟩
   refine qv (.bool false) O3 ?_
   refine Y11 ?_
   have hjj : j = 8 := by omega
   subst hjj
   rw [show (be8 x).take 8 = be8 x from rfl, ← hstep] at h
   refine qn ?_
   refine Y1d ?_
   refine qv (.int .i64 ((i + 1 : Nat) : Int)) O4 ?_
   refine Y2 ?_
   refine qj ⟨(i + 1, a, c1), ⟨rfl, rfl, ?_, rfl, trivial⟩, ⟨hlt, h⟩, by dsimp only; omega⟩
   show Value.slice _ _ _ = Value.slice _ _ _
   rw [hstep]; rfl
  ·have hin : i = ws.length := by simp at hc; omega
   rw [hin, List.take_length] at h
   refine qn ?_
   refine Y6 ?_; refine Y2e ?_; refine Y1b ?_
   refine qj (qu (bq2 ⟨a, c1, ?_, (h.f 1).drop⟩))
   show Value.tuple [Value.slice a (bigL (ws.take i)).length c1, _].toArray = _
   rw [hin, List.take_length]
   rfl
 have hn2 : ¬ tag = 2 := by simpa using hc2
 refine Y1z ?_
 refine qy (tag == 3) rfl (fun hc => ?_) (fun hc3 => ?_)
 ·have hv : valuesEnc tag u = some (runsEnc u) := by unfold valuesEnc; rw [if_neg hn1, if_neg hn2, if_pos O23]
  unfold TellV
  rw [hv]
  refine Y6 ?_
  refine qx rfl (qq rfl (ref4_Runs hu hn hr h) ?_)
  rintro _ w ⟨a, c', rfl, h⟩
  refine Y1b ?_
  exact qj (qu (bq2 ⟨a, c', rfl, h⟩))
 have hn3 : ¬ tag = 3 := by simpa using hc3
 refine Y1z ?_
 refine qy (tag == 4) rfl (fun hc => ?_) (fun hc4 => ?_)
 ·have hv : valuesEnc tag u = some (frameEnc u) := by unfold valuesEnc; rw [if_neg hn1, if_neg hn2, if_neg hn3, if_pos O23]
  unfold TellV
  rw [hv]
  refine Y6 ?_
  refine qx rfl (qq rfl (ref4_Frame hu hn hr h) ?_)
  rintro _ w ⟨a, c', rfl, h⟩
  refine Y1b ?_
  exact qj (qu (bq2 ⟨a, c', rfl, h⟩))
 have hn4 : ¬ tag = 4 := by simpa using hc4
 refine Y1z ?_
 refine qy (tag == 5) rfl (fun hc => ?_) (fun hc5 => ?_)
 ·have hv : valuesEnc tag u = dictEnc u := by unfold valuesEnc; rw [if_neg hn1, if_neg hn2, if_neg hn3, if_neg hn4, if_pos O23]
  unfold TellV
  rw [hv]
  refine Y6 ?_
  refine qx rfl (qq rfl (ref4_Dict hu hn hr h) ?_)
  rintro _ w ⟨a, c', rfl, h⟩
  refine Y3l ?_; refine Y1b ?_
  exact qj (qu (bq2 ⟨a, c', rfl, h⟩))
 have hn5 : ¬ tag = 5 := by simpa using hc5
 refine Y1z ?_
 refine qy (tag == 6) rfl (fun hc => ?_) (fun hc6 => ?_)
 ·have hv : valuesEnc tag u = sameEnc u := by unfold valuesEnc; rw [if_neg hn1, if_neg hn2, if_neg hn3, if_neg hn4, if_neg hn5, if_pos O23]
  unfold TellV
  rw [hv]
  refine Y1w ?_; refine Yc ?_
  cases u with
  | nil =>
   refine qv (.bool true) rfl ?_
   refine Y2g ?_
   exact qj (qu (bq2 ⟨none, 0, rfl, St.ownNil _ _ h⟩))
  | cons x r =>
  have hx := hu x (List.mem_cons_self ..)
  have hgx : (x :: r)[0]? = some x := rfl
  have hpos : 0 < (x :: r).length := by simp
  refine qv (.bool false) O3 ?_
  refine Y9 ?_
  obtain ⟨b, o, hsl⟩ := (hr.at_ h).some hpos
  refine qe (Γ := Unit) (fun _ => [(1, .slice sl (x :: r).length c)]) (fun _ w => (r.all fun y => decide (y = x)) = true ∧ St w0 l w) ?_ ?_
  ·refine Y19 ?_
   refine qo (Γ := Nat) (fun k => [(1, .slice sl (x :: r).length c), (12, .int .i64 k)]) (fun k w => k ≤ (x :: r).length ∧ (∀ y ∈ (x :: r).take k, y = x) ∧ St w0 l w) (fun k => (x :: r).length - k) 0 ⟨rfl, rfl, trivial⟩ ⟨Nat.zero_le _, (fun _ h => by cases h), h⟩ ?_
   clear h
   rintro k w e ⟨hk, hall, h⟩
   refine Y2m ?_
   refine qy (decide ((k : Int) < ((x :: r).length : Int))) rfl (fun hc => ?_) (fun hc => ?_)
   ·have hlt : k < (x :: r).length := by simp at hc ⊢; omega
    have hg := List.getElem?_eq_getElem hlt
    have hgm : (x :: r)[k] ∈ x :: r := List.getElem_mem _
    generalize (x :: r)[k] = y at hg hgm
    refine Yr ?_
    refine qf (jq none (fun w => St w0 l w) O1 O1 h.drew fun w h => ?_)
    refine Yq ?_
    refine cpv rfl rfl rfl rfl h rfl (qc (b := b) (o := o) (m := (x :: r).length) (c := c) (o' := o + k) O7 rfl rfl hlt O8) ?_
    refine qg rfl rfl rfl rfl h (fun w h => qp rfl (qw (v := .int .u64 y) rfl ((hsl ▸ hr.at_ h).cell (u64V_get hg)))) ?_
    refine Y1m ?_
    refine cpv rfl rfl rfl rfl h rfl (qc (b := b) (o := o) (m := (x :: r).length) (c := c) (j := 0) (o' := o + 0) O7 rfl rfl hpos O8) ?_
    refine qg rfl rfl rfl rfl h (fun w h => qp rfl (qw (v := .int .u64 x) rfl ((hsl ▸ hr.at_ h).cell (u64V_get hgx)))) ?_
    refine cpv rfl rfl rfl rfl h rfl (q_neq rfl rfl) ?_
    refine qi ?_
    refine qy ((y : Int) != (x : Int)) rfl (fun hc => ?_) (fun hc => ?_)
    ·have hyx : y ≠ x := by rw [bne_iff_ne] at hc; omega
     have e1 : sameEnc (x :: r) = none := by
      rw [sameEnc, if_neg]
      intro hh
      rcases List.mem_cons.1 hgm with h1 | h1
      ·exact hyx h1
      ·exact hyx (by simpa using List.all_eq_true.1 hh y h1)
     rw [e1]
     refine Y27 ?_
     exact qj (qu (bq2 ⟨none, 0, rfl, St.ownNil _ _ h⟩))
    ·have hyx : y = x := by rw [bne_eq_false_iff_eq] at hc; omega
     refine Y4t ?_
     refine qv (.int .i64 ((k + 1 : Nat) : Int)) O4 ?_
     refine Y2 ?_
     refine qj ⟨k + 1, ⟨rfl, rfl, trivial⟩, ⟨hlt, fun z hz => ?_, h⟩, by omega⟩
     rw [List.take_add_one, hg] at hz
     rcases List.mem_append.1 hz with hz | hz
     ·exact hall z hz
     ·have : z = y := by simpa using hz
      rw [this, hyx]
   ·obtain rfl : k = (x :: r).length := by simp at hc hk ⊢; omega
    rw [List.take_length] at hall
    refine qn ⟨(), ⟨rfl, trivial⟩, ?_, h⟩
    exact List.all_eq_true.2 fun y hy => by simpa using hall y (List.mem_cons_of_mem _ hy)
  clear h
  rintro ⟨⟩ w e ⟨hall, h⟩
  rw [sameEnc, if_pos hall]
  refine Y6 ?_
  refine qz (qc (b := b) (o := o) (m := (x :: r).length) (c := c) (j := 0) (o' := o + 0) O7 rfl rfl hpos O8) rfl ?_
  refine qz (qw (v := .int .u64 x) rfl ((hsl ▸ hr.at_ h).cell (u64V_get hgx))) rfl ?_
  refine qx rfl (qq rfl (ref1_Put (bs := []) x hx h (fun w' h' => Reads.nil.at_ h') O8) ?_)
  rintro _ w ⟨a1, c1, rfl, h⟩
  rw [List.nil_append] at h ⊢
  refine Y1b ?_
  exact qj (qu (bq2 ⟨a1, c1, rfl, h⟩))
 have hn6 : ¬ tag = 6 := by simpa using hc6
 have hv : valuesEnc tag u = none := by unfold valuesEnc; rw [if_neg hn1, if_neg hn2, if_neg hn3, if_neg hn4, if_neg hn5, if_neg hn6]
 unfold TellV
 rw [hv]
 refine Yj ?_; refine Y27 ?_
 exact qj (qu (bq2 ⟨none, 0, rfl, St.ownNil _ _ h⟩))
theorem ref10_Rising {sl : Option Addr} {c : Nat} {L : List Smp} (hn : L.length ≤ 1073741824) (hr : Reads w0 l 2 sl L.length (smpsV L)) (h : St w0 l w) :
  Ret Tryz.prog 93 [.slice sl L.length c] w fun v w' => v = .bool (rising L) ∧ St w0 l w' := by
 refine enter Tryz.func93 rfl Tryz.results93 Tryz.ntmps93 rfl ?_
 refine Y2b ?_; refine Y2v ?_
 refine qo (Γ := Nat) (fun k => [(0, .slice sl L.length c), (3, .int .i64 ((k + 1 : Nat) : Int))]) (fun k w => (L = [] ∨ (k < L.length ∧ ∀ s, L[k]? = some s → rises L = risesA s.T (L.drop (k + 1)))) ∧ St w0 l w) (fun k => L.length - k) 0 ⟨rfl, rfl, trivial⟩ ⟨by
  cases L with
  | nil => exact .inl rfl
  | cons s r => exact .inr ⟨by simp, fun x hx => by simp at hx; subst hx; rfl⟩, h⟩ ?_
 clear h
 rintro k w e ⟨inv, h⟩
 refine Y51 ?_; refine Ys ?_
 by_cases hlt : k + 1 < L.length
 ·refine qv (.bool true) O3 ?_
  refine Y1y ?_
  rcases inv with inv | ⟨hk, inv⟩
  ·rw [inv] at hlt; simp at hlt
  have hg0 := List.getElem?_eq_getElem hk
  have hg := List.getElem?_eq_getElem hlt
  have hdr := List.drop_eq_getElem_cons hlt
  generalize L[k + 1] = s1 at hg hdr
  have he := inv _ hg0
  generalize L[k] = s0 at hg0 he
  rw [hdr, risesA] at he
  obtain ⟨b, o, hsl⟩ := (hr.at_ h).some O0
  have hat1 : ∀ {w'}, St w0 l w' → w'.cell? ⟨b, o + (k + 1) * 2 + 0, none⟩ = some (.int .i64 s1.T) := fun h' => (hsl ▸ hr.at_ h').elem jz hg 0 _ rfl
  have hat0 : ∀ {w'}, St w0 l w' → w'.cell? ⟨b, o + k * 2 + 0, none⟩ = some (.int .i64 s0.T) := fun h' => (hsl ▸ hr.at_ h').elem jz hg0 0 _ rfl
  refine Y1x ?_
  refine qf (jq none (fun w => St w0 _ w) O1 O1 h.drew fun w h => ?_)
  refine Yq ?_
  refine cpv rfl rfl rfl rfl h rfl (qc (b := b) (o := o) (m := L.length) (c := c) (o' := o + (k + 1) * 2) O7 rfl rfl hlt rfl) ?_
  refine Y1g ?_
  refine qg rfl rfl rfl rfl h (fun w h => qp rfl (qw (v := .int .i64 s1.T) rfl (hat1 h))) ?_
  refine Yq ?_
  refine cpv rfl rfl rfl rfl h rfl (qm (v' := .int .i64 (k : Int)) (jt rfl rfl) O6) ?_
  refine cpv rfl rfl rfl rfl h rfl (qc (b := b) (o := o) (m := L.length) (c := c) (o' := o + k * 2) O7 rfl rfl hk rfl) ?_
  refine Y1g ?_
  refine qg rfl rfl rfl rfl h (fun w h => qp rfl (qw (v := .int .i64 s0.T) rfl (hat0 h))) ?_
  refine cpv rfl rfl rfl rfl h rfl (q_leq rfl rfl) ?_
  refine qi ?_
  refine qy (decide (s1.T ≤ s0.T)) rfl (fun hc => ?_) (fun hc => ?_)
  ·
   refine Y2b ?_
   refine qu (bq1 ⟨?_, h⟩)
   have : rising L = false := by
    unfold rising
    rw [he, show decide (s0.T < s1.T) = false by rw [decide_eq_true_eq] at hc; rw [decide_eq_false_iff_not]; omega]
    rfl
   rw [this]; rfl
  ·rw [show decide (s0.T < s1.T) = true by rw [decide_eq_false_iff_not] at hc; rw [decide_eq_true_eq]; omega, Bool.true_and] at he
   refine Y4t ?_
   refine qv (.int .i64 ((k + 1 + 1 : Nat) : Int)) O4 ?_
   refine Y2 ?_
   refine qj ⟨k + 1, ⟨rfl, rfl, trivial⟩, ⟨.inr ⟨hlt, fun s hs => ?_⟩, h⟩, by omega⟩
   rw [hg] at hs; cases hs
   exact he
 refine qv (.bool false) O3 ?_
 refine Y11 ?_
 have hrise : rises L = true := by
  rcases inv with inv | ⟨hk, inv⟩
  ·rw [inv]; rfl
  ·have := inv _ (List.getElem?_eq_getElem hk)
   rw [this, show k + 1 = L.length by omega, List.drop_length]; rfl
 refine qn ?_
 refine Y20 ?_; refine Y4z ?_; refine Yb ?_
 refine qu (bq1 ⟨?_, h⟩)
 show Value.bool (decide ((L.length : Int) ≤ 65535)) = _
 unfold rising
 rw [hrise, Bool.true_and]
 congr 1
 rw [decide_eq_decide]
 omega
theorem ref10_Encode (tag : Int) {sl : Option Addr} {c : Nat} {L : List Smp} (hw : ∀ s ∈ L, s.Wf) (hn : L.length ≤ 65535) (hr : Reads w0 l 2 sl L.length (smpsV L)) (h : St w0 l w) :
  Ret Tryz.prog 54 [.int .i64 tag, .slice sl L.length c] w fun v w' => ∃ a c', v = .tuple [.slice a ((suitEnc tag L).getD []).length c', .bool (suitEnc tag L).isSome].toArray ∧ St w0 (OwnB a c' ((suitEnc tag L).getD []) :: l) w' := by
 have hvl : (valsOf L).length = L.length := by simp [valsOf]
 have hvlt := valsOf_lt hw
 have htl : (timesOf L).length = L.length := by simp [timesOf]
 have hvel := valuesEnc_len (tag := tag) (u := valsOf L) O0 hvlt
 refine enter Tryz.func54 rfl Tryz.results54 Tryz.ntmps54 rfl ?_
 refine Y34 ?_; refine Yn ?_
 refine qx rfl (qq rfl (ref10_values hw hn hr h) ?_)
 rintro _ w ⟨va, vc, rfl, _, h⟩
 refine qx rfl (qq rfl (ref10_told tag hvlt O0 Reads.own h) ?_)
 rintro _ w ⟨ba, bc, rfl, h⟩
 replace h := (h.f 1).drop
 refine Y14 ?_; refine Y42 ?_
 cases hE : valuesEnc tag (valsOf L) with
 | none =>
  have hS : suitEnc tag L = none := by unfold suitEnc; rw [hE]; split <;> rfl
  rw [hS]
  rw [hE] at h
  show Rn _ _ _ _ _ (upd (upd _ 6 (.slice ba 0 bc)) 7 (.bool false)) _
  refine Y1o ?_; refine Y15 ?_; refine Y2d ?_
  exact qj (qu (bq2 ⟨none, 0, rfl, St.ownNil _ _ h.drop⟩))
 | some vb =>
 rw [hE] at h hvel
 replace h : St w0 (OwnB ba bc vb :: l) w := h
 have hvel : vb.length ≤ 2000000 := hvel
 show Rn _ _ _ _ _ (upd (upd _ 6 (.slice ba vb.length bc)) 7 (.bool true)) _
 refine Y1o ?_; refine Y3d ?_
 refine qx rfl (qq rfl (ref10_Rising O0 hr.cons h) ?_)
 rintro _ w ⟨rfl, h⟩
 cases hR : rising L with
 | false =>
  have hS : suitEnc tag L = none := by unfold suitEnc; rw [hR]; rfl
  rw [hS]
  refine Y33 ?_; refine Y7 ?_; refine Y2g ?_
  exact qj (qu (bq2 ⟨none, 0, rfl, St.ownNil _ _ h.drop⟩))
 | true =>
 have hS : suitEnc tag L = some (suitBytes L vb) := by unfold suitEnc; rw [hR, hE]; rfl
 rw [hS]
 refine Y33 ?_; refine Y7 ?_; refine Y9 ?_; refine Y1 ?_
 refine qz (qa (r := [.slice none 0 0]) rfl) rfl ?_
 refine qx rfl (jv h (show _ = Value.agg [.slice none 0 0].toArray from rfl) fun p w h => ?_)
 replace h : St w0 (IsRW p [] :: OwnB ba bc vb :: l) w := St.rw_new h
 refine Y1e ?_; refine Yo ?_
 refine qe (Γ := Option Addr × Nat) (fun q => [(6, .slice ba vb.length bc), (8, .pointer (some ⟨p, 0, none⟩)), (9, .slice q.1 (timesOf L).length q.2)])
  (fun q w => St w0 (IsRW p [] :: Own 2 1 q.1 (timesOf L).length q.2 (i64V (timesOf L)) :: OwnB ba bc vb :: l) w) ?_ ?_
 ·refine Y19 ?_
  refine qo (Γ := Nat × Option Addr × Nat) (fun k => [(1, .slice sl L.length c), (6, .slice ba vb.length bc), (8, .pointer (some ⟨p, 0, none⟩)), (9, .slice k.2.1 (timesOf (L.take k.1)).length k.2.2), (10, .int .i64 k.1)])
   (fun k w => k.1 ≤ L.length ∧ St w0 (Own 2 1 k.2.1 (timesOf (L.take k.1)).length k.2.2 (i64V (timesOf (L.take k.1))) :: IsRW p [] :: OwnB ba bc vb :: l) w) (fun k => L.length - k.1) (0, none, 0) ⟨rfl, rfl, rfl, rfl, rfl, trivial⟩ ⟨Nat.zero_le _, St.ownNil _ _ h⟩ ?_
  clear h
  rintro ⟨k, oa, oc⟩ w e ⟨hk, h⟩
  dsimp only at hk h ⊢
  refine Y2m ?_
  refine qy (decide ((k : Int) < (L.length : Int))) rfl (fun hc => ?_) (fun hc => ?_)
  ·have hlt : k < L.length := by simp at hc; omega
   have hg := List.getElem?_eq_getElem hlt
   generalize L[k] = s at hg
   have hkl : (timesOf (L.take k)).length = k := by unfold timesOf; simp; omega
   have hvs : timesOf (L.take (k + 1)) = timesOf (L.take k) ++ [s.T] := by rw [List.take_add_one, hg]; simp [timesOf]
   obtain ⟨b, o, hsl⟩ := (hr [_, _, _] _ h).some O0
   refine Yr ?_; refine Y4w ?_
   refine qz (qc (b := b) (o := o) (m := L.length) (c := c) (o' := o + k * 2) O7 rfl rfl hlt rfl) rfl ?_
   refine Y1f ?_
   refine qz (qw (v := .int .i64 s.T) rfl ((hsl ▸ hr [_, _, _] _ h).elem jz hg 0 _ rfl)) rfl ?_
   refine r_app1 (v := .int .i64 s.T) (m3 := (timesOf (L.take (k + 1))).length) (zs := i64V (timesOf (L.take (k + 1)))) h rfl rfl rfl rfl rfl (by rw [hvs]; simp) (by rw [hvs]; simp [i64V, vcells]) (by rw [hvs]; simp; omega) (by rw [hvs]; simp; omega) rfl rfl rfl rfl rfl fun b a' c' w _ h => ?_
   refine Y40 ?_
   refine qv (.int .i64 ((k + 1 : Nat) : Int)) O4 ?_
   refine Y2 ?_
   exact qj ⟨(k + 1, a', c'), ⟨rfl, rfl, rfl, rfl, rfl, trivial⟩, ⟨hlt, h⟩, by dsimp only; omega⟩
  ·obtain rfl : k = L.length := by simp at hc; omega
   rw [List.take_length] at h
   refine qn ⟨(oa, oc), ⟨rfl, rfl, ?_, trivial⟩, h.f 1⟩
   show Value.slice oa (timesOf (L.take L.length)).length oc = _
   rw [List.take_length]
 clear h
 rintro ⟨ta, tc⟩ w e h
 dsimp only at h ⊢
 have htb := timesBits_len (timesOf L)
 have hpl := jd (timesBits (timesOf L))
 refine Y4f ?_
 refine qx rfl (qq rfl (ref4_Times (timesOf_wf hw) O0 O2 h Reads.own) ?_)
 rintro _ w ⟨rfl, h⟩
 rw [List.nil_append] at h
 refine Y2u ?_
 refine qx rfl (qq rfl (rw_Bytes O0 h) ?_)
 rintro _ w ⟨xa, xc, rfl, h⟩
 replace h := ((h.f 1).drop.f 1).drop
 refine Yk ?_
 have hsb : suitBytes L vb = vput (pack (timesBits (timesOf L))).length ++ (pack (timesBits (timesOf L)) ++ vb) := rfl
 generalize pack (timesBits (timesOf L)) = tb at *
 have hvp := q7 tb.length
 rw [hsb]
 refine Y20 ?_; refine Yd ?_
 refine qv (.int .u64 (tb.length : Int)) O9 ?_
 refine qx rfl (qq rfl (ref1_Put (bs := []) tb.length O0 h (fun w' h' => Reads.nil.at_ h') O8) ?_)
 rintro _ w ⟨a1, c1, rfl, h⟩
 rw [List.nil_append] at h ⊢
 refine Yn ?_
 refine qx rfl (ql (ys := bytesV tb) (zs := bytesV (vput tb.length ++ tb)) (m3 := (vput tb.length ++ tb).length) h rfl rfl (h.f 1).own_rd (bytesV_one _) O8 O27 O3 O3 rfl fun a2 c2 w _ h => ?_)
 refine Yn ?_
 refine qx rfl (ql (ys := bytesV vb) (zs := bytesV (vput tb.length ++ (tb ++ vb))) (m3 := (vput tb.length ++ (tb ++ vb)).length) h rfl rfl (h.f 2).own_rd (bytesV_one _) O3 O27 O3 O3 rfl fun a3 c3 w _ h => ?_)
 refine Y1b ?_
 exact qj (qu (bq2 ⟨a3, c3, rfl, ((h.f 1).drop.f 1).drop⟩))
theorem ref1_Entry {i : Nat} (hi : i < 4294967296) (h : St w0 l w) : Ret Tryz.prog 96 [.int .u32 i] w fun v w' => v = .int .u32 (crcByte i : Nat) ∧ St w0 l w' := by
 refine enter Tryz.func96 rfl Tryz.results96 Tryz.ntmps96 rfl ?_
 refine Ye ?_; refine Y2v ?_
 refine qo (Γ := Nat) (fun k => [(0, .int .u32 (crcN k i : Nat)), (3, .int .i64 k)]) (fun k w => k ≤ 8 ∧ St w0 l w) (fun k => 8 - k) 0 ⟨rfl, rfl, trivial⟩ ⟨Nat.zero_le _, h⟩ ?_
 clear h
 rintro k w e ⟨hk, h⟩
 refine Y3z ?_
 by_cases hk8 : k < 8
 ·refine qv (.bool true) O3 ?_
  refine Y1y ?_
  have hcl := crcN_lt hi k
  have hstep : crcN (k + 1) i = crcBit (crcN k i) := rfl
  generalize crcN k i = c at hcl hstep
  refine qe (Γ := Unit) (fun _ => [(0, .int .u32 (crcN (k + 1) i : Nat)), (3, .int .i64 k)]) (fun _ w => St w0 l w) ?_ ?_
  ·refine Ya ?_; refine Y4 ?_
   refine qz (qm (v' := .int .u32 ((c % 2 : Nat) : Int)) (q_and rfl rfl) (by rw [show bitOp .and .u32 (c : Int) 1 = ((c &&& 1 : Nat) : Int) from (bit_u32 hcl O2).1, Nat.and_one_is_mod])) rfl ?_
   refine Y5 ?_; refine Y4 ?_
   refine qz (qm (v' := .int .u32 ((c / 2 : Nat) : Int)) (jk rfl rfl O0) (congrArg (Value.int .u32) (q9 c 1 32 O2))) rfl ?_
   refine Y5 ?_; refine Y4 ?_; refine Yc ?_
   by_cases h1 : c % 2 = 1
   ·refine qv (.bool true) (by rw [h1]; rfl) ?_
    refine Yi ?_; refine Y18 ?_; refine Y37 ?_
    refine qv (.int .u32 ((crcN (k + 1) i : Nat) : Int)) (by rw [hstep, crcBit, if_pos h1]; exact congrArg (Value.int .u32) (bit_u32 O0 O2).2) ?_
    refine Y2 ?_
    exact qj ⟨(), ⟨rfl, rfl, trivial⟩, h⟩
   ·refine qv (.bool false) O5 ?_
    refine qj (q8 rfl (q4 ⟨(), ⟨?_, rfl, trivial⟩, h⟩))
    show Value.int .u32 ((c / 2 : Nat) : Int) = _
    rw [hstep, crcBit, if_neg h1]
  clear h
  rintro ⟨⟩ w e h
  refine Y1d ?_
  refine qv (.int .i64 ((k + 1 : Nat) : Int)) O4 ?_
  refine Y2 ?_
  exact qj ⟨k + 1, ⟨rfl, rfl, trivial⟩, ⟨hk8, h⟩, by omega⟩
 ·refine qv (.bool false) O3 ?_
  obtain rfl : k = 8 := by omega
  refine qj (q8 rfl (qn ?_))
  refine Y4 ?_; refine Y2 ?_
  exact qj (qu (bq1 ⟨rfl, h⟩))
theorem ref1_Sum {sl : Option Addr} {c : Nat} {bs : List UInt8} (hn : bs.length ≤ 140737488355328) (hr : Reads w0 l 1 sl bs.length (bytesV bs)) (h : St w0 l w) :
  Ret Tryz.prog 57 [.slice sl bs.length c] w fun v w' => v = .int .u32 (crc bs : Int) ∧ St w0 l w' := by
 refine enter Tryz.func57 rfl Tryz.results57 Tryz.ntmps57 rfl ?_
 refine Ye ?_; refine Ye ?_; refine Y2v ?_
 refine qo (Γ := Nat × Nat) (fun k => [(0, .slice sl bs.length c), (3, .int .u32 (k.2 : Int)), (4, .int .i64 k.1)])
  (fun k w => k.1 ≤ bs.length ∧ k.2 < 4294967296 ∧ crcA k.2 (bs.drop k.1) = crcA 4294967295 bs ∧ St w0 l w) (fun k => bs.length - k.1) (0, 4294967295) ⟨rfl, rfl, rfl, trivial⟩ ⟨Nat.zero_le _, (by decide : (4294967295 : Nat) < 4294967296), rfl, h⟩ ?_
 clear h
 rintro ⟨i, s⟩ w e ⟨hi, hs, he, h⟩
 dsimp only at hi hs he h ⊢
 refine Y2m ?_
 refine qy (decide ((i : Int) < (bs.length : Int))) rfl (fun hc => ?_) (fun hc => ?_)
 ·have hlt : i < bs.length := by simp at hc; omega
  have hg := List.getElem?_eq_getElem hlt
  have hdr := List.drop_eq_getElem_cons hlt
  generalize bs[i] = x at hg hdr
  have hx := x.toNat_lt
  rw [hdr, crcA] at he
  have hst := crcStep_lt (x := x.toNat) hs hx
  unfold crcStep at he hst
  have hj : (s % 256) ^^^ x.toNat < 256 := xor8 (Nat.mod_lt _ O2) hx
  have hbl := crcByte_lt hj
  have hxm : (s ^^^ x.toNat) % 256 = (s % 256) ^^^ x.toNat := by
   have := Nat.xor_mod_two_pow (a := s) (b := x.toNat) (n := 8)
   rw [show (2 : Nat) ^ 8 = 256 from rfl, Nat.mod_eq_of_lt hx] at this
   exact this
  obtain ⟨b, o, hsl⟩ := (hr.at_ h).some O0
  refine Yr ?_; refine Y18 ?_; refine Y29 ?_
  refine qz (qc (b := b) (o := o) (m := bs.length) (c := c) (o' := o + i) O7 rfl rfl hlt O8) rfl ?_
  refine qz (qw (v := .int .u8 x.toNat) rfl ((hsl ▸ hr.at_ h).cell (bytesV_get hg))) rfl ?_
  refine Yd ?_
  refine qv (.int .u32 (x.toNat : Int)) (by rw [wrap_u32, Nat.mod_eq_of_lt O0]) ?_
  refine Y37 ?_
  refine qv (.int .u32 ((s ^^^ x.toNat : Nat) : Int)) (congrArg (Value.int .u32) (bit_u32 hs O0).2) ?_
  refine qz (qm (v' := .int .u32 (((s % 256) ^^^ x.toNat : Nat) : Int)) (q_and rfl rfl) (by
   rw [show bitOp .and .u32 ((s ^^^ x.toNat : Nat) : Int) 255 = (((s ^^^ x.toNat) &&& 255 : Nat) : Int) from (bit_u32 (Nat.xor_lt_two_pow (n := 32) hs O0) O2).1, show (s ^^^ x.toNat) &&& 255 = (s ^^^ x.toNat) % 256 from and_low _ 8, hxm])) rfl ?_
  refine qx rfl (qq rfl (ref1_Entry O0 h) ?_)
  rintro _ w ⟨rfl, h⟩
  generalize crcByte ((s % 256) ^^^ x.toNat) = tb at he hst hbl ⊢
  refine Y0 ?_
  refine qz (qm (v' := .int .u32 ((s / 2 ^ 8 : Nat) : Int)) (jk rfl rfl O0) (congrArg (Value.int .u32) (q9 s 8 32 O2))) rfl ?_
  refine Y37 ?_
  refine qv (.int .u32 ((tb ^^^ (s / 256) : Nat) : Int)) (congrArg (Value.int .u32) (bit_u32 hbl O0).2) ?_
  refine Y49 ?_
  refine qv (.int .i64 ((i + 1 : Nat) : Int)) O4 ?_
  refine Y2 ?_
  exact qj ⟨(i + 1, tb ^^^ (s / 256)), ⟨rfl, rfl, rfl, trivial⟩, ⟨hlt, hst, he, h⟩, by dsimp only; omega⟩
 ·have hin : i = bs.length := by simp at hc; omega
  rw [hin, List.drop_length, crcA] at he
  refine qn ?_
  refine Y4 ?_; refine Y37 ?_
  refine qv (.int .u32 ((s ^^^ 4294967295 : Nat) : Int)) (congrArg (Value.int .u32) (bit_u32 hs O2).2) ?_
  refine Y5 ?_
  exact qu (bq1 ⟨by unfold crc; rw [← he]; rfl, h⟩)
theorem ref10_Make (tag : Int) {sl : Option Addr} {c : Nat} {L : List Smp} (hw : ∀ s ∈ L, s.Wf) (hn : L.length ≤ 65535) (hr : Reads w0 l 2 sl L.length (smpsV L)) (h : St w0 l w) :
  Ret Tryz.prog 21 [.int .i64 tag, .slice sl L.length c] w fun v w' => ∃ a c', v = .tuple [.slice a ((chMake tag L).getD []).length c', .bool (chMake tag L).isSome].toArray ∧ St w0 (OwnB a c' ((chMake tag L).getD []) :: l) w' := by
 have hlen := suitEnc_len (tag := tag) hw
 refine enter Tryz.func21 rfl Tryz.results21 Tryz.ntmps21 rfl ?_
 refine Y34 ?_; refine Yn ?_
 refine qx rfl (qq rfl (ref10_Encode tag hw hn hr h) ?_)
 cases hE : suitEnc tag L with
 | none =>
  have hM : chMake tag L = none := by unfold chMake; rw [hE]
  rw [hM]
  rintro _ w ⟨xa, xc, rfl, h⟩
  replace h := h.drop
  show Rn _ _ _ _ _ (upd _ _ (.tuple [.slice xa 0 xc, .bool false].toArray)) _
  refine Y14 ?_; refine Y1q ?_; refine Y15 ?_; refine Y2f ?_; refine Y2s ?_
  exact qu (bq2 ⟨none, 0, rfl, St.ownNil _ _ h⟩)
 | some x =>
 rw [hE] at hlen
 have hxl : x.length ≤ 3000000 := hlen
 obtain ⟨ht1, ht6⟩ := suitEnc_tag hE
 obtain ⟨_, hL16⟩ := suitEnc_rises hE
 rintro _ w ⟨xa, xc, rfl, h⟩
 replace h : St w0 (OwnB xa xc x :: l) w := h
 show Rn _ _ _ _ _ (upd _ _ (.tuple [.slice xa x.length xc, .bool true].toArray)) _
 refine Y14 ?_; refine Y1q ?_; refine Y3a ?_
 by_cases hL0 : L.length = 0
 ·have hLn : L = [] := List.eq_nil_of_length_eq_zero hL0
  have hM : chMake tag L = none := by unfold chMake; rw [hE]; dsimp only; rw [if_pos hLn]
  rw [hM]
  refine qz (qm (v' := .bool true) (js rfl rfl) (by rw [hL0]; rfl)) rfl ?_
  refine Y7 ?_; refine Y2s ?_
  exact qu (bq2 ⟨none, 0, rfl, St.ownNil _ _ h.drop⟩)
 have hLn : L ≠ [] := fun hh => hL0 (by rw [hh]; rfl)
 have hM : chMake tag L = some (chBody tag L x ++ be4 (crc (chBody tag L x))) := by unfold chMake; rw [hE]; dsimp only; rw [if_neg hLn]
 rw [hM]
 obtain ⟨w1, w2⟩ := ends_wf hw hLn
 refine qz (qm (v' := .bool false) (js rfl rfl) O5) rfl ?_
 refine Y7 ?_; refine Y9 ?_; refine Y47 ?_
 refine qv (.int .u8 ((UInt8.ofNat tag.toNat).toNat : Int)) (by rw [UInt8.toNat_ofNat', show tag = ((tag.toNat : Nat) : Int) by omega, wrap_u8]; simp) ?_
 refine qx rfl (qr (r := bytesV [UInt8.ofNat tag.toNat]) h rfl rfl rfl fun b2 w h => ?_)
 refine Y1p ?_; refine Yd ?_
 refine qv (.int .u64 (L.length : Int)) (congrArg (Value.int .u64) (gw O0)) ?_
 refine qx rfl (qq rfl (ref1_Put (bs := [UInt8.ofNat tag.toNat]) L.length O0 h (fun w' h' => (Reads.pt (m := 0) rfl rfl).at_ h') O8) ?_)
 rintro _ w ⟨a1, c1, rfl, h⟩
 replace h := (h.f 1).drop
 refine Yk ?_
 have hp1 := q7 L.length
 have hp2 := q7 (zigT (firstT L))
 have hp3 := q7 (zigT (lastT L))
 refine qe (Γ := Option Addr × Nat) (fun q => [(0, .int .i64 tag), (1, .slice sl L.length c), (6, .slice xa x.length xc), (8, .slice q.1 (UInt8.ofNat tag.toNat :: (chNums L).flatMap vput).length q.2)]) (fun q w => St w0 (OwnB q.1 q.2 (UInt8.ofNat tag.toNat :: (chNums L).flatMap vput) :: OwnB xa xc x :: l) w) ?_ ?_
 ·have hg0 : L[0]? = some (L[0]'O0) := List.getElem?_eq_getElem _
  have hgl : L[L.length - 1]? = some (L[L.length - 1]'O0) := List.getElem?_eq_getElem _
  have hf : firstT L = (L[0]'O0).T := by unfold firstT; rw [List.head?_eq_getElem?, hg0]; rfl
  have ht : lastT L = (L[L.length - 1]'O0).T := by unfold lastT; rw [List.getLast?_eq_getElem?, hgl]; rfl
  generalize L[0]'O0 = s0 at hg0 hf
  generalize L[L.length - 1]'O0 = s1 at hgl ht
  obtain ⟨b, o, hsl⟩ := ((hr.more [_, _]).at_ h).some O0
  have hc0 : ∀ {w'}, (∃ M, St w0 (M ++ l) w') → w'.cell? ⟨b, o, none⟩ = some (.int .i64 s0.T) := fun ⟨M, h'⟩ => by
   have := (hsl ▸ hr M _ h').elem jz hg0 0 _ rfl; simpa using this
  have hc1 : ∀ {w'}, (∃ M, St w0 (M ++ l) w') → w'.cell? ⟨b, o + (L.length - 1) * 2 + 0, none⟩ = some (.int .i64 s1.T) := fun ⟨M, h'⟩ => (hsl ▸ hr M _ h').elem jz hgl 0 _ rfl
  refine gj [0, 1, 2, 3, 4, 5, 6, 7, 8, 9, 10, 11, 12, 13, 14, 15, 16] none (fun w => ∃ M, St w0 (M ++ l) w) O1 O1 ?_
  replace h := h.drew
  generalize w.drew = w at h
  have hs := h
  replace h : ∃ M, St w0 (M ++ l) w := ⟨[_, _], hs⟩
  refine Y1m ?_; refine Y1m ?_
  refine cpv rfl rfl rfl rfl h rfl (qc (b := b) (o := o) (m := L.length) (c := c) (j := 0) (o' := o) O7 rfl rfl O0 O8) ?_
  refine Y1g ?_
  refine qg rfl rfl rfl rfl h (fun w h => qp rfl (qw (v := .int .i64 s0.T) rfl (hc0 h))) ?_
  refine Yz ?_; refine Y1m ?_; refine Y3b ?_
  refine cpv rfl rfl rfl rfl h rfl (qm (v' := .int .i64 ((L.length - 1 : Nat) : Int)) (jt rfl rfl) O6) ?_
  refine cpv rfl rfl rfl rfl h rfl (qc (b := b) (o := o) (m := L.length) (c := c) (j := L.length - 1) (o' := o + (L.length - 1) * 2) O7 rfl rfl O0 rfl) ?_
  refine Y1g ?_
  refine qg rfl rfl rfl rfl h (fun w h => qp rfl (qw (v := .int .i64 s1.T) rfl (hc1 h))) ?_
  refine Y1j ?_
  refine qt 5 rfl rfl rfl rfl ?_
  refine (qq rfl (ref1_Zig (hf ▸ w1) hs) ?_)
  rintro _ w ⟨rfl, hs⟩
  rw [← hf]
  replace h : ∃ M, St w0 (M ++ l) w := ⟨[_, _], hs⟩
  refine ⟨fun _ => h, ?_⟩
  refine Y13 ?_
  refine qt 6 rfl rfl rfl rfl ?_
  refine (qq rfl (ref1_Put (zigT (firstT L)) (zigT_lt _) hs (fun w' h' => h'.own_rd) O3) ?_)
  rintro _ w ⟨a2, c2, rfl, hs⟩
  replace h : ∃ M, St w0 (M ++ l) w := ⟨[_, _, _], hs⟩
  refine ⟨fun _ => h, ?_⟩
  refine Y1j ?_
  refine qt 14 rfl rfl rfl rfl ?_
  refine (qq rfl (ref1_Zig (ht ▸ w2) hs) ?_)
  rintro _ w ⟨rfl, hs⟩
  rw [← ht]
  replace h : ∃ M, St w0 (M ++ l) w := ⟨[_, _, _], hs⟩
  refine ⟨fun _ => h, ?_⟩
  refine Yz ?_
  refine qt 15 rfl rfl rfl rfl ?_
  refine (qq rfl (ref1_Put (zigT (lastT L)) (zigT_lt _) hs (fun w' h' => h'.own_rd) O3) ?_)
  rintro _ w ⟨a3, c3, rfl, hs⟩
  replace h : ∃ M, St w0 (M ++ l) w := ⟨[_, _, _, _], hs⟩
  refine ⟨fun _ => h, ?_⟩
  refine Y1s ?_
  have e3 : [UInt8.ofNat tag.toNat] ++ vput L.length ++ vput (zigT (firstT L)) ++ vput (zigT (lastT L)) = UInt8.ofNat tag.toNat :: (chNums L).flatMap vput := by simp [chNums]
  rw [e3] at hs
  refine qi ⟨(a3, c3), ⟨rfl, rfl, rfl, ?_, trivial⟩, ((hs.f 1).drop.f 1).drop⟩
  show Value.slice _ _ _ = Value.slice _ _ _
  rw [e3]
 clear h a1 c1
 rintro ⟨a1, c1⟩ w e h
 dsimp only at h ⊢
 have hbl := chBody_len tag L x
 have hbe : chBody tag L x = (UInt8.ofNat tag.toNat :: (chNums L).flatMap vput) ++ x := by simp [chBody]
 have hbl2 : (UInt8.ofNat tag.toNat :: (chNums L).flatMap vput).length + x.length = (chBody tag L x).length := by rw [hbe, List.length_append]
 generalize UInt8.ofNat tag.toNat :: (chNums L).flatMap vput = hd at h hbe hbl2 ⊢
 generalize chBody tag L x = B at hbe hbl hbl2 ⊢
 refine Y6 ?_; refine Yn ?_
 refine qx rfl (ql (ys := bytesV x) (zs := bytesV B) (m3 := B.length) h rfl rfl (h.f 1).own_rd (bytesV_one _) O0 (by rw [hbe]; simp [bytesV]) O0 O0 rfl fun a2 c2 w _ h => ?_)
 refine Yk ?_; refine Y6 ?_
 refine qx rfl (qq rfl (ref1_Sum (bs := B) O0 Reads.own h) ?_)
 rintro _ w ⟨rfl, h⟩
 refine Y5 ?_
 generalize crc B = k
 refine Yp ?_
 refine qz (qm (v' := .int .u32 ((k / 2 ^ 24 : Nat) : Int)) (jk rfl rfl O0) (congrArg (Value.int .u32) (q9 k 24 32 O2))) rfl ?_
 refine Yd ?_
 refine qv (.int .u8 ((UInt8.ofNat (k / 2 ^ 24)).toNat : Int)) O12 ?_
 refine Y0 ?_
 refine qz (qm (v' := .int .u32 ((k / 2 ^ 16 : Nat) : Int)) (jk rfl rfl O0) (congrArg (Value.int .u32) (q9 k 16 32 O2))) rfl ?_
 refine Yd ?_
 refine qv (.int .u8 ((UInt8.ofNat (k / 2 ^ 16)).toNat : Int)) O12 ?_
 refine Y0 ?_
 refine qz (qm (v' := .int .u32 ((k / 2 ^ 8 : Nat) : Int)) (jk rfl rfl O0) (congrArg (Value.int .u32) (q9 k 8 32 O2))) rfl ?_
 refine Yd ?_
 refine qv (.int .u8 ((UInt8.ofNat (k / 2 ^ 8)).toNat : Int)) O12 ?_
 refine Y2k ?_
 refine qv (.int .u8 ((UInt8.ofNat k).toNat : Int)) O12 ?_
 refine qx rfl (qr (r := bytesV (be4 k)) h rfl rfl rfl fun b4 w h => ?_)
 refine qx rfl (ql (ys := bytesV (be4 k)) (zs := bytesV (B ++ be4 k)) (m3 := (B ++ be4 k).length) (h.f 1) rfl rfl ⟨rfl, .inr ⟨b4, 0, rfl, qb (h.b 0 rfl) rfl⟩⟩ (bytesV_one _) (by simp [be4_len]) O27 O22 O22 rfl fun a3 c3 w _ h => ?_)
 refine Yv ?_
 refine qu (bq2 ⟨a3, c3, rfl, ?_⟩)
 have h' := ((h.f 1).drop.f 1).drop
 exact h'
end
end Go.Proofs.YtnnehiiblfmpnaaGreatDoor

namespace Go.Hw
set_option maxRecDepth 100000
def L5 : List Smp := [⟨1, 0⟩, ⟨2, 0⟩, ⟨3, 0⟩, ⟨4, 0⟩, ⟨5, 0⟩]
def C5 : List UInt8 := (chMake 1 L5).getD []
theorem C5_make : chMake 1 L5 = some C5 := by
 have : (chMake 1 L5).isSome = true := by decide +kernel
 unfold C5
 cases h : chMake 1 L5 with
 | none => rw [h] at this; cases this
 | some b => rfl
theorem C5_len : C5.length ≤ 1000 := by decide +kernel
theorem L5_wf : ∀ s ∈ L5, s.Wf := by
 intro s hs
 simp only [L5, List.mem_cons, List.not_mem_nil, or_false] at hs
 rcases hs with rfl | rfl | rfl | rfl | rfl <;> exact ⟨⟨by decide, by decide⟩, by decide⟩
end Go.Hw
namespace Go.Proofs.YtnnehiiblfmpnaaGreatDoor
open Go.Hw
set_option maxHeartbeats 4000000
set_option maxRecDepth 100000
def R5 : Rn0 := ⟨⟨3, 0, 1⟩, 2, 4, C5, L5, Cac.new 1⟩
def S5 : Sto := ⟨1000, 1, C5.length, 0, [(1, ⟨C5, 1⟩)]⟩
theorem R5_hit : R5.hit = false := rfl
theorem R5_w : R5.w = [⟨2, 0⟩, ⟨3, 0⟩, ⟨4, 0⟩] := by decide
theorem R5_total : R5.total = 5 := by unfold Rn0.total; rw [R5_hit, R5_w]; rfl
theorem R5_ok : R5.Ok S5 := by
 have hg := Cac.new_good 1
 refine ⟨?_, ⟨_, rfl, rfl⟩, fun M hM => (by cases hM), fun _ => ?_, by decide⟩
 ·show (chOpen C5).map Prod.fst = some L5
  rw [chOpen_told L5_wf (by have := C5_len; omega) C5_make]; rfl
 ·exact (Cac.put_in hg (Int.le_refl 0) O2 rfl (fun hc => by have := hc.1; revert this; decide)).1
theorem R5_rows : R5.fin.rows.length = 1 := by
 have hg := Cac.new_good 1
 have hf := Rn0.fin_ok (R := R5) hg (Int.le_refl 0) R5_ok
 have hb := (Rn0.base_good (R := R5) hg (Int.le_refl 0) R5_ok).2.2.2 R5_hit
 rw [hf.rows]
 rcases hb.others with ⟨_, e, _⟩ | ⟨e, _⟩
 ·rw [e]; rfl
 ·exact absurd e O2
theorem R5_pins (k : Key3) : R5.fin.pins k = if k = R5.key then some 0 else none := by
 have hg := Cac.new_good 1
 have hf := Rn0.fin_ok (R := R5) hg (Int.le_refl 0) R5_ok
 have hb := (Rn0.base_good (R := R5) hg (Int.le_refl 0) R5_ok).2.2.2 R5_hit
 rw [hf.pins]
 split
 ·rename_i e; rw [e]; exact hb.here
 ·rename_i e
  rcases hb.others with ⟨_, _, e2⟩ | ⟨e2, _⟩
  ·rw [e2 k e]; rfl
  ·exact absurd e2 O2
section
variable {w0 w : World} {l : List HProp}
theorem law20_awake (hT : Tz w0) (h : St w0 l w) : Ret Tryz.prog 22 [] w fun v w' => v = .bool true ∧ St w0 l w' := by
 have hcm := C5_len
 have hG5 : R5.C0.Good 0 := Cac.new_good 1
 refine enter Tryz.func22 rfl Tryz.results22 Tryz.ntmps22 rfl ?_
 refine Y2b ?_; refine Y1 ?_
 refine qz (qa (r := (Smp.mk 1 0).cells) rfl) rfl ?_
 refine qz (qa (r := (Smp.mk 2 0).cells) rfl) rfl ?_
 refine qz (qa (r := (Smp.mk 3 0).cells) rfl) rfl ?_
 refine qz (qa (r := (Smp.mk 4 0).cells) rfl) rfl ?_
 refine qz (qa (r := (Smp.mk 5 0).cells) rfl) rfl ?_
 refine qx rfl (qr (r := smpsV L5) h rfl rfl rfl fun bs w h => ?_)
 have hr : Reads w0 (pt bs (.cells (smpsV L5).toArray 58 (0, 0)) :: l) 2 (some ⟨bs, 0, none⟩) L5.length (smpsV L5) := Reads.pt (m := 0) rfl rfl
 refine Yk ?_; refine Y6 ?_
 refine qx rfl (qq rfl (ref10_Make 1 (L := L5) L5_wf O2 hr h) ?_)
 rw [C5_make]
 clear h
 rintro _ w ⟨ac, cc, rfl, h⟩
 replace h : St w0 (OwnB ac cc C5 :: pt bs (.cells (smpsV L5).toArray 58 (0, 0)) :: l) w := h
 show Rn _ _ _ _ _ (upd _ _ (.tuple [.slice ac C5.length cc, .bool true].toArray)) _
 refine Y14 ?_; refine Y1 ?_
 refine qx rfl (qq rfl (blob_New 1000 h) ?_)
 clear h
 rintro _ w ⟨b, rfl, h⟩
 refine qx rfl (qq rfl (cach_New 1 h) ?_)
 clear h
 rintro _ w ⟨p, rfl, h⟩
 refine Y4y ?_; refine Y1e ?_; refine Y2x ?_; refine Y4j ?_; refine Y2t ?_; refine Y4j ?_; refine Y7 ?_; refine Y9 ?_; refine Y4f ?_
 refine qx rfl (qq rfl (blob_Add (bs := C5) (n := C5.length) (h.f 1) (fun w' h' => (h'.f 1).own_rd) O0 rfl) ?_)
 clear h
 rintro _ w h
 have e0 : IntKind.i64.wrap ((⟨min (max 1000 0) 1073741824, 0, 0, 0, []⟩ : Sto).budget - IntKind.i64.wrap ((⟨min (max 1000 0) 1073741824, 0, 0, 0, []⟩ : Sto).bytes + (⟨min (max 1000 0) 1073741824, 0, 0, 0, []⟩ : Sto).charged)) = 1000 := by decide
 rw [e0, if_neg O0] at h
 obtain ⟨rfl, h⟩ := h
 have e1 : IntKind.i64.wrap ((⟨min (max 1000 0) 1073741824, 0, 0, 0, []⟩ : Sto).last + 1) = 1 := by decide
 have e2 : IntKind.i64.wrap ((⟨min (max 1000 0) 1073741824, 0, 0, 0, []⟩ : Sto).bytes + (C5.length : Int)) = (C5.length : Int) := by
  show IntKind.i64.wrap (0 + (C5.length : Int)) = _
  rw [wrap64 O0 O0]; omega
 rw [e1] at h ⊢
 rw [e2] at h
 replace h : St w0 (IsStore b S5 :: IsCache p (Cac.new 1) :: OwnB ac cc C5 :: pt bs (.cells (smpsV L5).toArray 58 (0, 0)) :: l) w := h
 refine Y28 ?_; refine Yx ?_; refine Y4 ?_
 refine qz (qa (r := (Prt.mk 1 1 5 1 5).cells) rfl) rfl ?_
 refine qx rfl (qq rfl (take_New 3 0 ⟨1, 1, 5, 1, 5⟩ 2 4 h) ?_)
 clear h
 rintro _ w ⟨t, rfl, h⟩
 refine Y1e ?_; refine Y1 ?_
 refine qz (qa (r := (Prt.mk 99 0 5 1 5).cells) rfl) rfl ?_
 refine qx rfl (qq rfl (take_New 3 0 ⟨99, 0, 5, 1, 5⟩ 2 4 h) ?_)
 clear h
 rintro _ w ⟨u, rfl, h⟩
 refine Y1e ?_; refine Y2x ?_; refine Y4j ?_; refine Y2t ?_; refine Y4j ?_; refine Y7 ?_; refine Y9 ?_
 replace h : St w0 (IsTk t (Tk.new 3 0 1 2 4) :: IsStore b S5 :: IsCache p R5.C0 :: IsTk u (Tk.new 3 0 99 2 4) :: OwnB ac cc C5 :: pt bs (.cells (smpsV L5).toArray 58 (0, 0)) :: l) w := h.o [1, 2, 3, 0]
 generalize hM : (IsTk u (Tk.new 3 0 99 2 4) :: OwnB ac cc C5 :: pt bs (.cells (smpsV L5).toArray 58 (0, 0)) :: l) = M at h
 refine Ye ?_
 have hst : R5.Ph 5 (Tk.new 3 0 1 2 4) R5.C0 := by have := Rn0.Ph.start (R := R5) 3 0 1 rfl; rw [R5_total] at this; exact this
 have hS : ∀ id e, mget id S5.l = some e → e.bs.length ≤ 140737488355328 := by
  intro id e he
  have : e = ⟨C5, 1⟩ := by
   simp only [S5, mget] at he
   split at he
   ·exact (Option.some.inj he).symm
   ·cases he
  rw [this]; dsimp only; omega
 refine qe (Γ := Tk) (fun _ => [(1, .slice (some ⟨bs, 0, none⟩) 5 5), (4, .pointer (some ⟨b, 0, none⟩)), (5, .pointer (some ⟨p, 0, none⟩)), (6, .int .i64 1), (7, .bool true), (8, .pointer (some ⟨t, 0, none⟩)), (9, .pointer (some ⟨u, 0, none⟩)), (10, .int .i64 5)])
  (fun x w => x.PhE R5.w ∧ St w0 (IsTk t x :: IsStore b S5 :: IsCache p R5.fin :: M) w) ?_ ?_
 ·refine Y19 ?_
  refine qo (Γ := Nat × Tk × Cac) (fun g => [(1, .slice (some ⟨bs, 0, none⟩) 5 5), (4, .pointer (some ⟨b, 0, none⟩)), (5, .pointer (some ⟨p, 0, none⟩)), (6, .int .i64 1), (7, .bool true), (8, .pointer (some ⟨t, 0, none⟩)), (9, .pointer (some ⟨u, 0, none⟩)), (10, .int .i64 g.1), (11, .int .i64 g.1)])
   (fun g w => g.1 ≤ 5 ∧ R5.Ph (5 - g.1) g.2.1 g.2.2 ∧ St w0 (IsTk t g.2.1 :: IsStore b S5 :: IsCache p g.2.2 :: M) w) (fun g => 5 - g.1) (0, Tk.new 3 0 1 2 4, R5.C0) ⟨rfl, rfl, rfl, rfl, rfl, rfl, rfl, rfl, rfl, trivial⟩ ⟨Nat.zero_le _, hst, h⟩ ?_
  clear h hst
  rintro ⟨i, x, C⟩ w e ⟨hi, hph, h⟩
  dsimp only at hi hph h
  have hsz := hph.size R5_ok
  refine Y3z ?_
  refine qv (.bool true) O10 ?_
  refine Yi ?_; refine Yr ?_; refine Y2x ?_
  have hdone := take_Done (x := x) O0 h
  have hz := hph.zero
  clear h
  cases hd : x.done with
  | true =>
   rw [hd] at hdone hz
   have h0 : 5 - i = 0 := hz.1.2 rfl
   obtain ⟨hE, rfl⟩ := hz.2 h0
   obtain rfl : i = 5 := by omega
   refine qx rfl (qq rfl hdone ?_)
   rintro _ w ⟨a, c, rfl, h⟩
   refine Y14 ?_; refine Y31 ?_
   refine qj (gq rfl (qn ?_))
   exact Eq.mpr (if_neg O2) (Eq.mpr (if_pos rfl) ⟨x, ⟨rfl, rfl, rfl, rfl, rfl, rfl, rfl, rfl, trivial⟩, hE, h.drop⟩)
  | false =>
   rw [hd] at hdone hz
   have h0 : 5 - i ≠ 0 := fun e => by have := hz.1.1 e; cases this
   refine qx rfl (qq rfl hdone ?_)
   rintro _ w ⟨a, c, rfl, h⟩
   replace h := h.drop
   refine Y14 ?_; refine Y31 ?_; refine Y9 ?_; refine Y2x ?_; refine Y24 ?_; refine Y24 ?_
   have hst := hph.step R5_ok (S := S5)
   refine qx rfl (qq rfl (step_good hT hsz (hph.good hG5 (Int.le_refl 0) R5_ok) ⟨by decide, by decide⟩ hS h) ?_)
   clear h
   rintro _ w ⟨rfl, h⟩
   obtain ⟨hs0, hs1⟩ := hst
   rw [hs0]
   refine Y3c ?_; refine Y9 ?_; refine Y1d ?_
   refine qv (.int .i64 (i + 1 : Nat)) O13 ?_
   refine Y49 ?_
   refine qv (.int .i64 (i + 1 : Nat)) O13 ?_
   refine Y2 ?_
   refine qj ⟨(i + 1, (x.step S5 C).1, (x.step S5 C).2.1), ⟨rfl, rfl, rfl, rfl, rfl, rfl, rfl, rfl, rfl, trivial⟩, ⟨by dsimp only; omega, ?_, h⟩, by dsimp only; omega⟩
   dsimp only
   rw [show 5 - (i + 1) = 5 - i - 1 by omega]
   exact hs1
 rintro x w e ⟨hE, h⟩
 subst hM
 have hdn := take_Done (x := x) (by rw [hE.out]; exact Nat.le_trans Rn0.w_len O2) h
 rw [hE.done, hE.out, if_pos rfl, R5_w] at hdn
 refine Yt ?_
 refine qx rfl (qq rfl hdn ?_)
 clear h hdn
 rintro _ w ⟨a, c, rfl, h⟩
 refine Y14 ?_; refine Y31 ?_; refine Y26 ?_; refine Y2e ?_; refine Yg ?_; refine Y4i ?_
 refine qz (q_cut (i := 1) (j := 4) rfl rfl rfl O2 O2) rfl ?_
 refine Y8 ?_
 refine qx rfl (qq rfl (ref10_Same (L1 := [⟨2, 0⟩, ⟨3, 0⟩, ⟨4, 0⟩]) (L2 := [⟨2, 0⟩, ⟨3, 0⟩, ⟨4, 0⟩]) h (fun w' h' => h'.own_rd) (fun w' h' => ((hr.more [_, _, _, _, _, _]).rd w' h').cut (i := 1) (j := 4) (c := 5) O2 O2 O2) O2) ?_)
 clear h
 rintro _ w ⟨rfl, h⟩
 rw [show decide (([⟨2, 0⟩, ⟨3, 0⟩, ⟨4, 0⟩] : List Smp) = [⟨2, 0⟩, ⟨3, 0⟩, ⟨4, 0⟩]) = true by decide]
 refine Yg ?_; refine Yy ?_; refine Y1v ?_; refine Yg ?_; refine Yy ?_; refine Y4z ?_; refine Yg ?_; refine Y2t ?_
 refine qx rfl (qq rfl (cach_Frames (h.f 3)) ?_)
 clear h
 rintro _ w ⟨rfl, h⟩
 rw [R5_rows]
 refine Y3v ?_; refine Yg ?_; refine Y2t ?_; refine Y1t ?_
 refine qz (qa (r := (Key3.mk 3 0 1).C) rfl) rfl ?_
 refine Y8 ?_
 have hG := (Rn0.fin_ok (R := R5) hG5 (Int.le_refl 0) R5_ok).good
 have hu : R5.fin.unpin ⟨3, 0, 1⟩ = (R5.fin, false) := Cac.unpin_zero hG fun a ha => by
  rw [R5_pins] at ha
  split at ha
  ·exact (Option.some.inj ha).symm
  ·cases ha
 have hun := cach_Unpin (k := ⟨3, 0, 1⟩) (hG.ok O2) h
 rw [hu] at hun
 refine qx rfl (qq rfl hun ?_)
 clear h hun
 rintro _ w ⟨rfl, h⟩
 refine Y8 ?_; refine qz (q_eqb rfl rfl) rfl ?_; refine Yg ?_; refine Y2t ?_; refine Y59 ?_; refine Y59 ?_
 have hA : (Tk.new 3 0 99 2 4).PhA := Tk.new_A _ _ _ _ _
 have hgn : (R5.fin.get (Tk.new 3 0 99 2 4).key).2 = none := by
  rw [(Cac.get_good hG _).2.2.2.1]
  exact hG.norow (by rw [R5_pins, if_neg O2])
 have hy : (Tk.new 3 0 99 2 4).step S5 R5.fin = (Tk.new 3 0 99 2 4, R5.fin, 7) := by
  rw [Tk.stepA hA]
  unfold Tk.begin_
  rw [hgn]
  dsimp only
  rw [Tk.get_none hgn]
  rfl
 have hst := step_good (x := Tk.new 3 0 99 2 4) hT O2 hG O2 hS (h.o [4, 3, 0, 1, 2])
 rw [hy] at hst
 refine qx rfl (qq rfl hst ?_)
 clear h hst
 rintro _ w ⟨rfl, h⟩
 refine Y3v ?_; refine Y4b ?_
 refine qj (qu (bq1 ⟨rfl, ?_⟩))
 exact St.drops (L := [_, _, _, _, _, _, _]) h
end
end Go.Proofs.YtnnehiiblfmpnaaGreatDoor

namespace Go.Hw
def Suf (B : List UInt8) (s : RS) : Prop := s.rest.length ≤ 8 * B.length ∧ s.rest = (bitsB B).drop (8 * B.length - s.rest.length)
theorem Suf.all (B : List UInt8) : Suf B ⟨bitsB B, false⟩ := by
 refine ⟨by rw [bitsB_len]; exact Nat.le_refl _, ?_⟩
 rw [bitsB_len, Nat.sub_self, List.drop_zero]
theorem Suf.get {B : List UInt8} {s : RS} (h : Suf B s) (n : Nat) : Suf B (s.get n).2 := by
 obtain ⟨h1, h2⟩ := h
 unfold RS.get
 split
 ·exact ⟨h1, h2⟩
 ·rename_i hn
  have h3 : n ≤ s.rest.length := by omega
  refine ⟨by dsimp only; rw [List.length_drop]; omega, ?_⟩
  dsimp only
  rw [List.length_drop]
  conv => lhs; rw [h2, List.drop_drop]
  congr 1
  omega
theorem Suf.aheadR {B : List UInt8} : ∀ (k : Nat) {s : RS}, Suf B s → Suf B (Hw.aheadR k s).2
 | 0, _, h => h
 | k + 1, s, h => by
  rw [Hw.aheadR]
  split
  ·exact Suf.aheadR k (h.get 1)
  ·exact h.get 1
theorem Suf.nextT {B : List UInt8} {s : RS} (h : Suf B s) : Suf B (Hw.nextT s).2 := (Suf.aheadR 4 h).get _
end Go.Hw
namespace Go.Proofs.YtnnehiiblfmpnaaGreatDoor
open Go.Hw
set_option maxHeartbeats 4000000
set_option maxRecDepth 100000
instance und5 : Und Tryz.prog 305 (.array 5 3) := ⟨Tryz.underlying305⟩
section
variable {w0 w : World} {l : List HProp}
end
end Go.Proofs.YtnnehiiblfmpnaaGreatDoor

namespace Go.Hw
end Go.Hw
namespace Go.Proofs.YtnnehiiblfmpnaaGreatDoor
open Go.Hw
set_option maxHeartbeats 8000000
set_option maxRecDepth 100000
section
variable {w0 w : World} {l : List HProp}
end
end Go.Proofs.YtnnehiiblfmpnaaGreatDoor

namespace Go.Hw
end Go.Hw
namespace Go.Proofs.YtnnehiiblfmpnaaGreatDoor
open Go.Hw
set_option maxHeartbeats 4000000
set_option maxRecDepth 100000
section
variable {w0 w : World} {l : List HProp}
theorem Told.nil {n : Nat} {bs : List UInt8} {D : Option (List Nat)} (hn0 : n = 0) (hD : D = if bs = [] then some [] else none) (h : St w0 l w) : Told w0 l n D (.tuple [.slice none 0 0, .bool (decide (bs = []))].toArray) w :=
 ⟨none, 0, [], decide (bs = []), rfl, (by rw [hD]; by_cases hb : bs = [] <;> simp [hb]), fun _ => ⟨hn0.symm, (fun _ h => by cases h)⟩, St.ownNil _ _ h⟩
end
end Go.Proofs.YtnnehiiblfmpnaaGreatDoor

namespace Go.Hw
end Go.Hw
namespace Go.Proofs.YtnnehiiblfmpnaaGreatDoor
open Go.Hw
set_option maxHeartbeats 4000000
set_option maxRecDepth 100000
section
variable {w0 w : World} {l : List HProp}
end
end Go.Proofs.YtnnehiiblfmpnaaGreatDoor

namespace Go.Proofs.YtnnehiiblfmpnaaGreatDoor
open Go.Hw
set_option maxHeartbeats 4000000
set_option maxRecDepth 100000
section
variable {w0 w : World} {l : List HProp}
end
end Go.Proofs.YtnnehiiblfmpnaaGreatDoor

namespace Go.Proofs.YtnnehiiblfmpnaaGreatDoor
open Go.Hw
set_option maxHeartbeats 4000000
set_option maxRecDepth 100000
section
variable {w0 w : World} {l : List HProp}
abbrev ToldE (w0 : World) (l : List HProp) (n : Nat) (D : Option (List Nat)) (v : Value) (w' : World) : Prop := ∃ a c xs b, v = .tuple [.slice a xs.length c, .bool b].toArray ∧ D = (if b = true then some xs else none) ∧ (b = true → xs.length = n) ∧ (∀ x ∈ xs, x < 18446744073709551616) ∧ xs.length ≤ n ∧ St w0 (OwnU a c xs :: l) w'
theorem ToldE.no {n : Nat} {D : Option (List Nat)} (hb : D = none) (h : St w0 l w) : ToldE w0 l n D (.tuple [.slice none 0 0, .bool false].toArray) w := ⟨none, 0, [], false, rfl, hb, (fun h => by cases h), (fun _ h => by cases h), Nat.zero_le _, St.ownNil _ _ h⟩
end
end Go.Proofs.YtnnehiiblfmpnaaGreatDoor

namespace Go.Hw
set_option maxRecDepth 100000
theorem be8_get (x : Nat) (r : List UInt8) {j : Nat} (h : j < 8) : (be8 x ++ r)[j]? = some (UInt8.ofNat (x / 2 ^ (56 - 8 * j))) := by
 rcases j with _ | _ | _ | _ | _ | _ | _ | _ | j
 ·rfl
 ·rfl
 ·rfl
 ·rfl
 ·rfl
 ·rfl
 ·rfl
 ·show some (UInt8.ofNat x) = some (UInt8.ofNat (x / 2 ^ 0))
  rw [Nat.pow_zero, Nat.div_one]
 ·omega
end Go.Hw
namespace Go.Proofs.YtnnehiiblfmpnaaGreatDoor
open Go.Hw
set_option maxHeartbeats 4000000
set_option maxRecDepth 100000
section
variable {w0 w : World} {l : List HProp}
end
end Go.Proofs.YtnnehiiblfmpnaaGreatDoor

namespace Go.Proofs.YtnnehiiblfmpnaaGreatDoor
open Go.Hw
set_option maxHeartbeats 4000000
set_option maxRecDepth 100000
section
variable {w0 w : World} {l : List HProp}
end
end Go.Proofs.YtnnehiiblfmpnaaGreatDoor

namespace Go.Proofs.YtnnehiiblfmpnaaGreatDoor
open Go.Hw
set_option maxHeartbeats 4000000
set_option maxRecDepth 100000
section
variable {w0 w : World} {l : List HProp}
end
end Go.Proofs.YtnnehiiblfmpnaaGreatDoor

namespace Go.Hw
end Go.Hw
namespace Go.Proofs.YtnnehiiblfmpnaaGreatDoor
open Go.Hw
set_option maxHeartbeats 4000000
set_option maxRecDepth 100000
section
variable {w0 w : World} {l : List HProp}
end
end Go.Proofs.YtnnehiiblfmpnaaGreatDoor

namespace Go.Proofs.YtnnehiiblfmpnaaGreatDoor
open Go.Hw
set_option maxHeartbeats 4000000
set_option maxRecDepth 100000
section
variable {w0 w : World} {l : List HProp}
end
end Go.Proofs.YtnnehiiblfmpnaaGreatDoor

namespace Go.Proofs.YtnnehiiblfmpnaaGreatDoor
open Go.Hw
set_option maxRecDepth 100000
theorem chMake1_len {L : List Smp} {c : List UInt8} (hn : L.length ≤ 60) (h : chMake 1 L = some c) : c.length ≤ 2000 := by
 obtain ⟨x, hx, _, he⟩ := chMake_some h
 have hb := chBody_len 1 L x
 rw [he, List.length_append, be4_len]
 unfold suitEnc at hx
 split at hx
 ·have h1 : valuesEnc 1 (valsOf L) = some (pack (xorBits (valsOf L))) := by unfold valuesEnc; rw [if_pos rfl]
  rw [h1] at hx
  have hx' : suitBytes L (pack (xorBits (valsOf L))) = x := Option.some.inj hx
  have h2 := timesBits_len (timesOf L)
  have h3 := jd (timesBits (timesOf L))
  have h4 := q7 (pack (timesBits (timesOf L))).length
  have h5 : (timesOf L).length = L.length := by simp [timesOf]
  have h6 := xorBits_len (valsOf L)
  have h7 := jd (xorBits (valsOf L))
  have h8 : (valsOf L).length = L.length := by simp [valsOf]
  have h9 : x.length ≤ 1500 := by
   rw [← hx']
   unfold suitBytes
   rw [List.length_append, List.length_append]
   omega
  omega
 ·cases hx
theorem within_all {L : List Smp} {fr to : Int} (h : ∀ s ∈ L, fr ≤ s.T ∧ s.T ≤ to) : within L fr to = L := by
 unfold within
 rw [List.filter_eq_self]
 intro s hs
 simpa using h s hs
theorem rises_span {L : List Smp} (hr : rises L = true) {x y : Smp} (hx : L[0]? = some x) (hy : L[L.length - 1]? = some y) : ∀ s ∈ L, x.T ≤ s.T ∧ s.T ≤ y.T := by
 intro s hs
 obtain ⟨i, hi⟩ := List.mem_iff_getElem?.1 hs
 have hlt := (List.getElem?_eq_some_iff.1 hi).1
 have hh := (rises_iff L).1 hr
 constructor
 ·rcases Nat.eq_zero_or_pos i with rfl | h0
  ·rw [hi] at hx; cases hx; exact Int.le_refl _
  ·exact Int.le_of_lt (hh 0 i x s hx hi h0)
 ·by_cases he : i = L.length - 1
  ·subst he; rw [hi] at hy; cases hy; exact Int.le_refl _
  ·exact Int.le_of_lt (hh i (L.length - 1) s y hi hy O0)
def SC (c : List UInt8) : Sto := ⟨1048576, 1, c.length, 0, [(1, ⟨c, 1⟩)]⟩
theorem SC_le {c : List UInt8} (hc : c.length ≤ 2000) : ∀ id e, mget id (SC c).l = some e → e.bs.length ≤ 140737488355328 := by
 intro id e he
 have : e = ⟨c, 1⟩ := by
  simp only [SC, mget] at he
  split at he
  ·exact (Option.some.inj he).symm
  ·cases he
 rw [this]; dsimp only; omega
namespace Rn0
variable {R : Rn0} {S : Sto} {N : Int} {tg : Nat}
theorem new_run (hc : chOpen R.c = some (R.L, tg)) (hb : ∃ e, mget R.key.blob S.l = some e ∧ e.bs = R.c) (hlen : R.L.length ≤ 65535) (hG : R.C0.Good N) (hN : 0 ≤ N) (hk : R.C0.pins R.key = none) (hroom : (R.C0.rows.length : Int) < R.C0.clk.most) :
  R.Ok S ∧ R.hit = false ∧ R.fin.Good N ∧ R.fin.clk.most = R.C0.clk.most ∧ R.fin.rows = mset R.key R.L R.C0.rows ∧ ∀ j, R.fin.pins j = if j = R.key then some 0 else R.C0.pins j := by
 have hh : R.hit = false := by rw [hit_iff hG, hk]; rfl
 have hl : (R.C0.clk.res.length : Int) < R.C0.clk.most := by rw [← hG.frames]; exact hroom
 have hok : R.Ok S := ⟨by rw [hc]; rfl, hb, fun M hM => (by
  have : R.hit = true := by unfold hit; rw [hM]; rfl
  rw [hh] at this; cases this), fun _ => (Cac.put_in hG hN O0 hk (fun h => by omega)).1, hlen⟩
 have hf := fin_ok hG hN hok
 have hp := (base_good hG hN hok).2.2.2 hh
 refine ⟨hok, hh, hf.good, by rw [hf.most, hp.most], ?_, fun j => ?_⟩
 ·rw [hf.rows]
  rcases hp.others with ⟨_, e, _⟩ | ⟨e, _⟩
  ·exact e
  ·omega
 ·rw [hf.pins]
  split
  ·rename_i e; rw [e]; exact hp.here
  ·rename_i e
   rcases hp.others with ⟨_, _, e2⟩ | ⟨e2, _⟩
   ·exact e2 j e
   ·omega
theorem hit_run (hc : chOpen R.c = some (R.L, tg)) (hb : ∃ e, mget R.key.blob S.l = some e ∧ e.bs = R.c) (hlen : R.L.length ≤ 65535) (hG : R.C0.Good N) (hN : 0 ≤ N) (hk : mget R.key R.C0.rows = some R.L) :
  R.Ok S ∧ R.hit = true ∧ R.fin.Good N ∧ R.fin.clk.most = R.C0.clk.most ∧ R.fin.rows = R.C0.rows ∧ ∀ j, R.fin.pins j = R.C0.pins j := by
 have hg := (Cac.get_good hG R.key).2.2.2.1
 have hh : R.hit = true := by unfold hit; rw [hg, hk]; rfl
 have hok : R.Ok S := ⟨by rw [hc]; rfl, hb, fun M hM => (by rw [hg, hk] at hM; exact (Option.some.inj hM).symm), fun h => (by rw [hh] at h; cases h), hlen⟩
 have hf := fin_ok hG hN hok
 obtain ⟨h1, h2, h3⟩ := (base_good hG hN hok).2.2.1 hh
 exact ⟨hok, hh, hf.good, by rw [hf.most, h2], by rw [hf.rows, h1], fun j => by rw [hf.pins, h3]⟩
end Rn0
end Go.Proofs.YtnnehiiblfmpnaaGreatDoor

namespace Go.Proofs.YtnnehiiblfmpnaaGreatDoor
open Go.Hw
set_option maxHeartbeats 4000000
set_option maxRecDepth 100000
section
variable {w0 w : World} {l : List HProp}
theorem law20_TakeCached (hT : Tz w0) {st : Option Addr} {ct : Nat} {xs : List Int} {sv : Option Addr} {cv : Nat} {us_ : List Nat} (how : Int)
  (hx : ∀ x ∈ xs, I64 x) (hn : xs.length ≤ 9223372036854775807) (hrt : Reads w0 l 1 st xs.length (i64V xs))
  (hu : ∀ x ∈ us_, x < 18446744073709551616) (hnu : us_.length ≤ 9223372036854775807) (hrv : Reads w0 l 1 sv us_.length (u64V us_)) (drop : Bool) (h : St w0 l w) :
  Ret Tryz.prog 10 [.slice st xs.length ct, .slice sv us_.length cv, .int .i64 how, .bool drop] w fun v w' => v = .bool true ∧ St w0 l w' := by
 refine enter Tryz.func10 rfl Tryz.results10 Tryz.ntmps10 rfl ?_
 refine Y2b ?_; refine Y6 ?_; refine Y29 ?_
 refine qx rfl (qq rfl (law10_Row how hx hn hrt hu hnu hrv h) ?_)
 clear h
 rintro _ w ⟨sa, sc, L, hL60, hwf, hris, rfl, h⟩
 refine Yk ?_; refine Y6 ?_
 refine qx rfl (qq rfl (ref10_Make 1 hwf O0 Reads.own h) ?_)
 clear h
 rintro _ w ⟨ca, cc, rfl, h⟩
 refine Y14 ?_; refine Y42 ?_
 generalize hM : chMake 1 L = M at h ⊢
 refine Y1o ?_; refine Y3 ?_
 cases M with
 | none =>
  refine Y1h ?_; refine Y1 ?_
  refine qx rfl (qq rfl (law20_awake hT (St.drops (L := [_, _]) h)) ?_)
  clear h
  rintro _ w ⟨rfl, h⟩
  refine Yf ?_
  exact qj (qu (bq1 ⟨rfl, h⟩))
 | some c =>
  refine Y3h ?_
  replace h : St w0 (OwnB ca cc c :: OwnS sa sc L :: l) w := h
  have hne : L ≠ [] := fun e => by rw [e, chMake_nil] at hM; cases hM
  have hL0 : 0 < L.length := List.length_pos_iff.2 hne
  have hc := chMake1_len hL60 hM
  have hopen := chOpen_told hwf O0 hM
  refine Y1 ?_
  refine qx rfl (qq rfl (blob_New 1048576 h) ?_)
  clear h
  rintro _ w ⟨b, rfl, h⟩
  refine qx rfl (qq rfl (cach_New 4 h) ?_)
  clear h
  rintro _ w ⟨p, rfl, h⟩
  refine Y4y ?_; refine Y1e ?_; refine Y2x ?_; refine Y4j ?_; refine Y2t ?_; refine Y4j ?_; refine Y7 ?_; refine Y9 ?_; refine Y4f ?_
  refine qx rfl (qq rfl (blob_Add (bs := c) (n := c.length) (h.f 1) (fun w' h' => (h'.f 1).own_rd) O0 rfl) ?_)
  clear h
  rintro _ w h
  have e0 : IntKind.i64.wrap ((⟨min (max 1048576 0) 1073741824, 0, 0, 0, []⟩ : Sto).budget - IntKind.i64.wrap ((⟨min (max 1048576 0) 1073741824, 0, 0, 0, []⟩ : Sto).bytes + (⟨min (max 1048576 0) 1073741824, 0, 0, 0, []⟩ : Sto).charged)) = 1048576 := by decide
  rw [e0, if_neg O0] at h
  obtain ⟨rfl, h⟩ := h
  have e1 : IntKind.i64.wrap ((⟨min (max 1048576 0) 1073741824, 0, 0, 0, []⟩ : Sto).last + 1) = 1 := by decide
  have e2 : IntKind.i64.wrap ((⟨min (max 1048576 0) 1073741824, 0, 0, 0, []⟩ : Sto).bytes + (c.length : Int)) = (c.length : Int) := by
   show IntKind.i64.wrap (0 + (c.length : Int)) = _
   rw [wrap64 O0 O0]; omega
  rw [e1] at h ⊢
  rw [e2] at h
  replace h : St w0 (IsStore b (SC c) :: IsCache p (Cac.new 4) :: OwnB ca cc c :: OwnS sa sc L :: l) w := h
  refine Y28 ?_; refine Y2 ?_; refine Yf ?_
  obtain ⟨g, rfl⟩ := (h.f 3).own_some hL0
  obtain ⟨x0, hx0⟩ : ∃ x, L[0]? = some x := ⟨L[0], List.getElem?_eq_getElem hL0⟩
  obtain ⟨x9, hx9⟩ : ∃ x, L[L.length - 1]? = some x := ⟨L[L.length - 1], List.getElem?_eq_getElem O0⟩
  have hspan := within_all (rises_span hris hx0 hx9)
  refine Y3 ?_
  refine qe (Γ := Nat) (fun b16 => [(3, .bool drop), (9, .slice (some ⟨g, 0, none⟩) L.length sc), (12, .pointer (some ⟨b, 0, none⟩)), (13, .pointer (some ⟨p, 0, none⟩)), (14, .int .i64 1), (16, .pointer (some ⟨b16, 0, none⟩))])
   (fun b16 w => St w0 (pt b16 (.cells (Prt.mk 1 1 L.length x0.T x9.T).cells.toArray 60 (0, 0)) :: IsStore b (SC c) :: IsCache p (Cac.new 4) :: OwnB ca cc c :: OwnS (some ⟨g, 0, none⟩) sc L :: l) w) ?_ ?_
  ·refine jq (some 16) (fun w => St w0 (IsStore b (SC c) :: IsCache p (Cac.new 4) :: OwnB ca cc c :: OwnS (some ⟨g, 0, none⟩) sc L :: l) w) O1 O1 h.drew fun w h => ?_
   have hT0 : ∀ {w'}, St w0 (IsStore b (SC c) :: IsCache p (Cac.new 4) :: OwnB ca cc c :: OwnS (some ⟨g, 0, none⟩) sc L :: l) w' → w'.cell? ⟨g, 0 + 0, none⟩ = some (.int .i64 x0.T) := fun h' => (h'.f 3).own_rd.cell (flat_get jz L 0 x0 hx0 0 (.int .i64 x0.T) rfl)
   have hT9 : ∀ {w'}, St w0 (IsStore b (SC c) :: IsCache p (Cac.new 4) :: OwnB ca cc c :: OwnS (some ⟨g, 0, none⟩) sc L :: l) w' → w'.cell? ⟨g, (L.length - 1) * 2 + 0, none⟩ = some (.int .i64 x9.T) := fun h' => by
    have := (h'.f 3).own_rd.cell (flat_get jz L (L.length - 1) x9 hx9 0 (.int .i64 x9.T) rfl)
    rwa [Nat.zero_add] at this
   refine Yl ?_; refine Y3b ?_; refine Y1m ?_
   refine cpv rfl rfl rfl rfl h rfl (qc (j := 0) (o' := 0) rfl rfl rfl hL0 O8) ?_
   refine Y1g ?_
   refine qg rfl rfl rfl rfl h (fun w h => qp rfl (qw (v := .int .i64 x0.T) rfl (hT0 h))) ?_
   refine Y1m ?_; refine Y3b ?_
   refine cpv rfl rfl rfl rfl h rfl (qm (v' := .int .i64 ((L.length - 1 : Nat) : Int)) (jt rfl rfl) O6) ?_
   refine cpv rfl rfl rfl rfl h rfl (qc (j := L.length - 1) (o' := (L.length - 1) * 2) rfl rfl rfl O0 O8) ?_
   refine Y1g ?_
   refine qg rfl rfl rfl rfl h (fun w h => qp rfl (qw (v := .int .i64 x9.T) rfl (hT9 h))) ?_
   refine cpv rfl rfl rfl rfl h rfl (qa (r := (Prt.mk 1 1 L.length x0.T x9.T).cells) rfl) ?_
   refine Yz ?_
   refine qt 15 rfl rfl rfl rfl ?_
   refine q5 h fun b16 w h1 => ?_
   have h := h1.drop
   refine ⟨fun _ => h, ?_⟩
   refine Ym ?_
   refine jy 16 rfl rfl rfl ?_
   refine (qs (vs := (Prt.mk 1 1 L.length x0.T x9.T).cells) 0 h1 rfl rfl rfl rfl rfl rfl rfl fun w h => ?_)
   exact ⟨b16, ⟨rfl, rfl, rfl, rfl, rfl, rfl, trivial⟩, h⟩
  clear h
  rintro b16 w e h
  have hS := SC_le hc
  have hb1 : ∃ e, mget (1 : Int) (SC c).l = some e ∧ e.bs = c := ⟨_, rfl, rfl⟩
  obtain ⟨R1, hR1⟩ : ∃ R1 : Rn0, R1 = ⟨⟨2, 0, 1⟩, x0.T, x9.T, c, L, Cac.new 4⟩ := ⟨_, rfl⟩
  obtain ⟨a1, a2, a3, a4, a5, a6⟩ := Rn0.new_run (R := R1) (S := SC c) (N := 0) (tg := 1) (by rw [hR1]; exact hopen) (by rw [hR1]; exact hb1) (by rw [hR1]; dsimp only; omega) (by rw [hR1]; exact Cac.new_good 4) (Int.le_refl 0) (by rw [hR1]; rfl) (by rw [hR1]; show ((Cac.new 4).rows.length : Int) < (Cac.new 4).clk.most; decide)
  have k1 : R1.key = ⟨2, 0, 1⟩ := by rw [hR1]
  have w1 : R1.w = L := by rw [hR1]; exact hspan
  have c1 : R1.C0 = Cac.new 4 := by rw [hR1]
  have l1 : R1.L = L := by rw [hR1]
  have t1 : R1.total = 1 + m4 L.length + 1 + m4 L.length := by unfold Rn0.total; rw [a2, w1, l1]; rfl
  rw [k1, l1, c1] at a5
  rw [k1, c1] at a6
  rw [c1] at a4
  have hm4 : m4 L.length ≤ 15 ∧ 1 ≤ m4 L.length := by unfold m4; omega
  refine Y4g ?_
  refine qz (qh (l := (Prt.mk 1 1 L.length x0.T x9.T).cells) rfl rfl (qb (h.b 0 rfl) rfl)) rfl ?_
  have hrun := law20_taken (R := R1) (q := ⟨1, 1, L.length, x0.T, x9.T⟩) (s := 2) (f := 0) hT a1 (by rw [c1]; exact Cac.new_good 4) ⟨Int.le_refl 0, by decide⟩ hS O0 rfl (by rw [hR1]) (by rw [hR1]) (by rw [hR1]) (by rw [c1]; exact h.o [1, 2, 0])
  rw [w1] at hrun
  refine qx rfl (qq rfl hrun ?_)
  clear h hrun
  rintro _ w ⟨r1, rc1, rfl, h⟩
  refine Y28 ?_; refine Y2 ?_; refine Yk ?_
  have g1 := a3
  have ap0 : R1.fin.pins ⟨2, 0, 1⟩ = some 0 := by rw [a6, if_pos rfl]
  have dz := Cac.drop_zero g1 ap0
  refine qe (Γ := Cac) (fun _ => [(3, .bool drop), (9, .slice (some ⟨g, 0, none⟩) L.length sc), (12, .pointer (some ⟨b, 0, none⟩)), (13, .pointer (some ⟨p, 0, none⟩)), (16, .pointer (some ⟨b16, 0, none⟩)), (17, .int .i64 R1.total), (18, .slice r1 L.length rc1)])
   (fun C1 w => (C1.Good 0 ∧ C1.clk.most = 4 ∧ C1.rows = (if drop then [] else [(⟨2, 0, 1⟩, L)]) ∧ ∀ j, C1.pins j = if drop = false ∧ j = ⟨2, 0, 1⟩ then some 0 else none) ∧ St w0 (IsStore b (SC c) :: IsCache p C1 :: OwnS r1 rc1 L :: pt b16 (.cells (Prt.mk 1 1 L.length x0.T x9.T).cells.toArray 60 (0, 0)) :: OwnB ca cc c :: OwnS (some ⟨g, 0, none⟩) sc L :: l) w) ?_ ?_
  ·refine Y1 ?_
   cases drop with
   | false =>
    refine Y2e ?_; refine Y4q ?_
    refine qj (q8 rfl (q4 ⟨R1.fin, ⟨rfl, rfl, rfl, rfl, rfl, rfl, rfl, trivial⟩, ⟨g1, a4, a5, fun j => ?_⟩, h.o [1, 2, 0]⟩))
    rw [a6]
    by_cases hj : j = ⟨2, 0, 1⟩
    ·rw [if_pos hj, if_pos ⟨rfl, hj⟩]
    ·rw [if_neg hj, if_neg (fun h => hj h.2)]; rfl
   | true =>
    refine Y2e ?_; refine Y2t ?_; refine Y1t ?_
    refine qz (qa (r := (Key3.mk 2 0 1).C) rfl) rfl ?_
    refine Y8 ?_
    have hdr := cach_Drop (k := ⟨2, 0, 1⟩) (g1.ok O2) (h.f 2)
    rw [dz.1] at hdr
    refine qx rfl (qq rfl hdr ?_)
    clear h hdr
    rintro _ w ⟨rfl, h⟩
    refine Y33 ?_; refine Yg ?_
    refine qj (q8 rfl (q4 ⟨(R1.fin.drop ⟨2, 0, 1⟩).1, ⟨rfl, rfl, rfl, rfl, rfl, rfl, rfl, trivial⟩, ⟨dz.2.2.2.2, by rw [dz.2.1, a4]; rfl, ?_, fun j => ?_⟩, h.o [2, 0, 1]⟩))
    ·rw [dz.2.2.1, a5]; rfl
    ·rw [dz.2.2.2.1, a6]
     rw [if_neg (show ¬ (true = false ∧ j = ⟨2, 0, 1⟩) from fun h => by cases h.1)]
     split
     ·rfl
     ·rename_i hj; rfl
  clear h
  rintro C1 w e ⟨⟨g2, m2, rows2, pins2⟩, h⟩
  obtain ⟨R2, hR2⟩ : ∃ R2 : Rn0, R2 = ⟨⟨2, 0, 1⟩, x0.T, x9.T, c, L, C1⟩ := ⟨_, rfl⟩
  have k2 : R2.key = ⟨2, 0, 1⟩ := by rw [hR2]
  have w2 : R2.w = L := by rw [hR2]; exact hspan
  have c2 : R2.C0 = C1 := by rw [hR2]
  have l2 : R2.L = L := by rw [hR2]
  have hrun2 : R2.Ok (SC c) ∧ R2.hit = (!drop) ∧ R2.fin.Good 0 ∧ R2.fin.clk.most = 4 ∧ R2.fin.rows = [(⟨2, 0, 1⟩, L)] ∧ ∀ j, R2.fin.pins j = if j = ⟨2, 0, 1⟩ then some 0 else none := by
   cases drop with
   | false =>
    obtain ⟨b1, b2, b3, b4, b5, b6⟩ := Rn0.hit_run (R := R2) (S := SC c) (N := 0) (tg := 1) (by rw [hR2]; exact hopen) (by rw [hR2]; exact hb1) (by rw [l2]; omega) (by rw [c2]; exact g2) (Int.le_refl 0) (by rw [c2, k2, l2, rows2]; exact if_pos rfl)
    refine ⟨b1, b2, b3, by rw [b4, c2, m2], by rw [b5, c2, rows2]; rfl, fun j => ?_⟩
    rw [b6, c2, pins2]
    by_cases hj : j = ⟨2, 0, 1⟩
    ·rw [if_pos hj, if_pos ⟨rfl, hj⟩]
    ·rw [if_neg hj, if_neg (fun h => hj h.2)]
   | true =>
    have rows3 : C1.rows = [] := rows2
    obtain ⟨b1, b2, b3, b4, b5, b6⟩ := Rn0.new_run (R := R2) (S := SC c) (N := 0) (tg := 1) (by rw [hR2]; exact hopen) (by rw [hR2]; exact hb1) (by rw [l2]; omega) (by rw [c2]; exact g2) (Int.le_refl 0) (by rw [c2, pins2, if_neg (fun h => by cases h.1)]) (by rw [c2, rows3, m2]; decide)
    refine ⟨b1, b2, b3, by rw [b4, c2, m2], by rw [b5, c2, rows3, k2, l2]; rfl, fun j => ?_⟩
    rw [b6, c2, pins2, k2, if_neg (show ¬ (true = false ∧ j = ⟨2, 0, 1⟩) from fun h => by cases h.1)]
  obtain ⟨b1, b2, b3, b4, b5, b6⟩ := hrun2
  have t2 : R2.total = if drop then 1 + m4 L.length + 1 + m4 L.length else 1 + m4 L.length := by
   unfold Rn0.total; rw [b2, w2, l2]; cases drop <;> rfl
  obtain ⟨R3, hR3⟩ : ∃ R3 : Rn0, R3 = ⟨⟨2, 1, 1⟩, x0.T, x9.T, c, L, R2.fin⟩ := ⟨_, rfl⟩
  have k3 : R3.key = ⟨2, 1, 1⟩ := by rw [hR3]
  have w3 : R3.w = L := by rw [hR3]; exact hspan
  have c3 : R3.C0 = R2.fin := by rw [hR3]
  have l3 : R3.L = L := by rw [hR3]
  obtain ⟨d1, d2, d3, d4, d5, d6⟩ := Rn0.new_run (R := R3) (S := SC c) (N := 0) (tg := 1) (by rw [hR3]; exact hopen) (by rw [hR3]; exact hb1) (by rw [l3]; omega) (by rw [c3]; exact b3) (Int.le_refl 0) (by rw [c3, b6, k3]; rfl) (by rw [c3, b5, b4]; show (1 : Int) < 4; decide)
  have t3 : R3.total = 1 + m4 L.length + 1 + m4 L.length := by unfold Rn0.total; rw [d2, w3, l3]; rfl
  have fr3 : R3.fin.rows.length = 2 := by rw [d5, c3, b5, k3, l3]; rfl
  have ht2 : R2.total < 200 := by rw [t2]; split <;> omega
  refine Y4g ?_
  refine qz (qh (l := (Prt.mk 1 1 L.length x0.T x9.T).cells) rfl rfl (qb (h.b 3 rfl) rfl)) rfl ?_
  have hrun := law20_taken (R := R2) (q := ⟨1, 1, L.length, x0.T, x9.T⟩) (s := 2) (f := 0) hT b1 (by rw [c2]; exact g2) ⟨Int.le_refl 0, by decide⟩ hS ht2 rfl (by rw [hR2]) (by rw [hR2]) (by rw [hR2]) (by rw [c2]; exact h)
  rw [w2] at hrun
  refine qx rfl (qq rfl hrun ?_)
  clear h hrun
  rintro _ w ⟨r2, rc2, rfl, h⟩
  refine Y28 ?_; refine Y2 ?_; refine Yk ?_; refine Y4g ?_
  refine qz (qh (l := (Prt.mk 1 1 L.length x0.T x9.T).cells) rfl rfl (qb (h.b 4 rfl) rfl)) rfl ?_
  have hrun := law20_taken (R := R3) (q := ⟨1, 1, L.length, x0.T, x9.T⟩) (s := 2) (f := 1) hT d1 (by rw [c3]; exact b3) ⟨Int.le_refl 0, by decide⟩ hS O0 rfl (by rw [hR3]) (by rw [hR3]) (by rw [hR3]) (by rw [c3]; exact h.o [1, 2, 0])
  rw [w3] at hrun
  refine qx rfl (qq rfl hrun ?_)
  clear h hrun
  rintro _ w ⟨r3, rc3, rfl, h⟩
  refine Y28 ?_; refine Y2 ?_; refine Yk ?_; refine Y1 ?_
  have hsm : decide (L = L) = true := by simp
  refine Yn ?_; refine Yn ?_
  refine qx rfl (qq rfl (ref10_Same (L1 := L) (L2 := L) h (fun w' h' => (h'.f 4).own_rd) (fun w' h' => (h'.f 7).own_rd) O0) ?_)
  clear h
  rintro _ w ⟨rfl, h⟩
  rw [hsm]
  refine Y4i ?_
  refine qx rfl (qq rfl (ref10_Same (L1 := L) (L2 := L) h (fun w' h' => (h'.f 3).own_rd) (fun w' h' => (h'.f 7).own_rd) O0) ?_)
  clear h
  rintro _ w ⟨rfl, h⟩
  rw [hsm]
  refine Yg ?_; refine Y4i ?_
  refine qx rfl (qq rfl (ref10_Same (L1 := L) (L2 := L) h (fun w' h' => h'.own_rd) (fun w' h' => (h'.f 7).own_rd) O0) ?_)
  clear h
  rintro _ w ⟨rfl, h⟩
  rw [hsm]
  refine Yg ?_; refine Yy ?_; refine Y1t ?_; refine Yc ?_
  refine qv (.bool true) O16 ?_
  refine Yg ?_; refine Y26 ?_; refine Y26 ?_; refine Y2e ?_
  have fin : ∀ (e' : Env) (Rr : List Oper), True := fun _ _ => trivial
  cases drop with
  | false =>
   have t2' : R2.total = 1 + m4 L.length := t2
   refine Y55 ?_; refine Y3q ?_; refine Y8 ?_; refine Y7 ?_; refine Y8 ?_; refine Y26 ?_; refine Y26 ?_; refine Y1i ?_; refine Y8 ?_; refine Yy ?_; refine Y1t ?_; refine Ys ?_
   refine qv (.bool true) O10 ?_
   refine Y57 ?_; refine Y8 ?_; refine Y7 ?_; refine Yg ?_; refine Y2t ?_
   refine qx rfl (qq rfl (cach_Frames (h.f 2)) ?_)
   clear h
   rintro _ w ⟨rfl, h⟩
   rw [fr3]
   refine Y3v ?_; refine Yg ?_; refine Y26 ?_
   refine qx rfl (qq rfl (law20_awake hT (St.drops (L := [_, _, _, _, _, _, _, _]) h)) ?_)
   clear h
   rintro _ w ⟨rfl, h⟩
   refine Y4b ?_
   exact qj (qu (bq1 ⟨rfl, h⟩))
  | true =>
   have t2' : R2.total = 1 + m4 L.length + 1 + m4 L.length := t2
   refine Y4u ?_; refine Y1t ?_; refine Yc ?_
   refine qv (.bool true) O16 ?_
   refine Y57 ?_; refine Y8 ?_; refine Y15 ?_; refine Y3q ?_; refine Y53 ?_; refine r_gu rfl rfl ?_; refine Y3q ?_; refine Y57 ?_; refine Yg ?_; refine Y2t ?_
   refine qx rfl (qq rfl (cach_Frames (h.f 2)) ?_)
   clear h
   rintro _ w ⟨rfl, h⟩
   rw [fr3]
   refine Y3v ?_; refine Yg ?_; refine Y26 ?_
   refine qx rfl (qq rfl (law20_awake hT (St.drops (L := [_, _, _, _, _, _, _, _]) h)) ?_)
   clear h
   rintro _ w ⟨rfl, h⟩
   refine Y4b ?_
   exact qj (qu (bq1 ⟨rfl, h⟩))
end
end Go.Proofs.YtnnehiiblfmpnaaGreatDoor
