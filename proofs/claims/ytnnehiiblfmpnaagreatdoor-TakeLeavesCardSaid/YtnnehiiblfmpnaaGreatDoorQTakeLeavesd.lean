/- What the proof of TakeLeaves needs, part 4: plain lemmas, and what each function does. -/
import Derived.Test.YtnnehiiblfmpnaaGreatDoorQTakeLeavesc
import Derived.KernelRfl
set_option linter.unusedVariables false
set_option linter.unusedSimpArgs false
set_option linter.unnecessarySimpa false
namespace Go.Hw
theorem timesDecA_i64 : ∀ (k was step : Nat) (s : RS) (x : List Int × RS), timesDecA k was step s = some x → ∀ t ∈ x.1, I64 t
 | 0, _, _, _, x, h => by cases h; exact fun _ h => by cases h
 | k + 1, was, step, s, x, h => by
  rw [timesDecA] at h
  split at h
  ·obtain ⟨y, h1, rfl⟩ := Option.map_eq_some_iff.1 h
   intro t ht
   rcases List.mem_cons.1 ht with rfl | ht
   ·exact sg_wf (Nat.mod_lt _ O4)
   ·exact timesDecA_i64 k _ _ _ y h1 t ht
  ·cases h
theorem timesDec_i64 {n : Nat} {s : RS} {x : List Int × RS} (h : timesDec n s = some x) : ∀ t ∈ x.1, I64 t := by
 cases n with
 | zero => unfold timesDec at h; dsimp only at h; split at h <;> cases h; exact fun _ h => by cases h
 | succ k =>
  unfold timesDec at h; dsimp only at h; split at h
  ·cases h
  ·obtain ⟨y, h1, rfl⟩ := Option.map_eq_some_iff.1 h
   intro t ht
   rcases List.mem_cons.1 ht with rfl | ht
   ·exact sg_wf (RS.get_lt s 64)
   ·exact timesDecA_i64 k _ _ _ y h1 t ht
theorem zipS_len : ∀ (x : List Int) (v : List Nat), x.length = v.length → (zipS x v).length = x.length
 | [], _, _ => by simp [zipS]
 | _ :: _, [], h => by simp at h
 | t :: x, a :: v, h => by simp [zipS, zipS_len x v O19]
theorem zipS_wf : ∀ (x : List Int) (v : List Nat), (∀ t ∈ x, I64 t) → (∀ a ∈ v, a < 18446744073709551616) → ∀ s ∈ zipS x v, s.Wf
 | [], _, _, _, s, h => by simp [zipS] at h
 | _ :: _, [], _, _, s, h => by simp [zipS] at h
 | t :: x, a :: v, hx, hv, s, h => by
  rw [zipS] at h
  rcases List.mem_cons.1 h with rfl | h
  ·exact ⟨hx t (List.mem_cons_self ..), by dsimp only; omega, by have := hv a (List.mem_cons_self ..); dsimp only; omega⟩
  ·exact zipS_wf x v (fun y hy => hx y (List.mem_cons_of_mem _ hy)) (fun y hy => hv y (List.mem_cons_of_mem _ hy)) s h
theorem zipS_snoc : ∀ (x : List Int) (v : List Nat) (k : Nat) (t : Int) (a : Nat), x[k]? = some t → v[k]? = some a → zipS (x.take (k + 1)) (v.take (k + 1)) = zipS (x.take k) (v.take k) ++ [⟨t, a⟩]
 | [], _, _, _, _, h, _ => by simp at h
 | _ :: _, [], _, _, _, _, h => by simp at h
 | s :: x, b :: v, 0, t, a, h, h' => by simp at h h'; subst h; subst h'; simp [zipS]
 | s :: x, b :: v, k + 1, t, a, h, h' => by
  have := zipS_snoc x v k t a O19 (by simpa using h')
  rw [List.take_succ_cons, List.take_succ_cons, zipS, this, List.take_succ_cons, List.take_succ_cons, zipS]
  rfl
theorem take_len1 {α : Type} {x : List α} {k : Nat} (h : k ≤ x.length) : (x.take k).length = k := by rw [List.length_take, Nat.min_eq_left h]
theorem gu {x : Nat} (h : x ≤ 9223372036854775807) : IntKind.u64.wrap (x : Int) = (x : Int) := by
 unfold IntKind.wrap
 simp [IntKind.signed, IntKind.bits]
 omega
end Go.Hw
namespace Go.Proofs.YtnnehiiblfmpnaaGreatDoor
open Go.Hw
set_option maxHeartbeats 4000000
set_option maxRecDepth 100000
section
variable {w0 w : World} {l : List HProp}
theorem askN_nat {n : Nat} (h : n ≤ 65535) : askN (n : Int) = n := by unfold askN; omega
theorem bytes_Equal {s1 s2 : Option Addr} {c1 c2 : Nat} {b1 b2 : List UInt8} (h : St w0 l w) (h1 : ∀ w', St w0 l w' → Rd w' 1 s1 b1.length (bytesV b1)) (h2 : ∀ w', St w0 l w' → Rd w' 1 s2 b2.length (bytesV b2)) :
  Ret Tryz.prog 146 [.slice s1 b1.length c1, .slice s2 b2.length c2] w fun v w' => v = .bool (decide (b1 = b2)) ∧ St w0 l w' := by
 refine enter Tryz.func146 rfl Tryz.results146 Tryz.ntmps146 rfl ?_
 refine Y2a ?_; refine Y5 ?_
 refine qz (q_btos rfl (h1 _ h)) rfl ?_
 refine Yp ?_
 refine qz (q_btos rfl (h2 _ h)) rfl ?_
 refine qz (q_streq rfl rfl) rfl ?_; refine Yc ?_
 refine qv (bq1 ⟨?_, h⟩)
 show Value.bool (b1.toArray.toList == b2.toArray.toList) = _
 congr 1
 rw [Bool.eq_iff_iff]
 simp
def ReadOk (tag : Int) : Prop := ∀ {w0 w : World} {l : List HProp} {sl : Option Addr} {c : Nat} {bs : List UInt8} {n : Nat}, Tz w0 → Reads w0 l 1 sl bs.length (bytesV bs) → bs.length ≤ 140737488355328 → bs.length ≤ c → n ≤ 65535 → St w0 l w →
 Ret Tryz.prog 198 [.int .i64 tag, .slice sl bs.length c, .int .i64 (n : Int)] w fun v w' => ∃ a c' xs b, v = .tuple [.slice a xs.length c', .bool b].toArray ∧ valuesDec tag bs n = (if b = true then some xs else none) ∧ (b = true → xs.length = n ∧ ∀ x ∈ xs, x < 18446744073709551616) ∧ St w0 (OwnU a c' xs :: l) w'
theorem suit_Decode (hT : Tz w0) {tag : Int} (hread : ReadOk tag) {sl : Option Addr} {c : Nat} {bs : List UInt8} (n : Int) (hn : bs.length ≤ 140737488355328) (hc : bs.length ≤ c) (hr : Reads w0 l 1 sl bs.length (bytesV bs)) (h : St w0 l w) :
  Ret Tryz.prog 144 [.int .i64 tag, .slice sl bs.length c, .int .i64 n] w fun v w' => ∃ a c', v = .tuple [.slice a ((suitDec tag bs n).getD []).length c', .bool (suitDec tag bs n).isSome].toArray ∧ (∀ L, suitDec tag bs n = some L → (L.length : Int) = n ∧ ∀ s ∈ L, s.Wf) ∧ St w0 (OwnS a c' ((suitDec tag bs n).getD []) :: l) w' := by
 have hk := ja bs
 have hsz := jp bs
 have hdef : suitDec tag bs n = _ := rfl
 conv at hdef => rhs; unfold suitDec
 refine enter Tryz.func144 rfl Tryz.results144 Tryz.ntmps144 rfl ?_
 refine Y18 ?_; refine Y5 ?_
 refine qw rfl (qj rfl (vint_Get h hr.rd hn) ?_)
 rintro _ w ⟨rfl, h⟩
 refine Y2l ?_
 generalize (vget bs).1 = size at hsz hdef ⊢
 generalize (vget bs).2 = k at hk hdef ⊢
 refine qo (Γ := Unit) (fun _ => [(0, .int .i64 tag), (1, .slice sl bs.length c), (2, .int .i64 n), (8, .int .u64 size), (9, .int .i64 k)]) (fun _ w => (¬ (k = 0 ∨ n < 0 ∨ 65535 < n ∨ bs.length - k < size)) ∧ St w0 l w) ?_ ?_
 ·refine Y1 ?_
  have bad : ∀ {w : World}, (k = 0 ∨ n < 0 ∨ 65535 < n ∨ bs.length - k < size) → St w0 l w → ∃ a c', Value.tuple [.slice none 0 0, .bool false].toArray = .tuple [.slice a ((suitDec tag bs n).getD []).length c', .bool (suitDec tag bs n).isSome].toArray ∧ (∀ L, suitDec tag bs n = some L → (L.length : Int) = n ∧ ∀ s ∈ L, s.Wf) ∧ St w0 (OwnS a c' ((suitDec tag bs n).getD []) :: l) w := fun hb h => by
   rw [if_pos hb] at hdef
   rw [hdef]
   exact ⟨none, 0, rfl, (fun _ h => by cases h), St.ownNil _ _ h⟩
  by_cases g1 : k = 0
  ·refine Y0 ?_
   refine qz (qh (v' := .bool true) (jg rfl rfl) O37) rfl ?_
   refine Y4f ?_; refine Y2b ?_; refine Y2c ?_
   exact qq (qv (bq2 (bad (.inl g1) h)))
  refine Y0 ?_
  refine qz (qh (v' := .bool false) (jg rfl rfl) O3) rfl ?_
  by_cases g2 : n < 0
  ·refine Y10 ?_
   refine qz (qh (v' := .bool true) (gt rfl rfl) (by congr 1; simpa using g2)) rfl ?_
   refine Y8 ?_; refine Y3d ?_; refine Y2b ?_; refine Y2c ?_
   exact qq (qv (bq2 (bad (.inr (.inl g2)) h)))
  refine Y10 ?_
  refine qz (qh (v' := .bool false) (gt rfl rfl) (by congr 1; simpa using g2)) rfl ?_
  by_cases g3 : 65535 < n
  ·refine Y2r ?_
   refine qz (qh (v' := .bool true) (gn rfl rfl) (by congr 1; simpa using g3)) rfl ?_
   refine Y8 ?_; refine Y2b ?_; refine Y2c ?_
   exact qq (qv (bq2 (bad (.inr (.inr (.inl g3))) h)))
  refine Y2r ?_
  refine qz (qh (v' := .bool false) (gn rfl rfl) (by congr 1; simpa using g3)) rfl ?_
  refine Y2r ?_; refine Y4s ?_; refine Y1k ?_
  refine qz (qh (v' := .int .i64 ((bs.length - k : Nat) : Int)) (jm rfl rfl) O6) rfl ?_
  refine Y7 ?_
  refine qz (qh (v' := .int .u64 ((bs.length - k : Nat) : Int)) (jb rfl) (congrArg (Value.int .u64) (gu O0))) rfl ?_
  refine Y4t ?_
  refine qq (qy (decide ((size : Int) > ((bs.length - k : Nat) : Int))) rfl (fun hc1 => ?_) (fun hc1 => ?_))
  ·
   refine Y26 ?_
   exact qq (qv (bq2 (bad (.inr (.inr (.inr O24))) h)))
  ·exact qr ⟨(), ⟨rfl, rfl, rfl, rfl, rfl, trivial⟩, by simp at hc1; omega, h⟩
 clear h
 rintro _ w e ⟨hcond, h⟩
 rw [if_neg hcond] at hdef
 obtain ⟨n, rfl⟩ := Int.eq_ofNat_of_zero_le (show 0 ≤ n by omega)
 have hn16 : n ≤ 65535 := by omega
 have hsk : k + size ≤ bs.length := by omega
 rw [show ((n : Nat) : Int).toNat = n from rfl] at hdef
 refine Y4 ?_; refine Y2k ?_
 refine qg (.int .i64 (size : Int)) O13 ?_
 refine Y1n ?_
 refine qg (.int .i64 ((k + size : Nat) : Int)) O5 ?_
 refine Y6 ?_; refine Yo ?_; refine Y0 ?_
 refine qz (q_cut rfl rfl rfl O0 O0) rfl ?_
 have hrc := Reads.cut hr (i := k) (j := k + size) O0 O0 hc
 have hpl : ((bs.drop k).take size).length = k + size - k := by rw [List.length_take, List.length_drop]; omega
 have hrc' : Reads w0 l 1 (adv sl (k * 1) (Nat.beq c k)) ((bs.drop k).take size).length (bytesV ((bs.drop k).take size)) := by
  rw [hpl]
  have : bytesV ((bs.drop k).take size) = ((bytesV bs).drop (k * 1)).take ((k + size - k) * 1) := by
   unfold bytesV
   rw [List.map_take, List.map_drop]
   congr 1
   ·omega
   ·congr 1; omega
  rw [this]
  exact hrc
 show Rn _ _ _ _ _ (upd _ _ (.slice (adv sl (k * 1) (Nat.beq c k)) (k + size - k) (c - k))) _
 rw [← hpl]
 refine qw rfl (qj rfl (vg h hrc'.rd (by rw [hpl]; omega)) ?_)
 rintro _ w ⟨p, rfl, h⟩
 refine Y0 ?_
 refine qw rfl (qj rfl (time_Decode n h) ?_)
 rw [askN_nat hn16]
 intro v w hv
 have hv : ∃ a c' ts ok, v = .tuple [.slice a ts.length c', .bool ok].toArray ∧ (ok = true → ∃ s', timesDec n ⟨bitsB ((bs.drop k).take size), false⟩ = some (ts, s')) ∧ (ok = false → timesDec n ⟨bitsB ((bs.drop k).take size), false⟩ = none) ∧ ∃ s', St w0 (OwnT64 a c' ts :: IsBR p s' :: l) w := by
  rcases hv with ⟨h1, rfl, s', h⟩ | ⟨x, a, c', h1, rfl, h⟩
  ·exact ⟨none, 0, [], false, rfl, (fun h => by cases h), fun _ => h1, s', St.ownNil _ _ h⟩
  ·exact ⟨a, c', x.1, true, rfl, fun _ => ⟨x.2, h1⟩, (fun h => by cases h), x.2, h⟩
 clear h
 obtain ⟨ta, tc, ts, ok1, rfl, ht1, ht2, s', h⟩ := hv
 refine Y14 ?_; refine Y4 ?_; refine Y27 ?_
 refine qz (jh (i := k + size) rfl rfl hsk) rfl ?_
 have hrt : Reads w0 l 1 (adv sl ((k + size) * 1) (Nat.beq c (k + size))) (bs.drop (k + size)).length (bytesV (bs.drop (k + size))) := by
  have := Reads.tail hr (i := k + size) hsk hc
  rw [List.length_drop]
  have e1 : bytesV (bs.drop (k + size)) = (bytesV bs).drop ((k + size) * 1) := by
   unfold bytesV
   rw [List.map_drop]
   congr 1; omega
  rw [e1]
  exact this
 show Rn _ _ _ _ _ (upd _ _ (.slice (adv sl ((k + size) * 1) (Nat.beq c (k + size))) (bs.length - (k + size)) (c - (k + size)))) _
 rw [← List.length_drop]
 refine Y0 ?_
 refine qw rfl (qj rfl (hread hT (hrt.more [_, _]) O15 O15 hn16 h) ?_)
 rintro _ w ⟨va, vc, vs, ok2, rfl, hv1, hv2, h⟩
 refine Y14 ?_
 refine qo (Γ := Unit) (fun _ => [(0, .int .i64 tag), (1, .slice sl bs.length c), (2, .int .i64 n), (11, .slice ta ts.length tc), (13, .slice va vs.length vc)]) (fun _ w => ok1 = true ∧ ok2 = true ∧ St w0 (OwnU va vc vs :: OwnT64 ta tc ts :: IsBR p s' :: l) w) ?_ ?_
 ·have bad : ∀ {w : World}, (ok1 = false ∨ ok2 = false) → St w0 (OwnU va vc vs :: OwnT64 ta tc ts :: IsBR p s' :: l) w → ∃ a c', Value.tuple [.slice none 0 0, .bool false].toArray = .tuple [.slice a ((suitDec tag bs n).getD []).length c', .bool (suitDec tag bs n).isSome].toArray ∧ (∀ L, suitDec tag bs n = some L → (L.length : Int) = n ∧ ∀ s ∈ L, s.Wf) ∧ St w0 (OwnS a c' ((suitDec tag bs n).getD []) :: l) w := fun hb h => by
   have : suitDec tag bs n = none := by
    rw [hdef]
    rcases hb with hb | hb
    ·rw [ht2 hb]
    ·rw [hb, if_neg O4] at hv1
     rw [hv1]
     cases timesDec n ⟨bitsB ((bs.drop k).take size), false⟩ <;> rfl
   rw [this]
   exact ⟨none, 0, rfl, (fun _ h => by cases h), St.ownNil _ _ h.drop.drop.drop⟩
  refine Y1 ?_
  cases ok1 with
  | false =>
   refine Y1l ?_; refine Y3d ?_; refine Y2e ?_
   exact qq (qv (bq2 (bad (.inl rfl) h)))
  | true =>
   refine Y1l ?_; refine Y2i ?_; refine Y2i ?_; refine Y1j ?_; refine Y8 ?_
   cases ok2 with
   | false =>
    refine Y2e ?_
    exact qq (qv (bq2 (bad (.inr rfl) h)))
   | true =>
    refine Y11 ?_
    exact qr ⟨(), ⟨rfl, rfl, rfl, rfl, rfl, trivial⟩, rfl, rfl, h⟩
 clear h
 rintro _ w e ⟨rfl, rfl, h⟩
 obtain ⟨s2, ht⟩ := ht1 rfl
 obtain ⟨hvl, hvlt⟩ := hv2 rfl
 rw [if_pos rfl] at hv1
 rw [ht, hv1] at hdef
 dsimp only at hdef
 have htl : ts.length = n := timesDec_len ht
 have hti : ∀ t ∈ ts, I64 t := timesDec_i64 ht
 have hzl : (zipS ts vs).length = n := by rw [zipS_len _ _ O0, htl]
 have hzw := zipS_wf ts vs hti hvlt
 refine Yn ?_; refine Y1g ?_; refine Y3f ?_
 refine qc (Γ := Nat × Option Addr × Nat) (fun k => [(0, .int .i64 tag), (1, .slice sl bs.length c), (11, .slice ta ts.length tc), (13, .slice va vs.length vc), (15, .slice k.2.1 (zipS (ts.take k.1) (vs.take k.1)).length k.2.2), (72, .int .i64 n), (73, .int .i64 k.1)])
  (fun k w => k.1 ≤ n ∧ St w0 (OwnS k.2.1 k.2.2 (zipS (ts.take k.1) (vs.take k.1)) :: OwnU va vc vs :: OwnT64 ta tc ts :: IsBR p s' :: l) w) (fun k => n - k.1) (0, none, 0) ⟨rfl, rfl, rfl, rfl, rfl, rfl, rfl, trivial⟩ ⟨Nat.zero_le _, St.ownNil _ _ h⟩ ?_
 clear h
 rintro ⟨i, a, c1⟩ w e ⟨hi, h⟩
 dsimp only at hi h ⊢
 refine Y1e ?_
 refine ql (qy (decide ((i : Int) < (n : Int))) rfl (fun hc1 => ?_) (fun hc1 => ?_))
 ·
  have hlt : i < n := by simp at hc1; omega
  have hgt := List.getElem?_eq_getElem (show i < ts.length by omega)
  generalize ts[i]'O0 = t at hgt
  have hgv := List.getElem?_eq_getElem (show i < vs.length by omega)
  generalize vs[i]'O0 = x at hgv
  have hstep := zipS_snoc ts vs i t x hgt hgv
  have hzi : (zipS (ts.take i) (vs.take i)).length = i := by rw [zipS_len _ _ (by rw [take_len1 O0, take_len1 O0]), take_len1 O0]
  obtain ⟨bt, htsl⟩ := (h.f 2).own_some O0
  obtain ⟨bv, hvsl⟩ := (h.f 1).own_some O0
  refine Yh ?_
  refine qo (Γ := Option Addr × Nat) (fun q => [(0, .int .i64 tag), (1, .slice sl bs.length c), (11, .slice ta ts.length tc), (13, .slice va vs.length vc), (15, .slice q.1 (zipS (ts.take (i + 1)) (vs.take (i + 1))).length q.2), (72, .int .i64 n), (73, .int .i64 i)])
   (fun q w => St w0 (OwnS q.1 q.2 (zipS (ts.take (i + 1)) (vs.take (i + 1))) :: OwnU va vc vs :: OwnT64 ta tc ts :: IsBR p s' :: l) w) ?_ ?_
  ·refine Ya ?_; refine Y2z ?_
   have hct : ∀ {w'}, (∃ L, St w0 (L ++ (OwnU va vc vs :: OwnT64 ta tc ts :: IsBR p s' :: l)) w') → w'.cell? ⟨bt, i, none⟩ = some (.int .i64 t) := fun ⟨L, h'⟩ => by
    have := (htsl ▸ (h'.drops.f 1).own_rd).cell (i64V_get hgt); simpa using this
   have hcv : ∀ {w'}, (∃ L, St w0 (L ++ (OwnU va vc vs :: OwnT64 ta tc ts :: IsBR p s' :: l)) w') → w'.cell? ⟨bv, i, none⟩ = some (.int .u64 x) := fun ⟨L, h'⟩ => by
    have := (hvsl ▸ (h'.drops.f 0).own_rd).cell (u64V_get hgv); simpa using this
   refine j7 [0, 1, 2, 3, 4, 5, 6, 7, 8, 9, 10, 11, 12] none (fun w => ∃ L, St w0 (L ++ (OwnU va vc vs :: OwnT64 ta tc ts :: IsBR p s' :: l)) w) O2 O2 ?_
   replace h := h.drew
   generalize w.drew = w at h
   have hs := h
   replace h : ∃ L, St w0 (L ++ (OwnU va vc vs :: OwnT64 ta tc ts :: IsBR p s' :: l)) w := ⟨[_], hs⟩
   refine Y1i ?_; refine Yq ?_
   refine cpv rfl rfl rfl rfl h rfl (qn (b := bt) (o := 0) (m := ts.length) (c := tc) (j := i) (o' := i) (by rw [← htsl]; rfl) rfl rfl O0 O7) ?_
   refine qu rfl rfl rfl rfl h (fun w h => qm rfl (qx (v := .int .i64 t) rfl (hct h))) ?_
   refine Yq ?_
   refine cpv rfl rfl rfl rfl h rfl (qn (b := bv) (o := 0) (m := vs.length) (c := vc) (j := i) (o' := i) (by rw [← hvsl]; rfl) rfl rfl O0 O7) ?_
   refine qu rfl rfl rfl rfl h (fun w h => qm rfl (qx (v := .int .u64 x) rfl (hcv h))) ?_
   refine cpv rfl rfl rfl rfl h rfl (qe (r := (Smp.mk t x).cells) rfl) ?_
   refine Y1m ?_
   refine qt 10 rfl rfl rfl rfl ?_
   refine (q5 (r := smpsV [Smp.mk t x]) hs rfl rfl rfl fun b2 w hs => ?_)
   replace h : ∃ L, St w0 (L ++ (OwnU va vc vs :: OwnT64 ta tc ts :: IsBR p s' :: l)) w := ⟨[_, _], hs⟩
   refine ⟨fun _ => h, ?_⟩
   refine Yz ?_
   refine qt 11 rfl rfl rfl rfl ?_
   refine (qa (ys := smpsV [Smp.mk t x]) (zs := smpsV (zipS (ts.take (i + 1)) (vs.take (i + 1)))) (m3 := (zipS (ts.take (i + 1)) (vs.take (i + 1))).length) (hs.f 1) rfl rfl ⟨rfl, .inr ⟨b2, 0, rfl, qp (hs.b 0 rfl) rfl⟩⟩ (smps_one _) (by rw [hstep]; simp) (by rw [hstep]; simp [smpsV]) O21 O21 rfl fun a2 c2 w _ hs => ?_)
   replace h : ∃ L, St w0 (L ++ (OwnU va vc vs :: OwnT64 ta tc ts :: IsBR p s' :: l)) w := ⟨[_, _], hs⟩
   refine ⟨fun _ => h, ?_⟩
   refine Y1t ?_
   exact qi ⟨(a2, c2), ⟨rfl, rfl, rfl, rfl, rfl, rfl, rfl, trivial⟩, (hs.f 1).drop⟩
  clear h
  rintro ⟨a, c1⟩ w e h
  dsimp only at h ⊢
  refine Yw ?_
  refine qg (.int .i64 ((i + 1 : Nat) : Int)) O5 ?_
  refine Y0 ?_
  exact qq ⟨(i + 1, a, c1), ⟨rfl, rfl, rfl, rfl, rfl, rfl, rfl, trivial⟩, ⟨hlt, h⟩, by dsimp only; omega⟩
 have hin : i = n := by simp at hc1; omega
 refine qd ?_
 have hz : zipS (ts.take i) (vs.take i) = zipS ts vs := by rw [hin, List.take_of_length_le O0, List.take_of_length_le O0]
 rw [hz] at h ⊢
 refine Y4 ?_; refine Yp ?_
 refine qw rfl (qj rfl (suit_Encode hT tag hzw O0 Reads.own h) ?_)
 rintro _ w ⟨a2, c2, rfl, h⟩
 refine Y14 ?_
 replace h : St w0 (OwnB a2 c2 ((suitEnc tag (zipS ts vs)).getD []) :: OwnS a c1 (zipS ts vs) :: l) w := (((h.f 2).drop.f 2).drop.f 2).drop
 have bad : ∀ {w : World}, suitEnc tag (zipS ts vs) ≠ some bs → St w0 l w → ∃ a c', Value.tuple [.slice none 0 0, .bool false].toArray = .tuple [.slice a ((suitDec tag bs n).getD []).length c', .bool (suitDec tag bs n).isSome].toArray ∧ (∀ L, suitDec tag bs n = some L → (L.length : Int) = n ∧ ∀ s ∈ L, s.Wf) ∧ St w0 (OwnS a c' ((suitDec tag bs n).getD []) :: l) w := fun hb h => by
  rw [if_neg hb] at hdef
  rw [hdef]
  exact ⟨none, 0, rfl, (fun _ h => by cases h), St.ownNil _ _ h⟩
 refine qo (Γ := Unit) (fun _ => [(15, .slice a (zipS ts vs).length c1)]) (fun _ w => suitEnc tag (zipS ts vs) = some bs ∧ St w0 (OwnS a c1 (zipS ts vs) :: l) w) ?_ ?_
 ·refine Y1 ?_
  cases hE : suitEnc tag (zipS ts vs) with
  | none =>
   rw [hE] at h
   refine Y1l ?_; refine Y2g ?_; refine Y2e ?_
   exact qq (qv (bq2 (bad (by rw [hE]; simp) h.drop.drop)))
  | some d =>
   rw [hE] at h
   refine Y1l ?_; refine Y2f ?_; refine Y3v ?_
   refine qw rfl (qj rfl (bytes_Equal (b1 := d) (b2 := bs) h (fun w' h' => h'.own_rd) ((hr.more [_, _]).rd)) ?_)
   rintro _ w ⟨rfl, h⟩
   refine Y3e ?_; refine Y8 ?_
   refine qq (qy (!decide (d = bs)) rfl (fun hc1 => ?_) (fun hc1 => ?_))
   ·refine Y26 ?_
    exact qq (qv (bq2 (bad (by rw [hE]; simpa using hc1) h.drop.drop)))
   ·exact qr ⟨(), ⟨rfl, trivial⟩, by simpa using hc1, h.drop⟩
 clear h
 rintro _ w e ⟨hE, h⟩
 rw [if_pos hE] at hdef
 rw [hdef]
 refine Y4c ?_
 refine qv (bq2 ⟨a, c1, rfl, fun L hL => ?_, h⟩)
 cases hL
 exact ⟨by rw [hzl], hzw⟩
end
end Go.Proofs.YtnnehiiblfmpnaaGreatDoor

namespace Go.Hw
set_option maxRecDepth 100000
theorem wrap_u32 (x : Nat) : IntKind.u32.wrap (x : Int) = ((x % 4294967296 : Nat) : Int) := by
 unfold IntKind.wrap
 simp [IntKind.signed, IntKind.bits]
theorem bit_u32 {a b : Nat} (ha : a < 4294967296) (hb : b < 4294967296) :
  bitOp .and .u32 (a : Int) (b : Int) = ((a &&& b : Nat) : Int) ∧ bitOp .xor .u32 (a : Int) (b : Int) = ((a ^^^ b : Nat) : Int) := by
 have ha' : a % 2 ^ 32 = a := Nat.mod_eq_of_lt ha
 have hb' : b % 2 ^ 32 = b := Nat.mod_eq_of_lt hb
 have e : IntKind.u32.bits = 32 := rfl
 refine ⟨?_, ?_⟩ <;> unfold bitOp <;> simp only [e, BitVec.ofInt_natCast, BitVec.toNat_and, BitVec.toNat_xor, BitVec.toNat_ofNat, ha', hb', wrap_u32]
 ·rw [Nat.mod_eq_of_lt (Nat.and_lt_two_pow (n := 32) _ hb)]
 ·rw [Nat.mod_eq_of_lt (Nat.xor_lt_two_pow (n := 32) ha hb)]
def u32V (l : List Nat) : List Value := l.map fun (x : Nat) => .int .u32 (x : Int)
theorem u32V_len (l : List Nat) : (u32V l).length = l.length := by simp [u32V]
theorem u32V_get {l : List Nat} {j x : Nat} (h : l[j]? = some x) : (u32V l)[j]? = some (.int .u32 (x : Int)) := by simp [u32V, h]
def tabL (i : Nat) : List Nat := (List.range i).map crcByte ++ List.replicate (256 - i) 0
theorem tabL_len {i : Nat} (h : i ≤ 256) : (tabL i).length = 256 := by simp [tabL]; omega
theorem tabL_set {i : Nat} (h : i < 256) : (u32V (tabL i)).set i (.int .u32 (crcByte i : Int)) = u32V (tabL (i + 1)) := by
 have e : 256 - i = (256 - (i + 1)) + 1 := by omega
 have hl : (u32V ((List.range i).map crcByte)).length = i := by simp [u32V]
 have e1 : u32V (tabL i) = u32V ((List.range i).map crcByte) ++ (.int .u32 (0 : Nat)) :: u32V (List.replicate (256 - (i + 1)) 0) := by
  unfold tabL u32V
  rw [e, List.replicate_succ, List.map_append, List.map_cons]
 have e2 : u32V (tabL (i + 1)) = u32V ((List.range i).map crcByte) ++ (.int .u32 (crcByte i : Int)) :: u32V (List.replicate (256 - (i + 1)) 0) := by
  unfold tabL u32V
  rw [List.range_succ, List.map_append, List.map_append, List.map_append, List.append_assoc]
  rfl
 rw [e1, e2, List.set_append_right _ _ O0, hl, Nat.sub_self]
 rfl
def tabV : List Value := u32V (tabL 256)
theorem tabV_len : tabV.length = 256 := by unfold tabV; rw [u32V_len, tabL_len (Nat.le_refl _)]
theorem tabV_get {i : Nat} (h : i < 256) : tabV[i]? = some (.int .u32 (crcByte i : Int)) := by
 unfold tabV
 refine u32V_get ?_
 unfold tabL
 rw [List.getElem?_append_left O19, List.getElem?_map, List.getElem?_range h]
 rfl
theorem tabV_one : tabV.all (·.oneCell') = true := by decide +kernel
end Go.Hw
namespace Go.Proofs.YtnnehiiblfmpnaaGreatDoor
open Go.Hw
set_option maxHeartbeats 4000000
set_option maxRecDepth 100000
instance undTab : Und Tryz.prog 301 (.array 256 111) := ⟨Tryz.underlying301⟩
section
variable {w0 w : World} {l : List HProp}
theorem crcc_Table (h : St w0 l w) : Ret Tryz.prog 203 [] w fun v w' => v = .agg tabV.toArray ∧ St w0 l w' := by
 refine enter Tryz.func203 rfl Tryz.results203 Tryz.ntmps203 rfl ?_
 refine Y1 ?_
 refine qw rfl (q7 h fun b0 w h => ?_)
 refine Y4l ?_
 refine qw rfl (q7 h fun b1 w h => ?_)
 refine Y3 ?_; refine Y1g ?_; refine Y3 ?_
 have hz : (List.replicate 256 (Value.int .u32 0)) = u32V (tabL 0) := by show _ = (List.replicate 256 0).map _; rw [List.map_replicate]; rfl
 refine Ya ?_
 refine qc (Γ := Nat) (fun k => [(0, .pointer (some ⟨b0, 0, none⟩)), (1, .pointer (some ⟨b1, 0, none⟩)), (5, .int .i64 k)]) (fun k w => k ≤ 256 ∧ St w0 (pt b1 (.cells (u32V (tabL k)).toArray 301 (0, 0)) :: pt b0 (.cells (List.replicate 256 (Value.int .u32 0)).toArray 301 (0, 0)) :: l) w) (fun k => 256 - k) 0 ⟨rfl, rfl, rfl, trivial⟩ ⟨Nat.zero_le _, by rw [← hz]; exact h⟩ ?_
 clear h
 rintro i w e ⟨hi, h⟩
 refine Y1e ?_
 refine ql (qy (decide ((i : Int) < 256)) rfl (fun hc => ?_) (fun hc => ?_))
 ·
  have hlt : i < 256 := by simp at hc; omega
  refine Yy ?_; refine Y2z ?_; refine Y4 ?_; refine Yb ?_
  refine qg (.int .u32 (i : Int)) (by rw [wrap_u32, Nat.mod_eq_of_lt O0]) ?_
  refine Y6 ?_
  refine qo (Γ := Unit) (fun _ => [(0, .pointer (some ⟨b0, 0, none⟩)), (1, .pointer (some ⟨b1, 0, none⟩)), (2, .int .i64 i), (3, .int .u32 (crcByte i : Int)), (5, .int .i64 i)]) (fun _ w => St w0 (pt b1 (.cells (u32V (tabL i)).toArray 301 (0, 0)) :: pt b0 (.cells (List.replicate 256 (Value.int .u32 0)).toArray 301 (0, 0)) :: l) w) ?_ ?_
  ·refine Y4 ?_; refine Y3 ?_; refine Ya ?_
   refine qc (Γ := Nat) (fun k => [(0, .pointer (some ⟨b0, 0, none⟩)), (1, .pointer (some ⟨b1, 0, none⟩)), (2, .int .i64 i), (3, .int .u32 (crcN k i : Int)), (5, .int .i64 i), (10, .int .i64 k)]) (fun k w => k ≤ 8 ∧ St w0 (pt b1 (.cells (u32V (tabL i)).toArray 301 (0, 0)) :: pt b0 (.cells (List.replicate 256 (Value.int .u32 0)).toArray 301 (0, 0)) :: l) w) (fun k => 8 - k) 0 ⟨rfl, rfl, rfl, rfl, rfl, rfl, trivial⟩ ⟨Nat.zero_le _, h⟩ ?_
   clear h
   rintro k w e ⟨hk, h⟩
   refine Y1e ?_
   refine ql (qy (decide ((k : Int) < 8)) rfl (fun hc => ?_) (fun hc => ?_))
   ·
    have hk8 : k < 8 := by simp at hc; omega
    have hcl := crcN_lt (c := i) O0 k
    have hstep : crcN (k + 1) i = crcBit (crcN k i) := rfl
    generalize crcN k i = c at hcl hstep
    refine Yh ?_
    refine qo (Γ := Unit) (fun _ => [(0, .pointer (some ⟨b0, 0, none⟩)), (1, .pointer (some ⟨b1, 0, none⟩)), (2, .int .i64 i), (3, .int .u32 (crcN (k + 1) i : Int)), (5, .int .i64 i), (10, .int .i64 k)]) (fun _ w => St w0 (pt b1 (.cells (u32V (tabL i)).toArray 301 (0, 0)) :: pt b0 (.cells (List.replicate 256 (Value.int .u32 0)).toArray 301 (0, 0)) :: l) w) ?_ ?_
    ·refine Ya ?_; refine Y4 ?_; refine Y33 ?_
     refine qg (.int .u32 ((c % 2 : Nat) : Int)) (congrArg (Value.int .u32) (((bit_u32 hcl (by decide : 1 < _)).1).trans (by rw [Nat.and_one_is_mod]))) ?_
     refine Y3p ?_
     refine qz (qh (v' := .int .u32 ((c / 2 ^ 1 : Nat) : Int)) (ju rfl rfl O0) (congrArg (Value.int .u32) (q9 c 1 32 O4))) rfl ?_
     refine Y3p ?_; refine Yd ?_
     rw [hstep]
     unfold crcBit
     by_cases h1 : c % 2 = 1
     ·rw [if_pos h1]
      refine qg (.bool true) (by rw [h1]; rfl) ?_
      refine Yk ?_; refine Y1a ?_; refine Y3b ?_
      refine qg (.int .u32 ((c / 2 ^ 1 ^^^ 2197175160 : Nat) : Int)) (congrArg (Value.int .u32) (bit_u32 O0 O4).2) ?_
      refine Y2 ?_
      exact qq ⟨(), ⟨rfl, rfl, rfl, rfl, rfl, rfl, trivial⟩, h⟩
     ·rw [if_neg h1]
      refine qg (.bool false) O3 ?_
      refine Y11 ?_
      exact qr ⟨(), ⟨rfl, rfl, rfl, rfl, rfl, rfl, trivial⟩, h⟩
    clear h
    rintro _ w e h
    refine Yw ?_
    refine qg (.int .i64 ((k + 1 : Nat) : Int)) O5 ?_
    refine Y0 ?_
    exact qq ⟨k + 1, ⟨rfl, rfl, rfl, rfl, rfl, rfl, trivial⟩, ⟨hk8, h⟩, by omega⟩
   have hk8 : k = 8 := by simp at hc; omega
   subst hk8
   exact qd ⟨(), ⟨rfl, rfl, rfl, rfl, rfl, trivial⟩, h⟩
  clear h
  rintro _ w e h
  refine Y1a ?_; refine Y0 ?_
  refine qz (q_aidx (j := i) (o' := i) rfl rfl rfl hlt O7) rfl ?_
  refine qw rfl (q8 0 h rfl (show _ = Value.int .u32 (crcByte i : Int) from rfl) rfl (by rw [Nat.blt_eq, u32V_len, tabL_len O0]; omega) rfl rfl fun w h => ?_)
  simp only [List.set_cons_zero] at h
  rw [tabL_set hlt] at h
  refine Y48 ?_
  refine qg (.int .i64 ((i + 1 : Nat) : Int)) O5 ?_
  refine Y0 ?_
  exact qq ⟨i + 1, ⟨rfl, rfl, rfl, trivial⟩, ⟨hlt, h⟩, by omega⟩
 have hi256 : i = 256 := by simp at hc; omega
 subst hi256
 refine qd ?_
 refine Y1 ?_
 refine qz (qf (l := tabV) rfl (by rw [tabV_len]; rfl) (qp (h.b 0 rfl) rfl)) rfl ?_
 refine qw rfl (qb (vs := tabV) 1 h rfl rfl rfl (by rw [tabV_len]; rfl) (by rw [tabV_len]; rfl) rfl tabV_one fun w h => ?_)
 simp only [List.set_cons_zero, List.set_cons_succ] at h
 rw [show (List.replicate 256 (Value.int .u32 0)).take 0 ++ tabV ++ (List.replicate 256 (Value.int .u32 0)).drop (0 + tabV.length) = tabV by rw [List.take_zero, List.nil_append, tabV_len, List.drop_of_length_le (by rw [List.length_replicate]; decide), List.append_nil]] at h
 refine Y3 ?_
 exact qv (bqS1 (l := tabV) rfl (by rw [tabV_len]; rfl) (qp (h.b 1 rfl) rfl) ⟨rfl, h.drop.drop⟩)
theorem crcc_Sum {sl : Option Addr} {c : Nat} {bs : List UInt8} (hn : bs.length ≤ 140737488355328) (hr : Reads w0 l 1 sl bs.length (bytesV bs)) (h : St w0 l w) :
  Ret Tryz.prog 202 [.agg tabV.toArray, .slice sl bs.length c] w fun v w' => v = .int .u32 (crc bs : Int) ∧ St w0 l w' := by
 refine enter Tryz.func202 rfl Tryz.results202 Tryz.ntmps202 rfl ?_
 refine Y1 ?_
 refine qw rfl (jy h (show _ = Value.agg tabV.toArray from rfl) fun b2 w h => ?_)
 refine Y6 ?_; refine Yf ?_; refine Y34 ?_
 refine qc (Γ := Nat × Nat) (fun k => [(2, .pointer (some ⟨b2, 0, none⟩)), (5, .int .u32 (k.2 : Int)), (8, .slice sl bs.length c), (9, .int .i64 bs.length), (10, .int .i64 k.1)])
  (fun k w => k.1 ≤ bs.length ∧ k.2 < 4294967296 ∧ crcA k.2 (bs.drop k.1) = crcA 4294967295 bs ∧ St w0 (pt b2 (.cells tabV.toArray 301 (0, 0)) :: l) w) (fun k => bs.length - k.1) (0, 4294967295) ⟨rfl, rfl, rfl, rfl, rfl, trivial⟩ ⟨Nat.zero_le _, (by decide : (4294967295 : Nat) < 4294967296), rfl, h⟩ ?_
 clear h
 rintro ⟨i, s⟩ w e ⟨hi, hs, he, h⟩
 dsimp only at hi hs he h ⊢
 refine Y1e ?_
 refine ql (qy (decide ((i : Int) < (bs.length : Int))) rfl (fun hc => ?_) (fun hc => ?_))
 ·
  have hlt : i < bs.length := by simp at hc; omega
  have hg := List.getElem?_eq_getElem hlt
  have hdr := List.drop_eq_getElem_cons hlt
  generalize bs[i] = x at hg hdr
  have hx := x.toNat_lt
  rw [hdr, crcA] at he
  have hst := crcStep_lt (x := x.toNat) hs hx
  unfold crcStep at he hst
  have hj : (s % 256) ^^^ x.toNat < 256 := xor8 (Nat.mod_lt _ O4) hx
  have hbl := crcByte_lt hj
  obtain ⟨b, o, hsl⟩ := (hr.cons.at_ h).some O0
  refine Y4a ?_
  refine qz (qn (b := b) (o := o) (m := bs.length) (c := c) (o' := o + i) O8 rfl rfl hlt O7) rfl ?_
  refine qz (qx (v := .int .u8 x.toNat) rfl ((hsl ▸ hr.cons.at_ h).cell (bytesV_get hg))) rfl ?_
  refine Y6 ?_; refine Y1a ?_; refine Yb ?_
  refine qg (.int .u8 ((s % 256 : Nat) : Int)) (by rw [wrap_u8]) ?_
  refine Y0 ?_; refine Y3b ?_
  refine qg (.int .u8 (((s % 256) ^^^ x.toNat : Nat) : Int)) (congrArg (Value.int .u8) (bit_u8 O0 hx).2.2) ?_
  refine qz (q_aidx (j := (s % 256) ^^^ x.toNat) (o' := (s % 256) ^^^ x.toNat) rfl rfl rfl hj O7) rfl ?_
  refine qz (qx (v := .int .u32 (crcByte ((s % 256) ^^^ x.toNat) : Int)) rfl (by have := cell_of (h.b 0 rfl) (tabV_get hj); simpa using this)) rfl ?_
  generalize crcByte ((s % 256) ^^^ x.toNat) = tb at he hst hbl ⊢
  refine Y0 ?_
  refine qz (qh (v' := .int .u32 ((s / 2 ^ 8 : Nat) : Int)) (ju rfl rfl O0) (congrArg (Value.int .u32) (q9 s 8 32 O4))) rfl ?_
  refine Y3b ?_
  refine qg (.int .u32 ((tb ^^^ (s / 256) : Nat) : Int)) (congrArg (Value.int .u32) (bit_u32 hbl O0).2) ?_
  refine Y6 ?_; refine Yw ?_
  refine qg (.int .i64 ((i + 1 : Nat) : Int)) O5 ?_
  refine Y0 ?_
  exact qq ⟨(i + 1, tb ^^^ (s / 256)), ⟨rfl, rfl, rfl, rfl, rfl, trivial⟩, ⟨hlt, hst, he, h⟩, by dsimp only; omega⟩
 have hin : i = bs.length := by simp at hc; omega
 rw [hin, List.drop_length, crcA] at he
 refine qd ?_
 refine Y4 ?_; refine Y3b ?_
 refine qg (.int .u32 ((s ^^^ 4294967295 : Nat) : Int)) (congrArg (Value.int .u32) (bit_u32 hs O4).2) ?_
 refine Y6 ?_
 exact qv (bq1 ⟨by unfold crc; rw [← he]; rfl, h.drop⟩)
end
end Go.Proofs.YtnnehiiblfmpnaaGreatDoor

/- xorv: values by what turns: reading them. -/
namespace Go.Hw
theorem run_part_bool {P : Program} {w : World} {t : TypeId} (ht : P.underlying t = some .bool) {cs : List Value} {off : Nat} {v : Value} (hv : cs[off]? = some v) : (part t cs.toArray off).run P w = .ok v w := by
 have : (isAgg t).run P w = .ok false w := by
  unfold Go.isAgg
  rw [Sem.run_bind, run_underlying ht w]
  rfl
 simp [part, this, hv]
class EqB2 (P : Program) (t : TypeId) : Prop where
 u : ∃ fl : List Field, P.underlying t = some (.struct fl.toArray) ∧ fl.map (fun f => (f.name == "_", f.offset, P.underlying f.type)) = [(false, 0, some .bool), (false, 1, some (.int .i64)), (false, 2, some (.int .i64))]
 s : P.stoodInHeld t = false
 g : P.eqGuardType P.depth t = false
theorem run_eqB2 {P : Program} {w : World} {t : TypeId} (h : EqB2 P t) (a a' : Bool) (b b' c c' : Int) (d : Nat) :
  (Op.equalIn (d + 2) t (.agg [.bool a, .int .i64 b, .int .i64 c].toArray) (.agg [.bool a', .int .i64 b', .int .i64 c'].toArray)).run P w = .ok (a == a' && ([b, c] : List Int) == [b', c']) w := by
 obtain ⟨fl, hu, hf⟩ := h.u
 have hfo : P.fieldsOf t = fl.toArray := by unfold Program.fieldsOf; rw [hu]
 rw [run_equalIn_struct w (d + 1) t _ _ (by rw [hfo]; exact hu) h.s, hfo]
 have hl3 : fl.length = 3 := by have := congrArg List.length hf; simpa using this
 obtain ⟨f, f2, f3, rfl⟩ : ∃ f f2 f3, fl = [f, f2, f3] := by
  match fl, hl3 with
  | [x, y, z], _ => exact ⟨x, y, z, rfl⟩
 simp only [List.map_cons, List.map_nil, List.cons.injEq, Prod.mk.injEq, and_true] at hf
 obtain ⟨⟨h1, h2, h3⟩, h4⟩ := hf
 have hn : f.name ≠ "_" := by simpa using h1
 have e1 : ([.bool a, .int .i64 b, .int .i64 c] : List Value)[f.offset]? = some (.bool a) := by rw [h2]; rfl
 have e2 : ([.bool a', .int .i64 b', .int .i64 c'] : List Value)[f.offset]? = some (.bool a') := by rw [h2]; rfl
 show (Op.eqFields (d + 1) _ _ [f, f2, f3]).run P w = _
 unfold Op.eqFields
 rw [if_pos hn]
 simp only [Sem.run_bind, run_part_bool h3 e1, run_part_bool h3 e2, Result.andThen_ok, run_equalIn_bool w d f.type a a' h3]
 by_cases haa : a = a'
 ·subst haa
  have ih := run_eqFields (P := P) (w := w) d [f2, f3] [.i64, .i64] [b, c] [b', c'] [.bool a] [.bool a] rfl rfl rfl (by
   obtain ⟨⟨g1, g2, g3⟩, g4, g5, g6⟩ := h4
   simp [g1, g2, g3, g4, g5, g6, List.zipIdx])
  have ih' : (Op.eqFields (d + 1) #[Value.bool a, .int .i64 b, .int .i64 c] #[Value.bool a, .int .i64 b', .int .i64 c'] [f2, f3]).run P w = .ok (b == b' && c == c') w := by
   have := ih
   simpa [ints] using this
  simp
  exact ih'
 ·simp [haa]
section
variable {P : Program} {e : Env} {w : World} {d : Option Nat} {ty : TypeId} {pos : String} {af : Array Edge} {g : Option (Nat × Bool)}
theorem q_neB2 {t t2 : TypeId} [h : EqB2 P t] {x y : Operand} (a a' : Bool) (b b' c c' : Int) (hx : ev e x = .agg [.bool a, .int .i64 b, .int .i64 c].toArray) (hy : ev e y = .agg [.bool a', .int .i64 b', .int .i64 c'].toArray) :
  Qv P e ⟨d, .binOp .neq t x y t2, ty, pos, af, g⟩ w (.bool (!(a == a' && ([b, c] : List Int) == [b', c']))) := by
 unfold Qv
 have h1 := run_eqGuard_agg (P := P) w .neq t x y [.bool a, .int .i64 b, .int .i64 c].toArray [.bool a', .int .i64 b', .int .i64 c'].toArray h.g
 have h2 := run_neq_struct (P := P) w t [.bool a, .int .i64 b, .int .i64 c].toArray [.bool a', .int .i64 b', .int .i64 c'].toArray
 rw [run_eqB2 h a a' b b' c c' 9998] at h2
 simp only [execOp, hx, hy, Sem.run_bind, h1, Result.andThen_ok, h2, Result.andThen]
 rfl
end
theorem win_ne (x y : Win) : (!(x.is == y.is && ([(x.lead : Int), (x.trail : Int)] : List Int) == [(y.lead : Int), (y.trail : Int)])) = decide (x ≠ y) := by
 obtain ⟨a, b, c⟩ := x
 obtain ⟨a', b', c'⟩ := y
 by_cases h : (⟨a, b, c⟩ : Win) = ⟨a', b', c'⟩
 ·cases h; simp
 ·rw [decide_eq_true h, Bool.not_eq_true', Bool.eq_false_iff]
  intro hh
  have hh : a = a' ∧ (b : Int) = b' ∧ (c : Int) = c' := by simpa using hh
  obtain ⟨rfl, h2, h3⟩ := hh
  obtain rfl : b = b' := by omega
  obtain rfl : c = c' := by omega
  exact h rfl
end Go.Hw
namespace Go.Proofs.YtnnehiiblfmpnaaGreatDoor
open Go.Hw
set_option maxHeartbeats 4000000
set_option maxRecDepth 100000
instance eqbWin : EqB2 Tryz.prog 340 := ⟨⟨_, Tryz.underlying340, by kernel_rfl⟩, by kernel_rfl, by kernel_rfl⟩
section
variable {w0 w : World} {l : List HProp}
theorem xorv_turn (hT : Tz w0) {p q : Nat} {s : RS} {win : Win} (ho : WinOk win ∨ win = ⟨false, 0, 0⟩) (h : St w0 (IsBR p s :: WinPt q win :: l) w) :
  Ret Tryz.prog 248 [.pointer (some ⟨p, 0, none⟩), .pointer (some ⟨q, 0, none⟩)] w fun v w' => ∃ (x : Nat) (ok : Bool) (win' : Win), v = .tuple [.int .u64 (x : Int), .bool ok].toArray ∧ x < 18446744073709551616 ∧ WinOk win' ∧ (turnR s win).1 = (if ok = true then some (x, win') else none) ∧ St w0 (IsBR p (turnR s win).2 :: WinPt q win' :: l) w' := by
 have ho : WinOk win := by
  rcases ho with h | h
  ·exact h
  ·subst h; unfold WinOk; decide
 have hwl := win_long_le win
 refine enter Tryz.func248 rfl Tryz.results248 Tryz.ntmps248 rfl ?_
 refine Y1 ?_; refine Yt ?_; refine Y2m ?_
 refine qw rfl (qj rfl (gg 1 h) ?_)
 rw [show heldN 1 = 1 from rfl]
 cases hg1 : s.get 1 with | mk a s1 =>
 rintro _ w ⟨rfl, h⟩
 dsimp only at h ⊢
 refine Yd ?_
 by_cases ha : a = 0
 ·subst ha
  refine qg (.bool true) rfl ?_
  refine Y28 ?_; refine Yt ?_
  rw [turnR_0 hg1]
  exact qv (bq2 ⟨0, true, win, rfl, by decide, ho, rfl, h⟩)
 refine qg (.bool false) O3 ?_
 refine Y9 ?_; refine Y2m ?_
 refine qw rfl (qj rfl (gg 1 h) ?_)
 rw [show heldN 1 = 1 from rfl]
 cases hg2 : s1.get 1 with | mk b s2 =>
 rintro _ w ⟨rfl, h⟩
 dsimp only at h ⊢
 refine Yd ?_
 by_cases hb : b = 0
 ·subst hb
  refine qg (.bool true) rfl ?_
  refine Yk ?_
  cases hg3 : s2.get win.long with | mk g s3 =>
  have hT2 := turnR_2 hg1 ha hg2 hg3
  have hglt : g * 2 ^ win.trail % 18446744073709551616 < 18446744073709551616 := Nat.mod_lt _ O4
  have htr : win.trail ≤ 64 := by unfold WinOk at ho; omega
  refine qo (Γ := Unit) (fun _ => [(1, .pointer (some ⟨q, 0, none⟩)), (6, .int .u64 ((g * 2 ^ win.trail % 18446744073709551616 : Nat) : Int))]) (fun _ w => St w0 (IsBR p s3 :: WinPt q win :: l) w) ?_ ?_
  ·refine j7 [0, 1, 2, 3, 4, 5, 6, 7, 8, 9, 10, 11] none (fun w => w.heap[q]? = some (.cells (winC win).toArray 340 (0, 0))) O2 O2 ?_
   replace h := h.drew
   generalize w.drew = w at h
   have hs := h
   replace h := hs.b 1 rfl
   refine Y25 ?_; refine Y25 ?_; refine Y4g ?_
   refine qu rfl rfl rfl rfl h (fun w h => qm rfl (qf (l := winC win) rfl rfl (qp h rfl))) ?_
   refine Yz ?_; refine Yg ?_
   refine qu rfl rfl rfl rfl h (fun w h => qm rfl (qk (v := .int .i64 win.trail) rfl h rfl)) ?_
   refine Yz ?_
   refine qt 4 rfl rfl rfl rfl ?_
   refine (qj rfl (xorv_long ho hs) ?_)
   rintro _ w ⟨rfl, hs⟩
   replace h := hs.b 1 rfl
   refine ⟨fun _ => h, ?_⟩
   refine Y1m ?_
   refine qt 5 rfl rfl rfl rfl ?_
   refine (qj rfl (gg win.long hs) ?_)
   rw [heldN_nat hwl, hg3]
   rintro _ w ⟨rfl, hs⟩
   dsimp only at hs
   replace h := hs.b 1 rfl
   refine ⟨fun _ => h, ?_⟩
   refine cpv rfl rfl rfl rfl h rfl (qh (v' := .int .u64 ((g * 2 ^ win.trail % 18446744073709551616 : Nat) : Int)) (gk rfl rfl O0) (congrArg (Value.int .u64) (ji g win.trail htr))) ?_
   refine Y2h ?_
   exact qi ⟨(), ⟨rfl, rfl, trivial⟩, hs⟩
  clear h
  rintro _ w e h
  rw [hT2]
  dsimp only
  generalize hX : g * 2 ^ win.trail % 18446744073709551616 = x at hglt ⊢
  refine Y4 ?_; refine Y2q ?_
  refine qz (qk (v := .bool win.is) rfl (h.b 1 rfl) rfl) rfl ?_
  cases hwi : win.is with
  | false =>
   refine Y15 ?_; refine Y8 ?_; refine Yt ?_
   exact qv (bq2 ⟨x, false, win, rfl, hglt, ho, by simp, h⟩)
  | true =>
   refine Y10 ?_; refine Y2y ?_; refine Yi ?_; refine Yt ?_
   refine qv (bq2 ⟨x, (x : Int) != 0, win, rfl, hglt, ho, ?_, h⟩)
   by_cases hx0 : x = 0
   ·subst hx0; simp
   ·rw [if_pos ⟨rfl, hx0⟩, if_pos (by rw [bne_iff_ne]; omega)]
 refine qg (.bool false) O3 ?_
 refine Y9 ?_; refine Yr ?_
 refine qw rfl (qj rfl (gg 5 h) ?_)
 rw [show heldN 5 = 5 from rfl]
 have hlead := RS.get_lt s2 5
 cases hg3 : s2.get 5 with | mk lead s3 =>
 rw [hg3] at hlead
 rintro _ w ⟨rfl, h⟩
 dsimp only at h hlead ⊢
 refine Yb ?_
 refine qg (.int .i64 (lead : Int)) O13 ?_
 refine Y1x ?_
 refine qw rfl (qj rfl (gg 6 h) ?_)
 rw [show heldN 6 = 6 from rfl]
 have hlong := RS.get_lt s3 6
 cases hg4 : s3.get 6 with | mk long s4 =>
 rw [hg4] at hlong
 rintro _ w ⟨rfl, h⟩
 dsimp only at h hlong ⊢
 refine Yb ?_
 refine qg (.int .i64 (long : Int)) O13 ?_
 refine Y1n ?_
 refine qg (.int .i64 ((long + 1 : Nat) : Int)) O5 ?_
 refine Y22 ?_; refine Y4 ?_; refine Y1u ?_
 refine qg (.int .i64 (64 - (lead : Int))) O13 ?_
 refine Y1u ?_
 refine qg (.int .i64 (64 - (lead : Int) - ((long + 1 : Nat) : Int))) O13 ?_
 generalize htr : 64 - (lead : Int) - ((long + 1 : Nat) : Int) = tr
 refine qz (qe (r := [.bool true, .int .i64 lead, .int .i64 tr]) rfl) rfl ?_
 refine qw rfl (q7 h fun b9 w h => ?_)
 refine qw rfl (qb (vs := [.bool true, .int .i64 lead, .int .i64 tr]) 0 h rfl rfl rfl rfl rfl rfl rfl fun w h => ?_)
 replace h : St w0 (pt b9 (.cells [.bool true, .int .i64 lead, .int .i64 tr].toArray 340 (0, 0)) :: IsBR p s4 :: WinPt q win :: l) w := h
 refine Y3 ?_; refine Y44 ?_; refine Y1h ?_
 refine qz (qk (v := .int .i64 tr) rfl (h.b 0 rfl) rfl) rfl ?_
 refine Ys ?_
 refine qq (qy (decide (tr < 0)) rfl (fun hc => ?_) (fun hc => ?_))
 ·
  refine Y1 ?_; refine Yt ?_
  rw [turnR_3x hg1 ha hg2 hb hg3 hg4 O39]
  exact qv (bq2 ⟨0, false, win, rfl, by decide, ho, rfl, h.drop⟩)
 refine Yh ?_
 have hle : ¬ 64 < lead + (long + 1) := by rw [decide_eq_false_iff_not] at hc; omega
 have htr2 : tr = ((64 - lead - (long + 1) : Nat) : Int) := by omega
 subst htr2
 clear hc htr
 cases hg5 : s4.get (long + 1) with | mk g s5 =>
 have hT3 := turnR_3 (win := win) hg1 ha hg2 hb hg3 hg4 hle hg5
 have hglt : g * 2 ^ (64 - lead - (long + 1)) % 18446744073709551616 < 18446744073709551616 := Nat.mod_lt _ O4
 generalize htd : 64 - lead - (long + 1) = tr at hT3 hglt h ⊢
 replace h : St w0 (WinPt b9 ⟨true, lead, tr⟩ :: IsBR p s4 :: WinPt q win :: l) w := h
 refine qo (Γ := Unit) (fun _ => [(1, .pointer (some ⟨q, 0, none⟩)), (9, .pointer (some ⟨b9, 0, none⟩)), (10, .int .u64 ((g * 2 ^ tr % 18446744073709551616 : Nat) : Int))]) (fun _ w => St w0 (WinPt b9 ⟨true, lead, tr⟩ :: IsBR p s5 :: WinPt q win :: l) w) ?_ ?_
 ·refine j7 [0, 1, 2, 3, 4, 5, 6] none (fun w => w.heap[b9]? = some (.cells (winC ⟨true, lead, tr⟩).toArray 340 (0, 0))) O2 O2 ?_
  replace h := h.drew
  generalize w.drew = w at h
  have hs := h
  replace h := hs.b 0 rfl
  refine Y25 ?_; refine Yj ?_; refine Yl ?_; refine Y1c ?_
  refine qu rfl rfl rfl rfl h (fun w h => qm rfl (qk (v := .int .i64 tr) rfl h rfl)) ?_
  refine Yz ?_
  refine qt 2 rfl rfl rfl rfl ?_
  refine (qj rfl (gg ((long + 1 : Nat) : Int) (hs.f 1)) ?_)
  rw [heldN_nat O0, hg5]
  rintro _ w ⟨rfl, hs⟩
  dsimp only at hs
  replace hs := hs.f 1
  replace h := hs.b 0 rfl
  refine ⟨fun _ => h, ?_⟩
  refine cpv rfl rfl rfl rfl h rfl (qh (v' := .int .u64 ((g * 2 ^ tr % 18446744073709551616 : Nat) : Int)) (gk rfl rfl O0) (congrArg (Value.int .u64) (ji g tr O0))) ?_
  refine Y2h ?_
  exact qi ⟨(), ⟨rfl, rfl, rfl, trivial⟩, hs⟩
 clear h
 rintro _ w e h
 rw [hT3]
 dsimp only
 generalize hX : g * 2 ^ tr % 18446744073709551616 = x at hglt ⊢
 refine qo (Γ := Unit) (fun _ => [(1, .pointer (some ⟨q, 0, none⟩)), (9, .pointer (some ⟨b9, 0, none⟩)), (10, .int .u64 (x : Int))]) (fun _ w => ¬ (x = 0 ∨ winOf x ≠ ⟨true, lead, tr⟩ ∨ win.fits x = true) ∧ St w0 (WinPt b9 ⟨true, lead, tr⟩ :: IsBR p s5 :: WinPt q win :: l) w) ?_ ?_
 ·have bad : ∀ {w : World}, (x = 0 ∨ winOf x ≠ ⟨true, lead, tr⟩ ∨ win.fits x = true) → St w0 (WinPt b9 ⟨true, lead, tr⟩ :: IsBR p s5 :: WinPt q win :: l) w → ∃ (x' : Nat) (ok : Bool) (win' : Win), Value.tuple [.int .u64 0, .bool false].toArray = .tuple [.int .u64 (x' : Int), .bool ok].toArray ∧ x' < 18446744073709551616 ∧ WinOk win' ∧ (if x = 0 ∨ winOf x ≠ ⟨true, lead, tr⟩ ∨ win.fits x = true then none else some (x, (⟨true, lead, tr⟩ : Win))) = (if ok = true then some (x', win') else none) ∧ St w0 (IsBR p s5 :: WinPt q win' :: l) w := fun hb h => ⟨0, false, win, rfl, by decide, ho, by rw [if_pos hb]; rfl, h.drop⟩
  have hwc : ∀ {w : World}, St w0 (WinPt b9 ⟨true, lead, tr⟩ :: IsBR p s5 :: WinPt q win :: l) w → At w b9 0 (winC ⟨true, lead, tr⟩) := fun h => qp (h.b 0 rfl) rfl
  by_cases hx0 : x = 0
  ·refine ql (jj none (fun w => St w0 _ w) O2 O2 h.drew fun w h => ?_)
   refine Yj ?_
   refine cpv rfl rfl rfl rfl h rfl (qh (v' := .bool true) (jg rfl rfl) (by rw [hx0]; rfl)) ?_
   refine Y3c ?_; refine qs rfl rfl rfl rfl (fun _ => h) (fun _ => jk rfl rfl) (qs rfl rfl rfl rfl (fun _ => h) (fun _ => jk rfl rfl) (qs rfl rfl rfl rfl (fun _ => h) (fun _ => jk rfl rfl) (qs rfl rfl rfl rfl (fun _ => h) (fun _ => jk rfl rfl) (cpv rfl rfl rfl rfl h rfl (q_pick1 rfl rfl rfl) ?_)))); refine Y3c ?_; refine qs rfl rfl rfl rfl (fun _ => h) (fun _ => jk rfl rfl) (qs rfl rfl rfl rfl (fun _ => h) (fun _ => jk rfl rfl) (qs rfl rfl rfl rfl (fun _ => h) (fun _ => jk rfl rfl) (qs rfl rfl rfl rfl (fun _ => h) (fun _ => jk rfl rfl) (qs rfl rfl rfl rfl (fun _ => h) (fun _ => jk rfl rfl) (cpv rfl rfl rfl rfl h rfl (q_pick1 rfl rfl rfl) ?_)))))
   refine qi (gf rfl ?_)
   refine Y24 ?_; refine Ye ?_
   exact qq (qv (bq2 (bad (.inl hx0) h)))
  by_cases hne : winOf x ≠ ⟨true, lead, tr⟩
  ·refine ql (jj none (fun w => St w0 _ w) O2 O2 h.drew fun w h => ?_)
   refine Yj ?_
   refine cpv rfl rfl rfl rfl h rfl (qh (v' := .bool false) (jg rfl rfl) O3) ?_
   refine Y3c ?_; refine qs rfl rfl rfl rfl (fun _ => h) (fun _ => jz rfl rfl (q_moveI rfl)) ?_; refine Yl ?_
   refine qu rfl rfl rfl rfl h (fun w h => jz rfl rfl (qf (l := winC ⟨true, lead, tr⟩) rfl rfl (hwc h))) ?_
   refine Y13 ?_; refine Y13 ?_; refine Yl ?_
   refine qt 4 rfl rfl rfl (wanted_g rfl rfl rfl) ?_
   refine (qj rfl (xorv_of hT hglt h) ?_)
   rintro _ w ⟨rfl, h⟩
   refine ⟨fun _ => h, ?_⟩
   refine qs rfl rfl rfl rfl (fun _ => h) (fun _ => jz rfl rfl (qh (v' := .bool true) (q_neB2 (winOf x).is true (winOf x).lead lead (winOf x).trail tr rfl rfl) (by rw [win_ne (winOf x) ⟨true, lead, tr⟩, decide_eq_true hne]))) ?_
   refine cpv rfl rfl rfl rfl h rfl (q_pick0 rfl rfl rfl) ?_; refine Y3c ?_; refine qs rfl rfl rfl rfl (fun _ => h) (fun _ => jk rfl rfl) (qs rfl rfl rfl rfl (fun _ => h) (fun _ => jk rfl rfl) (qs rfl rfl rfl rfl (fun _ => h) (fun _ => jk rfl rfl) (qs rfl rfl rfl rfl (fun _ => h) (fun _ => jk rfl rfl) (qs rfl rfl rfl rfl (fun _ => h) (fun _ => jk rfl rfl) (cpv rfl rfl rfl rfl h rfl (q_pick1 rfl rfl rfl) ?_)))))
   refine qi (gf rfl ?_)
   refine Y24 ?_; refine Ye ?_
   exact qq (qv (bq2 (bad (.inr (.inl hne)) h)))
  ·refine ql (jj none (fun w => St w0 _ w) O2 O2 h.drew fun w h => ?_)
   refine Yj ?_
   refine cpv rfl rfl rfl rfl h rfl (qh (v' := .bool false) (jg rfl rfl) O3) ?_
   refine Y3c ?_; refine qs rfl rfl rfl rfl (fun _ => h) (fun _ => jz rfl rfl (q_moveI rfl)) ?_; refine Yl ?_
   refine qu rfl rfl rfl rfl h (fun w h => jz rfl rfl (qf (l := winC ⟨true, lead, tr⟩) rfl rfl (hwc h))) ?_
   refine Y13 ?_; refine Y13 ?_; refine Yl ?_
   refine qt 4 rfl rfl rfl (wanted_g rfl rfl rfl) ?_
   refine (qj rfl (xorv_of hT hglt h) ?_)
   rintro _ w ⟨rfl, h⟩
   refine ⟨fun _ => h, ?_⟩
   refine qs rfl rfl rfl rfl (fun _ => h) (fun _ => jz rfl rfl (qh (v' := .bool false) (q_neB2 (winOf x).is true (winOf x).lead lead (winOf x).trail tr rfl rfl) (by rw [win_ne (winOf x) ⟨true, lead, tr⟩, decide_eq_false hne]))) ?_
   refine cpv rfl rfl rfl rfl h rfl (q_pick0 rfl rfl rfl) ?_; refine Y3c ?_; refine qs rfl rfl rfl rfl (fun _ => h) (fun _ => jz rfl rfl (q_moveP rfl)) (qs rfl rfl rfl rfl (fun _ => h) (fun _ => jz rfl rfl (q_nil rfl)) ?_)
   refine qu rfl rfl rfl rfl h (fun w h => jz rfl rfl (qf (l := winC win) rfl rfl (qp (h.b 2 rfl) rfl))) ?_
   refine qs rfl rfl rfl rfl (fun _ => h) (fun _ => jz rfl rfl (q_moveI rfl)) ?_; refine Yz ?_
   refine qt 13 rfl rfl rfl (wanted_g rfl rfl rfl) ?_
   refine (qj rfl (xorv_fits hT hglt h) ?_)
   rintro _ w ⟨rfl, h⟩
   refine ⟨fun _ => h, ?_⟩
   refine cpv rfl rfl rfl rfl h rfl (q_pick0 rfl rfl rfl) ?_
   refine qi (qy (win.fits x) rfl (fun hc => ?_) (fun hc => ?_))
   ·refine Y24 ?_; refine Ye ?_
    exact qq (qv (bq2 (bad (.inr (.inr hc)) h)))
   ·refine qr ⟨(), ⟨rfl, rfl, rfl, trivial⟩, ?_, h⟩
    rintro (h | h | h)
    ·exact hx0 h
    ·exact hne h
    ·rw [hc] at h; cases h
 clear h
 rintro _ w e ⟨hcond, h⟩
 refine Yr ?_
 refine qz (qf (l := winC ⟨true, lead, tr⟩) rfl rfl (qp (h.b 0 rfl) rfl)) rfl ?_
 refine Y19 ?_
 refine qw rfl (qb (vs := winC ⟨true, lead, tr⟩) 2 h rfl rfl rfl rfl rfl rfl rfl fun w h => ?_)
 replace h : St w0 (WinPt b9 ⟨true, lead, tr⟩ :: IsBR p s5 :: WinPt q ⟨true, lead, tr⟩ :: l) w := h
 refine Y3 ?_; refine Y4 ?_; refine Yt ?_
 exact qv (bq2 ⟨x, true, ⟨true, lead, tr⟩, rfl, hglt, by unfold WinOk; dsimp only; omega, by rw [if_neg hcond, if_pos rfl], h.drop⟩)
theorem xorv_Decode (hT : Tz w0) {p : Nat} {s : RS} {n : Nat} (hn : n ≤ 65535) (h : St w0 (IsBR p s :: l) w) :
  Ret Tryz.prog 226 [.pointer (some ⟨p, 0, none⟩), .int .i64 (n : Int)] w fun v w' => ∃ a c xs b, v = .tuple [.slice a xs.length c, .bool b].toArray ∧ xorDec n s = (if b = true then some xs else none) ∧ (b = true → xs.length = n ∧ ∀ x ∈ xs, x < 18446744073709551616) ∧ ∃ s', St w0 (OwnU a c xs :: IsBR p s' :: l) w' := by
 refine enter Tryz.func226 rfl Tryz.results226 Tryz.ntmps226 rfl ?_
 refine Y39 ?_; refine Y3g ?_
 refine qg (.int .i64 (n : Int)) O20 ?_
 refine Y6 ?_; refine Yn ?_; refine Y1 ?_
 refine qw rfl (q7 h fun q w h => ?_)
 replace h : St w0 (WinPt q ⟨false, 0, 0⟩ :: IsBR p s :: l) w := h
 refine Y3 ?_; refine Yf ?_; refine Y1g ?_; refine Y3f ?_
 refine qc (Γ := Nat × List Nat × Nat × Win × RS × Option Addr × Nat) (fun k => [(0, .pointer (some ⟨p, 0, none⟩)), (6, .slice k.2.2.2.2.2.1 k.2.1.length k.2.2.2.2.2.2), (7, .pointer (some ⟨q, 0, none⟩)), (8, .int .u64 k.2.2.1), (15, .int .i64 n), (16, .int .i64 k.1)])
  (fun k w => k.1 ≤ n ∧ k.2.1.length = k.1 ∧ k.2.2.1 < 18446744073709551616 ∧ (∀ x ∈ k.2.1, x < 18446744073709551616) ∧ WinOk k.2.2.2.1 ∧ ((k.1 = 0 ∧ k.2.2.2.2.1 = s ∧ k.2.2.2.1 = ⟨false, 0, 0⟩) ∨ (0 < k.1 ∧ k.2.2.2.2.1.bad = false ∧ xorDec n s = (xorDecA (n - k.1) k.2.2.1 k.2.2.2.1 k.2.2.2.2.1).map fun r => k.2.1 ++ r))
   ∧ St w0 (OwnU k.2.2.2.2.2.1 k.2.2.2.2.2.2 k.2.1 :: WinPt q k.2.2.2.1 :: IsBR p k.2.2.2.2.1 :: l) w)
  (fun k => n - k.1) (0, [], 0, ⟨false, 0, 0⟩, s, none, 0) ⟨rfl, rfl, rfl, rfl, rfl, rfl, trivial⟩ ⟨Nat.zero_le _, rfl, (by decide : (0 : Nat) < 18446744073709551616), (fun _ h => by cases h), (show WinOk ⟨false, 0, 0⟩ by unfold WinOk; decide), .inl ⟨rfl, rfl, rfl⟩, St.ownNil _ _ h⟩ ?_
 clear h
 rintro ⟨i, out, was, win, s1, a, c⟩ w e ⟨hi, hol, hwas, hout, ho, inv, h⟩
 dsimp only at hi hol hwas hout ho inv h ⊢
 have bad : ∀ {w : World} {s' : RS}, xorDec n s = none → St w0 (IsBR p s' :: l) w → ∃ a c xs b, Value.tuple [.slice none 0 0, .bool false].toArray = .tuple [.slice a xs.length c, .bool b].toArray ∧ xorDec n s = (if b = true then some xs else none) ∧ (b = true → xs.length = n ∧ ∀ x ∈ xs, x < 18446744073709551616) ∧ ∃ s', St w0 (OwnU a c xs :: IsBR p s' :: l) w := fun hb h => ⟨none, 0, [], false, rfl, hb, (fun h => by cases h), _, St.ownNil _ _ h⟩
 refine Y1e ?_
 refine ql (qy (decide ((i : Int) < (n : Int))) rfl (fun hc => ?_) (fun hc => ?_))
 ·
  have hlt : i < n := by simp at hc; omega
  refine Yy ?_; refine Y2z ?_
  refine qo (Γ := Nat × Win × RS) (fun k => [(0, .pointer (some ⟨p, 0, none⟩)), (6, .slice a out.length c), (7, .pointer (some ⟨q, 0, none⟩)), (8, .int .u64 k.1), (15, .int .i64 n), (16, .int .i64 i)])
   (fun k w => k.1 < 18446744073709551616 ∧ WinOk k.2.1 ∧ (xorDec n s = if k.2.2.bad = true then none else (xorDecA (n - (i + 1)) k.1 k.2.1 k.2.2).map fun r => out ++ k.1 :: r) ∧ St w0 (IsBR p k.2.2 :: WinPt q k.2.1 :: OwnU a c out :: l) w) ?_ ?_
  ·refine Y4 ?_; refine Yd ?_
   rcases inv with ⟨hi0, hs1, hw0⟩ | ⟨hi0, hbad, inv⟩
   ·refine qg (.bool true) O35 ?_
    refine Y46 ?_
    refine qw rfl (qj rfl (gg 64 (h.f 2)) ?_)
    rintro _ w ⟨rfl, h⟩
    rw [show heldN 64 = 64 from rfl] at h ⊢
    refine Y2 ?_
    refine qq ⟨((s1.get 64).1, win, (s1.get 64).2), ⟨rfl, rfl, rfl, rfl, rfl, rfl, trivial⟩, RS.get_lt s1 64, ho, ?_, h.f 2 |>.f 2 |>.f 1 |>.f 2⟩
    dsimp only
    have : out = [] := List.eq_nil_of_length_eq_zero O0
    subst this
    rw [← hs1, hw0, hi0]
    cases n with
    | zero => omega
    | succ m => rfl
   ·refine qg (.bool false) O1 ?_
    refine Y11 ?_
    rw [show n - i = (n - (i + 1)) + 1 by omega, xorDecA] at inv
    refine Yr ?_
    refine qw rfl (qj rfl (xorv_turn hT (.inl ho) ((h.f 1).f 2)) ?_)
    cases hR : turnR s1 win with | mk o s2 =>
    rw [hR] at inv
    rintro _ w ⟨x, ok, win', rfl, hx, ho', hr, h⟩
    dsimp only at hr h
    subst hr
    refine Y2j ?_; refine Yt ?_; refine Y1s ?_; refine Y3 ?_
    cases ok with
    | false =>
     refine Y1o ?_; refine Y18 ?_
     exact qv (bq2 (bad inv (((h.f 1).drop.f 1).drop)))
    | true =>
     refine Y3o ?_
     have hy := Nat.xor_lt_two_pow (n := 64) hwas hx
     refine Y1a ?_; refine Y0 ?_; refine Y3b ?_
     refine qg (.int .u64 ((was ^^^ x : Nat) : Int)) (congrArg (Value.int .u64) (jv hwas hx).2.2) ?_
     refine Y2 ?_
     refine qq ⟨(was ^^^ x, win', s2), ⟨rfl, rfl, rfl, rfl, rfl, rfl, trivial⟩, hy, ho', ?_, h⟩
     simp only [if_true] at inv
     dsimp only
     rw [inv]
     cases s2.bad with
     | true => rfl
     | false =>
      simp only [Bool.false_eq_true, if_false, Option.map_map]
      rfl
  clear h inv hwas ho
  rintro ⟨was, win, s2⟩ w e ⟨hwas, ho, inv, h⟩
  dsimp only at hwas ho inv h ⊢
  refine qo (Γ := Unit) (fun _ => [(0, .pointer (some ⟨p, 0, none⟩)), (6, .slice a out.length c), (7, .pointer (some ⟨q, 0, none⟩)), (8, .int .u64 was), (15, .int .i64 n), (16, .int .i64 i)])
   (fun _ w => s2.bad = false ∧ St w0 (IsBR p s2 :: WinPt q win :: OwnU a c out :: l) w) ?_ ?_
  ·refine Yr ?_
   refine qw rfl (qj rfl (bits_Ok h) ?_)
   rintro _ w ⟨rfl, h⟩
   refine Y1j ?_; refine Y3 ?_
   cases hbd : s2.bad with
   | true =>
    refine Y1o ?_; refine Y18 ?_
    rw [hbd, if_pos rfl] at inv
    exact qv (bq2 (bad inv (((h.f 1).drop.f 1).drop)))
   | false =>
    refine Y2o ?_
    exact qr ⟨(), ⟨rfl, rfl, rfl, rfl, rfl, rfl, trivial⟩, rfl, h⟩
  clear h
  rintro _ w e ⟨hbd, h⟩
  rw [hbd, if_neg O4] at inv
  refine Y29 ?_
  refine qw rfl (q5 (r := u64V [was]) h rfl rfl rfl fun b2 w h => ?_)
  refine qw rfl (qa (ys := u64V [was]) (zs := u64V (out ++ [was])) (m3 := (out ++ [was]).length) (h.f 3) rfl rfl ⟨rfl, .inr ⟨b2, 0, rfl, qp (h.b 0 rfl) rfl⟩⟩ (u64V_one _) O7 O26 O1 O1 rfl fun a2 c2 w _ h => ?_)
  refine Ym ?_; refine Yw ?_
  refine qg (.int .i64 ((i + 1 : Nat) : Int)) O5 ?_
  refine Y0 ?_
  refine qq ⟨(i + 1, out ++ [was], was, win, s2, a2, c2), ⟨rfl, rfl, rfl, rfl, rfl, rfl, trivial⟩, ⟨hlt, by simp; omega, hwas, fun y hy => ?_, ho, .inr ⟨Nat.succ_pos _, hbd, ?_⟩, ?_⟩, by dsimp only; omega⟩
  ·rcases List.mem_append.1 hy with hy | hy
   ·exact hout y hy
   ·simp at hy; subst hy; exact hwas
  ·rw [inv]; congr 1; funext r; simp
  ·exact ((h.f 1).drop.f 2).f 1
 have hin : i = n := by simp at hc; omega
 refine qd ?_
 refine qo (Γ := Unit) (fun _ => [(6, .slice a out.length c)]) (fun _ w => xorDec n s = some out ∧ St w0 (IsBR p s1 :: OwnU a c out :: WinPt q win :: l) w) ?_ ?_
 ·refine Yr ?_
  refine qw rfl (qj rfl (bits_Ok (h.f 2)) ?_)
  rintro _ w ⟨rfl, h⟩
  refine Y1j ?_; refine Y3 ?_
  have hx0 : n = 0 → xorDec n s = if s.bad = true then none else some [] := fun h0 => by subst h0; rfl
  cases hbd : s1.bad with
  | true =>
   refine Y1o ?_; refine Y18 ?_
   rcases inv with ⟨hi0, hs1, hw0⟩ | ⟨hi0, hbad, inv⟩
   ·exact qv (bq2 (bad (by rw [hx0 O0, ← hs1, hbd]; rfl) (((h.f 1).drop.f 1).drop)))
   ·rw [hbd] at hbad; cases hbad
  | false =>
   refine Y2o ?_
   refine qr ⟨(), ⟨rfl, trivial⟩, ?_, h⟩
   rcases inv with ⟨hi0, hs1, hw0⟩ | ⟨hi0, hbad, inv⟩
   ·have : out = [] := List.eq_nil_of_length_eq_zero O0
    rw [hx0 O0, ← hs1, hbd, this]; rfl
   ·rw [inv, hin, Nat.sub_self, xorDecA]; simp
 clear h inv
 rintro _ w e ⟨hd, h⟩
 refine Y4c ?_
 exact qv (bq2 ⟨a, c, out, true, rfl, by rw [hd]; rfl, fun _ => ⟨by omega, hout⟩, s1, ((h.f 2).drop.f 1)⟩)
end
end Go.Proofs.YtnnehiiblfmpnaaGreatDoor
/- suit: words, sums; slices.Equal; simp: reading small numbers. -/
namespace Go.Hw
set_option maxRecDepth 100000
theorem u64V_setlast (done : List Nat) (y z : Nat) : (u64V (done ++ [y])).set done.length (.int .u64 (z : Int)) = u64V (done ++ [z]) := by
 simp [u64V, List.set_append]
theorem shl8_or {y c : Nat} (hc : c < 256) : (y * 2 ^ 8 % 18446744073709551616) ||| c = (y * 256 + c) % 18446744073709551616 := by
 have e8 : (2 : Nat) ^ 8 = 256 := rfl
 have h1 : y * 2 ^ 8 % 18446744073709551616 = y % 72057594037927936 * 2 ^ 8 := by rw [e8]; omega
 have h2 : (y * 256 + c) % 18446744073709551616 = c + y % 72057594037927936 * 2 ^ 8 := by rw [e8]; omega
 rw [h1, h2, Nat.or_comm]
 exact or_shift (i := 8) hc
theorem unpackW_len (x b m : Nat) : (unpackW x b m).length = m := by simp [unpackW]
theorem unpackW_succ (x b m : Nat) : unpackW x b (m + 1) = unpackW x b m ++ [x / 2 ^ (m * b) % 2 ^ b] := by
 unfold unpackW
 rw [List.range_succ, List.map_append]; rfl
theorem and_word (x : Nat) : x &&& 1152921504606846975 = x % 1152921504606846976 := Nat.and_two_pow_sub_one_eq_mod x 60
theorem pow_le_64 {b : Nat} (h : b ≤ 60) : 2 ^ b < 18446744073709551616 := Nat.lt_of_le_of_lt (Nat.pow_le_pow_right O4 h) O4
end Go.Hw
namespace Go.Proofs.YtnnehiiblfmpnaaGreatDoor
open Go.Hw
set_option maxHeartbeats 4000000
set_option maxRecDepth 100000
section
variable {w0 w : World} {l : List HProp}
theorem slices_Equal {s1 s2 : Option Addr} {c1 c2 : Nat} {u1 u2 : List Nat} (h1n : u1.length ≤ 9223372036854775807) (h : St w0 l w) (h1 : Reads w0 l 1 s1 u1.length (u64V u1)) (h2 : Reads w0 l 1 s2 u2.length (u64V u2)) :
  Ret Tryz.prog 251 [.slice s1 u1.length c1, .slice s2 u2.length c2] w fun v w' => v = .bool (decide (u1 = u2)) ∧ St w0 l w' := by
 refine enter Tryz.func251 rfl Tryz.results251 Tryz.ntmps251 rfl ?_
 refine Y2a ?_; refine Y1w ?_; refine Y1r ?_; refine Y2y ?_
 by_cases hl : u1.length = u2.length
 ·refine qg (.bool false) (by simp [hl]) ?_
  refine Y9 ?_; refine Y34 ?_
  refine qc (Γ := Nat) (fun k => [(0, .slice s1 u1.length c1), (1, .slice s2 u2.length c2), (12, .int .i64 u1.length), (13, .int .i64 k)]) (fun k w => k ≤ u1.length ∧ u1.take k = u2.take k ∧ St w0 l w) (fun k => u1.length - k) 0 ⟨rfl, rfl, rfl, rfl, trivial⟩ ⟨Nat.zero_le _, rfl, h⟩ ?_
  clear h
  rintro k w e ⟨hk, he, h⟩
  refine Y1e ?_
  refine ql (qy (decide ((k : Int) < (u1.length : Int))) rfl (fun hc => ?_) (fun hc => ?_))
  ·
   have hlt : k < u1.length := by simp at hc; omega
   have hg1 := List.getElem?_eq_getElem hlt
   generalize u1[k] = x at hg1
   have hg2 := List.getElem?_eq_getElem (show k < u2.length by omega)
   generalize u2[k]'O0 = y at hg2
   obtain ⟨b1, o1, hs1⟩ := (h1.at_ h).some O0
   obtain ⟨b2, o2, hs2⟩ := (h2.at_ h).some O0
   refine Yy ?_; refine Y2z ?_
   refine ql (jj none (fun w => St w0 _ w) O2 O2 h.drew fun w h => ?_)
   refine Yq ?_
   refine cpv rfl rfl rfl rfl h rfl (qn (b := b1) (o := o1) (m := u1.length) (c := c1) (o' := o1 + k) (by rw [← hs1]; rfl) rfl rfl hlt O7) ?_
   refine qu rfl rfl rfl rfl h (fun w h => qm rfl (qx (v := .int .u64 x) rfl ((hs1 ▸ h1.at_ h).cell (u64V_get hg1)))) ?_
   refine Yq ?_
   refine cpv rfl rfl rfl rfl h rfl (qn (b := b2) (o := o2) (m := u2.length) (c := c2) (o' := o2 + k) (by rw [← hs2]; rfl) rfl rfl O0 O7) ?_
   refine qu rfl rfl rfl rfl h (fun w h => qm rfl (qx (v := .int .u64 y) rfl ((hs2 ▸ h2.at_ h).cell (u64V_get hg2)))) ?_
   by_cases hxy : x = y
   ·refine cpv rfl rfl rfl rfl h rfl (qh (v' := .bool false) (q_neq rfl rfl) (by rw [hxy]; simp)) ?_
    refine qi (q6 rfl (qr ?_))
    refine Yw ?_
    refine qg (.int .i64 ((k + 1 : Nat) : Int)) O5 ?_
    refine Y0 ?_
    refine qq ⟨k + 1, ⟨rfl, rfl, rfl, rfl, trivial⟩, ⟨hlt, ?_, h⟩, by omega⟩
    rw [List.take_add_one, List.take_add_one, he, hg1, hg2, hxy]
   ·refine cpv rfl rfl rfl rfl h rfl (qh (v' := .bool true) (q_neq rfl rfl) O18) ?_
    refine qi (gf rfl ?_)
    refine Y3t ?_
    refine qq (qv (bq1 ⟨?_, h⟩))
    rw [show decide (u1 = u2) = false from decide_eq_false fun hh => hxy (by rw [hh, hg2] at hg1; exact (Option.some.inj hg1).symm)]; rfl
  have hkn : k = u1.length := by simp at hc; omega
  refine qd ?_
  refine Y3t ?_
  refine qq (qv (bq1 ⟨?_, h⟩))
  rw [hkn, List.take_length, hl, List.take_length] at he
  rw [decide_eq_true he]; rfl
 ·refine qg (.bool true) O18 ?_
  refine Y28 ?_; refine Ye ?_
  refine qq (qv (bq1 ⟨?_, h⟩))
  rw [show decide (u1 = u2) = false from decide_eq_false fun hh => hl (by rw [hh])]; rfl
theorem suit_sums {sl : Option Addr} {c : Nat} {u : List Nat} (hu : ∀ x ∈ u, x < 18446744073709551616) (hn : u.length ≤ 65535) (hr : Reads w0 l 1 sl u.length (u64V u)) (h : St w0 l w) :
  Ret Tryz.prog 229 [.slice sl u.length c] w fun v w' => ∃ a c', v = .slice a (sumsL 0 u).length c' ∧ (∀ x ∈ sumsL 0 u, x < 18446744073709551616) ∧ St w0 (OwnU a c' (sumsL 0 u) :: l) w' := by
 refine enter Tryz.func229 rfl Tryz.results229 Tryz.ntmps229 rfl ?_
 refine Y3j ?_; refine Yf ?_; refine Y34 ?_
 refine qc (Γ := Nat × Nat × List Nat × Option Addr × Nat) (fun k => [(3, .slice k.2.2.2.1 k.2.2.1.length k.2.2.2.2), (4, .int .u64 k.2.1), (7, .slice sl u.length c), (8, .int .i64 u.length), (9, .int .i64 k.1)])
  (fun k w => k.1 ≤ u.length ∧ k.2.1 < 18446744073709551616 ∧ k.2.2.1.length = k.1 ∧ (∀ x ∈ k.2.2.1, x < 18446744073709551616) ∧ k.2.2.1 ++ sumsL k.2.1 (u.drop k.1) = sumsL 0 u ∧ St w0 (OwnU k.2.2.2.1 k.2.2.2.2 k.2.2.1 :: l) w) (fun k => u.length - k.1) (0, 0, [], none, 0) ⟨rfl, rfl, rfl, rfl, rfl, trivial⟩ ⟨Nat.zero_le _, (by decide : (0 : Nat) < 18446744073709551616), rfl, (fun _ h => by cases h), rfl, St.ownNil _ _ h⟩ ?_
 clear h
 rintro ⟨i, was, out, a, c1⟩ w e ⟨hi, hw, hol, hout, he, h⟩
 dsimp only at hi hw hol hout he h ⊢
 refine Y1e ?_
 refine ql (qy (decide ((i : Int) < (u.length : Int))) rfl (fun hc => ?_) (fun hc => ?_))
 ·
  have hlt : i < u.length := by simp at hc; omega
  have hg := List.getElem?_eq_getElem hlt
  have hdr := List.drop_eq_getElem_cons hlt
  generalize u[i] = x at hg hdr
  have hx := hu x (List.mem_of_getElem? hg)
  rw [hdr, sumsL] at he
  have hd : summ was (zagU x) < 18446744073709551616 := Nat.mod_lt _ O4
  have hzl := zagU_lt hx
  obtain ⟨b, o, hsl⟩ := (hr.cons.at_ h).some O0
  refine Y4a ?_
  refine qz (qn (b := b) (o := o) (m := u.length) (c := c) (o' := o + i) O8 rfl rfl hlt O7) rfl ?_
  refine qz (qx (v := .int .u64 x) rfl ((hsl ▸ hr.cons.at_ h).cell (u64V_get hg))) rfl ?_
  refine Y3p ?_; refine Y0 ?_
  refine qw rfl (qj rfl (vint_Zag hx h) ?_)
  rintro _ w ⟨rfl, h⟩
  refine Yb ?_
  refine qg (.int .u64 (zagU x : Nat)) (by rw [jt, us_sg hzl]) ?_
  refine Y1n ?_
  refine qg (.int .u64 (summ was (zagU x) : Nat)) (by rw [gr]) ?_
  refine Y6 ?_
  generalize summ was (zagU x) = y at he hd ⊢
  refine Y29 ?_
  refine qw rfl (q5 (r := u64V [y]) h rfl rfl rfl fun b2 w h => ?_)
  refine qw rfl (qa (ys := u64V [y]) (zs := u64V (out ++ [y])) (m3 := (out ++ [y]).length) (h.f 1) rfl rfl ⟨rfl, .inr ⟨b2, 0, rfl, qp (h.b 0 rfl) rfl⟩⟩ (u64V_one _) O7 O26 O1 O1 rfl fun a2 c2 w _ h => ?_)
  refine Ym ?_; refine Yw ?_
  refine qg (.int .i64 ((i + 1 : Nat) : Int)) O5 ?_
  refine Y0 ?_
  refine qq ⟨(i + 1, y, out ++ [y], a2, c2), ⟨rfl, rfl, rfl, rfl, rfl, trivial⟩, ⟨hlt, hd, by simp; omega, fun z hz => ?_, by rw [← he]; simp, (h.f 1).drop⟩, by dsimp only; omega⟩
  rcases List.mem_append.1 hz with hz | hz
  ·exact hout z hz
  ·simp at hz; subst hz; exact hd
 have hin : i = u.length := by simp at hc; omega
 rw [hin, List.drop_length, sumsL, List.append_nil] at he
 refine qd ?_
 refine Y4d ?_
 rw [← he]
 exact qv (bq1 ⟨a, c1, rfl, hout, h⟩)
theorem suit_words {sl : Option Addr} {c : Nat} {bs : List UInt8} (hn : bs.length ≤ 140737488355328) (hr : Reads w0 l 1 sl bs.length (bytesV bs)) (h : St w0 l w) :
  Ret Tryz.prog 227 [.slice sl bs.length c] w fun v w' => ∃ a c', v = .tuple [.slice a (wordsL bs).length c', .bool (decide (bs.length % 8 = 0))].toArray ∧ (∀ x ∈ wordsL bs, x < 18446744073709551616) ∧ (wordsL bs).length ≤ bs.length ∧ St w0 (OwnU a c' (wordsL bs) :: l) w' := by
 refine enter Tryz.func227 rfl Tryz.results227 Tryz.ntmps227 rfl ?_
 refine Y18 ?_; refine Yn ?_; refine Y34 ?_
 refine qc (Γ := Nat × List Nat × Option Addr × Nat) (fun k => [(0, .slice sl bs.length c), (4, .slice k.2.2.1 k.2.1.length k.2.2.2), (7, .slice sl bs.length c), (8, .int .i64 bs.length), (9, .int .i64 k.1)])
  (fun k w => k.1 ≤ bs.length ∧ 8 * k.2.1.length ≤ k.1 + 7 ∧ (∀ x ∈ k.2.1, x < 18446744073709551616) ∧ ((k.1 = 0 ∧ k.2.1 = []) ∨ ∃ done x j, k.2.1 = done ++ [x] ∧ 1 ≤ j ∧ j ≤ 8 ∧ k.1 % 8 = j % 8 ∧ done ++ wordsA x j (bs.drop k.1) = wordsL bs) ∧ St w0 (OwnU k.2.2.1 k.2.2.2 k.2.1 :: l) w)
  (fun k => bs.length - k.1) (0, [], none, 0) ⟨rfl, rfl, rfl, rfl, rfl, trivial⟩ ⟨Nat.zero_le _, Nat.zero_le _, (fun _ h => by cases h), .inl ⟨rfl, rfl⟩, St.ownNil _ _ h⟩ ?_
 clear h
 rintro ⟨i, out, a, c1⟩ w e ⟨hi, hol, hout, inv, h⟩
 dsimp only at hi hol hout inv h ⊢
 refine Y1e ?_
 refine ql (qy (decide ((i : Int) < (bs.length : Int))) rfl (fun hc => ?_) (fun hc => ?_))
 ·
  have hlt : i < bs.length := by simp at hc; omega
  have hg := List.getElem?_eq_getElem hlt
  have hdr := List.drop_eq_getElem_cons hlt
  generalize bs[i] = x at hg hdr
  have hx := x.toNat_lt
  obtain ⟨b, o, hsl⟩ := (hr.cons.at_ h).some O0
  refine Yy ?_; refine Y4 ?_
  refine qz (qn (b := b) (o := o) (m := bs.length) (c := c) (o' := o + i) O8 rfl rfl hlt O7) rfl ?_
  refine qz (qx (v := .int .u8 x.toNat) rfl ((hsl ▸ hr.cons.at_ h).cell (bytesV_get hg))) rfl ?_
  refine Y22 ?_
  refine qo (Γ := List Nat × Nat × Option Addr × Nat) (fun k => [(0, .slice sl bs.length c), (4, .slice k.2.2.1 (k.1 ++ [k.2.1]).length k.2.2.2), (6, .int .u8 x.toNat), (7, .slice sl bs.length c), (8, .int .i64 bs.length), (9, .int .i64 i)])
   (fun k w => 8 * k.1.length ≤ i ∧ (∀ y ∈ k.1, y < 18446744073709551616) ∧ (∃ j, 1 ≤ j ∧ j ≤ 8 ∧ (i + 1) % 8 = j % 8 ∧ k.1 ++ wordsA ((k.2.1 * 256 + x.toNat) % 18446744073709551616) j (bs.drop (i + 1)) = wordsL bs) ∧ St w0 (OwnU k.2.2.1 k.2.2.2 (k.1 ++ [k.2.1]) :: l) w) ?_ ?_
  ·refine Y4 ?_
   refine qz (qh (v' := .int .i64 ((i % 8 : Nat) : Int)) (q_rem rfl rfl O4) (congrArg (Value.int .i64) (gz i 8))) rfl ?_
   refine Yd ?_
   by_cases h8 : i % 8 = 0
   ·refine qg (.bool true) (by rw [h8]; rfl) ?_
    refine Yk ?_; refine Y45 ?_
    refine qw rfl (q5 (r := u64V [0]) h rfl rfl rfl fun b2 w h => ?_)
    refine qw rfl (qa (ys := u64V [0]) (zs := u64V (out ++ [0])) (m3 := (out ++ [0]).length) (h.f 1) rfl rfl ⟨rfl, .inr ⟨b2, 0, rfl, qp (h.b 0 rfl) rfl⟩⟩ (u64V_one _) O7 O26 O1 O1 rfl fun a2 c2 w _ h => ?_)
    refine Yx ?_
    refine qq ⟨(out, 0, a2, c2), ⟨rfl, rfl, rfl, rfl, rfl, rfl, trivial⟩, by dsimp only; omega, hout, ⟨1, by decide, by decide, by omega, ?_⟩, (h.f 1).drop⟩
    dsimp only
    rw [show (0 * 256 + x.toNat) % 18446744073709551616 = x.toNat by omega]
    rcases inv with ⟨h0, hnil⟩ | ⟨done, y, j, ho, h1j, hj8, hij, he⟩
    ·subst h0
     rw [hnil]
     rw [List.drop_zero] at hdr
     conv => rhs; rw [hdr]
     rfl
    ·have : j = 8 := by omega
     subst this
     rw [hdr, wordsA, if_pos rfl] at he
     rw [← he, ho]
     simp
   ·refine qg (.bool false) O3 ?_
    refine Y11 ?_
    rcases inv with ⟨h0, hnil⟩ | ⟨done, y, j, ho, h1j, hj8, hij, he⟩
    ·omega
    ·subst ho
     rw [hdr, wordsA, if_neg O0] at he
     rw [List.length_append, List.length_singleton] at hol
     exact qr ⟨(done, y, a, c1), ⟨rfl, rfl, rfl, rfl, rfl, rfl, trivial⟩, by dsimp only; omega, fun z hz => hout z (List.mem_append_left _ hz), ⟨j + 1, by omega, by omega, by omega, he⟩, h⟩
  clear h inv hout hol
  rintro ⟨done, y, a, c1⟩ w e ⟨hol, hout, ⟨j, h1j, hj8, hij, he⟩, h⟩
  dsimp only at hol hout he h ⊢
  obtain ⟨bl, hal⟩ := h.own_some O7
  subst hal
  have hll : (done ++ [y]).length = done.length + 1 := by simp
  have hlast : (done ++ [y])[done.length]? = some y := by simp
  have hnl : (y * 256 + x.toNat) % 18446744073709551616 < 18446744073709551616 := Nat.mod_lt _ O4
  refine Y45 ?_; refine Y1r ?_; refine Y1p ?_
  refine qg (.int .i64 (done.length : Int)) (by rw [hll, wrap64 O0 O0]; congr 1; omega) ?_
  refine Yp ?_; refine Y1r ?_; refine Y1p ?_
  refine qg (.int .i64 (done.length : Int)) (by rw [hll, wrap64 O0 O0]; congr 1; omega) ?_
  refine qz (qn (b := bl) (o := 0) (m := (done ++ [y]).length) (c := c1) (o' := done.length) rfl rfl (j := done.length) rfl O0 O7) rfl ?_
  refine qz (qx (v := .int .u64 y) rfl (by have := (h.own_rd).cell (u64V_get hlast); simpa using this)) rfl ?_
  refine qz (qh (v' := .int .u64 ((y * 2 ^ 8 % 18446744073709551616 : Nat) : Int)) (gk rfl rfl O0) (congrArg (Value.int .u64) (ji y 8 O4))) rfl ?_
  refine Y2k ?_
  refine qg (.int .u64 (x.toNat : Int)) (congrArg (Value.int .u64) (gu O0)) ?_
  refine Y50 ?_
  refine qg (.int .u64 (((y * 256 + x.toNat) % 18446744073709551616 : Nat) : Int)) (congrArg (Value.int .u64) (((jv (Nat.mod_lt _ O4) O0).2.1).trans (by rw [shl8_or O0]))) ?_
  generalize (y * 256 + x.toNat) % 18446744073709551616 = z at he hnl ⊢
  refine qz (qn (b := bl) (o := 0) (m := (done ++ [y]).length) (c := c1) (o' := done.length) rfl rfl (j := done.length) rfl O0 O7) rfl ?_
  refine qw rfl (jn (v := .int .u64 (z : Int)) h rfl rfl O7 rfl fun w h => ?_)
  rw [u64V_setlast] at h
  refine Y48 ?_
  refine qg (.int .i64 ((i + 1 : Nat) : Int)) O5 ?_
  refine Y0 ?_
  refine qq ⟨(i + 1, done ++ [z], some ⟨bl, 0, none⟩, c1), ⟨rfl, ?_, rfl, rfl, rfl, trivial⟩, ⟨hlt, by simp; omega, fun t ht => ?_, .inr ⟨done, z, j, rfl, h1j, hj8, hij, he⟩, ?_⟩, by dsimp only; omega⟩
  ·show Value.slice _ _ _ = Value.slice _ _ _
   rw [hll]; simp
  ·rcases List.mem_append.1 ht with ht | ht
   ·exact hout t ht
   ·simp at ht; subst ht; exact hnl
  ·have : (done ++ [z]).length = (done ++ [y]).length := by simp
   show St w0 (Own _ 1 _ (done ++ [z]).length _ _ :: l) w
   rw [this]; exact h
 have hin : i = bs.length := by simp at hc; omega
 have he : out = wordsL bs := by
  rcases inv with ⟨h0, hnil⟩ | ⟨done, y, j, ho, h1j, hj8, hij, he⟩
  ·have : bs = [] := List.eq_nil_of_length_eq_zero O0
   rw [hnil, this]; rfl
  ·rw [hin, List.drop_length, wordsA, if_neg O0] at he
   rw [ho, he]
 subst he
 refine qd ?_
 refine Y5 ?_; refine Y1r ?_
 refine qz (qh (v' := .int .i64 ((bs.length % 8 : Nat) : Int)) (q_rem rfl rfl O4) (congrArg (Value.int .i64) (gz bs.length 8))) rfl ?_
 refine Yd ?_
 refine qg (.bool (decide (bs.length % 8 = 0))) (by congr 1; rw [Bool.eq_iff_iff]; simp; omega) ?_
 refine Yv ?_
 exact qv (bq2 ⟨a, c1, rfl, hout, by omega, h⟩)
end
end Go.Proofs.YtnnehiiblfmpnaaGreatDoor
/- simp: reading small numbers. -/
namespace Go.Proofs.YtnnehiiblfmpnaaGreatDoor
open Go.Hw
set_option maxHeartbeats 4000000
set_option maxRecDepth 100000
section
variable {w0 w : World} {l : List HProp}
theorem simp_Decode {sl : Option Addr} {c : Nat} {ws : List Nat} {n : Nat} (hws : ∀ x ∈ ws, x < 18446744073709551616) (hwn : ws.length ≤ 140737488355328) (hn : n ≤ 65535) (hr : Reads w0 l 1 sl ws.length (u64V ws)) (h : St w0 l w) :
  Ret Tryz.prog 228 [.slice sl ws.length c, .int .i64 (n : Int)] w fun v w' => ∃ a c' xs b, v = .tuple [.slice a xs.length c', .bool b].toArray ∧ simpDec ws n = (if b = true then some xs else none) ∧ (b = true → xs.length = n ∧ ∀ x ∈ xs, x < 18446744073709551616) ∧ (b = false → xs = []) ∧ St w0 (OwnU a c' xs :: l) w' := by
 have bad : ∀ {w : World}, simpDec ws n = none → St w0 l w → ∃ a c xs b, Value.tuple [.slice none 0 0, .bool false].toArray = .tuple [.slice a xs.length c, .bool b].toArray ∧ simpDec ws n = (if b = true then some xs else none) ∧ (b = true → xs.length = n ∧ ∀ x ∈ xs, x < 18446744073709551616) ∧ (b = false → xs = []) ∧ St w0 (OwnU a c xs :: l) w := fun hb h => ⟨none, 0, [], false, rfl, hb, (fun h => by cases h), fun _ => rfl, St.ownNil _ _ h⟩
 have hdef : simpDec ws n = _ := rfl
 conv at hdef => rhs; unfold simpDec
 refine enter Tryz.func228 rfl Tryz.results228 Tryz.ntmps228 rfl ?_
 refine Y39 ?_; refine Y3g ?_
 refine qg (.int .i64 (n : Int)) O20 ?_
 refine Y6 ?_; refine Y1 ?_
 refine qw rfl (qj rfl (simp_kinds h) ?_)
 rintro _ w ⟨kb, rfl, h⟩
 refine Ym ?_; refine Yn ?_; refine Y34 ?_
 refine qc (Γ := Nat × List Nat × Option Addr × Nat) (fun k => [(0, .slice sl ws.length c), (1, .int .i64 n), (6, .slice (some ⟨kb, 0, none⟩) 16 16), (7, .slice k.2.2.1 k.2.1.length k.2.2.2), (18, .slice sl ws.length c), (19, .int .i64 ws.length), (20, .int .i64 k.1)])
  (fun k w => k.1 ≤ ws.length ∧ k.2.1.length ≤ n ∧ (∀ x ∈ k.2.1, x < 18446744073709551616) ∧ simpDecA ws n = (simpDecA (ws.drop k.1) (n - k.2.1.length)).map (fun r => k.2.1 ++ r) ∧ St w0 (KindsPt kb :: OwnU k.2.2.1 k.2.2.2 k.2.1 :: l) w)
  (fun k => ws.length - k.1) (0, [], none, 0) ⟨rfl, rfl, rfl, rfl, rfl, rfl, rfl, trivial⟩ ⟨Nat.zero_le _, Nat.zero_le _, (fun _ h => by cases h), O7, (St.ownNil 30 1 h).f 1⟩ ?_
 clear h
 rintro ⟨i, out, oa, oc⟩ w e ⟨hi, hol, hout, inv, h⟩
 dsimp only at hi hol hout inv h ⊢
 refine Y1e ?_
 refine ql (qy (decide ((i : Int) < (ws.length : Int))) rfl (fun hc => ?_) (fun hc => ?_))
 ·
  have hlt : i < ws.length := by simp at hc; omega
  have hg := List.getElem?_eq_getElem hlt
  have hdr := List.drop_eq_getElem_cons hlt
  generalize ws[i] = x at hg hdr
  have hx := hws x (List.mem_of_getElem? hg)
  rw [hdr, simpDecA] at inv
  have hkx : x / 1152921504606846976 < 16 := by omega
  have hgk := List.getElem?_eq_getElem (show x / 1152921504606846976 < kindsL.length from hkx)
  have hgd : kindsL.getD (x / 1152921504606846976) (0, 0) = kindsL[x / 1152921504606846976]'hkx := by rw [List.getD_eq_getElem?_getD, hgk]; rfl
  rw [hgd] at inv
  generalize kindsL[x / 1152921504606846976]'hkx = kd at hgk inv
  obtain ⟨_, k1, k2, k3⟩ := kindsL_ok _ kd hgk
  have hk2 : kd.2 ≤ 60 := Nat.le_trans (Nat.le_mul_of_pos_right _ k1) k3
  obtain ⟨b, o, hsl⟩ := ((hr.more [_, _]).at_ h).some O0
  refine Y4a ?_
  refine qz (qn (b := b) (o := o) (m := ws.length) (c := c) (o' := o + i) O8 rfl rfl hlt O7) rfl ?_
  refine qz (qx (v := .int .u64 x) rfl ((hsl ▸ (hr.more [_, _]).at_ h).cell (u64V_get hg))) rfl ?_
  refine Y6 ?_; refine Y1w ?_; refine Y0 ?_; refine Y1v ?_
  by_cases hfull : n ≤ out.length
  ·refine qg (.bool true) O1 ?_
   refine Y2t ?_
   rw [if_pos O0] at inv
   exact qv (bq2 (bad (by rw [hdef, inv]; rfl) h.drop.drop))
  refine qg (.bool false) O1 ?_
  refine Y9 ?_
  rw [if_neg O0, Option.map_map] at inv
  refine Yo ?_
  refine qz (qh (v' := .int .u64 ((x / 2 ^ 60 : Nat) : Int)) (ju rfl rfl O0) (congrArg (Value.int .u64) (q9 x 60 64 O4))) rfl ?_
  rw [show x / 2 ^ 60 = x / 1152921504606846976 from rfl]
  refine qz (qn (b := kb) (o := 0) (m := 16) (c := 16) (o' := x / 1152921504606846976 * 2) rfl rfl rfl hkx O7) rfl ?_
  refine qz (qf (l := kindC kd) rfl rfl (fun j v hj => cell_of (h.b 0 rfl) (flat_get kindC_len kindsL _ kd hgk j v hj))) rfl ?_
  refine qw rfl (q7 h fun b10 w h => ?_)
  refine qw rfl (qb (vs := kindC kd) 0 h rfl rfl rfl rfl rfl rfl rfl fun w h => ?_)
  replace h : St w0 (pt b10 (.cells (kindC kd).toArray 347 (0, 0)) :: KindsPt kb :: OwnU oa oc out :: l) w := h
  refine Y3 ?_; refine Y4 ?_; refine Y33 ?_
  refine qg (.int .u64 ((x % 1152921504606846976 : Nat) : Int)) (congrArg (Value.int .u64) (((jv hx (by decide : (1152921504606846975 : Nat) < _)).1).trans (by rw [and_word]))) ?_
  refine Y6 ?_
  have hxm : x % 1152921504606846976 < 1152921504606846976 := Nat.mod_lt _ O4
  generalize x % 1152921504606846976 = y at inv hxm ⊢
  generalize hmm : min kd.1 (n - out.length) = m at inv
  have hm1 : m ≤ kd.1 := by omega
  have hm2 : m ≤ n - out.length := by omega
  refine Y17 ?_
  refine qc (Γ := Nat × Option Addr × Nat) (fun k => [(0, .slice sl ws.length c), (1, .int .i64 n), (6, .slice (some ⟨kb, 0, none⟩) 16 16), (7, .slice k.2.1 (out ++ unpackW y kd.2 k.1).length k.2.2), (9, .int .u64 y), (10, .pointer (some ⟨b10, 0, none⟩)), (11, .int .i64 k.1), (18, .slice sl ws.length c), (19, .int .i64 ws.length), (20, .int .i64 i)])
   (fun k w => k.1 ≤ m ∧ St w0 (pt b10 (.cells (kindC kd).toArray 347 (0, 0)) :: OwnU k.2.1 k.2.2 (out ++ unpackW y kd.2 k.1) :: KindsPt kb :: l) w)
   (fun k => m - k.1) (0, oa, oc) ⟨rfl, rfl, rfl, (by show Value.slice _ _ _ = Value.slice _ _ _; simp [unpackW]), rfl, rfl, rfl, rfl, rfl, rfl, trivial⟩ ⟨Nat.zero_le _, by simp only [unpackW, List.range_zero, List.map_nil, List.append_nil]; exact (h.f 2).f 1⟩ ?_
  clear h
  rintro ⟨j, oa, oc⟩ w e ⟨hj, h⟩
  dsimp only at hj h ⊢
  have hul : (out ++ unpackW y kd.2 j).length = out.length + j := by rw [List.length_append, unpackW_len]
  refine qo (Γ := Unit) (fun _ => [(0, .slice sl ws.length c), (1, .int .i64 n), (6, .slice (some ⟨kb, 0, none⟩) 16 16), (7, .slice oa (out ++ unpackW y kd.2 j).length oc), (9, .int .u64 y), (10, .pointer (some ⟨b10, 0, none⟩)), (11, .int .i64 j), (18, .slice sl ws.length c), (19, .int .i64 ws.length), (20, .int .i64 i)])
   (fun _ w => j < m ∧ St w0 (pt b10 (.cells (kindC kd).toArray 347 (0, 0)) :: OwnU oa oc (out ++ unpackW y kd.2 j) :: KindsPt kb :: l) w) ?_ ?_
  ·refine Y4 ?_; refine Y1h ?_
   refine qz (qk (v := .int .i64 kd.1) rfl (h.b 0 rfl) rfl) rfl ?_
   by_cases hjk : j < kd.1
   ·refine qz (qh (v' := .bool true) (gt rfl rfl) (by congr 1; simpa using hjk)) rfl ?_
    refine Y36 ?_; refine Y1k ?_
    by_cases hjn : out.length + j < n
    ·refine qz (qh (v' := .bool true) (gt rfl rfl) (by rw [hul]; congr 1; simp; omega)) rfl ?_
     refine Yi ?_; refine Yk ?_
     exact qr ⟨(), ⟨rfl, rfl, rfl, rfl, rfl, rfl, rfl, rfl, rfl, rfl, trivial⟩, by omega, h⟩
    ·refine qz (qh (v' := .bool false) (gt rfl rfl) (by rw [hul]; congr 1; simp; omega)) rfl ?_
     refine Yi ?_; refine Y11 ?_
     have hjm : j = m := by omega
     refine qd ?_
     refine Yw ?_
     refine qg (.int .i64 ((i + 1 : Nat) : Int)) O5 ?_
     refine Y0 ?_
     refine qq ⟨(i + 1, out ++ unpackW y kd.2 j, oa, oc), ⟨rfl, rfl, rfl, rfl, rfl, rfl, rfl, trivial⟩, ⟨hlt, by rw [hul]; omega, fun z hz => ?_, ?_, (h.drop.f 1)⟩, by dsimp only; omega⟩
     ·rcases List.mem_append.1 hz with hz | hz
      ·exact hout z hz
      ·obtain ⟨q, _, rfl⟩ := List.mem_map.1 hz
       exact Nat.lt_trans (Nat.mod_lt _ (Nat.two_pow_pos _)) (pow_le_64 hk2)
     ·rw [inv, hul, hjm, Nat.sub_sub]
      congr 1
      funext r
      simp
   ·refine qz (qh (v' := .bool false) (gt rfl rfl) (by congr 1; simpa using hjk)) rfl ?_
    refine Y41 ?_; refine Y11 ?_
    have hjm : j = m := by omega
    refine qd ?_
    refine Yw ?_
    refine qg (.int .i64 ((i + 1 : Nat) : Int)) O5 ?_
    refine Y0 ?_
    refine qq ⟨(i + 1, out ++ unpackW y kd.2 j, oa, oc), ⟨rfl, rfl, rfl, rfl, rfl, rfl, rfl, trivial⟩, ⟨hlt, by rw [hul]; omega, fun z hz => ?_, ?_, (h.drop.f 1)⟩, by dsimp only; omega⟩
    ·rcases List.mem_append.1 hz with hz | hz
     ·exact hout z hz
     ·obtain ⟨q, _, rfl⟩ := List.mem_map.1 hz
      exact Nat.lt_trans (Nat.mod_lt _ (Nat.two_pow_pos _)) (pow_le_64 hk2)
    ·rw [inv, hul, hjm, Nat.sub_sub]
     congr 1
     funext r
     simp
  clear h
  rintro _ w e ⟨hjm, h⟩
  have hjb : j * kd.2 ≤ 60 := by
   have h1 : j * kd.2 ≤ kd.1 * kd.2 := Nat.mul_le_mul_right _ O0
   rw [Nat.mul_comm kd.1] at h1
   omega
  have hp := pow_le_64 hk2
  have hp0 := Nat.two_pow_pos kd.2
  have hstep := unpackW_succ y kd.2 j
  have hul1 : (out ++ unpackW y kd.2 (j + 1)).length = out.length + (j + 1) := by rw [List.length_append, unpackW_len]
  have hyd : y / 2 ^ (j * kd.2) < 18446744073709551616 := Nat.lt_of_le_of_lt (Nat.div_le_self _ _) O0
  refine qo (Γ := Option Addr × Nat) (fun q => [(0, .slice sl ws.length c), (1, .int .i64 n), (6, .slice (some ⟨kb, 0, none⟩) 16 16), (7, .slice q.1 (out ++ unpackW y kd.2 (j + 1)).length q.2), (9, .int .u64 y), (10, .pointer (some ⟨b10, 0, none⟩)), (11, .int .i64 j), (18, .slice sl ws.length c), (19, .int .i64 ws.length), (20, .int .i64 i)])
   (fun q w => St w0 (pt b10 (.cells (kindC kd).toArray 347 (0, 0)) :: OwnU q.1 q.2 (out ++ unpackW y kd.2 (j + 1)) :: KindsPt kb :: l) w) ?_ ?_
  ·refine Ya ?_
   refine j7 [0, 1, 2, 3, 4, 5, 6, 7, 8, 9, 10, 11, 12, 13, 14] none (fun w => w.heap[b10]? = some (.cells (kindC kd).toArray 347 (0, 0))) O2 O2 ?_
   replace h := h.drew
   generalize w.drew = w at h
   have hs := h
   replace h := hs.b 0 rfl
   refine Yq ?_; refine Yj ?_; refine Y1c ?_
   refine qu rfl rfl rfl rfl h (fun w h => qm rfl (qk (v := .int .i64 kd.2) rfl h rfl)) ?_
   refine cpv rfl rfl rfl rfl h rfl (qh (v' := .int .i64 ((j * kd.2 : Nat) : Int)) (q_mul rfl rfl) O34) ?_
   refine cpv rfl rfl rfl rfl h rfl (qh (v' := .int .u64 ((y / 2 ^ (j * kd.2) : Nat) : Int)) (ju rfl rfl O0) (congrArg (Value.int .u64) (q9 y (j * kd.2) 64 O0))) ?_
   refine Y1c ?_
   refine qu rfl rfl rfl rfl h (fun w h => qm rfl (qk (v := .int .i64 kd.2) rfl h rfl)) ?_
   refine cpv rfl rfl rfl rfl h rfl (qh (v' := .int .u64 ((2 ^ kd.2 : Nat) : Int)) (gk rfl rfl O0) (congrArg (Value.int .u64) ((ji 1 kd.2 O0).trans (by rw [Nat.one_mul, Nat.mod_eq_of_lt hp])))) ?_
   refine cpv rfl rfl rfl rfl h rfl (qh (v' := .int .u64 ((2 ^ kd.2 - 1 : Nat) : Int)) (jm rfl rfl) (by rw [show (((2 ^ kd.2 : Nat) : Int) - 1) = ((2 ^ kd.2 - 1 : Nat) : Int) by omega, g9, Nat.mod_eq_of_lt O0])) ?_
   refine cpv rfl rfl rfl rfl h rfl (qh (v' := .int .u64 ((y / 2 ^ (j * kd.2) % 2 ^ kd.2 : Nat) : Int)) (q_and rfl rfl) (congrArg (Value.int .u64) (((jv hyd O0).1).trans (by rw [Nat.and_two_pow_sub_one_eq_mod])))) ?_
   generalize y / 2 ^ (j * kd.2) % 2 ^ kd.2 = z at hstep
   refine Y1m ?_
   refine qt 12 rfl rfl rfl rfl ?_
   refine (q5 (r := u64V [z]) hs rfl rfl rfl fun b2 w hs => ?_)
   replace h := hs.b 1 rfl
   refine ⟨fun _ => h, ?_⟩
   refine Yz ?_
   refine qt 13 rfl rfl rfl rfl ?_
   refine (qa (ys := u64V [z]) (zs := u64V (out ++ unpackW y kd.2 (j + 1))) (m3 := (out ++ unpackW y kd.2 (j + 1)).length) (hs.f 2) rfl rfl ⟨rfl, .inr ⟨b2, 0, rfl, qp (hs.b 0 rfl) rfl⟩⟩ (u64V_one _) O21 (by rw [hstep]; simp [u64V]) (by rw [hul1]; omega) (by rw [hul1]; omega) rfl fun a2 c2 w _ hs => ?_)
   replace h := hs.b 2 rfl
   refine ⟨fun _ => h, ?_⟩
   refine Y1t ?_
   exact qi ⟨(a2, c2), ⟨rfl, rfl, rfl, rfl, rfl, rfl, rfl, rfl, rfl, rfl, trivial⟩, ((hs.f 1).drop.f 1)⟩
  clear h
  rintro ⟨oa, oc⟩ w e h
  dsimp only at h ⊢
  refine Y1b ?_
  refine qg (.int .i64 ((j + 1 : Nat) : Int)) O5 ?_
  refine Y2 ?_
  exact qq ⟨(j + 1, oa, oc), ⟨rfl, rfl, rfl, rfl, rfl, rfl, rfl, rfl, rfl, rfl, trivial⟩, ⟨hjm, h⟩, by dsimp only; omega⟩
 have hin : i = ws.length := by simp at hc; omega
 rw [hin, List.drop_length, simpDecA, Option.map_some, List.append_nil] at inv
 rw [inv] at hdef
 dsimp only at hdef
 refine qd ?_
 refine Y1w ?_; refine Y0 ?_; refine Y2y ?_
 by_cases hon : out.length = n
 ·refine qg (.bool false) (by rw [hon]; simp) ?_
  refine Y9 ?_; refine Y5 ?_
  replace h := h.f 1
  refine qw rfl (qj rfl (simp_Encode hout O0 h.own_cases.2.1 Reads.own h) ?_)
  rintro _ w ⟨ea, ec, rfl, h⟩
  refine Y14 ?_
  refine qo (Γ := Unit) (fun _ => [(7, .slice oa out.length oc)]) (fun _ w => simpEnc out = some ws ∧ St w0 (OwnU oa oc out :: l) w) ?_ ?_
  ·refine Y1 ?_
   cases hE : simpEnc out with
   | none =>
    refine Y1l ?_; refine Y2g ?_; refine Y2t ?_
    exact qv (bq2 (bad (by rw [hdef, if_neg]; rintro ⟨_, hh⟩; rw [hE] at hh; cases hh) h.drop.drop.drop))
   | some d =>
    rw [hE] at h
    refine Y1l ?_; refine Y2f ?_; refine Y3v ?_
    refine qw rfl (qj rfl (slices_Equal (u1 := d) (u2 := ws) (by have := h.own_cases.2.1; have := (simpEnc_len (u := out)).1; rw [hE] at this; exact Nat.le_trans this O0) h Reads.own (hr.more [_, _, _])) ?_)
    rintro _ w ⟨rfl, h⟩
    refine Y3e ?_; refine Y8 ?_
    refine qq (qy (!decide (d = ws)) rfl (fun hc1 => ?_) (fun hc1 => ?_))
    ·refine Y18 ?_
     exact qv (bq2 (bad (by rw [hdef, if_neg]; rintro ⟨_, hh⟩; rw [hE] at hh; cases hh; simp at hc1) h.drop.drop.drop))
    ·exact qr ⟨(), ⟨rfl, trivial⟩, by simpa using hc1, (h.drop.f 1).drop⟩
  clear h
  rintro _ w e ⟨hE, h⟩
  refine Y4c ?_
  exact qv (bq2 ⟨oa, oc, out, true, rfl, by rw [hdef, if_pos ⟨hon, hE⟩]; rfl, fun _ => ⟨hon, hout⟩, (fun h => by cases h), h⟩)
 ·refine qg (.bool true) O18 ?_
  refine Y2t ?_
  exact qv (bq2 (bad (by rw [hdef, if_neg]; rintro ⟨hh, _⟩; exact hon hh) h.drop.drop))
end
end Go.Proofs.YtnnehiiblfmpnaaGreatDoor
/- runl, forp: reading runs and frames. -/
namespace Go.Hw
set_option maxRecDepth 100000
theorem runsDecA_step {f : Nat} {b : List UInt8} {room : Nat} {last : Option Nat} (hb : b ≠ []) : runsDecA (f + 1) b room last =
  if (vget b).2 = 0 ∨ (vget (b.drop (vget b).2)).2 = 0 ∨ (vget b).1 = 0 ∨ room < (vget b).1 ∨ last = some (vget (b.drop (vget b).2)).1 then none
  else (runsDecA f (b.drop ((vget b).2 + (vget (b.drop (vget b).2)).2)) (room - (vget b).1) (some (vget (b.drop (vget b).2)).1)).map fun r => List.replicate (vget b).1 (vget (b.drop (vget b).2)).1 ++ r := by
 cases b with
 | nil => exact absurd rfl hb
 | cons c b => rw [runsDecA]
theorem bytesV_drop (bs : List UInt8) (k : Nat) : bytesV (bs.drop k) = (bytesV bs).drop (k * 1) := by
 unfold bytesV
 rw [List.map_drop, Nat.mul_one]
theorem Reads.tailB {w0 : World} {l : List HProp} {a : Option Addr} {c : Nat} {bs : List UInt8} (h : Reads w0 l 1 a bs.length (bytesV bs)) {i : Nat} (hi : i ≤ bs.length) (hc : bs.length ≤ c) : Reads w0 l 1 (adv a (i * 1) (Nat.beq c i)) (bs.drop i).length (bytesV (bs.drop i)) := by
 have := h.tail hi hc
 rw [List.length_drop, bytesV_drop]
 exact this
theorem getLast?_rep (out : List Nat) {k x : Nat} (h : 0 < k) : (out ++ List.replicate k x).getLast? = some x := by
 rw [List.getLast?_append, List.getLast?_replicate, if_neg O0]
 rfl
end Go.Hw
namespace Go.Proofs.YtnnehiiblfmpnaaGreatDoor
open Go.Hw
set_option maxHeartbeats 4000000
set_option maxRecDepth 100000
abbrev Told (w0 : World) (l : List HProp) (n : Nat) (D : Option (List Nat)) (v : Value) (w' : World) : Prop := ∃ a c xs b, v = .tuple [.slice a xs.length c, .bool b].toArray ∧ D = (if b = true then some xs else none) ∧ (b = true → xs.length = n ∧ ∀ x ∈ xs, x < 18446744073709551616) ∧ St w0 (OwnU a c xs :: l) w'
section
variable {w0 w : World} {l : List HProp}
theorem Told.no {n : Nat} {D : Option (List Nat)} (hb : D = none) (h : St w0 l w) : Told w0 l n D (.tuple [.slice none 0 0, .bool false].toArray) w := ⟨none, 0, [], false, rfl, hb, (fun h => by cases h), St.ownNil _ _ h⟩
theorem runl_Decode {sl : Option Addr} {c : Nat} {bs : List UInt8} {n : Nat} (hn : n ≤ 65535) (hbn : bs.length ≤ 140737488355328) (hc : bs.length ≤ c) (hr : Reads w0 l 1 sl bs.length (bytesV bs)) (h : St w0 l w) :
  Ret Tryz.prog 230 [.slice sl bs.length c, .int .i64 (n : Int)] w fun v w' => Told w0 l n (runsDec bs n) v w' := by
 refine enter Tryz.func230 rfl Tryz.results230 Tryz.ntmps230 rfl ?_
 refine Y39 ?_; refine Y3g ?_
 refine qg (.int .i64 (n : Int)) O20 ?_
 refine Y6 ?_; refine Yn ?_; refine Y1y ?_
 refine qc (Γ := List UInt8 × Option Addr × Nat × Nat × List Nat × Option Addr × Nat) (fun k => [(0, .slice k.2.1 k.1.length k.2.2.1), (1, .int .i64 n), (6, .slice k.2.2.2.2.2.1 k.2.2.2.2.1.length k.2.2.2.2.2.2)])
  (fun k w => k.1.length ≤ bs.length ∧ k.1.length ≤ k.2.2.2.1 ∧ k.1.length ≤ k.2.2.1 ∧ k.2.2.2.2.1.length ≤ n ∧ (∀ x ∈ k.2.2.2.2.1, x < 18446744073709551616) ∧ runsDec bs n = (runsDecA k.2.2.2.1 k.1 (n - k.2.2.2.2.1.length) k.2.2.2.2.1.getLast?).map (fun r => k.2.2.2.2.1 ++ r) ∧ Reads w0 l 1 k.2.1 k.1.length (bytesV k.1) ∧ St w0 (OwnU k.2.2.2.2.2.1 k.2.2.2.2.2.2 k.2.2.2.2.1 :: l) w)
  (fun k => k.1.length) (bs, sl, c, bs.length, [], none, 0) ⟨rfl, rfl, rfl, trivial⟩ ⟨Nat.le_refl _, Nat.le_refl _, hc, Nat.zero_le _, (fun _ h => by cases h), (by simp [runsDec]), hr, St.ownNil _ _ h⟩ ?_
 clear h hr hc
 rintro ⟨b, ba, bc, f, out, oa, oc⟩ w e ⟨hbl, hbf, hc, hol, hout, inv, hr, h⟩
 dsimp only at hbl hbf hc hol hout inv hr h ⊢
 refine Y1w ?_; refine Y1q ?_; refine Y3 ?_
 refine qy (decide ((b.length : Int) > 0)) rfl (fun hcc => ?_) (fun hcc => ?_)
 ·
  have hpos : 0 < b.length := by simp at hcc; omega
  have hne : b ≠ [] := List.length_pos_iff.1 hpos
  cases f with
  | zero => omega
  | succ f =>
  rw [runsDecA_step hne] at inv
  have hk := ja b
  have hm := jp b
  refine Y3x ?_; refine Y5 ?_
  refine qw rfl (qj rfl (vint_Get h hr.cons.rd O0) ?_)
  rintro _ w ⟨rfl, h⟩
  refine Y2l ?_
  generalize (vget b).1 = many at hm inv ⊢
  generalize (vget b).2 = i at hk inv ⊢
  have hrt := hr.tailB hk hc
  have hk2 := ja (b.drop i)
  have hx := jp (b.drop i)
  refine Yo ?_
  refine qz (jh (i := i) rfl rfl hk) rfl ?_
  show Rn _ _ _ _ _ (upd _ _ (.slice (adv ba (i * 1) (Nat.beq bc i)) (b.length - i) (bc - i))) _
  rw [← List.length_drop]
  refine qw rfl (qj rfl (vint_Get h hrt.cons.rd O15) ?_)
  rintro _ w ⟨rfl, h⟩
  refine Y2l ?_
  generalize (vget (b.drop i)).1 = x at hx inv ⊢
  generalize (vget (b.drop i)).2 = k at hk2 inv ⊢
  rw [List.length_drop] at hk2
  refine qo (Γ := Unit) (fun _ => [(0, .slice ba b.length bc), (1, .int .i64 n), (6, .slice oa out.length oc), (7, .int .u64 many), (8, .int .i64 i), (9, .int .u64 x), (10, .int .i64 k)])
   (fun _ w => ¬ (i = 0 ∨ k = 0 ∨ many = 0 ∨ n - out.length < many ∨ out.getLast? = some x) ∧ St w0 (OwnU oa oc out :: l) w) ?_ ?_
  ·have bad : ∀ {w : World}, (i = 0 ∨ k = 0 ∨ many = 0 ∨ n - out.length < many ∨ out.getLast? = some x) → St w0 (OwnU oa oc out :: l) w → Told w0 l n (runsDec bs n) (.tuple [.slice none 0 0, .bool false].toArray) w := fun hb h => Told.no (by rw [inv, if_pos hb]; rfl) h.drop
   refine Y1 ?_
   by_cases g1 : i = 0
   ·refine Y0 ?_
    refine qz (qh (v' := .bool true) (jg rfl rfl) O37) rfl ?_
    refine Y4f ?_; refine Y2b ?_; refine Y2d ?_; refine Y16 ?_; refine Y32 ?_; refine Y32 ?_; refine Y2c ?_
    exact qq (qv (bq2 (bad (.inl g1) h)))
   refine Y0 ?_
   refine qz (qh (v' := .bool false) (jg rfl rfl) O3) rfl ?_
   refine Y10 ?_
   by_cases g2 : k = 0
   ·refine qz (qh (v' := .bool true) (jg rfl rfl) (by rw [g2]; rfl)) rfl ?_
    refine Y8 ?_; refine Y3d ?_; refine Y2b ?_; refine Y2d ?_; refine Y16 ?_; refine Y32 ?_; refine Y32 ?_; refine Y2c ?_
    exact qq (qv (bq2 (bad (.inr (.inl g2)) h)))
   refine qz (qh (v' := .bool false) (jg rfl rfl) O3) rfl ?_
   refine Y2r ?_
   by_cases g3 : many = 0
   ·refine qz (qh (v' := .bool true) (jg rfl rfl) (by rw [g3]; rfl)) rfl ?_
    refine Y8 ?_; refine Y2b ?_; refine Y2d ?_; refine Y16 ?_; refine Y32 ?_; refine Y32 ?_; refine Y2c ?_
    exact qq (qv (bq2 (bad (.inr (.inr (.inl g3))) h)))
   refine qz (qh (v' := .bool false) (jg rfl rfl) O3) rfl ?_
   refine Y2r ?_; refine Y1k ?_; refine Y4s ?_
   refine qz (qh (v' := .int .i64 ((n - out.length : Nat) : Int)) (jm rfl rfl) O6) rfl ?_
   refine Y7 ?_
   refine qz (qh (v' := .int .u64 ((n - out.length : Nat) : Int)) (jb rfl) (congrArg (Value.int .u64) (gu O0))) rfl ?_
   refine Y7 ?_
   by_cases g4 : n - out.length < many
   ·refine qz (qh (v' := .bool true) (gn rfl rfl) O17) rfl ?_
    refine Y8 ?_; refine Y16 ?_; refine Y32 ?_; refine Y32 ?_; refine Y2c ?_
    exact qq (qv (bq2 (bad (.inr (.inr (.inr (.inl g4)))) h)))
   refine qz (qh (v' := .bool false) (gn rfl rfl) O17) rfl ?_
   refine Y8 ?_; refine Y36 ?_
   by_cases g0 : out.length = 0
   ·have ho : out = [] := List.eq_nil_of_length_eq_zero g0
    refine qz (qh (v' := .bool false) (gn rfl rfl) (by rw [g0]; rfl)) rfl ?_
    refine Y7 ?_; refine Y2b ?_; refine Y54 ?_; refine Y7 ?_; refine Y8 ?_; refine Y8 ?_; refine Y11 ?_
    refine qr ⟨(), ⟨rfl, rfl, rfl, rfl, rfl, rfl, rfl, trivial⟩, ?_, h⟩
    rw [ho]
    simp
    rw [ho] at g4
    simp at g4
    omega
   ·refine qz (qh (v' := .bool true) (gn rfl rfl) O17) rfl ?_
    have hgl := List.getElem?_eq_getElem (show out.length - 1 < out.length by omega)
    have hlast : out.getLast? = some (out[out.length - 1]'O0) := by rw [List.getLast?_eq_getElem?, hgl]
    generalize out[out.length - 1]'O0 = z at hgl hlast
    obtain ⟨bo, hosl⟩ := h.own_some O0
    refine Y7 ?_; refine Y2f ?_; refine Y4s ?_
    refine qz (qh (v' := .int .i64 ((out.length - 1 : Nat) : Int)) (jm rfl rfl) O6) rfl ?_
    refine Y7 ?_
    refine qz (qn (b := bo) (o := 0) (m := out.length) (c := oc) (o' := out.length - 1) (by rw [← hosl]; rfl) rfl rfl O0 O7) rfl ?_
    refine Y7 ?_
    refine qz (qx (v := .int .u64 z) rfl (by have := (hosl ▸ h.own_rd).cell (u64V_get hgl); simpa using this)) rfl ?_
    refine Y7 ?_; refine Y1k ?_; refine Yd ?_; refine Y47 ?_
    refine qq (qy ((z : Int) == (x : Int)) rfl (fun hc1 => ?_) (fun hc1 => ?_))
    ·refine Y26 ?_
     exact qq (qv (bq2 (bad (.inr (.inr (.inr (.inr (by rw [hlast]; congr 1; rw [beq_iff_eq] at hc1; omega))))) h)))
    ·refine qr ⟨(), ⟨rfl, rfl, rfl, rfl, rfl, rfl, rfl, trivial⟩, ?_, h⟩
     rw [beq_eq_false_iff_ne] at hc1
     rintro (h | h | h | h | h)
     ·omega
     ·omega
     ·omega
     ·omega
     ·rw [hlast] at h; cases h; exact hc1 rfl
  clear h
  rintro _ w e ⟨hcond, h⟩
  rw [if_neg hcond] at inv
  have hmn : many ≤ n - out.length := by omega
  have hik : i + k ≤ b.length := by omega
  refine qo (Γ := Option Addr × Nat) (fun q => [(0, .slice ba b.length bc), (1, .int .i64 n), (6, .slice q.1 (out ++ List.replicate many x).length q.2), (8, .int .i64 i), (10, .int .i64 k)])
   (fun q w => St w0 (OwnU q.1 q.2 (out ++ List.replicate many x) :: l) w) ?_ ?_
  ·refine Y4 ?_; refine Y3f ?_
   refine qc (Γ := Nat × Option Addr × Nat) (fun q => [(0, .slice ba b.length bc), (1, .int .i64 n), (6, .slice q.2.1 (out ++ List.replicate q.1 x).length q.2.2), (8, .int .i64 i), (9, .int .u64 x), (10, .int .i64 k), (63, .int .u64 many), (64, .int .u64 q.1)])
    (fun q w => q.1 ≤ many ∧ St w0 (OwnU q.2.1 q.2.2 (out ++ List.replicate q.1 x) :: l) w) (fun q => many - q.1) (0, oa, oc) ⟨rfl, rfl, (by show Value.slice _ _ _ = Value.slice _ _ _; simp), rfl, rfl, rfl, rfl, rfl, trivial⟩ ⟨Nat.zero_le _, by simpa using h⟩ ?_
   clear h
   rintro ⟨j, oa, oc⟩ w e ⟨hj, h⟩
   dsimp only at hj h ⊢
   refine Y1e ?_
   refine ql (qy (decide ((j : Int) < (many : Int))) rfl (fun hc1 => ?_) (fun hc1 => ?_))
   ·
    have hlt : j < many := by simp at hc1; omega
    have hstep : out ++ List.replicate (j + 1) x = out ++ List.replicate j x ++ [x] := by rw [List.replicate_succ', List.append_assoc]
    refine Yh ?_
    refine qo (Γ := Option Addr × Nat) (fun q => [(0, .slice ba b.length bc), (1, .int .i64 n), (6, .slice q.1 (out ++ List.replicate (j + 1) x).length q.2), (8, .int .i64 i), (9, .int .u64 x), (10, .int .i64 k), (63, .int .u64 many), (64, .int .u64 j)]) (fun q w => St w0 (OwnU q.1 q.2 (out ++ List.replicate (j + 1) x) :: l) w) ?_ ?_
    ·refine Ya ?_; refine Y29 ?_
     refine qw rfl (q5 (r := u64V [x]) h rfl rfl rfl fun b2 w h => ?_)
     refine qw rfl (qa (ys := u64V [x]) (zs := u64V (out ++ List.replicate (j + 1) x)) (m3 := (out ++ List.replicate (j + 1) x).length) (h.f 1) rfl rfl ⟨rfl, .inr ⟨b2, 0, rfl, qp (h.b 0 rfl) rfl⟩⟩ (u64V_one _) O21 (by rw [hstep]; simp [u64V]) O1 O1 rfl fun a2 c2 w _ h => ?_)
     refine Yx ?_
     exact qq ⟨(a2, c2), ⟨rfl, rfl, rfl, rfl, rfl, rfl, rfl, rfl, trivial⟩, (h.f 1).drop⟩
    clear h
    rintro ⟨oa, oc⟩ w e h
    dsimp only at h ⊢
    refine Yw ?_
    refine qg (.int .u64 ((j + 1 : Nat) : Int)) (congrArg (Value.int .u64) (gu (x := j + 1) O0)) ?_
    refine Y0 ?_
    exact qq ⟨(j + 1, oa, oc), ⟨rfl, rfl, rfl, rfl, rfl, rfl, rfl, rfl, trivial⟩, ⟨hlt, h⟩, by dsimp only; omega⟩
   have hjm : j = many := by simp at hc1; omega
   subst hjm
   exact qd ⟨(oa, oc), ⟨rfl, rfl, rfl, rfl, rfl, trivial⟩, h⟩
  clear h
  rintro ⟨oa, oc⟩ w e h
  dsimp only at h ⊢
  have hrt2 := hr.tailB hik hc
  refine Y29 ?_; refine Y3h ?_
  refine qg (.int .i64 ((i + k : Nat) : Int)) O5 ?_
  refine qz (jh (i := i + k) rfl rfl hik) rfl ?_
  show Rn _ _ _ _ _ (upd _ _ (.slice (adv ba ((i + k) * 1) (Nat.beq bc (i + k))) (b.length - (i + k)) (bc - (i + k)))) _
  rw [← List.length_drop]
  refine Yx ?_
  refine qq ⟨(b.drop (i + k), adv ba ((i + k) * 1) (Nat.beq bc (i + k)), bc - (i + k), f, out ++ List.replicate many x, oa, oc), ⟨rfl, rfl, rfl, trivial⟩, ⟨by dsimp only; rw [List.length_drop]; omega, by dsimp only; rw [List.length_drop]; omega, by dsimp only; rw [List.length_drop]; omega, by dsimp only; rw [List.length_append, List.length_replicate]; omega, fun z hz => ?_, ?_, hrt2, h⟩, by dsimp only; rw [List.length_drop]; omega⟩
  ·rcases List.mem_append.1 hz with hz | hz
   ·exact hout z hz
   ·rw [(List.mem_replicate.1 hz).2]; exact hx
  ·rw [inv, getLast?_rep out O0, List.length_append, List.length_replicate, Option.map_map, Nat.sub_sub]
   congr 1
   funext r
   simp
 have hb0 : b = [] := List.eq_nil_of_length_eq_zero (by rw [decide_eq_false_iff_not] at hcc; omega)
 subst hb0
 have inv : runsDec bs n = (if n - out.length = 0 then some [] else none).map (fun r => out ++ r) := by
  rw [inv]
  cases f <;> rfl
 refine qd ?_
 refine Y1w ?_; refine Y0 ?_; refine Y2y ?_
 by_cases hon : out.length = n
 ·refine qg (.bool false) (by rw [hon]; simp) ?_
  refine Y9 ?_; refine Y4c ?_
  exact qv (bq2 ⟨oa, oc, out, true, rfl, by rw [inv, if_pos O0]; simp, fun _ => ⟨hon, hout⟩, h⟩)
 ·refine qg (.bool true) O18 ?_
  refine Y2t ?_
  exact qv (bq2 (Told.no (by rw [inv, if_neg O0]; rfl) h.drop))
theorem forp_Decode {sl : Option Addr} {c : Nat} {bs : List UInt8} {n : Nat} (hn : n ≤ 65535) (hbn : bs.length ≤ 140737488355328) (hc : bs.length ≤ c) (hr : Reads w0 l 1 sl bs.length (bytesV bs)) (h : St w0 l w) :
  Ret Tryz.prog 231 [.slice sl bs.length c, .int .i64 (n : Int)] w fun v w' => Told w0 l n (frameDec bs n) v w' := by
 have hdef : frameDec bs n = _ := rfl
 conv at hdef => rhs; unfold frameDec
 refine enter Tryz.func231 rfl Tryz.results231 Tryz.ntmps231 rfl ?_
 refine Y39 ?_; refine Y3g ?_
 refine qg (.int .i64 (n : Int)) O20 ?_
 refine Y6 ?_; refine Y2s ?_
 by_cases hn0 : n = 0
 ·refine qg (.bool true) (by rw [hn0]; rfl) ?_
  refine Yk ?_; refine Y21 ?_; refine Yd ?_
  refine qg (.bool (decide (bs = []))) O40 ?_
  refine Yv ?_
  rw [if_pos hn0] at hdef
  refine qv (bq2 ⟨none, 0, [], decide (bs = []), rfl, ?_, fun _ => ⟨hn0.symm, (fun _ h => by cases h)⟩, St.ownNil _ _ h⟩)
  rw [hdef]
  by_cases hb : bs = []
  ·rw [if_pos hb, decide_eq_true hb, if_pos rfl]
  ·rw [if_neg hb, decide_eq_false hb, if_neg O4]
 refine qg (.bool false) O3 ?_
 refine Y9 ?_
 rw [if_neg hn0] at hdef
 have hk := ja bs
 have hm := jp bs
 refine Y5 ?_
 refine qw rfl (qj rfl (vint_Get h hr.rd hbn) ?_)
 rintro _ w ⟨rfl, h⟩
 refine Y2l ?_
 generalize (vget bs).1 = least at hm hdef ⊢
 generalize (vget bs).2 = i at hk hdef ⊢
 refine qo (Γ := UInt8) (fun _ => [(0, .slice sl bs.length c), (1, .int .i64 n), (6, .int .u64 least), (7, .int .i64 i)])
  (fun q w => bs[i]? = some q ∧ q.toNat ≤ 64 ∧ i ≠ 0 ∧ St w0 l w) ?_ ?_
 ·refine Y1 ?_
  by_cases g1 : i = 0
  ·refine Y0 ?_
   refine qz (qh (v' := .bool true) (jg rfl rfl) O37) rfl ?_
   refine Y2g ?_; refine Y16 ?_; refine Y2c ?_
   exact qq (qv (bq2 (Told.no (by rw [hdef, if_pos g1]) h)))
  rw [if_neg g1] at hdef
  refine Y0 ?_
  refine qz (qh (v' := .bool false) (jg rfl rfl) O3) rfl ?_
  refine Y10 ?_; refine Y4s ?_
  by_cases g2 : i = bs.length
  ·refine qz (qh (v' := .bool true) (jg rfl rfl) (by rw [g2]; simp)) rfl ?_
   refine Y8 ?_; refine Y16 ?_; refine Y2c ?_
   exact qq (qv (bq2 (Told.no (by rw [hdef, List.getElem?_eq_none O0]) h)))
  have hil : i < bs.length := by omega
  have hg := List.getElem?_eq_getElem hil
  generalize bs[i] = q at hg
  rw [hg] at hdef
  dsimp only at hdef
  obtain ⟨b, o, hsl⟩ := (hr.at_ h).some O0
  refine qz (qh (v' := .bool false) (jg rfl rfl) O3) rfl ?_
  refine Y8 ?_; refine Y2f ?_; refine Y1k ?_
  refine qz (qn (b := b) (o := o) (m := bs.length) (c := c) (o' := o + i) O8 rfl rfl hil O7) rfl ?_
  refine Y7 ?_
  refine qz (qx (v := .int .u8 q.toNat) rfl ((hsl ▸ hr.at_ h).cell (bytesV_get hg))) rfl ?_
  refine Y4t ?_
  refine qq (qy (decide ((q.toNat : Int) > 64)) rfl (fun hc1 => ?_) (fun hc1 => ?_))
  ·refine Y26 ?_
   exact qq (qv (bq2 (Told.no (by rw [hdef, if_pos O24]) h)))
  ·exact qr ⟨q, ⟨rfl, rfl, rfl, rfl, trivial⟩, hg, by simp at hc1; omega, g1, h⟩
 clear h
 rintro q w e ⟨hg, hq64, hi0, h⟩
 have hil : i < bs.length := (List.getElem?_eq_some_iff.1 hg).1
 rw [if_neg hi0, hg] at hdef
 dsimp only at hdef
 rw [if_neg O0] at hdef
 have hrt := hr.tailB (i := i + 1) hil hc
 refine Yo ?_; refine Y1n ?_
 refine qg (.int .i64 ((i + 1 : Nat) : Int)) O5 ?_
 refine qz (jh (i := i + 1) rfl rfl hil) rfl ?_
 show Rn _ _ _ _ _ (upd _ _ (.slice (adv sl ((i + 1) * 1) (Nat.beq c (i + 1))) (bs.length - (i + 1)) (c - (i + 1)))) _
 rw [← List.length_drop]
 refine qw rfl (qj rfl (vg h hrt.rd O15) ?_)
 rintro _ w ⟨p, rfl, h⟩
 refine Y1d ?_; refine Yn ?_; refine Y1g ?_; refine Y4j ?_
 generalize (⟨bitsB (bs.drop (i + 1)), false⟩ : RS) = s0 at h hdef
 refine Ya ?_
 refine qc (Γ := Nat × List Nat × RS × Option Addr × Nat) (fun k => [(0, .slice sl bs.length c), (6, .int .u64 least), (7, .int .i64 i), (8, .pointer (some ⟨p, 0, none⟩)), (9, .slice k.2.2.2.1 (k.2.1.map fun x => summ least x).length k.2.2.2.2), (43, .int .i64 n), (44, .int .i64 k.1)])
  (fun k w => k.1 ≤ n ∧ k.2.1.length = k.1 ∧ getAll n q.toNat s0 = (getAll (n - k.1) q.toNat k.2.2.1).map (fun r => k.2.1 ++ r) ∧ St w0 (OwnU k.2.2.2.1 k.2.2.2.2 (k.2.1.map fun x => summ least x) :: IsBR p k.2.2.1 :: l) w)
  (fun k => n - k.1) (0, [], s0, none, 0) ⟨rfl, rfl, rfl, rfl, rfl, rfl, rfl, trivial⟩ ⟨Nat.zero_le _, rfl, O7, St.ownNil _ _ h⟩ ?_
 clear h
 rintro ⟨j, gots, s1, oa, oc⟩ w e ⟨hj, hgl, inv, h⟩
 dsimp only at hj hgl inv h ⊢
 refine Y1e ?_
 refine ql (qy (decide ((j : Int) < (n : Int))) rfl (fun hc1 => ?_) (fun hc1 => ?_))
 ·
  have hlt : j < n := by simp at hc1; omega
  rw [show n - j = (n - (j + 1)) + 1 by omega, getAll] at inv
  obtain ⟨b, o, hsl⟩ := ((hr.more [_, _]).at_ h).some O0
  have hml : (gots.map fun x => summ least x).length = j := by rw [List.length_map, hgl]
  refine Yy ?_; refine Yo ?_; refine Y1x ?_; refine Y27 ?_
  refine qz (qn (b := b) (o := o) (m := bs.length) (c := c) (o' := o + i) O8 rfl rfl hil O7) rfl ?_
  refine qz (qx (v := .int .u8 q.toNat) rfl ((hsl ▸ (hr.more [_, _]).at_ h).cell (bytesV_get hg))) rfl ?_
  refine Yb ?_
  refine qg (.int .i64 (q.toNat : Int)) O13 ?_
  refine qw rfl (qj rfl (gg q.toNat (h.f 1)) ?_)
  rw [heldN_nat hq64]
  cases hgg : s1.get q.toNat with | mk y s2 =>
  rw [hgg] at inv
  rintro _ w ⟨rfl, h⟩
  dsimp only at h inv ⊢
  refine Y1n ?_
  refine qg (.int .u64 (summ least y : Nat)) (by rw [gr]) ?_
  have hstep : (gots ++ [y]).map (fun x => summ least x) = gots.map (fun x => summ least x) ++ [summ least y] := by simp
  refine qw rfl (q5 (r := u64V [summ least y]) h rfl rfl rfl fun b2 w h => ?_)
  refine qw rfl (qa (ys := u64V [summ least y]) (zs := u64V ((gots ++ [y]).map fun x => summ least x)) (m3 := ((gots ++ [y]).map fun x => summ least x).length) (h.f 2) rfl rfl ⟨rfl, .inr ⟨b2, 0, rfl, qp (h.b 0 rfl) rfl⟩⟩ (u64V_one _) (by rw [hstep]; simp) (by rw [hstep]; simp [u64V]) O21 O21 rfl fun a2 c2 w _ h => ?_)
  refine Ym ?_; refine Yr ?_
  refine qw rfl (qj rfl (bits_Ok (h.f 2)) ?_)
  rintro _ w ⟨rfl, h⟩
  refine Y1j ?_; refine Y3 ?_
  cases hbd : s2.bad with
  | true =>
   refine Y1o ?_; refine Y18 ?_
   rw [hbd, if_pos rfl] at inv
   exact qv (bq2 (Told.no (by rw [hdef, inv]; rfl) h.drop.drop.drop))
  | false =>
   refine Y3o ?_
   rw [hbd, if_neg O4, Option.map_map] at inv
   refine Yw ?_
   refine qg (.int .i64 ((j + 1 : Nat) : Int)) O5 ?_
   refine Y0 ?_
   refine qq ⟨(j + 1, gots ++ [y], s2, a2, c2), ⟨rfl, rfl, rfl, rfl, rfl, rfl, rfl, trivial⟩, ⟨hlt, by simp; omega, ?_, ?_⟩, by dsimp only; omega⟩
   ·dsimp only
    rw [inv]
    congr 1
    funext r
    simp
   ·exact ((h.f 2).drop.f 1)
 have hjn : j = n := by simp at hc1; omega
 rw [hjn, Nat.sub_self, getAll, Option.map_some, List.append_nil] at inv
 rw [inv] at hdef
 dsimp only at hdef
 have hml : (gots.map fun x => summ least x).length = n := by rw [List.length_map, hgl, hjn]
 have hmlt : ∀ x ∈ gots.map (fun x => summ least x), x < 18446744073709551616 := fun x hx => by
  obtain ⟨y, _, rfl⟩ := List.mem_map.1 hx
  exact Nat.mod_lt _ O4
 generalize gots.map (fun x => summ least x) = out at hml hmlt hdef h ⊢
 refine qd ?_
 refine ql ?_; refine Y5 ?_
 refine qw rfl (qj rfl (forp_Encode hmlt O0 Reads.own h) ?_)
 rintro _ w ⟨ea, ec, rfl, h⟩
 refine Yp ?_
 refine qw rfl (qj rfl (bytes_Equal (b1 := frameEnc out) (b2 := bs) h (fun w' h' => h'.own_rd) (hr.more [_, _, _]).rd) ?_)
 rintro _ w ⟨rfl, h⟩
 refine Y1j ?_; refine Y3 ?_
 refine qy (!decide (frameEnc out = bs)) rfl (fun hc2 => ?_) (fun hc2 => ?_)
 ·
  refine Y18 ?_
  exact qv (bq2 (Told.no (by rw [hdef, if_neg O32]) h.drop.drop.drop))
 refine Yh ?_; refine Y4c ?_
 exact qv (bq2 ⟨oa, oc, out, true, rfl, by rw [hdef, if_pos O32]; rfl, fun _ => ⟨hml, hmlt⟩, (h.drop.f 1).drop⟩)
end
end Go.Proofs.YtnnehiiblfmpnaaGreatDoor
/- dict: reading by a list of values. -/
namespace Go.Hw
theorem pickRun (l : List Nat) (wide k : Nat) (s : RS) : (getAll (k + 1) wide s).bind (pickAll l) =
  if (s.get wide).2.bad = true then none else match l[(s.get wide).1]? with
   | none => none
   | some x => ((getAll k wide (s.get wide).2).bind (pickAll l)).map fun r => x :: r := by
 rw [getAll]
 split
 ·rfl
 ·cases hx : l[(s.get wide).1]? with
  | none =>
   cases getAll k wide (s.get wide).2 with
   | none => rfl
   | some r => simp [pickAll, hx]
  | some x =>
   cases getAll k wide (s.get wide).2 with
   | none => rfl
   | some r => simp [pickAll, hx]
theorem dictDec_bind (b : List UInt8) (n : Nat) : dictDec b n = if n = 0 then (if b = [] then some [] else none)
 else if (vget b).2 = 0 ∨ (vget b).1 = 0 ∨ 256 < (vget b).1 then none
 else match getVs (vget b).1 (b.drop (vget b).2) with
  | none => none
  | some (l, rest) => match (getAll n (len64 (l.length - 1)) ⟨bitsB rest, false⟩).bind (pickAll l) with
   | none => none
   | some out => if dictEnc out = some b then some out else none := by
 unfold dictDec
 split
 ·rfl
 ·split
  ·rfl
  ·cases getVs (vget b).1 (b.drop (vget b).2) with
   | none => rfl
   | some x =>
    obtain ⟨l, rest⟩ := x
    dsimp only
    cases getAll n (len64 (l.length - 1)) ⟨bitsB rest, false⟩ with
    | none => rfl
    | some a => rfl
end Go.Hw
namespace Go.Proofs.YtnnehiiblfmpnaaGreatDoor
open Go.Hw
set_option maxHeartbeats 4000000
set_option maxRecDepth 100000
section
variable {w0 w : World} {l : List HProp}
theorem dict_values {sl : Option Addr} {c : Nat} {bs : List UInt8} (hbn : bs.length ≤ 140737488355328) (hc : bs.length ≤ c) (hr : Reads w0 l 1 sl bs.length (bytesV bs)) (h : St w0 l w) :
  Ret Tryz.prog 253 [.slice sl bs.length c] w fun v w' =>
   ((if (vget bs).2 = 0 ∨ (vget bs).1 = 0 ∨ 256 < (vget bs).1 then none else getVs (vget bs).1 (bs.drop (vget bs).2)) = none ∧ v = .tuple [.slice none 0 0, .slice none 0 0, .bool false].toArray ∧ St w0 l w') ∨
   ∃ L rest a c1 a2 c2, (if (vget bs).2 = 0 ∨ (vget bs).1 = 0 ∨ 256 < (vget bs).1 then none else getVs (vget bs).1 (bs.drop (vget bs).2)) = some (L, rest) ∧ v = .tuple [.slice a L.length c1, .slice a2 rest.length c2, .bool true].toArray ∧ 0 < L.length ∧ L.length ≤ 256 ∧ (∀ x ∈ L, x < 18446744073709551616) ∧ rest.length ≤ bs.length ∧ Reads w0 l 1 a2 rest.length (bytesV rest) ∧ St w0 (OwnU a c1 L :: l) w' := by
 refine enter Tryz.func253 rfl Tryz.results253 Tryz.ntmps253 rfl ?_
 refine Y2p ?_; refine Yv ?_
 have hk := ja bs
 have hm := jp bs
 refine Y5 ?_
 refine qw rfl (qj rfl (vint_Get h hr.rd hbn) ?_)
 rintro _ w ⟨rfl, h⟩
 refine Y2l ?_
 generalize (vget bs).1 = many at hm ⊢
 generalize (vget bs).2 = i at hk ⊢
 refine qo (Γ := Unit) (fun _ => [(0, .slice sl bs.length c), (5, .int .u64 many), (6, .int .i64 i)]) (fun _ w => ¬ (i = 0 ∨ many = 0 ∨ 256 < many) ∧ St w0 l w) ?_ ?_
 ·refine Y1 ?_
  by_cases g1 : i = 0
  ·refine Y0 ?_
   refine qz (qh (v' := .bool true) (jg rfl rfl) O37) rfl ?_
   refine Y4f ?_; refine Y3n ?_; refine Y1f ?_
   exact qq (qv (bq3 (.inl ⟨by rw [if_pos (.inl g1)], rfl, h⟩)))
  refine Y0 ?_
  refine qz (qh (v' := .bool false) (jg rfl rfl) O3) rfl ?_
  refine Y10 ?_
  by_cases g2 : many = 0
  ·refine qz (qh (v' := .bool true) (jg rfl rfl) (by rw [g2]; rfl)) rfl ?_
   refine Y8 ?_; refine Y3d ?_; refine Y3n ?_; refine Y1f ?_
   exact qq (qv (bq3 (.inl ⟨by rw [if_pos (.inr (.inl g2))], rfl, h⟩)))
  refine qz (qh (v' := .bool false) (jg rfl rfl) O3) rfl ?_
  refine Y2r ?_; refine Y57 ?_
  refine qq (qy (decide ((many : Int) > 256)) rfl (fun hc1 => ?_) (fun hc1 => ?_))
  ·refine Y2p ?_; refine Y1f ?_
   exact qq (qv (bq3 (.inl ⟨by rw [if_pos (.inr (.inr O24))], rfl, h⟩)))
  ·exact qr ⟨(), ⟨rfl, rfl, rfl, trivial⟩, by simp at hc1; omega, h⟩
 clear h
 rintro _ w e ⟨hcond, h⟩
 rw [if_neg hcond]
 have hrt := hr.tailB hk hc
 refine Yo ?_
 refine qz (jh (i := i) rfl rfl hk) rfl ?_
 show Rn _ _ _ _ _ (upd _ _ (.slice (adv sl (i * 1) (Nat.beq c i)) (bs.length - i) (c - i))) _
 rw [← List.length_drop]
 refine Ym ?_; refine Yn ?_; refine Y1g ?_; refine Y4j ?_
 generalize hG : getVs many (bs.drop i) = G
 refine Ya ?_
 refine qc (Γ := Nat × List UInt8 × Option Addr × Nat × List Nat × Option Addr × Nat) (fun k => [(0, .slice k.2.2.1 k.2.1.length k.2.2.2.1), (7, .slice k.2.2.2.2.2.1 k.2.2.2.2.1.length k.2.2.2.2.2.2), (28, .int .u64 many), (29, .int .u64 k.1)])
  (fun k w => k.1 ≤ many ∧ k.2.2.2.2.1.length = k.1 ∧ k.2.1.length ≤ bs.length ∧ k.2.1.length ≤ k.2.2.2.1 ∧ (∀ x ∈ k.2.2.2.2.1, x < 18446744073709551616) ∧ G = (getVs (many - k.1) k.2.1).map (fun r => (k.2.2.2.2.1 ++ r.1, r.2)) ∧ Reads w0 l 1 k.2.2.1 k.2.1.length (bytesV k.2.1) ∧ St w0 (OwnU k.2.2.2.2.2.1 k.2.2.2.2.2.2 k.2.2.2.2.1 :: l) w)
  (fun k => many - k.1) (0, bs.drop i, adv sl (i * 1) (Nat.beq c i), c - i, [], none, 0) ⟨rfl, rfl, rfl, rfl, trivial⟩ ⟨Nat.zero_le _, rfl, O29, O29, (fun _ h => by cases h), (by rw [← hG]; simp), hrt, St.ownNil _ _ h⟩ ?_
 clear h hrt hr hc
 rintro ⟨j, b, ba, bc, L, oa, oc⟩ w e ⟨hj, hLl, hbl, hc, hL, inv, hr, h⟩
 dsimp only at hj hLl hbl hc hL inv hr h ⊢
 refine Y1e ?_
 refine ql (qy (decide ((j : Int) < (many : Int))) rfl (fun hc1 => ?_) (fun hc1 => ?_))
 ·
  have hlt : j < many := by simp at hc1; omega
  rw [show many - j = (many - (j + 1)) + 1 by omega, getVs] at inv
  have hk2 := ja b
  have hx := jp b
  refine Yy ?_; refine Y5 ?_
  refine qw rfl (qj rfl (vint_Get h hr.cons.rd O0) ?_)
  rintro _ w ⟨rfl, h⟩
  refine Y2l ?_
  generalize (vget b).1 = x at hx inv ⊢
  generalize (vget b).2 = k at hk2 inv ⊢
  refine Y2s ?_
  by_cases hk0 : k = 0
  ·refine qg (.bool true) (by rw [hk0]; rfl) ?_
   refine Y3n ?_; refine Yv ?_
   rw [if_pos hk0] at inv
   exact qv (bq3 (.inl ⟨inv, rfl, h.drop⟩))
  refine qg (.bool false) O3 ?_
  refine Y9 ?_
  rw [if_neg hk0, Option.map_map] at inv
  have hrt := hr.tailB hk2 hc
  refine j7 [0, 1, 2, 3, 4, 5, 6, 7, 8] none (fun w => ∃ L, St w0 (L ++ l) w) O2 O2 ?_
  replace h := h.drew
  generalize w.drew = w at h
  have hs := h
  replace h : ∃ L, St w0 (L ++ l) w := ⟨[_], hs⟩
  refine Yq ?_; refine Yz ?_; refine Yq ?_
  refine cpv rfl rfl rfl rfl h rfl (qh (v' := .slice (adv ba (k * 1) (Nat.beq bc k)) (b.drop k).length (bc - k)) (jh (i := k) rfl rfl hk2) O38) ?_
  refine Yz ?_
  refine qt 2 rfl rfl rfl rfl ?_
  refine (q5 (r := u64V [x]) hs rfl rfl rfl fun b2 w hs => ?_)
  replace h : ∃ L, St w0 (L ++ l) w := ⟨[_, _], hs⟩
  refine ⟨fun _ => h, ?_⟩
  refine Y1m ?_
  refine qt 3 rfl rfl rfl rfl ?_
  refine (qa (ys := u64V [x]) (zs := u64V (L ++ [x])) (m3 := (L ++ [x]).length) (hs.f 1) rfl rfl ⟨rfl, .inr ⟨b2, 0, rfl, qp (hs.b 0 rfl) rfl⟩⟩ (u64V_one _) O7 O26 O1 O1 rfl fun a2 c2 w _ hs => ?_)
  replace h : ∃ L, St w0 (L ++ l) w := ⟨[_, _], hs⟩
  refine ⟨fun _ => h, ?_⟩
  refine Y1t ?_; refine Y1t ?_
  refine qi ?_
  replace hs := (hs.f 1).drop
  refine Yw ?_
  refine qg (.int .u64 ((j + 1 : Nat) : Int)) (congrArg (Value.int .u64) (gu (x := j + 1) O0)) ?_
  refine Y0 ?_
  refine qq ⟨(j + 1, b.drop k, adv ba (k * 1) (Nat.beq bc k), bc - k, L ++ [x], a2, c2), ⟨rfl, rfl, rfl, rfl, trivial⟩, ⟨hlt, by simp; omega, by dsimp only; rw [List.length_drop]; omega, by dsimp only; rw [List.length_drop]; omega, fun z hz => ?_, ?_, hrt, hs⟩, by dsimp only; omega⟩
  ·rcases List.mem_append.1 hz with hz | hz
   ·exact hL z hz
   ·simp at hz; subst hz; exact hx
  ·dsimp only
   rw [inv]
   congr 1
   funext r
   simp
 have hjm : j = many := by simp at hc1; omega
 rw [hjm, Nat.sub_self, getVs, Option.map_some, List.append_nil] at inv
 refine qd ?_
 refine Y5 ?_; refine Yp ?_; refine Yx ?_; refine Yv ?_
 exact qv (bq3 (.inr ⟨L, b, oa, oc, ba, bc, inv, rfl, by omega, by omega, hL, hbl, hr, h⟩))
theorem dict_Decode {sl : Option Addr} {c : Nat} {bs : List UInt8} {n : Nat} (hn : n ≤ 65535) (hbn : bs.length ≤ 140737488355328) (hc : bs.length ≤ c) (hr : Reads w0 l 1 sl bs.length (bytesV bs)) (h : St w0 l w) :
  Ret Tryz.prog 232 [.slice sl bs.length c, .int .i64 (n : Int)] w fun v w' => Told w0 l n (dictDec bs n) v w' := by
 have hdef := dictDec_bind bs n
 refine enter Tryz.func232 rfl Tryz.results232 Tryz.ntmps232 rfl ?_
 refine Y39 ?_; refine Y3g ?_
 refine qg (.int .i64 (n : Int)) O20 ?_
 refine Y6 ?_; refine Y2s ?_
 by_cases hn0 : n = 0
 ·refine qg (.bool true) (by rw [hn0]; rfl) ?_
  refine Yk ?_; refine Y21 ?_; refine Yd ?_
  refine qg (.bool (decide (bs = []))) O40 ?_
  refine Yv ?_
  rw [if_pos hn0] at hdef
  refine qv (bq2 ⟨none, 0, [], decide (bs = []), rfl, ?_, fun _ => ⟨hn0.symm, (fun _ h => by cases h)⟩, St.ownNil _ _ h⟩)
  rw [hdef]
  by_cases hb : bs = []
  ·rw [if_pos hb, decide_eq_true hb, if_pos rfl]
  ·rw [if_neg hb, decide_eq_false hb, if_neg O4]
 refine qg (.bool false) O3 ?_
 refine Y9 ?_
 rw [if_neg hn0] at hdef
 refine Y5 ?_
 refine qw rfl (qj rfl (dict_values hbn hc hr h) ?_)
 clear h
 rintro _ w (⟨hv, rfl, h⟩ | ⟨L, rest, la, lc, ra, rc, hv, rfl, hL0, hL256, hLlt, hrl, hrr, h⟩)
 ·refine Y3k ?_; refine Yx ?_; refine Yv ?_; refine Y1s ?_; refine Y2t ?_
  refine qv (bq2 (Told.no ?_ h))
  rw [hdef]
  split at hv
  ·rename_i hh; rw [if_pos hh]
  ·rename_i hh; rw [if_neg hh, hv]
 have hdef : dictDec bs n = match (getAll n (len64 (L.length - 1)) ⟨bitsB rest, false⟩).bind (pickAll L) with
   | none => none
   | some out => if dictEnc out = some bs then some out else none := by
  rw [hdef]
  split at hv
  ·cases hv
  ·rename_i hh; rw [if_neg hh, hv]
 refine Y3k ?_; refine Yx ?_; refine Yv ?_; refine Y1s ?_; refine Y9 ?_; refine Y5 ?_
 refine qw rfl (qj rfl (vg h hrr.cons.rd O0) ?_)
 rintro _ w ⟨p, rfl, h⟩
 refine Y1d ?_; refine Yn ?_; refine Y1g ?_; refine Y4j ?_
 have hwide : len64 (L.length - 1) ≤ 64 := len64_64 O0
 generalize hwd : len64 (L.length - 1) = wide at hwide hdef
 generalize (⟨bitsB rest, false⟩ : RS) = s0 at h hdef
 refine Ya ?_
 refine qc (Γ := Nat × List Nat × RS × Option Addr × Nat) (fun k => [(0, .slice sl bs.length c), (6, .slice la L.length lc), (9, .pointer (some ⟨p, 0, none⟩)), (10, .slice k.2.2.2.1 k.2.1.length k.2.2.2.2), (32, .int .i64 n), (33, .int .i64 k.1)])
  (fun k w => k.1 ≤ n ∧ k.2.1.length = k.1 ∧ (∀ x ∈ k.2.1, x < 18446744073709551616) ∧ (getAll n wide s0).bind (pickAll L) = ((getAll (n - k.1) wide k.2.2.1).bind (pickAll L)).map (fun r => k.2.1 ++ r) ∧ St w0 (OwnU k.2.2.2.1 k.2.2.2.2 k.2.1 :: IsBR p k.2.2.1 :: OwnU la lc L :: l) w)
  (fun k => n - k.1) (0, [], s0, none, 0) ⟨rfl, rfl, rfl, rfl, rfl, rfl, trivial⟩ ⟨Nat.zero_le _, rfl, (fun _ h => by cases h), O7, St.ownNil _ _ h⟩ ?_
 clear h
 rintro ⟨j, out, s1, oa, oc⟩ w e ⟨hj, hol, hout, inv, h⟩
 dsimp only at hj hol hout inv h ⊢
 refine Y1e ?_
 refine ql (qy (decide ((j : Int) < (n : Int))) rfl (fun hc1 => ?_) (fun hc1 => ?_))
 ·
  have hlt : j < n := by simp at hc1; omega
  rw [show n - j = (n - (j + 1)) + 1 by omega, pickRun] at inv
  refine Yy ?_; refine Yr ?_; refine Y1r ?_; refine Y1p ?_
  refine qg (.int .i64 ((L.length - 1 : Nat) : Int)) O6 ?_
  refine Yb ?_
  refine qg (.int .u64 ((L.length - 1 : Nat) : Int)) (congrArg (Value.int .u64) (gu O0)) ?_
  refine qw rfl (qj rfl (mb_Len O0 h) ?_)
  rintro _ w ⟨rfl, h⟩
  rw [hwd]
  refine qw rfl (qj rfl (gg wide (h.f 1)) ?_)
  rw [heldN_nat hwide]
  have hylt := RS.get_lt s1 wide
  have hp64 : 2 ^ wide ≤ 18446744073709551616 := Nat.pow_le_pow_right O4 hwide
  cases hgg : s1.get wide with | mk y s2 =>
  rw [hgg] at inv hylt
  rintro _ w ⟨rfl, h⟩
  dsimp only at h inv hylt ⊢
  refine Y6 ?_
  refine qo (Γ := Unit) (fun _ => [(0, .slice sl bs.length c), (6, .slice la L.length lc), (9, .pointer (some ⟨p, 0, none⟩)), (10, .slice oa out.length oc), (11, .int .u64 y), (32, .int .i64 n), (33, .int .i64 j)])
   (fun _ w => s2.bad = false ∧ y < L.length ∧ St w0 (IsBR p s2 :: OwnU oa oc out :: OwnU la lc L :: l) w) ?_ ?_
  ·refine Yr ?_
   refine qw rfl (qj rfl (bits_Ok h) ?_)
   rintro _ w ⟨rfl, h⟩
   cases hbd : s2.bad with
   | true =>
    refine Y1j ?_; refine Y16 ?_; refine Y2d ?_; refine Y2t ?_
    rw [hbd, if_pos rfl] at inv
    exact qv (bq2 (Told.no (by rw [hdef, inv]; rfl) h.drop.drop.drop))
   | false =>
    rw [hbd, if_neg O4] at inv
    refine Y1j ?_; refine Y10 ?_; refine Y4s ?_
    refine qz (qh (v' := .int .u64 ((L.length : Nat) : Int)) (jb rfl) (congrArg (Value.int .u64) (gu O0))) rfl ?_
    refine Y7 ?_; refine Y1v ?_; refine Y8 ?_
    refine qq (qy (decide ((y : Int) ≥ (L.length : Int))) rfl (fun hc2 => ?_) (fun hc2 => ?_))
    ·refine Y18 ?_
     rw [List.getElem?_eq_none (by rw [decide_eq_true_eq] at hc2; omega)] at inv
     exact qv (bq2 (Told.no (by rw [hdef, inv]; rfl) h.drop.drop.drop))
    ·exact qr ⟨(), ⟨rfl, rfl, rfl, rfl, rfl, rfl, rfl, trivial⟩, rfl, by rw [decide_eq_false_iff_not] at hc2; omega, h⟩
  clear h
  rintro _ w e ⟨hbd, hyL, h⟩
  have hg := List.getElem?_eq_getElem hyL
  generalize L[y] = x at hg
  have hx := hLlt x (List.mem_of_getElem? hg)
  rw [hbd, if_neg O4, hg] at inv
  dsimp only at inv
  rw [Option.map_map] at inv
  obtain ⟨lb, hlsl⟩ := (h.f 2).own_some hL0
  refine Y4u ?_
  refine qz (qn (b := lb) (o := 0) (m := L.length) (c := lc) (o' := y) (by rw [← hlsl]; rfl) rfl rfl hyL O7) rfl ?_
  refine qz (qx (v := .int .u64 x) rfl (by have := (hlsl ▸ (h.f 2).own_rd).cell (u64V_get hg); simpa using this)) rfl ?_
  refine qw rfl (q5 (r := u64V [x]) h rfl rfl rfl fun b2 w h => ?_)
  refine qw rfl (qa (ys := u64V [x]) (zs := u64V (out ++ [x])) (m3 := (out ++ [x]).length) (h.f 2) rfl rfl ⟨rfl, .inr ⟨b2, 0, rfl, qp (h.b 0 rfl) rfl⟩⟩ (u64V_one _) O7 O26 O1 O1 rfl fun a2 c2 w _ h => ?_)
  refine Ym ?_; refine Yw ?_
  refine qg (.int .i64 ((j + 1 : Nat) : Int)) O5 ?_
  refine Y0 ?_
  refine qq ⟨(j + 1, out ++ [x], s2, a2, c2), ⟨rfl, rfl, rfl, rfl, rfl, rfl, trivial⟩, ⟨hlt, by simp; omega, fun z hz => ?_, ?_, ?_⟩, by dsimp only; omega⟩
  ·rcases List.mem_append.1 hz with hz | hz
   ·exact hout z hz
   ·simp at hz; subst hz; exact hx
  ·dsimp only
   rw [inv]
   congr 1
   funext r
   simp
  ·exact (h.f 1).drop
 have hjn : j = n := by simp at hc1; omega
 rw [hjn, Nat.sub_self, getAll, Option.bind_some, pickAll, Option.map_some, List.append_nil] at inv
 rw [inv] at hdef
 dsimp only at hdef
 refine qd ?_
 refine Y5 ?_
 refine qw rfl (qj rfl (dict_Encode hout O0 Reads.own h) ?_)
 rintro _ w ⟨ea, ec, rfl, h⟩
 refine Y14 ?_
 refine qo (Γ := Unit) (fun _ => [(10, .slice oa out.length oc)]) (fun _ w => dictEnc out = some bs ∧ St w0 (OwnU oa oc out :: l) w) ?_ ?_
 ·refine Y1 ?_
  cases hE : dictEnc out with
  | none =>
   refine Y1l ?_; refine Y2g ?_; refine Y2t ?_
   exact qv (bq2 (Told.no (by rw [hdef, if_neg]; rw [hE]; simp) h.drop.drop.drop.drop))
  | some d =>
   rw [hE] at h
   refine Y1l ?_; refine Y2f ?_; refine Y3v ?_
   refine qw rfl (qj rfl (bytes_Equal (b1 := d) (b2 := bs) h (fun w' h' => h'.own_rd) (hr.more [_, _, _, _]).rd) ?_)
   rintro _ w ⟨rfl, h⟩
   refine Y3e ?_; refine Y8 ?_
   refine qq (qy (!decide (d = bs)) rfl (fun hc2 => ?_) (fun hc2 => ?_))
   ·refine Y18 ?_
    exact qv (bq2 (Told.no (by rw [hdef, if_neg]; rw [hE]; simpa using hc2) h.drop.drop.drop.drop))
   ·exact qr ⟨(), ⟨rfl, trivial⟩, by simpa using hc2, ((h.drop.f 1).drop.f 1).drop⟩
 clear h
 rintro _ w e ⟨hE, h⟩
 refine Y4c ?_
 exact qv (bq2 ⟨oa, oc, out, true, rfl, by rw [hdef, if_pos hE]; rfl, fun _ => ⟨by omega, hout⟩, h⟩)
end
end Go.Proofs.YtnnehiiblfmpnaaGreatDoor
/- suit.read: one value. -/
namespace Go.Proofs.YtnnehiiblfmpnaaGreatDoor
open Go.Hw
set_option maxHeartbeats 4000000
set_option maxRecDepth 100000
theorem read_6 : ReadOk 6 := by
 intro w0 w l sl c bs n hT hr hn hc hn16 h
 have hx := jp bs
 have hdef : valuesDec 6 bs n = some (List.replicate n (vget bs).1) := rfl
 refine enter Tryz.func198 rfl Tryz.results198 Tryz.ntmps198 rfl ?_
 refine Y18 ?_; refine Y1g ?_; refine Y3 ?_; refine Ya ?_; refine Y20 ?_; refine Y2o ?_; refine Y20 ?_; refine Y2o ?_; refine Y20 ?_; refine Y2o ?_; refine Y20 ?_; refine Y2o ?_; refine Y20 ?_; refine Y2o ?_; refine Y20 ?_; refine Y1o ?_; refine Y5 ?_
 refine qw rfl (qj rfl (vint_Get h hr.rd hn) ?_)
 rintro _ w ⟨rfl, h⟩
 refine Y2l ?_
 generalize (vget bs).1 = x at hx hdef ⊢
 refine Yn ?_; refine Y1g ?_; refine Y3f ?_
 refine qc (Γ := Nat × Option Addr × Nat) (fun k => [(12, .int .u64 x), (14, .slice k.2.1 (List.replicate k.1 x).length k.2.2), (71, .int .i64 n), (72, .int .i64 k.1)]) (fun k w => k.1 ≤ n ∧ St w0 (OwnU k.2.1 k.2.2 (List.replicate k.1 x) :: l) w) (fun k => n - k.1) (0, none, 0) ⟨rfl, rfl, rfl, rfl, trivial⟩ ⟨Nat.zero_le _, St.ownNil _ _ h⟩ ?_
 clear h
 rintro ⟨i, a, c1⟩ w e ⟨hi, h⟩
 dsimp only at hi h ⊢
 refine Y1e ?_
 refine ql (qy (decide ((i : Int) < (n : Int))) rfl (fun hc1 => ?_) (fun hc1 => ?_))
 ·
  have hlt : i < n := by simp at hc1; omega
  have hstep : List.replicate (i + 1) x = List.replicate i x ++ [x] := List.replicate_succ'
  refine Yh ?_
  refine qo (Γ := Option Addr × Nat) (fun q => [(12, .int .u64 x), (14, .slice q.1 (List.replicate (i + 1) x).length q.2), (71, .int .i64 n), (72, .int .i64 i)]) (fun q w => St w0 (OwnU q.1 q.2 (List.replicate (i + 1) x) :: l) w) ?_ ?_
  ·refine Ya ?_; refine Y29 ?_
   refine qw rfl (q5 (r := u64V [x]) h rfl rfl rfl fun b2 w h => ?_)
   refine qw rfl (qa (ys := u64V [x]) (zs := u64V (List.replicate (i + 1) x)) (m3 := (List.replicate (i + 1) x).length) (h.f 1) rfl rfl ⟨rfl, .inr ⟨b2, 0, rfl, qp (h.b 0 rfl) rfl⟩⟩ (u64V_one _) O7 (by rw [hstep]; simp [u64V]) O1 O1 rfl fun a2 c2 w _ h => ?_)
   refine Yx ?_
   exact qq ⟨(a2, c2), ⟨rfl, rfl, rfl, rfl, trivial⟩, (h.f 1).drop⟩
  clear h
  rintro ⟨a, c1⟩ w e h
  dsimp only at h ⊢
  refine Yw ?_
  refine qg (.int .i64 ((i + 1 : Nat) : Int)) O5 ?_
  refine Y0 ?_
  exact qq ⟨(i + 1, a, c1), ⟨rfl, rfl, rfl, rfl, trivial⟩, ⟨hlt, h⟩, by dsimp only; omega⟩
 have hin : i = n := by simp at hc1; omega
 refine qd ?_
 refine Y4c ?_
 refine qv (bq2 ⟨a, c1, List.replicate i x, true, rfl, ?_, fun _ => ⟨by simp [hin], fun y hy => ?_⟩, h⟩)
 ·rw [if_pos rfl, hin]; exact hdef
 ·rw [(List.mem_replicate.1 hy).2]; exact hx
end Go.Proofs.YtnnehiiblfmpnaaGreatDoor
/- suit.read: any codec's bytes. -/
namespace Go.Proofs.YtnnehiiblfmpnaaGreatDoor
open Go.Hw
set_option maxHeartbeats 4000000
set_option maxRecDepth 100000
theorem suit_read (tag : Int) : ReadOk tag := by
 intro w0 w l sl c bs n hT hr hn hc hn16 h
 by_cases n6 : tag = 6
 ·subst n6; exact read_6 hT hr hn hc hn16 h
 have hdef : valuesDec tag bs n = _ := rfl
 conv at hdef => rhs; unfold valuesDec
 rw [if_neg n6] at hdef
 refine enter Tryz.func198 rfl Tryz.results198 Tryz.ntmps198 rfl ?_
 refine Y18 ?_; refine Y1g ?_; refine Y3 ?_; refine Ya ?_; refine Y3r ?_
 refine qq (qy (tag == 1) rfl (fun h1 => ?_) (fun h1 => ?_))
 ·rw [beq_iff_eq] at h1
  rw [if_pos h1] at hdef
  refine Y5 ?_
  refine qw rfl (qj rfl (vg h hr.rd hn) ?_)
  rintro _ w ⟨p, rfl, h⟩
  refine Y0 ?_
  refine qw rfl (qj rfl (xorv_Decode hT hn16 h) ?_)
  rintro _ w ⟨a, c', xs, b, rfl, hd, hb, s', h⟩
  refine Y3m ?_; refine Yv ?_
  exact qv (bq2 ⟨a, c', xs, b, rfl, by rw [hdef, hd], hb, (h.f 1).drop⟩)
 rw [beq_eq_false_iff_ne] at h1
 rw [if_neg h1] at hdef
 refine Y3r ?_
 refine qq (qy (tag == 2) rfl (fun h2 => ?_) (fun h2 => ?_))
 ·rw [beq_iff_eq] at h2
  rw [if_pos h2] at hdef
  refine Y5 ?_
  refine qw rfl (qj rfl (suit_words hn hr h) ?_)
  rintro _ w ⟨wa, wc, rfl, hw1, hw2, h⟩
  refine Y14 ?_; refine Yo ?_
  refine qw rfl (qj rfl (simp_Decode hw1 O0 hn16 Reads.own h) ?_)
  rintro _ w ⟨xa, xc, xs, b, rfl, hd, hb, hb', h⟩
  refine Y14 ?_
  have hxl : xs.length ≤ 65535 ∧ ∀ x ∈ xs, x < 18446744073709551616 := by
   cases b with
   | true => obtain ⟨g1, g2⟩ := hb rfl; exact ⟨by omega, g2⟩
   | false => rw [hb' rfl]; exact ⟨Nat.zero_le _, fun _ h => by cases h⟩
  refine Y5 ?_
  refine qw rfl (qj rfl (suit_sums hxl.2 hxl.1 Reads.own h) ?_)
  rintro _ w ⟨sa, sc, rfl, hs, h⟩
  replace h := ((h.f 1).drop.f 1).drop
  have hsl := sumsL_len xs 0
  by_cases h8 : bs.length % 8 = 0
  ·rw [if_pos h8, hd] at hdef
   rw [decide_eq_true h8]
   refine Y2u ?_; refine Y2i ?_; refine Y2u ?_; refine Yi ?_; refine Yv ?_
   refine qv (bq2 ⟨sa, sc, sumsL 0 xs, b, rfl, ?_, fun hbt => ⟨by rw [hsl]; exact (hb hbt).1, hs⟩, h⟩)
   rw [hdef]
   cases b <;> rfl
  ·rw [if_neg h8] at hdef
   rw [decide_eq_false h8]
   refine Y2u ?_; refine Y2u ?_; refine Y30 ?_; refine Yv ?_
   exact qv (bq2 ⟨sa, sc, sumsL 0 xs, false, rfl, hdef, (fun h => by cases h), h⟩)
 rw [beq_eq_false_iff_ne] at h2
 rw [if_neg h2] at hdef
 refine Y3r ?_
 refine qq (qy (tag == 3) rfl (fun h3 => ?_) (fun h3 => ?_))
 ·rw [beq_iff_eq] at h3
  rw [if_pos h3] at hdef
  refine Yo ?_
  refine qw rfl (qj rfl (runl_Decode hn16 hn hc hr h) ?_)
  rintro _ w ⟨a, c', xs, b, rfl, hd, hb, h⟩
  refine Y3m ?_; refine Yv ?_
  exact qv (bq2 ⟨a, c', xs, b, rfl, by rw [hdef, hd], hb, h⟩)
 rw [beq_eq_false_iff_ne] at h3
 rw [if_neg h3] at hdef
 refine Y3r ?_
 refine qq (qy (tag == 4) rfl (fun h4 => ?_) (fun h4 => ?_))
 ·rw [beq_iff_eq] at h4
  rw [if_pos h4] at hdef
  refine Yo ?_
  refine qw rfl (qj rfl (forp_Decode hn16 hn hc hr h) ?_)
  rintro _ w ⟨a, c', xs, b, rfl, hd, hb, h⟩
  refine Y3m ?_; refine Yv ?_
  exact qv (bq2 ⟨a, c', xs, b, rfl, by rw [hdef, hd], hb, h⟩)
 rw [beq_eq_false_iff_ne] at h4
 rw [if_neg h4] at hdef
 refine Y3r ?_
 refine qq (qy (tag == 5) rfl (fun h5 => ?_) (fun h5 => ?_))
 ·rw [beq_iff_eq] at h5
  rw [if_pos h5] at hdef
  refine Yo ?_
  refine qw rfl (qj rfl (dict_Decode hn16 hn hc hr h) ?_)
  rintro _ w ⟨a, c', xs, b, rfl, hd, hb, h⟩
  refine Y3m ?_; refine Yv ?_
  exact qv (bq2 ⟨a, c', xs, b, rfl, by rw [hdef, hd], hb, h⟩)
 rw [beq_eq_false_iff_ne] at h5
 rw [if_neg h5] at hdef
 refine Y3r ?_
 refine qg (.bool false) (by congr 1; rw [beq_eq_false_iff_ne]; exact n6) ?_
 refine Y9 ?_; refine Y18 ?_
 exact qv (bq2 ⟨none, 0, [], false, rfl, hdef, (fun h => by cases h), St.ownNil _ _ h⟩)
end Go.Proofs.YtnnehiiblfmpnaaGreatDoor

namespace Go.Hw
section
variable {P : Program} {e : Env} {w : World} {φ : Value → World → Prop}
theorem bqS3 {a c d : Tmp} {t : TypeId} {z : List Value} {bytes : Nat} [hi : Inf P t z true bytes] {b o : Nat} {l : List Value} (hx : e a = .pointer (some ⟨b, o, none⟩)) (hz : Nat.beq z.length l.length = true) (hl : At w b o l) (h : φ (.tuple [.agg l.toArray, e c, e d].toArray) w) :
  bq P [.cell a t, .tmp c, .tmp d] φ .ret e w := ⟨_, run_loadVarS hx (Nat.eq_of_beq_eq_true hz) hl, h⟩
end
def hdC (h : Hd) : List Value := [.int .i64 h.tag, .int .i64 h.count, .int .i64 h.f, .int .i64 h.t]
def hdZ : List Value := [.int .i64 0, .int .i64 0, .int .i64 0, .int .i64 0]
theorem u64V_set3 {vals : List Nat} {k : Nat} (hk : vals.length = k) (h3 : k < 3) (x : Nat) : (u64V (vals ++ List.replicate (3 - k) 0)).set k (.int .u64 (x : Int)) = u64V ((vals ++ [x]) ++ List.replicate (3 - (k + 1)) 0) := by
 have e : 3 - k = (3 - (k + 1)) + 1 := by omega
 have hl : (u64V vals).length = k := by simp [u64V, hk]
 have e1 : u64V (vals ++ List.replicate (3 - k) 0) = u64V vals ++ (.int .u64 (0 : Nat)) :: u64V (List.replicate (3 - (k + 1)) 0) := by
  unfold u64V
  rw [e, List.replicate_succ, List.map_append, List.map_cons]
 have e2 : u64V ((vals ++ [x]) ++ List.replicate (3 - (k + 1)) 0) = u64V vals ++ (.int .u64 (x : Int)) :: u64V (List.replicate (3 - (k + 1)) 0) := by
  unfold u64V
  rw [List.map_append, List.map_append, List.append_assoc]
  rfl
 rw [e1, e2, List.set_append_right _ _ O0, hl, Nat.sub_self]
 rfl
end Go.Hw
namespace Go.Proofs.YtnnehiiblfmpnaaGreatDoor
open Go.Hw
set_option maxHeartbeats 4000000
set_option maxRecDepth 100000
instance und3 : Und Tryz.prog 296 (.array 3 30) := ⟨Tryz.underlying296⟩
section
variable {w0 w : World} {l : List HProp}
theorem chnk_Make (hT : Tz w0) (tag : Int) {sl : Option Addr} {c : Nat} {L : List Smp} (hw : ∀ s ∈ L, s.Wf) (hn : L.length ≤ 1073741824) (hr : Reads w0 l 2 sl L.length (smpsV L)) (h : St w0 l w) :
  Ret Tryz.prog 145 [.int .i64 tag, .slice sl L.length c] w fun v w' => ∃ a c', v = .tuple [.slice a ((chMake tag L).getD []).length c', .bool (chMake tag L).isSome].toArray ∧ St w0 (OwnB a c' ((chMake tag L).getD []) :: l) w' := by
 have hlen := suitEnc_len (tag := tag) hw
 refine enter Tryz.func145 rfl Tryz.results145 Tryz.ntmps145 rfl ?_
 refine Y39 ?_; refine Yp ?_
 refine qw rfl (qj rfl (suit_Encode hT tag hw hn hr h) ?_)
 cases hE : suitEnc tag L with
 | none =>
  have hM : chMake tag L = none := by unfold chMake; rw [hE]
  rw [hM]
  rintro _ w ⟨xa, xc, rfl, h⟩
  replace h := h.drop
  show Rn _ _ _ _ _ (upd _ _ (.tuple [.slice xa 0 xc, .bool false].toArray)) _
  refine Y14 ?_; refine Y1s ?_; refine Y15 ?_; refine Y2d ?_; refine Y2t ?_
  exact qv (bq2 ⟨none, 0, rfl, St.ownNil _ _ h⟩)
 | some x =>
 rw [hE] at hlen
 have hxl : x.length ≤ 3000000 := hlen
 obtain ⟨ht1, ht6⟩ := suitEnc_tag hE
 obtain ⟨_, hL16⟩ := suitEnc_rises hE
 rintro _ w ⟨xa, xc, rfl, h⟩
 replace h : St w0 (OwnB xa xc x :: l) w := h
 show Rn _ _ _ _ _ (upd _ _ (.tuple [.slice xa x.length xc, .bool true].toArray)) _
 refine Y14 ?_; refine Y1s ?_; refine Y36 ?_
 by_cases hL0 : L.length = 0
 ·have hLn : L = [] := List.eq_nil_of_length_eq_zero hL0
  have hM : chMake tag L = none := by unfold chMake; rw [hE]; dsimp only; rw [if_pos hLn]
  rw [hM]
  refine qz (qh (v' := .bool true) (jg rfl rfl) (by rw [hL0]; rfl)) rfl ?_
  refine Y8 ?_; refine Y2t ?_
  exact qv (bq2 ⟨none, 0, rfl, St.ownNil _ _ h.drop⟩)
 have hLn : L ≠ [] := fun hh => hL0 (by rw [hh]; rfl)
 have hM : chMake tag L = some (chBody tag L x ++ be4 (crc (chBody tag L x))) := by unfold chMake; rw [hE]; dsimp only; rw [if_neg hLn]
 rw [hM]
 obtain ⟨w1, w2⟩ := ends_wf hw hLn
 refine qz (qh (v' := .bool false) (jg rfl rfl) O3) rfl ?_
 refine Y4p ?_; refine Y4 ?_; refine Yb ?_
 refine qg (.int .u8 ((UInt8.ofNat tag.toNat).toNat : Int)) (by rw [UInt8.toNat_ofNat', show tag = ((tag.toNat : Nat) : Int) by omega, wrap_u8]; simp) ?_
 refine qw rfl (q5 (r := bytesV [UInt8.ofNat tag.toNat]) h rfl rfl rfl fun b2 w h => ?_)
 refine Y1r ?_; refine Yb ?_
 refine qg (.int .u64 (L.length : Int)) (congrArg (Value.int .u64) (gu O0)) ?_
 refine qw rfl (qj rfl (gi (bs := [UInt8.ofNat tag.toNat]) L.length O0 h (fun w' h' => (Reads.pt (m := 0) rfl rfl).at_ h') O7) ?_)
 rintro _ w ⟨a1, c1, rfl, h⟩
 replace h := (h.f 1).drop
 refine Ym ?_
 have hp1 := jq L.length
 have hp2 := jq (zigT (firstT L))
 have hp3 := jq (zigT (lastT L))
 refine qo (Γ := Option Addr × Nat) (fun q => [(0, .int .i64 tag), (1, .slice sl L.length c), (6, .slice xa x.length xc), (8, .slice q.1 (UInt8.ofNat tag.toNat :: (chNums L).flatMap vput).length q.2)]) (fun q w => St w0 (OwnB q.1 q.2 (UInt8.ofNat tag.toNat :: (chNums L).flatMap vput) :: OwnB xa xc x :: l) w) ?_ ?_
 ·have hg0 : L[0]? = some (L[0]'O0) := List.getElem?_eq_getElem _
  have hgl : L[L.length - 1]? = some (L[L.length - 1]'O0) := List.getElem?_eq_getElem _
  have hf : firstT L = (L[0]'O0).T := by unfold firstT; rw [List.head?_eq_getElem?, hg0]; rfl
  have ht : lastT L = (L[L.length - 1]'O0).T := by unfold lastT; rw [List.getLast?_eq_getElem?, hgl]; rfl
  generalize L[0]'O0 = s0 at hg0 hf
  generalize L[L.length - 1]'O0 = s1 at hgl ht
  obtain ⟨b, o, hsl⟩ := ((hr.more [_, _]).at_ h).some O0
  have hc0 : ∀ {w'}, (∃ M, St w0 (M ++ l) w') → w'.cell? ⟨b, o, none⟩ = some (.int .i64 s0.T) := fun ⟨M, h'⟩ => by
   have := (hsl ▸ hr M _ h').elem js hg0 0 _ rfl; simpa using this
  have hc1 : ∀ {w'}, (∃ M, St w0 (M ++ l) w') → w'.cell? ⟨b, o + (L.length - 1) * 2 + 0, none⟩ = some (.int .i64 s1.T) := fun ⟨M, h'⟩ => (hsl ▸ hr M _ h').elem js hgl 0 _ rfl
  refine j7 [0, 1, 2, 3, 4, 5, 6, 7, 8, 9, 10, 11, 12, 13, 14, 15, 16] none (fun w => ∃ M, St w0 (M ++ l) w) O2 O2 ?_
  replace h := h.drew
  generalize w.drew = w at h
  have hs := h
  replace h : ∃ M, St w0 (M ++ l) w := ⟨[_, _], hs⟩
  refine Y1i ?_; refine Y1i ?_
  refine cpv rfl rfl rfl rfl h rfl (qn (b := b) (o := o) (m := L.length) (c := c) (j := 0) (o' := o) O8 rfl rfl O0 O7) ?_
  refine Y1c ?_
  refine qu rfl rfl rfl rfl h (fun w h => qm rfl (qx (v := .int .i64 s0.T) rfl (hc0 h))) ?_
  refine Yz ?_; refine Y1i ?_; refine Y37 ?_
  refine cpv rfl rfl rfl rfl h rfl (qh (v' := .int .i64 ((L.length - 1 : Nat) : Int)) (jm rfl rfl) O6) ?_
  refine cpv rfl rfl rfl rfl h rfl (qn (b := b) (o := o) (m := L.length) (c := c) (j := L.length - 1) (o' := o + (L.length - 1) * 2) O8 rfl rfl O0 rfl) ?_
  refine Y1c ?_
  refine qu rfl rfl rfl rfl h (fun w h => qm rfl (qx (v := .int .i64 s1.T) rfl (hc1 h))) ?_
  refine Y1m ?_
  refine qt 5 rfl rfl rfl rfl ?_
  refine (qj rfl (vint_Zig (hf ▸ w1) hs) ?_)
  rintro _ w ⟨rfl, hs⟩
  rw [← hf, show zigU (us (firstT L)) = zigT (firstT L) from rfl]
  replace h : ∃ M, St w0 (M ++ l) w := ⟨[_, _], hs⟩
  refine ⟨fun _ => h, ?_⟩
  refine Y13 ?_
  refine qt 6 rfl rfl rfl rfl ?_
  refine (qj rfl (gi (zigT (firstT L)) (zigT_lt _) hs (fun w' h' => h'.own_rd) O1) ?_)
  rintro _ w ⟨a2, c2, rfl, hs⟩
  replace h : ∃ M, St w0 (M ++ l) w := ⟨[_, _, _], hs⟩
  refine ⟨fun _ => h, ?_⟩
  refine Y1m ?_
  refine qt 14 rfl rfl rfl rfl ?_
  refine (qj rfl (vint_Zig (ht ▸ w2) hs) ?_)
  rintro _ w ⟨rfl, hs⟩
  rw [← ht, show zigU (us (lastT L)) = zigT (lastT L) from rfl]
  replace h : ∃ M, St w0 (M ++ l) w := ⟨[_, _, _], hs⟩
  refine ⟨fun _ => h, ?_⟩
  refine Yz ?_
  refine qt 15 rfl rfl rfl rfl ?_
  refine (qj rfl (gi (zigT (lastT L)) (zigT_lt _) hs (fun w' h' => h'.own_rd) O1) ?_)
  rintro _ w ⟨a3, c3, rfl, hs⟩
  replace h : ∃ M, St w0 (M ++ l) w := ⟨[_, _, _, _], hs⟩
  refine ⟨fun _ => h, ?_⟩
  refine Y1t ?_
  have e3 : [UInt8.ofNat tag.toNat] ++ vput L.length ++ vput (zigT (firstT L)) ++ vput (zigT (lastT L)) = UInt8.ofNat tag.toNat :: (chNums L).flatMap vput := by simp [chNums]
  rw [e3] at hs
  refine qi ⟨(a3, c3), ⟨rfl, rfl, rfl, ?_, trivial⟩, ((hs.f 1).drop.f 1).drop⟩
  show Value.slice _ _ _ = Value.slice _ _ _
  rw [e3]
 clear h a1 c1
 rintro ⟨a1, c1⟩ w e h
 dsimp only at h ⊢
 have hbl := chBody_len tag L x
 have hbe : chBody tag L x = (UInt8.ofNat tag.toNat :: (chNums L).flatMap vput) ++ x := by simp [chBody]
 have hbl2 : (UInt8.ofNat tag.toNat :: (chNums L).flatMap vput).length + x.length = (chBody tag L x).length := by rw [hbe, List.length_append]
 generalize UInt8.ofNat tag.toNat :: (chNums L).flatMap vput = hd at h hbe hbl2 ⊢
 generalize chBody tag L x = B at hbe hbl hbl2 ⊢
 refine Y5 ?_; refine Yp ?_
 refine qw rfl (qa (ys := bytesV x) (zs := bytesV B) (m3 := B.length) h rfl rfl (h.f 1).own_rd (bytesV_one _) O0 (by rw [hbe]; simp [bytesV]) O0 O0 rfl fun a2 c2 w _ h => ?_)
 refine Ym ?_; refine Y1 ?_
 refine qw rfl (qj rfl (crcc_Table h) ?_)
 rintro _ w ⟨rfl, h⟩
 refine Yp ?_
 refine qw rfl (qj rfl (crcc_Sum (bs := B) O0 Reads.own h) ?_)
 rintro _ w ⟨rfl, h⟩
 refine Y6 ?_
 generalize crc B = k
 refine Yo ?_
 refine qz (qh (v' := .int .u32 ((k / 2 ^ 24 : Nat) : Int)) (ju rfl rfl O0) (congrArg (Value.int .u32) (q9 k 24 32 O4))) rfl ?_
 refine Yb ?_
 refine qg (.int .u8 ((UInt8.ofNat (k / 2 ^ 24)).toNat : Int)) O12 ?_
 refine Y0 ?_
 refine qz (qh (v' := .int .u32 ((k / 2 ^ 16 : Nat) : Int)) (ju rfl rfl O0) (congrArg (Value.int .u32) (q9 k 16 32 O4))) rfl ?_
 refine Yb ?_
 refine qg (.int .u8 ((UInt8.ofNat (k / 2 ^ 16)).toNat : Int)) O12 ?_
 refine Y0 ?_
 refine qz (qh (v' := .int .u32 ((k / 2 ^ 8 : Nat) : Int)) (ju rfl rfl O0) (congrArg (Value.int .u32) (q9 k 8 32 O4))) rfl ?_
 refine Yb ?_
 refine qg (.int .u8 ((UInt8.ofNat (k / 2 ^ 8)).toNat : Int)) O12 ?_
 refine Y2k ?_
 refine qg (.int .u8 ((UInt8.ofNat k).toNat : Int)) O12 ?_
 refine qw rfl (q5 (r := bytesV (be4 k)) h rfl rfl rfl fun b4 w h => ?_)
 refine qw rfl (qa (ys := bytesV (be4 k)) (zs := bytesV (B ++ be4 k)) (m3 := (B ++ be4 k).length) (h.f 1) rfl rfl ⟨rfl, .inr ⟨b4, 0, rfl, qp (h.b 0 rfl) rfl⟩⟩ (bytesV_one _) (by simp [be4_len]) O31 O23 O23 rfl fun a3 c3 w _ h => ?_)
 refine Yv ?_
 refine qv (bq2 ⟨a3, c3, rfl, ?_⟩)
 have h' := ((h.f 1).drop.f 1).drop
 exact h'
end
end Go.Proofs.YtnnehiiblfmpnaaGreatDoor

namespace Go.Proofs.YtnnehiiblfmpnaaGreatDoor
open Go.Hw
set_option maxHeartbeats 4000000
set_option maxRecDepth 100000
section
variable {w0 w : World} {l : List HProp}
abbrev HeadOf (w0 : World) (l : List HProp) (bs : List UInt8) (v : Value) : Prop :=
 (headDec bs = none ∧ v = .tuple [.agg hdZ.toArray, .slice none 0 0, .bool false].toArray) ∨
 ∃ hd rest a c, headDec bs = some (hd, rest) ∧ v = .tuple [.agg (hdC hd).toArray, .slice a rest.length c, .bool true].toArray ∧ rest.length ≤ c ∧ rest.length ≤ bs.length ∧ hd.count ≤ 65535 ∧ hd.tag ≤ 6 ∧ Reads w0 l 1 a rest.length (bytesV rest)
theorem chnk_head {sl : Option Addr} {c : Nat} {bs : List UInt8} (hn : bs.length ≤ 140737488355328) (hc : bs.length ≤ c) (hr : Reads w0 l 1 sl bs.length (bytesV bs)) (h : St w0 l w) :
  Ret Tryz.prog 143 [.slice sl bs.length c] w fun v w' => HeadOf w0 l bs v ∧ St w0 l w' := by
 refine enter Tryz.func143 rfl Tryz.results143 Tryz.ntmps143 rfl ?_
 refine Y1 ?_
 refine qw rfl (q7 h fun b2 w h => ?_)
 replace h : St w0 (pt b2 (.cells hdZ.toArray 141 (0, 0)) :: l) w := h
 refine Yv ?_
 cases bs with
 | nil =>
  refine Y1w ?_
  refine qz (qh (v' := .bool true) (jg rfl rfl) rfl) rfl ?_
  refine Y2g ?_; refine Y2g ?_; refine Y28 ?_
  refine qz (qe (r := hdZ) rfl) rfl ?_
  refine qw rfl (qb (vs := hdZ) 0 h rfl rfl rfl rfl rfl rfl rfl fun w h => ?_)
  replace h : St w0 (pt b2 (.cells hdZ.toArray 141 (0, 0)) :: l) w := h
  refine Yv ?_
  exact qv (bqS3 (l := hdZ) rfl rfl (qp (h.b 0 rfl) rfl) ⟨.inl ⟨rfl, rfl⟩, h.drop⟩)
 | cons ch r =>
 have hdef : headDec (ch :: r) = _ := rfl
 conv at hdef => rhs; unfold headDec
 dsimp only at hdef
 have hlc : (ch :: r).length = r.length + 1 := rfl
 obtain ⟨b, o, hsl⟩ := (hr.cons.at_ h).some O7
 have hc0 : ∀ {M : List HProp} {w'}, St w0 (M ++ l) w' → w'.cell? ⟨b, o, none⟩ = some (.int .u8 ch.toNat) := fun {M} {w'} h' => by
  have := (hsl ▸ hr M _ h').cell (bytesV_get (bs := ch :: r) (j := 0) rfl); simpa using this
 refine qo (Γ := Unit) (fun _ => [(0, .slice sl (ch :: r).length c), (2, .pointer (some ⟨b2, 0, none⟩))]) (fun _ w => ¬ (ch.toNat < 1 ∨ 6 < ch.toNat) ∧ St w0 (pt b2 (.cells hdZ.toArray 141 (0, 0)) :: l) w) ?_ ?_
 ·refine Y21 ?_
  refine qz (qh (v' := .bool false) (jg rfl rfl) (by congr 1)) rfl ?_
  refine Y2f ?_
  refine qz (qn (b := b) (o := o) (m := (ch :: r).length) (c := c) (j := 0) (o' := o) O8 rfl rfl O7 O7) rfl ?_
  refine Y7 ?_
  refine qz (qx (v := .int .u8 ch.toNat) rfl (hc0 (M := [_]) h)) rfl ?_
  refine Y7 ?_
  by_cases g1 : ch.toNat < 1
  ·refine qz (qh (v' := .bool true) (gt rfl rfl) O17) rfl ?_
   refine Y8 ?_; refine Y2g ?_; refine Y28 ?_
   refine qz (qe (r := hdZ) rfl) rfl ?_
   refine qw rfl (qb (vs := hdZ) 0 h rfl rfl rfl rfl rfl rfl rfl fun w h => ?_)
   replace h : St w0 (pt b2 (.cells hdZ.toArray 141 (0, 0)) :: l) w := h
   refine Yv ?_
   exact qv (bqS3 (l := hdZ) rfl rfl (qp (h.b 0 rfl) rfl) ⟨.inl ⟨by rw [hdef, if_pos (.inl g1)], rfl⟩, h.drop⟩)
  refine qz (qh (v' := .bool false) (gt rfl rfl) O17) rfl ?_
  refine Y8 ?_; refine Y2f ?_
  refine qz (qn (b := b) (o := o) (m := (ch :: r).length) (c := c) (j := 0) (o' := o) O8 rfl rfl O7 O7) rfl ?_
  refine Y7 ?_
  refine qz (qx (v := .int .u8 ch.toNat) rfl (hc0 (M := [_]) h)) rfl ?_
  refine Y4t ?_
  refine qq (qy (decide ((ch.toNat : Int) > 6)) rfl (fun hc1 => ?_) (fun hc1 => ?_))
  ·refine Y1 ?_
   refine qz (qe (r := hdZ) rfl) rfl ?_
   refine qw rfl (qb (vs := hdZ) 0 h rfl rfl rfl rfl rfl rfl rfl fun w h => ?_)
   replace h : St w0 (pt b2 (.cells hdZ.toArray 141 (0, 0)) :: l) w := h
   refine Yv ?_
   exact qv (bqS3 (l := hdZ) rfl rfl (qp (h.b 0 rfl) rfl) ⟨.inl ⟨by rw [hdef, if_pos (.inr O24)], rfl⟩, h.drop⟩)
  ·exact qr ⟨(), ⟨rfl, rfl, trivial⟩, by simp at hc1; omega, h⟩
 clear h
 rintro _ w e ⟨hcond, h⟩
 rw [if_neg hcond] at hdef
 have hrt := hr.tailB (i := 1) O0 hc
 rw [show (ch :: r).drop 1 = r from rfl] at hrt
 refine Y5 ?_
 refine qz (jh (i := 1) rfl rfl O0) rfl ?_
 show Rn _ _ _ _ _ (upd _ _ (.slice (adv sl (1 * 1) (Nat.beq c 1)) r.length (c - 1))) _
 refine Ym ?_; refine Y1 ?_
 refine qw rfl (q7 h fun b6 w h => ?_)
 replace h : St w0 (pt b6 (.cells (u64V ([] ++ List.replicate (3 - 0) 0)).toArray 296 (0, 0)) :: pt b2 (.cells hdZ.toArray 141 (0, 0)) :: l) w := h
 refine Y3 ?_
 generalize hG : getVs 3 r = G at hdef
 refine qo (Γ := Nat × Nat × Nat × List UInt8 × Option Addr × Nat) (fun k => [(0, .slice sl (ch :: r).length c), (2, .pointer (some ⟨b2, 0, none⟩)), (5, .slice k.2.2.2.2.1 k.2.2.2.1.length k.2.2.2.2.2), (6, .pointer (some ⟨b6, 0, none⟩))])
  (fun k w => G = some ([k.1, k.2.1, k.2.2.1], k.2.2.2.1) ∧ k.1 < 18446744073709551616 ∧ k.2.1 < 18446744073709551616 ∧ k.2.2.1 < 18446744073709551616 ∧ k.2.2.2.1.length ≤ r.length ∧ k.2.2.2.1.length ≤ k.2.2.2.2.2 ∧ Reads w0 l 1 k.2.2.2.2.1 k.2.2.2.1.length (bytesV k.2.2.2.1) ∧ St w0 (pt b6 (.cells (u64V [k.1, k.2.1, k.2.2.1]).toArray 296 (0, 0)) :: pt b2 (.cells hdZ.toArray 141 (0, 0)) :: l) w) ?_ ?_
 ·refine Y4 ?_; refine Y3 ?_; refine Ya ?_
  refine qc (Γ := Nat × List Nat × List UInt8 × Option Addr × Nat) (fun k => [(0, .slice sl (ch :: r).length c), (2, .pointer (some ⟨b2, 0, none⟩)), (5, .slice k.2.2.2.1 k.2.2.1.length k.2.2.2.2), (6, .pointer (some ⟨b6, 0, none⟩)), (29, .int .i64 k.1)])
   (fun k w => k.1 ≤ 3 ∧ k.2.1.length = k.1 ∧ (∀ x ∈ k.2.1, x < 18446744073709551616) ∧ G = (getVs (3 - k.1) k.2.2.1).map (fun q => (k.2.1 ++ q.1, q.2)) ∧ k.2.2.1.length ≤ r.length ∧ k.2.2.1.length ≤ k.2.2.2.2 ∧ Reads w0 l 1 k.2.2.2.1 k.2.2.1.length (bytesV k.2.2.1) ∧ St w0 (pt b6 (.cells (u64V (k.2.1 ++ List.replicate (3 - k.1) 0)).toArray 296 (0, 0)) :: pt b2 (.cells hdZ.toArray 141 (0, 0)) :: l) w)
   (fun k => 3 - k.1) (0, [], r, adv sl (1 * 1) (Nat.beq c 1), c - 1) ⟨rfl, rfl, rfl, rfl, rfl, trivial⟩ ⟨Nat.zero_le _, rfl, (fun _ h => by cases h), (by rw [← hG]; simp), Nat.le_refl _, (by dsimp only; omega), hrt, h⟩ ?_
  clear h
  rintro ⟨k, vals, rest, ra, rc⟩ w e ⟨hk, hvl, hv, inv, hrl, hrc, hrr, h⟩
  dsimp only at hk hvl hv inv hrl hrc hrr h ⊢
  refine Y1e ?_
  refine ql (qy (decide ((k : Int) < 3)) rfl (fun hc1 => ?_) (fun hc1 => ?_))
  ·
   have hlt : k < 3 := by simp at hc1; omega
   rw [show 3 - k = (3 - (k + 1)) + 1 by omega, getVs] at inv
   have hk2 := ja rest
   have hx := jp rest
   refine Yy ?_; refine Y2z ?_; refine Y5 ?_
   refine qw rfl (qj rfl (vint_Get h (hrr.more [_, _]).rd O0) ?_)
   rintro _ w ⟨rfl, h⟩
   refine Y2l ?_
   generalize (vget rest).1 = x at hx inv ⊢
   generalize (vget rest).2 = j at hk2 inv ⊢
   refine Y2s ?_
   by_cases hj0 : j = 0
   ·refine qg (.bool true) (by rw [hj0]; rfl) ?_
    refine Y28 ?_
    refine qz (qe (r := hdZ) rfl) rfl ?_
    refine qw rfl (qb (vs := hdZ) 1 h rfl rfl rfl rfl rfl rfl rfl fun w h => ?_)
    replace h := h.drop
    replace h : St w0 (pt b2 (.cells hdZ.toArray 141 (0, 0)) :: l) w := h
    refine Yv ?_
    rw [if_pos hj0] at inv
    exact qv (bqS3 (l := hdZ) rfl rfl (qp (h.b 0 rfl) rfl) ⟨.inl ⟨by rw [hdef, inv]; rfl, rfl⟩, h.drop⟩)
   refine qg (.bool false) O3 ?_
   refine Y9 ?_
   rw [if_neg hj0, Option.map_map] at inv
   have hrt := hrr.tailB hk2 hrc
   refine jj (some 6) (fun w => St w0 _ w) O2 O2 h.drew fun w h => ?_
   refine Yj ?_; refine Yj ?_; refine Yq ?_
   refine cpv rfl rfl rfl rfl h rfl (qh (v' := .slice (adv ra (j * 1) (Nat.beq rc j)) (rest.drop j).length (rc - j)) (jh (i := j) rfl rfl hk2) O38) ?_
   refine cpv rfl rfl rfl rfl h rfl (q_aidx (j := k) (o' := k) rfl rfl rfl hlt O7) ?_
   refine Yz ?_
   refine j9 6 none rfl rfl rfl rfl ?_
   refine q8 0 h rfl (show _ = Value.int .u64 (x : Int) from rfl) rfl (by rw [Nat.blt_eq]; simp [u64V]; omega) rfl rfl fun w h => ?_
   simp only [List.set_cons_zero] at h
   rw [u64V_set3 hvl hlt] at h
   refine gq h ?_
   refine Y1t ?_
   refine qi ?_
   refine Yw ?_
   refine qg (.int .i64 ((k + 1 : Nat) : Int)) O5 ?_
   refine Y0 ?_
   refine qq ⟨(k + 1, vals ++ [x], rest.drop j, adv ra (j * 1) (Nat.beq rc j), rc - j), ⟨rfl, rfl, rfl, rfl, rfl, trivial⟩, ⟨hlt, by simp; omega, fun z hz => ?_, ?_, by dsimp only; rw [List.length_drop]; omega, by dsimp only; rw [List.length_drop]; omega, hrt, h⟩, by dsimp only; omega⟩
   ·rcases List.mem_append.1 hz with hz | hz
    ·exact hv z hz
    ·simp at hz; subst hz; exact hx
   ·dsimp only
    rw [inv]
    congr 1
    funext q
    simp
  have hk3 : k = 3 := by simp at hc1; omega
  subst hk3
  rw [Nat.sub_self, getVs, Option.map_some, List.append_nil] at inv
  rw [Nat.sub_self, List.replicate_zero, List.append_nil] at h
  match vals, hvl with
  | [v0, v1, v2], _ =>
   exact qd ⟨(v0, v1, v2, rest, ra, rc), ⟨rfl, rfl, rfl, rfl, trivial⟩, inv, hv v0 O7, hv v1 O7, hv v2 O7, hrl, hrc, hrr, h⟩
 clear h
 rintro ⟨v0, v1, v2, rest, ra, rc⟩ w e ⟨hGs, hv0, hv1, hv2, hrl, hrc, hrr, h⟩
 dsimp only at hGs hv0 hv1 hv2 hrl hrc hrr h ⊢
 rw [hGs] at hdef
 dsimp only at hdef
 rw [show [v0, v1, v2].getD 0 0 = v0 from rfl, show [v0, v1, v2].getD 1 0 = v1 from rfl, show [v0, v1, v2].getD 2 0 = v2 from rfl, show hdOf ch [v0, v1, v2] = ⟨ch.toNat, v0, sg (zagU v1), sg (zagU v2)⟩ from rfl] at hdef
 have hch := ch.toNat_lt
 refine qo (Γ := Nat) (fun b10 => [(2, .pointer (some ⟨b2, 0, none⟩)), (5, .slice ra rest.length rc), (10, .pointer (some ⟨b10, 0, none⟩))])
  (fun b10 w => St w0 (pt b10 (.cells (hdC ⟨ch.toNat, min v0 65536, sg (zagU v1), sg (zagU v2)⟩).toArray 141 (0, 0)) :: pt b2 (.cells hdZ.toArray 141 (0, 0)) :: l) w) ?_ ?_
 ·have hcc : ∀ {w'}, (∃ M, St w0 (M ++ (pt b6 (.cells (u64V [v0, v1, v2]).toArray 296 (0, 0)) :: pt b2 (.cells hdZ.toArray 141 (0, 0)) :: l)) w') → w'.cell? ⟨b, o, none⟩ = some (.int .u8 ch.toNat) := fun ⟨M, h'⟩ => hc0 (M := []) ((h'.drops).drop.drop)
  have hca : ∀ {w'}, (∃ M, St w0 (M ++ (pt b6 (.cells (u64V [v0, v1, v2]).toArray 296 (0, 0)) :: pt b2 (.cells hdZ.toArray 141 (0, 0)) :: l)) w') → w'.heap[b6]? = some (.cells (u64V [v0, v1, v2]).toArray 296 (0, 0)) := fun ⟨M, h'⟩ => (h'.drops).b 0 rfl
  refine j7 [0, 1, 2, 3, 4, 5, 6, 7, 8, 9, 10, 11, 12, 13, 14, 15, 16] (some 16) (fun w => ∃ M, St w0 (M ++ (pt b6 (.cells (u64V [v0, v1, v2]).toArray 296 (0, 0)) :: pt b2 (.cells hdZ.toArray 141 (0, 0)) :: l)) w) O2 O2 ?_
  replace h := h.drew
  generalize w.drew = w at h
  have hs := h
  replace h : ∃ M, St w0 (M ++ (pt b6 (.cells (u64V [v0, v1, v2]).toArray 296 (0, 0)) :: pt b2 (.cells hdZ.toArray 141 (0, 0)) :: l)) w := ⟨[], hs⟩
  refine Y1i ?_
  refine cpv rfl rfl rfl rfl h rfl (qn (b := b) (o := o) (m := (ch :: r).length) (c := c) (j := 0) (o' := o) O8 rfl rfl O7 O7) ?_
  refine qu rfl rfl rfl rfl h (fun w h => qm rfl (qx (v := .int .u8 ch.toNat) rfl (hcc h))) ?_
  refine cpv rfl rfl rfl rfl h rfl (qh (v' := .int .i64 (ch.toNat : Int)) (jb rfl) O13) ?_
  refine cpv rfl rfl rfl rfl h rfl (q_aidx (j := 0) (o' := 0) rfl rfl rfl O4 rfl) ?_
  refine qu rfl rfl rfl rfl h (fun w h => qm rfl (qk (v := .int .u64 (v0 : Int)) rfl (hca h) rfl)) ?_
  refine cpv rfl rfl rfl rfl h rfl (qh (v' := .int .u64 ((min v0 65536 : Nat) : Int)) (q_min rfl rfl) O20) ?_
  refine cpv rfl rfl rfl rfl h rfl (qh (v' := .int .i64 ((min v0 65536 : Nat) : Int)) (jb rfl) O13) ?_
  refine cpv rfl rfl rfl rfl h rfl (q_aidx (j := 1) (o' := 1) rfl rfl rfl O4 rfl) ?_
  refine qu rfl rfl rfl rfl h (fun w h => qm rfl (qk (v := .int .u64 (v1 : Int)) rfl (hca h) rfl)) ?_
  refine Yl ?_
  refine cpv rfl rfl rfl rfl h rfl (q_aidx (j := 2) (o' := 2) rfl rfl rfl O4 rfl) ?_
  refine qu rfl rfl rfl rfl h (fun w h => qm rfl (qk (v := .int .u64 (v2 : Int)) rfl (hca h) rfl)) ?_
  refine Y13 ?_
  refine cur_two 10 15 rfl rfl rfl rfl rfl rfl ?_ ?_
  ·refine (qj rfl (vint_Zag hv1 hs) ?_)
   rintro _ w ⟨rfl, hs⟩
   replace h : ∃ M, St w0 (M ++ (pt b6 (.cells (u64V [v0, v1, v2]).toArray 296 (0, 0)) :: pt b2 (.cells hdZ.toArray 141 (0, 0)) :: l)) w := ⟨[], hs⟩
   refine ⟨fun _ => h, ?_⟩
   refine Y13 ?_
   refine cur_two 13 15 rfl rfl rfl rfl rfl rfl ?_ ?_
   ·refine (qj rfl (vint_Zag hv2 hs) ?_)
    rintro _ w ⟨rfl, hs⟩
    replace h : ∃ M, St w0 (M ++ (pt b6 (.cells (u64V [v0, v1, v2]).toArray 296 (0, 0)) :: pt b2 (.cells hdZ.toArray 141 (0, 0)) :: l)) w := ⟨[], hs⟩
    refine ⟨fun _ => h, ?_⟩
    refine cpv rfl rfl rfl rfl h rfl (qe (r := hdC ⟨ch.toNat, min v0 65536, sg (zagU v1), sg (zagU v2)⟩) rfl) ?_
    refine Yz ?_
    refine qt 15 rfl rfl rfl rfl ?_
    refine (q7 hs fun b10 w hs => ?_)
    replace h : ∃ M, St w0 (M ++ (pt b6 (.cells (u64V [v0, v1, v2]).toArray 296 (0, 0)) :: pt b2 (.cells hdZ.toArray 141 (0, 0)) :: l)) w := ⟨[_], hs⟩
    refine ⟨fun _ => h, ?_⟩
    refine Yl ?_
    refine jd 16 rfl rfl rfl ?_
    refine qb (vs := hdC ⟨ch.toNat, min v0 65536, sg (zagU v1), sg (zagU v2)⟩) 0 hs rfl rfl rfl rfl rfl rfl rfl fun w hs => ?_
    exact ⟨b10, ⟨rfl, rfl, rfl, trivial⟩, (hs.f 1).drop⟩
   ·refine (q7 hs fun b10 w hs => ?_)
    replace h : ∃ M, St w0 (M ++ (pt b6 (.cells (u64V [v0, v1, v2]).toArray 296 (0, 0)) :: pt b2 (.cells hdZ.toArray 141 (0, 0)) :: l)) w := ⟨[_], hs⟩
    refine ⟨fun _ => h, ?_⟩
    refine Y1m ?_
    refine qt 13 rfl rfl rfl rfl ?_
    refine (qj rfl (vint_Zag hv2 hs) ?_)
    rintro _ w ⟨rfl, hs⟩
    replace h : ∃ M, St w0 (M ++ (pt b6 (.cells (u64V [v0, v1, v2]).toArray 296 (0, 0)) :: pt b2 (.cells hdZ.toArray 141 (0, 0)) :: l)) w := ⟨[_], hs⟩
    refine ⟨fun _ => h, ?_⟩
    refine cpv rfl rfl rfl rfl h rfl (qe (r := hdC ⟨ch.toNat, min v0 65536, sg (zagU v1), sg (zagU v2)⟩) rfl) ?_
    refine Yl ?_
    refine jd 16 rfl rfl rfl ?_
    refine qb (vs := hdC ⟨ch.toNat, min v0 65536, sg (zagU v1), sg (zagU v2)⟩) 0 hs rfl rfl rfl rfl rfl rfl rfl fun w hs => ?_
    exact ⟨b10, ⟨rfl, rfl, rfl, trivial⟩, (hs.f 1).drop⟩
  ·refine (q7 hs fun b10 w hs => ?_)
   replace h : ∃ M, St w0 (M ++ (pt b6 (.cells (u64V [v0, v1, v2]).toArray 296 (0, 0)) :: pt b2 (.cells hdZ.toArray 141 (0, 0)) :: l)) w := ⟨[_], hs⟩
   refine ⟨fun _ => h, ?_⟩
   refine Y13 ?_
   refine qt 10 rfl rfl rfl rfl ?_
   refine (qj rfl (vint_Zag hv1 hs) ?_)
   rintro _ w ⟨rfl, hs⟩
   replace h : ∃ M, St w0 (M ++ (pt b6 (.cells (u64V [v0, v1, v2]).toArray 296 (0, 0)) :: pt b2 (.cells hdZ.toArray 141 (0, 0)) :: l)) w := ⟨[_], hs⟩
   refine ⟨fun _ => h, ?_⟩
   refine Y1m ?_
   refine qt 13 rfl rfl rfl rfl ?_
   refine (qj rfl (vint_Zag hv2 hs) ?_)
   rintro _ w ⟨rfl, hs⟩
   replace h : ∃ M, St w0 (M ++ (pt b6 (.cells (u64V [v0, v1, v2]).toArray 296 (0, 0)) :: pt b2 (.cells hdZ.toArray 141 (0, 0)) :: l)) w := ⟨[_], hs⟩
   refine ⟨fun _ => h, ?_⟩
   refine cpv rfl rfl rfl rfl h rfl (qe (r := hdC ⟨ch.toNat, min v0 65536, sg (zagU v1), sg (zagU v2)⟩) rfl) ?_
   refine Yl ?_
   refine jd 16 rfl rfl rfl ?_
   refine qb (vs := hdC ⟨ch.toNat, min v0 65536, sg (zagU v1), sg (zagU v2)⟩) 0 hs rfl rfl rfl rfl rfl rfl rfl fun w hs => ?_
   exact ⟨b10, ⟨rfl, rfl, rfl, trivial⟩, (hs.f 1).drop⟩
 clear h
 rintro b10 w e h
 refine qo (Γ := Unit) (fun _ => [(2, .pointer (some ⟨b2, 0, none⟩)), (5, .slice ra rest.length rc), (10, .pointer (some ⟨b10, 0, none⟩))])
  (fun _ w => ¬ (v0 < 1 ∨ 65535 < v0 ∨ sg (zagU v2) < sg (zagU v1)) ∧ St w0 (pt b10 (.cells (hdC ⟨ch.toNat, min v0 65536, sg (zagU v1), sg (zagU v2)⟩).toArray 141 (0, 0)) :: pt b2 (.cells hdZ.toArray 141 (0, 0)) :: l) w) ?_ ?_
 ·refine Y35 ?_
  refine qz (qk (v := .int .i64 ((min v0 65536 : Nat) : Int)) rfl (h.b 0 rfl) rfl) rfl ?_
  by_cases g1 : v0 < 1
  ·refine qz (qh (v' := .bool true) (gt rfl rfl) O17) rfl ?_
   refine Y15 ?_; refine Y2d ?_; refine Y16 ?_; refine Y3q ?_
   refine qz (qe (r := hdZ) rfl) rfl ?_
   refine qw rfl (qb (vs := hdZ) 1 h rfl rfl rfl rfl rfl rfl rfl fun w h => ?_)
   replace h := h.drop
   replace h : St w0 (pt b2 (.cells hdZ.toArray 141 (0, 0)) :: l) w := h
   refine Yv ?_
   exact qv (bqS3 (l := hdZ) rfl rfl (qp (h.b 0 rfl) rfl) ⟨.inl ⟨by rw [hdef, if_pos (.inl g1)], rfl⟩, h.drop⟩)
  refine qz (qh (v' := .bool false) (gt rfl rfl) O17) rfl ?_
  refine Y3i ?_
  refine qz (qk (v := .int .i64 ((min v0 65536 : Nat) : Int)) rfl (h.b 0 rfl) rfl) rfl ?_
  refine Y7 ?_
  by_cases g2 : 65535 < v0
  ·refine qz (qh (v' := .bool true) (gn rfl rfl) O17) rfl ?_
   refine Y8 ?_; refine Y16 ?_; refine Y3q ?_
   refine qz (qe (r := hdZ) rfl) rfl ?_
   refine qw rfl (qb (vs := hdZ) 1 h rfl rfl rfl rfl rfl rfl rfl fun w h => ?_)
   replace h := h.drop
   replace h : St w0 (pt b2 (.cells hdZ.toArray 141 (0, 0)) :: l) w := h
   refine Yv ?_
   exact qv (bqS3 (l := hdZ) rfl rfl (qp (h.b 0 rfl) rfl) ⟨.inl ⟨by rw [hdef, if_pos (.inr (.inl g2))], rfl⟩, h.drop⟩)
  refine qz (qh (v' := .bool false) (gn rfl rfl) O17) rfl ?_
  refine Y8 ?_; refine Y3i ?_
  refine qz (qk (v := .int .i64 (sg (zagU v1))) rfl (h.b 0 rfl) rfl) rfl ?_
  refine Y4b ?_
  refine qz (qk (v := .int .i64 (sg (zagU v2))) rfl (h.b 0 rfl) rfl) rfl ?_
  refine Y4t ?_
  refine qq (qy (decide (sg (zagU v1) > sg (zagU v2))) rfl (fun hc1 => ?_) (fun hc1 => ?_))
  ·refine Y1 ?_
   refine qz (qe (r := hdZ) rfl) rfl ?_
   refine qw rfl (qb (vs := hdZ) 1 h rfl rfl rfl rfl rfl rfl rfl fun w h => ?_)
   replace h := h.drop
   replace h : St w0 (pt b2 (.cells hdZ.toArray 141 (0, 0)) :: l) w := h
   refine Yv ?_
   exact qv (bqS3 (l := hdZ) rfl rfl (qp (h.b 0 rfl) rfl) ⟨.inl ⟨by rw [hdef, if_pos (.inr (.inr (by rw [decide_eq_true_eq] at hc1; exact hc1)))], rfl⟩, h.drop⟩)
  ·refine qr ⟨(), ⟨rfl, rfl, rfl, trivial⟩, ?_, h⟩
   rw [decide_eq_false_iff_not] at hc1
   rintro (h | h | h)
   ·exact g1 h
   ·exact g2 h
   ·exact hc1 h
 clear h
 rintro _ w e ⟨hcond2, h⟩
 rw [if_neg hcond2] at hdef
 rw [show min v0 65536 = v0 by omega] at h
 refine Y1 ?_
 refine qz (qf (l := hdC ⟨ch.toNat, v0, sg (zagU v1), sg (zagU v2)⟩) rfl rfl (qp (h.b 0 rfl) rfl)) rfl ?_
 refine Yp ?_
 refine qw rfl (qb (vs := hdC ⟨ch.toNat, v0, sg (zagU v1), sg (zagU v2)⟩) 1 h rfl rfl rfl rfl rfl rfl rfl fun w h => ?_)
 replace h := h.drop
 replace h : St w0 (pt b2 (.cells (hdC ⟨ch.toNat, v0, sg (zagU v1), sg (zagU v2)⟩).toArray 141 (0, 0)) :: l) w := h
 refine Yv ?_
 exact qv (bqS3 (l := hdC ⟨ch.toNat, v0, sg (zagU v1), sg (zagU v2)⟩) rfl rfl (qp (h.b 0 rfl) rfl) ⟨.inr ⟨_, rest, ra, rc, hdef, rfl, hrc, by omega, by dsimp only; omega, by dsimp only; omega, hrr⟩, h.drop⟩)
theorem chnk_Open (hT : Tz w0) {sl : Option Addr} {c : Nat} {bs : List UInt8} (hn : bs.length ≤ 140737488355328) (hc : bs.length ≤ c) (hr : Reads w0 l 1 sl bs.length (bytesV bs)) (h : St w0 l w) :
  Ret Tryz.prog 101 [.slice sl bs.length c] w fun v w' => ∃ a c', v = .tuple [.slice a (((chOpen bs).map Prod.fst).getD []).length c', .int .i64 ((((chOpen bs).map Prod.snd).getD 0 : Nat) : Int), .bool (chOpen bs).isSome].toArray ∧ (∀ L t, chOpen bs = some (L, t) → L.length ≤ 65535 ∧ ∀ s ∈ L, s.Wf) ∧ St w0 (OwnS a c' (((chOpen bs).map Prod.fst).getD []) :: l) w' := by
 have bad : ∀ {w : World}, chOpen bs = none → St w0 l w → ∃ a c', Value.tuple [.slice none 0 0, .int .i64 0, .bool false].toArray = .tuple [.slice a (((chOpen bs).map Prod.fst).getD []).length c', .int .i64 ((((chOpen bs).map Prod.snd).getD 0 : Nat) : Int), .bool (chOpen bs).isSome].toArray ∧ (∀ L t, chOpen bs = some (L, t) → L.length ≤ 65535 ∧ ∀ s ∈ L, s.Wf) ∧ St w0 (OwnS a c' (((chOpen bs).map Prod.fst).getD []) :: l) w := fun hb h => by
  rw [hb]
  exact ⟨none, 0, rfl, (fun _ _ h => by cases h), St.ownNil _ _ h⟩
 have hdef : chOpen bs = _ := rfl
 conv at hdef => rhs; unfold chOpen
 refine enter Tryz.func101 rfl Tryz.results101 Tryz.ntmps101 rfl ?_
 refine Y2p ?_; refine Yt ?_; refine Y5 ?_
 refine qw rfl (qj rfl (chnk_head hn hc hr h) ?_)
 clear h
 rintro _ w ⟨(⟨hd0, rfl⟩ | ⟨hd, rest, ra, rc, hd0, rfl, hrc, hrl, hcnt, htag, hrr⟩), h⟩
 ·rw [hd0] at hdef
  refine Y3k ?_
  refine qw rfl (q7 h fun b5 w h => ?_)
  refine qw rfl (qb (vs := hdZ) 0 h rfl rfl rfl rfl rfl rfl rfl fun w h => ?_)
  replace h := h.drop
  refine Yv ?_; refine Y1s ?_; refine Y15 ?_; refine Y2d ?_; refine Y3n ?_; refine Yt ?_
  exact qv (bq3 (bad hdef h))
 rw [hd0] at hdef
 dsimp only at hdef
 refine Y3k ?_
 refine qw rfl (q7 h fun b5 w h => ?_)
 refine qw rfl (qb (vs := hdC hd) 0 h rfl rfl rfl rfl rfl rfl rfl fun w h => ?_)
 replace h : St w0 (pt b5 (.cells (hdC hd).toArray 141 (0, 0)) :: l) w := h
 refine Yv ?_; refine Y1s ?_; refine Y36 ?_; refine Ys ?_; refine Y8 ?_
 refine qq (qy (decide ((rest.length : Int) < 4)) rfl (fun hc1 => ?_) (fun hc1 => ?_))
 ·refine Y2p ?_; refine Yt ?_
  exact qv (bq3 (bad (by rw [hdef, if_pos O24]) h.drop))
 have hr4 : 4 ≤ rest.length := by simp at hc1; omega
 rw [if_neg O0] at hdef
 refine Yh ?_
 have hrh := hrr.head (i := rest.length - 4) O0
 have htl : (rest.take (rest.length - 4)).length = rest.length - 4 := by rw [List.length_take]; omega
 have hrh' : Reads w0 l 1 ra (rest.take (rest.length - 4)).length (bytesV (rest.take (rest.length - 4))) := by
  rw [htl]
  have : bytesV (rest.take (rest.length - 4)) = (bytesV rest).take ((rest.length - 4) * 1) := by unfold bytesV; rw [List.map_take, Nat.mul_one]
  rw [this]
  exact hrh
 generalize hP : rest.take (rest.length - 4) = P at hdef htl hrh'
 refine qo (Γ := Option Addr × Nat) (fun q => [(0, .slice sl bs.length c), (5, .pointer (some ⟨b5, 0, none⟩)), (8, .slice q.1 ((suitDec hd.tag P hd.count).getD []).length q.2), (9, .bool (suitDec hd.tag P hd.count).isSome)])
  (fun q w => (∀ L, suitDec hd.tag P hd.count = some L → (L.length : Int) = hd.count ∧ ∀ s ∈ L, s.Wf) ∧ St w0 (OwnS q.1 q.2 ((suitDec hd.tag P hd.count).getD []) :: pt b5 (.cells (hdC hd).toArray 141 (0, 0)) :: l) w) ?_ ?_
 ·refine j7 [0, 1, 2, 3, 4, 5, 6, 7, 8, 9, 10, 11, 13, 12, 14] none (fun w => w.heap[b5]? = some (.cells (hdC hd).toArray 141 (0, 0))) O2 O2 ?_
  replace h := h.drew
  generalize w.drew = w at h
  have hs := h
  replace h := hs.b 0 rfl
  refine Y1c ?_
  refine qu rfl rfl rfl rfl h (fun w h => qm rfl (qk (v := .int .i64 (hd.tag : Int)) rfl h rfl)) ?_
  refine Y1i ?_; refine Y37 ?_
  refine cpv rfl rfl rfl rfl h rfl (qh (v' := .int .i64 ((rest.length - 4 : Nat) : Int)) (jm rfl rfl) O6) ?_
  refine cpv rfl rfl rfl rfl h rfl (qh (v' := .slice ra P.length rc) (q_head (h := rest.length - 4) rfl rfl O0) (by rw [htl])) ?_
  refine Y1c ?_
  refine qu rfl rfl rfl rfl h (fun w h => qm rfl (qk (v := .int .i64 (hd.count : Int)) rfl h rfl)) ?_
  refine Y40 ?_
  refine qt 9 rfl rfl rfl rfl ?_
  refine (qj rfl (suit_Decode hT (suit_read _) (hd.count : Int) O0 O0 (hrh'.more [_]) hs) ?_)
  rintro _ w ⟨da, dc, rfl, hM, hs⟩
  replace h := hs.b 1 rfl
  refine ⟨fun _ => h, ?_⟩
  refine Y4v ?_; refine Y1t ?_; refine Y3l ?_
  exact qi ⟨(da, dc), ⟨rfl, rfl, rfl, rfl, trivial⟩, hM, hs⟩
 clear h
 rintro ⟨da, dc⟩ w e ⟨hM, h⟩
 dsimp only at h ⊢
 refine Y1s ?_
 cases hD : suitDec hd.tag P hd.count with
 | none =>
  rw [hD] at hdef
  refine Y3n ?_; refine Yt ?_
  exact qv (bq3 (bad hdef h.drop.drop))
 | some M =>
 rw [hD] at hdef h
 obtain ⟨hMl, hMw⟩ := hM M hD
 have hM16 : M.length ≤ 65535 := by omega
 dsimp only at hdef
 refine Y9 ?_
 replace h : St w0 (OwnS da dc M :: pt b5 (.cells (hdC hd).toArray 141 (0, 0)) :: l) w := h
 refine Y35 ?_
 refine qz (qk (v := .int .i64 (hd.tag : Int)) rfl (h.b 1 rfl) rfl) rfl ?_
 refine Yp ?_
 refine qw rfl (qj rfl (chnk_Make hT (hd.tag : Int) (L := M) hMw O0 Reads.own h) ?_)
 rintro _ w ⟨ea, ec, rfl, h⟩
 refine Y14 ?_
 refine qo (Γ := Unit) (fun _ => [(5, .pointer (some ⟨b5, 0, none⟩)), (8, .slice da M.length dc)]) (fun _ w => chMake (hd.tag : Int) M = some bs ∧ St w0 (OwnS da dc M :: pt b5 (.cells (hdC hd).toArray 141 (0, 0)) :: l) w) ?_ ?_
 ·refine Y1 ?_
  cases hE : chMake (hd.tag : Int) M with
  | none =>
   refine Y1l ?_; refine Y2g ?_; refine Y3n ?_; refine Yt ?_
   exact qv (bq3 (bad (by rw [hdef, if_neg (by rw [hE]; simp)]) h.drop.drop.drop))
  | some d =>
   rw [hE] at h
   refine Y1l ?_; refine Y2f ?_; refine Y3v ?_
   refine qw rfl (qj rfl (bytes_Equal (b1 := d) (b2 := bs) h (fun w' h' => h'.own_rd) (hr.more [_, _, _]).rd) ?_)
   rintro _ w ⟨rfl, h⟩
   refine Y3e ?_; refine Y8 ?_
   refine qq (qy (!decide (d = bs)) rfl (fun hc2 => ?_) (fun hc2 => ?_))
   ·refine Y2p ?_; refine Yt ?_
    exact qv (bq3 (bad (by rw [hdef, if_neg (by rw [hE]; simpa using hc2)]) h.drop.drop.drop))
   ·exact qr ⟨(), ⟨rfl, rfl, trivial⟩, by simpa using hc2, h.drop⟩
 clear h
 rintro _ w e ⟨hE, h⟩
 rw [if_pos hE] at hdef
 rw [hdef]
 refine ql (c_anyR [0, 2, 3, 1, 4, 5] none (fun w => St w0 _ w) O2 O2 h.drew fun w h => ?_)
 refine Y1i ?_; refine Y1c ?_
 refine qu rfl rfl rfl rfl h (fun w h => qm rfl (qk (v := .int .i64 (hd.tag : Int)) rfl (h.b 1 rfl) rfl)) ?_
 refine Y1t ?_; refine Y2h ?_; refine Y3l ?_
 refine qi ?_
 refine qv (bq3 ⟨da, dc, rfl, fun L t hh => ?_, (h.f 1).drop⟩)
 cases hh
 exact ⟨hM16, hMw⟩
end
end Go.Proofs.YtnnehiiblfmpnaaGreatDoor

namespace Go.Proofs.YtnnehiiblfmpnaaGreatDoor
open Go.Hw
set_option maxHeartbeats 4000000
instance eqiSmp : EqI Tryz.prog 58 [.i64, .u64] := ⟨⟨_, Tryz.underlying58, by kernel_rfl⟩, by kernel_rfl, by kernel_rfl⟩
section
variable {w0 w : World} {l : List HProp}
theorem ref10_Same {a1 a2 : Option Addr} {n1 n2 c1 c2 : Nat} {L1 L2 : List Smp} (h : St w0 l w) (hr1 : ∀ w', St w0 l w' → Rd w' 2 a1 n1 (smpsV L1)) (hr2 : ∀ w', St w0 l w' → Rd w' 2 a2 n2 (smpsV L2)) (hn : n1 < 9223372036854775807) :
  Ret Tryz.prog 29 [.slice a1 n1 c1, .slice a2 n2 c2] w fun v w' => v = .bool (decide (L1 = L2)) ∧ St w0 l w' := by
 have hl1 : L1.length = n1 := (hr1 w h).count js O4
 have hl2 : L2.length = n2 := (hr2 w h).count js O4
 refine enter Tryz.func29 rfl Tryz.results29 Tryz.ntmps29 rfl ?_
 refine Y2a ?_; refine Y1w ?_; refine Y1r ?_; refine Y2y ?_; refine Y3 ?_
 refine qy _ rfl (fun hc => ?_) (fun hc => ?_)
 ·
  refine Y2a ?_
  refine qv (bq1 ⟨?_, h⟩)
  have : L1 ≠ L2 := by
   rintro rfl
   simp at hc
   omega
  show Value.bool false = _
  rw [decide_eq_false this]
 have hnn : n1 = n2 := by simp at hc; omega
 subst hnn
 refine Yh ?_; refine Y2w ?_
 refine qc (Γ := Nat) (fun k => [(0, .slice a1 n1 c1), (1, .slice a2 n1 c2), (5, .int .i64 k)]) (fun k w => k ≤ n1 ∧ L1.take k = L2.take k ∧ St w0 l w) (fun k => n1 - k) 0 ⟨rfl, rfl, rfl, trivial⟩ ⟨Nat.zero_le _, by simp, h⟩ ?_
 clear h
 rintro k w e ⟨hk, hpre, h⟩
 refine Y2n ?_
 refine qy (decide ((k : Int) < (n1 : Int))) rfl (fun hc => ?_) (fun hc => ?_)
 ·
  have hkn : k < n1 := by simp at hc; omega
  obtain ⟨b1, o1, rfl⟩ := (hr1 w h).some O0
  obtain ⟨b2, o2, rfl⟩ := (hr2 w h).some O0
  have hg1 := List.getElem?_eq_getElem (show k < L1.length by omega)
  have hg2 := List.getElem?_eq_getElem (show k < L2.length by omega)
  generalize L1[k] = s1 at hg1
  generalize L2[k] = s2 at hg2
  refine Yy ?_
  refine ql (jj none (fun w => St w0 _ w) O2 O2 h.drew fun w h => ?_)
  refine Yq ?_
  refine cpv rfl rfl rfl rfl h rfl (qn rfl rfl rfl hkn rfl) ?_
  refine qu rfl rfl rfl rfl h (fun w h => qm rfl (qf (l := s1.cells) rfl rfl ((hr1 w h).elem js hg1))) ?_
  refine Yq ?_
  refine cpv rfl rfl rfl rfl h rfl (qn rfl rfl rfl hkn rfl) ?_
  refine qu rfl rfl rfl rfl h (fun w h => qm rfl (qf (l := s2.cells) rfl rfl ((hr2 w h).elem js hg2))) ?_
  refine cpv rfl rfl rfl rfl h rfl (q_neI [s1.T, s1.V] [s2.T, s2.V] rfl rfl rfl rfl) ?_
  refine qi ?_
  refine qy _ rfl (fun hc => ?_) (fun hc => ?_)
  ·
   refine Y2a ?_
   refine qv (bq1 ⟨?_, h⟩)
   have : L1 ≠ L2 := by
    rintro rfl
    rw [hg1] at hg2
    cases hg2
    simp at hc
   show Value.bool false = _
   rw [decide_eq_false this]
  ·have hss : s1 = s2 := by
    obtain ⟨T1, V1⟩ := s1
    obtain ⟨T2, V2⟩ := s2
    simp at hc
    simp [hc.1, hc.2]
   subst hss
   refine Y4q ?_
   refine qg (.int .i64 ((k + 1 : Nat) : Int)) O5 ?_
   refine Y2 ?_
   refine qq ⟨k + 1, ⟨rfl, rfl, rfl, trivial⟩, ⟨by omega, ?_, h⟩, by omega⟩
   rw [List.take_add_one, List.take_add_one, hpre, hg1, hg2]
 have hkn : k = n1 := by simp at hc; omega
 subst hkn
 refine qd ?_
 refine Y2a ?_
 refine qv (bq1 ⟨?_, h⟩)
 have : L1 = L2 := by
  rw [List.take_of_length_le O0, List.take_of_length_le O0] at hpre
  exact hpre
 show Value.bool true = _
 rw [decide_eq_true this]
end
end Go.Proofs.YtnnehiiblfmpnaaGreatDoor

namespace Go.Hw
set_option maxRecDepth 100000
theorem chMake_nil (tag : Int) : chMake tag [] = none := by
 unfold chMake
 split
 ·rfl
 ·rw [if_pos rfl]
end Go.Hw
namespace Go.Proofs.YtnnehiiblfmpnaaGreatDoor
open Go.Hw
set_option maxHeartbeats 4000000
set_option maxRecDepth 100000
instance eqiHead : EqI Tryz.prog 141 [.i64, .i64, .i64, .i64] := ⟨⟨_, Tryz.underlying141, by kernel_rfl⟩, by kernel_rfl, by kernel_rfl⟩
section
variable {w0 w : World} {l : List HProp}
end
end Go.Proofs.YtnnehiiblfmpnaaGreatDoor

namespace Go.Hw
def clampN (n : Int) : Int := min (max n 1) 65535
theorem clampN_le (n : Int) : 1 ≤ clampN n ∧ clampN n ≤ 65535 := by unfold clampN; omega
structure WkS where
 bg : Bool
 ov : Bool
 lf : Int
 bad : Bool
def WkS.step (s : WkS) (n : Int) : WkS := ⟨s.bg, s.ov || decide (s.lf - clampN n ≤ 0), if s.ov then s.lf else s.lf - clampN n, s.bad⟩
def WkS.more (s : WkS) (n : Int) : Bool := !s.ov && !decide (s.lf - clampN n ≤ 0)
def paceC (s : WkS) (rest : List Value) : List Value := .bool s.bg :: .bool s.ov :: .int .i64 s.lf :: rest
def decC (s : WkS) (ba : Option Addr) (m bc : Nat) (la : Option Addr) (n lc : Nat) : List Value := paceC s [.slice ba m bc, .slice la n lc, .bool s.bad]
end Go.Hw
namespace Go.Proofs.YtnnehiiblfmpnaaGreatDoor
open Go.Hw
set_option maxHeartbeats 4000000
set_option maxRecDepth 100000
section
variable {w0 w : World} {l : List HProp}
theorem smps_Clone {sl : Option Addr} {c : Nat} {L : List Smp} (h : St w0 l w) (hr : Reads w0 l 2 sl L.length (smpsV L)) (hn : L.length ≤ 1073741824) :
  Ret Tryz.prog 64 [.slice sl L.length c] w fun v w' => ∃ a c', v = .slice a L.length c' ∧ St w0 (OwnS a c' L :: l) w' := by
 refine enter Tryz.func64 rfl Tryz.results64 Tryz.ntmps64 rfl ?_
 refine Yn ?_; refine ql ?_; refine Y5 ?_
 refine qz (q_seqnil rfl rfl) rfl ?_
 refine qq (qy sl.isNone rfl (fun hs => ?_) (fun hs => ?_))
 ·refine Y2p ?_
  obtain rfl : sl = none := by simpa using hs
  obtain ⟨h3, h4⟩ := hr.at_ h
  have h5 : L.length = 0 := by rcases h4 with h | ⟨b, o, h, _⟩; exact h; cases h
  obtain rfl : L = [] := List.eq_nil_of_length_eq_zero h5
  exact qq (qv (bq1 ⟨none, 0, rfl, St.ownNil _ _ h⟩))
 ·refine Yh ?_; refine Y1 ?_
  refine qw rfl (q5 (r := []) h rfl rfl rfl fun b w h => ?_)
  refine Yp ?_
  have h1 : St w0 (Own 58 2 (some ⟨b, 0, none⟩) 0 0 [] :: l) w := St.own_mk (cur := []) h rfl rfl (Nat.le_refl _)
  refine qw rfl (qa (zs := smpsV L) (m3 := L.length) h1 rfl rfl (hr.at_ h1.drop) (smps_one _) O0 (List.nil_append _) O0 O0 rfl fun a c' w hn h => ?_)
  refine Yx ?_
  exact qq (qv (bq1 ⟨a, c', rfl, h⟩))
theorem pace_step {p : Nat} {s : WkS} {rest : List Value} {T : TypeId} (n : Int) (hlf : -200000 ≤ s.lf ∧ s.lf ≤ 200000) (h : St w0 (pt p (.cells (paceC s rest).toArray T (0, 0)) :: l) w) :
  Ret Tryz.prog 102 [.pointer (some ⟨p, 0, none⟩), .int .i64 n] w fun v w' => v = .bool (s.more n) ∧ St w0 (pt p (.cells (paceC (s.step n) rest).toArray T (0, 0)) :: l) w' := by
 obtain ⟨h1, h2⟩ := hlf
 obtain ⟨hc1, hc2⟩ := clampN_le n
 obtain ⟨bg, ov, lf, bd⟩ := s
 dsimp only at h1 h2
 refine enter Tryz.func102 rfl Tryz.results102 Tryz.ntmps102 rfl ?_
 refine Y2a ?_; refine Y3w ?_
 refine qz (qk (v := .bool ov) rfl (h.b 0 rfl) rfl) rfl ?_
 refine Y3 ?_
 cases ov with
 | true =>
  refine Y1o ?_; refine Y2a ?_
  exact qv (bq1 ⟨rfl, h⟩)
 | false =>
  refine Y3o ?_; refine Yu ?_
  refine qz (qk (v := .int .i64 lf) rfl (h.b 0 rfl) rfl) rfl ?_
  refine Y0 ?_; refine Y3g ?_
  refine qg (.int .i64 (clampN n)) (by unfold clampN; rfl) ?_
  refine Y1p ?_
  refine qg (.int .i64 (lf - clampN n)) O13 ?_
  refine Y12 ?_
  refine qw rfl (q8 0 h rfl (show _ = Value.int .i64 (lf - clampN n) from rfl) rfl rfl rfl rfl fun w h => ?_)
  replace h : St w0 (pt p (.cells (.bool bg :: .bool false :: .int .i64 (lf - clampN n) :: rest).toArray T (0, 0)) :: l) w := h
  refine Y2v ?_; refine Y2q ?_
  refine qz (qk (v := .int .i64 (lf - clampN n)) rfl (h.b 0 rfl) rfl) rfl ?_
  refine Y4x ?_; refine Y12 ?_
  refine qw rfl (q8 0 h rfl (show _ = Value.bool (decide (lf - clampN n ≤ 0)) from rfl) rfl rfl rfl rfl fun w h => ?_)
  replace h : St w0 (pt p (.cells (.bool bg :: .bool (decide (lf - clampN n ≤ 0)) :: .int .i64 (lf - clampN n) :: rest).toArray T (0, 0)) :: l) w := h
  refine Y3 ?_; refine Yu ?_
  refine qz (qk (v := .bool (decide (lf - clampN n ≤ 0))) rfl (h.b 0 rfl) rfl) rfl ?_
  refine Y1j ?_; refine Yc ?_
  exact qv (bq1 ⟨rfl, h⟩)
abbrev DecPt (p : Nat) (s : WkS) (ba : Option Addr) (m bc : Nat) (la : Option Addr) (n lc : Nat) : HProp := pt p (.cells (decC s ba m bc la n lc).toArray 201 (0, 0))
theorem work_NewDecoder {sl : Option Addr} {c : Nat} {bs : List UInt8} (hn : bs.length ≤ 140737488355328) (hr : Reads w0 l 1 sl bs.length (bytesV bs)) (h : St w0 l w) :
  Ret Tryz.prog 100 [.slice sl bs.length c] w fun v w' => ∃ p ba bc, v = .pointer (some ⟨p, 0, none⟩) ∧ St w0 (DecPt p ⟨false, false, 0, false⟩ ba bs.length bc none 0 0 :: OwnB ba bc bs :: l) w' := by
 refine enter Tryz.func100 rfl Tryz.results100 Tryz.ntmps100 rfl ?_
 refine Y1 ?_; refine Y1d ?_; refine Y5 ?_
 refine qw rfl (qj rfl (bytes_Clone h hr.rd hn) ?_)
 rintro _ w ⟨ba, bc, rfl, h⟩
 refine qz (qe (r := decC ⟨false, false, 0, false⟩ ba bs.length bc none 0 0) rfl) rfl ?_
 refine qw rfl (jy h (show _ = Value.agg (decC ⟨false, false, 0, false⟩ ba bs.length bc none 0 0).toArray from rfl) fun p w h => ?_)
 refine Y1d ?_
 exact qv (bq1 ⟨p, ba, bc, rfl, h⟩)
def decL (bs : List UInt8) : List Smp := ((chOpen bs).map Prod.fst).getD []
def decBegin (bs : List UInt8) : WkS := ⟨true, false, (decL bs).length, !(chOpen bs).isSome⟩
theorem dec_Step0 (hT : Tz w0) {p : Nat} {ba : Option Addr} {bc : Nat} {bs : List UInt8} (n : Int) (hn : bs.length ≤ 140737488355328) (h : St w0 (DecPt p ⟨false, false, 0, false⟩ ba bs.length bc none 0 0 :: OwnB ba bc bs :: l) w) :
  Ret Tryz.prog 62 [.pointer (some ⟨p, 0, none⟩), .int .i64 n] w fun v w' => ∃ la lc, v = .bool ((decBegin bs).more n) ∧ (decL bs).length ≤ 65535 ∧ St w0 (DecPt p ((decBegin bs).step n) ba bs.length bc la (decL bs).length lc :: OwnS la lc (decL bs) :: OwnB ba bc bs :: l) w' := by
 have hbc := (h.f 1).own_cases.2.1
 refine enter Tryz.func62 rfl Tryz.results62 Tryz.ntmps62 rfl ?_
 refine Y2a ?_
 refine qo (Γ := Option Addr × Nat) (fun _ => [(0, .pointer (some ⟨p, 0, none⟩)), (1, .int .i64 n)]) (fun q w => (decL bs).length ≤ 65535 ∧ St w0 (DecPt p (decBegin bs) ba bs.length bc q.1 (decL bs).length q.2 :: OwnS q.1 q.2 (decL bs) :: OwnB ba bc bs :: l) w) ?_ ?_
 ·refine Yu ?_; refine Y1h ?_
  refine qz (qk (v := .bool false) rfl (h.b 0 rfl) rfl) rfl ?_
  refine Y1j ?_; refine Yk ?_; refine Yu ?_
  refine qz (qk (v := .slice ba bs.length bc) rfl (h.b 0 rfl) rfl) rfl ?_
  refine qw rfl (qj rfl (chnk_Open hT hn hbc Reads.own.cons h) ?_)
  rintro _ w ⟨oa, oc, rfl, hwf, h⟩
  have hl16 : (decL bs).length ≤ 65535 := by
   unfold decL
   cases hO : chOpen bs with
   | none => exact Nat.zero_le _
   | some q => obtain ⟨M, t⟩ := q; exact (hwf M t hO).1
  replace h : St w0 (OwnS oa oc (decL bs) :: DecPt p ⟨false, false, 0, false⟩ ba bs.length bc none 0 0 :: OwnB ba bc bs :: l) w := h
  show Rn _ _ _ _ _ (upd _ _ (.tuple [.slice oa (decL bs).length oc, .int .i64 _, .bool (chOpen bs).isSome].toArray)) _
  refine Y3k ?_; refine Yx ?_; refine Yt ?_; refine Y23 ?_; refine Y1x ?_; refine Y1x ?_; refine Y1x ?_; refine Yp ?_; refine Y1l ?_; refine Y1r ?_; refine Y12 ?_; refine Y1h ?_
  refine qw rfl (q8 1 h rfl (show _ = Value.bool true from rfl) rfl rfl rfl rfl fun w h => ?_)
  refine Y12 ?_
  refine qw rfl (q8 1 h rfl (show _ = Value.slice oa (decL bs).length oc from rfl) rfl rfl rfl rfl fun w h => ?_)
  refine Y12 ?_
  refine qw rfl (q8 1 h rfl (show _ = Value.bool (!(chOpen bs).isSome) from rfl) rfl rfl rfl rfl fun w h => ?_)
  refine Y12 ?_; refine Y1h ?_
  refine qw rfl (q8 1 h rfl (show _ = Value.int .i64 ((decL bs).length : Int) from rfl) rfl rfl rfl rfl fun w h => ?_)
  replace h : St w0 (OwnS oa oc (decL bs) :: DecPt p (decBegin bs) ba bs.length bc oa (decL bs).length oc :: OwnB ba bc bs :: l) w := h
  exact qq ⟨(oa, oc), ⟨rfl, rfl, trivial⟩, hl16, h.f 1⟩
 clear h
 rintro ⟨la, lc⟩ w e ⟨hl16, h⟩
 dsimp only at h ⊢
 refine Yu ?_; refine Y0 ?_
 refine qw rfl (qj rfl (pace_step (s := decBegin bs) n (by unfold decBegin; dsimp only; omega) h) ?_)
 rintro _ w ⟨rfl, h⟩
 refine Yc ?_
 exact qv (bq1 ⟨la, lc, rfl, hl16, h⟩)
theorem dec_Step {p : Nat} {s : WkS} {ba : Option Addr} {bm bc : Nat} {la : Option Addr} {m lc : Nat} (n : Int) (hb : s.bg = true) (hlf : -200000 ≤ s.lf ∧ s.lf ≤ 200000) (h : St w0 (DecPt p s ba bm bc la m lc :: l) w) :
  Ret Tryz.prog 62 [.pointer (some ⟨p, 0, none⟩), .int .i64 n] w fun v w' => v = .bool (s.more n) ∧ St w0 (DecPt p (s.step n) ba bm bc la m lc :: l) w' := by
 refine enter Tryz.func62 rfl Tryz.results62 Tryz.ntmps62 rfl ?_
 refine Y2a ?_; refine Y3w ?_; refine Y1h ?_
 refine qz (qk (v := .bool s.bg) rfl (h.b 0 rfl) rfl) rfl ?_
 rw [hb]
 refine Y1j ?_; refine Y9 ?_; refine Yu ?_; refine Y0 ?_
 refine qw rfl (qj rfl (pace_step (s := s) n hlf h) ?_)
 rintro _ w ⟨rfl, h⟩
 refine Yc ?_
 exact qv (bq1 ⟨rfl, h⟩)
theorem dec_Done {p : Nat} {s : WkS} {ba : Option Addr} {bm bc : Nat} {la : Option Addr} {lc : Nat} {L : List Smp} (hn : L.length ≤ 1073741824) (hr : Reads w0 (DecPt p s ba bm bc la L.length lc :: l) 2 la L.length (smpsV L)) (h : St w0 (DecPt p s ba bm bc la L.length lc :: l) w) :
  Ret Tryz.prog 103 [.pointer (some ⟨p, 0, none⟩)] w fun v w' => ∃ a c, v = .tuple [.slice a (if s.ov = true ∧ s.bad = false then L else []).length c, .bool (s.ov && !s.bad)].toArray ∧ St w0 (OwnS a c (if s.ov = true ∧ s.bad = false then L else []) :: DecPt p s ba bm bc la L.length lc :: l) w' := by
 obtain ⟨bg, ov, lf, bd⟩ := s
 dsimp only
 refine enter Tryz.func103 rfl Tryz.results103 Tryz.ntmps103 rfl ?_
 refine Y18 ?_; refine Y3w ?_; refine Y1h ?_
 refine qz (qk (v := .bool ov) rfl (h.b 0 rfl) rfl) rfl ?_
 cases ov with
 | false =>
  refine Y1j ?_; refine Y2g ?_; refine Y2t ?_
  rw [if_neg O7]
  exact qv (bq2 ⟨none, 0, rfl, St.ownNil _ _ h⟩)
 | true =>
  refine Y1j ?_; refine Y38 ?_; refine Y19 ?_; refine Y4b ?_
  refine qz (qk (v := .bool bd) rfl (h.b 0 rfl) rfl) rfl ?_
  refine Y8 ?_
  cases bd with
  | true =>
   refine Y2t ?_
   rw [if_neg O7]
   exact qv (bq2 ⟨none, 0, rfl, St.ownNil _ _ h⟩)
  | false =>
   refine Y9 ?_; refine Yu ?_
   refine qz (qk (v := .slice la L.length lc) rfl (h.b 0 rfl) rfl) rfl ?_
   refine qw rfl (qj rfl (smps_Clone h hr hn) ?_)
   rintro _ w ⟨a, c, rfl, h⟩
   refine Yv ?_
   rw [if_pos ⟨rfl, rfl⟩]
   exact qv (bq2 ⟨a, c, rfl, h⟩)
end
end Go.Proofs.YtnnehiiblfmpnaaGreatDoor

namespace Go.Hw
structure Cac where
 clk : Clk
 rows : List (Key3 × List Smp)
def Clk.page (q : Clk) (k : Key3) : Option Pg := (q.find k).bind fun i => q.pages[i]?
theorem St.vmap_none {w0 w : World} {l : List HProp} {κ α γ : Type} [DecidableEq κ] {kv : κ → Value} {vf : γ × α → Value} {R : γ → α → HProp} {b : Nat} {m : List (κ × α)} {k : κ} {p : Prop} (h : St w0 (VMap kv b vf R m :: l) w) (hk : mget k m = none)
  (kk : ∀ ps, IsMap kv w b ps → mget k ps = none → p) : p := by
 obtain ⟨mm, hmm, h0⟩ := St.vmap.1 h
 subst hmm
 have hk' := (vq (fun p : γ × α => p.2) k mm).symm.trans hk
 refine kk _ h0.isMap ?_
 rw [vq (fun p : γ × α => vf p) k mm]
 rw [Option.map_eq_none_iff] at hk' ⊢
 exact hk'
namespace Cac
def new (n : Int) : Cac := ⟨Clk.new n, []⟩
def get (C : Cac) (k : Key3) : Cac × Option (List Smp) := if (C.clk.touch k).2 then (⟨(C.clk.touch k).1, C.rows⟩, some ((mget k C.rows).getD [])) else (C, none)
def dels (m : List (Key3 × List Smp)) (ks : List Key3) : List (Key3 × List Smp) := ks.foldl (fun m x => mdel x m) m
def put (C : Cac) (k : Key3) (L : List Smp) : Cac × Bool := if (C.clk.lets k).2.2 then (⟨(C.clk.lets k).1, mset k L (dels C.rows (C.clk.lets k).2.1)⟩, true) else (C, false)
def pinN (C : Cac) (k : Key3) (n : Int) : Cac × Bool := if (C.clk.pin k n).2 then (⟨(C.clk.pin k n).1, C.rows⟩, true) else (C, false)
def unpin (C : Cac) (k : Key3) : Cac × Bool := match C.clk.page k with
 | some p => if 0 < p.pins then C.pinN k (-1) else (C, false)
 | none => (C, false)
def drop (C : Cac) (k : Key3) : Cac × Bool := match C.clk.page k with
 | some p => if 0 < p.pins then (C, false) else (⟨(C.clk.drop k).1, mdel k C.rows⟩, true)
 | none => (C, false)
structure Ok (C : Cac) : Prop where
 wf : C.clk.Wf
 len : C.clk.pages.length ≤ 100000
 res : (C.clk.count Pg.resident : Int) ≤ C.clk.most
 pins : ∀ p ∈ C.clk.pages, 0 ≤ p.pins ∧ p.pins ≤ 1099511627776
 rows : ∀ k L, mget k C.rows = some L → L.length ≤ 1073741824
end Cac
end Go.Hw
namespace Go.Proofs.YtnnehiiblfmpnaaGreatDoor
open Go.Hw
set_option maxHeartbeats 4000000
set_option maxRecDepth 100000
instance mkKey : MK Tryz.prog 72 Key3 (fun k => .agg k.C.toArray) :=
 MK.ints (P := Tryz.prog) (kt := 72) (ks := [.i64, .i64, .i64]) eqiKey (fun k : Key3 => [k.series, k.life, k.blob]) (fun _ => rfl) (fun a b h => by obtain ⟨_, _, _⟩ := a; obtain ⟨_, _, _⟩ := b; simpa using h) (fun e w k => by kernel_rfl)
abbrev rowF (x : (Option Addr × Nat) × List Smp) : Value := .slice x.1.1 x.2.length x.1.2
abbrev rowR (y : Option Addr × Nat) (L : List Smp) : HProp := OwnS y.1 y.2 L
abbrev CaPt (p : Nat) (a : Option Addr) (c m : Nat) (q : Clk) : HProp := pt p (.cells (q.C a c ++ [Value.map (some m)]).toArray 122 (0, 0))
abbrev RwMap (m : Nat) (rows : List (Key3 × List Smp)) : HProp := VMap (fun k : Key3 => .agg k.C.toArray) m rowF rowR rows
def IsCache (p : Nat) (C : Cac) : HProp := ex fun x : (Option Addr × Nat) × Nat => all [CaPt p x.1.1 x.1.2 x.2 C.clk, OwnPg x.1.1 x.1.2 C.clk.pages, RwMap x.2 C.rows]
section
variable {w0 w : World} {l : List HProp} {p : Nat} {C : Cac}
theorem St.cac : St w0 (IsCache p C :: l) w ↔ ∃ a c m, St w0 (CaPt p a c m C.clk :: OwnPg a c C.clk.pages :: RwMap m C.rows :: l) w := by
 unfold IsCache
 rw [St.ex]
 exact ⟨fun ⟨x, h⟩ => ⟨x.1.1, x.1.2, x.2, h.join⟩, fun ⟨a, c, m, h⟩ => ⟨((a, c), m), St.fold [_, _, _] h⟩⟩
theorem cac_reads {b a c m} {q : Clk} {M : List HProp} : Reads w0 (CaPt b a c m q :: OwnPg a c q.pages :: M) 7 a q.pages.length (pgsV q.pages) := Reads.own.cons
theorem cach_New (n : Int) (h : St w0 l w) : Ret Tryz.prog 24 [.int .i64 n] w fun v w' => ∃ p, v = .pointer (some ⟨p, 0, none⟩) ∧ St w0 (IsCache p (Cac.new n) :: l) w' := by
 refine enter Tryz.func24 rfl Tryz.results24 Tryz.ntmps24 rfl ?_
 refine Y1 ?_; refine Y1d ?_; refine Y4 ?_
 refine qw rfl (qj rfl (clok_New n h) ?_)
 clear h
 rintro _ w ⟨rfl, h⟩
 refine qw rfl (x_vmake (fun k : Key3 => .agg k.C.toArray) rowF rowR h fun m w h => ?_)
 refine qz (qe (r := (Clk.new n).C none 0 ++ [Value.map (some m)]) rfl) rfl ?_
 refine qw rfl (jy h (show _ = Value.agg ((Clk.new n).C none 0 ++ [Value.map (some m)]).toArray from rfl) fun p w h => ?_)
 refine Y4w ?_
 refine qq (qv (bq1 ⟨p, rfl, ?_⟩))
 exact St.cac.2 ⟨none, 0, m, (St.ownNil 137 7 h).f 1⟩
theorem cach_Frames (h : St w0 (IsCache p C :: l) w) : Ret Tryz.prog 33 [.pointer (some ⟨p, 0, none⟩)] w fun v w' => v = .int .i64 C.rows.length ∧ St w0 (IsCache p C :: l) w' := by
 obtain ⟨a, c, m, h⟩ := St.cac.1 h
 refine enter Tryz.func33 rfl Tryz.results33 Tryz.ntmps33 rfl ?_
 refine Yf ?_; refine Yu ?_
 refine qz (qk (v := .map (some m)) rfl (h.b 0 rfl) rfl) rfl ?_
 obtain ⟨ps, i1, i2, i3⟩ := (h.f 2).vmap_is
 refine qz (q_lenm rfl i1) rfl ?_
 rw [i3]
 refine Y2 ?_
 exact qq (qv (bq1 ⟨rfl, St.cac.2 ⟨a, c, m, h⟩⟩))
def pgZ : Pg := ⟨⟨0, 0, 0⟩, 0, false, false, 0⟩
theorem cach_page {k : Key3} (hC : C.Ok) (h : St w0 (IsCache p C :: l) w) : Ret Tryz.prog 67 [.pointer (some ⟨p, 0, none⟩), .agg k.C.toArray] w fun v w' => v = .tuple [.agg ((C.clk.page k).getD pgZ).C.toArray, .bool (C.clk.page k).isSome].toArray ∧ St w0 (IsCache p C :: l) w' := by
 obtain ⟨a, c, m, h⟩ := St.cac.1 h
 have hlen := hC.len
 refine enter Tryz.func67 rfl Tryz.results67 Tryz.ntmps67 rfl ?_
 refine Y1 ?_
 refine qw rfl (jy h (show _ = Value.agg k.C.toArray from rfl) fun b3 w h => ?_)
 refine qw rfl (q7 h fun b4 w h => ?_)
 replace h : St w0 (PgPt b4 pgZ :: KeyPt b3 k :: CaPt p a c m C.clk :: OwnPg a c C.clk.pages :: RwMap m C.rows :: l) w := h
 refine Yc ?_
 refine ql (jj none (fun w => St w0 (PgPt b4 pgZ :: KeyPt b3 k :: CaPt p a c m C.clk :: OwnPg a c C.clk.pages :: RwMap m C.rows :: l) w) O2 O2 h.drew fun w h => ?_)
 refine Yg ?_
 refine qu rfl rfl rfl rfl h (fun _ h => qm rfl (qf (l := C.clk.C a c) rfl rfl (qp (h.b 2 rfl) rfl))) ?_
 refine qu rfl rfl rfl rfl h (fun _ h => qm rfl (qf (l := k.C) rfl rfl (qp (h.b 1 rfl) rfl))) ?_
 refine Yz ?_
 refine qt 5 rfl rfl rfl rfl (qj rfl (clok_Find O0 (cac_reads.more [_, _]) h) ?_)
 clear h
 rintro _ w ⟨rfl, h⟩
 refine ⟨fun _ => h, ?_⟩
 refine Y2h ?_
 refine qi ?_
 refine Y3s ?_
 cases hf : C.clk.find k with
 | none =>
  have hp : C.clk.page k = none := by unfold Clk.page; rw [hf]; rfl
  refine Y28 ?_
  refine qz (qe (r := pgZ.C) rfl) rfl ?_
  refine qw rfl (qb (vs := pgZ.C) 0 h rfl rfl rfl rfl rfl rfl rfl fun w h => ?_)
  refine Ye ?_
  refine qq (qv ?_)
  refine bqct (v := .agg pgZ.C.toArray) (jx (by rfl) (qp (h.b 0 rfl) rfl)) ⟨by rw [hp]; rfl, ?_⟩
  exact St.cac.2 ⟨a, c, m, h.drop.drop⟩
 | some i =>
  obtain ⟨pg, hpg, _⟩ := Clk.find_some hf
  have hlt := (List.getElem?_eq_some_iff.1 hpg).1
  have hp : C.clk.page k = some pg := by unfold Clk.page; rw [hf]; exact hpg
  obtain ⟨g, rfl⟩ := hand_page hpg (h.f 3)
  refine qg (.bool false) (by congr 1) ?_
  refine Y9 ?_; refine Yu ?_; refine Y1h ?_
  refine qz (qk (v := .slice (some ⟨g, 0, none⟩) C.clk.pages.length c) rfl (h.b 2 rfl) rfl) rfl ?_
  refine Y0 ?_
  refine qz (qn (j := i) (o' := 0 + i * 7) rfl rfl rfl hlt rfl) rfl ?_
  refine qz (qf (l := pg.C) rfl rfl (((h.f 3).own_rd).elem gw hpg)) rfl ?_
  refine qw rfl (qb (vs := pg.C) 0 h rfl rfl rfl rfl rfl rfl rfl fun w h => ?_)
  refine Ye ?_
  refine qq (qv ?_)
  refine bqct (v := .agg pg.C.toArray) (jx (by rfl) (qp (h.b 0 rfl) rfl)) ⟨by rw [hp]; rfl, ?_⟩
  exact St.cac.2 ⟨_, c, m, h.drop.drop⟩
theorem cach_pin {k : Key3} {n : Int} (hn : -1 ≤ n ∧ n ≤ 1) (hC : C.Ok) (h : St w0 (IsCache p C :: l) w) : Ret Tryz.prog 66 [.pointer (some ⟨p, 0, none⟩), .agg k.C.toArray, .int .i64 n] w fun v w' => v = .bool (C.pinN k n).2 ∧ St w0 (IsCache p (C.pinN k n).1 :: l) w' := by
 obtain ⟨a, c, m, h⟩ := St.cac.1 h
 have hlen := hC.len
 refine enter Tryz.func66 rfl Tryz.results66 Tryz.ntmps66 rfl ?_
 refine Y1 ?_
 refine qw rfl (jy h (show _ = Value.agg k.C.toArray from rfl) fun b3 w h => ?_)
 replace h : St w0 (KeyPt b3 k :: CaPt p a c m C.clk :: OwnPg a c C.clk.pages :: RwMap m C.rows :: l) w := h
 refine Yc ?_
 refine qo (Γ := (Option Addr × Nat) × Nat) (fun x => [(0, .pointer (some ⟨p, 0, none⟩)), (7, .pointer (some ⟨x.2, 0, none⟩)), (8, .bool (C.clk.pin k n).2)]) (fun x w => St w0 (ClkPt x.2 x.1.1 x.1.2 (C.clk.pin k n).1 :: OwnPg x.1.1 x.1.2 (C.clk.pin k n).1.pages :: KeyPt b3 k :: CaPt p a c m C.clk :: OwnPg a c C.clk.pages :: RwMap m C.rows :: l) w) ?_ ?_
 ·refine c_anyR [0, 1, 2, 3, 4, 5, 6, 7, 8, 11, 9, 10, 12] (some 11) (fun w => St w0 (KeyPt b3 k :: CaPt p a c m C.clk :: OwnPg a c C.clk.pages :: RwMap m C.rows :: l) w) O2 O2 h.drew fun w h => ?_
  refine Yg ?_
  refine qu rfl rfl rfl rfl h (fun _ h => qm rfl (qf (l := C.clk.C a c) rfl rfl (qp (h.b 1 rfl) rfl))) ?_
  refine qu rfl rfl rfl rfl h (fun _ h => qm rfl (qf (l := k.C) rfl rfl (qp (h.b 0 rfl) rfl))) ?_
  refine Yj ?_; refine Y13 ?_; refine Y1m ?_
  refine cur_two 6 10 rfl rfl rfl rfl rfl rfl ?_ ?_
  ·refine qj rfl (clok_Pin hC.pins hn O0 (cac_reads.more [_]) h) ?_
   clear h
   rintro _ w ⟨a', c', rfl, h⟩
   refine ⟨fun _ => h.drop, ?_⟩
   have h1 := h
   replace h := h1.drop
   refine Y4v ?_; refine Y1m ?_
   refine qt 10 rfl rfl rfl rfl ?_
   refine q7 h1 fun b7 w h1 => ?_
   have h := h1.drop.drop
   refine ⟨fun _ => h, ?_⟩
   refine Yz ?_
   refine j9 11 none rfl rfl rfl rfl ?_
   refine (qb (vs := (C.clk.pin k n).1.C a' c') 0 h1 rfl rfl rfl rfl rfl rfl rfl fun w h => ?_)
   refine gq h ?_
   refine Y3l ?_
   refine qi ⟨((a', c'), b7), ⟨rfl, rfl, rfl, trivial⟩, h⟩
  ·refine q7 h fun b7 w h1 => ?_
   have h := h1.drop
   refine ⟨fun _ => h, ?_⟩
   refine Y40 ?_
   refine qt 6 rfl rfl rfl rfl ?_
   refine qj rfl (clok_Pin hC.pins hn O0 (cac_reads.more [_, _]) h1) ?_
   clear h h1
   rintro _ w ⟨a', c', rfl, h1⟩
   have h := h1.drop.drop
   refine ⟨fun _ => h, ?_⟩
   refine Y4v ?_; refine Yz ?_
   refine j9 11 none rfl rfl rfl rfl ?_
   refine (qb (vs := (C.clk.pin k n).1.C a' c') 1 h1 rfl rfl rfl rfl rfl rfl rfl fun w h => ?_)
   refine gq h ?_
   refine Y3l ?_
   refine qi ⟨((a', c'), b7), ⟨rfl, rfl, rfl, trivial⟩, h.f 1⟩
 rintro ⟨⟨a', c'⟩, b7⟩ w e h
 refine Y44 ?_; refine Y2u ?_; refine Y3 ?_
 cases hp : (C.clk.pin k n).2 with
 | false =>
  have e1 : C.pinN k n = (C, false) := by unfold Cac.pinN; rw [hp]; rfl
  refine Y3o ?_; refine Y2x ?_; refine Ye ?_
  refine qq (qv (bq1 ⟨by rw [e1]; rfl, ?_⟩))
  rw [e1]
  exact St.cac.2 ⟨a, c, m, h.x [0, 1, 2]⟩
 | true =>
  have e1 : C.pinN k n = (⟨(C.clk.pin k n).1, C.rows⟩, true) := by unfold Cac.pinN; rw [hp]; rfl
  refine Y1o ?_; refine Y23 ?_
  refine qz (qf (l := (C.clk.pin k n).1.C a' c') rfl rfl (qp (h.b 0 rfl) rfl)) rfl ?_
  refine Y12 ?_
  refine qw rfl (qb (vs := (C.clk.pin k n).1.C a' c') 3 h rfl rfl rfl rfl rfl rfl rfl fun w h => ?_)
  refine Y3 ?_; refine Y2x ?_; refine Ye ?_
  refine qq (qv (bq1 ⟨by rw [e1]; rfl, ?_⟩))
  rw [e1]
  exact St.cac.2 ⟨a', c', m, (h.x [0, 2, 4]).f 1⟩
theorem cach_Pin {k : Key3} (hC : C.Ok) (h : St w0 (IsCache p C :: l) w) : Ret Tryz.prog 31 [.pointer (some ⟨p, 0, none⟩), .agg k.C.toArray] w fun v w' => v = .bool (C.pinN k 1).2 ∧ St w0 (IsCache p (C.pinN k 1).1 :: l) w' := by
 refine enter Tryz.func31 rfl Tryz.results31 Tryz.ntmps31 rfl ?_
 refine Y1 ?_
 refine qw rfl (jy h (show _ = Value.agg k.C.toArray from rfl) fun b3 w h => ?_)
 refine Yc ?_; refine Yr ?_
 refine qz (qf (l := k.C) rfl rfl (qp (h.b 0 rfl) rfl)) rfl ?_
 refine qw rfl (qj rfl (cach_pin (n := 1) O0 hC (h.f 1)) ?_)
 clear h
 rintro _ w ⟨rfl, h⟩
 refine Ye ?_
 exact qq (qv (bq1 ⟨rfl, h.x [1]⟩))
theorem cach_Unpin {k : Key3} (hC : C.Ok) (h : St w0 (IsCache p C :: l) w) : Ret Tryz.prog 32 [.pointer (some ⟨p, 0, none⟩), .agg k.C.toArray] w fun v w' => v = .bool (C.unpin k).2 ∧ St w0 (IsCache p (C.unpin k).1 :: l) w' := by
 refine enter Tryz.func32 rfl Tryz.results32 Tryz.ntmps32 rfl ?_
 refine Y1 ?_
 refine qw rfl (jy h (show _ = Value.agg k.C.toArray from rfl) fun b3 w h => ?_)
 replace h : St w0 (KeyPt b3 k :: IsCache p C :: l) w := h
 refine Yc ?_; refine Yr ?_
 refine qz (qf (l := k.C) rfl rfl (qp (h.b 0 rfl) rfl)) rfl ?_
 have hpg := cach_page (k := k) hC (h.f 1)
 clear h
 cases hp : C.clk.page k with
 | none =>
  rw [hp] at hpg
  have e1 : C.unpin k = (C, false) := by unfold Cac.unpin; rw [hp]
  refine qw rfl (qj rfl hpg ?_)
  rintro _ w ⟨rfl, h⟩
  refine Y2j ?_
  refine qw rfl (q7 h fun b5 w h => ?_)
  refine qw rfl (qb (vs := pgZ.C) 0 h rfl rfl rfl rfl rfl rfl rfl fun w h => ?_)
  refine Yc ?_; refine Y2x ?_; refine Y15 ?_; refine Y30 ?_; refine Y15 ?_; refine Y30 ?_; refine Ye ?_
  refine qq (qv (bq1 ⟨by rw [e1]; rfl, ?_⟩))
  rw [e1]
  exact h.x [0, 2]
 | some pg =>
  rw [hp] at hpg
  refine qw rfl (qj rfl hpg ?_)
  rintro _ w ⟨rfl, h⟩
  refine Y2j ?_
  refine qw rfl (q7 h fun b5 w h => ?_)
  refine qw rfl (qb (vs := pg.C) 0 h rfl rfl rfl rfl rfl rfl rfl fun w h => ?_)
  replace h : St w0 (PgPt b5 pg :: IsCache p C :: KeyPt b3 k :: l) w := h
  refine Yc ?_; refine Y2x ?_; refine Y3i ?_
  refine qz (qk (v := .int .i64 pg.pins) rfl (h.b 0 rfl) rfl) rfl ?_
  refine Y7 ?_; refine Y1q ?_
  by_cases hpos : 0 < pg.pins
  ·have e1 : C.unpin k = C.pinN k (-1) := by unfold Cac.unpin; rw [hp]; exact if_pos hpos
   refine qg (.bool true) O10 ?_
   refine Yi ?_; refine Y38 ?_
   refine qz (qf (l := k.C) rfl rfl (qp (h.b 2 rfl) rfl)) rfl ?_
   refine Y7 ?_
   refine qw rfl (qj rfl (cach_pin (n := -1) O0 hC (h.f 1)) ?_)
   clear h
   rintro _ w ⟨rfl, h⟩
   refine Y4m ?_
   refine qq (qv (bq1 ⟨by rw [e1]; rfl, ?_⟩))
   rw [e1]
   exact h.x [1, 2]
  ·have e1 : C.unpin k = (C, false) := by unfold Cac.unpin; rw [hp]; exact if_neg hpos
   refine qg (.bool false) O11 ?_
   refine Yi ?_; refine Y15 ?_; refine Y30 ?_; refine Ye ?_
   refine qq (qv (bq1 ⟨by rw [e1]; rfl, ?_⟩))
   rw [e1]
   exact h.x [0, 2]
theorem admit_len (q : Clk) (k : Key3) : (q.lets k).2.1.length ≤ 1 := by
 have hr : ∀ q : Clk, q.room.2.length ≤ 1 := by
  intro q
  unfold Clk.room
  split
  ·cases q.coldTurns.2 <;> simp
  ·simp
 unfold Clk.lets
 split
 ·simp
 ·split
  ·simp
  ·exact hr _
theorem key_len (k : Key3) : k.C.length = 3 := rfl
theorem cach_Put {k : Key3} {sl : Option Addr} {c0 : Nat} {L : List Smp} (hC : C.Ok) (hr : Reads w0 l 2 sl L.length (smpsV L)) (hL : L.length ≤ 1073741824) (h : St w0 (IsCache p C :: l) w) :
  Ret Tryz.prog 30 [.pointer (some ⟨p, 0, none⟩), .agg k.C.toArray, .slice sl L.length c0] w fun v w' => v = .bool (C.put k L).2 ∧ St w0 (IsCache p (C.put k L).1 :: l) w' := by
 obtain ⟨a, c, m, h⟩ := St.cac.1 h
 have hlen := hC.len
 refine enter Tryz.func30 rfl Tryz.results30 Tryz.ntmps30 rfl ?_
 refine Y1 ?_
 refine qw rfl (jy h (show _ = Value.agg k.C.toArray from rfl) fun b4 w h => ?_)
 replace h : St w0 (KeyPt b4 k :: CaPt p a c m C.clk :: OwnPg a c C.clk.pages :: RwMap m C.rows :: l) w := h
 refine Yc ?_
 refine qo (Γ := ((Option Addr × Nat) × Nat) × (Option Addr × Nat)) (fun x => [(0, .pointer (some ⟨p, 0, none⟩)), (2, .slice sl L.length c0), (4, .pointer (some ⟨b4, 0, none⟩)), (7, .pointer (some ⟨x.1.2, 0, none⟩)), (8, .slice x.2.1 (C.clk.lets k).2.1.length x.2.2), (9, .bool (C.clk.lets k).2.2)])
  (fun x w => St w0 (ClkPt x.1.2 x.1.1.1 x.1.1.2 (C.clk.lets k).1 :: OwnPg x.1.1.1 x.1.1.2 (C.clk.lets k).1.pages :: OwnKs x.2.1 x.2.2 (C.clk.lets k).2.1 :: KeyPt b4 k :: CaPt p a c m C.clk :: OwnPg a c C.clk.pages :: RwMap m C.rows :: l) w) ?_ ?_
 ·refine c_anyR [0, 1, 2, 3, 4, 5, 6, 7, 10, 12, 8, 9, 11, 13] (some 11) (fun w => St w0 (KeyPt b4 k :: CaPt p a c m C.clk :: OwnPg a c C.clk.pages :: RwMap m C.rows :: l) w) O2 O2 h.drew fun w h => ?_
  refine Yg ?_
  refine qu rfl rfl rfl rfl h (fun _ h => qm rfl (qf (l := C.clk.C a c) rfl rfl (qp (h.b 1 rfl) rfl))) ?_
  refine qu rfl rfl rfl rfl h (fun _ h => qm rfl (qf (l := k.C) rfl rfl (qp (h.b 0 rfl) rfl))) ?_
  refine Y13 ?_; refine Y13 ?_; refine Yl ?_
  refine cur_two 5 10 rfl rfl rfl rfl rfl rfl ?_ ?_
  ·refine qj rfl (clok_Admit hC.wf hlen hC.res (cac_reads.more [_]) h) ?_
   clear h
   rintro _ w ⟨a', c', ao, co, rfl, h1⟩
   have h := h1.drop.drop
   refine ⟨fun _ => h, ?_⟩
   refine Y4v ?_; refine Y55 ?_; refine Y13 ?_
   refine qt 10 rfl rfl rfl rfl ?_
   refine q7 h1 fun b7 w h1 => ?_
   have h := h1.drop.drop.drop
   refine ⟨fun _ => h, ?_⟩
   refine Y1m ?_
   refine j9 11 none rfl rfl rfl rfl ?_
   refine (qb (vs := (C.clk.lets k).1.C a' c') 0 h1 rfl rfl rfl rfl rfl rfl rfl fun w h => ?_)
   refine gq h ?_
   refine Y1t ?_; refine Y3l ?_
   refine qi ⟨(((a', c'), b7), (ao, co)), ⟨rfl, rfl, rfl, rfl, rfl, rfl, trivial⟩, h⟩
  ·refine q7 h fun b7 w h1 => ?_
   have h := h1.drop
   refine ⟨fun _ => h, ?_⟩
   refine Y13 ?_; refine Y13 ?_
   refine qt 5 rfl rfl rfl rfl ?_
   refine qj rfl (clok_Admit hC.wf hlen hC.res (cac_reads.more [_, _]) h1) ?_
   clear h h1
   rintro _ w ⟨a', c', ao, co, rfl, h1⟩
   have h := h1.drop.drop.drop
   refine ⟨fun _ => h, ?_⟩
   refine Y4v ?_; refine Y55 ?_; refine Y1m ?_
   refine j9 11 none rfl rfl rfl rfl ?_
   refine (qb (vs := (C.clk.lets k).1.C a' c') 2 h1 rfl rfl rfl rfl rfl rfl rfl fun w h => ?_)
   refine gq h ?_
   refine Y1t ?_; refine Y3l ?_
   refine qi ⟨(((a', c'), b7), (ao, co)), ⟨rfl, rfl, rfl, rfl, rfl, rfl, trivial⟩, h.f 2⟩
 rintro ⟨⟨⟨a', c'⟩, b7⟩, ao, co⟩ w e h
 replace h : St w0 (ClkPt b7 a' c' (C.clk.lets k).1 :: OwnPg a' c' (C.clk.lets k).1.pages :: OwnKs ao co (C.clk.lets k).2.1 :: KeyPt b4 k :: CaPt p a c m C.clk :: OwnPg a c C.clk.pages :: RwMap m C.rows :: l) w := h
 have hk1 := admit_len C.clk k
 obtain ⟨ks, hks⟩ : ∃ ks, (C.clk.lets k).2.1 = ks := ⟨_, rfl⟩
 have hpt := @Cac.put.eq_1 C k L
 rw [hks] at hk1 h hpt
 refine Y1s ?_; refine Y3 ?_
 cases hp : (C.clk.lets k).2.2 with
 | false =>
  rw [hp] at hpt
  have e1 : C.put k L = (C, false) := hpt
  refine Y1o ?_; refine Y3t ?_
  refine qq (qv (bq1 ⟨by rw [e1]; rfl, ?_⟩))
  rw [e1]
  exact St.cac.2 ⟨a, c, m, h.x [0, 1, 2, 3]⟩
 | true =>
  rw [hp] at hpt
  have e1 : C.put k L = (⟨(C.clk.lets k).1, mset k L (Cac.dels C.rows ks)⟩, true) := hpt
  clear hpt
  refine Y3o ?_; refine Yr ?_
  refine qz (qf (l := (C.clk.lets k).1.C a' c') rfl rfl (qp (h.b 0 rfl) rfl)) rfl ?_
  refine Y12 ?_
  refine qw rfl (qb (vs := (C.clk.lets k).1.C a' c') 4 h rfl rfl rfl rfl rfl rfl rfl fun w h => ?_)
  replace h : St w0 (ClkPt b7 a' c' (C.clk.lets k).1 :: OwnPg a' c' (C.clk.lets k).1.pages :: OwnKs ao co ks :: KeyPt b4 k :: CaPt p a' c' m (C.clk.lets k).1 :: OwnPg a c C.clk.pages :: RwMap m C.rows :: l) w := h
  replace h : St w0 (OwnPg a' c' (C.clk.lets k).1.pages :: OwnKs ao co ks :: KeyPt b4 k :: CaPt p a' c' m (C.clk.lets k).1 :: RwMap m C.rows :: l) w := h.x [0, 5]
  refine Y3 ?_
  refine qo (Γ := Unit) (fun _ => [(0, .pointer (some ⟨p, 0, none⟩)), (2, .slice sl L.length c0), (4, .pointer (some ⟨b4, 0, none⟩))]) (fun _ w => St w0 (OwnPg a' c' (C.clk.lets k).1.pages :: OwnKs ao co ks :: KeyPt b4 k :: CaPt p a' c' m (C.clk.lets k).1 :: RwMap m (Cac.dels C.rows ks) :: l) w) ?_ ?_
  ·refine Y1 ?_
   refine qz (q_moveS (a := ao) (m := ks.length) (c := co) (by rw [← hks]; rfl)) rfl ?_
   refine Y3a ?_; refine Y3f ?_
   refine qc (Γ := Nat) (fun i => [(0, .pointer (some ⟨p, 0, none⟩)), (2, .slice sl L.length c0), (4, .pointer (some ⟨b4, 0, none⟩)), (28, .slice ao ks.length co), (29, .int .i64 ks.length), (30, .int .i64 i)])
    (fun i w => i ≤ ks.length ∧ St w0 (OwnPg a' c' (C.clk.lets k).1.pages :: OwnKs ao co ks :: KeyPt b4 k :: CaPt p a' c' m (C.clk.lets k).1 :: RwMap m (Cac.dels C.rows (ks.take i)) :: l) w) (fun i => ks.length - i) 0 ⟨rfl, rfl, rfl, rfl, rfl, rfl, trivial⟩ ⟨Nat.zero_le _, h⟩ ?_
   clear h
   rintro i w e ⟨hi, h⟩
   refine Y1 ?_; refine Ys ?_
   by_cases hlt : i < ks.length
   ·refine qg (.bool true) O10 ?_
    refine qq (ql (gf rfl (qr ?_)))
    have hget : ks[i]? = some ks[i] := List.getElem?_eq_getElem hlt
    generalize ks[i] = x at hget
    have hkr : Reads w0 (OwnPg a' c' (C.clk.lets k).1.pages :: OwnKs ao co ks :: KeyPt b4 k :: CaPt p a' c' m (C.clk.lets k).1 :: RwMap m (Cac.dels C.rows (ks.take i)) :: l) 3 ao ks.length (ksV ks) := Reads.own.cons
    have hcur := h
    obtain ⟨b2, o2, rfl⟩ := (hkr.at_ h).some O0
    have h := hcur
    refine Y1y ?_; refine Y1 ?_
    refine qz (qn (j := i) (o' := o2 + i * 3) rfl rfl rfl hlt rfl) rfl ?_
    refine qz (qf (l := x.C) rfl rfl ((hkr.at_ h).elem key_len hget)) rfl ?_
    refine qw rfl (q7 h fun b5 w h => ?_)
    refine qw rfl (qb (vs := x.C) 0 h rfl rfl rfl rfl rfl rfl rfl fun w h => ?_)
    replace h : St w0 (KeyPt b5 x :: OwnPg a' c' (C.clk.lets k).1.pages :: OwnKs (some ⟨b2, o2, none⟩) co ks :: KeyPt b4 k :: CaPt p a' c' m (C.clk.lets k).1 :: RwMap m (Cac.dels C.rows (ks.take i)) :: l) w := h
    refine Y3 ?_
    refine jj (some 5) (fun w => St w0 (KeyPt b5 x :: OwnPg a' c' (C.clk.lets k).1.pages :: OwnKs (some ⟨b2, o2, none⟩) co ks :: KeyPt b4 k :: CaPt p a' c' m (C.clk.lets k).1 :: RwMap m (Cac.dels C.rows (ks.take i)) :: l) w) O2 O2 h.drew fun w h => ?_
    refine Yg ?_
    refine qu rfl rfl rfl rfl h (fun _ h => qm rfl (qk (v := .map (some m)) rfl (h.b 4 rfl) rfl)) ?_
    refine qu rfl rfl rfl rfl h (fun _ h => qm rfl (qf (l := x.C) rfl rfl (qp (h.b 0 rfl) rfl))) ?_
    refine Yl ?_
    refine jd 5 rfl rfl rfl ?_
    refine x_vdel (k := x) (h.f 5) rfl rfl fun w h => ?_
    refine Yw ?_
    refine qg (.int .i64 (i + 1 : Nat)) O14 ?_
    refine Y0 ?_
    refine qq ⟨i + 1, ⟨rfl, rfl, rfl, rfl, rfl, rfl, trivial⟩, ⟨hlt, ?_⟩, by omega⟩
    have e2 : Cac.dels C.rows (ks.take (i + 1)) = mdel x (Cac.dels C.rows (ks.take i)) := by
     rw [List.take_add_one, hget, Cac.dels, List.foldl_append]; rfl
    rw [e2]
    exact (h.x [1]).o [1, 2, 3, 4, 0]
   ·refine qg (.bool false) O11 ?_
    refine qq (ql (q6 rfl (qd ?_)))
    obtain rfl : i = ks.length := by omega
    rw [List.take_length] at h
    refine Eq.mpr (if_pos rfl) ⟨(), ⟨rfl, rfl, rfl, trivial⟩, h⟩
  rintro - w e h
  refine ql (jj (some 7) (fun w => St w0 (OwnPg a' c' (C.clk.lets k).1.pages :: OwnKs ao co ks :: KeyPt b4 k :: CaPt p a' c' m (C.clk.lets k).1 :: RwMap m (Cac.dels C.rows ks) :: l) w) O2 O2 h.drew fun w h => ?_)
  refine Yg ?_
  refine qu rfl rfl rfl rfl h (fun _ h => qm rfl (qk (v := .map (some m)) rfl (h.b 3 rfl) rfl)) ?_
  refine qu rfl rfl rfl rfl h (fun _ h => qm rfl (qf (l := k.C) rfl rfl (qp (h.b 2 rfl) rfl))) ?_
  refine Y1i ?_; refine Yz ?_
  refine qt 6 rfl rfl rfl rfl ?_
  refine qj rfl (smps_Clone h (hr.more [_, _, _, _, _]) hL) ?_
  clear h
  rintro _ w ⟨a9, c9, rfl, h1⟩
  have h := h1.drop
  refine ⟨fun _ => h, ?_⟩
  refine Yl ?_
  refine jd 7 rfl rfl rfl ?_
  refine x_vset (vf := rowF) (R := rowR) (k := k) (u := (a9, c9)) (v := L) (h1.o [0, 5]) rfl rfl rfl fun w h => ?_
  clear h1
  refine Y3t ?_
  refine qq (qv (bq1 ⟨by rw [e1]; rfl, ?_⟩))
  rw [e1]
  exact St.cac.2 ⟨a', c', m, (h.x [2, 3]).o [2, 1, 0]⟩
theorem cach_Get {k : Key3} (hC : C.Ok) (h : St w0 (IsCache p C :: l) w) :
  Ret Tryz.prog 97 [.pointer (some ⟨p, 0, none⟩), .agg k.C.toArray] w fun v w' => ∃ a' c', v = .tuple [.slice a' ((C.get k).2.getD []).length c', .bool (C.get k).2.isSome].toArray ∧ St w0 (OwnS a' c' ((C.get k).2.getD []) :: IsCache p (C.get k).1 :: l) w' := by
 obtain ⟨a, c, m, h⟩ := St.cac.1 h
 have hlen := hC.len
 refine enter Tryz.func97 rfl Tryz.results97 Tryz.ntmps97 rfl ?_
 refine Y1 ?_
 refine qw rfl (jy h (show _ = Value.agg k.C.toArray from rfl) fun b3 w h => ?_)
 replace h : St w0 (KeyPt b3 k :: CaPt p a c m C.clk :: OwnPg a c C.clk.pages :: RwMap m C.rows :: l) w := h
 refine Yv ?_
 refine qo (Γ := (Option Addr × Nat) × Nat) (fun x => [(0, .pointer (some ⟨p, 0, none⟩)), (3, .pointer (some ⟨b3, 0, none⟩)), (6, .pointer (some ⟨x.2, 0, none⟩)), (7, .bool (C.clk.touch k).2)]) (fun x w => St w0 (ClkPt x.2 x.1.1 x.1.2 (C.clk.touch k).1 :: OwnPg x.1.1 x.1.2 (C.clk.touch k).1.pages :: KeyPt b3 k :: CaPt p a c m C.clk :: OwnPg a c C.clk.pages :: RwMap m C.rows :: l) w) ?_ ?_
 ·refine c_anyR [0, 1, 2, 3, 4, 5, 6, 7, 10, 8, 9, 11] (some 10) (fun w => St w0 (KeyPt b3 k :: CaPt p a c m C.clk :: OwnPg a c C.clk.pages :: RwMap m C.rows :: l) w) O2 O2 h.drew fun w h => ?_
  refine Yg ?_
  refine qu rfl rfl rfl rfl h (fun _ h => qm rfl (qf (l := C.clk.C a c) rfl rfl (qp (h.b 1 rfl) rfl))) ?_
  refine qu rfl rfl rfl rfl h (fun _ h => qm rfl (qf (l := k.C) rfl rfl (qp (h.b 0 rfl) rfl))) ?_
  refine Y13 ?_; refine Y1m ?_
  refine cur_two 5 9 rfl rfl rfl rfl rfl rfl ?_ ?_
  ·refine qj rfl (clok_Touch O0 (cac_reads.more [_]) h) ?_
   clear h
   rintro _ w ⟨a', c', rfl, h1⟩
   have h := h1.drop
   refine ⟨fun _ => h, ?_⟩
   refine Y4v ?_; refine Y1m ?_
   refine qt 9 rfl rfl rfl rfl ?_
   refine q7 h1 fun b7 w h1 => ?_
   have h := h1.drop.drop
   refine ⟨fun _ => h, ?_⟩
   refine Yz ?_
   refine j9 10 none rfl rfl rfl rfl ?_
   refine (qb (vs := (C.clk.touch k).1.C a' c') 0 h1 rfl rfl rfl rfl rfl rfl rfl fun w h => ?_)
   refine gq h ?_
   refine Y3l ?_
   refine qi ⟨((a', c'), b7), ⟨rfl, rfl, rfl, rfl, trivial⟩, h⟩
  ·refine q7 h fun b7 w h1 => ?_
   have h := h1.drop
   refine ⟨fun _ => h, ?_⟩
   refine Y40 ?_
   refine qt 5 rfl rfl rfl rfl ?_
   refine qj rfl (clok_Touch O0 (cac_reads.more [_, _]) h1) ?_
   clear h h1
   rintro _ w ⟨a', c', rfl, h1⟩
   have h := h1.drop.drop
   refine ⟨fun _ => h, ?_⟩
   refine Y4v ?_; refine Yz ?_
   refine j9 10 none rfl rfl rfl rfl ?_
   refine (qb (vs := (C.clk.touch k).1.C a' c') 1 h1 rfl rfl rfl rfl rfl rfl rfl fun w h => ?_)
   refine gq h ?_
   refine Y3l ?_
   refine qi ⟨((a', c'), b7), ⟨rfl, rfl, rfl, rfl, trivial⟩, h.f 1⟩
 rintro ⟨⟨a', c'⟩, b7⟩ w e h
 replace h : St w0 (ClkPt b7 a' c' (C.clk.touch k).1 :: OwnPg a' c' (C.clk.touch k).1.pages :: KeyPt b3 k :: CaPt p a c m C.clk :: OwnPg a c C.clk.pages :: RwMap m C.rows :: l) w := h
 refine Y1s ?_; refine Y3 ?_
 cases hp : (C.clk.touch k).2 with
 | false =>
  have e1 : C.get k = (C, none) := by unfold Cac.get; rw [hp]; rfl
  refine Y1o ?_; refine Y26 ?_
  rw [e1]
  refine qq (qv (bq2 ⟨none, 0, rfl, ?_⟩))
  exact St.ownNil 58 2 (St.cac.2 ⟨a, c, m, h.x [0, 1, 2]⟩)
 | true =>
  have e1 : C.get k = (⟨(C.clk.touch k).1, C.rows⟩, some ((mget k C.rows).getD [])) := by unfold Cac.get; rw [hp]; rfl
  rw [e1]
  refine Y3o ?_; refine Yr ?_
  refine qz (qf (l := (C.clk.touch k).1.C a' c') rfl rfl (qp (h.b 0 rfl) rfl)) rfl ?_
  refine Y12 ?_
  refine qw rfl (qb (vs := (C.clk.touch k).1.C a' c') 3 h rfl rfl rfl rfl rfl rfl rfl fun w h => ?_)
  replace h : St w0 (ClkPt b7 a' c' (C.clk.touch k).1 :: OwnPg a' c' (C.clk.touch k).1.pages :: KeyPt b3 k :: CaPt p a' c' m (C.clk.touch k).1 :: OwnPg a c C.clk.pages :: RwMap m C.rows :: l) w := h
  replace h : St w0 (OwnPg a' c' (C.clk.touch k).1.pages :: KeyPt b3 k :: CaPt p a' c' m (C.clk.touch k).1 :: RwMap m C.rows :: l) w := h.x [0, 4]
  refine Y3 ?_
  cases hg : mget k C.rows with
  | none =>
   refine ql (jj none (fun w => St w0 (OwnPg a' c' (C.clk.touch k).1.pages :: KeyPt b3 k :: CaPt p a' c' m (C.clk.touch k).1 :: RwMap m C.rows :: l) w) O2 O2 h.drew fun w h => ?_)
   refine Yg ?_
   refine qu rfl rfl rfl rfl h (fun _ h => qm rfl (qk (v := .map (some m)) rfl (h.b 2 rfl) rfl)) ?_
   refine qu rfl rfl rfl rfl h (fun _ h => qm rfl (qf (l := k.C) rfl rfl (qp (h.b 1 rfl) rfl))) ?_
   refine qu (v := .slice none 0 0) rfl rfl rfl rfl h (fun _ h => (h.f 3).vmap_none hg fun ps i1 i2 => qm rfl (qh (q_lookup1 (k := k) rfl rfl i1) (by rw [i2]; rfl))) ?_
   refine Y1m ?_
   refine qt 6 rfl rfl rfl rfl ?_
   refine qj rfl (smps_Clone (L := []) h Reads.nil O4) ?_
   clear h
   rintro _ w ⟨a9, c9, rfl, h1⟩
   have h := h1.drop
   refine ⟨fun _ => h, ?_⟩
   refine Y1t ?_; refine Y3l ?_
   refine qi (qv (bq2 ⟨a9, c9, rfl, ?_⟩))
   exact ((St.cac (C := ⟨(C.clk.touch k).1, C.rows⟩)).2 ⟨a', c', m, (h1.x [2]).o [2, 1, 3, 0]⟩).f 1
  | some L =>
   have hL := hC.rows k L hg
   obtain ⟨y, mm, e2, e3, h⟩ := (h.f 3).vopen hg
   have e4 := mget_vf (vf := rowF) e3
   refine ql (jj none (fun w => St w0 (rowR y L :: MapOf (fun k : Key3 => .agg k.C.toArray) m (mm.map fun p => (p.1, rowF p.2)) :: big (fun p => rowR p.2.1 p.2.2) (mdel k mm) :: OwnPg a' c' (C.clk.touch k).1.pages :: KeyPt b3 k :: CaPt p a' c' m (C.clk.touch k).1 :: l) w) O2 O2 h.drew fun w h => ?_)
   refine Yg ?_
   refine qu rfl rfl rfl rfl h (fun _ h => qm rfl (qk (v := .map (some m)) rfl (h.b 5 rfl) rfl)) ?_
   refine qu rfl rfl rfl rfl h (fun _ h => qm rfl (qf (l := k.C) rfl rfl (qp (h.b 4 rfl) rfl))) ?_
   refine qu (v := .slice y.1 L.length y.2) rfl rfl rfl rfl h (fun _ h => qm rfl (qh (q_lookup1 (k := k) rfl rfl (h.f 1).isMap) (by rw [e4]; rfl))) ?_
   refine Y1m ?_
   refine qt 6 rfl rfl rfl rfl ?_
   refine qj rfl (smps_Clone (L := L) h Reads.own hL) ?_
   clear h
   rintro _ w ⟨a9, c9, rfl, h1⟩
   have h := h1.drop
   refine ⟨fun _ => h, ?_⟩
   refine Y1t ?_; refine Y3l ?_
   refine qi (qv (bq2 ⟨a9, c9, rfl, ?_⟩))
   have h2 := St.vshut (vf := rowF) (R := rowR) e3 (h1.o [1, 2, 3])
   rw [e2] at h2
   exact ((St.cac (C := ⟨(C.clk.touch k).1, C.rows⟩)).2 ⟨a', c', m, (h2.x [3]).o [3, 2, 0, 1]⟩).f 1
end
end Go.Proofs.YtnnehiiblfmpnaaGreatDoor

namespace Go.Hw
def within (L : List Smp) (fr to : Int) : List Smp := L.filter fun s => decide (fr ≤ s.T) && decide (s.T ≤ to)
theorem within_take {L : List Smp} {k : Nat} {s : Smp} (hs : L[k]? = some s) (fr to : Int) : within (L.take (k + 1)) fr to = within (L.take k) fr to ++ (if fr ≤ s.T ∧ s.T ≤ to then [s] else []) := by
 rw [List.take_add_one, hs, within, List.filter_append]
 congr 1
 by_cases h : fr ≤ s.T ∧ s.T ≤ to
 ·rw [if_pos h]; simp [h.1, h.2]
 ·rw [if_neg h]
  simp only [Option.toList, List.filter_cons, List.filter_nil]
  rw [if_neg]
  simpa using h
theorem smps_take (l : List Smp) (i : Nat) : (smpsV l).take (i * 2) = smpsV (l.take i) := by
 induction l generalizing i with
 | nil => simp
 | cons a l ih =>
  cases i with
  | zero => simp
  | succ i =>
   rw [List.take_succ_cons, smpsV, smpsV, List.flatMap_cons, List.flatMap_cons, Nat.succ_mul, Nat.add_comm, List.take_append, js, Nat.add_sub_cancel_left, List.take_of_length_le (by rw [js]; omega)]
   exact congrArg _ (ih i)
theorem smps_drop (l : List Smp) (i : Nat) : (smpsV l).drop (i * 2) = smpsV (l.drop i) := by
 induction l generalizing i with
 | nil => simp
 | cons a l ih =>
  cases i with
  | zero => simp
  | succ i =>
   rw [List.drop_succ_cons, smpsV, smpsV, List.flatMap_cons, Nat.succ_mul, Nat.add_comm, List.drop_append, js, Nat.add_sub_cancel_left, List.drop_eq_nil_of_le (by rw [js]; omega), List.nil_append]
   exact ih i
end Go.Hw
namespace Go.Proofs.YtnnehiiblfmpnaaGreatDoor
open Go.Hw
set_option maxHeartbeats 4000000
set_option maxRecDepth 100000
structure Dcd where
 bs : List UInt8
 s : WkS
namespace Dcd
def new (bs : List UInt8) : Dcd := ⟨bs, ⟨false, false, 0, false⟩⟩
def on (d : Dcd) : WkS := if d.s.bg then d.s else decBegin d.bs
def step (d : Dcd) (n : Int) : Dcd := ⟨d.bs, d.on.step n⟩
def more (d : Dcd) (n : Int) : Bool := d.on.more n
def rows (d : Dcd) : List Smp := if d.s.bg then decL d.bs else []
def told (d : Dcd) : Option (List Smp) := if d.s.ov = true ∧ d.s.bad = false then some d.rows else none
structure Ok (d : Dcd) : Prop where
 bs : d.bs.length ≤ 140737488355328
 rows : d.rows.length ≤ 65535
 lf : -65535 ≤ d.s.lf ∧ d.s.lf ≤ 65535
 pos : d.s.ov = false → 0 ≤ d.s.lf
 fresh : d.s.bg = false → d.s = ⟨false, false, 0, false⟩
end Dcd
def IsDec (q : Nat) (d : Dcd) : HProp := ex fun x : (Option Addr × Nat) × (Option Addr × Nat) => all [lift (d.Ok ∧ (d.s.bg = false → x.2 = (none, 0))), DecPt q d.s x.1.1 d.bs.length x.1.2 x.2.1 d.rows.length x.2.2, OwnS x.2.1 x.2.2 d.rows, OwnB x.1.1 x.1.2 d.bs]
theorem WkS.step_ok {s : WkS} (n : Int) (h1 : -65535 ≤ s.lf ∧ s.lf ≤ 65535) (h2 : s.ov = false → 0 ≤ s.lf) : (-65535 ≤ (s.step n).lf ∧ (s.step n).lf ≤ 65535) ∧ ((s.step n).ov = false → 0 ≤ (s.step n).lf) := by
 have hc := clampN_le n
 obtain ⟨bg, ov, lf, bad⟩ := s
 cases ov with
 | true => exact ⟨h1, fun h => by simp [WkS.step] at h⟩
 | false =>
  have := h2 rfl
  simp only [WkS.step, Bool.false_or, Bool.false_eq_true, if_false, decide_eq_false_iff_not] at h1 this ⊢
  exact ⟨by omega, fun h => by omega⟩
section
variable {w0 w : World} {l : List HProp} {q : Nat} {d : Dcd}
theorem St.dec : St w0 (IsDec q d :: l) w ↔ ∃ ba bc la lc, (d.Ok ∧ (d.s.bg = false → la = none ∧ lc = 0)) ∧ St w0 (DecPt q d.s ba d.bs.length bc la d.rows.length lc :: OwnS la lc d.rows :: OwnB ba bc d.bs :: l) w := by
 unfold IsDec
 rw [St.ex]
 constructor
 ·rintro ⟨⟨⟨ba, bc⟩, la, lc⟩, h⟩
  have h := h.join
  have h := St.lift.1 h
  exact ⟨ba, bc, la, lc, ⟨h.1.1, fun hb => by have := h.1.2 hb; simpa using this⟩, h.2⟩
 ·rintro ⟨ba, bc, la, lc, ⟨h1, h2⟩, h⟩
  refine ⟨((ba, bc), (la, lc)), St.fold [_, _, _, _] (St.lift.2 ⟨⟨h1, fun hb => ?_⟩, h⟩)⟩
  obtain ⟨rfl, rfl⟩ := h2 hb
  rfl
theorem dec_new {sl : Option Addr} {c : Nat} {bs : List UInt8} (hn : bs.length ≤ 140737488355328) (hr : Reads w0 l 1 sl bs.length (bytesV bs)) (h : St w0 l w) :
  Ret Tryz.prog 100 [.slice sl bs.length c] w fun v w' => ∃ p, v = .pointer (some ⟨p, 0, none⟩) ∧ St w0 (IsDec p (Dcd.new bs) :: l) w' :=
 (work_NewDecoder hn hr h).mono fun v w' ⟨p, ba, bc, hv, h⟩ => ⟨p, hv, St.dec.2 ⟨ba, bc, none, 0, ⟨⟨hn, by simp [Dcd.rows, Dcd.new], by simp [Dcd.new], fun _ => by simp [Dcd.new], fun _ => rfl⟩, fun _ => ⟨rfl, rfl⟩⟩, (St.ownNil 58 2 h).f 1⟩⟩
theorem dec_step (hT : Tz w0) (n : Int) (h : St w0 (IsDec q d :: l) w) :
  Ret Tryz.prog 62 [.pointer (some ⟨q, 0, none⟩), .int .i64 n] w fun v w' => v = .bool (d.more n) ∧ St w0 (IsDec q (d.step n) :: l) w' := by
 obtain ⟨ba, bc, la, lc, ⟨hd, hf⟩, h⟩ := St.dec.1 h
 obtain ⟨bs, s⟩ := d
 cases hb : s.bg with
 | true =>
  have e1 : Dcd.on ⟨bs, s⟩ = s := by unfold Dcd.on; exact if_pos hb
  have h1 := hd.lf
  have h2 := hd.pos
  refine (dec_Step n hb (by dsimp only at h1; omega) h).mono fun v w' ⟨hv, h⟩ => ⟨by unfold Dcd.more; rw [e1]; exact hv, ?_⟩
  have hk := WkS.step_ok n h1 h2
  have e2 : Dcd.step ⟨bs, s⟩ n = ⟨bs, s.step n⟩ := by unfold Dcd.step; rw [e1]
  have e3 : Dcd.rows ⟨bs, s.step n⟩ = Dcd.rows ⟨bs, s⟩ := rfl
  rw [e2]
  have hbg : (s.step n).bg = true := hb
  refine St.dec.2 ⟨ba, bc, la, lc, ⟨⟨hd.bs, hd.rows, hk.1, hk.2, fun h => ?_⟩, fun h => ?_⟩, h⟩
  ·dsimp only at h; rw [hbg] at h; cases h
  ·dsimp only at h; rw [hbg] at h; cases h
 | false =>
  obtain ⟨rfl, rfl⟩ := hf hb
  have e0 := hd.fresh hb
  dsimp only at e0
  subst e0
  have e1 : Dcd.on ⟨bs, ⟨false, false, 0, false⟩⟩ = decBegin bs := rfl
  refine (dec_Step0 hT n hd.bs (h.x [1])).mono fun v w' ⟨la, lc, hv, hlen, h⟩ => ⟨hv, St.dec.2 ⟨ba, bc, la, lc, ⟨⟨hd.bs, hlen, ?_, ?_, fun h => by cases h⟩, fun h => by cases h⟩, h⟩⟩
  ·exact (WkS.step_ok n (s := decBegin bs) (by have h9 : (decL bs).length ≤ 65535 := hlen; unfold decBegin; dsimp only; omega) (fun _ => by unfold decBegin; dsimp only; omega)).1
  ·exact (WkS.step_ok n (s := decBegin bs) (by have h9 : (decL bs).length ≤ 65535 := hlen; unfold decBegin; dsimp only; omega) (fun _ => by unfold decBegin; dsimp only; omega)).2
theorem dec_done (h : St w0 (IsDec q d :: l) w) :
  Ret Tryz.prog 103 [.pointer (some ⟨q, 0, none⟩)] w fun v w' => ∃ a c, v = .tuple [.slice a (d.told.getD []).length c, .bool d.told.isSome].toArray ∧ St w0 (OwnS a c (d.told.getD []) :: IsDec q d :: l) w' := by
 obtain ⟨ba, bc, la, lc, ⟨hd, hf⟩, h⟩ := St.dec.1 h
 have hl := hd.rows
 refine (dec_Done O0 Reads.own.cons h).mono fun v w' ⟨a, c, hv, h⟩ => ⟨a, c, ?_, ?_⟩
 ·rw [hv]
  unfold Dcd.told
  by_cases hc : d.s.ov = true ∧ d.s.bad = false
  ·rw [if_pos hc, if_pos hc, hc.1, hc.2]; rfl
  ·rw [if_neg hc, if_neg hc]
   congr 4
   simp only [Option.isSome_none]
   cases h1 : d.s.ov <;> cases h2 : d.s.bad <;> simp_all
 ·have e : (if d.s.ov = true ∧ d.s.bad = false then d.rows else []) = d.told.getD [] := by unfold Dcd.told; split <;> rfl
  rw [e] at h
  exact (St.dec.2 ⟨ba, bc, la, lc, ⟨hd, hf⟩, h.f 0 |>.o [1, 2, 3, 0]⟩).f 1
theorem smps_Clip {a : Option Addr} {c n : Nat} {xs : List Value} (h : St w0 (Own 58 2 a n c xs :: l) w) : Ret Tryz.prog 193 [.slice a n c] w fun v w' => v = .slice a n n ∧ St w0 (Own 58 2 a n n xs :: l) w' := by
 have hc := h.own_cases.2.1
 refine enter Tryz.func193 rfl Tryz.results193 Tryz.ntmps193 rfl ?_
 refine Yn ?_; refine Y5 ?_; refine Y1r ?_; refine Y1r ?_
 refine qz (q_clip rfl rfl rfl (Nat.le_refl _) hc) rfl ?_
 refine Ym ?_
 exact qv (bq1 ⟨rfl, h.own_clip⟩)
theorem modl_Within {sl : Option Addr} {c : Nat} {L : List Smp} (fr to : Int) (hn : L.length ≤ 1073741824) (hr : Reads w0 l 2 sl L.length (smpsV L)) (h : St w0 l w) :
  Ret Tryz.prog 142 [.slice sl L.length c, .int .i64 fr, .int .i64 to] w fun v w' => ∃ a, v = .slice a (within L fr to).length (within L fr to).length ∧ St w0 (OwnS a (within L fr to).length (within L fr to) :: l) w' := by
 refine enter Tryz.func142 rfl Tryz.results142 Tryz.ntmps142 rfl ?_
 refine Y3j ?_
 refine qo (Γ := Option Addr × Nat) (fun y => [(7, .slice y.1 (within L fr to).length y.2)]) (fun y w => St w0 (OwnS y.1 y.2 (within L fr to) :: l) w) ?_ ?_
 ·refine Y21 ?_; refine Y3f ?_
  refine qc (Γ := Nat × Option Addr × Nat) (fun x => [(1, .int .i64 fr), (2, .int .i64 to), (7, .slice x.2.1 (within (L.take x.1) fr to).length x.2.2), (10, .slice sl L.length c), (11, .int .i64 L.length), (12, .int .i64 x.1)])
   (fun x w => x.1 ≤ L.length ∧ St w0 (OwnS x.2.1 x.2.2 (within (L.take x.1) fr to) :: l) w) (fun x => L.length - x.1) (0, none, 0) ⟨rfl, rfl, rfl, rfl, rfl, rfl, trivial⟩ ⟨Nat.zero_le _, St.ownNil 58 2 h⟩ ?_
  clear h
  rintro ⟨i, a, ac⟩ w e ⟨hi, h⟩
  dsimp only at hi h
  refine Y1 ?_; refine Ys ?_
  by_cases hlt : i < L.length
  ·refine qg (.bool true) O10 ?_
   refine qq (ql (gf rfl (qr ?_)))
   obtain ⟨s, hs⟩ : ∃ s, L[i]? = some s := ⟨L[i], List.getElem?_eq_getElem hlt⟩
   have hcur := h
   obtain ⟨b2, o2, rfl⟩ := ((hr.more [_]).at_ h).some O0
   have h := hcur
   have hw := within_take hs fr to
   have hwl : (within (L.take i) fr to).length ≤ i := by unfold within; exact Nat.le_trans (List.length_filter_le _ _) (by rw [List.length_take]; omega)
   refine Y1y ?_; refine Y1 ?_
   refine qz (qn (j := i) (o' := o2 + i * 2) rfl rfl rfl hlt rfl) rfl ?_
   refine qz (qf (l := s.cells) rfl rfl (((hr.more [_]).at_ h).elem js hs)) rfl ?_
   refine qw rfl (q7 h fun b9 w h => ?_)
   refine qw rfl (qb (vs := s.cells) 0 h rfl rfl rfl rfl rfl rfl rfl fun w h => ?_)
   replace h : St w0 (pt b9 (.cells s.cells.toArray 58 (0, 0)) :: OwnS a ac (within (L.take i) fr to) :: l) w := h
   refine Y3 ?_; refine Y35 ?_
   refine qz (qk (v := .int .i64 s.T) rfl (h.b 0 rfl) rfl) rfl ?_
   refine Y0 ?_
   have hpost : ∀ (e' : Env) (w' : World), True := fun _ _ => trivial
   by_cases h1 : fr ≤ s.T
   ·refine qz (qh (v' := .bool true) (q_geq rfl rfl) (congrArg Value.bool (decide_eq_true h1))) rfl ?_
    refine Y3i ?_
    refine qz (qk (v := .int .i64 s.T) rfl (h.b 0 rfl) rfl) rfl ?_
    refine Y7 ?_; refine Y1k ?_
    by_cases h2 : s.T ≤ to
    ·refine qz (qh (v' := .bool true) (q_leq rfl rfl) (congrArg Value.bool (decide_eq_true h2))) rfl ?_
     rw [if_pos ⟨h1, h2⟩] at hw
     refine Yi ?_; refine Yk ?_; refine Y45 ?_
     refine qz (qf (l := s.cells) rfl rfl (qp (h.b 0 rfl) rfl)) rfl ?_
     refine qw rfl (q5 (r := smpsV [s]) h rfl rfl rfl fun b5 w h => ?_)
     refine qw rfl (qa (ys := smpsV [s]) (zs := smpsV (within (L.take (i + 1)) fr to)) (m3 := (within (L.take (i + 1)) fr to).length) (h.f 2) rfl rfl ⟨rfl, .inr ⟨b5, 0, rfl, qp (h.b 0 rfl) rfl⟩⟩ (smps_one _) (by rw [hw]; simp) (by rw [hw]; simp [smpsV]) (by rw [hw]; simp; omega) (by rw [hw]; simp; omega) rfl fun a2 c2 w _ h => ?_)
     refine Ym ?_; refine Yw ?_
     refine qg (.int .i64 (i + 1 : Nat)) O14 ?_
     refine Y0 ?_
     exact qq ⟨(i + 1, a2, c2), ⟨rfl, rfl, rfl, rfl, rfl, rfl, trivial⟩, ⟨hlt, (h.x [1, 2])⟩, by dsimp only; omega⟩
    ·refine qz (qh (v' := .bool false) (q_leq rfl rfl) (congrArg Value.bool (decide_eq_false h2))) rfl ?_
     rw [if_neg (fun hh => h2 hh.2), List.append_nil] at hw
     refine Yi ?_; refine Y9 ?_; refine Yw ?_
     refine qg (.int .i64 (i + 1 : Nat)) O14 ?_
     refine Y0 ?_
     refine qq ⟨(i + 1, a, ac), ⟨rfl, rfl, ?_, rfl, rfl, rfl, trivial⟩, ⟨hlt, ?_⟩, by dsimp only; omega⟩
     ·dsimp only; rw [hw]; rfl
     ·dsimp only; rw [hw]; exact h.drop
   ·refine qz (qh (v' := .bool false) (q_geq rfl rfl) (congrArg Value.bool (decide_eq_false h1))) rfl ?_
    rw [if_neg (fun hh => h1 hh.1), List.append_nil] at hw
    refine Y41 ?_; refine Y9 ?_; refine Yw ?_
    refine qg (.int .i64 (i + 1 : Nat)) O14 ?_
    refine Y0 ?_
    refine qq ⟨(i + 1, a, ac), ⟨rfl, rfl, ?_, rfl, rfl, rfl, trivial⟩, ⟨hlt, ?_⟩, by dsimp only; omega⟩
    ·dsimp only; rw [hw]; rfl
    ·dsimp only; rw [hw]; exact h.drop
  ·refine qg (.bool false) O11 ?_
   refine qq (ql (q6 rfl (qd ?_)))
   obtain rfl : i = L.length := by omega
   rw [List.take_length] at h
   refine Eq.mpr (if_pos rfl) ⟨(a, ac), ⟨?_, trivial⟩, h⟩
   show Value.slice a (within (L.take L.length) fr to).length ac = _
   rw [List.take_length]
 rintro ⟨a, ac⟩ w e h
 refine Y5 ?_
 refine qw rfl (qj rfl (smps_Clip h) ?_)
 clear h
 rintro _ w ⟨rfl, h⟩
 refine Yx ?_
 exact qq (qv (bq1 ⟨a, rfl, h⟩))
end
end Go.Proofs.YtnnehiiblfmpnaaGreatDoor

namespace Go.Proofs.YtnnehiiblfmpnaaGreatDoor
open Go.Hw
set_option maxHeartbeats 4000000
set_option maxRecDepth 100000
structure Tk where
 key : Key3
 fr : Int
 to : Int
 d : Option Dcd
 dec : Bool
 pin : Bool
 done : Bool
 row : List Smp
 i : Nat
 out : List Smp
namespace Tk
def new (s f blob fr to : Int) : Tk := ⟨⟨s, f, blob⟩, fr, to, none, false, false, false, [], 0, []⟩
def rest (x : Tk) : List Smp := x.row.drop x.i
def pinned (x : Tk) (L : List Smp) : Tk := { x with pin := true, d := none, row := within L x.fr x.to, i := 0 }
def begin_ (x : Tk) (S : Sto) (C : Cac) : Tk × Cac × Int := match (C.get x.key).2 with
 | some L => (x.pinned L, ((C.get x.key).1.pinN x.key 1).1, 0)
 | none => match mget x.key.blob S.l with
  | none => (x, (C.get x.key).1, 7)
  | some e => ({ x with d := some (Dcd.new e.bs) }, (C.get x.key).1, 0)
def put (x : Tk) (d : Dcd) (C : Cac) : Tk × Cac × Int := match d.told with
 | none => (x, C, 7)
 | some L => if (C.put x.key L).2 then (x.pinned L, ((C.put x.key L).1.pinN x.key 1).1, 0) else (x, (C.put x.key L).1, 6)
def take4 (x : Tk) : Tk := { x with out := x.out ++ x.rest.take (min 4 x.rest.length), i := x.i + min 4 x.rest.length }
def step (x : Tk) (S : Sto) (C : Cac) : Tk × Cac × Int :=
 if x.done then (x, C, 0)
 else if x.pin then (if x.take4.rest.length = 0 then ({ x.take4 with pin := false, done := true }, (C.unpin x.key).1, 0) else (x.take4, C, 0))
 else match x.d with
  | none => x.begin_ S C
  | some d => if x.dec then x.put d C else ({ x with d := some (d.step 4), dec := !(d.more 4) }, C, 0)
def leave (x : Tk) (C : Cac) : Tk × Cac := if x.pin then ({ x with pin := false }, (C.unpin x.key).1) else (x, C)
end Tk
abbrev Tk.C (x : Tk) (dp ra : Option Addr) (rc : Nat) (oa : Option Addr) (oc : Nat) : List Value :=
 [.int .i64 x.key.series, .int .i64 x.key.life, .int .i64 x.key.blob, .int .i64 x.fr, .int .i64 x.to, .pointer dp, .bool x.dec, .bool x.pin, .bool x.done, .slice ra x.rest.length rc, .slice oa x.out.length oc]
abbrev TkPt (t : Nat) (x : Tk) (dp ra : Option Addr) (rc : Nat) (oa : Option Addr) (oc : Nat) : HProp := pt t (.cells (x.C dp ra rc oa oc).toArray 129 (0, 0))
def DecH (dp : Option Addr) : Option Dcd → HProp
 | none => lift (dp = none)
 | some d => ex fun q : Nat => all [lift (dp = some ⟨q, 0, none⟩), IsDec q d]
def Tail (wa : Option Addr) (wc : Nat) (W : List Smp) (i : Nat) (ra : Option Addr) (rc : Nat) : Prop := i ≤ W.length ∧ W.length ≤ wc ∧ rc = wc - i ∧ (i < W.length → ra = adv wa (i * 2) (Nat.beq wc i))
structure TkS where
 dp : Option Addr
 ra : Option Addr
 rc : Nat
 oa : Option Addr
 oc : Nat
 wa : Option Addr
 wc : Nat
def IsTk (t : Nat) (x : Tk) : HProp := ex fun y : TkS => all [lift (Tail y.wa y.wc x.row x.i y.ra y.rc), TkPt t x y.dp y.ra y.rc y.oa y.oc, DecH y.dp x.d, OwnS y.wa y.wc x.row, OwnS y.oa y.oc x.out]
section
variable {w0 w : World} {l : List HProp} {t p b : Nat} {x : Tk} {C : Cac} {S : Sto}
theorem St.tk : St w0 (IsTk t x :: l) w ↔ ∃ dp ra rc oa oc wa wc, Tail wa wc x.row x.i ra rc ∧ St w0 (TkPt t x dp ra rc oa oc :: DecH dp x.d :: OwnS wa wc x.row :: OwnS oa oc x.out :: l) w := by
 unfold IsTk
 rw [St.ex]
 constructor
 ·rintro ⟨y, h⟩
  have h := St.lift.1 h.join
  exact ⟨_, _, _, _, _, _, _, h.1, h.2⟩
 ·rintro ⟨dp, ra, rc, oa, oc, wa, wc, h1, h⟩
  exact ⟨⟨dp, ra, rc, oa, oc, wa, wc⟩, St.fold [_, _, _, _, _] (St.lift.2 ⟨h1, h⟩)⟩
theorem St.dech0 {dp : Option Addr} : St w0 (DecH dp none :: l) w ↔ dp = none ∧ St w0 l w := St.lift
theorem St.dech1 {dp : Option Addr} {d : Dcd} : St w0 (DecH dp (some d) :: l) w ↔ ∃ q, dp = some ⟨q, 0, none⟩ ∧ St w0 (IsDec q d :: l) w := by
 unfold DecH
 rw [St.ex]
 exact ⟨fun ⟨q, h⟩ => ⟨q, (St.lift.1 h.join).1, (St.lift.1 h.join).2⟩, fun ⟨q, h1, h⟩ => ⟨q, St.fold [_, _] (St.lift.2 ⟨h1, h⟩)⟩⟩
theorem tail0 {wa : Option Addr} {wc : Nat} {W : List Smp} (hc : W.length ≤ wc) : Tail wa wc W 0 wa wc := ⟨Nat.zero_le _, hc, rfl, fun _ => by
 unfold adv
 cases Nat.beq wc 0 <;> cases wa <;> simp [Addr.add]⟩
theorem tail_rd {wa ra : Option Addr} {wc rc i n : Nat} {W : List Smp} (ht : Tail wa wc W i ra rc) (h : Rd w 2 wa W.length (smpsV W)) (hn : n ≤ W.length - i) : Rd w 2 ra n (smpsV ((W.drop i).take n)) := by
 obtain ⟨h1, h2, h3, h4⟩ := ht
 rcases Nat.eq_zero_or_pos n with rfl | hpos
 ·exact ⟨by simp, .inl rfl⟩
 ·rw [h4 O0]
  have := h.cut (i := i) (j := i + n) O0 O0 h2
  rw [smps_drop, Nat.add_sub_cancel_left, smps_take] at this
  exact this
theorem tail_on {wa ra : Option Addr} {wc rc i n : Nat} {W : List Smp} (ht : Tail wa wc W i ra rc) (hn : n ≤ W.length - i) : Tail wa wc W (i + n) (adv ra (n * 2) (Nat.beq rc n)) (rc - n) := by
 obtain ⟨h1, h2, h3, h4⟩ := ht
 refine ⟨by omega, h2, by omega, fun hlt => ?_⟩
 rw [h4 O0]
 have e1 : Nat.beq wc i = false := by rw [← Bool.not_eq_true, Nat.beq_eq]; omega
 have e2 : Nat.beq wc (i + n) = false := by rw [← Bool.not_eq_true, Nat.beq_eq]; omega
 have e3 : Nat.beq rc n = false := by rw [← Bool.not_eq_true, Nat.beq_eq]; omega
 rw [e1, e2, e3]
 unfold adv
 cases wa with
 | none => rfl
 | some a =>
  simp only [cond_false, Option.map_some, Addr.add]
  by_cases h5 : n = 0
  ·subst h5; simp
  ·by_cases h6 : i = 0
   ·subst h6; simp
   ·have h7 : ¬ n * 2 = 0 := by omega
    have h8 : ¬ i * 2 = 0 := by omega
    have h9 : ¬ (i + n) * 2 = 0 := by omega
    rw [if_neg h7, if_neg h8, if_neg h9, Nat.add_mul, Nat.add_assoc]
theorem take_New (s f : Int) (q : Prt) (fr to : Int) (h : St w0 l w) : Ret Tryz.prog 26 [.int .i64 s, .int .i64 f, .agg q.cells.toArray, .int .i64 fr, .int .i64 to] w fun v w' => ∃ t, v = .pointer (some ⟨t, 0, none⟩) ∧ St w0 (IsTk t (Tk.new s f q.blob fr to) :: l) w' := by
 refine enter Tryz.func26 rfl Tryz.results26 Tryz.ntmps26 rfl ?_
 refine Y1 ?_
 refine qw rfl (jy h (show _ = Value.agg q.cells.toArray from rfl) fun b7 w h => ?_)
 refine Y1d ?_; refine Y4 ?_; refine Y0 ?_; refine Y1h ?_
 refine qz (qk (v := .int .i64 q.blob) rfl (h.b 0 rfl) rfl) rfl ?_
 refine qz (qe (r := (Key3.mk s f q.blob).C) rfl) rfl ?_
 refine Y0 ?_; refine Y0 ?_
 refine qz (qe (r := (Tk.new s f q.blob fr to).C none none 0 none 0) rfl) rfl ?_
 refine qw rfl (jy h (show _ = Value.agg ((Tk.new s f q.blob fr to).C none none 0 none 0).toArray from rfl) fun t w h => ?_)
 refine Y4w ?_
 refine qq (qv (bq1 ⟨t, rfl, St.tk.2 ⟨none, none, 0, none, 0, none, 0, tail0 (Nat.le_refl _), ?_⟩⟩))
 have h1 := (St.ownNil 58 2 (St.ownNil 58 2 (St.dech0.2 ⟨rfl, h.x [1]⟩)))
 exact h1.o [3, 2, 0, 1]
theorem Cac.get_len (hC : C.Ok) {k : Key3} {L : List Smp} (h : (C.get k).2 = some L) : L.length ≤ 1073741824 := by
 unfold Cac.get at h
 split at h
 ·simp only [Option.some.injEq] at h
  subst h
  cases hg : mget k C.rows with
  | none => simp
  | some M => exact hC.rows k M hg
 ·cases h
theorem take_pin {L : List Smp} {sl : Option Addr} {c : Nat} (hC : C.Ok) (hn : L.length ≤ 1073741824) (hr : Reads w0 l 2 sl L.length (smpsV L)) (h : St w0 (IsTk t x :: IsCache p C :: l) w) :
  Ret Tryz.prog 98 [.pointer (some ⟨t, 0, none⟩), .pointer (some ⟨p, 0, none⟩), .slice sl L.length c] w fun v w' => St w0 (IsTk t (x.pinned L) :: IsCache p (C.pinN x.key 1).1 :: l) w' := by
 obtain ⟨dp, ra, rc, oa, oc, wa, wc, ht, h⟩ := St.tk.1 h
 refine enter Tryz.func98 rfl Tryz.results98 Tryz.ntmps98 rfl ?_
 refine Y3z ?_
 refine qz (qf (l := x.key.C) rfl rfl (qp (h.b 0 rfl) rfl)) rfl ?_
 refine qw rfl (qj rfl (cach_Pin hC (h.f 4)) ?_)
 clear h
 rintro _ w ⟨rfl, h⟩
 refine Y3 ?_
 refine c_anyR [0, 14, 18, 1, 2, 3, 4, 5, 6, 7, 8, 9, 10, 11, 12, 13, 15, 16, 17, 19, 20, 21] (some 15) (fun w => St w0 (IsCache p (C.pinN x.key 1).1 :: TkPt t x dp ra rc oa oc :: DecH dp x.d :: OwnS wa wc x.row :: OwnS oa oc x.out :: l) w) O2 O2 h.drew fun w h => ?_
 refine Y25 ?_; refine Y25 ?_; refine Y25 ?_; refine Y1i ?_; refine Yg ?_
 refine qu rfl rfl rfl rfl h (fun _ h => qm rfl (qk (v := .int .i64 x.fr) rfl (h.b 1 rfl) rfl)) ?_
 refine Yg ?_
 refine qu rfl rfl rfl rfl h (fun _ h => qm rfl (qk (v := .int .i64 x.to) rfl (h.b 1 rfl) rfl)) ?_
 refine Y13 ?_; refine Y40 ?_
 refine qt 12 rfl rfl rfl rfl ?_
 refine qj rfl (modl_Within x.fr x.to hn (hr.more [_, _, _, _, _]) h) ?_
 clear h
 rintro _ w ⟨a9, rfl, h1⟩
 have h := h1.drop
 refine ⟨fun _ => h, ?_⟩
 refine Y4h ?_; refine Y13 ?_; refine Y1m ?_
 refine j9 15 (some 18) rfl rfl rfl rfl ?_
 refine q8 2 h1 rfl (show _ = Value.bool true from rfl) rfl rfl rfl rfl fun w h => ?_
 refine gq h ?_
 clear h1
 refine Y4h ?_; refine Y13 ?_
 refine j9 18 (some 21) rfl rfl rfl rfl ?_
 refine q8 2 h rfl (show _ = Value.pointer none from rfl) rfl rfl rfl rfl fun w h => ?_
 refine gq h ?_
 refine Y4h ?_; refine Yl ?_
 refine jd 21 rfl rfl rfl ?_
 refine q8 2 h rfl (show _ = Value.slice a9 (within L x.fr x.to).length (within L x.fr x.to).length from rfl) rfl rfl rfl rfl fun w h => ?_
 refine bq0n (St.tk.2 ⟨none, a9, _, oa, oc, a9, _, tail0 (Nat.le_refl _), ?_⟩)
 replace h : St w0 (OwnS a9 (within L x.fr x.to).length (within L x.fr x.to) :: IsCache p (C.pinN x.key 1).1 :: TkPt t (x.pinned L) none a9 (within L x.fr x.to).length oa oc :: DecH dp x.d :: OwnS wa wc x.row :: OwnS oa oc x.out :: l) w := h
 have h1 := St.dech0.2 ⟨rfl, h.x [3, 4]⟩
 exact h1.o [3, 0, 1, 4, 2]
theorem take_begin (hC : C.Ok) (hG : (C.get x.key).1.Ok) (hS : ∀ id e, mget id S.l = some e → e.bs.length ≤ 140737488355328) (h : St w0 (IsTk t x :: IsStore b S :: IsCache p C :: l) w) :
  Ret Tryz.prog 61 [.pointer (some ⟨t, 0, none⟩), .pointer (some ⟨b, 0, none⟩), .pointer (some ⟨p, 0, none⟩)] w fun v w' => v = .int .i64 (x.begin_ S C).2.2 ∧ St w0 (IsTk t (x.begin_ S C).1 :: IsStore b S :: IsCache p (x.begin_ S C).2.1 :: l) w' := by
 obtain ⟨dp, ra, rc, oa, oc, wa, wc, ht, h⟩ := St.tk.1 h
 refine enter Tryz.func61 rfl Tryz.results61 Tryz.ntmps61 rfl ?_
 refine Yf ?_; refine Y2m ?_; refine Y2q ?_
 refine qz (qf (l := x.key.C) rfl rfl (qp (h.b 0 rfl) rfl)) rfl ?_
 have hget := cach_Get (k := x.key) hC (h.f 5)
 clear h
 cases hg : (C.get x.key).2 with
 | some L =>
  have hL := Cac.get_len hC hg
  rw [hg] at hget
  have e1 : x.begin_ S C = (x.pinned L, ((C.get x.key).1.pinN x.key 1).1, 0) := by unfold Tk.begin_; rw [hg]
  refine qw rfl (qj rfl hget ?_)
  rintro _ w ⟨a', c', rfl, h⟩
  refine Y14 ?_; refine Y2x ?_; refine Yk ?_; refine Y4e ?_; refine Yp ?_
  have h := St.tk.2 ⟨dp, ra, rc, oa, oc, wa, wc, ht, h.o [2, 3, 4, 5, 1, 0]⟩
  refine qw rfl (qj rfl (take_pin (L := L) hG hL Reads.own h) ?_)
  clear h
  rintro _ w h
  refine Y3 ?_; refine Y24 ?_
  rw [e1]
  exact qq (qv (bq1 ⟨rfl, (h.x [2]).o [0, 2, 1]⟩))
 | none =>
  rw [hg] at hget
  refine qw rfl (qj rfl hget ?_)
  rintro _ w ⟨a', c', rfl, h⟩
  replace h := h.drop
  refine Y14 ?_; refine Y2x ?_; refine Y9 ?_; refine Y3z ?_; refine Y1h ?_
  refine qz (qk (v := .int .i64 x.key.blob) rfl (h.b 1 rfl) rfl) rfl ?_
  cases hb : mget x.key.blob S.l with
  | none =>
   have e1 : x.begin_ S C = (x, (C.get x.key).1, 7) := by unfold Tk.begin_; rw [hg]; dsimp only; rw [hb]
   refine qw rfl (qj rfl (blob_Get0 _ (h.f 5) hb) ?_)
   clear h
   rintro _ w ⟨rfl, h⟩
   refine Y14 ?_; refine Y1s ?_; refine Y28 ?_; refine Y2 ?_
   rw [e1]
   exact qq (qv (bq1 ⟨rfl, St.tk.2 ⟨dp, ra, rc, oa, oc, wa, wc, ht, h.o [2, 3, 4, 5, 0, 1]⟩⟩))
  | some e =>
   have e1 : x.begin_ S C = ({ x with d := some (Dcd.new e.bs) }, (C.get x.key).1, 0) := by unfold Tk.begin_; rw [hg]; dsimp only; rw [hb]
   refine qw rfl (qj rfl (blob_Get1 _ (h.f 5) hb (hS _ _ hb)) ?_)
   clear h
   rintro _ w ⟨a2, c2, rfl, h⟩
   refine Y14 ?_; refine Y1s ?_; refine Y9 ?_; refine Y3y ?_
   refine qw rfl (qj rfl (dec_new (hS _ _ hb) Reads.own h) ?_)
   clear h
   rintro _ w ⟨q, rfl, h⟩
   refine Y12 ?_
   refine qw rfl (q8 4 h rfl (show _ = Value.pointer (some ⟨q, 0, none⟩) from rfl) rfl rfl rfl rfl fun w h => ?_)
   replace h : St w0 (IsDec q (Dcd.new e.bs) :: OwnB a2 c2 e.bs :: IsStore b S :: IsCache p (C.get x.key).1 :: TkPt t { x with d := some (Dcd.new e.bs) } (some ⟨q, 0, none⟩) ra rc oa oc :: DecH dp x.d :: OwnS wa wc x.row :: OwnS oa oc x.out :: l) w := h
   refine Y3 ?_; refine Y24 ?_
   rw [e1]
   have h1 := St.dech1.2 ⟨q, rfl, h.x [1, 5]⟩
   exact qq (qv (bq1 ⟨rfl, St.tk.2 ⟨_, ra, rc, oa, oc, wa, wc, ht, h1.o [3, 0, 4, 5, 1, 2]⟩⟩))
end
end Go.Proofs.YtnnehiiblfmpnaaGreatDoor

namespace Go.Proofs.YtnnehiiblfmpnaaGreatDoor
open Go.Hw
set_option maxHeartbeats 4000000
set_option maxRecDepth 100000
section
variable {w0 w : World} {l : List HProp} {t p b : Nat} {x : Tk} {C : Cac} {S : Sto}
theorem Dcd.told_len {d : Dcd} {L : List Smp} (hr : d.rows.length ≤ 65535) (h : d.told = some L) : L.length ≤ 65535 := by
 unfold Dcd.told at h
 split at h
 ·simp only [Option.some.injEq] at h; subst h; exact hr
 ·cases h
theorem take_put {d : Dcd} (hd : x.d = some d) (hC : C.Ok) (hP : ∀ L, L.length ≤ 65535 → (C.put x.key L).1.Ok) (h : St w0 (IsTk t x :: IsCache p C :: l) w) :
  Ret Tryz.prog 63 [.pointer (some ⟨t, 0, none⟩), .pointer (some ⟨p, 0, none⟩)] w fun v w' => v = .int .i64 (x.put d C).2.2 ∧ St w0 (IsTk t (x.put d C).1 :: IsCache p (x.put d C).2.1 :: l) w' := by
 obtain ⟨dp, ra, rc, oa, oc, wa, wc, ht, h⟩ := St.tk.1 h
 have h1 := h.f 1
 rw [hd] at h1
 obtain ⟨q, rfl, h⟩ := St.dech1.1 h1
 clear h1
 have hrows : d.rows.length ≤ 65535 := by
  obtain ⟨_, _, _, _, ⟨h9, _⟩, _⟩ := St.dec.1 h
  exact h9.rows
 refine enter Tryz.func63 rfl Tryz.results63 Tryz.ntmps63 rfl ?_
 refine Yf ?_; refine Yu ?_
 refine qz (qk (v := .pointer (some ⟨q, 0, none⟩)) rfl (h.b 1 rfl) rfl) rfl ?_
 have hdn := dec_done h
 clear h
 cases ho : d.told with
 | none =>
  rw [ho] at hdn
  have e1 : x.put d C = (x, C, 7) := by unfold Tk.put; rw [ho]
  refine qw rfl (qj rfl hdn ?_)
  rintro _ w ⟨a5, c5, rfl, h⟩
  refine Y14 ?_; refine Y1y ?_; refine Y1 ?_; refine Y1l ?_; refine Yc ?_; refine Y1o ?_; refine Y24 ?_
  rw [e1]
  refine qq (qv (bq1 ⟨rfl, ?_⟩))
  refine St.tk.2 ⟨some ⟨q, 0, none⟩, ra, rc, oa, oc, wa, wc, ht, ?_⟩
  rw [hd]
  exact (St.dech1.2 ⟨q, rfl, h.drop⟩).f 1
 | some L =>
  rw [ho] at hdn
  have hL := Dcd.told_len hrows ho
  refine qw rfl (qj rfl hdn ?_)
  rintro _ w ⟨a5, c5, rfl, h⟩
  replace h : St w0 (OwnS a5 c5 L :: IsDec q d :: TkPt t x (some ⟨q, 0, none⟩) ra rc oa oc :: OwnS wa wc x.row :: OwnS oa oc x.out :: IsCache p C :: l) w := h
  refine Y14 ?_
  refine qo (Γ := Unit) (fun _ => [(0, .pointer (some ⟨t, 0, none⟩)), (1, .pointer (some ⟨p, 0, none⟩)), (5, .slice a5 L.length c5)])
   (fun _ w => (C.put x.key L).2 = true ∧ St w0 (OwnS a5 c5 L :: IsDec q d :: TkPt t x (some ⟨q, 0, none⟩) ra rc oa oc :: OwnS wa wc x.row :: OwnS oa oc x.out :: IsCache p (C.put x.key L).1 :: l) w) ?_ ?_
  ·refine Ya ?_; refine Y1 ?_; refine Y1l ?_; refine Yc ?_; refine Y2o ?_; refine Y3z ?_
   refine qz (qf (l := x.key.C) rfl rfl (qp (h.b 2 rfl) rfl)) rfl ?_
   refine Yp ?_
   refine qw rfl (qj rfl (cach_Put (k := x.key) (L := L) hC (Reads.own.more []) O0 (h.f 5)) ?_)
   clear h
   rintro _ w ⟨rfl, h⟩
   refine Y1j ?_; refine Yc ?_
   cases hk : (C.put x.key L).2 with
   | false =>
    have e1 : x.put d C = (x, (C.put x.key L).1, 6) := by unfold Tk.put; rw [ho]; dsimp only; rw [hk]; rfl
    refine Y1o ?_; refine Y24 ?_
    rw [e1]
    refine qq (qv (bq1 ⟨rfl, ?_⟩))
    refine St.tk.2 ⟨some ⟨q, 0, none⟩, ra, rc, oa, oc, wa, wc, ht, ?_⟩
    rw [hd]
    have h1 := St.dech1.2 ⟨q, rfl, (h.x [1]).f 1⟩
    exact h1.o [2, 0, 3, 4, 1]
   | true =>
    refine Y3o ?_
    exact ⟨(), ⟨rfl, rfl, rfl, trivial⟩, rfl, h.o [1, 2, 3, 4, 5, 0]⟩
  rintro - w e ⟨hk, h⟩
  have e1 : x.put d C = (x.pinned L, ((C.put x.key L).1.pinN x.key 1).1, 0) := by unfold Tk.put; rw [ho]; dsimp only; rw [hk]; rfl
  refine Y4e ?_; refine Yp ?_
  have h1 := St.dech1.2 ⟨q, rfl, h.f 1⟩
  rw [← hd] at h1
  have h2 := St.tk.2 ⟨_, ra, rc, oa, oc, wa, wc, ht, h1.o [2, 0, 3, 4, 5, 1]⟩
  refine qw rfl (qj rfl (take_pin (L := L) (hP L hL) O0 Reads.own h2) ?_)
  clear h h1 h2
  rintro _ w h
  refine Y3 ?_; refine Y24 ?_
  rw [e1]
  exact qq (qv (bq1 ⟨rfl, h.x [2]⟩))
theorem take_Done (hx : x.out.length ≤ 1073741824) (h : St w0 (IsTk t x :: l) w) :
  Ret Tryz.prog 28 [.pointer (some ⟨t, 0, none⟩)] w fun v w' => ∃ a c, v = .tuple [.slice a (if x.done then x.out else []).length c, .bool x.done].toArray ∧ St w0 (OwnS a c (if x.done then x.out else []) :: IsTk t x :: l) w' := by
 obtain ⟨dp, ra, rc, oa, oc, wa, wc, ht, h⟩ := St.tk.1 h
 refine enter Tryz.func28 rfl Tryz.results28 Tryz.ntmps28 rfl ?_
 refine Y18 ?_; refine Y3w ?_
 refine qz (qk (v := .bool x.done) rfl (h.b 0 rfl) rfl) rfl ?_
 refine Y1j ?_; refine Y3 ?_
 cases hd : x.done with
 | false =>
  refine Y1o ?_; refine Y26 ?_
  exact qq (qv (bq2 ⟨none, 0, rfl, St.ownNil 58 2 (St.tk.2 ⟨_, _, _, _, _, _, _, ht, h⟩)⟩))
 | true =>
  refine Y3o ?_; refine Yu ?_
  refine qz (qk (v := .slice oa x.out.length oc) rfl (h.b 0 rfl) rfl) rfl ?_
  refine qw rfl (qj rfl (smps_Clone (L := x.out) h (Reads.own.more [_, _, _]) hx) ?_)
  clear h
  rintro _ w ⟨a, c, rfl, h⟩
  refine Y1f ?_
  refine qq (qv (bq2 ⟨a, c, rfl, ?_⟩))
  exact (St.tk.2 ⟨dp, ra, rc, oa, oc, wa, wc, ht, h.o [1, 2, 3, 4, 0]⟩).f 1
theorem take_Leave (hC : C.Ok) (h : St w0 (IsTk t x :: IsCache p C :: l) w) :
  Ret Tryz.prog 34 [.pointer (some ⟨t, 0, none⟩), .pointer (some ⟨p, 0, none⟩)] w fun v w' => St w0 (IsTk t (x.leave C).1 :: IsCache p (x.leave C).2 :: l) w' := by
 obtain ⟨dp, ra, rc, oa, oc, wa, wc, ht, h⟩ := St.tk.1 h
 refine enter Tryz.func34 rfl Tryz.results34 Tryz.ntmps34 rfl ?_
 refine Yu ?_
 refine qz (qk (v := .bool x.pin) rfl (h.b 0 rfl) rfl) rfl ?_
 refine Y3 ?_
 cases hp : x.pin with
 | false =>
  have e1 : x.leave C = (x, C) := by unfold Tk.leave; rw [hp]; rfl
  refine q6 rfl (qr (bq0n ?_))
  rw [e1]
  exact St.tk.2 ⟨_, _, _, _, _, _, _, ht, h⟩
 | true =>
  have e1 : x.leave C = ({ x with pin := false }, (C.unpin x.key).1) := by unfold Tk.leave; rw [hp]; rfl
  refine Y1o ?_; refine Y3z ?_
  refine qz (qf (l := x.key.C) rfl rfl (qp (h.b 0 rfl) rfl)) rfl ?_
  refine qw rfl (qj rfl (cach_Unpin (k := x.key) hC (h.f 4)) ?_)
  clear h
  rintro _ w ⟨rfl, h⟩
  refine Y4n ?_; refine Y12 ?_
  refine qw rfl (q8 1 h rfl (show _ = Value.bool false from rfl) rfl rfl rfl rfl fun w h => ?_)
  refine qq (bq0n ?_)
  rw [e1]
  exact St.tk.2 ⟨dp, ra, rc, oa, oc, wa, wc, ht, h.o [1, 2, 3, 4, 0]⟩
end
end Go.Proofs.YtnnehiiblfmpnaaGreatDoor

namespace Go.Proofs.YtnnehiiblfmpnaaGreatDoor
open Go.Hw
set_option maxHeartbeats 4000000
set_option maxRecDepth 100000
def Tk.takeN (x : Tk) (n : Nat) : Tk := { x with out := x.out ++ x.rest.take n, i := x.i + n }
section
variable {w0 w : World} {l : List HProp} {t p b : Nat} {x : Tk} {C : Cac} {S : Sto}
theorem take_Step (hT : Tz w0) (hx : x.row.length + x.out.length ≤ 1000000000) (hC : C.Ok) (hG : (C.get x.key).1.Ok) (hP : ∀ L, L.length ≤ 65535 → (C.put x.key L).1.Ok) (hS : ∀ id e, mget id S.l = some e → e.bs.length ≤ 140737488355328) (h : St w0 (IsTk t x :: IsStore b S :: IsCache p C :: l) w) :
  Ret Tryz.prog 27 [.pointer (some ⟨t, 0, none⟩), .pointer (some ⟨b, 0, none⟩), .pointer (some ⟨p, 0, none⟩)] w fun v w' => v = .int .i64 (x.step S C).2.2 ∧ St w0 (IsTk t (x.step S C).1 :: IsStore b S :: IsCache p (x.step S C).2.1 :: l) w' := by
 obtain ⟨dp, ra, rc, oa, oc, wa, wc, ht, h⟩ := St.tk.1 h
 refine enter Tryz.func27 rfl Tryz.results27 Tryz.ntmps27 rfl ?_
 refine Yf ?_
 refine qo (Γ := Unit) (fun _ => []) (fun _ w => (x.step S C).2.2 = 0 ∧ St w0 (IsTk t (x.step S C).1 :: IsStore b S :: IsCache p (x.step S C).2.1 :: l) w) ?_ ?_
 rotate_left
 ·rintro - w e ⟨h0, h⟩
  refine Y24 ?_
  exact qq (qv (bq1 ⟨by rw [h0]; rfl, h⟩))
 refine Ya ?_; refine Yu ?_
 refine qz (qk (v := .bool x.done) rfl (h.b 0 rfl) rfl) rfl ?_
 refine Yc ?_
 cases hd : x.done with
 | true =>
  have e1 : x.step S C = (x, C, 0) := by unfold Tk.step; rw [hd]; rfl
  refine gf rfl (qr ⟨(), trivial, ?_⟩)
  rw [e1]
  exact ⟨rfl, St.tk.2 ⟨dp, ra, rc, oa, oc, wa, wc, ht, h⟩⟩
 | false =>
  refine Y2o ?_; refine Yu ?_
  refine qz (qk (v := .bool x.pin) rfl (h.b 0 rfl) rfl) rfl ?_
  refine Yc ?_
  cases hp : x.pin with
  | true =>
   have e1 : x.step S C = if x.take4.rest.length = 0 then ({ x.take4 with pin := false, done := true }, (C.unpin x.key).1, 0) else (x.take4, C, 0) := by unfold Tk.step; rw [hd, hp]; rfl
   obtain ⟨n, hn⟩ : ∃ n, n = min 4 x.rest.length := ⟨_, rfl⟩
   have e2 : x.take4 = x.takeN n := by rw [hn]; rfl
   rw [e2] at e1
   have hrl : x.rest.length = x.row.length - x.i := List.length_drop
   have hnr : n ≤ x.rest.length := by omega
   have hn4 : n ≤ 4 := by omega
   have hrc : n ≤ rc := by have := ht.2.1; have := ht.2.2.1; omega
   have htl : x.rest.length - n = (x.takeN n).rest.length := by
    show x.rest.length - n = (x.row.drop (x.i + n)).length
    rw [List.length_drop]; omega
   have hol : (x.takeN n).out.length = x.out.length + n := by
    show (x.out ++ x.rest.take n).length = _
    rw [List.length_append, List.length_take]; omega
   refine Y1o ?_; refine Yu ?_
   refine qz (qk (v := .slice ra x.rest.length rc) rfl (h.b 0 rfl) rfl) rfl ?_
   refine Y3a ?_; refine Y51 ?_
   refine qg (.int .i64 (n : Nat)) O20 ?_
   refine Y6 ?_
   refine ql (j7 [0, 21, 1, 2, 3, 4, 5, 6, 7, 8, 9, 10, 11, 12, 13, 14, 15, 16, 17, 18, 19, 20, 22, 23, 24] (some 21) (fun w => St w0 (TkPt t x dp ra rc oa oc :: DecH dp x.d :: OwnS wa wc x.row :: IsStore b S :: IsCache p C :: l) w) O2 O2 ?_)
   have hw := h.drew
   clear h
   generalize w.drew = w1 at hw ⊢
   have h := hw.x [3]
   refine Y25 ?_; refine Y25 ?_; refine Yg ?_
   refine qu rfl rfl rfl rfl h (fun _ h => qm rfl (qk (v := .slice oa x.out.length oc) rfl (h.b 0 rfl) rfl)) ?_
   refine Yg ?_
   refine qu rfl rfl rfl rfl h (fun _ h => qm rfl (qk (v := .slice ra x.rest.length rc) rfl (h.b 0 rfl) rfl)) ?_
   refine Yj ?_
   refine cpv rfl rfl rfl rfl h rfl (q_head (h := n) rfl rfl hrc) ?_
   refine Yl ?_; refine Yg ?_
   refine qu rfl rfl rfl rfl h (fun _ h => qm rfl (qk (v := .slice ra x.rest.length rc) rfl (h.b 0 rfl) rfl)) ?_
   refine Yj ?_
   refine qs (v := .slice (adv ra (n * 2) (Nat.beq rc n)) (x.takeN n).rest.length (rc - n)) rfl rfl rfl rfl (fun _ => h) (fun _ => qm rfl (qh (jh (i := n) rfl rfl hnr) (congrArg (fun m => Value.slice (adv ra (n * 2) (Nat.beq rc n)) m (rc - n)) htl))) ?_
   refine Y40 ?_
   refine qt 12 rfl rfl rfl rfl ?_
   have hrow : Rd w1 2 wa x.row.length (smpsV x.row) := (hw.f 2).own_rd
   refine qa (ys := smpsV (x.rest.take n)) (zs := smpsV (x.takeN n).out) (m3 := (x.takeN n).out.length) (hw.f 3) rfl rfl (tail_rd ht hrow O0) (smps_one _) hol.symm (by show _ = smpsV (x.out ++ x.rest.take n); simp [smpsV]) (by rw [hol]; omega) (by rw [hol]; omega) rfl fun a2 c2 w _ hw => ?_
   have h := hw.drop
   refine ⟨fun _ => h, ?_⟩
   refine Y4h ?_; refine Y13 ?_
   refine j9 21 (some 24) rfl rfl rfl rfl ?_
   refine q8 1 hw rfl (show _ = Value.slice a2 (x.takeN n).out.length c2 from rfl) rfl rfl rfl rfl fun w h => ?_
   refine gq h ?_
   refine Y4h ?_; refine Yl ?_
   refine jd 24 rfl rfl rfl ?_
   refine q8 1 h rfl (show _ = Value.slice (adv ra (n * 2) (Nat.beq rc n)) (x.takeN n).rest.length (rc - n) from rfl) rfl rfl rfl rfl fun w h => ?_
   replace h : St w0 (OwnS a2 c2 (x.takeN n).out :: TkPt t (x.takeN n) dp (adv ra (n * 2) (Nat.beq rc n)) (rc - n) a2 c2 :: DecH dp x.d :: OwnS wa wc x.row :: IsStore b S :: IsCache p C :: l) w := h
   have ht2 := tail_on ht (n := n) O0
   refine Yu ?_
   refine qz (qk (v := .slice (adv ra (n * 2) (Nat.beq rc n)) (x.takeN n).rest.length (rc - n)) rfl (h.b 1 rfl) rfl) rfl ?_
   refine Y3a ?_; refine Yd ?_
   by_cases h0 : (x.takeN n).rest.length = 0
   ·rw [if_pos h0] at e1
    refine qg (.bool true) O27 ?_
    refine Yk ?_; refine Y3z ?_
    refine qz (qf (l := x.key.C) rfl rfl (qp (h.b 1 rfl) rfl)) rfl ?_
    refine qw rfl (qj rfl (cach_Unpin (k := x.key) hC (h.f 5)) ?_)
    clear h
    rintro _ w ⟨rfl, h⟩
    refine Y4n ?_; refine Y2q ?_
    refine qw rfl (q8 2 h rfl (show _ = Value.bool false from rfl) rfl rfl rfl rfl fun w h => ?_)
    refine Y12 ?_
    refine qw rfl (q8 2 h rfl (show _ = Value.bool true from rfl) rfl rfl rfl rfl fun w h => ?_)
    refine qq ⟨(), trivial, ?_⟩
    rw [e1]
    exact ⟨rfl, St.tk.2 ⟨dp, _, _, a2, c2, wa, wc, ht2, h.o [2, 3, 4, 1, 5, 0]⟩⟩
   ·rw [if_neg h0] at e1
    refine qg (.bool false) O3 ?_
    refine qq (q6 rfl (qr ⟨(), trivial, ?_⟩))
    rw [e1]
    exact ⟨rfl, St.tk.2 ⟨dp, _, _, a2, c2, wa, wc, ht2, h.o [1, 2, 3, 0, 4, 5]⟩⟩
  | false =>
   have e0 : x.step S C = match x.d with
    | none => x.begin_ S C
    | some d => if x.dec then x.put d C else ({ x with d := some (d.step 4), dec := !(d.more 4) }, C, 0) := by unfold Tk.step; rw [hd, hp]; rfl
   refine Y2o ?_; refine Yu ?_
   refine qz (qk (v := .pointer dp) rfl (h.b 0 rfl) rfl) rfl ?_
   cases hxd : x.d with
   | none =>
    rw [hxd] at e0
    have h1 := h.f 1
    rw [hxd] at h1
    obtain ⟨rfl, h2⟩ := St.dech0.1 h1
    clear h1 h2
    refine Y3u ?_; refine Yc ?_; refine Y1o ?_; refine Y4e ?_; refine Y1x ?_
    refine qw rfl (qj rfl (take_begin hC hG hS (St.tk.2 ⟨none, ra, rc, oa, oc, wa, wc, ht, h⟩)) ?_)
    clear h
    rintro _ w ⟨rfl, h⟩
    refine Y2 ?_
    rw [e0]
    exact qq (qv (bq1 ⟨rfl, h⟩))
   | some d =>
    rw [hxd] at e0
    have h1 := h.f 1
    rw [hxd] at h1
    obtain ⟨q, rfl, h2⟩ := St.dech1.1 h1
    clear h1
    refine Y3u ?_; refine Yc ?_; refine Y2o ?_; refine Yu ?_
    refine qz (qk (v := .bool x.dec) rfl (h.b 0 rfl) rfl) rfl ?_
    refine Y1j ?_; refine Yc ?_
    cases hde : x.dec with
    | true =>
     rw [hde] at e0
     refine Y2o ?_; refine Y4e ?_
     refine qw rfl (qj rfl (take_put hxd hC hP ((St.tk.2 ⟨_, ra, rc, oa, oc, wa, wc, ht, h⟩).o [0, 2, 1])) ?_)
     clear h h2
     rintro _ w ⟨rfl, h⟩
     refine Y2 ?_
     rw [show x.step S C = x.put d C from e0]
     exact qq (qv (bq1 ⟨rfl, h.o [0, 2, 1]⟩))
    | false =>
     rw [hde] at e0
     refine Y1o ?_; refine Y23 ?_; refine Y2q ?_
     refine qz (qk (v := .pointer (some ⟨q, 0, none⟩)) rfl (h.b 0 rfl) rfl) rfl ?_
     refine qw rfl (qj rfl (dec_step hT 4 h2) ?_)
     clear h h2
     rintro _ w ⟨rfl, h⟩
     refine Y1j ?_; refine Y12 ?_
     refine qw rfl (q8 1 h rfl (show _ = Value.bool (!(d.more 4)) from rfl) rfl rfl rfl rfl fun w h => ?_)
     refine qq ⟨(), trivial, ?_⟩
     rw [show x.step S C = ({ x with d := some (d.step 4), dec := !(d.more 4) }, C, 0) from e0]
     have h1 := St.dech1.2 ⟨q, rfl, h⟩
     exact ⟨rfl, St.tk.2 ⟨some ⟨q, 0, none⟩, ra, rc, oa, oc, wa, wc, ht, h1.f 1⟩⟩
end
end Go.Proofs.YtnnehiiblfmpnaaGreatDoor

namespace Go.Hw
section
variable {κ β : Type} [DecidableEq κ]
theorem mget_iff {k : κ} {v : β} : ∀ {m : List (κ × β)}, (keys m).Nodup → (mget k m = some v ↔ (k, v) ∈ m)
 | [], _ => by simp [mget]
 | (k', v') :: m, hn => by
  have hn' : k' ∉ keys m ∧ (keys m).Nodup := by simpa [keys] using hn
  unfold mget
  by_cases h : k' = k
  ·subst h
   simp only [if_true, List.mem_cons, Prod.mk.injEq, true_and, Option.some.injEq]
   refine ⟨fun h => .inl h.symm, fun h => h.elim Eq.symm fun h => ?_⟩
   exact absurd (List.mem_map.2 ⟨_, h, rfl⟩) hn'.1
  ·rw [if_neg h, mget_iff hn'.2]
   simp only [List.mem_cons, Prod.mk.injEq]
   exact ⟨.inr, fun h' => h'.elim (fun e => absurd e.1.symm h) id⟩
theorem mget_perm {m m' : List (κ × β)} (hp : m.Perm m') (hn : (keys m).Nodup) (k : κ) : mget k m' = mget k m := by
 have hn' : (keys m').Nodup := (hp.map _).nodup_iff.1 hn
 apply Option.ext
 intro v
 rw [mget_iff hn', mget_iff hn, hp.mem_iff]
end
theorem key_inj {α κ : Type} {f : α → κ} : ∀ {l : List α} {a b : α}, (l.map f).Nodup → a ∈ l → b ∈ l → f a = f b → a = b
 | [], _, _, _, h, _, _ => by cases h
 | x :: l, a, b, hn, ha, hb, he => by
  have hn' : f x ∉ l.map f ∧ (l.map f).Nodup := by simpa using hn
  rcases List.mem_cons.1 ha with e1 | h1 <;> rcases List.mem_cons.1 hb with e2 | h2
  ·rw [e1, e2]
  ·exact absurd (List.mem_map.2 ⟨b, h2, he.symm.trans (congrArg f e1)⟩) hn'.1
  ·exact absurd (List.mem_map.2 ⟨a, h1, he.trans (congrArg f e2)⟩) hn'.1
  ·exact key_inj hn'.2 h1 h2 he
namespace Clk
structure Good (q : Clk) : Prop where
 wf : q.Wf
 res : (q.res.length : Int) ≤ q.most
 tests : (q.count Pg.test : Int) ≤ q.most
 nodup : q.keys.Nodup
theorem res_sub (q : Clk) : List.Sublist (Go.Hw.keys q.res) q.keys := by
 unfold res Go.Hw.keys keys
 rw [List.map_map]
 exact (List.filter_sublist (l := q.pages)).map _
theorem Good.resNodup {q : Clk} (h : q.Good) : (Go.Hw.keys q.res).Nodup := h.nodup.sublist (res_sub q)
theorem new_good (n : Int) : (new n).Good := ⟨⟨by unfold new; dsimp only; omega, by unfold new; dsimp only; omega, fun p hp => (by cases hp), by simp [new], by simp [new], by simp [new]⟩, by simp [new, res]; omega, by simp [new, count]; omega, by simp [new, keys]⟩
theorem kinds_len {l : List Pg} (h : ∀ p ∈ l, p.Ok) : l.length = l.countP Pg.resident + l.countP Pg.test := by
 induction l with
 | nil => rfl
 | cons p l ih =>
  have h1 := ih fun x hx => h x (List.mem_cons_of_mem _ hx)
  rw [List.length_cons, List.countP_cons, List.countP_cons, h1]
  rcases (h p (List.mem_cons_self ..)).1 with e | e | e
  ·simp [Pg.resident, Pg.test, e]; omega
  ·simp [Pg.resident, Pg.test, e]; omega
  ·simp [Pg.resident, Pg.test, e]; omega
theorem Good.len {q : Clk} (h : q.Good) : q.pages.length ≤ 2000 := by
 have h1 := kinds_len h.wf.kinds
 have h2 := h.res
 have h3 := h.tests
 have h4 := h.wf.most
 rw [res_len] at h2
 unfold count at h2 h3
 omega
theorem Good.count {q : Clk} (h : q.Good) : (q.count Pg.resident : Int) ≤ q.most := by rw [← res_len]; exact h.res
theorem find_key {q : Clk} {k : Key3} {i : Nat} (h : q.find k = some i) : ∃ p, q.pages[i]? = some p ∧ p.key = k := by
 unfold find at h
 obtain ⟨h1, h2, _⟩ := List.findIdx?_eq_some_iff_getElem.1 h
 exact ⟨_, List.getElem?_eq_getElem h1, by simpa using h2⟩
theorem find_no {q : Clk} {k : Key3} (h : q.find k = none) : k ∉ q.keys := by
 unfold find at h
 rw [List.findIdx?_eq_none_iff] at h
 intro hk
 obtain ⟨p, hp, rfl⟩ := List.mem_map.1 hk
 have := h p hp
 simp at this
theorem mem_res {q : Clk} {k : Key3} {n : Int} : (k, n) ∈ q.res ↔ ∃ p ∈ q.pages, p.resident = true ∧ p.key = k ∧ p.pins = n := by
 unfold res
 simp only [List.mem_map, List.mem_filter, Prod.mk.injEq]
 exact ⟨fun ⟨p, ⟨a, b⟩, c, d⟩ => ⟨p, a, b, c, d⟩, fun ⟨p, a, b, c, d⟩ => ⟨p, ⟨a, b⟩, c, d⟩⟩
theorem res_find {q : Clk} (h : q.Good) {k : Key3} {i : Nat} {p : Pg} (hf : q.find k = some i) (hp : q.pages[i]? = some p) : mget k q.res = if p.resident then some p.pins else none := by
 obtain ⟨p', hp', hk⟩ := find_key hf
 rw [hp] at hp'
 cases hp'
 have hm : p ∈ q.pages := List.mem_of_getElem? hp
 by_cases hr : p.resident = true
 ·rw [if_pos hr, mget_iff h.resNodup, mem_res]
  exact ⟨p, hm, hr, hk, rfl⟩
 ·rw [if_neg hr, mget_none]
  intro hx
  obtain ⟨⟨k', n⟩, hy, e⟩ := List.mem_map.1 hx
  dsimp only at e
  subst e
  obtain ⟨p2, h2, h3, h4, _⟩ := mem_res.1 hy
  have := key_inj h.nodup h2 hm (h4.trans hk.symm)
  subst this
  exact hr h3
theorem res_nofind {q : Clk} {k : Key3} (hf : q.find k = none) : mget k q.res = none := by
 rw [mget_none]
 exact fun hx => find_no hf ((res_sub q).subset hx)
theorem Good.setP {q : Clk} (h : q.Good) {i : Nat} {p p' : Pg} (hp : q.pages[i]? = some p) (hk : p'.key = p.key) (hr : p'.resident = p.resident) (ht : p'.test = p.test) (ho : p'.Ok) : (q.setP i p').Good := by
 refine ⟨h.wf.setP ho, ?_, ?_, ?_⟩
 ·rw [res_len]
  have h1 := je Pg.resident hp p'
  have h2 := h.count
  rw [hr] at h1
  unfold Clk.setP Clk.count at *
  dsimp only at *
  omega
 ·have h1 := je Pg.test hp p'
  have h2 := h.tests
  rw [ht] at h1
  unfold Clk.setP Clk.count at *
  dsimp only at *
  omega
 ·show ((q.pages.set i p').map (·.key)).Nodup
  rw [keys_set hp hk]
  exact h.nodup
theorem touch_good {q : Clk} (h : q.Good) (k : Key3) : (q.touch k).1.Good ∧ (q.touch k).1.res = q.res ∧ (q.touch k).2 = (mget k q.res).isSome ∧ (q.touch k).1.most = q.most := by
 unfold touch
 cases hf : q.find k with
 | none => exact ⟨h, rfl, by rw [res_nofind hf]; rfl, rfl⟩
 | some i =>
  obtain ⟨p, hp, hk⟩ := find_key hf
  have hg := res_find h hf hp
  dsimp only
  rw [hp]
  dsimp only
  by_cases hr : p.resident = true
  ·rw [if_pos hr] at hg ⊢
   have hpm := h.wf.kinds p (List.mem_of_getElem? hp)
   refine ⟨h.setP hp rfl rfl rfl hpm, ?_, by rw [hg]; rfl, rfl⟩
   exact res_set hp rfl rfl rfl
  ·rw [if_neg hr] at hg ⊢
   exact ⟨h, rfl, by rw [hg]; rfl, rfl⟩
theorem res_pins {l : List Pg} {i : Nat} {p : Pg} (n : Int) (hn : (l.map (·.key)).Nodup) (hp : l[i]? = some p) (hr : p.resident = true) :
  ((l.set i { p with pins := n }).filter Pg.resident).map (fun p => (p.key, p.pins)) = mset p.key n ((l.filter Pg.resident).map fun p => (p.key, p.pins)) := by
 induction l generalizing i with
 | nil => cases hp
 | cons a l ih =>
  have hn' : a.key ∉ l.map (·.key) ∧ (l.map (·.key)).Nodup := by simpa using hn
  cases i with
  | zero =>
   cases hp
   have hr' : Pg.resident { p with pins := n } = true := hr
   rw [List.set_cons_zero, List.filter_cons, if_pos hr', List.filter_cons, if_pos hr, List.map_cons, List.map_cons, mset, if_pos rfl]
  | succ i =>
   have hp' : l[i]? = some p := by simpa using hp
   have := ih hn'.2 hp'
   have hne : ¬ a.key = p.key := fun e => hn'.1 (List.mem_map.2 ⟨p, List.mem_of_getElem? hp', e.symm⟩)
   rw [List.set_cons_succ, List.filter_cons, List.filter_cons]
   by_cases ha : a.resident = true
   ·rw [if_pos ha, if_pos ha, List.map_cons, List.map_cons, this, mset, if_neg hne]
   ·rw [if_neg ha, if_neg ha, this]
theorem pin_good {q : Clk} (h : q.Good) (k : Key3) (n : Int) : (q.pin k n).1.Good ∧ (q.pin k n).1.most = q.most ∧ (q.pin k n).2 = (mget k q.res).isSome ∧
  (q.pin k n).1.res = match mget k q.res with | some a => mset k (max (a + n) 0) q.res | none => q.res := by
 unfold pin
 cases hf : q.find k with
 | none => exact ⟨h, rfl, by rw [res_nofind hf]; rfl, by rw [res_nofind hf]⟩
 | some i =>
  obtain ⟨p, hp, hk⟩ := find_key hf
  have hg := res_find h hf hp
  dsimp only
  rw [hp]
  dsimp only
  by_cases hr : p.resident = true
  ·rw [if_pos hr] at hg ⊢
   have hpm := h.wf.kinds p (List.mem_of_getElem? hp)
   have ho : Pg.Ok { p with pins := max (p.pins + n) 0 } := ⟨hpm.1, by dsimp only; omega, fun h3 => by
    dsimp only at h3
    unfold Pg.resident at hr
    rw [h3] at hr
    cases hr⟩
   refine ⟨h.setP hp rfl rfl rfl ho, rfl, by rw [hg]; rfl, ?_⟩
   rw [hg]
   dsimp only
   rw [← hk]
   exact res_pins _ h.nodup hp hr
  ·rw [if_neg hr] at hg ⊢
   exact ⟨h, rfl, by rw [hg]; rfl, by rw [hg]⟩
theorem page_good {q : Clk} (h : q.Good) (k : Key3) : (∀ a, mget k q.res = some a → ∃ i p, q.find k = some i ∧ q.pages[i]? = some p ∧ p.pins = a) ∧ (∀ i p, q.find k = some i → q.pages[i]? = some p → mget k q.res = none → p.pins = 0) := by
 constructor
 ·intro a ha
  cases hf : q.find k with
  | none => rw [res_nofind hf] at ha; cases ha
  | some i =>
   obtain ⟨p, hp, hk⟩ := find_key hf
   have hg := res_find h hf hp
   rw [ha] at hg
   refine ⟨i, p, rfl, hp, ?_⟩
   split at hg
   ·exact (Option.some.inj hg).symm
   ·cases hg
 ·intro i p hf hp hn
  have hg := res_find h hf hp
  have hpm := h.wf.kinds p (List.mem_of_getElem? hp)
  rw [hn] at hg
  split at hg
  ·cases hg
  ·rename_i hr
   refine hpm.2.2 ?_
   rcases hpm.1 with e | e | e
   ·exact absurd (by simp [Pg.resident, e]) hr
   ·exact absurd (by simp [Pg.resident, e]) hr
   ·exact e
theorem Good.goes {q : Clk} (h : q.Good) {i : Nat} {p : Pg} (hp : q.pages[i]? = some p) : (q.goes i).Good := by
 have hlt := (List.getElem?_eq_some_iff.1 hp).1
 refine ⟨h.wf.goes hlt, ?_, ?_, ?_⟩
 ·rw [res_len]
  have h1 := gx Pg.resident hp
  have h2 := h.count
  unfold Clk.goes Clk.count at *
  dsimp only at *
  omega
 ·have h1 := gx Pg.test hp
  have h2 := h.tests
  unfold Clk.goes Clk.count at *
  dsimp only at *
  omega
 ·exact h.nodup.sublist ((List.eraseIdx_sublist ..).map _)
theorem res_goes {q : Clk} (h : q.Good) {k : Key3} {i : Nat} (hf : q.find k = some i) (j : Key3) : mget j (q.goes i).res = if j = k then none else mget j q.res := by
 obtain ⟨p, hp, hk⟩ := find_key hf
 have hg := res_find h hf hp
 by_cases hr : p.resident = true
 ·have h1 := (res_out_erase hp hr).1
  have h2 := mget_perm h1 h.resNodup
  have hn := h.resNodup
  have hn2 : (Go.Hw.keys ((p.key, p.pins) :: (q.goes i).res)).Nodup := (h1.map _).nodup_iff.1 hn
  have hn3 : p.key ∉ Go.Hw.keys (q.goes i).res := (List.nodup_cons.1 hn2).1
  have h3 := h2 j
  show mget j (q.goes i).res = _
  rw [hk] at hn3
  by_cases hj : j = k
  ·subst hj; rw [if_pos rfl]; exact mget_none.2 hn3
  ·rw [if_neg hj]
   have h4 : mget j ((p.key, p.pins) :: (q.goes i).res) = mget j (q.goes i).res := by rw [mget, if_neg (by rw [hk]; exact fun e => hj e.symm)]
   rw [← h4]
   exact h3
 ·have h1 : (q.goes i).res = q.res := res_erase hp (by simpa using hr)
  rw [h1]
  rw [if_neg hr] at hg
  by_cases hj : j = k
  ·subst hj; rw [if_pos rfl]; exact hg
  ·rw [if_neg hj]
theorem drop_good {q : Clk} (h : q.Good) (k : Key3) : (q.drop k).1.Good ∧ (q.drop k).1.most = q.most ∧ ∀ j, mget j (q.drop k).1.res = if j = k then none else mget j q.res := by
 unfold Clk.drop
 cases hf : q.find k with
 | none =>
  refine ⟨h, rfl, fun j => ?_⟩
  by_cases hj : j = k
  ·subst hj; rw [if_pos rfl]; exact res_nofind hf
  ·rw [if_neg hj]
 | some i =>
  obtain ⟨p, hp, hk⟩ := find_key hf
  exact ⟨h.goes hp, rfl, res_goes h hf⟩
theorem comes_perm {q : Clk} (p : Pg) : (q.comes p).pages.Perm (p :: q.pages) := by
 unfold comes
 split
 ·rename_i h; rw [h]
 ·have : (q.pages.take q.hot ++ p :: q.pages.drop q.hot).Perm (p :: (q.pages.take q.hot ++ q.pages.drop q.hot)) := List.perm_middle
  rwa [List.take_append_drop] at this
theorem comes_res {q : Clk} {p : Pg} (hr : p.resident = true) : (q.comes p).res.Perm ((p.key, p.pins) :: q.res) := by
 have h1 := ((comes_perm (q := q) p).filter Pg.resident).map fun p => (p.key, p.pins)
 rw [List.filter_cons, if_pos hr, List.map_cons] at h1
 exact h1
theorem comes_most (q : Clk) (p : Pg) : (q.comes p).most = q.most := by unfold comes; split <;> rfl
structure Came (q : Clk) (k : Key3) (q' : Clk) (out : List Key3) : Prop where
 good : q'.Good
 most : q'.most = q.most
 here : mget k q'.res = some 0
 others : ((q.res.length : Int) < q.most ∧ out = [] ∧ ∀ j, j ≠ k → mget j q'.res = mget j q.res) ∨ (q.most ≤ (q.res.length : Int) ∧ ∃ k0, out = [k0] ∧ k0 ≠ k ∧ mget k0 q.res = some 0 ∧ ∀ j, j ≠ k → mget j q'.res = if j = k0 then none else mget j q.res)
theorem erase_key {l : List Pg} {i : Nat} {p : Pg} (hn : (l.map (·.key)).Nodup) (hp : l[i]? = some p) : p.key ∉ (l.eraseIdx i).map (·.key) := by
 induction l generalizing i with
 | nil => cases hp
 | cons a l ih =>
  have hn' : a.key ∉ l.map (·.key) ∧ (l.map (·.key)).Nodup := by simpa using hn
  cases i with
  | zero => cases hp; exact hn'.1
  | succ i =>
   have hp' : l[i]? = some p := by simpa using hp
   have := ih hn'.2 hp'
   rw [List.eraseIdx_cons_succ, List.map_cons, List.mem_cons]
   rintro (e | e)
   ·exact hn'.1 (e ▸ List.mem_map.2 ⟨p, List.mem_of_getElem? hp', rfl⟩)
   ·exact this e
theorem free_iff {q : Clk} (h : q.Good) : q.count Pg.free = 0 ↔ ∀ j a, mget j q.res = some a → a ≠ 0 := by
 rw [← res_free, List.countP_eq_zero]
 constructor
 ·intro hx j a hj e
  have := hx _ ((mget_iff h.resNodup).1 hj)
  simp [e] at this
 ·rintro hx ⟨j, a⟩ hj
  have := hx j a ((mget_iff h.resNodup).2 hj)
  simpa using this
theorem came_of {q1 : Clk} {k : Key3} (h : q1.Good) (hk : k ∉ q1.keys) (hf : ¬ ((q1.count Pg.resident : Int) ≥ q1.most ∧ q1.count Pg.free = 0)) {p : Pg} (hpk : p.key = k) (hpr : p.resident = true) (hpp : p.pins = 0) (hpo : p.Ok) :
  Came q1 k ((q1.room.1.comes p).cool) q1.room.2 := by
 have hpt : p.test = false := by
  unfold Pg.resident at hpr
  unfold Pg.test
  rcases hpo.1 with e | e | e <;> simp [e] at hpr ⊢
 have gen : ∀ q2 : Clk, q2.Wf → q2.most = q1.most → (q2.res.length : Int) + 1 ≤ q2.most → (q2.count Pg.test : Int) ≤ q2.most → List.Sublist q2.keys q1.keys →
   ((q2.comes p).cool).Good ∧ ((q2.comes p).cool).most = q1.most ∧ mget k ((q2.comes p).cool).res = some 0 ∧ ∀ j, j ≠ k → mget j ((q2.comes p).cool).res = mget j q2.res := by
  intro q2 hw hm hl ht hs
  obtain ⟨hw3, _⟩ := comes_wf hw hpo
  obtain ⟨hw4, hle, _⟩ := cool_ok hw3
  have hcm := comes_most q2 p
  have hperm := comes_res (q := q2) hpr
  rw [hpk, hpp] at hperm
  have hkp : (q2.comes p).keys.Perm (k :: q2.keys) := by
   have := (comes_perm (q := q2) p).map (·.key)
   rw [List.map_cons, hpk] at this
   exact this
  have hn2 : q2.keys.Nodup := h.nodup.sublist hs
  have hk2 : k ∉ q2.keys := fun hx => hk (hs.subset hx)
  have hn3 : (q2.comes p).keys.Nodup := hkp.nodup_iff.2 (List.nodup_cons.2 ⟨hk2, hn2⟩)
  have hn4 := hn3.sublist hle.keys
  have hr4 : ((q2.comes p).cool).res = (q2.comes p).res := hle.res
  have htc : (q2.comes p).count Pg.test = q2.count Pg.test := by
   unfold Clk.count
   rw [(comes_perm (q := q2) p).countP_eq, List.countP_cons, hpt]; rfl
  have hg : ((q2.comes p).cool).Good := by
   refine ⟨hw4, ?_, ?_, hn4⟩
   ·rw [hr4, hperm.length_eq, hle.most, hcm, List.length_cons]; omega
   ·have := hle.tests
    rw [hle.most, hcm]
    omega
  have hrn : (Go.Hw.keys ((k, (0 : Int)) :: q2.res)).Nodup := List.nodup_cons.2 ⟨fun hx => hk2 ((res_sub q2).subset hx), hn2.sublist (res_sub q2)⟩
  have hmg := mget_perm hperm.symm hrn
  refine ⟨hg, by rw [hle.most, hcm, hm], ?_, fun j hj => ?_⟩
  ·rw [hr4, hmg, mget, if_pos rfl]
  ·rw [hr4, hmg, mget, if_neg (fun e => hj e.symm)]
 have hlen : q1.count Pg.resident = q1.res.length := (res_len q1).symm
 unfold room
 by_cases hfull : (q1.count Pg.resident : Int) ≥ q1.most
 ·rw [if_pos hfull]
  have hfr : 1 ≤ q1.count Pg.free := Nat.one_le_iff_ne_zero.2 fun e => hf ⟨hfull, e⟩
  obtain ⟨k0, hk0, hw, ho⟩ := coldTurns_ok h.wf hfr
  rw [hk0]
  have hl := ho.res.length_eq
  rw [List.length_cons] at hl
  have hres := h.res
  obtain ⟨g1, g2, g3, g4⟩ := gen _ hw ho.most (by rw [ho.most]; omega) (by have := ho.tests; omega) ho.keys
  have hn1 := h.resNodup
  have hn2 : (Go.Hw.keys ((k0, (0 : Int)) :: q1.coldTurns.1.res)).Nodup := (ho.res.map _).nodup_iff.1 hn1
  have hm := mget_perm ho.res.symm hn2
  have hk00 : mget k0 q1.res = some 0 := by rw [hm, mget, if_pos rfl]
  have hnk : k0 ≠ k := by
   rintro rfl
   have : mget k0 q1.res = none := mget_none.2 fun hx => hk ((res_sub q1).subset hx)
   rw [this] at hk00; cases hk00
  refine ⟨g1, g2, g3, .inr ⟨by rw [← hlen]; exact hfull, k0, rfl, hnk, hk00, fun j hj => ?_⟩⟩
  rw [g4 j hj, hm, mget]
  by_cases e : j = k0
  ·rw [if_pos e, e]
   exact mget_none.2 (List.nodup_cons.1 hn2).1
  ·rw [if_neg e, if_neg (fun e' => e e'.symm)]
 ·rw [if_neg hfull]
  obtain ⟨g1, g2, g3, g4⟩ := gen q1 h.wf rfl O0 h.tests (List.Sublist.refl _)
  exact ⟨g1, g2, g3, .inl ⟨by omega, rfl, g4⟩⟩
theorem admit_cases {q : Clk} (h : q.Good) (k : Key3) :
  ((mget k q.res).isSome = true ∧ q.lets k = ((q.touch k).1, [], true)) ∨
  (mget k q.res = none ∧ q.most ≤ (q.res.length : Int) ∧ (∀ j a, mget j q.res = some a → a ≠ 0) ∧ q.lets k = (q, [], false)) ∨
  (mget k q.res = none ∧ ¬ (q.most ≤ (q.res.length : Int) ∧ ∀ j a, mget j q.res = some a → a ≠ 0) ∧ (q.lets k).2.2 = true ∧ Came q k (q.lets k).1 (q.lets k).2.1) := by
 obtain ⟨t1, t2, t3, t4⟩ := touch_good h k
 by_cases ht : (q.touch k).2 = true
 ·refine .inl ⟨by rw [← t3]; exact ht, ?_⟩
  unfold lets; rw [if_pos ht]
 ·have hno : mget k q.res = none := by
   rw [t3] at ht
   cases hg : mget k q.res with
   | none => rfl
   | some a => rw [hg] at ht; exact absurd rfl ht
  right
  have hlen : q.count Pg.resident = q.res.length := (res_len q).symm
  have hfi := free_iff h
  by_cases hc : (q.count Pg.resident : Int) ≥ q.most ∧ q.count Pg.free = 0
  ·refine .inl ⟨hno, by rw [← hlen]; exact hc.1, hfi.1 hc.2, ?_⟩
   unfold lets; rw [if_neg ht, if_pos hc]
  ·refine .inr ⟨hno, fun hh => hc ⟨by rw [hlen]; exact hh.1, hfi.2 hh.2⟩, ?_⟩
   unfold lets
   rw [if_neg ht, if_neg hc]
   refine ⟨rfl, ?_⟩
   dsimp only
   cases hf : q.find k with
   | none => exact came_of h (find_no hf) hc (p := ⟨k, 2, false, true, 0⟩) rfl rfl rfl ⟨.inr (.inl rfl), Int.le_refl 0, fun e => by cases e⟩
   | some i =>
    obtain ⟨p, hp, hk⟩ := find_key hf
    have hg := res_find h hf hp
    rw [hno] at hg
    have hr : p.resident = false := by
     cases hr : p.resident with
     | false => rfl
     | true => rw [hr] at hg; cases hg
    have hgo := h.goes hp
    have hres : ((q.goes i).aim 1).res = q.res := res_erase hp hr
    have hq1 : ((q.goes i).aim 1).Good := ⟨hgo.wf.aim 1, hgo.res, hgo.tests, hgo.nodup⟩
    have hfr : ((q.goes i).aim 1).count Pg.free = q.count Pg.free := by rw [← res_free, ← res_free, hres]
    have hct : ((q.goes i).aim 1).count Pg.resident = q.count Pg.resident := by rw [← res_len, ← res_len, hres]
    have hcm := came_of hq1 (k := k) (by rw [← hk]; exact erase_key h.nodup hp) (by rw [hfr, hct]; exact hc) (p := ⟨k, 1, false, false, 0⟩) rfl rfl rfl ⟨.inl rfl, Int.le_refl 0, fun e => by cases e⟩
    have ho := hcm.others
    rw [hres] at ho
    exact ⟨hcm.good, hcm.most, hcm.here, ho⟩
end Clk
end Go.Hw

namespace Go.Hw
theorem nodup_sub_len {α : Type} [DecidableEq α] : ∀ {l m : List α}, l.Nodup → (∀ x ∈ l, x ∈ m) → l.length ≤ m.length
 | [], _, _, _ => Nat.zero_le _
 | a :: l, m, hn, hs => by
  have hn' := List.nodup_cons.1 hn
  have ha := hs a (List.mem_cons_self ..)
  have := nodup_sub_len (m := m.erase a) hn'.2 fun x hx => (List.mem_erase_of_ne (by rintro rfl; exact hn'.1 hx)).2 (hs x (List.mem_cons_of_mem _ hx))
  rw [List.length_erase_of_mem ha] at this
  have hp := List.length_pos_of_mem ha
  rw [List.length_cons]; omega
namespace Cac
abbrev pins (C : Cac) (k : Key3) : Option Int := mget k C.clk.res
structure Good (C : Cac) (N : Int) : Prop where
 clk : C.clk.Good
 big : ∀ k a, C.pins k = some a → a ≤ N
 nodup : (keys C.rows).Nodup
 same : ∀ k, (mget k C.rows).isSome = (C.pins k).isSome
 rows : ∀ k L, mget k C.rows = some L → L.length ≤ 1073741824
variable {C : Cac} {N : Int}
theorem Good.ge (h : C.Good N) {k : Key3} {a : Int} (hk : C.pins k = some a) : 0 ≤ a := by
 obtain ⟨p, hp, _, _, rfl⟩ := Clk.mem_res.1 ((mget_iff h.clk.resNodup).1 hk)
 exact (h.clk.wf.kinds p hp).2.1
theorem Good.mono (h : C.Good N) {M : Int} (hM : N ≤ M) : C.Good M := ⟨h.clk, fun k a hk => by have := h.big k a hk; omega, h.nodup, h.same, h.rows⟩
theorem Good.ok (h : C.Good N) (hN : N ≤ 1099511627776) : C.Ok := by
 refine ⟨h.clk.wf, by have := h.clk.len; omega, h.clk.count, fun p hp => ?_, h.rows⟩
 have ho := h.clk.wf.kinds p hp
 refine ⟨ho.2.1, ?_⟩
 by_cases hr : p.resident = true
 ·have := h.big p.key p.pins ((mget_iff h.clk.resNodup).2 (Clk.mem_res.2 ⟨p, hp, hr, rfl, rfl⟩))
  omega
 ·have h3 : p.kind = 3 := by
   rcases ho.1 with e | e | e
   ·exact absurd (by simp [Pg.resident, e]) hr
   ·exact absurd (by simp [Pg.resident, e]) hr
   ·exact e
  rw [ho.2.2 h3]; decide
theorem Good.row (h : C.Good N) {k : Key3} {a : Int} (hk : C.pins k = some a) : ∃ L, mget k C.rows = some L := by
 have := h.same k
 rw [hk] at this
 exact Option.isSome_iff_exists.1 this
theorem Good.norow (h : C.Good N) {k : Key3} (hk : C.pins k = none) : mget k C.rows = none := by
 have := h.same k
 rw [hk] at this
 simpa using this
theorem Good.frames (h : C.Good N) : C.rows.length = C.clk.res.length := by
 have key : ∀ k, k ∈ keys C.rows ↔ k ∈ keys C.clk.res := fun k => by
  have := h.same k
  have h1 := mget_none (k := k) (m := C.rows)
  have h2 := mget_none (k := k) (m := C.clk.res)
  cases ha : mget k C.rows with
  | none =>
   rw [ha] at this
   have hb : C.pins k = none := by simpa using this.symm
   exact ⟨fun hx => absurd hx (h1.1 ha), fun hx => absurd hx (h2.1 hb)⟩
  | some L =>
   rw [ha] at this
   have hb : mget k C.clk.res ≠ none := fun e => by rw [show C.pins k = none from e] at this; cases this
   refine ⟨fun _ => ?_, fun _ => ?_⟩
   ·by_cases hx : k ∈ keys C.clk.res
    ·exact hx
    ·exact absurd (h2.2 hx) hb
   ·by_cases hx : k ∈ keys C.rows
    ·exact hx
    ·rw [h1.2 hx] at ha; cases ha
 have e1 := nodup_sub_len h.nodup fun k hk => (key k).1 hk
 have e2 := nodup_sub_len h.clk.resNodup fun k hk => (key k).2 hk
 unfold keys at e1 e2
 simp only [List.length_map] at e1 e2
 omega
theorem new_good (n : Int) : (Cac.new n).Good 0 := ⟨Clk.new_good n, fun k a h => (by cases h), List.nodup_nil, fun k => rfl, fun k L h => (by cases h)⟩
theorem get_good (h : C.Good N) (k : Key3) : (C.get k).1.Good N ∧ (C.get k).1.clk.res = C.clk.res ∧ (C.get k).1.rows = C.rows ∧ (C.get k).2 = mget k C.rows ∧ (C.get k).1.clk.most = C.clk.most := by
 obtain ⟨t1, t2, t3, t4⟩ := Clk.touch_good h.clk k
 unfold get
 by_cases ht : (C.clk.touch k).2 = true
 ·rw [if_pos ht]
  rw [t3] at ht
  obtain ⟨a, ha⟩ := Option.isSome_iff_exists.1 ht
  obtain ⟨L, hL⟩ := h.row ha
  refine ⟨⟨t1, fun j b hj => h.big j b (by unfold pins at hj ⊢; rw [← t2]; exact hj), h.nodup, fun j => by show _ = (mget j (C.clk.touch k).1.res).isSome; rw [t2]; exact h.same j, h.rows⟩, t2, rfl, by dsimp only; rw [hL]; rfl, t4⟩
 ·rw [if_neg ht]
  rw [t3] at ht
  refine ⟨h, rfl, rfl, ?_, rfl⟩
  exact (h.norow (by cases hx : C.pins k with | none => rfl | some a => exact absurd (by unfold pins at hx; rw [hx]; rfl) ht)).symm
theorem get_pins (h : C.Good N) (k j : Key3) : (C.get k).1.pins j = C.pins j := by unfold pins; rw [(get_good h k).2.1]
theorem pin_some (h : C.Good N) {k : Key3} {a : Int} (n : Int) (hk : C.pins k = some a) : (C.pinN k n).2 = true ∧ (C.pinN k n).1.rows = C.rows ∧ (C.pinN k n).1.clk.most = C.clk.most ∧ (C.pinN k n).1.clk.res = mset k (max (a + n) 0) C.clk.res ∧ (C.pinN k n).1.Good (max N (a + n)) := by
 obtain ⟨p1, p2, p3, p4⟩ := Clk.pin_good h.clk k n
 have hk' : mget k C.clk.res = some a := hk
 rw [hk'] at p3 p4
 have e : C.pinN k n = (⟨(C.clk.pin k n).1, C.rows⟩, true) := by unfold pinN; rw [p3]; rfl
 rw [e]
 have hge := h.ge hk
 have hle := h.big k a hk
 refine ⟨rfl, rfl, p2, p4, p1, fun j b hj => ?_, h.nodup, fun j => ?_, h.rows⟩
 ·have hj' : mget j (C.clk.pin k n).1.res = some b := hj
  rw [p4] at hj'
  dsimp only at hj'
  rw [j1] at hj'
  split at hj'
  ·have := Option.some.inj hj'; omega
  ·have := h.big j b hj'; omega
 ·show _ = (mget j (C.clk.pin k n).1.res).isSome
  rw [p4]
  dsimp only
  rw [j1]
  split
  ·rename_i hj; subst hj; rw [h.same j]; unfold pins; rw [hk']; rfl
  ·exact h.same j
theorem pin_at (h : C.Good N) {k : Key3} {a : Int} (n : Int) (hk : C.pins k = some a) (j : Key3) : (C.pinN k n).1.pins j = if j = k then some (max (a + n) 0) else C.pins j := by
 unfold pins; rw [(pin_some h n hk).2.2.2.1, j1]
theorem page_some (h : C.Good N) {k : Key3} {a : Int} (hk : C.pins k = some a) : ∃ p, C.clk.page k = some p ∧ p.pins = a := by
 obtain ⟨i, p, h1, h2, h3⟩ := (Clk.page_good h.clk k).1 a hk
 exact ⟨p, by unfold Clk.page; rw [h1]; exact h2, h3⟩
theorem unpin_pos (h : C.Good N) {k : Key3} {a : Int} (hk : C.pins k = some a) (ha : 0 < a) : C.unpin k = C.pinN k (-1) := by
 obtain ⟨p, hp, he⟩ := page_some h hk
 unfold unpin; rw [hp]; dsimp only; rw [if_pos O0]
theorem unpin_zero (h : C.Good N) {k : Key3} (hk : ∀ a, C.pins k = some a → a = 0) : C.unpin k = (C, false) := by
 unfold unpin
 cases hp : C.clk.page k with
 | none => rfl
 | some p =>
  dsimp only
  rw [if_neg]
  cases hq : C.pins k with
  | some a =>
   obtain ⟨p', hp', he⟩ := page_some h hq
   rw [hp] at hp'
   cases hp'
   have := hk a hq
   omega
  | none =>
   have hf : ∃ i, C.clk.find k = some i ∧ C.clk.pages[i]? = some p := by
    unfold Clk.page at hp
    cases hi : C.clk.find k with
    | none => rw [hi] at hp; cases hp
    | some i => rw [hi] at hp; exact ⟨i, rfl, hp⟩
   obtain ⟨i, h1, h2⟩ := hf
   have := (Clk.page_good h.clk k).2 i p h1 h2 hq
   omega
theorem drop_zero (h : C.Good N) {k : Key3} (hk : C.pins k = some 0) : (C.drop k).2 = true ∧ (C.drop k).1.clk.most = C.clk.most ∧ (C.drop k).1.rows = mdel k C.rows ∧ (∀ j, (C.drop k).1.pins j = if j = k then none else C.pins j) ∧ (C.drop k).1.Good N := by
 obtain ⟨p, hp, he⟩ := page_some h hk
 obtain ⟨d1, d2, d3⟩ := Clk.drop_good h.clk k
 have e : C.drop k = (⟨(C.clk.drop k).1, mdel k C.rows⟩, true) := by unfold drop; rw [hp]; dsimp only; rw [if_neg O0]
 rw [e]
 refine ⟨rfl, d2, rfl, d3, d1, fun j b hj => ?_, mdel_nodup h.nodup, fun j => ?_, fun j L hj => ?_⟩
 ·have hj' := d3 j
  rw [show mget j (C.clk.drop k).1.res = some b from hj] at hj'
  split at hj'
  ·cases hj'
  ·exact h.big j b hj'.symm
 ·show (mget j (mdel k C.rows)).isSome = (mget j (C.clk.drop k).1.res).isSome
  rw [d3, mget_mdel _ _ _ h.nodup]
  split
  ·rfl
  ·exact h.same j
 ·dsimp only at hj
  rw [mget_mdel _ _ _ h.nodup] at hj
  split at hj
  ·cases hj
  ·exact h.rows j L hj
theorem put_same (h : C.Good N) {k : Key3} {a : Int} {L : List Smp} (hL : L.length ≤ 1073741824) (hk : C.pins k = some a) : (C.put k L).2 = true ∧ (C.put k L).1.clk.res = C.clk.res ∧ (C.put k L).1.rows = mset k L C.rows ∧ (C.put k L).1.clk.most = C.clk.most ∧ (C.put k L).1.Good N := by
 obtain ⟨t1, t2, t3, t4⟩ := Clk.touch_good h.clk k
 have hk' : mget k C.clk.res = some a := hk
 have ha : C.clk.lets k = ((C.clk.touch k).1, [], true) := by
  rcases Clk.admit_cases h.clk k with ⟨_, e⟩ | ⟨e, _⟩ | ⟨e, _⟩
  ·exact e
  ·rw [hk'] at e; cases e
  ·rw [hk'] at e; cases e
 have e : C.put k L = (⟨(C.clk.touch k).1, mset k L C.rows⟩, true) := by unfold put; rw [ha]; rfl
 rw [e]
 refine ⟨rfl, t2, rfl, t4, t1, fun j b hj => h.big j b (by unfold pins at hj ⊢; rw [← t2]; exact hj), mset_nodup h.nodup, fun j => ?_, fun j M hj => ?_⟩
 ·show (mget j (mset k L C.rows)).isSome = (mget j (C.clk.touch k).1.res).isSome
  rw [t2, j1]
  split
  ·rename_i hj; subst hj; rw [hk']; rfl
  ·exact h.same j
 ·dsimp only at hj
  rw [j1] at hj
  split at hj
  ·cases hj; exact hL
  ·exact h.rows j M hj
theorem put_full (h : C.Good N) {k : Key3} {L : List Smp} (hk : C.pins k = none) (h1 : C.clk.most ≤ (C.clk.res.length : Int)) (h2 : ∀ j a, C.pins j = some a → a ≠ 0) : C.put k L = (C, false) := by
 have ha : C.clk.lets k = (C.clk, [], false) := by
  rcases Clk.admit_cases h.clk k with ⟨e, _⟩ | ⟨_, _, _, e⟩ | ⟨_, e, _⟩
  ·rw [show mget k C.clk.res = none from hk] at e; cases e
  ·exact e
  ·exact absurd ⟨h1, h2⟩ e
 unfold put; rw [ha]; rfl
structure PutIn (C : Cac) (k : Key3) (L : List Smp) (C' : Cac) (N : Int) : Prop where
 good : C'.Good N
 most : C'.clk.most = C.clk.most
 here : C'.pins k = some 0
 row : mget k C'.rows = some L
 others : ((C.clk.res.length : Int) < C.clk.most ∧ C'.rows = mset k L C.rows ∧ ∀ j, j ≠ k → C'.pins j = C.pins j) ∨ (C.clk.most ≤ (C.clk.res.length : Int) ∧ ∃ k0, k0 ≠ k ∧ C.pins k0 = some 0 ∧ C'.rows = mset k L (mdel k0 C.rows) ∧ ∀ j, j ≠ k → C'.pins j = if j = k0 then none else C.pins j)
theorem PutIn.pinned {k : Key3} {L : List Smp} {C' : Cac} (h : PutIn C k L C' N) {j : Key3} {a : Int} (hj : j ≠ k) (hp : C.pins j = some a) (ha : a ≠ 0) : C'.pins j = some a := by
 rcases h.others with ⟨_, _, h1⟩ | ⟨_, k0, h0, h2, _, h1⟩
 ·rw [h1 j hj, hp]
 ·rw [h1 j hj]
  split
  ·rename_i e; subst e; rw [hp] at h2; exact absurd (Option.some.inj h2) ha
  ·exact hp
theorem put_in (h : C.Good N) (hN : 0 ≤ N) {k : Key3} {L : List Smp} (hL : L.length ≤ 1073741824) (hk : C.pins k = none) (h1 : ¬ (C.clk.most ≤ (C.clk.res.length : Int) ∧ ∀ j a, C.pins j = some a → a ≠ 0)) : (C.put k L).2 = true ∧ PutIn C k L (C.put k L).1 N := by
 obtain ⟨a2, hc⟩ : (C.clk.lets k).2.2 = true ∧ Clk.Came C.clk k (C.clk.lets k).1 (C.clk.lets k).2.1 := by
  rcases Clk.admit_cases h.clk k with ⟨e, _⟩ | ⟨_, e1, e2, _⟩ | ⟨_, _, e⟩
  ·rw [show mget k C.clk.res = none from hk] at e; cases e
  ·exact absurd ⟨e1, e2⟩ h1
  ·exact e
 have e : C.put k L = (⟨(C.clk.lets k).1, mset k L (dels C.rows (C.clk.lets k).2.1)⟩, true) := by unfold put; rw [a2]; rfl
 rw [e]
 refine ⟨rfl, ?_⟩
 have hrow := h.norow hk
 have key : ∀ R : List (Key3 × List Smp), (keys R).Nodup → (∀ j, j ≠ k → (mget j R).isSome = (mget j (C.clk.lets k).1.res).isSome) → (∀ j M, mget j R = some M → M.length ≤ 1073741824) → Good ⟨(C.clk.lets k).1, mset k L R⟩ N := by
  intro R hR hs hl
  refine ⟨hc.good, fun j b hj => ?_, mset_nodup hR, fun j => ?_, fun j M hj => ?_⟩
  ·have hj' : mget j (C.clk.lets k).1.res = some b := hj
   by_cases e : j = k
   ·subst e; rw [hc.here] at hj'; cases hj'; exact hN
   ·rcases hc.others with ⟨_, _, ho⟩ | ⟨_, k0, _, _, _, ho⟩
    ·exact h.big j b ((ho j e).symm.trans hj')
    ·rw [ho j e] at hj'
     split at hj'
     ·cases hj'
     ·exact h.big j b hj'
  ·show (mget j (mset k L R)).isSome = (mget j (C.clk.lets k).1.res).isSome
   rw [j1]
   split
   ·rename_i e; subst e; rw [hc.here]; rfl
   ·rename_i e; exact hs j e
  ·dsimp only at hj
   rw [j1] at hj
   split at hj
   ·cases hj; exact hL
   ·exact hl j M hj
 rcases hc.others with ⟨o1, o2, o3⟩ | ⟨o1, k0, o2, o3, o4, o5⟩
 ·rw [o2]
  refine ⟨key C.rows h.nodup (fun j hj => by rw [o3 j hj]; exact h.same j) h.rows, hc.most, hc.here, ?_, .inl ⟨o1, rfl, o3⟩⟩
  show mget k (mset k L C.rows) = some L
  rw [j1, if_pos rfl]
 ·rw [o2]
  have hd : dels C.rows [k0] = mdel k0 C.rows := rfl
  rw [hd]
  refine ⟨key _ (mdel_nodup h.nodup) (fun j hj => ?_) (fun j M hj => ?_), hc.most, hc.here, ?_, .inr ⟨o1, k0, o3, o4, rfl, o5⟩⟩
  ·rw [o5 j hj, mget_mdel _ _ _ h.nodup]
   split
   ·rfl
   ·exact h.same j
  ·rw [mget_mdel _ _ _ h.nodup] at hj
   split at hj
   ·cases hj
   ·exact h.rows j M hj
  ·show mget k (mset k L (mdel k0 C.rows)) = some L
   rw [j1, if_pos rfl]
theorem put_good (h : C.Good N) (hN : 0 ≤ N) {k : Key3} {L : List Smp} (hL : L.length ≤ 1073741824) : (C.put k L).1.Good N := by
 cases hk : C.pins k with
 | some a => exact (put_same h hL hk).2.2.2.2
 | none =>
  by_cases hc : C.clk.most ≤ (C.clk.res.length : Int) ∧ ∀ j a, C.pins j = some a → a ≠ 0
  ·rw [put_full h hk hc.1 hc.2]; exact h
  ·exact (put_in h hN hL hk hc).2.good
end Cac
end Go.Hw
