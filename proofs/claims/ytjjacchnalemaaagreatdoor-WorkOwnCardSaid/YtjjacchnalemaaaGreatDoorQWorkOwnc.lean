/- What the proof of WorkOwn needs, part 3: plain lemmas, and what each function does. -/
import Derived.Test.YtjjacchnalemaaaGreatDoorQWorkOwnb
import Derived.Test.YtjjacchnalemaaaGreatDoorRows
import Derived.ProofKit
import Derived.LaidMore
import Derived.OpenShut
import Derived.Stop.Joined
namespace Go.Hw
theorem wrap_I64 (x : Int) : I64 (IntKind.i64.wrap x) := by
 unfold IntKind.wrap I64
 simp [IntKind.signed, IntKind.bits]
 split <;> omega
theorem us_nat (x : Int) : ∃ v : Nat, v < 18446744073709551616 ∧ IntKind.u64.wrap x = (v : Int) := ⟨us x, us_lt x, wrap_us x⟩
end Go.Hw
namespace Go.Proofs.YtjjacchnalemaaaGreatDoor
open Go.Hw
set_option maxHeartbeats 4000000
set_option maxRecDepth 100000
theorem r_nat {P : Program} {n : Nat} {ops : Array Oper} {Q : Post} {rest : List Oper} {e : Env} {w : World} {c : Nat} {x : Int} (hx : ∃ v : Nat, v < 18446744073709551616 ∧ x = (v : Int)) (h : ∀ v : Nat, v < 18446744073709551616 → Rn P n ops Q rest (upd e c (.int .u64 (v : Int))) w) : Rn P n ops Q rest (upd e c (.int .u64 x)) w := by
 obtain ⟨v, h1, rfl⟩ := hx
 exact h v h1
section
variable {w0 w : World} {l : List HProp}
abbrev OwnT64 (a : Option Addr) (c : Nat) (ts : List Int) : HProp := Own 2 1 a ts.length c (i64V ts)
abbrev OwnS (a : Option Addr) (c : Nat) (L : List Smp) : HProp := Own 53 2 a L.length c (smpsV L)

theorem law4_Times {sl : Option Addr} {c : Nat} {xs : List Int} (raw : Bool) (hx : ∀ x ∈ xs, I64 x) (hn : xs.length ≤ 9223372036854775807) (hr : Reads w0 l 1 sl xs.length (i64V xs)) (h : St w0 l w) :
  Ret Tryz.prog 31 [.slice sl xs.length c, .bool raw] w fun v w' => ∃ a c' ts, ts.length ≤ 60 ∧ (∀ t ∈ ts, I64 t) ∧ v = .slice a ts.length c' ∧ St w0 (OwnT64 a c' ts :: l) w' := by
 refine enter Tryz.func31 rfl Tryz.results31 Tryz.ntmps31 rfl ?_
 refine c_seq (c_region ?_)
 refine r_v (q_assignS rfl) rfl ?_
 refine r_nil ?_
 refine c_seq (c_region ?_)
 refine r_v (q_assignS rfl) rfl ?_
 refine r_nil ?_
 refine c_seq (c_region ?_)
 refine r_v (q_assignI rfl) rfl ?_
 refine r_nil ?_
 refine c_cut (Γ := Int) (fun k => [(0, .slice sl xs.length c), (1, .bool raw), (5, .slice none 0 0), (6, .int .i64 k)]) (fun _ w => St w0 l w) ?_ ?_
 ·refine c_seq (c_region ?_)
  refine r_v (q_moveS rfl) rfl ?_; refine r_v (q_len rfl) rfl ?_; refine r_v (q_gtr rfl rfl) rfl ?_
  refine r_nil ?_
  refine c_cond (decide ((xs.length : Int) > 0)) rfl (fun hc => ?_) (fun hc => ?_)
  ·have hpos : 0 < xs.length := by simp at hc; omega
   have hg := List.getElem?_eq_getElem hpos
   generalize xs[0] = x at hg
   obtain ⟨b, o, hsl⟩ := (hr.at_ h).some hpos
   refine c_region ?_
   refine r_v (q_moveS rfl) rfl ?_
   refine r_v (q_idx (b := b) (o := o) (m := xs.length) (c := c) (o' := o) (by rw [← hsl]; rfl) rfl (j := 0) rfl hpos (by simp)) rfl ?_
   refine r_v (q_loadc (v := .int .i64 x) rfl ((hsl ▸ hr.at_ h).cell (i64V_get (j := 0) hg))) rfl ?_
   refine r_v (q_assignI rfl) rfl ?_
   exact r_nil ⟨x, ⟨rfl, rfl, rfl, rfl, trivial⟩, h⟩
  ·exact c_skip ⟨0, ⟨rfl, rfl, rfl, rfl, trivial⟩, h⟩
 clear h
 rintro last w e h
 refine c_seq (c_seq (c_region ?_))
 refine r_v (q_assignI rfl) rfl ?_
 refine r_nil ?_
 refine c_block ?_
 refine c_loop (Γ := Nat × List Int × Int × Option Addr × Nat) (fun k => [(0, .slice sl xs.length c), (1, .bool raw), (5, .slice k.2.2.2.1 k.2.1.length k.2.2.2.2), (6, .int .i64 k.2.2.1), (7, .int .i64 k.1)])
  (fun k w => k.1 ≤ 60 ∧ k.2.1.length = k.1 ∧ (∀ t ∈ k.2.1, I64 t) ∧ St w0 (OwnT64 k.2.2.2.1 k.2.2.2.2 k.2.1 :: l) w) (fun k => 60 - k.1) (0, [], last, none, 0) ⟨rfl, rfl, rfl, rfl, rfl, trivial⟩ ⟨Nat.zero_le _, rfl, (fun _ h => by cases h), St.ownNil _ _ h⟩ ?_
 clear h
 rintro ⟨i, ts, last, a, c1⟩ w e ⟨hi, htl, hts, h⟩
 dsimp only at hi htl hts h ⊢
 refine c_seq ?_
 refine c_cut (Γ := Bool) (fun k => [(0, .slice sl xs.length c), (1, .bool raw), (5, .slice a ts.length c1), (6, .int .i64 last), (7, .int .i64 i), (22, .bool k)]) (fun k w => (k = true → i < xs.length ∧ i < 60) ∧ St w0 (OwnT64 a c1 ts :: l) w) ?_ ?_
 ·refine c_region ?_
  refine r_v (q_moveI rfl) rfl ?_; refine r_v (q_moveS rfl) rfl ?_; refine r_v (q_len rfl) rfl ?_; refine r_v (q_lss rfl rfl) rfl ?_
  by_cases hin : i < xs.length
  ·refine r_is (.bool true) (by simp; omega) ?_
   refine r_v (q_moveB rfl) rfl ?_; (first | refine r_gd rfl rfl ?_ | refine r_gn rfl rfl rfl ?_ | refine r_gu rfl rfl ?_ | refine r_gd rfl (by assumption) ?_ | refine r_gn rfl (by assumption) rfl ?_); refine r_v (q_moveI rfl) rfl ?_; (first | refine r_gd rfl rfl ?_ | refine r_gn rfl rfl rfl ?_ | refine r_gu rfl rfl ?_ | refine r_gd rfl (by assumption) ?_ | refine r_gn rfl (by assumption) rfl ?_); refine r_v (q_lss rfl rfl) rfl ?_; (first | refine r_v (q_pick1 rfl rfl rfl) rfl ?_ | refine r_v (q_pick0 rfl rfl rfl) rfl ?_ | refine r_v (q_pick1 rfl (by assumption) rfl) rfl ?_ | refine r_v (q_pick0 rfl (by assumption) rfl) rfl ?_ | refine r_v (q_pickB rfl rfl rfl) rfl ?_)
   exact r_nil ⟨decide ((i : Int) < 60), ⟨rfl, rfl, rfl, rfl, rfl, rfl, trivial⟩, fun hk => ⟨hin, by rw [decide_eq_true_eq] at hk; omega⟩, h⟩
  ·refine r_is (.bool false) (by simp; omega) ?_
   refine r_v (q_moveB rfl) rfl ?_; (first | refine r_gd rfl rfl ?_ | refine r_gn rfl rfl rfl ?_ | refine r_gu rfl rfl ?_ | refine r_gd rfl (by assumption) ?_ | refine r_gn rfl (by assumption) rfl ?_); (first | refine r_gd rfl rfl ?_ | refine r_gn rfl rfl rfl ?_ | refine r_gu rfl rfl ?_ | refine r_gd rfl (by assumption) ?_ | refine r_gn rfl (by assumption) rfl ?_); (first | refine r_v (q_pick1 rfl rfl rfl) rfl ?_ | refine r_v (q_pick0 rfl rfl rfl) rfl ?_ | refine r_v (q_pick1 rfl (by assumption) rfl) rfl ?_ | refine r_v (q_pick0 rfl (by assumption) rfl) rfl ?_ | refine r_v (q_pickB rfl rfl rfl) rfl ?_)
   exact r_nil ⟨false, ⟨rfl, rfl, rfl, rfl, rfl, rfl, trivial⟩, (fun h => by cases h), h⟩
 clear h
 rintro k w e ⟨hk, h⟩
 refine c_cond k rfl (fun hc => ?_) (fun hc => ?_)
 ·
  obtain ⟨hin, hi60⟩ := hk hc
  have hg := List.getElem?_eq_getElem hin
  generalize xs[i] = x at hg
  have hxi := hx x (List.mem_of_getElem? hg)
  obtain ⟨b, o, hsl⟩ := (hr.cons.at_ h).some (by omega)
  have hcell : ∀ {w'}, (∃ L, St w0 (L ++ l) w') → w'.cell? ⟨b, o + i, none⟩ = some (.int .i64 x) := fun ⟨L, h'⟩ => (hsl ▸ hr L _ h').cell (i64V_get hg)
  refine c_skip ?_
  refine c_seq (c_block ?_)
  refine c_seq (c_region ?_)
  refine r_v (q_moveS rfl) rfl ?_; refine r_v (q_moveI rfl) rfl ?_
  refine r_v (q_idx (b := b) (o := o) (m := xs.length) (c := c) (o' := o + i) (by rw [← hsl]; rfl) rfl rfl hin (by simp)) rfl ?_
  refine r_v (q_loadc (v := .int .i64 x) rfl (hcell ⟨[_], h⟩)) rfl ?_
  refine r_v (q_assignI rfl) rfl ?_
  refine r_nil ?_
  refine c_cut (Γ := Int) (fun k => [(0, .slice sl xs.length c), (1, .bool raw), (5, .slice a ts.length c1), (7, .int .i64 i), (8, .int .i64 k)]) (fun k w => I64 k ∧ St w0 (OwnT64 a c1 ts :: l) w) ?_ ?_
  ·refine c_seq (c_region ?_)
   refine r_v (q_moveB rfl) rfl ?_; refine r_v (q_not rfl) rfl ?_
   refine r_nil (c_cond (!raw) rfl (fun hc => ?_) (fun hc => ?_))
   ·refine c_anyW [0, 1, 2, 3, 4, 5, 6, 7, 8, 9, 10, 11, 12, 13, 14, 15, 16, 17, 18, 19, 20, 21, 22, 23, 24, 25, 26, 27, 28, 29, 30, 31, 32, 33, 34, 35, 36, 37, 38, 39, 40, 41, 42] none (fun w => ∃ L, St w0 (L ++ l) w) (by kernel_rfl) (by kernel_rfl) ?_
    replace h := h.drew
    generalize w.drew = w at h
    have hs := h
    replace h : ∃ L, St w0 (L ++ l) w := ⟨[_], hs⟩
    refine cur_pure rfl rfl rfl rfl (fun _ => h) (fun _ => flt_v rfl (q_moveI rfl)) ?_; refine cur_pure rfl rfl rfl rfl (fun _ => h) (fun _ => flt_v rfl (q_add rfl rfl)) ?_; refine cur_pure rfl rfl rfl rfl (fun _ => h) (fun _ => flt_v rfl (q_moveS rfl)) ?_; refine cur_pure rfl rfl rfl rfl (fun _ => h) (fun _ => flt_v rfl (q_moveI rfl)) ?_
    refine cur_pure rfl rfl rfl rfl (fun _ => h) (fun _ => flt_v rfl (q_idx (b := b) (o := o) (m := xs.length) (c := c) (o' := o + i) (by rw [← hsl]; rfl) rfl rfl hin (by simp))) ?_
    refine cur_float rfl rfl rfl rfl h (fun w h => flt_v rfl (q_loadc (v := .int .i64 x) rfl (hcell h))) ?_
    refine cur_pure rfl rfl rfl rfl (fun _ => h) (fun _ => flt_v rfl (q_shr rfl rfl (by omega))) ?_
    refine cur_pure rfl rfl rfl rfl (fun _ => h) (fun _ => flt_v rfl (q_and rfl rfl)) ?_
    refine cur_pure rfl rfl rfl rfl (fun _ => h) (fun _ => flt_v rfl (q_quo rfl rfl (by decide))) ?_
    refine cur_pure rfl rfl rfl rfl (fun _ => h) (fun _ => flt_v rfl (q_moveS rfl)) ?_; refine cur_pure rfl rfl rfl rfl (fun _ => h) (fun _ => flt_v rfl (q_moveI rfl)) ?_
    refine cur_pure rfl rfl rfl rfl (fun _ => h) (fun _ => flt_v rfl (q_idx (b := b) (o := o) (m := xs.length) (c := c) (o' := o + i) (by rw [← hsl]; rfl) rfl rfl hin (by simp))) ?_
    refine cur_float rfl rfl rfl rfl h (fun w h => flt_v rfl (q_loadc (v := .int .i64 x) rfl (hcell h))) ?_
    refine cur_pure rfl rfl rfl rfl (fun _ => h) (fun _ => flt_v rfl (q_shr rfl rfl (by omega))) ?_
    refine cur_pure rfl rfl rfl rfl (fun _ => h) (fun _ => flt_v rfl (q_and rfl rfl)) ?_; refine cur_pure rfl rfl rfl rfl (fun _ => h) (fun _ => flt_v rfl (q_moveS rfl)) ?_; refine cur_pure rfl rfl rfl rfl (fun _ => h) (fun _ => flt_v rfl (q_moveI rfl)) ?_
    refine cur_pure rfl rfl rfl rfl (fun _ => h) (fun _ => flt_v rfl (q_idx (b := b) (o := o) (m := xs.length) (c := c) (o' := o + i) (by rw [← hsl]; rfl) rfl rfl hin (by simp))) ?_
    refine cur_float rfl rfl rfl rfl h (fun w h => flt_v rfl (q_loadc (v := .int .i64 x) rfl (hcell h))) ?_
    refine cur_pure rfl rfl rfl rfl (fun _ => h) (fun _ => flt_v rfl (q_shr rfl rfl (by omega))) ?_
    refine cur_pure rfl rfl rfl rfl (fun _ => h) (fun _ => flt_v rfl (q_and rfl rfl)) ?_; refine cur_pure rfl rfl rfl rfl (fun _ => h) (fun _ => flt_v rfl (q_moveS rfl)) ?_; refine cur_pure rfl rfl rfl rfl (fun _ => h) (fun _ => flt_v rfl (q_moveI rfl)) ?_
    refine cur_pure rfl rfl rfl rfl (fun _ => h) (fun _ => flt_v rfl (q_idx (b := b) (o := o) (m := xs.length) (c := c) (o' := o + i) (by rw [← hsl]; rfl) rfl rfl hin (by simp))) ?_
    refine cur_float rfl rfl rfl rfl h (fun w h => flt_v rfl (q_loadc (v := .int .i64 x) rfl (hcell h))) ?_
    refine cur_pure rfl rfl rfl rfl (fun _ => h) (fun _ => flt_v rfl (q_shr rfl rfl (by omega))) ?_
    refine cur_pure rfl rfl rfl rfl (fun _ => h) (fun _ => flt_v rfl (q_and rfl rfl)) ?_; refine cur_pure rfl rfl rfl rfl (fun _ => h) (fun _ => flt_v rfl (q_moveS rfl)) ?_; refine cur_pure rfl rfl rfl rfl (fun _ => h) (fun _ => flt_v rfl (q_moveI rfl)) ?_
    refine cur_pure rfl rfl rfl rfl (fun _ => h) (fun _ => flt_v rfl (q_idx (b := b) (o := o) (m := xs.length) (c := c) (o' := o + i) (by rw [← hsl]; rfl) rfl rfl hin (by simp))) ?_
    refine cur_float rfl rfl rfl rfl h (fun w h => flt_v rfl (q_loadc (v := .int .i64 x) rfl (hcell h))) ?_
    refine cur_pure rfl rfl rfl rfl (fun _ => h) (fun _ => flt_v rfl (q_shr rfl rfl (by omega))) ?_
    refine cur_pure rfl rfl rfl rfl (fun _ => h) (fun _ => flt_v rfl (q_and rfl rfl)) ?_; refine cur_skip ?_; refine cur_pure rfl rfl rfl rfl (fun _ => h) (fun _ => flt_v rfl (q_moveS rfl)) ?_; refine cur_pure rfl rfl rfl rfl (fun _ => h) (fun _ => flt_v rfl (q_moveI rfl)) ?_
    refine cur_pure rfl rfl rfl rfl (fun _ => h) (fun _ => flt_v rfl (q_idx (b := b) (o := o) (m := xs.length) (c := c) (o' := o + i) (by rw [← hsl]; rfl) rfl rfl hin (by simp))) ?_
    refine cur_float rfl rfl rfl rfl h (fun w h => flt_v rfl (q_loadc (v := .int .i64 x) rfl (hcell h))) ?_
    refine cur_pure rfl rfl rfl rfl (fun _ => h) (fun _ => flt_v rfl (q_is (v' := .int .i64 (x % 8)) (q_and rfl rfl) (congrArg (Value.int .i64) (and_mask 3 (by decide) (by decide))))) ?_
    refine cur_skip ?_; refine cur_skip ?_; refine cur_skip ?_; refine cur_skip ?_
    refine cur_one 33 rfl rfl rfl rfl ?_
    refine (x_bslice (r := i64V [_, _, _, _, _, 60, 60, 60]) hs rfl rfl rfl fun b2 w hs => ?_)
    replace h : ∃ L, St w0 (L ++ l) w := ⟨[_, _], hs⟩
    refine ⟨fun _ => h, ?_⟩
    obtain ⟨es, hes, hs⟩ : ∃ es : List Int, es.length = 8 ∧ St w0 (pt b2 (.cells (i64V es).toArray 3 (0, 0)) :: OwnT64 a c1 ts :: l) w := ⟨_, rfl, hs⟩
    obtain ⟨j, hj⟩ := Int.eq_ofNat_of_zero_le (show 0 ≤ x % 8 by omega)
    have hj8 : j < 8 := by omega
    have hgj := List.getElem?_eq_getElem (show j < es.length by omega)
    generalize es[j]'(by omega) = y at hgj
    refine cur_pure rfl rfl rfl rfl (fun _ => h) (fun _ => flt_v rfl (q_idx (b := b2) (o := 0) (m := 8) (c := 8) (j := j) (o' := j) rfl rfl hj hj8 (by simp))) ?_
    refine cur_skip ?_; refine cur_skip ?_; refine cur_skip ?_
    refine cur_one 40 rfl rfl rfl rfl ?_
    refine x_v (q_load (v := .int .i64 y) rfl (hs.b 0 rfl) (i64V_get hgj)) ?_
    refine ⟨fun _ => h, ?_⟩
    refine cur_pure rfl rfl rfl rfl (fun _ => h) (fun _ => flt_v rfl (q_add rfl rfl)) ?_; refine cur_pure rfl rfl rfl rfl (fun _ => h) (fun _ => flt_v rfl (q_assignI rfl)) ?_
    exact cur_end ⟨_, ⟨rfl, rfl, rfl, rfl, rfl, trivial⟩, wrap_I64 _, hs.drop⟩
   ·refine c_skip ⟨x, ⟨rfl, rfl, rfl, rfl, rfl, trivial⟩, hxi, h⟩
  clear h
  rintro n w e ⟨hnI, h⟩
  refine c_seq (c_region ?_)
  refine r_v (q_moveS rfl) rfl ?_; refine r_v (q_moveI rfl) rfl ?_
  refine r_c rfl (x_bslice (r := i64V [n]) h rfl rfl rfl fun b2 w h => ?_)
  refine r_c rfl (x_append' (ys := i64V [n]) (zs := i64V (ts ++ [n])) (m3 := (ts ++ [n]).length) (h.f 1) rfl rfl ⟨rfl, .inr ⟨b2, 0, rfl, at_of (h.b 0 rfl) rfl⟩⟩ (i64V_one _) (by simp) (by simp [i64V]) (by simp; omega) (by simp; omega) rfl fun a2 c2 w _ h => ?_)
  refine r_v (q_assignS rfl) rfl ?_
  refine r_nil ?_
  refine c_region ?_
  refine r_v (q_moveI rfl) rfl ?_; refine r_v (q_assignI rfl) rfl ?_
  refine r_nil ?_
  refine c_region ?_
  refine r_v (q_moveI rfl) rfl ?_; refine r_v (q_add rfl rfl) rfl ?_
  refine r_is (.int .i64 ((i + 1 : Nat) : Int)) (by rw [wrap64 (by omega) (by omega)]; rfl) ?_
  refine r_v (q_assignI rfl) rfl ?_
  refine r_nil ⟨(i + 1, ts ++ [n], n, a2, c2), ⟨rfl, rfl, rfl, rfl, rfl, trivial⟩, ⟨hi60, by simp; omega, fun t ht => ?_, (h.f 1).drop⟩, by dsimp only; omega⟩
  rcases List.mem_append.1 ht with ht | ht
  ·exact hts t ht
  ·simp at ht; subst ht; exact hnI
 refine c_exit ?_
 refine c_seq (c_region ?_)
 refine r_v (q_moveS rfl) rfl ?_; refine r_v (q_assignS rfl) rfl ?_
 refine r_nil ?_
 exact c_ret (bq1 ⟨a, c1, ts, by omega, hts, rfl, h⟩)
theorem law5_Values {sl : Option Addr} {c : Nat} {us_ : List Nat} (how : Int) (hu : ∀ x ∈ us_, x < 18446744073709551616) (hn : us_.length ≤ 9223372036854775807) (hr : Reads w0 l 1 sl us_.length (u64V us_)) (h : St w0 l w) :
  Ret Tryz.prog 32 [.slice sl us_.length c, .int .i64 how] w fun v w' => ∃ a c' vs, vs.length ≤ 60 ∧ (∀ x ∈ vs, x < 18446744073709551616) ∧ v = .slice a vs.length c' ∧ St w0 (OwnU a c' vs :: l) w' := by
 refine enter Tryz.func32 rfl Tryz.results32 Tryz.ntmps32 rfl ?_
 refine c_seq (c_region ?_)
 refine r_v (q_assignS rfl) rfl ?_
 refine r_nil ?_
 refine c_seq (c_region ?_)
 refine r_v (q_assignS rfl) rfl ?_
 refine r_nil ?_
 refine c_seq (c_region ?_)
 refine r_v (q_assignI rfl) rfl ?_
 refine r_nil ?_
 refine c_seq (c_seq (c_region ?_))
 refine r_v (q_assignI rfl) rfl ?_
 refine r_nil ?_
 refine c_block ?_
 refine c_loop (Γ := Nat × List Nat × Nat × Option Addr × Nat) (fun k => [(0, .slice sl us_.length c), (1, .int .i64 how), (5, .slice k.2.2.2.1 k.2.1.length k.2.2.2.2), (6, .int .u64 k.2.2.1), (7, .int .i64 k.1)])
  (fun k w => k.1 ≤ 60 ∧ k.2.1.length = k.1 ∧ k.2.2.1 < 18446744073709551616 ∧ (∀ t ∈ k.2.1, t < 18446744073709551616) ∧ St w0 (OwnU k.2.2.2.1 k.2.2.2.2 k.2.1 :: l) w) (fun k => 60 - k.1) (0, [], 0, none, 0) ⟨rfl, rfl, rfl, rfl, rfl, trivial⟩ ⟨Nat.zero_le _, rfl, (by decide : (0 : Nat) < 18446744073709551616), (fun _ h => by cases h), St.ownNil _ _ h⟩ ?_
 clear h
 rintro ⟨i, vs, last, a, c1⟩ w e ⟨hi, hvl, hlast, hvs, h⟩
 dsimp only at hi hvl hlast hvs h ⊢
 refine c_seq ?_
 refine c_cut (Γ := Bool) (fun k => [(0, .slice sl us_.length c), (1, .int .i64 how), (5, .slice a vs.length c1), (6, .int .u64 last), (7, .int .i64 i), (16, .bool k)]) (fun k w => (k = true → i < us_.length ∧ i < 60) ∧ St w0 (OwnU a c1 vs :: l) w) ?_ ?_
 ·refine c_region ?_
  refine r_v (q_moveI rfl) rfl ?_; refine r_v (q_moveS rfl) rfl ?_; refine r_v (q_len rfl) rfl ?_; refine r_v (q_lss rfl rfl) rfl ?_
  by_cases hin : i < us_.length
  ·refine r_is (.bool true) (by simp; omega) ?_
   refine r_v (q_moveB rfl) rfl ?_; (first | refine r_gd rfl rfl ?_ | refine r_gn rfl rfl rfl ?_ | refine r_gu rfl rfl ?_ | refine r_gd rfl (by assumption) ?_ | refine r_gn rfl (by assumption) rfl ?_); refine r_v (q_moveI rfl) rfl ?_; (first | refine r_gd rfl rfl ?_ | refine r_gn rfl rfl rfl ?_ | refine r_gu rfl rfl ?_ | refine r_gd rfl (by assumption) ?_ | refine r_gn rfl (by assumption) rfl ?_); refine r_v (q_lss rfl rfl) rfl ?_; (first | refine r_v (q_pick1 rfl rfl rfl) rfl ?_ | refine r_v (q_pick0 rfl rfl rfl) rfl ?_ | refine r_v (q_pick1 rfl (by assumption) rfl) rfl ?_ | refine r_v (q_pick0 rfl (by assumption) rfl) rfl ?_ | refine r_v (q_pickB rfl rfl rfl) rfl ?_)
   exact r_nil ⟨decide ((i : Int) < 60), ⟨rfl, rfl, rfl, rfl, rfl, rfl, trivial⟩, fun hk => ⟨hin, by rw [decide_eq_true_eq] at hk; omega⟩, h⟩
  ·refine r_is (.bool false) (by simp; omega) ?_
   refine r_v (q_moveB rfl) rfl ?_; (first | refine r_gd rfl rfl ?_ | refine r_gn rfl rfl rfl ?_ | refine r_gu rfl rfl ?_ | refine r_gd rfl (by assumption) ?_ | refine r_gn rfl (by assumption) rfl ?_); (first | refine r_gd rfl rfl ?_ | refine r_gn rfl rfl rfl ?_ | refine r_gu rfl rfl ?_ | refine r_gd rfl (by assumption) ?_ | refine r_gn rfl (by assumption) rfl ?_); (first | refine r_v (q_pick1 rfl rfl rfl) rfl ?_ | refine r_v (q_pick0 rfl rfl rfl) rfl ?_ | refine r_v (q_pick1 rfl (by assumption) rfl) rfl ?_ | refine r_v (q_pick0 rfl (by assumption) rfl) rfl ?_ | refine r_v (q_pickB rfl rfl rfl) rfl ?_)
   exact r_nil ⟨false, ⟨rfl, rfl, rfl, rfl, rfl, rfl, trivial⟩, (fun h => by cases h), h⟩
 clear h
 rintro k w e ⟨hk, h⟩
 refine c_cond k rfl (fun hc => ?_) (fun hc => ?_)
 ·
  obtain ⟨hin, hi60⟩ := hk hc
  have hg := List.getElem?_eq_getElem hin
  generalize us_[i] = x at hg
  have hx := hu x (List.mem_of_getElem? hg)
  obtain ⟨b, o, hsl⟩ := (hr.cons.at_ h).some (by omega)
  refine c_skip ?_
  refine c_seq (c_block ?_)
  refine c_seq (c_region ?_)
  refine r_v (q_moveS rfl) rfl ?_; refine r_v (q_moveI rfl) rfl ?_
  refine r_v (q_idx (b := b) (o := o) (m := us_.length) (c := c) (o' := o + i) (by rw [← hsl]; rfl) rfl rfl hin (by simp)) rfl ?_
  refine r_v (q_loadc (v := .int .u64 x) rfl ((hsl ▸ hr.cons.at_ h).cell (u64V_get hg))) rfl ?_
  refine r_v (q_assignI rfl) rfl ?_
  refine r_nil ?_
  refine c_cut (Γ := Nat) (fun k => [(0, .slice sl us_.length c), (1, .int .i64 how), (5, .slice a vs.length c1), (7, .int .i64 i), (8, .int .u64 k)]) (fun k w => k < 18446744073709551616 ∧ St w0 (OwnU a c1 vs :: l) w) ?_ ?_
  ·refine c_seq (c_region ?_)
   refine r_v (q_moveI rfl) rfl ?_; refine r_v (q_and rfl rfl) rfl ?_
   refine r_int fun s _ => ?_
   refine r_nil ?_
   refine c_block ?_
   refine c_seq (c_region ?_)
   refine r_v (q_eql rfl rfl) rfl ?_; refine r_v (q_assignB rfl) rfl ?_
   refine r_nil (c_cond (s == 0) rfl (fun hc => ?_) (fun hc => ?_))
   ·refine c_region ?_
    refine r_v (q_moveI rfl) rfl ?_; refine r_v (q_and rfl rfl) rfl ?_
    refine r_nat ⟨_, Nat.lt_of_le_of_lt Nat.and_le_left hx, (bit_u64 hx (by decide : (3 : Nat) < _)).1⟩ fun y hy => ?_
    refine r_v (q_assignI rfl) rfl ?_
    exact r_nil ⟨y, ⟨rfl, rfl, rfl, rfl, rfl, trivial⟩, hy, h⟩
   refine c_seq (c_region ?_)
   refine r_v (q_eql rfl rfl) rfl ?_; refine r_v (q_assignB rfl) rfl ?_
   refine r_nil (c_cond (s == 1) rfl (fun hc => ?_) (fun hc => ?_))
   ·refine c_region ?_
    refine r_v (q_moveI rfl) rfl ?_; refine r_v (q_moveI rfl) rfl ?_; refine r_v (q_and rfl rfl) rfl ?_; refine r_v (q_add rfl rfl) rfl ?_
    refine r_nat (us_nat _) fun y hy => ?_
    refine r_v (q_assignI rfl) rfl ?_
    exact r_nil ⟨y, ⟨rfl, rfl, rfl, rfl, rfl, trivial⟩, hy, h⟩
   refine c_seq (c_region ?_)
   refine r_v (q_eql rfl rfl) rfl ?_; refine r_v (q_assignB rfl) rfl ?_
   refine r_nil (c_cond (s == 2) rfl (fun hc => ?_) (fun hc => ?_))
   ·refine c_region ?_
    refine r_v (q_moveI rfl) rfl ?_; refine r_v (q_moveI rfl) rfl ?_; refine r_v (q_and rfl rfl) rfl ?_
    refine r_is (.int .u64 ((x &&& 63 : Nat) : Int)) (congrArg (Value.int .u64) (bit_u64 hx (by decide : (63 : Nat) < _)).1) ?_
    refine r_v (q_shl rfl rfl (by omega)) rfl ?_
    refine r_nat (us_nat _) fun z hz => ?_
    refine r_v (q_xor rfl rfl) rfl ?_
    refine r_nat ⟨_, Nat.xor_lt_two_pow (n := 64) hlast hz, (bit_u64 hlast hz).2.2⟩ fun y hy => ?_
    refine r_v (q_assignI rfl) rfl ?_
    exact r_nil ⟨y, ⟨rfl, rfl, rfl, rfl, rfl, trivial⟩, hy, h⟩
   refine c_seq (c_region ?_)
   refine r_v (q_eql rfl rfl) rfl ?_; refine r_v (q_assignB rfl) rfl ?_
   refine r_nil (c_cond (s == 3) rfl (fun hc => ?_) (fun hc => ?_))
   ·refine c_region ?_
    refine r_v (q_moveI rfl) rfl ?_; refine r_v (q_and rfl rfl) rfl ?_; refine r_v (q_mul rfl rfl) rfl ?_
    refine r_nat (us_nat _) fun y hy => ?_
    refine r_v (q_assignI rfl) rfl ?_
    exact r_nil ⟨y, ⟨rfl, rfl, rfl, rfl, rfl, trivial⟩, hy, h⟩
   refine c_seq (c_region ?_)
   refine r_v (q_eql rfl rfl) rfl ?_; refine r_v (q_assignB rfl) rfl ?_
   refine r_nil (c_cond (s == 4) rfl (fun hc => ?_) (fun hc => ?_))
   ·refine c_region ?_
    refine r_v (q_moveI rfl) rfl ?_; refine r_v (q_moveI rfl) rfl ?_; refine r_v (q_and rfl rfl) rfl ?_; refine r_v (q_add rfl rfl) rfl ?_; refine r_v (q_sub rfl rfl) rfl ?_
    refine r_nat (us_nat _) fun y hy => ?_
    refine r_v (q_assignI rfl) rfl ?_
    exact r_nil ⟨y, ⟨rfl, rfl, rfl, rfl, rfl, trivial⟩, hy, h⟩
   refine c_seq (c_region ?_)
   refine r_v (q_eql rfl rfl) rfl ?_; refine r_v (q_assignB rfl) rfl ?_
   refine r_nil (c_cond (s == 5) rfl (fun hc => ?_) (fun hc => ?_))
   ·refine c_region ?_
    refine r_v (q_moveI rfl) rfl ?_
    refine r_v (q_is (v' := .int .u64 ((x / 2 ^ 4 : Nat) : Int)) (q_shr rfl rfl (by omega)) (congrArg (Value.int .u64) (fdiv_nat x 4 64 (by decide)))) rfl ?_
    refine r_v (q_assignI rfl) rfl ?_
    exact r_nil ⟨x / 2 ^ 4, ⟨rfl, rfl, rfl, rfl, rfl, trivial⟩, Nat.lt_of_le_of_lt (Nat.div_le_self _ _) hx, h⟩
   ·exact c_skip ⟨x, ⟨rfl, rfl, rfl, rfl, rfl, trivial⟩, hx, h⟩
  clear h
  rintro n w e ⟨hnI, h⟩
  refine c_seq (c_region ?_)
  refine r_v (q_moveS rfl) rfl ?_; refine r_v (q_moveI rfl) rfl ?_
  refine r_c rfl (x_bslice (r := u64V [n]) h rfl rfl rfl fun b2 w h => ?_)
  refine r_c rfl (x_append' (ys := u64V [n]) (zs := u64V (vs ++ [n])) (m3 := (vs ++ [n]).length) (h.f 1) rfl rfl ⟨rfl, .inr ⟨b2, 0, rfl, at_of (h.b 0 rfl) rfl⟩⟩ (u64V_one _) (by simp) (by simp [u64V]) (by simp; omega) (by simp; omega) rfl fun a2 c2 w _ h => ?_)
  refine r_v (q_assignS rfl) rfl ?_
  refine r_nil ?_
  refine c_region ?_
  refine r_v (q_moveI rfl) rfl ?_; refine r_v (q_assignI rfl) rfl ?_
  refine r_nil ?_
  refine c_region ?_
  refine r_v (q_moveI rfl) rfl ?_; refine r_v (q_add rfl rfl) rfl ?_
  refine r_is (.int .i64 ((i + 1 : Nat) : Int)) (by rw [wrap64 (by omega) (by omega)]; rfl) ?_
  refine r_v (q_assignI rfl) rfl ?_
  refine r_nil ⟨(i + 1, vs ++ [n], n, a2, c2), ⟨rfl, rfl, rfl, rfl, rfl, trivial⟩, ⟨hi60, by simp; omega, hnI, fun t ht => ?_, (h.f 1).drop⟩, by dsimp only; omega⟩
  rcases List.mem_append.1 ht with ht | ht
  ·exact hvs t ht
  ·simp at ht; subst ht; exact hnI
 refine c_exit ?_
 refine c_seq (c_region ?_)
 refine r_v (q_moveS rfl) rfl ?_; refine r_v (q_assignS rfl) rfl ?_
 refine r_nil ?_
 exact c_ret (bq1 ⟨a, c1, vs, by omega, hvs, rfl, h⟩)

theorem law10_Row {st : Option Addr} {ct : Nat} {xs : List Int} {sv : Option Addr} {cv : Nat} {us_ : List Nat} (how : Int) (hx : ∀ x ∈ xs, I64 x) (hn : xs.length ≤ 9223372036854775807) (hrt : Reads w0 l 1 st xs.length (i64V xs))
  (hu : ∀ x ∈ us_, x < 18446744073709551616) (hnu : us_.length ≤ 9223372036854775807) (hrv : Reads w0 l 1 sv us_.length (u64V us_)) (h : St w0 l w) :
  Ret Tryz.prog 7 [.slice st xs.length ct, .slice sv us_.length cv, .int .i64 how] w fun v w' => ∃ a c L, L.length ≤ 60 ∧ (∀ s ∈ L, s.Wf) ∧ rises L = true ∧ v = .slice a L.length c ∧ St w0 (OwnS a c L :: l) w' := by
 refine enter Tryz.func7 rfl Tryz.results7 Tryz.ntmps7 rfl ?_
 refine c_seq (c_region ?_)
 refine r_v (q_assignS rfl) rfl ?_
 refine r_nil ?_
 refine c_seq (c_region ?_)
 refine r_v (q_assignS rfl) rfl ?_
 refine r_nil ?_
 refine c_seq (c_region ?_)
 refine r_v (q_moveS rfl) rfl ?_; refine r_v (q_moveI rfl) rfl ?_
 refine r_v (q_shr rfl rfl (by omega)) rfl ?_
 refine r_v (q_and rfl rfl) rfl ?_; refine r_v (q_eql rfl rfl) rfl ?_
 refine r_bool fun bw _ => ?_
 refine r_c rfl (x_call rfl (law4_Times bw hx hn hrt h) ?_)
 rintro _ w ⟨ta, tc, ts, htl, hti, rfl, h⟩
 refine r_v (q_assignS rfl) rfl ?_
 refine r_nil ?_
 refine c_seq (c_region ?_)
 refine r_v (q_moveS rfl) rfl ?_; refine r_v (q_moveI rfl) rfl ?_
 refine r_c rfl (x_call rfl (law5_Values how hu hnu hrv.cons h) ?_)
 rintro _ w ⟨va, vc, vs, hvl, hvi, rfl, h⟩
 refine r_v (q_assignS rfl) rfl ?_
 refine r_nil ?_
 refine c_seq (c_seq (c_region ?_))
 refine r_v (q_moveS rfl) rfl ?_; refine r_v (q_len rfl) rfl ?_; refine r_v (q_moveI rfl) rfl ?_
 refine r_nil ?_
 refine c_block ?_
 refine c_loop (Γ := Nat × List Smp × Option Addr × Nat) (fun k => [(7, .slice k.2.2.1 k.2.1.length k.2.2.2), (8, .slice ta ts.length tc), (9, .slice va vs.length vc), (22, .int .i64 ts.length), (23, .int .i64 k.1)])
  (fun k w => k.1 ≤ ts.length ∧ k.2.1.length ≤ k.1 ∧ (∀ s ∈ k.2.1, s.Wf) ∧ rises k.2.1 = true ∧ St w0 (OwnS k.2.2.1 k.2.2.2 k.2.1 :: OwnU va vc vs :: OwnT64 ta tc ts :: l) w) (fun k => ts.length - k.1) (0, [], none, 0) ⟨rfl, rfl, rfl, rfl, rfl, trivial⟩ ⟨Nat.zero_le _, Nat.zero_le _, (fun _ h => by cases h), rfl, St.ownNil _ _ h⟩ ?_
 clear h
 rintro ⟨i, L, a, c⟩ w e ⟨hi, hLi, hwf, hris, h⟩
 dsimp only at hi hLi hwf hris h ⊢
 refine c_seq (c_region ?_)
 refine r_v (q_lss rfl rfl) rfl ?_
 refine r_nil ?_
 refine c_seq (c_cond (decide ((i : Int) < (ts.length : Int))) rfl (fun hc => ?_) (fun hc => ?_))
 ·
  have hlt : i < ts.length := by simp at hc; omega
  have hg := List.getElem?_eq_getElem hlt
  generalize ts[i] = t at hg
  have htI := hti t (List.mem_of_getElem? hg)
  obtain ⟨bt, htsl⟩ := (h.f 2).own_some (by omega)
  refine c_skip ?_
  refine c_cut (Γ := List Smp × Option Addr × Nat) (fun k => [(7, .slice k.2.1 k.1.length k.2.2), (8, .slice ta ts.length tc), (9, .slice va vs.length vc), (22, .int .i64 ts.length), (23, .int .i64 i)])
   (fun k w => k.1.length ≤ i + 1 ∧ (∀ s ∈ k.1, s.Wf) ∧ rises k.1 = true ∧ St w0 (OwnS k.2.1 k.2.2 k.1 :: OwnU va vc vs :: OwnT64 ta tc ts :: l) w) ?_ ?_
  ·refine c_block ?_
   refine c_seq (c_region ?_)
   refine r_v (q_moveI rfl) rfl ?_; refine r_v (q_assignI rfl) rfl ?_
   refine r_nil ?_
   refine c_seq (c_region ?_)
   refine r_v (q_moveS rfl) rfl ?_; refine r_v (q_moveI rfl) rfl ?_
   refine r_v (q_idx (b := bt) (o := 0) (m := ts.length) (c := tc) (o' := i) (by rw [← htsl]; rfl) rfl rfl hlt (by simp)) rfl ?_
   refine r_v (q_loadc (v := .int .i64 t) rfl (by have := (htsl ▸ (h.f 2).own_rd).cell (i64V_get hg); simpa using this)) rfl ?_
   refine r_v (q_build (r := (Smp.mk t 0).cells) rfl) rfl ?_
   refine r_c rfl (x_alloc h fun b11 w h => ?_)
   refine r_c rfl (x_storeA (vs := (Smp.mk t 0).cells) 0 h rfl rfl rfl rfl rfl rfl rfl fun w h => ?_)
   replace h : St w0 (pt b11 (.cells (Smp.mk t 0).cells.toArray 53 (0, 0)) :: OwnS a c L :: OwnU va vc vs :: OwnT64 ta tc ts :: l) w := h
   refine r_nil ?_
   refine c_cut (Γ := Nat) (fun _ => [(7, .slice a L.length c), (8, .slice ta ts.length tc), (9, .slice va vs.length vc), (11, .pointer (some ⟨b11, 0, none⟩)), (22, .int .i64 ts.length), (23, .int .i64 i)])
    (fun V w => V < 18446744073709551616 ∧ St w0 (pt b11 (.cells (Smp.mk t V).cells.toArray 53 (0, 0)) :: OwnS a c L :: OwnU va vc vs :: OwnT64 ta tc ts :: l) w) ?_ ?_
   ·refine c_seq (c_region ?_)
    refine r_v (q_moveS rfl) rfl ?_; refine r_v (q_len rfl) rfl ?_; refine r_v (q_gtr rfl rfl) rfl ?_
    refine r_nil (c_cond (decide ((vs.length : Int) > 0)) rfl (fun hc => ?_) (fun hc => ?_))
    ·have hpos : 0 < vs.length := by simp at hc; omega
     have hgv := List.getElem?_eq_getElem (Nat.mod_lt i hpos)
     generalize vs[i % vs.length]'(Nat.mod_lt i hpos) = y at hgv
     have hy := hvi y (List.mem_of_getElem? hgv)
     obtain ⟨bv, hvsl⟩ := (h.f 2).own_some hpos
     refine c_region ?_
     refine r_v (q_moveS rfl) rfl ?_; refine r_v (q_moveI rfl) rfl ?_; refine r_v (q_moveS rfl) rfl ?_; refine r_v (q_len rfl) rfl ?_
     refine r_v (q_is (v' := .int .i64 ((i % vs.length : Nat) : Int)) (q_rem rfl rfl (by omega)) (congrArg (Value.int .i64) (tmod_nat _ _))) rfl ?_
     refine r_v (q_idx (b := bv) (o := 0) (m := vs.length) (c := vc) (o' := i % vs.length) (by rw [← hvsl]; rfl) rfl rfl (Nat.mod_lt i hpos) (by simp)) rfl ?_
     refine r_v (q_loadc (v := .int .u64 y) rfl (by have := (hvsl ▸ (h.f 2).own_rd).cell (u64V_get hgv); simpa using this)) rfl ?_
     refine r_v (q_fa rfl) rfl ?_
     refine r_c rfl (x_store 0 h rfl (show _ = Value.int .u64 (y : Int) from rfl) rfl rfl rfl rfl fun w h => ?_)
     exact r_nil ⟨y, ⟨rfl, rfl, rfl, rfl, rfl, rfl, trivial⟩, hy, h⟩
    ·exact c_skip ⟨0, ⟨rfl, rfl, rfl, rfl, rfl, rfl, trivial⟩, by decide, h⟩
   clear h
   rintro V w e ⟨hV, h⟩
   have hsW : (Smp.mk t (V : Int)).Wf := ⟨htI, by dsimp only; omega, by dsimp only; omega⟩
   refine c_cut (Γ := Bool) (fun k => [(7, .slice a L.length c), (8, .slice ta ts.length tc), (9, .slice va vs.length vc), (11, .pointer (some ⟨b11, 0, none⟩)), (22, .int .i64 ts.length), (23, .int .i64 i), (56, .bool k)])
    (fun k w => (k = true → ∀ x, L.getLast? = some x → x.T < t) ∧ St w0 (pt b11 (.cells (Smp.mk t V).cells.toArray 53 (0, 0)) :: OwnS a c L :: OwnU va vc vs :: OwnT64 ta tc ts :: l) w) ?_ ?_
   ·by_cases hL0 : L.length = 0
    ·have hLn : L = [] := List.eq_nil_of_length_eq_zero hL0
     refine c_any none (fun w => St w0 _ w) (by kernel_rfl) (by kernel_rfl) h.drew fun w h => ?_
     refine cur_pure rfl rfl rfl rfl (fun _ => h) (fun _ => flt_v rfl (q_moveS rfl)) ?_; refine cur_pure rfl rfl rfl rfl (fun _ => h) (fun _ => flt_v rfl (q_len rfl)) ?_
     refine cur_pure rfl rfl rfl rfl (fun _ => h) (fun _ => flt_v rfl (q_is (v' := .bool true) (q_eql rfl rfl) (by rw [hL0]; rfl))) ?_
     refine cur_pure rfl rfl rfl rfl (fun _ => h) (fun _ => flt_v rfl (q_moveB rfl)) ?_; (first | refine cur_pure rfl rfl rfl rfl (fun _ => h) (fun _ => flt_g rfl rfl (q_nil rfl)) ?_ | refine cur_pure rfl rfl rfl rfl (fun _ => h) (fun _ => flt_g rfl (by assumption) (q_nil rfl)) ?_ | refine cur_pure rfl rfl rfl rfl (fun _ => h) (fun _ => flt_n rfl rfl) ?_ | refine cur_pure rfl rfl rfl rfl (fun _ => h) (fun _ => flt_n rfl (by assumption)) ?_); (first | refine cur_pure rfl rfl rfl rfl (fun _ => h) (fun _ => flt_g rfl rfl (q_nil rfl)) ?_ | refine cur_pure rfl rfl rfl rfl (fun _ => h) (fun _ => flt_g rfl (by assumption) (q_nil rfl)) ?_ | refine cur_pure rfl rfl rfl rfl (fun _ => h) (fun _ => flt_n rfl rfl) ?_ | refine cur_pure rfl rfl rfl rfl (fun _ => h) (fun _ => flt_n rfl (by assumption)) ?_); (first | refine cur_pure rfl rfl rfl rfl (fun _ => h) (fun _ => flt_g rfl rfl (q_nil rfl)) ?_ | refine cur_pure rfl rfl rfl rfl (fun _ => h) (fun _ => flt_g rfl (by assumption) (q_nil rfl)) ?_ | refine cur_pure rfl rfl rfl rfl (fun _ => h) (fun _ => flt_n rfl rfl) ?_ | refine cur_pure rfl rfl rfl rfl (fun _ => h) (fun _ => flt_n rfl (by assumption)) ?_); (first | refine cur_pure rfl rfl rfl rfl (fun _ => h) (fun _ => flt_g rfl rfl (q_nil rfl)) ?_ | refine cur_pure rfl rfl rfl rfl (fun _ => h) (fun _ => flt_g rfl (by assumption) (q_nil rfl)) ?_ | refine cur_pure rfl rfl rfl rfl (fun _ => h) (fun _ => flt_n rfl rfl) ?_ | refine cur_pure rfl rfl rfl rfl (fun _ => h) (fun _ => flt_n rfl (by assumption)) ?_); (first | refine cur_pure rfl rfl rfl rfl (fun _ => h) (fun _ => flt_g rfl rfl (q_nil rfl)) ?_ | refine cur_pure rfl rfl rfl rfl (fun _ => h) (fun _ => flt_g rfl (by assumption) (q_nil rfl)) ?_ | refine cur_pure rfl rfl rfl rfl (fun _ => h) (fun _ => flt_n rfl rfl) ?_ | refine cur_pure rfl rfl rfl rfl (fun _ => h) (fun _ => flt_n rfl (by assumption)) ?_); (first | refine cur_pure rfl rfl rfl rfl (fun _ => h) (fun _ => flt_g rfl rfl (q_nil rfl)) ?_ | refine cur_pure rfl rfl rfl rfl (fun _ => h) (fun _ => flt_g rfl (by assumption) (q_nil rfl)) ?_ | refine cur_pure rfl rfl rfl rfl (fun _ => h) (fun _ => flt_n rfl rfl) ?_ | refine cur_pure rfl rfl rfl rfl (fun _ => h) (fun _ => flt_n rfl (by assumption)) ?_); (first | refine cur_pure rfl rfl rfl rfl (fun _ => h) (fun _ => flt_g rfl rfl (q_nil rfl)) ?_ | refine cur_pure rfl rfl rfl rfl (fun _ => h) (fun _ => flt_g rfl (by assumption) (q_nil rfl)) ?_ | refine cur_pure rfl rfl rfl rfl (fun _ => h) (fun _ => flt_n rfl rfl) ?_ | refine cur_pure rfl rfl rfl rfl (fun _ => h) (fun _ => flt_n rfl (by assumption)) ?_); (first | refine cur_pure rfl rfl rfl rfl (fun _ => h) (fun _ => flt_g rfl rfl (q_nil rfl)) ?_ | refine cur_pure rfl rfl rfl rfl (fun _ => h) (fun _ => flt_g rfl (by assumption) (q_nil rfl)) ?_ | refine cur_pure rfl rfl rfl rfl (fun _ => h) (fun _ => flt_n rfl rfl) ?_ | refine cur_pure rfl rfl rfl rfl (fun _ => h) (fun _ => flt_n rfl (by assumption)) ?_); (first | refine cur_pure rfl rfl rfl rfl (fun _ => h) (fun _ => flt_g rfl rfl (q_nil rfl)) ?_ | refine cur_pure rfl rfl rfl rfl (fun _ => h) (fun _ => flt_g rfl (by assumption) (q_nil rfl)) ?_ | refine cur_pure rfl rfl rfl rfl (fun _ => h) (fun _ => flt_n rfl rfl) ?_ | refine cur_pure rfl rfl rfl rfl (fun _ => h) (fun _ => flt_n rfl (by assumption)) ?_); (first | refine cur_pure rfl rfl rfl rfl (fun _ => h) (fun _ => flt_g rfl rfl (q_nil rfl)) ?_ | refine cur_pure rfl rfl rfl rfl (fun _ => h) (fun _ => flt_g rfl (by assumption) (q_nil rfl)) ?_ | refine cur_pure rfl rfl rfl rfl (fun _ => h) (fun _ => flt_n rfl rfl) ?_ | refine cur_pure rfl rfl rfl rfl (fun _ => h) (fun _ => flt_n rfl (by assumption)) ?_); (first | refine cur_pure rfl rfl rfl rfl (fun _ => h) (fun _ => flt_v rfl (q_pick1 rfl rfl rfl)) ?_ | refine cur_pure rfl rfl rfl rfl (fun _ => h) (fun _ => flt_v rfl (q_pick0 rfl rfl rfl)) ?_ | refine cur_pure rfl rfl rfl rfl (fun _ => h) (fun _ => flt_v rfl (q_pick1 rfl (by assumption) rfl)) ?_ | refine cur_pure rfl rfl rfl rfl (fun _ => h) (fun _ => flt_v rfl (q_pick0 rfl (by assumption) rfl)) ?_ | refine cur_pure rfl rfl rfl rfl (fun _ => h) (fun _ => flt_v rfl (q_pickB rfl rfl rfl)) ?_)
     exact cur_end ⟨true, ⟨rfl, rfl, rfl, rfl, rfl, rfl, rfl, trivial⟩, (fun _ x hx => by rw [hLn] at hx; cases hx), h⟩
    ·have hgl := List.getElem?_eq_getElem (show L.length - 1 < L.length by omega)
     generalize L[L.length - 1]'(by omega) = z at hgl
     obtain ⟨bl, hlsl⟩ := (h.f 1).own_some (by omega)
     have hzc : ∀ {w'}, St w0 (pt b11 (.cells (Smp.mk t V).cells.toArray 53 (0, 0)) :: OwnS a c L :: OwnU va vc vs :: OwnT64 ta tc ts :: l) w' → w'.cell? ⟨bl, (L.length - 1) * 2 + 0, none⟩ = some (.int .i64 z.T) := fun h' => by
      have := (hlsl ▸ (h'.f 1).own_rd).elem smp_len hgl 0 _ rfl
      simpa using this
     refine c_any none (fun w => St w0 _ w) (by kernel_rfl) (by kernel_rfl) h.drew fun w h => ?_
     refine cur_pure rfl rfl rfl rfl (fun _ => h) (fun _ => flt_v rfl (q_moveS rfl)) ?_; refine cur_pure rfl rfl rfl rfl (fun _ => h) (fun _ => flt_v rfl (q_len rfl)) ?_
     refine cur_pure rfl rfl rfl rfl (fun _ => h) (fun _ => flt_v rfl (q_is (v' := .bool false) (q_eql rfl rfl) (by congr 1; rw [beq_eq_false_iff_ne]; omega))) ?_
     refine cur_pure rfl rfl rfl rfl (fun _ => h) (fun _ => flt_v rfl (q_moveB rfl)) ?_; (first | refine cur_pure rfl rfl rfl rfl (fun _ => h) (fun _ => flt_g rfl rfl (q_fa rfl)) ?_ | refine cur_pure rfl rfl rfl rfl (fun _ => h) (fun _ => flt_g rfl (by assumption) (q_fa rfl)) ?_ | refine cur_pure rfl rfl rfl rfl (fun _ => h) (fun _ => flt_n rfl rfl) ?_ | refine cur_pure rfl rfl rfl rfl (fun _ => h) (fun _ => flt_n rfl (by assumption)) ?_)
     refine cur_float rfl rfl rfl rfl h (fun _ h => flt_g rfl rfl (q_load (v := .int .i64 t) rfl (h.b 0 rfl) rfl)) ?_
     (first | refine cur_pure rfl rfl rfl rfl (fun _ => h) (fun _ => flt_g rfl rfl (q_moveS rfl)) ?_ | refine cur_pure rfl rfl rfl rfl (fun _ => h) (fun _ => flt_g rfl (by assumption) (q_moveS rfl)) ?_ | refine cur_pure rfl rfl rfl rfl (fun _ => h) (fun _ => flt_n rfl rfl) ?_ | refine cur_pure rfl rfl rfl rfl (fun _ => h) (fun _ => flt_n rfl (by assumption)) ?_); (first | refine cur_pure rfl rfl rfl rfl (fun _ => h) (fun _ => flt_g rfl rfl (q_moveS rfl)) ?_ | refine cur_pure rfl rfl rfl rfl (fun _ => h) (fun _ => flt_g rfl (by assumption) (q_moveS rfl)) ?_ | refine cur_pure rfl rfl rfl rfl (fun _ => h) (fun _ => flt_n rfl rfl) ?_ | refine cur_pure rfl rfl rfl rfl (fun _ => h) (fun _ => flt_n rfl (by assumption)) ?_); (first | refine cur_pure rfl rfl rfl rfl (fun _ => h) (fun _ => flt_g rfl rfl (q_len rfl)) ?_ | refine cur_pure rfl rfl rfl rfl (fun _ => h) (fun _ => flt_g rfl (by assumption) (q_len rfl)) ?_ | refine cur_pure rfl rfl rfl rfl (fun _ => h) (fun _ => flt_n rfl rfl) ?_ | refine cur_pure rfl rfl rfl rfl (fun _ => h) (fun _ => flt_n rfl (by assumption)) ?_)
     refine cur_pure rfl rfl rfl rfl (fun _ => h) (fun _ => flt_g rfl rfl (q_is (v' := .int .i64 ((L.length - 1 : Nat) : Int)) (q_sub rfl rfl) (by rw [wrap64 (by omega) (by omega)]; congr 1; omega))) ?_
     refine cur_pure rfl rfl rfl rfl (fun _ => h) (fun _ => flt_g rfl rfl (q_idx (b := bl) (o := 0) (m := L.length) (c := c) (o' := (L.length - 1) * 2) (by rw [← hlsl]; rfl) rfl rfl (by omega) (by simp))) ?_
     (first | refine cur_pure rfl rfl rfl rfl (fun _ => h) (fun _ => flt_g rfl rfl (q_fa rfl)) ?_ | refine cur_pure rfl rfl rfl rfl (fun _ => h) (fun _ => flt_g rfl (by assumption) (q_fa rfl)) ?_ | refine cur_pure rfl rfl rfl rfl (fun _ => h) (fun _ => flt_n rfl rfl) ?_ | refine cur_pure rfl rfl rfl rfl (fun _ => h) (fun _ => flt_n rfl (by assumption)) ?_)
     refine cur_float rfl rfl rfl rfl h (fun w h => flt_g rfl rfl (q_loadc (v := .int .i64 z.T) rfl (hzc h))) ?_
     (first | refine cur_pure rfl rfl rfl rfl (fun _ => h) (fun _ => flt_g rfl rfl (q_gtr rfl rfl)) ?_ | refine cur_pure rfl rfl rfl rfl (fun _ => h) (fun _ => flt_g rfl (by assumption) (q_gtr rfl rfl)) ?_ | refine cur_pure rfl rfl rfl rfl (fun _ => h) (fun _ => flt_n rfl rfl) ?_ | refine cur_pure rfl rfl rfl rfl (fun _ => h) (fun _ => flt_n rfl (by assumption)) ?_); (first | refine cur_pure rfl rfl rfl rfl (fun _ => h) (fun _ => flt_v rfl (q_pick1 rfl rfl rfl)) ?_ | refine cur_pure rfl rfl rfl rfl (fun _ => h) (fun _ => flt_v rfl (q_pick0 rfl rfl rfl)) ?_ | refine cur_pure rfl rfl rfl rfl (fun _ => h) (fun _ => flt_v rfl (q_pick1 rfl (by assumption) rfl)) ?_ | refine cur_pure rfl rfl rfl rfl (fun _ => h) (fun _ => flt_v rfl (q_pick0 rfl (by assumption) rfl)) ?_ | refine cur_pure rfl rfl rfl rfl (fun _ => h) (fun _ => flt_v rfl (q_pickB rfl rfl rfl)) ?_)
     refine cur_end ⟨decide (t > z.T), ⟨rfl, rfl, rfl, rfl, rfl, rfl, rfl, trivial⟩, fun hk x hx => ?_, h⟩
     rw [decide_eq_true_eq] at hk
     rw [List.getLast?_eq_getElem?, hgl] at hx
     cases hx
     exact hk
   clear h
   rintro k w e ⟨hk, h⟩
   refine c_cond k rfl (fun hc => ?_) (fun hc => ?_)
   ·refine c_region ?_
    refine r_v (q_moveS rfl) rfl ?_
    refine r_v (q_loadS (l := (Smp.mk t V).cells) rfl rfl (at_of (h.b 0 rfl) rfl)) rfl ?_
    refine r_c rfl (x_bslice (r := smpsV [Smp.mk t V]) h rfl rfl rfl fun b2 w h => ?_)
    refine r_c rfl (x_append' (ys := smpsV [Smp.mk t V]) (zs := smpsV (L ++ [Smp.mk t V])) (m3 := (L ++ [Smp.mk t V]).length) (h.f 2) rfl rfl ⟨rfl, .inr ⟨b2, 0, rfl, at_of (h.b 0 rfl) rfl⟩⟩ (smps_one _) (by simp) (by simp [smpsV]) (by simp; omega) (by simp; omega) rfl fun a2 c2 w _ h => ?_)
    refine r_v (q_assignS rfl) rfl ?_
    refine r_nil ⟨(L ++ [Smp.mk t V], a2, c2), ⟨rfl, rfl, rfl, rfl, rfl, trivial⟩, by simp; omega, fun s hs => ?_, rises_snoc hris (hk hc), ?_⟩
    ·rcases List.mem_append.1 hs with hs | hs
     ·exact hwf s hs
     ·simp at hs; subst hs; exact hsW
    ·exact ((h.f 1).drop.f 1).drop
   ·exact c_skip ⟨(L, a, c), ⟨rfl, rfl, rfl, rfl, rfl, trivial⟩, by dsimp only; omega, hwf, hris, h.drop⟩
  clear h hwf hris hLi
  rintro ⟨L, a, c⟩ w e ⟨hLi, hwf, hris, h⟩
  dsimp only at hLi hwf hris h ⊢
  refine c_region ?_
  refine r_v (q_add rfl rfl) rfl ?_
  refine r_is (.int .i64 ((i + 1 : Nat) : Int)) (by rw [wrap64 (by omega) (by omega)]; rfl) ?_
  refine r_v (q_moveI rfl) rfl ?_
  exact r_nil ⟨(i + 1, L, a, c), ⟨rfl, rfl, rfl, rfl, rfl, trivial⟩, ⟨hlt, hLi, hwf, hris, h⟩, by dsimp only; omega⟩
 refine c_exit ?_
 refine c_seq (c_region ?_)
 refine r_v (q_moveS rfl) rfl ?_; refine r_v (q_assignS rfl) rfl ?_
 refine r_nil ?_
 exact c_ret (bq1 ⟨a, c, L, by omega, hwf, hris, rfl, (((h.f 1).drop.f 1).drop)⟩)
end
end Go.Proofs.YtjjacchnalemaaaGreatDoor

namespace Go.Hw
open Go.ChangeShapes Go.WideShapes Go.ChangeAt Go.RowKit
section
variable {P : Program} {W : World} {H : Type} {enc : TypeId × Value → H} {r : Reach} {b0 : Nat}
theorem maxLen_le {n : Nat} (h : n ≤ maxLen) : n ≤ 9223372036854775807 := Nat.le_trans h (by decide)
theorem nums_u64 : ∀ {zs : List Int}, (∀ z ∈ zs, (Lit.int .u64 z).wf = true) → ∃ us : List Nat, (∀ x ∈ us, x < 18446744073709551616) ∧ zs.map (Value.int .u64) = u64V us
 | [], _ => ⟨[], (fun _ h => by cases h), rfl⟩
 | z :: zs, h => by
  obtain ⟨us, hu, hb⟩ := nums_u64 (zs := zs) fun y hy => h y (List.mem_cons_of_mem _ hy)
  have hz : 0 ≤ z ∧ z ≤ 18446744073709551615 := by simpa [Lit.wf, IntKind.min, IntKind.max, IntKind.signed, IntKind.bits] using h z (List.mem_cons_self ..)
  refine ⟨z.toNat :: us, fun x hx => ?_, ?_⟩
  ·rcases List.mem_cons.1 hx with rfl | hx
   ·omega
   ·exact hu x hx
  ·simp only [List.map_cons, hb, u64V]
   congr 2
   omega
theorem arg_u64s {t e : TypeId} {v : Value} {d : DataW H} {p : List MemPlace} (ht : P.underlying t = some (.slice e)) (he : P.underlying e = some (.int .u64)) (hc : P.cellsOf e = 1)
  (hval : Value.okWide P W r b0 t v) (h : DataW.Trod enc P W 0 (fun _ => true) true t v d p) (hlt : ∀ x ∈ p, x.block < W.heap.size) :
  ∃ (a : Option Addr) (c : Nat) (us : List Nat), v = .slice a us.length c ∧ us.length ≤ 9223372036854775807 ∧ (∀ x ∈ us, x < 18446744073709551616) ∧ Reads W [] 1 a us.length (u64V us) := by
 obtain ⟨a, n, c, zs, h1, h2, h3, h4, h5⟩ := arg_nums ht he hc hval h hlt
 obtain ⟨us, hu, hb⟩ := nums_u64 h3
 rw [hb] at h4
 have hl : us.length = n := by have := h4.1; simpa [u64V] using this
 subst hl
 exact ⟨a, c, us, h1, maxLen_le h2, hu, Reads.old h4 h5⟩
theorem arg_i64s {t e : TypeId} {v : Value} {d : DataW H} {p : List MemPlace} (ht : P.underlying t = some (.slice e)) (he : P.underlying e = some (.int .i64)) (hc : P.cellsOf e = 1)
  (hval : Value.okWide P W r b0 t v) (h : DataW.Trod enc P W 0 (fun _ => true) true t v d p) (hlt : ∀ x ∈ p, x.block < W.heap.size) :
  ∃ (a : Option Addr) (c : Nat) (xs : List Int), v = .slice a xs.length c ∧ xs.length ≤ 9223372036854775807 ∧ (∀ x ∈ xs, I64 x) ∧ Reads W [] 1 a xs.length (i64V xs) := by
 obtain ⟨a, n, c, zs, h1, h2, h3, h4, h5⟩ := arg_nums ht he hc hval h hlt
 have hl : zs.length = n := by have := h4.1; simpa using this
 subst hl
 refine ⟨a, c, zs, h1, maxLen_le h2, fun x hx => ?_, Reads.old h4 h5⟩
 have := h3 x hx
 simp [Lit.wf, IntKind.min, IntKind.max, IntKind.signed, IntKind.bits] at this
 unfold I64
 omega
end
end Go.Hw

namespace Go.Proofs.YtjjacchnalemaaaGreatDoor
open Go.Hw Go.ChangeShapes Go.WideShapes Go.ChangeAt Go.RowKit
set_option maxRecDepth 100000
theorem laid_deB {H : Type} : (Rows.laid_math_bits_deBruijn64tab : DataW H) = .agg (deB.map fun (v : Nat) => .lit (.int .u8 (v : Int))) := rfl
theorem tz_of_laid {W : World} (h : laidMetH Tryz.prog [("math/bits.deBruijn64tab", Rows.laid_math_bits_deBruijn64tab)] W) : Tz W := by
 rw [MakeChecks.laidMetH_plain _ _ _ (by kernel_rfl)] at h
 obtain ⟨ps, ⟨g1, t1, cs1, f1, p1, q1, hg1, ht1, hv1, hd1, _⟩, _⟩ := h
 obtain rfl := Option.some.inj ((show Tryz.prog.globalNamed "math/bits.deBruijn64tab" = some 0 by kernel_rfl).symm.trans hg1)
 obtain rfl := Option.some.inj ((show (Tryz.prog.globals[0]?).map (·.type) = some 167 by kernel_rfl).symm.trans ht1)
 obtain ⟨xs, m1, rfl, hx1, hlen, hn3, hel⟩ := DataW.trod_array Tryz.underlying167 hd1
 have c1 : Tryz.prog.cellsOf 5 = 1 := by kernel_rfl
 rw [c1] at hel
 rw [laid_deB] at hx1
 simp only [Prod.mk.injEq, DataW.agg.injEq] at hx1
 obtain ⟨cs⟩ := cs1
 have key : ∀ (i v : Nat), deB[i]? = some v → W.cell? ⟨0, i, none⟩ = some (.int .u8 v) := fun i v hi => by
  have hi64 : i < 64 := (List.getElem?_eq_some_iff.1 hi).1
  have h0 := hel i hi64
  have hm : (xs.map (·.1))[i]? = some (.lit (.int .u8 (v : Int))) := by rw [← hx1.1, List.getElem?_map, hi]; rfl
  rw [List.getElem?_map] at hm
  obtain ⟨x, hx, hx2⟩ := Option.map_eq_some_iff.1 hm
  rw [hx] at h0
  obtain ⟨k, e1, e2, _⟩ := DataW.trod_int Tryz.underlying5 h0
  rw [e2] at hx2
  have hk : k = (v : Int) := by simpa using hx2
  subst hk
  rw [World.var?_cell hg1 hv1 i]
  have : (cs.drop (i * 1))[0]? = some (.int .u8 (v : Int)) := by
   have e3 : ((cs.drop (i * 1)).take 1)[0]? = some (.int .u8 (v : Int)) := by rw [e1]; rfl
   rwa [List.getElem?_take_of_lt (by decide)] at e3
  rw [List.getElem?_drop] at this
  simpa using this
 refine ⟨?_, key⟩
 have h0 := key 0 0 rfl
 unfold World.cell? at h0
 split at h0
 ·rename_i hh
  exact (Array.getElem?_eq_some_iff.1 hh).1
 ·cases h0
end Go.Proofs.YtjjacchnalemaaaGreatDoor

namespace Go.Hw
theorem valuesEnc_none {tag : Int} (v : List Nat) (h : tag < 1 ∨ 6 < tag) : valuesEnc tag v = none := by
 unfold valuesEnc
 rw [if_neg (by omega), if_neg (by omega), if_neg (by omega), if_neg (by omega), if_neg (by omega), if_neg (by omega)]
theorem suitEnc_none {tag : Int} (l : List Smp) (h : tag < 1 ∨ 6 < tag) : suitEnc tag l = none := by
 unfold suitEnc
 rw [valuesEnc_none _ h]
 split <;> rfl
theorem suitDec_none {tag : Int} (b : List UInt8) (n : Int) (h : tag < 1 ∨ 6 < tag) : suitDec tag b n = none := by
 have : ∀ v k, valuesDec tag v k = none := fun v k => by
  unfold valuesDec
  rw [if_neg (by omega), if_neg (by omega), if_neg (by omega), if_neg (by omega), if_neg (by omega), if_neg (by omega)]
 unfold suitDec
 rw [this]
 split
 ·rfl
 ·split
  ·rename_i h2; cases h2
  ·rfl
theorem unlikeA_can : ∀ (v l : List Nat), l.length + v.length ≤ 256 → (unlikeA l v).isSome = true
 | [], _, _ => rfl
 | x :: v, l, h => by
  rw [List.length_cons] at h
  rw [unlikeA]
  split
  ·exact unlikeA_can v l (by omega)
  ·rw [if_neg (by omega)]
   exact unlikeA_can v _ (by rw [List.length_append, List.length_singleton]; omega)
theorem suitEnc_can {tag : Int} {l : List Smp} (hr : rising l = true) (hl : l.length ≤ 256) (h : tag = 1 ∨ tag = 3 ∨ tag = 4 ∨ tag = 5) : ∃ b, suitEnc tag l = some b := by
 have : (suitEnc tag l).isSome = true := by
  unfold suitEnc
  rw [if_pos hr, Option.isSome_map]
  rcases h with rfl | rfl | rfl | rfl
  ·rfl
  ·rfl
  ·rfl
  ·show (dictEnc _).isSome = true
   unfold dictEnc
   have hc := unlikeA_can (valsOf l) [] (by simp [valsOf]; omega)
   cases hu : unlikeA [] (valsOf l) with
   | none => rw [hu] at hc; cases hc
   | some m => dsimp only; split <;> rfl
 cases hb : suitEnc tag l with
 | none => rw [hb] at this; cases this
 | some b => exact ⟨b, rfl⟩
theorem bestA_spec (l : List Smp) : ∀ (ks : List Int) (t : Int) (b : List UInt8), 0 ≤ t → (∀ k ∈ ks, t < k) → ks.Pairwise (· < ·) →
  t ≤ (bestA l ks t b).1 ∧ (bestA l ks t b = (t, b) ∨ ((bestA l ks t b).1 ∈ ks ∧ suitEnc (bestA l ks t b).1 l = some (bestA l ks t b).2)) ∧
  (t ≠ 0 → (bestA l ks t b).1 ≠ 0 ∧ (bestA l ks t b).2.length ≤ b.length ∧ (t < (bestA l ks t b).1 → (bestA l ks t b).2.length < b.length)) ∧
  ∀ k ∈ ks, ∀ c, suitEnc k l = some c → (bestA l ks t b).1 ≠ 0 ∧ (bestA l ks t b).2.length ≤ c.length ∧ (k < (bestA l ks t b).1 → (bestA l ks t b).2.length < c.length)
 | [], t, b, _, _, _ => ⟨Int.le_refl _, .inl rfl, fun h => ⟨h, Nat.le_refl _, fun h => absurd h (Int.lt_irrefl _)⟩, fun _ h => by cases h⟩
 | k :: ks, t, b, ht, hk, hp => by
  obtain ⟨hp1, hp2⟩ := List.pairwise_cons.1 hp
  have hkt := hk k (List.mem_cons_self ..)
  rw [bestA]
  cases hE : suitEnc k l with
  | none =>
   dsimp only
   obtain ⟨g1, g2, g3, g4⟩ := bestA_spec l ks t b ht (fun x hx => hk x (List.mem_cons_of_mem _ hx)) hp2
   refine ⟨g1, ?_, g3, fun x hx c hc => ?_⟩
   ·rcases g2 with g2 | ⟨g2, g2'⟩
    ·exact .inl g2
    ·exact .inr ⟨List.mem_cons_of_mem _ g2, g2'⟩
   ·rcases List.mem_cons.1 hx with rfl | hx
    ·rw [hE] at hc; cases hc
    ·exact g4 x hx c hc
  | some c =>
   dsimp only
   split
   ·rename_i hcond
    obtain ⟨g1, g2, g3, g4⟩ := bestA_spec l ks k c (by omega) hp1 hp2
    obtain ⟨g3a, g3b, g3c⟩ := g3 (by omega)
    refine ⟨by omega, ?_, fun h0 => ⟨g3a, by omega, fun _ => by omega⟩, fun x hx d hd => ?_⟩
    ·rcases g2 with g2 | ⟨g2, g2'⟩
     ·right
      rw [g2]
      exact ⟨List.mem_cons_self .., hE⟩
     ·exact .inr ⟨List.mem_cons_of_mem _ g2, g2'⟩
    ·rcases List.mem_cons.1 hx with rfl | hx
     ·rw [hE] at hd; cases hd; exact ⟨g3a, g3b, g3c⟩
     ·exact g4 x hx d hd
   ·rename_i hcond
    obtain ⟨g1, g2, g3, g4⟩ := bestA_spec l ks t b ht (fun x hx => hk x (List.mem_cons_of_mem _ hx)) hp2
    obtain ⟨g3a, g3b, g3c⟩ := g3 (by omega)
    refine ⟨g1, ?_, g3, fun x hx d hd => ?_⟩
    ·rcases g2 with g2 | ⟨g2, g2'⟩
     ·exact .inl g2
     ·exact .inr ⟨List.mem_cons_of_mem _ g2, g2'⟩
    ·rcases List.mem_cons.1 hx with rfl | hx
     ·rw [hE] at hd; cases hd
      exact ⟨g3a, by omega, fun h => by have := g3c (by omega); omega⟩
     ·exact g4 x hx d hd
theorem suitBest_spec {l : List Smp} (hr : rising l = true) (hl : l.length ≤ 256) : 1 ≤ (suitBest l).1 ∧ (suitBest l).1 ≤ 6 ∧ suitEnc (suitBest l).1 l = some (suitBest l).2 ∧
  ∀ k c, suitEnc k l = some c → (suitBest l).2.length ≤ c.length ∧ (k < (suitBest l).1 → (suitBest l).2.length < c.length) := by
 obtain ⟨g1, g2, _, g4⟩ := bestA_spec l [1, 2, 3, 4, 5, 6] 0 [] (by decide) (by decide) (by decide)
 obtain ⟨b, hb⟩ := suitEnc_can (tag := 1) hr hl (.inl rfl)
 have h1 := (g4 1 (by decide) b hb).1
 have h2 : (suitBest l).1 ∈ ([1, 2, 3, 4, 5, 6] : List Int) ∧ suitEnc (suitBest l).1 l = some (suitBest l).2 := by
  rcases g2 with g2 | g2
  ·exact absurd (congrArg Prod.fst g2) h1
  ·exact g2
 obtain ⟨h2, h3⟩ := h2
 have hmem : ∀ k ∈ ([1, 2, 3, 4, 5, 6] : List Int), 1 ≤ k ∧ k ≤ 6 := by decide
 refine ⟨(hmem _ h2).1, (hmem _ h2).2, h3, fun k c hc => ?_⟩
 by_cases hk : k < 1 ∨ 6 < k
 ·rw [suitEnc_none l hk] at hc; cases hc
 ·have : k ∈ ([1, 2, 3, 4, 5, 6] : List Int) := by
   rcases (by omega : k = 1 ∨ k = 2 ∨ k = 3 ∨ k = 4 ∨ k = 5 ∨ k = 6) with rfl | rfl | rfl | rfl | rfl | rfl <;> decide
  exact (g4 k this c hc).2
end Go.Hw
namespace Go.Proofs.YtjjacchnalemaaaGreatDoor
open Go.Hw
theorem suitEnc_len {tag : Int} {L : List Smp} (hw : ∀ s ∈ L, s.Wf) : ((suitEnc tag L).getD []).length ≤ 3000000 := by
 unfold suitEnc
 split
 ·rename_i hrise
  have hn : L.length ≤ 65535 := by
   unfold rising at hrise
   simp only [Bool.and_eq_true, decide_eq_true_eq] at hrise
   exact hrise.2
  have h1 := valuesEnc_len (tag := tag) (u := valsOf L) (by simpa [valsOf] using hn) (valsOf_lt hw)
  cases hv : valuesEnc tag (valsOf L) with
  | none => exact Nat.zero_le _
  | some b =>
   rw [hv] at h1
   show (suitBytes L b).length ≤ _
   have h2 := timesBits_len (timesOf L)
   have h3 := pack_len (timesBits (timesOf L))
   have h4 := vput_len (pack (timesBits (timesOf L))).length
   have h5 : (timesOf L).length = L.length := by simp [timesOf]
   have h6 : b.length ≤ 2000000 := h1
   unfold suitBytes
   rw [List.length_append, List.length_append]
   omega
 ·exact Nat.zero_le _
end Go.Proofs.YtjjacchnalemaaaGreatDoor

namespace Go.Hw
set_option maxRecDepth 100000
def crcBit (c : Nat) : Nat := if c % 2 = 1 then (c / 2) ^^^ 2197175160 else c / 2
def crcN : Nat → Nat → Nat
 | 0, c => c
 | k + 1, c => crcBit (crcN k c)
def crcByte (i : Nat) : Nat := crcN 8 i
def crcStep (s x : Nat) : Nat := crcByte ((s % 256) ^^^ x) ^^^ (s / 256)
def crcA (s : Nat) : List UInt8 → Nat
 | [] => s
 | c :: r => crcA (crcStep s c.toNat) r
def crc (b : List UInt8) : Nat := crcA 4294967295 b ^^^ 4294967295
theorem xor32 {a b : Nat} (ha : a < 4294967296) (hb : b < 4294967296) : a ^^^ b < 4294967296 := Nat.xor_lt_two_pow (n := 32) ha hb
theorem crcBit_lt {c : Nat} (h : c < 4294967296) : crcBit c < 4294967296 := by
 unfold crcBit
 split
 ·exact xor32 (by omega) (by decide)
 ·omega
theorem crcN_lt {c : Nat} (h : c < 4294967296) : ∀ k, crcN k c < 4294967296
 | 0 => h
 | k + 1 => crcBit_lt (crcN_lt h k)
theorem crcByte_lt {i : Nat} (h : i < 256) : crcByte i < 4294967296 := crcN_lt (by omega) 8
theorem xor8 {a b : Nat} (ha : a < 256) (hb : b < 256) : a ^^^ b < 256 := Nat.xor_lt_two_pow (n := 8) ha hb
theorem crcStep_lt {s x : Nat} (hs : s < 4294967296) (hx : x < 256) : crcStep s x < 4294967296 :=
 xor32 (crcByte_lt (xor8 (Nat.mod_lt _ (by decide)) hx)) (by omega)
theorem crcA_lt : ∀ (b : List UInt8) (s : Nat), s < 4294967296 → crcA s b < 4294967296
 | [], _, h => h
 | c :: r, s, h => crcA_lt r _ (crcStep_lt h c.toNat_lt)
theorem crc_lt (b : List UInt8) : crc b < 4294967296 := xor32 (crcA_lt b _ (by decide)) (by decide)
def crcInv : List Nat := [0, 241, 226, 19, 196, 53, 38, 215, 136, 121, 106, 155, 76, 189, 174, 95, 16, 225, 242, 3, 212, 37, 54, 199, 152, 105, 122, 139, 92, 173, 190, 79, 32, 209, 194, 51, 228, 21, 6, 247, 168, 89, 74, 187, 108, 157, 142, 127, 48, 193, 210, 35, 244, 5, 22, 231, 184, 73, 90, 171, 124, 141, 158, 111, 177, 64, 83, 162, 117, 132, 151, 102, 57, 200, 219, 42, 253, 12, 31, 238, 161, 80, 67, 178, 101, 148, 135, 118, 41, 216, 203, 58, 237, 28, 15, 254, 145, 96, 115, 130, 85, 164, 183, 70, 25, 232, 251, 10, 221, 44, 63, 206, 129, 112, 99, 146, 69, 180, 167, 86, 9, 248, 235, 26, 205, 60, 47, 222, 98, 147, 128, 113, 166, 87, 68, 181, 234, 27, 8, 249, 46, 223, 204, 61, 114, 131, 144, 97, 182, 71, 84, 165, 250, 11, 24, 233, 62, 207, 220, 45, 66, 179, 160, 81, 134, 119, 100, 149, 202, 59, 40, 217, 14, 255, 236, 29, 82, 163, 176, 65, 150, 103, 116, 133, 218, 43, 56, 201, 30, 239, 252, 13, 211, 34, 49, 192, 23, 230, 245, 4, 91, 170, 185, 72, 159, 110, 125, 140, 195, 50, 33, 208, 7, 246, 229, 20, 75, 186, 169, 88, 143, 126, 109, 156, 243, 2, 17, 224, 55, 198, 213, 36, 123, 138, 153, 104, 191, 78, 93, 172, 227, 18, 1, 240, 39, 214, 197, 52, 107, 154, 137, 120, 175, 94, 77, 188]
theorem crcInv_top : ∀ i, i < 256 → crcInv[crcByte i / 16777216]? = some i := by decide +kernel
theorem top_inj {i j : Nat} (hi : i < 256) (hj : j < 256) (h : crcByte i / 16777216 = crcByte j / 16777216) : i = j := by
 have h1 := crcInv_top i hi
 rw [h, crcInv_top j hj] at h1
 exact (Option.some.inj h1).symm
theorem xor_div (a b : Nat) : (a ^^^ b) / 16777216 = (a / 16777216) ^^^ (b / 16777216) := by
 have := Nat.shiftRight_xor_distrib (a := a) (b := b) (i := 24)
 simpa [Nat.shiftRight_eq_div_pow] using this
theorem xor_cancel {a b c : Nat} (h : a ^^^ b = a ^^^ c) : b = c := by
 have := congrArg (fun z => a ^^^ z) h
 simpa [← Nat.xor_assoc] using this
theorem crcStep_inj {s s' x x' : Nat} (hs : s < 4294967296) (hs' : s' < 4294967296) (hx : x < 256) (hx' : x' < 256) (h : crcStep s x = crcStep s' x') : (s % 256) ^^^ x = (s' % 256) ^^^ x' ∧ s / 256 = s' / 256 := by
 have hi := xor8 (Nat.mod_lt s (show 256 > 0 by decide)) hx
 have hi' := xor8 (Nat.mod_lt s' (show 256 > 0 by decide)) hx'
 unfold crcStep at h
 have h1 := congrArg (fun z => z / 16777216) h
 simp only [xor_div] at h1
 rw [show s / 256 / 16777216 = 0 by omega, show s' / 256 / 16777216 = 0 by omega, Nat.xor_zero, Nat.xor_zero] at h1
 have h2 := top_inj hi hi' h1
 rw [h2] at h
 exact ⟨h2, xor_cancel h⟩
theorem crcA_inj : ∀ (b : List UInt8) (s s' : Nat), s < 4294967296 → s' < 4294967296 → crcA s b = crcA s' b → s = s'
 | [], _, _, _, _, h => h
 | c :: r, s, s', hs, hs', h => by
  have h1 := crcA_inj r _ _ (crcStep_lt hs c.toNat_lt) (crcStep_lt hs' c.toNat_lt) h
  obtain ⟨h2, h3⟩ := crcStep_inj hs hs' c.toNat_lt c.toNat_lt h1
  rw [Nat.xor_comm, Nat.xor_comm (s' % 256)] at h2
  have := xor_cancel h2
  omega
theorem crcA_append : ∀ (p r : List UInt8) (s : Nat), crcA s (p ++ r) = crcA (crcA s p) r
 | [], _, _ => rfl
 | c :: p, r, s => crcA_append p r _
theorem crc_turn (p r : List UInt8) {x y : UInt8} (h : crc (p ++ x :: r) = crc (p ++ y :: r)) : x = y := by
 unfold crc at h
 rw [Nat.xor_comm, Nat.xor_comm (crcA _ (p ++ y :: r))] at h
 have h1 := xor_cancel h
 rw [crcA_append, crcA_append] at h1
 have hp := crcA_lt p 4294967295 (by decide)
 have h2 := crcA_inj r _ _ (crcStep_lt hp x.toNat_lt) (crcStep_lt hp y.toNat_lt) h1
 obtain ⟨h3, _⟩ := crcStep_inj hp hp x.toNat_lt y.toNat_lt h2
 exact UInt8.toNat_inj.1 (xor_cancel h3)
def be4 (c : Nat) : List UInt8 := [UInt8.ofNat (c / 2 ^ 24), UInt8.ofNat (c / 2 ^ 16), UInt8.ofNat (c / 2 ^ 8), UInt8.ofNat c]
theorem be4_inj {a b : Nat} (ha : a < 4294967296) (hb : b < 4294967296) (h : be4 a = be4 b) : a = b := by
 simp only [be4, List.cons.injEq, and_true] at h
 obtain ⟨h1, h2, h3, h4⟩ := h
 have e1 := congrArg UInt8.toNat h1
 have e2 := congrArg UInt8.toNat h2
 have e3 := congrArg UInt8.toNat h3
 have e4 := congrArg UInt8.toNat h4
 simp only [UInt8.toNat_ofNat'] at e1 e2 e3 e4
 simp only [Nat.reducePow] at e1 e2 e3 e4
 omega
def zigT (t : Int) : Nat := zigU (us t)
theorem zigT_lt (t : Int) : zigT t < 18446744073709551616 := zigU_lt (us_lt t)
theorem zag_zigT {t : Int} (h : I64 t) : sg (zagU (zigT t)) = t := by unfold zigT; rw [zag_zig (us_lt t), sg_us h]
def firstT (L : List Smp) : Int := (L.head?.map Smp.T).getD 0
def lastT (L : List Smp) : Int := (L.getLast?.map Smp.T).getD 0
def chNums (L : List Smp) : List Nat := [L.length, zigT (firstT L), zigT (lastT L)]
def chBody (tag : Int) (L : List Smp) (x : List UInt8) : List UInt8 := UInt8.ofNat tag.toNat :: ((chNums L).flatMap vput ++ x)
def chMake (tag : Int) (L : List Smp) : Option (List UInt8) := match suitEnc tag L with
 | none => none
 | some x => if L = [] then none else some (chBody tag L x ++ be4 (crc (chBody tag L x)))
structure Hd where
 tag : Nat
 count : Nat
 f : Int
 t : Int
def hdOf (c : UInt8) (l : List Nat) : Hd := ⟨c.toNat, l.getD 0 0, sg (zagU (l.getD 1 0)), sg (zagU (l.getD 2 0))⟩
def headDec : List UInt8 → Option (Hd × List UInt8)
 | [] => none
 | c :: r => if c.toNat < 1 ∨ 6 < c.toNat then none else match getVs 3 r with
  | none => none
  | some (l, rest) => if l.getD 0 0 < 1 ∨ 65535 < l.getD 0 0 ∨ sg (zagU (l.getD 2 0)) < sg (zagU (l.getD 1 0)) then none else some (hdOf c l, rest)
def chOpen (b : List UInt8) : Option (List Smp × Nat) := match headDec b with
 | none => none
 | some (h, rest) => if rest.length < 4 then none else match suitDec h.tag (rest.take (rest.length - 4)) h.count with
  | none => none
  | some L => if chMake h.tag L = some b then some (L, h.tag) else none
theorem chOpen_sound {b : List UInt8} {L : List Smp} {t : Nat} (h : chOpen b = some (L, t)) : chMake (t : Int) L = some b := by
 unfold chOpen at h
 split at h
 ·cases h
 ·split at h
  ·cases h
  ·split at h
   ·cases h
   ·split at h
    ·cases h; assumption
    ·cases h
theorem chMake_some {tag : Int} {L : List Smp} {b : List UInt8} (h : chMake tag L = some b) : ∃ x, suitEnc tag L = some x ∧ L ≠ [] ∧ b = chBody tag L x ++ be4 (crc (chBody tag L x)) := by
 unfold chMake at h
 split at h
 ·cases h
 ·rename_i x hx
  split at h
  ·cases h
  ·rename_i hL
   exact ⟨x, hx, hL, (Option.some.inj h).symm⟩
theorem suitEnc_tag {tag : Int} {L : List Smp} {x : List UInt8} (h : suitEnc tag L = some x) : 1 ≤ tag ∧ tag ≤ 6 := by
 by_cases hk : tag < 1 ∨ 6 < tag
 ·rw [suitEnc_none L hk] at h; cases h
 ·omega
theorem suitEnc_rises {tag : Int} {L : List Smp} {x : List UInt8} (h : suitEnc tag L = some x) : rises L = true ∧ L.length ≤ 65535 := by
 unfold suitEnc at h
 split at h
 ·rename_i hr
  unfold rising at hr
  simpa only [Bool.and_eq_true, decide_eq_true_eq] using hr
 ·cases h
theorem rises_ends {L : List Smp} (h : rises L = true) (hL : L ≠ []) : firstT L ≤ lastT L := by
 cases L with
 | nil => exact absurd rfl hL
 | cons s r =>
  have h0 := (rises_iff (s :: r)).1 h
  unfold firstT lastT
  rw [List.getLast?_eq_getElem?]
  have hg := List.getElem?_eq_getElem (show (s :: r).length - 1 < (s :: r).length by simp)
  generalize (s :: r)[(s :: r).length - 1]'(by simp) = z at hg
  rw [hg]
  show s.T ≤ z.T
  by_cases hr : r = []
  ·subst hr; simp at hg; subst hg; exact Int.le_refl _
  ·have hp : 0 < r.length := List.length_pos_iff.2 hr
   exact Int.le_of_lt (h0 0 _ s z rfl hg (by simp; omega))
theorem ends_wf {L : List Smp} (hw : ∀ s ∈ L, s.Wf) (hL : L ≠ []) : I64 (firstT L) ∧ I64 (lastT L) := by
 cases L with
 | nil => exact absurd rfl hL
 | cons s r =>
  refine ⟨(hw s (List.mem_cons_self ..)).1, ?_⟩
  unfold lastT
  rw [List.getLast?_eq_getElem?]
  have hg := List.getElem?_eq_getElem (show (s :: r).length - 1 < (s :: r).length by simp)
  have hm := List.getElem_mem (show (s :: r).length - 1 < (s :: r).length by simp)
  generalize (s :: r)[(s :: r).length - 1]'(by simp) = z at hg hm
  rw [hg]
  exact (hw z hm).1
theorem headDec_told {tag : Int} {L : List Smp} {x : List UInt8} (hw : ∀ s ∈ L, s.Wf) (hL : L ≠ []) (h : suitEnc tag L = some x) (r : List UInt8) : headDec (UInt8.ofNat tag.toNat :: ((chNums L).flatMap vput ++ r)) = some (⟨tag.toNat, L.length, firstT L, lastT L⟩, r) := by
 obtain ⟨h1, h6⟩ := suitEnc_tag h
 obtain ⟨hr, hlen⟩ := suitEnc_rises h
 obtain ⟨w1, w2⟩ := ends_wf hw hL
 have hpos : 0 < L.length := List.length_pos_iff.2 hL
 have htn : (UInt8.ofNat tag.toNat).toNat = tag.toNat := by rw [UInt8.toNat_ofNat']; omega
 have hg := getVs_told r (chNums L) (fun z hz => by
  simp only [chNums, List.mem_cons, List.not_mem_nil, or_false] at hz
  rcases hz with rfl | rfl | rfl
  ·omega
  ·exact zigT_lt _
  ·exact zigT_lt _)
 unfold headDec; dsimp only
 rw [htn, if_neg (by omega), show getVs 3 _ = _ from hg]
 dsimp only
 have e0 : (chNums L).getD 0 0 = L.length := rfl
 have e1 : (chNums L).getD 1 0 = zigT (firstT L) := rfl
 have e2 : (chNums L).getD 2 0 = zigT (lastT L) := rfl
 have hle := rises_ends hr hL
 rw [if_neg (by rw [e0, e1, e2, zag_zigT w1, zag_zigT w2]; omega)]
 unfold hdOf
 rw [htn, e0, e1, e2, zag_zigT w1, zag_zigT w2]
theorem chBody_len (tag : Int) (L : List Smp) (x : List UInt8) : 4 + x.length ≤ (chBody tag L x).length ∧ (chBody tag L x).length ≤ 31 + x.length := by
 have h1 := vput_len L.length
 have h2 := vput_len (zigT (firstT L))
 have h3 := vput_len (zigT (lastT L))
 simp only [chBody, chNums, List.flatMap_cons, List.flatMap_nil, List.length_cons, List.length_append, List.length_nil]
 omega
theorem be4_len (c : Nat) : (be4 c).length = 4 := rfl
theorem chOpen_told {tag : Int} {L : List Smp} {b : List UInt8} (hw : ∀ s ∈ L, s.Wf) (hb : b.length < 18446744073709551616) (h : chMake tag L = some b) : chOpen b = some (L, tag.toNat) := by
 obtain ⟨x, hx, hL, he⟩ := chMake_some h
 obtain ⟨h1, h6⟩ := suitEnc_tag hx
 have hh := headDec_told hw hL hx (x ++ be4 (crc (chBody tag L x)))
 have hb' : b = UInt8.ofNat tag.toNat :: ((chNums L).flatMap vput ++ (x ++ be4 (crc (chBody tag L x)))) := by
  rw [he]
  unfold chBody
  simp
 rw [← hb'] at hh
 have hl := chBody_len tag L x
 have hbl : b.length = (chBody tag L x).length + 4 := by rw [he, List.length_append, be4_len]
 unfold chOpen
 rw [hh]
 dsimp only
 rw [if_neg (by rw [List.length_append, be4_len]; omega), List.length_append, be4_len, Nat.add_sub_cancel, List.take_left, show ((tag.toNat : Nat) : Int) = tag by omega, suitDec_told hw (by omega) hx]
 dsimp only
 rw [if_pos h]
theorem sealed_turn {A B : List UInt8} {i : Nat} {y z : UInt8} (hz : (A ++ be4 (crc A))[i]? = some z) (hy : y ≠ z) : (A ++ be4 (crc A)).set i y ≠ B ++ be4 (crc B) := by
 intro h
 have hl := congrArg List.length h
 rw [List.length_set, List.length_append, List.length_append, be4_len, be4_len] at hl
 have hAB : A.length = B.length := by omega
 by_cases hi : i < A.length
 ·rw [List.set_append_left _ _ hi] at h
  obtain ⟨h1, h2⟩ := List.append_inj h (by rw [List.length_set]; exact hAB)
  rw [List.getElem?_append_left hi] at hz
  have hc := be4_inj (crc_lt A) (crc_lt B) h2
  have hs : A = A.take i ++ z :: A.drop (i + 1) := by
   have := List.getElem?_eq_some_iff.1 hz
   obtain ⟨h3, h4⟩ := this
   rw [← h4]
   simp
  have hs' : B = A.take i ++ y :: A.drop (i + 1) := by
   rw [← h1, List.set_eq_take_append_cons_drop, if_pos hi]
  rw [hs'] at hc
  rw [show crc A = crc (A.take i ++ z :: A.drop (i + 1)) by rw [← hs]] at hc
  exact hy (crc_turn _ _ hc).symm
 ·rw [List.set_append_right _ _ (by omega)] at h
  obtain ⟨h1, h2⟩ := List.append_inj h hAB
  subst h1
  rw [List.getElem?_append_right (by omega)] at hz
  have hlt := (List.getElem?_eq_some_iff.1 hz).1
  have := congrArg (fun l => l[i - A.length]?) h2
  simp only [List.getElem?_set_self hlt, hz] at this
  exact hy (Option.some.inj this)
theorem chOpen_turned {tag : Int} {L : List Smp} {b : List UInt8} (h : chMake tag L = some b) {i : Nat} {y z : UInt8} (hz : b[i]? = some z) (hy : y ≠ z) : chOpen (b.set i y) = none := by
 cases ho : chOpen (b.set i y) with
 | none => rfl
 | some q =>
  obtain ⟨M, t⟩ := q
  have hs := chOpen_sound ho
  obtain ⟨x, _, _, hx⟩ := chMake_some h
  obtain ⟨x', _, _, hx'⟩ := chMake_some hs
  rw [hx] at hz hx'
  exact absurd hx' (sealed_turn hz hy)
theorem headDec_tag {c : UInt8} {r : List UInt8} (h : c.toNat < 1 ∨ 6 < c.toNat) : headDec (c :: r) = none := by
 unfold headDec; dsimp only; rw [if_pos h]
theorem headDec_zero (c : UInt8) (r : List UInt8) : headDec (c :: 0 :: r) = none := by
 unfold headDec; dsimp only
 split
 ·rfl
 ·have hv : vget (0 :: r) = (0, 1) := rfl
  split
  ·rfl
  ·rename_i l rest hg
   rw [getVs, hv] at hg
   simp only [Nat.one_ne_zero, if_false] at hg
   obtain ⟨q, _, hq⟩ := Option.map_eq_some_iff.1 hg
   rw [if_pos]
   left
   have : l = 0 :: q.1 := by
    have := congrArg Prod.fst hq
    exact this.symm
   rw [this]
   show (0 : Nat) < 1
   decide
theorem headDec_one (c : UInt8) : headDec [c] = none := by
 unfold headDec; dsimp only
 split
 ·rfl
 ·rfl
theorem rises_one (s : Smp) : rises [s] = true := rfl
end Go.Hw

namespace Go.Proofs.YtjjacchnalemaaaGreatDoor
open Go.Hw
set_option maxHeartbeats 4000000
set_option maxRecDepth 100000
section
variable {w0 w : World} {l : List HProp} {p : Nat}

theorem heldN_one : heldN 1 = 1 := rfl
theorem time_ahead {s : RS} (h : St w0 (IsBR p s :: l) w) : Ret Tryz.prog 124 [.pointer (some ⟨p, 0, none⟩)] w fun v w' => v = .int .i64 ((aheadR 4 s).1 : Nat) ∧ St w0 (IsBR p (aheadR 4 s).2 :: l) w' := by
 refine enter Tryz.func124 rfl Tryz.results124 Tryz.ntmps124 rfl ?_
 refine c_seq (c_region ?_)
 refine r_v (q_assignI rfl) rfl ?_
 refine r_nil ?_
 refine c_seq (c_region ?_)
 refine r_v (q_assignI rfl) rfl ?_
 refine r_nil ?_
 refine c_cut (Γ := Unit) (fun _ => [(0, .pointer (some ⟨p, 0, none⟩)), (3, .int .i64 ((aheadR 4 s).1 : Nat))]) (fun _ w => St w0 (IsBR p (aheadR 4 s).2 :: l) w) ?_ ?_
 ·refine c_block ?_
  refine c_loop (Γ := Nat × Nat × RS) (fun k => [(0, .pointer (some ⟨p, 0, none⟩)), (3, .int .i64 k.1)])
   (fun k w => k.1 + k.2.1 = 4 ∧ (aheadR k.2.1 k.2.2).1 + k.1 = (aheadR 4 s).1 ∧ (aheadR k.2.1 k.2.2).2 = (aheadR 4 s).2 ∧ St w0 (IsBR p k.2.2 :: l) w) (fun k => k.2.1) (0, 4, s) ⟨rfl, rfl, trivial⟩ ⟨rfl, rfl, rfl, h⟩ ?_
  clear h
  rintro ⟨n, k, s'⟩ w e ⟨hk, h1, h2, h⟩
  dsimp only at hk h1 h2 h ⊢
  refine c_seq (c_seq (c_region ?_))
  refine r_v (q_moveI rfl) rfl ?_; refine r_v (q_lss rfl rfl) rfl ?_
  cases k with
  | zero =>
   refine r_is (.bool false) (by simp; omega) ?_
   refine r_v (q_moveB rfl) rfl ?_; (first | refine r_gd rfl rfl ?_ | refine r_gn rfl rfl rfl ?_ | refine r_gu rfl rfl ?_ | refine r_gd rfl (by assumption) ?_ | refine r_gn rfl (by assumption) rfl ?_); (first | refine r_gd rfl rfl ?_ | refine r_gn rfl rfl rfl ?_ | refine r_gu rfl rfl ?_ | refine r_gd rfl (by assumption) ?_ | refine r_gn rfl (by assumption) rfl ?_); (first | refine r_gd rfl rfl ?_ | refine r_gn rfl rfl rfl ?_ | refine r_gu rfl rfl ?_ | refine r_gd rfl (by assumption) ?_ | refine r_gn rfl (by assumption) rfl ?_); (first | refine r_v (q_pick1 rfl rfl rfl) rfl ?_ | refine r_v (q_pick0 rfl rfl rfl) rfl ?_ | refine r_v (q_pick1 rfl (by assumption) rfl) rfl ?_ | refine r_v (q_pick0 rfl (by assumption) rfl) rfl ?_ | refine r_v (q_pickB rfl rfl rfl) rfl ?_)
   refine r_nil (c_false rfl ?_)
   refine c_exit ⟨(), ⟨rfl, ?_, trivial⟩, ?_⟩
   ·rw [← h1]; show Value.int .i64 _ = Value.int .i64 _; rw [aheadR, Nat.zero_add]
   ·rw [← h2]; exact h
  | succ k =>
   refine r_is (.bool true) (by simp; omega) ?_
   refine r_v (q_moveB rfl) rfl ?_; (first | refine r_gd rfl rfl ?_ | refine r_gn rfl rfl rfl ?_ | refine r_gu rfl rfl ?_ | refine r_gd rfl (by assumption) ?_ | refine r_gn rfl (by assumption) rfl ?_); refine r_v (q_moveP rfl) rfl ?_; (first | refine r_gd rfl rfl ?_ | refine r_gn rfl rfl rfl ?_ | refine r_gu rfl rfl ?_ | refine r_gd rfl (by assumption) ?_ | refine r_gn rfl (by assumption) rfl ?_)
   refine r_c rfl (x_call rfl (bits_Get 1 h) ?_)
   rintro _ w ⟨rfl, h⟩
   rw [heldN_one] at h ⊢
   (first | refine r_gd rfl rfl ?_ | refine r_gn rfl rfl rfl ?_ | refine r_gu rfl rfl ?_ | refine r_gd rfl (by assumption) ?_ | refine r_gn rfl (by assumption) rfl ?_); refine r_v (q_eql rfl rfl) rfl ?_
   rw [aheadR] at h1 h2
   by_cases hb : (s'.get 1).1 = 1
   ·rw [if_pos hb] at h1 h2
    refine r_is (.bool true) (by rw [hb]; rfl) ?_
    (first | refine r_v (q_pick1 rfl rfl rfl) rfl ?_ | refine r_v (q_pick0 rfl rfl rfl) rfl ?_ | refine r_v (q_pick1 rfl (by assumption) rfl) rfl ?_ | refine r_v (q_pick0 rfl (by assumption) rfl) rfl ?_ | refine r_v (q_pickB rfl rfl rfl) rfl ?_)
    refine r_nil (c_true rfl (c_skip ?_))
    refine c_block ?_
    refine c_region ?_
    refine r_v (q_moveI rfl) rfl ?_; refine r_v (q_add rfl rfl) rfl ?_
    refine r_is (.int .i64 ((n + 1 : Nat) : Int)) (by rw [wrap64 (by omega) (by omega)]; rfl) ?_
    refine r_v (q_assignI rfl) rfl ?_
    exact r_nil ⟨(n + 1, k, (s'.get 1).2), ⟨rfl, rfl, trivial⟩, ⟨by dsimp only; omega, by dsimp only at h1 ⊢; omega, h2, h⟩, by dsimp only; omega⟩
   ·rw [if_neg hb] at h1 h2
    refine r_is (.bool false) (by congr 1; rw [beq_eq_false_iff_ne]; omega) ?_
    (first | refine r_v (q_pick1 rfl rfl rfl) rfl ?_ | refine r_v (q_pick0 rfl rfl rfl) rfl ?_ | refine r_v (q_pick1 rfl (by assumption) rfl) rfl ?_ | refine r_v (q_pick0 rfl (by assumption) rfl) rfl ?_ | refine r_v (q_pickB rfl rfl rfl) rfl ?_)
    refine r_nil (c_false rfl ?_)
    refine c_exit ⟨(), ⟨rfl, ?_, trivial⟩, ?_⟩
    ·rw [← h1]; show Value.int .i64 _ = Value.int .i64 _; rw [Nat.zero_add]
    ·rw [← h2]; exact h
 clear h
 rintro ⟨⟩ w e h
 refine c_seq (c_region ?_)
 refine r_v (q_moveI rfl) rfl ?_; refine r_v (q_assignI rfl) rfl ?_
 refine r_nil ?_
 exact c_ret (bq1 ⟨rfl, h⟩)
theorem longs_le (k : Nat) : longs k ≤ 64 := by
 unfold longs
 match k with
 | 0 | 1 | 2 | 3 | 4 => decide
 | k + 5 => exact (by decide : (0 : Nat) ≤ 64)
theorem longs_get {k : Nat} (h : k ≤ 4) : (i64V [0, 7, 9, 12, 64])[k]? = some (.int .i64 (longs k : Nat)) := by
 rcases (by omega : k = 0 ∨ k = 1 ∨ k = 2 ∨ k = 3 ∨ k = 4) with rfl | rfl | rfl | rfl | rfl <;> rfl
theorem sext_shift {g n : Nat} (hg : g < 2 ^ n) (hn : n ≤ 64) (h0 : n ≠ 0) : (sg (g * 2 ^ (64 - n))).fdiv (2 ^ (64 - n)) = sext g n ∧ g * 2 ^ (64 - n) < 18446744073709551616 := by
 have hP : 0 < 2 ^ (64 - n) := Nat.two_pow_pos _
 have h64 : 2 ^ n * 2 ^ (64 - n) = 18446744073709551616 := by rw [← Nat.pow_add, show n + (64 - n) = 64 by omega]
 have h63 : 2 ^ (n - 1) * 2 ^ (64 - n) = 9223372036854775808 := by rw [← Nat.pow_add, show n - 1 + (64 - n) = 63 by omega]
 have hlt : g * 2 ^ (64 - n) < 18446744073709551616 := by rw [← h64]; exact Nat.mul_lt_mul_of_pos_right hg hP
 refine ⟨?_, hlt⟩
 have hPi : ((2 : Int) ^ (64 - n)) = ((2 ^ (64 - n) : Nat) : Int) := by simp
 have hni : ((2 : Int) ^ n) = ((2 ^ n : Nat) : Int) := by simp
 unfold sext
 rw [if_neg h0, hPi, hni, Int.fdiv_eq_ediv_of_nonneg _ (by omega)]
 unfold sg
 by_cases hl : g < 2 ^ (n - 1)
 ·rw [if_pos hl, if_pos (by rw [← h63]; exact Nat.mul_lt_mul_of_pos_right hl hP), ← Int.natCast_ediv, Nat.mul_div_cancel _ hP]
 ·rw [if_neg hl, if_neg (by rw [← h63]; exact Nat.not_lt.2 (Nat.mul_le_mul_right _ (Nat.not_lt.1 hl)))]
  have e : ((g * 2 ^ (64 - n) : Nat) : Int) - 18446744073709551616 = ((g : Int) - ((2 ^ n : Nat) : Int)) * ((2 ^ (64 - n) : Nat) : Int) := by
   rw [Int.sub_mul, ← Int.natCast_mul, ← Int.natCast_mul, h64]; rfl
  rw [e, Int.mul_ediv_cancel _ (by omega)]

theorem time_next {s : RS} (h : St w0 (IsBR p s :: l) w) : Ret Tryz.prog 82 [.pointer (some ⟨p, 0, none⟩)] w fun v w' => v = .tuple [.int .i64 (nextT s).1, .bool (nextOk s)].toArray ∧ St w0 (IsBR p (nextT s).2 :: l) w' := by
 refine enter Tryz.func82 rfl Tryz.results82 Tryz.ntmps82 rfl ?_
 refine c_seq (c_region ?_)
 refine r_v (q_assignI rfl) rfl ?_; refine r_v (q_assignB rfl) rfl ?_
 refine r_nil ?_
 refine c_seq (c_region ?_)
 refine r_v (q_moveP rfl) rfl ?_
 refine r_c rfl (x_call rfl (time_ahead h) ?_)
 rintro _ w ⟨rfl, h⟩
 refine r_v (q_assignI rfl) rfl ?_
 refine r_nil ?_
 have hle := aheadR_le 4 s
 have hnT : nextT s = (sext ((aheadR 4 s).2.get (longs (aheadR 4 s).1)).1 (longs (aheadR 4 s).1), ((aheadR 4 s).2.get (longs (aheadR 4 s).1)).2) := rfl
 have hnO : nextOk s = decide ((which (nextT s).1).bits = longs (aheadR 4 s).1) := rfl
 generalize hk : (aheadR 4 s).1 = k at *
 generalize (aheadR 4 s).2 = s1 at *
 have hll := longs_le k
 refine c_seq (c_region ?_)
 refine r_c rfl (x_bslice (r := i64V [0, 7, 9, 12, 64]) h rfl rfl rfl fun b w h => ?_)
 refine r_v (q_moveI rfl) rfl ?_
 refine r_v (q_idx (o' := k) rfl rfl rfl (by omega) (by simp)) rfl ?_
 refine r_v (q_load (v := .int .i64 (longs k : Nat)) rfl (h.b 0 rfl) (longs_get hle)) rfl ?_
 replace h := h.drop
 refine r_v (q_assignI rfl) rfl ?_
 refine r_nil ?_
 have hgl := RS.get_lt s1 (longs k)
 refine c_seq (c_region ?_)
 refine r_v (q_moveP rfl) rfl ?_; refine r_v (q_moveI rfl) rfl ?_
 refine r_c rfl (x_call rfl (bits_Get (longs k) h) ?_)
 rintro _ w ⟨rfl, h⟩
 rw [heldN_nat hll] at h ⊢
 generalize hg : s1.get (longs k) = gs at *
 obtain ⟨g, s2⟩ := gs
 dsimp only at h hgl hnT ⊢
 refine r_v (q_moveI rfl) rfl ?_; refine r_v (q_sub rfl rfl) rfl ?_
 refine r_is (.int .i64 ((64 - longs k : Nat) : Int)) (by rw [wrap64 (by omega) (by omega)]; congr 1; omega) ?_
 refine r_v (q_is (v' := .int .u64 ((g * 2 ^ (64 - longs k) % 18446744073709551616 : Nat) : Int)) (q_shl rfl rfl (by omega)) (congrArg (Value.int .u64) (shl_u64 g (64 - longs k) (by omega)))) rfl ?_
 refine r_v (q_conv rfl) rfl ?_
 refine r_is (.int .i64 (sg (g * 2 ^ (64 - longs k) % 18446744073709551616))) (by rw [wrap_sg (Nat.mod_lt _ (by decide))]) ?_
 refine r_v (q_moveI rfl) rfl ?_; refine r_v (q_max rfl rfl) rfl ?_; refine r_v (q_sub rfl rfl) rfl ?_
 refine r_is (.int .i64 ((64 - max (longs k) 1 : Nat) : Int)) (by rw [wrap64 (by omega) (by omega)]; congr 1; omega) ?_
 refine r_v (q_shr rfl rfl (by omega)) rfl ?_
 refine r_int fun d hd => ?_
 refine r_v (q_assignI rfl) rfl ?_
 refine r_nil ?_
 refine c_cut (Γ := Unit) (fun _ => [(5, .int .i64 (longs k : Nat)), (6, .int .i64 (sext g (longs k)))]) (fun _ w => St w0 (IsBR p s2 :: l) w) ?_ ?_
 ·refine c_seq (c_region ?_)
  refine r_v (q_moveI rfl) rfl ?_; refine r_v (q_eql rfl rfl) rfl ?_
  by_cases h0 : longs k = 0
  ·refine r_is (.bool true) (by rw [h0]; rfl) ?_
   refine r_nil (c_true rfl ?_)
   refine c_region ?_
   refine r_v (q_assignI rfl) rfl ?_
   refine r_nil ⟨(), ⟨rfl, ?_, trivial⟩, h⟩
   show Value.int .i64 0 = _
   unfold sext; rw [if_pos h0]
  ·refine r_is (.bool false) (by congr 1; rw [beq_eq_false_iff_ne]; omega) ?_
   refine r_nil (c_false rfl (c_skip ⟨(), ⟨rfl, ?_, trivial⟩, h⟩))
   show Value.int .i64 d = _
   obtain ⟨h1, h2⟩ := sext_shift hgl hll h0
   rw [hd, Nat.mod_eq_of_lt h2, show max (longs k) 1 = longs k by omega, Int.toNat_natCast, Nat.min_eq_left (show 64 - longs k ≤ IntKind.i64.bits by show 64 - longs k ≤ 64; omega), h1]
 clear h hd d
 rintro ⟨⟩ w e h
 refine c_seq (c_region ?_)
 refine r_v (q_moveI rfl) rfl ?_; refine r_v (q_moveI rfl) rfl ?_
 refine r_c rfl (x_call rfl (time_which (sext g (longs k)) h) ?_)
 rintro _ w ⟨rfl, h⟩
 refine r_v (q_field (ft := 3) (o := 2) Tryz.underlying112 (by kernel_rfl) rfl rfl) rfl ?_
 refine r_v (q_moveI rfl) rfl ?_; refine r_v (q_eql rfl rfl) rfl ?_
 refine r_is (.bool (nextOk s)) (by
  rw [hnO, hnT]
  dsimp only
  congr 1
  rw [Bool.eq_iff_iff, beq_iff_eq, decide_eq_true_eq]
  exact ⟨fun h => by omega, fun h => by rw [h]⟩) ?_
 refine r_v (q_assignI rfl) rfl ?_; refine r_v (q_assignB rfl) rfl ?_
 refine r_nil ?_
 rw [hnT]
 exact c_ret (bq2 ⟨rfl, h⟩)

def askN (n : Int) : Nat := (min (max n 0) 65535).toNat
theorem askN_le (n : Int) : askN n ≤ 65535 := by unfold askN; omega
theorem time_Decode {s : RS} (n : Int) (h : St w0 (IsBR p s :: l) w) : Ret Tryz.prog 44 [.pointer (some ⟨p, 0, none⟩), .int .i64 n] w fun v w' =>
  (timesDec (askN n) s = none ∧ v = .tuple [.slice none 0 0, .bool false].toArray ∧ ∃ s', St w0 (IsBR p s' :: l) w') ∨
  (∃ x a c, timesDec (askN n) s = some x ∧ v = .tuple [.slice a x.1.length c, .bool true].toArray ∧ St w0 (Own 2 1 a x.1.length c (i64V x.1) :: IsBR p x.2 :: l) w') := by
 have hm := askN_le n
 refine enter Tryz.func44 rfl Tryz.results44 Tryz.ntmps44 rfl ?_
 refine c_seq (c_region ?_)
 refine r_v (q_assignS rfl) rfl ?_; refine r_v (q_assignB rfl) rfl ?_
 refine r_nil ?_
 refine c_seq (c_region ?_)
 refine r_v (q_moveI rfl) rfl ?_; refine r_v (q_max rfl rfl) rfl ?_; refine r_v (q_min rfl rfl) rfl ?_
 refine r_is (.int .i64 (askN n)) (by unfold askN; congr 1; omega) ?_
 generalize askN n = m at hm ⊢
 refine r_v (q_assignI rfl) rfl ?_
 refine r_nil ?_
 refine c_seq (c_region ?_)
 refine r_v (q_assignS rfl) rfl ?_
 refine r_nil ?_
 refine c_seq (c_region ?_)
 refine r_v (q_assignI rfl) rfl ?_; refine r_v (q_assignI rfl) rfl ?_
 refine r_nil ?_
 refine c_seq (c_seq (c_region ?_))
 refine r_v (q_moveI rfl) rfl ?_; refine r_v (q_moveI rfl) rfl ?_
 refine r_nil ?_
 refine c_block ?_
 refine c_loop (Γ := Nat × List Int × Nat × Nat × RS × Option Addr × Nat) (fun k => [(0, .pointer (some ⟨p, 0, none⟩)), (6, .slice k.2.2.2.2.2.1 k.2.1.length k.2.2.2.2.2.2), (7, .int .u64 k.2.2.1), (8, .int .u64 k.2.2.2.1), (15, .int .i64 m), (16, .int .i64 k.1)])
  (fun k w => k.1 ≤ m ∧ k.2.1.length = k.1 ∧ k.2.2.1 < 18446744073709551616 ∧ k.2.2.2.1 < 18446744073709551616 ∧ ((k.1 = 0 ∧ k.2.2.2.1 = 0 ∧ k.2.2.2.2.1 = s) ∨ (0 < k.1 ∧ k.2.2.2.2.1.bad = false ∧ timesDec m s = (timesDecA (m - k.1) k.2.2.1 k.2.2.2.1 k.2.2.2.2.1).map fun r => (k.2.1 ++ r.1, r.2)))
   ∧ St w0 (Own 2 1 k.2.2.2.2.2.1 k.2.1.length k.2.2.2.2.2.2 (i64V k.2.1) :: IsBR p k.2.2.2.2.1 :: l) w)
  (fun k => m - k.1) (0, [], 0, 0, s, none, 0) ⟨rfl, rfl, rfl, rfl, rfl, rfl, trivial⟩ ⟨Nat.zero_le _, rfl, (by decide : (0 : Nat) < 18446744073709551616), (by decide : (0 : Nat) < 18446744073709551616), .inl ⟨rfl, rfl, rfl⟩, St.ownNil _ _ h⟩ ?_
 clear h
 rintro ⟨i, out, was, step, s', a, c⟩ w e ⟨him, hol, hwas, hstep, inv, h⟩
 dsimp only at him hol hwas hstep inv h ⊢
 refine c_seq (c_region ?_)
 refine r_v (q_lss rfl rfl) rfl ?_
 refine r_nil ?_
 refine c_seq (c_cond (decide ((i : Int) < (m : Int))) rfl (fun hc => ?_) (fun hc => ?_))
 ·
  have hlt : i < m := by simp at hc; omega
  refine c_skip ?_
  refine c_seq (c_block ?_)
  refine c_seq (c_region ?_)
  refine r_v (q_moveI rfl) rfl ?_; refine r_v (q_assignI rfl) rfl ?_
  refine r_nil ?_
  refine c_cut (Γ := Nat × Nat × RS) (fun k => [(0, .pointer (some ⟨p, 0, none⟩)), (6, .slice a out.length c), (7, .int .u64 k.1), (8, .int .u64 k.2.1), (15, .int .i64 m), (16, .int .i64 i)])
   (fun k w => k.1 < 18446744073709551616 ∧ k.2.1 < 18446744073709551616 ∧ (timesDec m s = if k.2.2.bad = true then none else (timesDecA (m - (i + 1)) k.1 k.2.1 k.2.2).map fun r => (out ++ sg k.1 :: r.1, r.2)) ∧ St w0 (Own 2 1 a out.length c (i64V out) :: IsBR p k.2.2 :: l) w) ?_ ?_
  ·refine c_seq (c_region ?_)
   refine r_v (q_moveI rfl) rfl ?_; refine r_v (q_eql rfl rfl) rfl ?_
   rcases inv with ⟨hi0, hs0, rfl⟩ | ⟨hi0, hbad, inv⟩
   ·refine r_is (.bool true) (by subst hi0; rfl) ?_
    refine r_nil (c_true rfl ?_)
    refine c_region ?_
    refine r_v (q_moveP rfl) rfl ?_
    refine r_c rfl (x_call rfl (bits_Get 64 (h.f 1)) ?_)
    rintro _ w ⟨rfl, h⟩
    rw [show heldN 64 = 64 from rfl] at h ⊢
    refine r_v (q_assignI rfl) rfl ?_
    refine r_nil ⟨((s'.get 64).1, step, (s'.get 64).2), ⟨rfl, rfl, rfl, rfl, rfl, rfl, trivial⟩, RS.get_lt s' 64, hstep, ?_, h.f 1⟩
    dsimp only
    have : out = [] := List.eq_nil_of_length_eq_zero (by omega)
    subst this
    rw [hs0, hi0]
    cases m with
    | zero => omega
    | succ m => rfl
   ·refine r_is (.bool false) (by simp; omega) ?_
    refine r_nil (c_false rfl ?_)
    refine c_seq (c_region ?_)
    refine r_v (q_moveP rfl) rfl ?_
    refine r_c rfl (x_call rfl (time_next (h.f 1)) ?_)
    rintro _ w ⟨rfl, h⟩
    refine r_v (q_moveT rfl) rfl ?_; refine r_v (q_ext rfl rfl) rfl ?_; refine r_v (q_ext rfl rfl) rfl ?_; refine r_v (q_assignI rfl) rfl ?_; refine r_v (q_assignB rfl) rfl ?_
    refine r_nil ?_
    refine c_seq (c_seq (c_region ?_))
    refine r_v (q_moveB rfl) rfl ?_; refine r_v (q_not rfl) rfl ?_
    rw [show m - i = (m - (i + 1)) + 1 by omega, timesDecA] at inv
    refine r_nil ?_
    refine c_cond (!nextOk s') rfl (fun hc => ?_) (fun hc => ?_)
    ·
     have hno : nextOk s' = false := by simpa using hc
     refine c_seq (c_region ?_)
     refine r_v (q_assignS rfl) rfl ?_; refine r_v (q_assignB rfl) rfl ?_
     refine r_nil ?_
     rw [if_neg (by rw [hno]; simp)] at inv
     exact c_ret (bq2 (.inl ⟨inv, rfl, _, (h.f 1).drop⟩))
    have hok : nextOk s' = true := by simpa using hc
    refine c_skip ?_
    refine c_seq (c_region ?_)
    refine r_v (q_moveI rfl) rfl ?_; refine r_v (q_moveI rfl) rfl ?_; refine r_v (q_conv rfl) rfl ?_
    refine r_is (.int .u64 (us (nextT s').1 : Nat)) (by rw [wrap_us]) ?_
    refine r_v (q_add rfl rfl) rfl ?_
    refine r_is (.int .u64 (summ step (us (nextT s').1) : Nat)) (by rw [wrap_summ]) ?_
    refine r_v (q_assignI rfl) rfl ?_
    refine r_nil ?_
    refine c_region ?_
    refine r_v (q_moveI rfl) rfl ?_; refine r_v (q_moveI rfl) rfl ?_; refine r_v (q_add rfl rfl) rfl ?_
    refine r_is (.int .u64 (summ was (summ step (us (nextT s').1)) : Nat)) (by rw [wrap_summ]) ?_
    refine r_v (q_assignI rfl) rfl ?_
    refine r_nil ⟨(summ was (summ step (us (nextT s').1)), summ step (us (nextT s').1), (nextT s').2), ⟨rfl, rfl, rfl, rfl, rfl, rfl, trivial⟩, Nat.mod_lt _ (by decide), Nat.mod_lt _ (by decide), ?_, h.f 1⟩
    rw [inv]
    dsimp only
    cases hb : (nextT s').2.bad with
    | true => rw [if_neg (by simp), if_pos rfl]; rfl
    | false => rw [if_pos ⟨hok, rfl⟩, if_neg (by simp), Option.map_map]; rfl
  clear h inv
  rintro ⟨was', step', s2⟩ w e ⟨hw', hs', inv, h⟩
  dsimp only at hw' hs' inv h ⊢
  refine c_seq (c_seq (c_region ?_))
  refine r_v (q_moveP rfl) rfl ?_
  refine r_c rfl (x_call rfl (bits_Ok (h.f 1)) ?_)
  rintro _ w ⟨rfl, h⟩
  refine r_v (q_not rfl) rfl ?_
  refine r_nil ?_
  refine c_cond (!!s2.bad) rfl (fun hc => ?_) (fun hc => ?_)
  ·
   have hb : s2.bad = true := by simpa using hc
   refine c_seq (c_region ?_)
   refine r_v (q_assignS rfl) rfl ?_; refine r_v (q_assignB rfl) rfl ?_
   refine r_nil ?_
   rw [if_pos hb] at inv
   exact c_ret (bq2 (.inl ⟨inv, rfl, _, (h.f 1).drop⟩))
  have hb : s2.bad = false := by simpa using hc
  rw [if_neg (by rw [hb]; simp)] at inv
  refine c_skip ?_
  refine c_region ?_
  refine r_v (q_moveS rfl) rfl ?_; refine r_v (q_moveI rfl) rfl ?_; refine r_v (q_conv rfl) rfl ?_
  refine r_is (.int .i64 (sg was')) (by rw [wrap_sg hw']) ?_
  refine r_c rfl (x_bslice (r := i64V [sg was']) (h.f 1) rfl rfl rfl fun b w h => ?_)
  refine r_c rfl (x_append' (ys := i64V [sg was']) (zs := i64V (out ++ [sg was'])) (m3 := (out ++ [sg was']).length) (h.f 1) rfl rfl ⟨rfl, .inr ⟨b, 0, rfl, at_of (h.b 0 rfl) rfl⟩⟩ (i64V_one _) (by simp) (by simp [i64V]) (by simp; omega) (by simp; omega) rfl fun a' c' w _ h => ?_)
  refine r_v (q_assignS rfl) rfl ?_
  refine r_nil ?_
  refine c_region ?_
  refine r_v (q_add rfl rfl) rfl ?_
  refine r_is (.int .i64 ((i + 1 : Nat) : Int)) (by rw [wrap64 (by omega) (by omega)]; rfl) ?_
  refine r_v (q_moveI rfl) rfl ?_
  refine r_nil ⟨(i + 1, out ++ [sg was'], was', step', s2, a', c'), ⟨rfl, rfl, rfl, rfl, rfl, rfl, trivial⟩, ⟨hlt, by dsimp only; simp; omega, hw', hs', .inr ⟨Nat.succ_pos _, hb, ?_⟩, (h.f 1).drop⟩, by dsimp only; omega⟩
  rw [inv]
  dsimp only
  congr 1
  funext r
  simp
 have hin : i = m := by simp at hc; omega
 refine c_exit ?_
 refine c_seq (c_seq (c_region ?_))
 refine r_v (q_moveP rfl) rfl ?_
 refine r_c rfl (x_call rfl (bits_Ok (h.f 1)) ?_)
 rintro _ w ⟨rfl, h⟩
 refine r_v (q_not rfl) rfl ?_
 refine r_nil ?_
 have key : timesDec m s = if s'.bad = true then none else some (out, s') := by
  rcases inv with ⟨hi0, hs0, rfl⟩ | ⟨hi0, hbad, inv⟩
  ·have : out = [] := List.eq_nil_of_length_eq_zero (by omega)
   subst this
   rw [← hin, hi0]; rfl
  ·rw [inv, hin, Nat.sub_self, hbad]
   simp [timesDecA]
 refine c_cond (!!s'.bad) rfl (fun hc => ?_) (fun hc => ?_)
 ·
  refine c_seq (c_region ?_)
  refine r_v (q_assignS rfl) rfl ?_; refine r_v (q_assignB rfl) rfl ?_
  refine r_nil ?_
  rw [if_pos (by simpa using hc)] at key
  exact c_ret (bq2 (.inl ⟨key, rfl, _, (h.f 1).drop⟩))
 rw [if_neg (by simpa using hc)] at key
 refine c_skip ?_
 refine c_seq (c_region ?_)
 refine r_v (q_moveS rfl) rfl ?_; refine r_v (q_assignS rfl) rfl ?_; refine r_v (q_assignB rfl) rfl ?_
 refine r_nil ?_
 exact c_ret (bq2 (.inr ⟨(out, s'), a, c, key, rfl, h.f 1⟩))
end
end Go.Proofs.YtjjacchnalemaaaGreatDoor

namespace Go.Hw
theorem timesDecA_i64 : ∀ (k was step : Nat) (s : RS) (x : List Int × RS), timesDecA k was step s = some x → ∀ t ∈ x.1, I64 t
 | 0, _, _, _, x, h => by cases h; exact fun _ h => by cases h
 | k + 1, was, step, s, x, h => by
  rw [timesDecA] at h
  split at h
  ·obtain ⟨y, h1, rfl⟩ := Option.map_eq_some_iff.1 h
   intro t ht
   rcases List.mem_cons.1 ht with rfl | ht
   ·exact sg_wf (Nat.mod_lt _ (by decide))
   ·exact timesDecA_i64 k _ _ _ y h1 t ht
  ·cases h
theorem timesDec_i64 {n : Nat} {s : RS} {x : List Int × RS} (h : timesDec n s = some x) : ∀ t ∈ x.1, I64 t := by
 cases n with
 | zero => unfold timesDec at h; dsimp only at h; split at h <;> cases h; exact fun _ h => by cases h
 | succ k =>
  unfold timesDec at h; dsimp only at h; split at h
  ·cases h
  ·obtain ⟨y, h1, rfl⟩ := Option.map_eq_some_iff.1 h
   intro t ht
   rcases List.mem_cons.1 ht with rfl | ht
   ·exact sg_wf (RS.get_lt s 64)
   ·exact timesDecA_i64 k _ _ _ y h1 t ht
theorem zipS_len : ∀ (x : List Int) (v : List Nat), x.length = v.length → (zipS x v).length = x.length
 | [], _, _ => by simp [zipS]
 | _ :: _, [], h => by simp at h
 | t :: x, a :: v, h => by simp [zipS, zipS_len x v (by simpa using h)]
theorem zipS_wf : ∀ (x : List Int) (v : List Nat), (∀ t ∈ x, I64 t) → (∀ a ∈ v, a < 18446744073709551616) → ∀ s ∈ zipS x v, s.Wf
 | [], _, _, _, s, h => by simp [zipS] at h
 | _ :: _, [], _, _, s, h => by simp [zipS] at h
 | t :: x, a :: v, hx, hv, s, h => by
  rw [zipS] at h
  rcases List.mem_cons.1 h with rfl | h
  ·exact ⟨hx t (List.mem_cons_self ..), by dsimp only; omega, by have := hv a (List.mem_cons_self ..); dsimp only; omega⟩
  ·exact zipS_wf x v (fun y hy => hx y (List.mem_cons_of_mem _ hy)) (fun y hy => hv y (List.mem_cons_of_mem _ hy)) s h
theorem zipS_snoc : ∀ (x : List Int) (v : List Nat) (k : Nat) (t : Int) (a : Nat), x[k]? = some t → v[k]? = some a → zipS (x.take (k + 1)) (v.take (k + 1)) = zipS (x.take k) (v.take k) ++ [⟨t, a⟩]
 | [], _, _, _, _, h, _ => by simp at h
 | _ :: _, [], _, _, _, _, h => by simp at h
 | s :: x, b :: v, 0, t, a, h, h' => by simp at h h'; subst h; subst h'; simp [zipS]
 | s :: x, b :: v, k + 1, t, a, h, h' => by
  have := zipS_snoc x v k t a (by simpa using h) (by simpa using h')
  rw [List.take_succ_cons, List.take_succ_cons, zipS, this, List.take_succ_cons, List.take_succ_cons, zipS]
  rfl
theorem take_len1 {α : Type} {x : List α} {k : Nat} (h : k ≤ x.length) : (x.take k).length = k := by rw [List.length_take, Nat.min_eq_left h]
theorem conv_nat {x : Nat} (h : x ≤ 9223372036854775807) : IntKind.u64.wrap (x : Int) = (x : Int) := by
 unfold IntKind.wrap
 simp [IntKind.signed, IntKind.bits]
 omega
end Go.Hw
namespace Go.Proofs.YtjjacchnalemaaaGreatDoor
open Go.Hw
set_option maxHeartbeats 4000000
set_option maxRecDepth 100000
section
variable {w0 w : World} {l : List HProp}
theorem askN_nat {n : Nat} (h : n ≤ 65535) : askN (n : Int) = n := by unfold askN; omega
theorem bytes_Equal {s1 s2 : Option Addr} {c1 c2 : Nat} {b1 b2 : List UInt8} (h : St w0 l w) (h1 : ∀ w', St w0 l w' → Rd w' 1 s1 b1.length (bytesV b1)) (h2 : ∀ w', St w0 l w' → Rd w' 1 s2 b2.length (bytesV b2)) :
  Ret Tryz.prog 47 [.slice s1 b1.length c1, .slice s2 b2.length c2] w fun v w' => v = .bool (decide (b1 = b2)) ∧ St w0 l w' := by
 refine enter Tryz.func47 rfl Tryz.results47 Tryz.ntmps47 rfl ?_
 refine c_seq (c_region ?_)
 refine r_v (q_assignB rfl) rfl ?_
 refine r_nil ?_
 refine c_seq (c_region ?_)
 refine r_v (q_moveS rfl) rfl ?_
 refine r_v (q_btos rfl (h1 _ h)) rfl ?_
 refine r_v (q_moveS rfl) rfl ?_
 refine r_v (q_btos rfl (h2 _ h)) rfl ?_
 refine r_v (q_streq rfl rfl) rfl ?_; refine r_v (q_assignB rfl) rfl ?_
 refine r_nil ?_
 refine c_ret (bq1 ⟨?_, h⟩)
 show Value.bool (b1.toArray.toList == b2.toArray.toList) = _
 congr 1
 rw [Bool.eq_iff_iff]
 simp

def ReadOk (tag : Int) : Prop := ∀ {w0 w : World} {l : List HProp} {sl : Option Addr} {c : Nat} {bs : List UInt8} {n : Nat}, Tz w0 → Reads w0 l 1 sl bs.length (bytesV bs) → bs.length ≤ 140737488355328 → bs.length ≤ c → n ≤ 65535 → St w0 l w →
 Ret Tryz.prog 46 [.int .i64 tag, .slice sl bs.length c, .int .i64 (n : Int)] w fun v w' => ∃ a c' xs b, v = .tuple [.slice a xs.length c', .bool b].toArray ∧ valuesDec tag bs n = (if b = true then some xs else none) ∧ (b = true → xs.length = n ∧ ∀ x ∈ xs, x < 18446744073709551616) ∧ St w0 (OwnU a c' xs :: l) w'

theorem suit_Decode (hT : Tz w0) {tag : Int} (hread : ReadOk tag) {sl : Option Addr} {c : Nat} {bs : List UInt8} (n : Int) (hn : bs.length ≤ 140737488355328) (hc : bs.length ≤ c) (hr : Reads w0 l 1 sl bs.length (bytesV bs)) (h : St w0 l w) :
  Ret Tryz.prog 14 [.int .i64 tag, .slice sl bs.length c, .int .i64 n] w fun v w' => ∃ a c', v = .tuple [.slice a ((suitDec tag bs n).getD []).length c', .bool (suitDec tag bs n).isSome].toArray ∧ (∀ L, suitDec tag bs n = some L → (L.length : Int) = n ∧ ∀ s ∈ L, s.Wf) ∧ St w0 (OwnS a c' ((suitDec tag bs n).getD []) :: l) w' := by
 have hk := vget_le bs
 have hsz := vget_lt bs
 have hdef : suitDec tag bs n = _ := rfl
 conv at hdef => rhs; unfold suitDec
 refine enter Tryz.func14 rfl Tryz.results14 Tryz.ntmps14 rfl ?_
 refine c_seq (c_region ?_)
 refine r_v (q_assignS rfl) rfl ?_; refine r_v (q_assignB rfl) rfl ?_
 refine r_nil ?_
 refine c_seq (c_region ?_)
 refine r_v (q_moveS rfl) rfl ?_
 refine r_c rfl (x_call rfl (vint_Get h hr.rd hn) ?_)
 rintro _ w ⟨rfl, h⟩
 refine r_v (q_moveT rfl) rfl ?_; refine r_v (q_ext rfl rfl) rfl ?_; refine r_v (q_ext rfl rfl) rfl ?_; refine r_v (q_assignI rfl) rfl ?_; refine r_v (q_assignI rfl) rfl ?_
 refine r_nil ?_
 generalize (vget bs).1 = size at hsz hdef ⊢
 generalize (vget bs).2 = k at hk hdef ⊢
 refine c_cut (Γ := Unit) (fun _ => [(0, .int .i64 tag), (1, .slice sl bs.length c), (2, .int .i64 n), (8, .int .u64 size), (9, .int .i64 k)]) (fun _ w => (¬ (k = 0 ∨ n < 0 ∨ 65535 < n ∨ bs.length - k < size)) ∧ St w0 l w) ?_ ?_
 ·refine c_seq (c_region ?_)
  have bad : ∀ {w : World}, (k = 0 ∨ n < 0 ∨ 65535 < n ∨ bs.length - k < size) → St w0 l w → ∃ a c', Value.tuple [.slice none 0 0, .bool false].toArray = .tuple [.slice a ((suitDec tag bs n).getD []).length c', .bool (suitDec tag bs n).isSome].toArray ∧ (∀ L, suitDec tag bs n = some L → (L.length : Int) = n ∧ ∀ s ∈ L, s.Wf) ∧ St w0 (OwnS a c' ((suitDec tag bs n).getD []) :: l) w := fun hb h => by
   rw [if_pos hb] at hdef
   rw [hdef]
   exact ⟨none, 0, rfl, (fun _ h => by cases h), St.ownNil _ _ h⟩
  by_cases g1 : k = 0
  ·refine r_v (q_moveI rfl) rfl ?_
   refine r_v (q_is (v' := .bool true) (q_eql rfl rfl) (by rw [g1]; rfl)) rfl ?_
   refine r_v (q_moveB rfl) rfl ?_; (first | refine r_gd rfl rfl ?_ | refine r_gn rfl rfl rfl ?_ | refine r_gu rfl rfl ?_ | refine r_gd rfl (by assumption) ?_ | refine r_gn rfl (by assumption) rfl ?_); (first | refine r_gd rfl rfl ?_ | refine r_gn rfl rfl rfl ?_ | refine r_gu rfl rfl ?_ | refine r_gd rfl (by assumption) ?_ | refine r_gn rfl (by assumption) rfl ?_); (first | refine r_v (q_pick1 rfl rfl rfl) rfl ?_ | refine r_v (q_pick0 rfl rfl rfl) rfl ?_ | refine r_v (q_pick1 rfl (by assumption) rfl) rfl ?_ | refine r_v (q_pick0 rfl (by assumption) rfl) rfl ?_ | refine r_v (q_pickB rfl rfl rfl) rfl ?_); refine r_v (q_moveB rfl) rfl ?_; (first | refine r_gd rfl rfl ?_ | refine r_gn rfl rfl rfl ?_ | refine r_gu rfl rfl ?_ | refine r_gd rfl (by assumption) ?_ | refine r_gn rfl (by assumption) rfl ?_); (first | refine r_gd rfl rfl ?_ | refine r_gn rfl rfl rfl ?_ | refine r_gu rfl rfl ?_ | refine r_gd rfl (by assumption) ?_ | refine r_gn rfl (by assumption) rfl ?_); (first | refine r_v (q_pick1 rfl rfl rfl) rfl ?_ | refine r_v (q_pick0 rfl rfl rfl) rfl ?_ | refine r_v (q_pick1 rfl (by assumption) rfl) rfl ?_ | refine r_v (q_pick0 rfl (by assumption) rfl) rfl ?_ | refine r_v (q_pickB rfl rfl rfl) rfl ?_); refine r_v (q_moveB rfl) rfl ?_; (first | refine r_gd rfl rfl ?_ | refine r_gn rfl rfl rfl ?_ | refine r_gu rfl rfl ?_ | refine r_gd rfl (by assumption) ?_ | refine r_gn rfl (by assumption) rfl ?_); (first | refine r_gd rfl rfl ?_ | refine r_gn rfl rfl rfl ?_ | refine r_gu rfl rfl ?_ | refine r_gd rfl (by assumption) ?_ | refine r_gn rfl (by assumption) rfl ?_); (first | refine r_gd rfl rfl ?_ | refine r_gn rfl rfl rfl ?_ | refine r_gu rfl rfl ?_ | refine r_gd rfl (by assumption) ?_ | refine r_gn rfl (by assumption) rfl ?_); (first | refine r_gd rfl rfl ?_ | refine r_gn rfl rfl rfl ?_ | refine r_gu rfl rfl ?_ | refine r_gd rfl (by assumption) ?_ | refine r_gn rfl (by assumption) rfl ?_); (first | refine r_gd rfl rfl ?_ | refine r_gn rfl rfl rfl ?_ | refine r_gu rfl rfl ?_ | refine r_gd rfl (by assumption) ?_ | refine r_gn rfl (by assumption) rfl ?_); (first | refine r_gd rfl rfl ?_ | refine r_gn rfl rfl rfl ?_ | refine r_gu rfl rfl ?_ | refine r_gd rfl (by assumption) ?_ | refine r_gn rfl (by assumption) rfl ?_); (first | refine r_gd rfl rfl ?_ | refine r_gn rfl rfl rfl ?_ | refine r_gu rfl rfl ?_ | refine r_gd rfl (by assumption) ?_ | refine r_gn rfl (by assumption) rfl ?_); (first | refine r_v (q_pick1 rfl rfl rfl) rfl ?_ | refine r_v (q_pick0 rfl rfl rfl) rfl ?_ | refine r_v (q_pick1 rfl (by assumption) rfl) rfl ?_ | refine r_v (q_pick0 rfl (by assumption) rfl) rfl ?_ | refine r_v (q_pickB rfl rfl rfl) rfl ?_)
   refine r_nil (c_true rfl ?_)
   refine c_seq (c_region ?_)
   refine r_v (q_assignS rfl) rfl ?_; refine r_v (q_assignB rfl) rfl ?_
   exact r_nil (c_ret (bq2 (bad (.inl g1) h)))
  refine r_v (q_moveI rfl) rfl ?_
  refine r_v (q_is (v' := .bool false) (q_eql rfl rfl) (by congr 1; rw [beq_eq_false_iff_ne]; omega)) rfl ?_
  by_cases g2 : n < 0
  ·refine r_v (q_moveB rfl) rfl ?_; (first | refine r_gd rfl rfl ?_ | refine r_gn rfl rfl rfl ?_ | refine r_gu rfl rfl ?_ | refine r_gd rfl (by assumption) ?_ | refine r_gn rfl (by assumption) rfl ?_); refine r_v (q_moveI rfl) rfl ?_; (first | refine r_gd rfl rfl ?_ | refine r_gn rfl rfl rfl ?_ | refine r_gu rfl rfl ?_ | refine r_gd rfl (by assumption) ?_ | refine r_gn rfl (by assumption) rfl ?_)
   refine r_v (q_is (v' := .bool true) (q_lss rfl rfl) (by congr 1; simpa using g2)) rfl ?_
   (first | refine r_v (q_pick1 rfl rfl rfl) rfl ?_ | refine r_v (q_pick0 rfl rfl rfl) rfl ?_ | refine r_v (q_pick1 rfl (by assumption) rfl) rfl ?_ | refine r_v (q_pick0 rfl (by assumption) rfl) rfl ?_ | refine r_v (q_pickB rfl rfl rfl) rfl ?_); refine r_v (q_moveB rfl) rfl ?_; (first | refine r_gd rfl rfl ?_ | refine r_gn rfl rfl rfl ?_ | refine r_gu rfl rfl ?_ | refine r_gd rfl (by assumption) ?_ | refine r_gn rfl (by assumption) rfl ?_); (first | refine r_gd rfl rfl ?_ | refine r_gn rfl rfl rfl ?_ | refine r_gu rfl rfl ?_ | refine r_gd rfl (by assumption) ?_ | refine r_gn rfl (by assumption) rfl ?_); (first | refine r_v (q_pick1 rfl rfl rfl) rfl ?_ | refine r_v (q_pick0 rfl rfl rfl) rfl ?_ | refine r_v (q_pick1 rfl (by assumption) rfl) rfl ?_ | refine r_v (q_pick0 rfl (by assumption) rfl) rfl ?_ | refine r_v (q_pickB rfl rfl rfl) rfl ?_); refine r_v (q_moveB rfl) rfl ?_; (first | refine r_gd rfl rfl ?_ | refine r_gn rfl rfl rfl ?_ | refine r_gu rfl rfl ?_ | refine r_gd rfl (by assumption) ?_ | refine r_gn rfl (by assumption) rfl ?_); (first | refine r_gd rfl rfl ?_ | refine r_gn rfl rfl rfl ?_ | refine r_gu rfl rfl ?_ | refine r_gd rfl (by assumption) ?_ | refine r_gn rfl (by assumption) rfl ?_); (first | refine r_gd rfl rfl ?_ | refine r_gn rfl rfl rfl ?_ | refine r_gu rfl rfl ?_ | refine r_gd rfl (by assumption) ?_ | refine r_gn rfl (by assumption) rfl ?_); (first | refine r_gd rfl rfl ?_ | refine r_gn rfl rfl rfl ?_ | refine r_gu rfl rfl ?_ | refine r_gd rfl (by assumption) ?_ | refine r_gn rfl (by assumption) rfl ?_); (first | refine r_gd rfl rfl ?_ | refine r_gn rfl rfl rfl ?_ | refine r_gu rfl rfl ?_ | refine r_gd rfl (by assumption) ?_ | refine r_gn rfl (by assumption) rfl ?_); (first | refine r_gd rfl rfl ?_ | refine r_gn rfl rfl rfl ?_ | refine r_gu rfl rfl ?_ | refine r_gd rfl (by assumption) ?_ | refine r_gn rfl (by assumption) rfl ?_); (first | refine r_gd rfl rfl ?_ | refine r_gn rfl rfl rfl ?_ | refine r_gu rfl rfl ?_ | refine r_gd rfl (by assumption) ?_ | refine r_gn rfl (by assumption) rfl ?_); (first | refine r_v (q_pick1 rfl rfl rfl) rfl ?_ | refine r_v (q_pick0 rfl rfl rfl) rfl ?_ | refine r_v (q_pick1 rfl (by assumption) rfl) rfl ?_ | refine r_v (q_pick0 rfl (by assumption) rfl) rfl ?_ | refine r_v (q_pickB rfl rfl rfl) rfl ?_)
   refine r_nil (c_true rfl ?_)
   refine c_seq (c_region ?_)
   refine r_v (q_assignS rfl) rfl ?_; refine r_v (q_assignB rfl) rfl ?_
   exact r_nil (c_ret (bq2 (bad (.inr (.inl g2)) h)))
  refine r_v (q_moveB rfl) rfl ?_; (first | refine r_gd rfl rfl ?_ | refine r_gn rfl rfl rfl ?_ | refine r_gu rfl rfl ?_ | refine r_gd rfl (by assumption) ?_ | refine r_gn rfl (by assumption) rfl ?_); refine r_v (q_moveI rfl) rfl ?_; (first | refine r_gd rfl rfl ?_ | refine r_gn rfl rfl rfl ?_ | refine r_gu rfl rfl ?_ | refine r_gd rfl (by assumption) ?_ | refine r_gn rfl (by assumption) rfl ?_)
  refine r_v (q_is (v' := .bool false) (q_lss rfl rfl) (by congr 1; simpa using g2)) rfl ?_
  by_cases g3 : 65535 < n
  ·(first | refine r_v (q_pick1 rfl rfl rfl) rfl ?_ | refine r_v (q_pick0 rfl rfl rfl) rfl ?_ | refine r_v (q_pick1 rfl (by assumption) rfl) rfl ?_ | refine r_v (q_pick0 rfl (by assumption) rfl) rfl ?_ | refine r_v (q_pickB rfl rfl rfl) rfl ?_); refine r_v (q_moveB rfl) rfl ?_; (first | refine r_gd rfl rfl ?_ | refine r_gn rfl rfl rfl ?_ | refine r_gu rfl rfl ?_ | refine r_gd rfl (by assumption) ?_ | refine r_gn rfl (by assumption) rfl ?_); refine r_v (q_moveI rfl) rfl ?_; (first | refine r_gd rfl rfl ?_ | refine r_gn rfl rfl rfl ?_ | refine r_gu rfl rfl ?_ | refine r_gd rfl (by assumption) ?_ | refine r_gn rfl (by assumption) rfl ?_)
   refine r_v (q_is (v' := .bool true) (q_gtr rfl rfl) (by congr 1; simpa using g3)) rfl ?_
   (first | refine r_v (q_pick1 rfl rfl rfl) rfl ?_ | refine r_v (q_pick0 rfl rfl rfl) rfl ?_ | refine r_v (q_pick1 rfl (by assumption) rfl) rfl ?_ | refine r_v (q_pick0 rfl (by assumption) rfl) rfl ?_ | refine r_v (q_pickB rfl rfl rfl) rfl ?_); refine r_v (q_moveB rfl) rfl ?_; (first | refine r_gd rfl rfl ?_ | refine r_gn rfl rfl rfl ?_ | refine r_gu rfl rfl ?_ | refine r_gd rfl (by assumption) ?_ | refine r_gn rfl (by assumption) rfl ?_); (first | refine r_gd rfl rfl ?_ | refine r_gn rfl rfl rfl ?_ | refine r_gu rfl rfl ?_ | refine r_gd rfl (by assumption) ?_ | refine r_gn rfl (by assumption) rfl ?_); (first | refine r_gd rfl rfl ?_ | refine r_gn rfl rfl rfl ?_ | refine r_gu rfl rfl ?_ | refine r_gd rfl (by assumption) ?_ | refine r_gn rfl (by assumption) rfl ?_); (first | refine r_gd rfl rfl ?_ | refine r_gn rfl rfl rfl ?_ | refine r_gu rfl rfl ?_ | refine r_gd rfl (by assumption) ?_ | refine r_gn rfl (by assumption) rfl ?_); (first | refine r_gd rfl rfl ?_ | refine r_gn rfl rfl rfl ?_ | refine r_gu rfl rfl ?_ | refine r_gd rfl (by assumption) ?_ | refine r_gn rfl (by assumption) rfl ?_); (first | refine r_gd rfl rfl ?_ | refine r_gn rfl rfl rfl ?_ | refine r_gu rfl rfl ?_ | refine r_gd rfl (by assumption) ?_ | refine r_gn rfl (by assumption) rfl ?_); (first | refine r_gd rfl rfl ?_ | refine r_gn rfl rfl rfl ?_ | refine r_gu rfl rfl ?_ | refine r_gd rfl (by assumption) ?_ | refine r_gn rfl (by assumption) rfl ?_); (first | refine r_v (q_pick1 rfl rfl rfl) rfl ?_ | refine r_v (q_pick0 rfl rfl rfl) rfl ?_ | refine r_v (q_pick1 rfl (by assumption) rfl) rfl ?_ | refine r_v (q_pick0 rfl (by assumption) rfl) rfl ?_ | refine r_v (q_pickB rfl rfl rfl) rfl ?_)
   refine r_nil (c_true rfl ?_)
   refine c_seq (c_region ?_)
   refine r_v (q_assignS rfl) rfl ?_; refine r_v (q_assignB rfl) rfl ?_
   exact r_nil (c_ret (bq2 (bad (.inr (.inr (.inl g3))) h)))
  (first | refine r_v (q_pick1 rfl rfl rfl) rfl ?_ | refine r_v (q_pick0 rfl rfl rfl) rfl ?_ | refine r_v (q_pick1 rfl (by assumption) rfl) rfl ?_ | refine r_v (q_pick0 rfl (by assumption) rfl) rfl ?_ | refine r_v (q_pickB rfl rfl rfl) rfl ?_); refine r_v (q_moveB rfl) rfl ?_; (first | refine r_gd rfl rfl ?_ | refine r_gn rfl rfl rfl ?_ | refine r_gu rfl rfl ?_ | refine r_gd rfl (by assumption) ?_ | refine r_gn rfl (by assumption) rfl ?_); refine r_v (q_moveI rfl) rfl ?_; (first | refine r_gd rfl rfl ?_ | refine r_gn rfl rfl rfl ?_ | refine r_gu rfl rfl ?_ | refine r_gd rfl (by assumption) ?_ | refine r_gn rfl (by assumption) rfl ?_)
  refine r_v (q_is (v' := .bool false) (q_gtr rfl rfl) (by congr 1; simpa using g3)) rfl ?_
  (first | refine r_v (q_pick1 rfl rfl rfl) rfl ?_ | refine r_v (q_pick0 rfl rfl rfl) rfl ?_ | refine r_v (q_pick1 rfl (by assumption) rfl) rfl ?_ | refine r_v (q_pick0 rfl (by assumption) rfl) rfl ?_ | refine r_v (q_pickB rfl rfl rfl) rfl ?_); refine r_v (q_moveB rfl) rfl ?_; (first | refine r_gd rfl rfl ?_ | refine r_gn rfl rfl rfl ?_ | refine r_gu rfl rfl ?_ | refine r_gd rfl (by assumption) ?_ | refine r_gn rfl (by assumption) rfl ?_); refine r_v (q_moveI rfl) rfl ?_; (first | refine r_gd rfl rfl ?_ | refine r_gn rfl rfl rfl ?_ | refine r_gu rfl rfl ?_ | refine r_gd rfl (by assumption) ?_ | refine r_gn rfl (by assumption) rfl ?_); refine r_v (q_moveS rfl) rfl ?_; (first | refine r_gd rfl rfl ?_ | refine r_gn rfl rfl rfl ?_ | refine r_gu rfl rfl ?_ | refine r_gd rfl (by assumption) ?_ | refine r_gn rfl (by assumption) rfl ?_); refine r_v (q_len rfl) rfl ?_; (first | refine r_gd rfl rfl ?_ | refine r_gn rfl rfl rfl ?_ | refine r_gu rfl rfl ?_ | refine r_gd rfl (by assumption) ?_ | refine r_gn rfl (by assumption) rfl ?_); refine r_v (q_moveI rfl) rfl ?_; (first | refine r_gd rfl rfl ?_ | refine r_gn rfl rfl rfl ?_ | refine r_gu rfl rfl ?_ | refine r_gd rfl (by assumption) ?_ | refine r_gn rfl (by assumption) rfl ?_)
  refine r_v (q_is (v' := .int .i64 ((bs.length - k : Nat) : Int)) (q_sub rfl rfl) (by rw [wrap64 (by omega) (by omega)]; congr 1; omega)) rfl ?_
  refine r_gd rfl rfl ?_
  refine r_v (q_is (v' := .int .u64 ((bs.length - k : Nat) : Int)) (q_conv rfl) (congrArg (Value.int .u64) (conv_nat (by omega)))) rfl ?_
  (first | refine r_gd rfl rfl ?_ | refine r_gn rfl rfl rfl ?_ | refine r_gu rfl rfl ?_ | refine r_gd rfl (by assumption) ?_ | refine r_gn rfl (by assumption) rfl ?_); refine r_v (q_gtr rfl rfl) rfl ?_; (first | refine r_v (q_pick1 rfl rfl rfl) rfl ?_ | refine r_v (q_pick0 rfl rfl rfl) rfl ?_ | refine r_v (q_pick1 rfl (by assumption) rfl) rfl ?_ | refine r_v (q_pick0 rfl (by assumption) rfl) rfl ?_ | refine r_v (q_pickB rfl rfl rfl) rfl ?_)
  refine r_nil (c_cond (decide ((size : Int) > ((bs.length - k : Nat) : Int))) rfl (fun hc1 => ?_) (fun hc1 => ?_))
  ·
   refine c_seq (c_region ?_)
   refine r_v (q_assignS rfl) rfl ?_; refine r_v (q_assignB rfl) rfl ?_
   exact r_nil (c_ret (bq2 (bad (.inr (.inr (.inr (by simp at hc1; omega)))) h)))
  ·exact c_skip ⟨(), ⟨rfl, rfl, rfl, rfl, rfl, trivial⟩, by simp at hc1; omega, h⟩
 clear h
 rintro _ w e ⟨hcond, h⟩
 rw [if_neg hcond] at hdef
 obtain ⟨n, rfl⟩ := Int.eq_ofNat_of_zero_le (show 0 ≤ n by omega)
 have hn16 : n ≤ 65535 := by omega
 have hsk : k + size ≤ bs.length := by omega
 rw [show ((n : Nat) : Int).toNat = n from rfl] at hdef
 refine c_seq (c_region ?_)
 refine r_v (q_moveI rfl) rfl ?_; refine r_v (q_moveI rfl) rfl ?_; refine r_v (q_conv rfl) rfl ?_
 refine r_is (.int .i64 (size : Int)) (by rw [wrap64 (by omega) (by omega)]) ?_
 refine r_v (q_add rfl rfl) rfl ?_
 refine r_is (.int .i64 ((k + size : Nat) : Int)) (by rw [wrap64 (by omega) (by omega)]; rfl) ?_
 refine r_v (q_assignI rfl) rfl ?_
 refine r_nil ?_
 refine c_seq (c_region ?_)
 refine r_v (q_moveS rfl) rfl ?_; refine r_v (q_moveI rfl) rfl ?_; refine r_v (q_moveI rfl) rfl ?_
 refine r_v (q_cut rfl rfl rfl (by omega) (by omega)) rfl ?_
 have hrc := Reads.cut hr (i := k) (j := k + size) (by omega) (by omega) hc
 have hpl : ((bs.drop k).take size).length = k + size - k := by rw [List.length_take, List.length_drop]; omega
 have hrc' : Reads w0 l 1 (adv sl (k * 1) (Nat.beq c k)) ((bs.drop k).take size).length (bytesV ((bs.drop k).take size)) := by
  rw [hpl]
  have : bytesV ((bs.drop k).take size) = ((bytesV bs).drop (k * 1)).take ((k + size - k) * 1) := by
   unfold bytesV
   rw [List.map_take, List.map_drop]
   congr 1
   ·omega
   ·congr 1; omega
  rw [this]
  exact hrc
 show Rn _ _ _ _ _ (upd _ _ (.slice (adv sl (k * 1) (Nat.beq c k)) (k + size - k) (c - k))) _
 rw [← hpl]
 refine r_c rfl (x_call rfl (bits_NewReader h hrc'.rd (by rw [hpl]; omega)) ?_)
 rintro _ w ⟨p, rfl, h⟩
 refine r_v (q_moveI rfl) rfl ?_
 refine r_c rfl (x_call rfl (time_Decode n h) ?_)
 rw [askN_nat hn16]
 intro v w hv
 have hv : ∃ a c' ts ok, v = .tuple [.slice a ts.length c', .bool ok].toArray ∧ (ok = true → ∃ s', timesDec n ⟨bitsB ((bs.drop k).take size), false⟩ = some (ts, s')) ∧ (ok = false → timesDec n ⟨bitsB ((bs.drop k).take size), false⟩ = none) ∧ ∃ s', St w0 (OwnT64 a c' ts :: IsBR p s' :: l) w := by
  rcases hv with ⟨h1, rfl, s', h⟩ | ⟨x, a, c', h1, rfl, h⟩
  ·exact ⟨none, 0, [], false, rfl, (fun h => by cases h), fun _ => h1, s', St.ownNil _ _ h⟩
  ·exact ⟨a, c', x.1, true, rfl, fun _ => ⟨x.2, h1⟩, (fun h => by cases h), x.2, h⟩
 clear h
 obtain ⟨ta, tc, ts, ok1, rfl, ht1, ht2, s', h⟩ := hv
 refine r_v (q_moveT rfl) rfl ?_; refine r_v (q_ext rfl rfl) rfl ?_; refine r_v (q_ext rfl rfl) rfl ?_; refine r_v (q_assignS rfl) rfl ?_; refine r_v (q_assignB rfl) rfl ?_
 refine r_nil ?_
 refine c_seq (c_region ?_)
 refine r_v (q_moveI rfl) rfl ?_; refine r_v (q_moveS rfl) rfl ?_; refine r_v (q_moveI rfl) rfl ?_
 refine r_v (q_tail (i := k + size) rfl rfl hsk) rfl ?_
 have hrt : Reads w0 l 1 (adv sl ((k + size) * 1) (Nat.beq c (k + size))) (bs.drop (k + size)).length (bytesV (bs.drop (k + size))) := by
  have := Reads.tail hr (i := k + size) hsk hc
  rw [List.length_drop]
  have e1 : bytesV (bs.drop (k + size)) = (bytesV bs).drop ((k + size) * 1) := by
   unfold bytesV
   rw [List.map_drop]
   congr 1; omega
  rw [e1]
  exact this
 show Rn _ _ _ _ _ (upd _ _ (.slice (adv sl ((k + size) * 1) (Nat.beq c (k + size))) (bs.length - (k + size)) (c - (k + size)))) _
 rw [← List.length_drop]
 refine r_v (q_moveI rfl) rfl ?_
 refine r_c rfl (x_call rfl (hread hT (hrt.more [_, _]) (by rw [List.length_drop]; omega) (by rw [List.length_drop]; omega) hn16 h) ?_)
 rintro _ w ⟨va, vc, vs, ok2, rfl, hv1, hv2, h⟩
 refine r_v (q_moveT rfl) rfl ?_; refine r_v (q_ext rfl rfl) rfl ?_; refine r_v (q_ext rfl rfl) rfl ?_; refine r_v (q_assignS rfl) rfl ?_; refine r_v (q_assignB rfl) rfl ?_
 refine r_nil ?_
 refine c_cut (Γ := Unit) (fun _ => [(0, .int .i64 tag), (1, .slice sl bs.length c), (2, .int .i64 n), (11, .slice ta ts.length tc), (13, .slice va vs.length vc)]) (fun _ w => ok1 = true ∧ ok2 = true ∧ St w0 (OwnU va vc vs :: OwnT64 ta tc ts :: IsBR p s' :: l) w) ?_ ?_
 ·have bad : ∀ {w : World}, (ok1 = false ∨ ok2 = false) → St w0 (OwnU va vc vs :: OwnT64 ta tc ts :: IsBR p s' :: l) w → ∃ a c', Value.tuple [.slice none 0 0, .bool false].toArray = .tuple [.slice a ((suitDec tag bs n).getD []).length c', .bool (suitDec tag bs n).isSome].toArray ∧ (∀ L, suitDec tag bs n = some L → (L.length : Int) = n ∧ ∀ s ∈ L, s.Wf) ∧ St w0 (OwnS a c' ((suitDec tag bs n).getD []) :: l) w := fun hb h => by
   have : suitDec tag bs n = none := by
    rw [hdef]
    rcases hb with hb | hb
    ·rw [ht2 hb]
    ·rw [hb, if_neg (by decide)] at hv1
     rw [hv1]
     cases timesDec n ⟨bitsB ((bs.drop k).take size), false⟩ <;> rfl
   rw [this]
   exact ⟨none, 0, rfl, (fun _ h => by cases h), St.ownNil _ _ h.drop.drop.drop⟩
  refine c_seq (c_region ?_)
  cases ok1 with
  | false =>
   refine r_v (q_moveB rfl) rfl ?_; refine r_v (q_not rfl) rfl ?_; refine r_v (q_moveB rfl) rfl ?_; (first | refine r_gd rfl rfl ?_ | refine r_gn rfl rfl rfl ?_ | refine r_gu rfl rfl ?_ | refine r_gd rfl (by assumption) ?_ | refine r_gn rfl (by assumption) rfl ?_); (first | refine r_gd rfl rfl ?_ | refine r_gn rfl rfl rfl ?_ | refine r_gu rfl rfl ?_ | refine r_gd rfl (by assumption) ?_ | refine r_gn rfl (by assumption) rfl ?_); (first | refine r_v (q_pick1 rfl rfl rfl) rfl ?_ | refine r_v (q_pick0 rfl rfl rfl) rfl ?_ | refine r_v (q_pick1 rfl (by assumption) rfl) rfl ?_ | refine r_v (q_pick0 rfl (by assumption) rfl) rfl ?_ | refine r_v (q_pickB rfl rfl rfl) rfl ?_)
   refine r_nil (c_true rfl ?_)
   refine c_seq (c_region ?_)
   refine r_v (q_assignS rfl) rfl ?_; refine r_v (q_assignB rfl) rfl ?_
   exact r_nil (c_ret (bq2 (bad (.inl rfl) h)))
  | true =>
   refine r_v (q_moveB rfl) rfl ?_; refine r_v (q_not rfl) rfl ?_; refine r_v (q_moveB rfl) rfl ?_; (first | refine r_gd rfl rfl ?_ | refine r_gn rfl rfl rfl ?_ | refine r_gu rfl rfl ?_ | refine r_gd rfl (by assumption) ?_ | refine r_gn rfl (by assumption) rfl ?_); refine r_v (q_moveB rfl) rfl ?_; (first | refine r_gd rfl rfl ?_ | refine r_gn rfl rfl rfl ?_ | refine r_gu rfl rfl ?_ | refine r_gd rfl (by assumption) ?_ | refine r_gn rfl (by assumption) rfl ?_); refine r_v (q_not rfl) rfl ?_; (first | refine r_v (q_pick1 rfl rfl rfl) rfl ?_ | refine r_v (q_pick0 rfl rfl rfl) rfl ?_ | refine r_v (q_pick1 rfl (by assumption) rfl) rfl ?_ | refine r_v (q_pick0 rfl (by assumption) rfl) rfl ?_ | refine r_v (q_pickB rfl rfl rfl) rfl ?_)
   cases ok2 with
   | false =>
    refine r_nil (c_true rfl ?_)
    refine c_seq (c_region ?_)
    refine r_v (q_assignS rfl) rfl ?_; refine r_v (q_assignB rfl) rfl ?_
    exact r_nil (c_ret (bq2 (bad (.inr rfl) h)))
   | true =>
    refine r_nil (c_false rfl ?_)
    exact c_skip ⟨(), ⟨rfl, rfl, rfl, rfl, rfl, trivial⟩, rfl, rfl, h⟩
 clear h
 rintro _ w e ⟨rfl, rfl, h⟩
 obtain ⟨s2, ht⟩ := ht1 rfl
 obtain ⟨hvl, hvlt⟩ := hv2 rfl
 rw [if_pos rfl] at hv1
 rw [ht, hv1] at hdef
 dsimp only at hdef
 have htl : ts.length = n := timesDec_len ht
 have hti : ∀ t ∈ ts, I64 t := timesDec_i64 ht
 have hzl : (zipS ts vs).length = n := by rw [zipS_len _ _ (by omega), htl]
 have hzw := zipS_wf ts vs hti hvlt
 refine c_seq (c_region ?_)
 refine r_v (q_assignS rfl) rfl ?_
 refine r_nil ?_
 refine c_seq (c_seq (c_region ?_))
 refine r_v (q_moveI rfl) rfl ?_; refine r_v (q_moveI rfl) rfl ?_
 refine r_nil ?_
 refine c_block ?_
 refine c_loop (Γ := Nat × Option Addr × Nat) (fun k => [(0, .int .i64 tag), (1, .slice sl bs.length c), (11, .slice ta ts.length tc), (13, .slice va vs.length vc), (15, .slice k.2.1 (zipS (ts.take k.1) (vs.take k.1)).length k.2.2), (72, .int .i64 n), (73, .int .i64 k.1)])
  (fun k w => k.1 ≤ n ∧ St w0 (OwnS k.2.1 k.2.2 (zipS (ts.take k.1) (vs.take k.1)) :: OwnU va vc vs :: OwnT64 ta tc ts :: IsBR p s' :: l) w) (fun k => n - k.1) (0, none, 0) ⟨rfl, rfl, rfl, rfl, rfl, rfl, rfl, trivial⟩ ⟨Nat.zero_le _, St.ownNil _ _ h⟩ ?_
 clear h
 rintro ⟨i, a, c1⟩ w e ⟨hi, h⟩
 dsimp only at hi h ⊢
 refine c_seq (c_region ?_)
 refine r_v (q_lss rfl rfl) rfl ?_
 refine r_nil ?_
 refine c_seq (c_cond (decide ((i : Int) < (n : Int))) rfl (fun hc1 => ?_) (fun hc1 => ?_))
 ·
  have hlt : i < n := by simp at hc1; omega
  have hgt := List.getElem?_eq_getElem (show i < ts.length by omega)
  generalize ts[i]'(by omega) = t at hgt
  have hgv := List.getElem?_eq_getElem (show i < vs.length by omega)
  generalize vs[i]'(by omega) = x at hgv
  have hstep := zipS_snoc ts vs i t x hgt hgv
  have hzi : (zipS (ts.take i) (vs.take i)).length = i := by rw [zipS_len _ _ (by rw [take_len1 (by omega), take_len1 (by omega)]), take_len1 (by omega)]
  obtain ⟨bt, htsl⟩ := (h.f 2).own_some (by omega)
  obtain ⟨bv, hvsl⟩ := (h.f 1).own_some (by omega)
  refine c_skip ?_
  refine c_cut (Γ := Option Addr × Nat) (fun q => [(0, .int .i64 tag), (1, .slice sl bs.length c), (11, .slice ta ts.length tc), (13, .slice va vs.length vc), (15, .slice q.1 (zipS (ts.take (i + 1)) (vs.take (i + 1))).length q.2), (72, .int .i64 n), (73, .int .i64 i)])
   (fun q w => St w0 (OwnS q.1 q.2 (zipS (ts.take (i + 1)) (vs.take (i + 1))) :: OwnU va vc vs :: OwnT64 ta tc ts :: IsBR p s' :: l) w) ?_ ?_
  ·refine c_block ?_
   refine c_seq (c_region ?_)
   refine r_v (q_moveI rfl) rfl ?_; refine r_v (q_assignI rfl) rfl ?_
   refine r_nil ?_
   have hct : ∀ {w'}, (∃ L, St w0 (L ++ (OwnU va vc vs :: OwnT64 ta tc ts :: IsBR p s' :: l)) w') → w'.cell? ⟨bt, i, none⟩ = some (.int .i64 t) := fun ⟨L, h'⟩ => by
    have := (htsl ▸ (h'.drops.f 1).own_rd).cell (i64V_get hgt); simpa using this
   have hcv : ∀ {w'}, (∃ L, St w0 (L ++ (OwnU va vc vs :: OwnT64 ta tc ts :: IsBR p s' :: l)) w') → w'.cell? ⟨bv, i, none⟩ = some (.int .u64 x) := fun ⟨L, h'⟩ => by
    have := (hvsl ▸ (h'.drops.f 0).own_rd).cell (u64V_get hgv); simpa using this
   refine c_anyW [0, 1, 2, 3, 4, 5, 6, 7, 8, 9, 10, 11, 12] none (fun w => ∃ L, St w0 (L ++ (OwnU va vc vs :: OwnT64 ta tc ts :: IsBR p s' :: l)) w) (by kernel_rfl) (by kernel_rfl) ?_
   replace h := h.drew
   generalize w.drew = w at h
   have hs := h
   replace h : ∃ L, St w0 (L ++ (OwnU va vc vs :: OwnT64 ta tc ts :: IsBR p s' :: l)) w := ⟨[_], hs⟩
   refine cur_pure rfl rfl rfl rfl (fun _ => h) (fun _ => flt_v rfl (q_moveS rfl)) ?_; refine cur_pure rfl rfl rfl rfl (fun _ => h) (fun _ => flt_v rfl (q_moveS rfl)) ?_; refine cur_pure rfl rfl rfl rfl (fun _ => h) (fun _ => flt_v rfl (q_moveI rfl)) ?_
   refine cur_pure rfl rfl rfl rfl (fun _ => h) (fun _ => flt_v rfl (q_idx (b := bt) (o := 0) (m := ts.length) (c := tc) (j := i) (o' := i) (by rw [← htsl]; rfl) rfl rfl (by omega) (by simp))) ?_
   refine cur_float rfl rfl rfl rfl h (fun w h => flt_v rfl (q_loadc (v := .int .i64 t) rfl (hct h))) ?_
   refine cur_pure rfl rfl rfl rfl (fun _ => h) (fun _ => flt_v rfl (q_moveS rfl)) ?_; refine cur_pure rfl rfl rfl rfl (fun _ => h) (fun _ => flt_v rfl (q_moveI rfl)) ?_
   refine cur_pure rfl rfl rfl rfl (fun _ => h) (fun _ => flt_v rfl (q_idx (b := bv) (o := 0) (m := vs.length) (c := vc) (j := i) (o' := i) (by rw [← hvsl]; rfl) rfl rfl (by omega) (by simp))) ?_
   refine cur_float rfl rfl rfl rfl h (fun w h => flt_v rfl (q_loadc (v := .int .u64 x) rfl (hcv h))) ?_
   refine cur_pure rfl rfl rfl rfl (fun _ => h) (fun _ => flt_v rfl (q_build (r := (Smp.mk t x).cells) rfl)) ?_
   refine cur_skip ?_; refine cur_skip ?_; refine cur_skip ?_
   refine cur_one 10 rfl rfl rfl rfl ?_
   refine (x_bslice (r := smpsV [Smp.mk t x]) hs rfl rfl rfl fun b2 w hs => ?_)
   replace h : ∃ L, St w0 (L ++ (OwnU va vc vs :: OwnT64 ta tc ts :: IsBR p s' :: l)) w := ⟨[_, _], hs⟩
   refine ⟨fun _ => h, ?_⟩
   refine cur_skip ?_; refine cur_skip ?_
   refine cur_one 11 rfl rfl rfl rfl ?_
   refine (x_append' (ys := smpsV [Smp.mk t x]) (zs := smpsV (zipS (ts.take (i + 1)) (vs.take (i + 1)))) (m3 := (zipS (ts.take (i + 1)) (vs.take (i + 1))).length) (hs.f 1) rfl rfl ⟨rfl, .inr ⟨b2, 0, rfl, at_of (hs.b 0 rfl) rfl⟩⟩ (smps_one _) (by rw [hstep]; simp) (by rw [hstep]; simp [smpsV]) (by rw [hstep]; simp; omega) (by rw [hstep]; simp; omega) rfl fun a2 c2 w _ hs => ?_)
   replace h : ∃ L, St w0 (L ++ (OwnU va vc vs :: OwnT64 ta tc ts :: IsBR p s' :: l)) w := ⟨[_, _], hs⟩
   refine ⟨fun _ => h, ?_⟩
   refine cur_pure rfl rfl rfl rfl (fun _ => h) (fun _ => flt_v rfl (q_assignS rfl)) ?_
   exact cur_end ⟨(a2, c2), ⟨rfl, rfl, rfl, rfl, rfl, rfl, rfl, trivial⟩, (hs.f 1).drop⟩
  clear h
  rintro ⟨a, c1⟩ w e h
  dsimp only at h ⊢
  refine c_region ?_
  refine r_v (q_add rfl rfl) rfl ?_
  refine r_is (.int .i64 ((i + 1 : Nat) : Int)) (by rw [wrap64 (by omega) (by omega)]; rfl) ?_
  refine r_v (q_moveI rfl) rfl ?_
  exact r_nil ⟨(i + 1, a, c1), ⟨rfl, rfl, rfl, rfl, rfl, rfl, rfl, trivial⟩, ⟨hlt, h⟩, by dsimp only; omega⟩
 have hin : i = n := by simp at hc1; omega
 refine c_exit ?_
 have hz : zipS (ts.take i) (vs.take i) = zipS ts vs := by rw [hin, List.take_of_length_le (by omega), List.take_of_length_le (by omega)]
 rw [hz] at h ⊢
 refine c_seq (c_region ?_)
 refine r_v (q_moveI rfl) rfl ?_; refine r_v (q_moveS rfl) rfl ?_
 refine r_c rfl (x_call rfl (suit_Encode hT tag hzw (by omega) Reads.own h) ?_)
 rintro _ w ⟨a2, c2, rfl, h⟩
 refine r_v (q_moveT rfl) rfl ?_; refine r_v (q_ext rfl rfl) rfl ?_; refine r_v (q_ext rfl rfl) rfl ?_; refine r_v (q_assignS rfl) rfl ?_; refine r_v (q_assignB rfl) rfl ?_
 refine r_nil ?_
 replace h : St w0 (OwnB a2 c2 ((suitEnc tag (zipS ts vs)).getD []) :: OwnS a c1 (zipS ts vs) :: l) w := (((h.f 2).drop.f 2).drop.f 2).drop
 have bad : ∀ {w : World}, suitEnc tag (zipS ts vs) ≠ some bs → St w0 l w → ∃ a c', Value.tuple [.slice none 0 0, .bool false].toArray = .tuple [.slice a ((suitDec tag bs n).getD []).length c', .bool (suitDec tag bs n).isSome].toArray ∧ (∀ L, suitDec tag bs n = some L → (L.length : Int) = n ∧ ∀ s ∈ L, s.Wf) ∧ St w0 (OwnS a c' ((suitDec tag bs n).getD []) :: l) w := fun hb h => by
  rw [if_neg hb] at hdef
  rw [hdef]
  exact ⟨none, 0, rfl, (fun _ h => by cases h), St.ownNil _ _ h⟩
 refine c_cut (Γ := Unit) (fun _ => [(15, .slice a (zipS ts vs).length c1)]) (fun _ w => suitEnc tag (zipS ts vs) = some bs ∧ St w0 (OwnS a c1 (zipS ts vs) :: l) w) ?_ ?_
 ·refine c_seq (c_region ?_)
  cases hE : suitEnc tag (zipS ts vs) with
  | none =>
   rw [hE] at h
   refine r_v (q_moveB rfl) rfl ?_; refine r_v (q_not rfl) rfl ?_; refine r_v (q_moveB rfl) rfl ?_; (first | refine r_gd rfl rfl ?_ | refine r_gn rfl rfl rfl ?_ | refine r_gu rfl rfl ?_ | refine r_gd rfl (by assumption) ?_ | refine r_gn rfl (by assumption) rfl ?_); (first | refine r_gd rfl rfl ?_ | refine r_gn rfl rfl rfl ?_ | refine r_gu rfl rfl ?_ | refine r_gd rfl (by assumption) ?_ | refine r_gn rfl (by assumption) rfl ?_); (first | refine r_gd rfl rfl ?_ | refine r_gn rfl rfl rfl ?_ | refine r_gu rfl rfl ?_ | refine r_gd rfl (by assumption) ?_ | refine r_gn rfl (by assumption) rfl ?_); (first | refine r_gd rfl rfl ?_ | refine r_gn rfl rfl rfl ?_ | refine r_gu rfl rfl ?_ | refine r_gd rfl (by assumption) ?_ | refine r_gn rfl (by assumption) rfl ?_); (first | refine r_v (q_pick1 rfl rfl rfl) rfl ?_ | refine r_v (q_pick0 rfl rfl rfl) rfl ?_ | refine r_v (q_pick1 rfl (by assumption) rfl) rfl ?_ | refine r_v (q_pick0 rfl (by assumption) rfl) rfl ?_ | refine r_v (q_pickB rfl rfl rfl) rfl ?_)
   refine r_nil (c_true rfl ?_)
   refine c_seq (c_region ?_)
   refine r_v (q_assignS rfl) rfl ?_; refine r_v (q_assignB rfl) rfl ?_
   exact r_nil (c_ret (bq2 (bad (by rw [hE]; simp) h.drop.drop)))
  | some d =>
   rw [hE] at h
   refine r_v (q_moveB rfl) rfl ?_; refine r_v (q_not rfl) rfl ?_; refine r_v (q_moveB rfl) rfl ?_; (first | refine r_gd rfl rfl ?_ | refine r_gn rfl rfl rfl ?_ | refine r_gu rfl rfl ?_ | refine r_gd rfl (by assumption) ?_ | refine r_gn rfl (by assumption) rfl ?_); refine r_v (q_moveS rfl) rfl ?_; (first | refine r_gd rfl rfl ?_ | refine r_gn rfl rfl rfl ?_ | refine r_gu rfl rfl ?_ | refine r_gd rfl (by assumption) ?_ | refine r_gn rfl (by assumption) rfl ?_); refine r_v (q_moveS rfl) rfl ?_; (first | refine r_gd rfl rfl ?_ | refine r_gn rfl rfl rfl ?_ | refine r_gu rfl rfl ?_ | refine r_gd rfl (by assumption) ?_ | refine r_gn rfl (by assumption) rfl ?_)
   refine r_c rfl (x_call rfl (bytes_Equal (b1 := d) (b2 := bs) h (fun w' h' => h'.own_rd) ((hr.more [_, _]).rd)) ?_)
   rintro _ w ⟨rfl, h⟩
   (first | refine r_gd rfl rfl ?_ | refine r_gn rfl rfl rfl ?_ | refine r_gu rfl rfl ?_ | refine r_gd rfl (by assumption) ?_ | refine r_gn rfl (by assumption) rfl ?_); refine r_v (q_not rfl) rfl ?_; (first | refine r_v (q_pick1 rfl rfl rfl) rfl ?_ | refine r_v (q_pick0 rfl rfl rfl) rfl ?_ | refine r_v (q_pick1 rfl (by assumption) rfl) rfl ?_ | refine r_v (q_pick0 rfl (by assumption) rfl) rfl ?_ | refine r_v (q_pickB rfl rfl rfl) rfl ?_)
   refine r_nil (c_cond (!decide (d = bs)) rfl (fun hc1 => ?_) (fun hc1 => ?_))
   ·refine c_seq (c_region ?_)
    refine r_v (q_assignS rfl) rfl ?_; refine r_v (q_assignB rfl) rfl ?_
    exact r_nil (c_ret (bq2 (bad (by rw [hE]; simpa using hc1) h.drop.drop)))
   ·exact c_skip ⟨(), ⟨rfl, trivial⟩, by simpa using hc1, h.drop⟩
 clear h
 rintro _ w e ⟨hE, h⟩
 rw [if_pos hE] at hdef
 rw [hdef]
 refine c_seq (c_region ?_)
 refine r_v (q_moveS rfl) rfl ?_; refine r_v (q_assignS rfl) rfl ?_; refine r_v (q_assignB rfl) rfl ?_
 refine r_nil ?_
 refine c_ret (bq2 ⟨a, c1, rfl, fun L hL => ?_, h⟩)
 cases hL
 exact ⟨by rw [hzl], hzw⟩
end
end Go.Proofs.YtjjacchnalemaaaGreatDoor

namespace Go.Hw
set_option maxRecDepth 100000
theorem wrap_u32 (x : Nat) : IntKind.u32.wrap (x : Int) = ((x % 4294967296 : Nat) : Int) := by
 unfold IntKind.wrap
 simp [IntKind.signed, IntKind.bits]
theorem bit_u32 {a b : Nat} (ha : a < 4294967296) (hb : b < 4294967296) :
  bitOp .and .u32 (a : Int) (b : Int) = ((a &&& b : Nat) : Int) ∧ bitOp .xor .u32 (a : Int) (b : Int) = ((a ^^^ b : Nat) : Int) := by
 have ha' : a % 2 ^ 32 = a := Nat.mod_eq_of_lt ha
 have hb' : b % 2 ^ 32 = b := Nat.mod_eq_of_lt hb
 have e : IntKind.u32.bits = 32 := rfl
 refine ⟨?_, ?_⟩ <;> unfold bitOp <;> simp only [e, BitVec.ofInt_natCast, BitVec.toNat_and, BitVec.toNat_xor, BitVec.toNat_ofNat, ha', hb', wrap_u32]
 ·rw [Nat.mod_eq_of_lt (Nat.and_lt_two_pow (n := 32) _ hb)]
 ·rw [Nat.mod_eq_of_lt (Nat.xor_lt_two_pow (n := 32) ha hb)]
def u32V (l : List Nat) : List Value := l.map fun (x : Nat) => .int .u32 (x : Int)
theorem u32V_len (l : List Nat) : (u32V l).length = l.length := by simp [u32V]
theorem u32V_get {l : List Nat} {j x : Nat} (h : l[j]? = some x) : (u32V l)[j]? = some (.int .u32 (x : Int)) := by simp [u32V, h]
def tabL (i : Nat) : List Nat := (List.range i).map crcByte ++ List.replicate (256 - i) 0
theorem tabL_len {i : Nat} (h : i ≤ 256) : (tabL i).length = 256 := by simp [tabL]; omega
theorem tabL_set {i : Nat} (h : i < 256) : (u32V (tabL i)).set i (.int .u32 (crcByte i : Int)) = u32V (tabL (i + 1)) := by
 have e : 256 - i = (256 - (i + 1)) + 1 := by omega
 have hl : (u32V ((List.range i).map crcByte)).length = i := by simp [u32V]
 have e1 : u32V (tabL i) = u32V ((List.range i).map crcByte) ++ (.int .u32 (0 : Nat)) :: u32V (List.replicate (256 - (i + 1)) 0) := by
  unfold tabL u32V
  rw [e, List.replicate_succ, List.map_append, List.map_cons]
 have e2 : u32V (tabL (i + 1)) = u32V ((List.range i).map crcByte) ++ (.int .u32 (crcByte i : Int)) :: u32V (List.replicate (256 - (i + 1)) 0) := by
  unfold tabL u32V
  rw [List.range_succ, List.map_append, List.map_append, List.map_append, List.append_assoc]
  rfl
 rw [e1, e2, List.set_append_right _ _ (by omega), hl, Nat.sub_self]
 rfl
def tabV : List Value := u32V (tabL 256)
theorem tabV_len : tabV.length = 256 := by unfold tabV; rw [u32V_len, tabL_len (Nat.le_refl _)]
theorem tabV_get {i : Nat} (h : i < 256) : tabV[i]? = some (.int .u32 (crcByte i : Int)) := by
 unfold tabV
 refine u32V_get ?_
 unfold tabL
 rw [List.getElem?_append_left (by simpa using h), List.getElem?_map, List.getElem?_range h]
 rfl
theorem tabV_one : tabV.all (·.oneCell') = true := by decide +kernel
end Go.Hw
namespace Go.Proofs.YtjjacchnalemaaaGreatDoor
open Go.Hw
set_option maxHeartbeats 4000000
set_option maxRecDepth 100000
instance undTab : Und Tryz.prog 88 (.array 256 86) := ⟨Tryz.underlying88⟩
section
variable {w0 w : World} {l : List HProp}
theorem crcc_Table (h : St w0 l w) : Ret Tryz.prog 53 [] w fun v w' => v = .agg tabV.toArray ∧ St w0 l w' := by
 refine enter Tryz.func53 rfl Tryz.results53 Tryz.ntmps53 rfl ?_
 refine c_seq (c_region ?_)
 refine r_c rfl (x_alloc h fun b0 w h => ?_)
 refine r_nil ?_
 refine c_seq (c_region ?_)
 refine r_c rfl (x_alloc h fun b1 w h => ?_)
 refine r_nil ?_
 refine c_seq (c_seq (c_region ?_))
 refine r_v (q_moveI rfl) rfl ?_
 refine r_nil ?_
 have hz : (List.replicate 256 (Value.int .u32 0)) = u32V (tabL 0) := by show _ = (List.replicate 256 0).map _; rw [List.map_replicate]; rfl
 refine c_block ?_
 refine c_loop (Γ := Nat) (fun k => [(0, .pointer (some ⟨b0, 0, none⟩)), (1, .pointer (some ⟨b1, 0, none⟩)), (5, .int .i64 k)]) (fun k w => k ≤ 256 ∧ St w0 (pt b1 (.cells (u32V (tabL k)).toArray 88 (0, 0)) :: pt b0 (.cells (List.replicate 256 (Value.int .u32 0)).toArray 88 (0, 0)) :: l) w) (fun k => 256 - k) 0 ⟨rfl, rfl, rfl, trivial⟩ ⟨Nat.zero_le _, by rw [← hz]; exact h⟩ ?_
 clear h
 rintro i w e ⟨hi, h⟩
 refine c_seq (c_region ?_)
 refine r_v (q_lss rfl rfl) rfl ?_
 refine r_nil ?_
 refine c_seq (c_cond (decide ((i : Int) < 256)) rfl (fun hc => ?_) (fun hc => ?_))
 ·
  have hlt : i < 256 := by simp at hc; omega
  refine c_skip ?_
  refine c_seq (c_block ?_)
  refine c_seq (c_region ?_)
  refine r_v (q_moveI rfl) rfl ?_; refine r_v (q_assignI rfl) rfl ?_
  refine r_nil ?_
  refine c_seq (c_region ?_)
  refine r_v (q_moveI rfl) rfl ?_; refine r_v (q_conv rfl) rfl ?_
  refine r_is (.int .u32 (i : Int)) (by rw [wrap_u32, Nat.mod_eq_of_lt (by omega)]) ?_
  refine r_v (q_assignI rfl) rfl ?_
  refine r_nil ?_
  refine c_cut (Γ := Unit) (fun _ => [(0, .pointer (some ⟨b0, 0, none⟩)), (1, .pointer (some ⟨b1, 0, none⟩)), (2, .int .i64 i), (3, .int .u32 (crcByte i : Int)), (5, .int .i64 i)]) (fun _ w => St w0 (pt b1 (.cells (u32V (tabL i)).toArray 88 (0, 0)) :: pt b0 (.cells (List.replicate 256 (Value.int .u32 0)).toArray 88 (0, 0)) :: l) w) ?_ ?_
  ·refine c_seq (c_region ?_)
   refine r_v (q_moveI rfl) rfl ?_
   refine r_nil ?_
   refine c_block ?_
   refine c_loop (Γ := Nat) (fun k => [(0, .pointer (some ⟨b0, 0, none⟩)), (1, .pointer (some ⟨b1, 0, none⟩)), (2, .int .i64 i), (3, .int .u32 (crcN k i : Int)), (5, .int .i64 i), (10, .int .i64 k)]) (fun k w => k ≤ 8 ∧ St w0 (pt b1 (.cells (u32V (tabL i)).toArray 88 (0, 0)) :: pt b0 (.cells (List.replicate 256 (Value.int .u32 0)).toArray 88 (0, 0)) :: l) w) (fun k => 8 - k) 0 ⟨rfl, rfl, rfl, rfl, rfl, rfl, trivial⟩ ⟨Nat.zero_le _, h⟩ ?_
   clear h
   rintro k w e ⟨hk, h⟩
   refine c_seq (c_region ?_)
   refine r_v (q_lss rfl rfl) rfl ?_
   refine r_nil ?_
   refine c_seq (c_cond (decide ((k : Int) < 8)) rfl (fun hc => ?_) (fun hc => ?_))
   ·
    have hk8 : k < 8 := by simp at hc; omega
    have hcl := crcN_lt (c := i) (by omega) k
    have hstep : crcN (k + 1) i = crcBit (crcN k i) := rfl
    generalize crcN k i = c at hcl hstep
    refine c_skip ?_
    refine c_cut (Γ := Unit) (fun _ => [(0, .pointer (some ⟨b0, 0, none⟩)), (1, .pointer (some ⟨b1, 0, none⟩)), (2, .int .i64 i), (3, .int .u32 (crcN (k + 1) i : Int)), (5, .int .i64 i), (10, .int .i64 k)]) (fun _ w => St w0 (pt b1 (.cells (u32V (tabL i)).toArray 88 (0, 0)) :: pt b0 (.cells (List.replicate 256 (Value.int .u32 0)).toArray 88 (0, 0)) :: l) w) ?_ ?_
    ·refine c_block ?_
     refine c_seq (c_region ?_)
     refine r_v (q_moveI rfl) rfl ?_; refine r_v (q_and rfl rfl) rfl ?_
     refine r_is (.int .u32 ((c % 2 : Nat) : Int)) (congrArg (Value.int .u32) (((bit_u32 hcl (by decide : 1 < _)).1).trans (by rw [Nat.and_one_is_mod]))) ?_
     refine r_v (q_assignI rfl) rfl ?_
     refine r_nil ?_
     refine c_seq (c_region ?_)
     refine r_v (q_moveI rfl) rfl ?_
     refine r_v (q_is (v' := .int .u32 ((c / 2 ^ 1 : Nat) : Int)) (q_shr rfl rfl (by omega)) (congrArg (Value.int .u32) (fdiv_nat c 1 32 (by decide)))) rfl ?_
     refine r_v (q_assignI rfl) rfl ?_
     refine r_nil ?_
     refine c_seq (c_region ?_)
     refine r_v (q_moveI rfl) rfl ?_; refine r_v (q_eql rfl rfl) rfl ?_
     rw [hstep]
     unfold crcBit
     by_cases h1 : c % 2 = 1
     ·rw [if_pos h1]
      refine r_is (.bool true) (by rw [h1]; rfl) ?_
      refine r_nil (c_true rfl ?_)
      refine c_region ?_
      refine r_v (q_moveI rfl) rfl ?_; refine r_v (q_xor rfl rfl) rfl ?_
      refine r_is (.int .u32 ((c / 2 ^ 1 ^^^ 2197175160 : Nat) : Int)) (congrArg (Value.int .u32) (bit_u32 (by omega) (by decide)).2) ?_
      refine r_v (q_assignI rfl) rfl ?_
      exact r_nil ⟨(), ⟨rfl, rfl, rfl, rfl, rfl, rfl, trivial⟩, h⟩
     ·rw [if_neg h1]
      refine r_is (.bool false) (by congr 1; rw [beq_eq_false_iff_ne]; omega) ?_
      refine r_nil (c_false rfl ?_)
      exact c_skip ⟨(), ⟨rfl, rfl, rfl, rfl, rfl, rfl, trivial⟩, h⟩
    clear h
    rintro _ w e h
    refine c_region ?_
    refine r_v (q_add rfl rfl) rfl ?_
    refine r_is (.int .i64 ((k + 1 : Nat) : Int)) (by rw [wrap64 (by omega) (by omega)]; rfl) ?_
    refine r_v (q_moveI rfl) rfl ?_
    exact r_nil ⟨k + 1, ⟨rfl, rfl, rfl, rfl, rfl, rfl, trivial⟩, ⟨hk8, h⟩, by omega⟩
   have hk8 : k = 8 := by simp at hc; omega
   subst hk8
   exact c_exit ⟨(), ⟨rfl, rfl, rfl, rfl, rfl, trivial⟩, h⟩
  clear h
  rintro _ w e h
  refine c_region ?_
  refine r_v (q_moveI rfl) rfl ?_; refine r_v (q_moveI rfl) rfl ?_
  refine r_v (q_aidx (j := i) (o' := i) rfl rfl rfl hlt (by simp)) rfl ?_
  refine r_c rfl (x_store 0 h rfl (show _ = Value.int .u32 (crcByte i : Int) from rfl) rfl (by rw [Nat.blt_eq, u32V_len, tabL_len (by omega)]; omega) rfl rfl fun w h => ?_)
  simp only [List.set_cons_zero] at h
  rw [tabL_set hlt] at h
  refine r_nil ?_
  refine c_region ?_
  refine r_v (q_add rfl rfl) rfl ?_
  refine r_is (.int .i64 ((i + 1 : Nat) : Int)) (by rw [wrap64 (by omega) (by omega)]; rfl) ?_
  refine r_v (q_moveI rfl) rfl ?_
  exact r_nil ⟨i + 1, ⟨rfl, rfl, rfl, trivial⟩, ⟨hlt, h⟩, by omega⟩
 have hi256 : i = 256 := by simp at hc; omega
 subst hi256
 refine c_exit ?_
 refine c_seq (c_region ?_)
 refine r_v (q_loadS (l := tabV) rfl (by rw [tabV_len]; rfl) (at_of (h.b 0 rfl) rfl)) rfl ?_
 refine r_c rfl (x_storeA (vs := tabV) 1 h rfl rfl rfl (by rw [tabV_len]; rfl) (by rw [tabV_len]; rfl) rfl tabV_one fun w h => ?_)
 simp only [List.set_cons_zero, List.set_cons_succ] at h
 rw [show (List.replicate 256 (Value.int .u32 0)).take 0 ++ tabV ++ (List.replicate 256 (Value.int .u32 0)).drop (0 + tabV.length) = tabV by rw [List.take_zero, List.nil_append, tabV_len, List.drop_of_length_le (by rw [List.length_replicate]; decide), List.append_nil]] at h
 refine r_nil ?_
 exact c_ret (bqS1 (l := tabV) rfl (by rw [tabV_len]; rfl) (at_of (h.b 1 rfl) rfl) ⟨rfl, h.drop.drop⟩)

theorem crcc_Sum {sl : Option Addr} {c : Nat} {bs : List UInt8} (hn : bs.length ≤ 140737488355328) (hr : Reads w0 l 1 sl bs.length (bytesV bs)) (h : St w0 l w) :
  Ret Tryz.prog 52 [.agg tabV.toArray, .slice sl bs.length c] w fun v w' => v = .int .u32 (crc bs : Int) ∧ St w0 l w' := by
 refine enter Tryz.func52 rfl Tryz.results52 Tryz.ntmps52 rfl ?_
 refine c_seq (c_region ?_)
 refine r_c rfl (x_box h (show _ = Value.agg tabV.toArray from rfl) fun b2 w h => ?_)
 refine r_v (q_assignI rfl) rfl ?_
 refine r_nil ?_
 refine c_seq (c_region ?_)
 refine r_v (q_assignI rfl) rfl ?_
 refine r_nil ?_
 refine c_seq (c_seq (c_region ?_))
 refine r_v (q_moveS rfl) rfl ?_; refine r_v (q_len rfl) rfl ?_; refine r_v (q_moveI rfl) rfl ?_
 refine r_nil ?_
 refine c_block ?_
 refine c_loop (Γ := Nat × Nat) (fun k => [(2, .pointer (some ⟨b2, 0, none⟩)), (5, .int .u32 (k.2 : Int)), (8, .slice sl bs.length c), (9, .int .i64 bs.length), (10, .int .i64 k.1)])
  (fun k w => k.1 ≤ bs.length ∧ k.2 < 4294967296 ∧ crcA k.2 (bs.drop k.1) = crcA 4294967295 bs ∧ St w0 (pt b2 (.cells tabV.toArray 88 (0, 0)) :: l) w) (fun k => bs.length - k.1) (0, 4294967295) ⟨rfl, rfl, rfl, rfl, rfl, trivial⟩ ⟨Nat.zero_le _, (by decide : (4294967295 : Nat) < 4294967296), rfl, h⟩ ?_
 clear h
 rintro ⟨i, s⟩ w e ⟨hi, hs, he, h⟩
 dsimp only at hi hs he h ⊢
 refine c_seq (c_region ?_)
 refine r_v (q_lss rfl rfl) rfl ?_
 refine r_nil ?_
 refine c_seq (c_cond (decide ((i : Int) < (bs.length : Int))) rfl (fun hc => ?_) (fun hc => ?_))
 ·
  have hlt : i < bs.length := by simp at hc; omega
  have hg := List.getElem?_eq_getElem hlt
  have hdr := List.drop_eq_getElem_cons hlt
  generalize bs[i] = x at hg hdr
  have hx := x.toNat_lt
  rw [hdr, crcA] at he
  have hst := crcStep_lt (x := x.toNat) hs hx
  unfold crcStep at he hst
  have hj : (s % 256) ^^^ x.toNat < 256 := xor8 (Nat.mod_lt _ (by decide)) hx
  have hbl := crcByte_lt hj
  obtain ⟨b, o, hsl⟩ := (hr.cons.at_ h).some (by omega)
  refine c_skip ?_
  refine c_seq (c_block ?_)
  refine c_seq (c_region ?_)
  refine r_v (q_idx (b := b) (o := o) (m := bs.length) (c := c) (o' := o + i) (by rw [← hsl]; rfl) rfl rfl hlt (by simp)) rfl ?_
  refine r_v (q_loadc (v := .int .u8 x.toNat) rfl ((hsl ▸ hr.cons.at_ h).cell (bytesV_get hg))) rfl ?_
  refine r_v (q_assignI rfl) rfl ?_
  refine r_nil ?_
  refine c_region ?_
  refine r_v (q_moveI rfl) rfl ?_; refine r_v (q_conv rfl) rfl ?_
  refine r_is (.int .u8 ((s % 256 : Nat) : Int)) (by rw [wrap_u8]) ?_
  refine r_v (q_moveI rfl) rfl ?_; refine r_v (q_xor rfl rfl) rfl ?_
  refine r_is (.int .u8 (((s % 256) ^^^ x.toNat : Nat) : Int)) (congrArg (Value.int .u8) (bit_u8 (by omega) hx).2.2) ?_
  refine r_v (q_aidx (j := (s % 256) ^^^ x.toNat) (o' := (s % 256) ^^^ x.toNat) rfl rfl rfl hj (by simp)) rfl ?_
  refine r_v (q_loadc (v := .int .u32 (crcByte ((s % 256) ^^^ x.toNat) : Int)) rfl (by have := cell_of (h.b 0 rfl) (tabV_get hj); simpa using this)) rfl ?_
  generalize crcByte ((s % 256) ^^^ x.toNat) = tb at he hst hbl ⊢
  refine r_v (q_moveI rfl) rfl ?_
  refine r_v (q_is (v' := .int .u32 ((s / 2 ^ 8 : Nat) : Int)) (q_shr rfl rfl (by omega)) (congrArg (Value.int .u32) (fdiv_nat s 8 32 (by decide)))) rfl ?_
  refine r_v (q_xor rfl rfl) rfl ?_
  refine r_is (.int .u32 ((tb ^^^ (s / 256) : Nat) : Int)) (congrArg (Value.int .u32) (bit_u32 hbl (by omega)).2) ?_
  refine r_v (q_assignI rfl) rfl ?_
  refine r_nil ?_
  refine c_region ?_
  refine r_v (q_add rfl rfl) rfl ?_
  refine r_is (.int .i64 ((i + 1 : Nat) : Int)) (by rw [wrap64 (by omega) (by omega)]; rfl) ?_
  refine r_v (q_moveI rfl) rfl ?_
  exact r_nil ⟨(i + 1, tb ^^^ (s / 256)), ⟨rfl, rfl, rfl, rfl, rfl, trivial⟩, ⟨hlt, hst, he, h⟩, by dsimp only; omega⟩
 have hin : i = bs.length := by simp at hc; omega
 rw [hin, List.drop_length, crcA] at he
 refine c_exit ?_
 refine c_seq (c_region ?_)
 refine r_v (q_moveI rfl) rfl ?_; refine r_v (q_xor rfl rfl) rfl ?_
 refine r_is (.int .u32 ((s ^^^ 4294967295 : Nat) : Int)) (congrArg (Value.int .u32) (bit_u32 hs (by decide)).2) ?_
 refine r_v (q_assignI rfl) rfl ?_
 refine r_nil ?_
 exact c_ret (bq1 ⟨by unfold crc; rw [← he]; rfl, h.drop⟩)
end
end Go.Proofs.YtjjacchnalemaaaGreatDoor
