/- Layers 4, 5, 10: rows of numbers, made of any arguments. -/
import Derived.Test.YtjjacchnalemaaaDoorSuit
import Derived.Test.YtjjacchnalemaaaDoorPf
namespace Go.Hw
theorem wrap_I64 (x : Int) : I64 (IntKind.i64.wrap x) := by
  unfold IntKind.wrap I64
  simp [IntKind.signed, IntKind.bits]
  split <;> omega
theorem us_nat (x : Int) : ∃ v : Nat, v < 18446744073709551616 ∧ IntKind.u64.wrap x = (v : Int) := ⟨us x, us_lt x, wrap_us x⟩
end Go.Hw
namespace Go.Proofs.YtjjacchnalemaaaDoor
open Go.Hw
set_option maxHeartbeats 4000000
set_option maxRecDepth 100000
theorem r_nat {P : Program} {n : Nat} {ops : Array Oper} {Q : Post} {rest : List Oper} {e : Env} {w : World} {c : Nat} {x : Int} (hx : ∃ v : Nat, v < 18446744073709551616 ∧ x = (v : Int)) (h : ∀ v : Nat, v < 18446744073709551616 → Rn P n ops Q rest (upd e c (.int .u64 (v : Int))) w) : Rn P n ops Q rest (upd e c (.int .u64 x)) w := by
  obtain ⟨v, h1, rfl⟩ := hx
  exact h v h1
section
variable {w0 w : World} {l : List HProp}
abbrev OwnT64 (a : Option Addr) (c : Nat) (ts : List Int) : HProp := Own 2 1 a ts.length c (i64V ts)
abbrev OwnS (a : Option Addr) (c : Nat) (L : List Smp) : HProp := Own 25 2 a L.length c (smpsV L)

theorem law4_Times {sl : Option Addr} {c : Nat} {xs : List Int} (raw : Bool) (hx : ∀ x ∈ xs, I64 x) (hn : xs.length ≤ 9223372036854775807) (hr : Reads w0 l 1 sl xs.length (i64V xs)) (h : St w0 l w) :
    Ret Tryd.prog 39 [.slice sl xs.length c, .bool raw] w fun v w' => ∃ a c' ts, ts.length ≤ 60 ∧ (∀ t ∈ ts, I64 t) ∧ v = .slice a ts.length c' ∧ St w0 (OwnT64 a c' ts :: l) w' := by
  refine enter Tryd.func39 rfl Tryd.results39 Tryd.ntmps39 rfl ?_
  refine c_seq (c_region ?_)
  refine r_v (q_assignS rfl) rfl ?_
  refine r_nil ?_
  refine c_seq (c_region ?_)
  refine r_v (q_assignS rfl) rfl ?_
  refine r_nil ?_
  refine c_seq (c_region ?_)
  refine r_v (q_assignI rfl) rfl ?_
  refine r_nil ?_
  refine c_cut (Γ := Int) (fun k => [(0, .slice sl xs.length c), (1, .bool raw), (5, .slice none 0 0), (6, .int .i64 k)]) (fun _ w => St w0 l w) ?_ ?_
  · refine c_seq (c_region ?_)
    refine r_v (q_moveS rfl) rfl ?_; refine r_v (q_len rfl) rfl ?_; refine r_v (q_gtr rfl rfl) rfl ?_
    refine r_nil ?_
    refine c_cond (decide ((xs.length : Int) > 0)) rfl (fun hc => ?_) (fun hc => ?_)
    · have hpos : 0 < xs.length := by simp at hc; omega
      have hg := List.getElem?_eq_getElem hpos
      generalize xs[0] = x at hg
      obtain ⟨b, o, hsl⟩ := (hr.at_ h).some hpos
      refine c_region ?_
      refine r_v (q_moveS rfl) rfl ?_
      refine r_v (q_idx (b := b) (o := o) (m := xs.length) (c := c) (o' := o) (by rw [← hsl]; rfl) rfl (j := 0) rfl hpos (by simp)) rfl ?_
      refine r_v (q_loadc (v := .int .i64 x) rfl ((hsl ▸ hr.at_ h).cell (i64V_get (j := 0) hg))) rfl ?_
      refine r_v (q_assignI rfl) rfl ?_
      exact r_nil ⟨x, ⟨rfl, rfl, rfl, rfl, trivial⟩, h⟩
    · exact c_skip ⟨0, ⟨rfl, rfl, rfl, rfl, trivial⟩, h⟩
  clear h
  rintro last w e h
  refine c_seq (c_seq (c_region ?_))
  refine r_v (q_assignI rfl) rfl ?_
  refine r_nil ?_
  refine c_block ?_
  refine c_loop (Γ := Nat × List Int × Int × Option Addr × Nat) (fun k => [(0, .slice sl xs.length c), (1, .bool raw), (5, .slice k.2.2.2.1 k.2.1.length k.2.2.2.2), (6, .int .i64 k.2.2.1), (7, .int .i64 k.1)])
    (fun k w => k.1 ≤ 60 ∧ k.2.1.length = k.1 ∧ (∀ t ∈ k.2.1, I64 t) ∧ St w0 (OwnT64 k.2.2.2.1 k.2.2.2.2 k.2.1 :: l) w) (fun k => 60 - k.1) (0, [], last, none, 0) ⟨rfl, rfl, rfl, rfl, rfl, trivial⟩ ⟨Nat.zero_le _, rfl, (fun _ h => by cases h), St.ownNil _ _ h⟩ ?_
  clear h
  rintro ⟨i, ts, last, a, c1⟩ w e ⟨hi, htl, hts, h⟩
  dsimp only at hi htl hts h ⊢
  refine c_seq ?_
  refine c_cut (Γ := Bool) (fun k => [(0, .slice sl xs.length c), (1, .bool raw), (5, .slice a ts.length c1), (6, .int .i64 last), (7, .int .i64 i), (22, .bool k)]) (fun k w => (k = true → i < xs.length ∧ i < 60) ∧ St w0 (OwnT64 a c1 ts :: l) w) ?_ ?_
  · refine c_region ?_
    refine r_v (q_moveI rfl) rfl ?_; refine r_v (q_moveS rfl) rfl ?_; refine r_v (q_len rfl) rfl ?_; refine r_v (q_lss rfl rfl) rfl ?_
    by_cases hin : i < xs.length
    · refine r_is (.bool true) (by simp; omega) ?_
      refine r_v (q_moveB rfl) rfl ?_; (first | refine r_gd rfl rfl ?_ | refine r_gn rfl rfl rfl ?_ | refine r_gu rfl rfl ?_ | refine r_gd rfl (by assumption) ?_ | refine r_gn rfl (by assumption) rfl ?_); refine r_v (q_moveI rfl) rfl ?_; (first | refine r_gd rfl rfl ?_ | refine r_gn rfl rfl rfl ?_ | refine r_gu rfl rfl ?_ | refine r_gd rfl (by assumption) ?_ | refine r_gn rfl (by assumption) rfl ?_); refine r_v (q_lss rfl rfl) rfl ?_; (first | refine r_v (q_pick1 rfl rfl rfl) rfl ?_ | refine r_v (q_pick0 rfl rfl rfl) rfl ?_ | refine r_v (q_pick1 rfl (by assumption) rfl) rfl ?_ | refine r_v (q_pick0 rfl (by assumption) rfl) rfl ?_ | refine r_v (q_pickB rfl rfl rfl) rfl ?_)
      exact r_nil ⟨decide ((i : Int) < 60), ⟨rfl, rfl, rfl, rfl, rfl, rfl, trivial⟩, fun hk => ⟨hin, by rw [decide_eq_true_eq] at hk; omega⟩, h⟩
    · refine r_is (.bool false) (by simp; omega) ?_
      refine r_v (q_moveB rfl) rfl ?_; (first | refine r_gd rfl rfl ?_ | refine r_gn rfl rfl rfl ?_ | refine r_gu rfl rfl ?_ | refine r_gd rfl (by assumption) ?_ | refine r_gn rfl (by assumption) rfl ?_); (first | refine r_gd rfl rfl ?_ | refine r_gn rfl rfl rfl ?_ | refine r_gu rfl rfl ?_ | refine r_gd rfl (by assumption) ?_ | refine r_gn rfl (by assumption) rfl ?_); (first | refine r_v (q_pick1 rfl rfl rfl) rfl ?_ | refine r_v (q_pick0 rfl rfl rfl) rfl ?_ | refine r_v (q_pick1 rfl (by assumption) rfl) rfl ?_ | refine r_v (q_pick0 rfl (by assumption) rfl) rfl ?_ | refine r_v (q_pickB rfl rfl rfl) rfl ?_)
      exact r_nil ⟨false, ⟨rfl, rfl, rfl, rfl, rfl, rfl, trivial⟩, (fun h => by cases h), h⟩
  clear h
  rintro k w e ⟨hk, h⟩
  refine c_cond k rfl (fun hc => ?_) (fun hc => ?_)
  ·
    obtain ⟨hin, hi60⟩ := hk hc
    have hg := List.getElem?_eq_getElem hin
    generalize xs[i] = x at hg
    have hxi := hx x (List.mem_of_getElem? hg)
    obtain ⟨b, o, hsl⟩ := (hr.cons.at_ h).some (by omega)
    have hcell : ∀ {w'}, (∃ L, St w0 (L ++ l) w') → w'.cell? ⟨b, o + i, none⟩ = some (.int .i64 x) := fun ⟨L, h'⟩ => (hsl ▸ hr L _ h').cell (i64V_get hg)
    refine c_skip ?_
    refine c_seq (c_block ?_)
    refine c_seq (c_region ?_)
    refine r_v (q_moveS rfl) rfl ?_; refine r_v (q_moveI rfl) rfl ?_
    refine r_v (q_idx (b := b) (o := o) (m := xs.length) (c := c) (o' := o + i) (by rw [← hsl]; rfl) rfl rfl hin (by simp)) rfl ?_
    refine r_v (q_loadc (v := .int .i64 x) rfl (hcell ⟨[_], h⟩)) rfl ?_
    refine r_v (q_assignI rfl) rfl ?_
    refine r_nil ?_
    refine c_cut (Γ := Int) (fun k => [(0, .slice sl xs.length c), (1, .bool raw), (5, .slice a ts.length c1), (7, .int .i64 i), (8, .int .i64 k)]) (fun k w => I64 k ∧ St w0 (OwnT64 a c1 ts :: l) w) ?_ ?_
    · refine c_seq (c_region ?_)
      refine r_v (q_moveB rfl) rfl ?_; refine r_v (q_not rfl) rfl ?_
      refine r_nil (c_cond (!raw) rfl (fun hc => ?_) (fun hc => ?_))
      · refine c_anyW [0, 1, 2, 3, 4, 5, 6, 7, 8, 9, 10, 11, 12, 13, 14, 15, 16, 17, 18, 19, 20, 21, 22, 23, 24, 25, 26, 27, 28, 29, 30, 31, 32, 33, 34, 35, 36, 37, 38, 39, 40, 41, 42] none (fun w => ∃ L, St w0 (L ++ l) w) (by kernel_rfl) (by kernel_rfl) ?_
        replace h := h.drew
        generalize w.drew = w at h
        have hs := h
        replace h : ∃ L, St w0 (L ++ l) w := ⟨[_], hs⟩
        refine cur_pure rfl rfl rfl rfl (fun _ => h) (fun _ => flt_v rfl (q_moveI rfl)) ?_; refine cur_pure rfl rfl rfl rfl (fun _ => h) (fun _ => flt_v rfl (q_add rfl rfl)) ?_; refine cur_pure rfl rfl rfl rfl (fun _ => h) (fun _ => flt_v rfl (q_moveS rfl)) ?_; refine cur_pure rfl rfl rfl rfl (fun _ => h) (fun _ => flt_v rfl (q_moveI rfl)) ?_
        refine cur_pure rfl rfl rfl rfl (fun _ => h) (fun _ => flt_v rfl (q_idx (b := b) (o := o) (m := xs.length) (c := c) (o' := o + i) (by rw [← hsl]; rfl) rfl rfl hin (by simp))) ?_
        refine cur_float rfl rfl rfl rfl h (fun w h => flt_v rfl (q_loadc (v := .int .i64 x) rfl (hcell h))) ?_
        refine cur_pure rfl rfl rfl rfl (fun _ => h) (fun _ => flt_v rfl (q_shr rfl rfl (by omega))) ?_
        refine cur_pure rfl rfl rfl rfl (fun _ => h) (fun _ => flt_v rfl (q_and rfl rfl)) ?_
        refine cur_pure rfl rfl rfl rfl (fun _ => h) (fun _ => flt_v rfl (q_quo rfl rfl (by decide))) ?_
        refine cur_pure rfl rfl rfl rfl (fun _ => h) (fun _ => flt_v rfl (q_moveS rfl)) ?_; refine cur_pure rfl rfl rfl rfl (fun _ => h) (fun _ => flt_v rfl (q_moveI rfl)) ?_
        refine cur_pure rfl rfl rfl rfl (fun _ => h) (fun _ => flt_v rfl (q_idx (b := b) (o := o) (m := xs.length) (c := c) (o' := o + i) (by rw [← hsl]; rfl) rfl rfl hin (by simp))) ?_
        refine cur_float rfl rfl rfl rfl h (fun w h => flt_v rfl (q_loadc (v := .int .i64 x) rfl (hcell h))) ?_
        refine cur_pure rfl rfl rfl rfl (fun _ => h) (fun _ => flt_v rfl (q_shr rfl rfl (by omega))) ?_
        refine cur_pure rfl rfl rfl rfl (fun _ => h) (fun _ => flt_v rfl (q_and rfl rfl)) ?_; refine cur_pure rfl rfl rfl rfl (fun _ => h) (fun _ => flt_v rfl (q_moveS rfl)) ?_; refine cur_pure rfl rfl rfl rfl (fun _ => h) (fun _ => flt_v rfl (q_moveI rfl)) ?_
        refine cur_pure rfl rfl rfl rfl (fun _ => h) (fun _ => flt_v rfl (q_idx (b := b) (o := o) (m := xs.length) (c := c) (o' := o + i) (by rw [← hsl]; rfl) rfl rfl hin (by simp))) ?_
        refine cur_float rfl rfl rfl rfl h (fun w h => flt_v rfl (q_loadc (v := .int .i64 x) rfl (hcell h))) ?_
        refine cur_pure rfl rfl rfl rfl (fun _ => h) (fun _ => flt_v rfl (q_shr rfl rfl (by omega))) ?_
        refine cur_pure rfl rfl rfl rfl (fun _ => h) (fun _ => flt_v rfl (q_and rfl rfl)) ?_; refine cur_pure rfl rfl rfl rfl (fun _ => h) (fun _ => flt_v rfl (q_moveS rfl)) ?_; refine cur_pure rfl rfl rfl rfl (fun _ => h) (fun _ => flt_v rfl (q_moveI rfl)) ?_
        refine cur_pure rfl rfl rfl rfl (fun _ => h) (fun _ => flt_v rfl (q_idx (b := b) (o := o) (m := xs.length) (c := c) (o' := o + i) (by rw [← hsl]; rfl) rfl rfl hin (by simp))) ?_
        refine cur_float rfl rfl rfl rfl h (fun w h => flt_v rfl (q_loadc (v := .int .i64 x) rfl (hcell h))) ?_
        refine cur_pure rfl rfl rfl rfl (fun _ => h) (fun _ => flt_v rfl (q_shr rfl rfl (by omega))) ?_
        refine cur_pure rfl rfl rfl rfl (fun _ => h) (fun _ => flt_v rfl (q_and rfl rfl)) ?_; refine cur_pure rfl rfl rfl rfl (fun _ => h) (fun _ => flt_v rfl (q_moveS rfl)) ?_; refine cur_pure rfl rfl rfl rfl (fun _ => h) (fun _ => flt_v rfl (q_moveI rfl)) ?_
        refine cur_pure rfl rfl rfl rfl (fun _ => h) (fun _ => flt_v rfl (q_idx (b := b) (o := o) (m := xs.length) (c := c) (o' := o + i) (by rw [← hsl]; rfl) rfl rfl hin (by simp))) ?_
        refine cur_float rfl rfl rfl rfl h (fun w h => flt_v rfl (q_loadc (v := .int .i64 x) rfl (hcell h))) ?_
        refine cur_pure rfl rfl rfl rfl (fun _ => h) (fun _ => flt_v rfl (q_shr rfl rfl (by omega))) ?_
        refine cur_pure rfl rfl rfl rfl (fun _ => h) (fun _ => flt_v rfl (q_and rfl rfl)) ?_; refine cur_skip ?_; refine cur_pure rfl rfl rfl rfl (fun _ => h) (fun _ => flt_v rfl (q_moveS rfl)) ?_; refine cur_pure rfl rfl rfl rfl (fun _ => h) (fun _ => flt_v rfl (q_moveI rfl)) ?_
        refine cur_pure rfl rfl rfl rfl (fun _ => h) (fun _ => flt_v rfl (q_idx (b := b) (o := o) (m := xs.length) (c := c) (o' := o + i) (by rw [← hsl]; rfl) rfl rfl hin (by simp))) ?_
        refine cur_float rfl rfl rfl rfl h (fun w h => flt_v rfl (q_loadc (v := .int .i64 x) rfl (hcell h))) ?_
        refine cur_pure rfl rfl rfl rfl (fun _ => h) (fun _ => flt_v rfl (q_is (v' := .int .i64 (x % 8)) (q_and rfl rfl) (congrArg (Value.int .i64) (and_mask 3 (by decide) (by decide))))) ?_
        refine cur_skip ?_; refine cur_skip ?_; refine cur_skip ?_; refine cur_skip ?_
        refine cur_one 33 rfl rfl rfl rfl ?_
        refine (x_bslice (r := i64V [_, _, _, _, _, 60, 60, 60]) hs rfl rfl rfl fun b2 w hs => ?_)
        replace h : ∃ L, St w0 (L ++ l) w := ⟨[_, _], hs⟩
        refine ⟨fun _ => h, ?_⟩
        obtain ⟨es, hes, hs⟩ : ∃ es : List Int, es.length = 8 ∧ St w0 (pt b2 (.cells (i64V es).toArray 3 (0, 0)) :: OwnT64 a c1 ts :: l) w := ⟨_, rfl, hs⟩
        obtain ⟨j, hj⟩ := Int.eq_ofNat_of_zero_le (show 0 ≤ x % 8 by omega)
        have hj8 : j < 8 := by omega
        have hgj := List.getElem?_eq_getElem (show j < es.length by omega)
        generalize es[j]'(by omega) = y at hgj
        refine cur_pure rfl rfl rfl rfl (fun _ => h) (fun _ => flt_v rfl (q_idx (b := b2) (o := 0) (m := 8) (c := 8) (j := j) (o' := j) rfl rfl hj hj8 (by simp))) ?_
        refine cur_skip ?_; refine cur_skip ?_; refine cur_skip ?_
        refine cur_one 40 rfl rfl rfl rfl ?_
        refine x_v (q_load (v := .int .i64 y) rfl (hs.b 0 rfl) (i64V_get hgj)) ?_
        refine ⟨fun _ => h, ?_⟩
        refine cur_pure rfl rfl rfl rfl (fun _ => h) (fun _ => flt_v rfl (q_add rfl rfl)) ?_; refine cur_pure rfl rfl rfl rfl (fun _ => h) (fun _ => flt_v rfl (q_assignI rfl)) ?_
        exact cur_end ⟨_, ⟨rfl, rfl, rfl, rfl, rfl, trivial⟩, wrap_I64 _, hs.drop⟩
      · refine c_skip ⟨x, ⟨rfl, rfl, rfl, rfl, rfl, trivial⟩, hxi, h⟩
    clear h
    rintro n w e ⟨hnI, h⟩
    refine c_seq (c_region ?_)
    refine r_v (q_moveS rfl) rfl ?_; refine r_v (q_moveI rfl) rfl ?_
    refine r_c rfl (x_bslice (r := i64V [n]) h rfl rfl rfl fun b2 w h => ?_)
    refine r_c rfl (x_append' (ys := i64V [n]) (zs := i64V (ts ++ [n])) (m3 := (ts ++ [n]).length) (h.f 1) rfl rfl ⟨rfl, .inr ⟨b2, 0, rfl, at_of (h.b 0 rfl) rfl⟩⟩ (i64V_one _) (by simp) (by simp [i64V]) (by simp; omega) (by simp; omega) rfl fun a2 c2 w _ h => ?_)
    refine r_v (q_assignS rfl) rfl ?_
    refine r_nil ?_
    refine c_region ?_
    refine r_v (q_moveI rfl) rfl ?_; refine r_v (q_assignI rfl) rfl ?_
    refine r_nil ?_
    refine c_region ?_
    refine r_v (q_moveI rfl) rfl ?_; refine r_v (q_add rfl rfl) rfl ?_
    refine r_is (.int .i64 ((i + 1 : Nat) : Int)) (by rw [wrap64 (by omega) (by omega)]; rfl) ?_
    refine r_v (q_assignI rfl) rfl ?_
    refine r_nil ⟨(i + 1, ts ++ [n], n, a2, c2), ⟨rfl, rfl, rfl, rfl, rfl, trivial⟩, ⟨hi60, by simp; omega, fun t ht => ?_, (h.f 1).drop⟩, by dsimp only; omega⟩
    rcases List.mem_append.1 ht with ht | ht
    · exact hts t ht
    · simp at ht; subst ht; exact hnI
  refine c_exit ?_
  refine c_seq (c_region ?_)
  refine r_v (q_moveS rfl) rfl ?_; refine r_v (q_assignS rfl) rfl ?_
  refine r_nil ?_
  exact c_ret (bq1 ⟨a, c1, ts, by omega, hts, rfl, h⟩)
theorem law5_Values {sl : Option Addr} {c : Nat} {us_ : List Nat} (how : Int) (hu : ∀ x ∈ us_, x < 18446744073709551616) (hn : us_.length ≤ 9223372036854775807) (hr : Reads w0 l 1 sl us_.length (u64V us_)) (h : St w0 l w) :
    Ret Tryd.prog 40 [.slice sl us_.length c, .int .i64 how] w fun v w' => ∃ a c' vs, vs.length ≤ 60 ∧ (∀ x ∈ vs, x < 18446744073709551616) ∧ v = .slice a vs.length c' ∧ St w0 (OwnU a c' vs :: l) w' := by
  refine enter Tryd.func40 rfl Tryd.results40 Tryd.ntmps40 rfl ?_
  refine c_seq (c_region ?_)
  refine r_v (q_assignS rfl) rfl ?_
  refine r_nil ?_
  refine c_seq (c_region ?_)
  refine r_v (q_assignS rfl) rfl ?_
  refine r_nil ?_
  refine c_seq (c_region ?_)
  refine r_v (q_assignI rfl) rfl ?_
  refine r_nil ?_
  refine c_seq (c_seq (c_region ?_))
  refine r_v (q_assignI rfl) rfl ?_
  refine r_nil ?_
  refine c_block ?_
  refine c_loop (Γ := Nat × List Nat × Nat × Option Addr × Nat) (fun k => [(0, .slice sl us_.length c), (1, .int .i64 how), (5, .slice k.2.2.2.1 k.2.1.length k.2.2.2.2), (6, .int .u64 k.2.2.1), (7, .int .i64 k.1)])
    (fun k w => k.1 ≤ 60 ∧ k.2.1.length = k.1 ∧ k.2.2.1 < 18446744073709551616 ∧ (∀ t ∈ k.2.1, t < 18446744073709551616) ∧ St w0 (OwnU k.2.2.2.1 k.2.2.2.2 k.2.1 :: l) w) (fun k => 60 - k.1) (0, [], 0, none, 0) ⟨rfl, rfl, rfl, rfl, rfl, trivial⟩ ⟨Nat.zero_le _, rfl, (by decide : (0 : Nat) < 18446744073709551616), (fun _ h => by cases h), St.ownNil _ _ h⟩ ?_
  clear h
  rintro ⟨i, vs, last, a, c1⟩ w e ⟨hi, hvl, hlast, hvs, h⟩
  dsimp only at hi hvl hlast hvs h ⊢
  refine c_seq ?_
  refine c_cut (Γ := Bool) (fun k => [(0, .slice sl us_.length c), (1, .int .i64 how), (5, .slice a vs.length c1), (6, .int .u64 last), (7, .int .i64 i), (16, .bool k)]) (fun k w => (k = true → i < us_.length ∧ i < 60) ∧ St w0 (OwnU a c1 vs :: l) w) ?_ ?_
  · refine c_region ?_
    refine r_v (q_moveI rfl) rfl ?_; refine r_v (q_moveS rfl) rfl ?_; refine r_v (q_len rfl) rfl ?_; refine r_v (q_lss rfl rfl) rfl ?_
    by_cases hin : i < us_.length
    · refine r_is (.bool true) (by simp; omega) ?_
      refine r_v (q_moveB rfl) rfl ?_; (first | refine r_gd rfl rfl ?_ | refine r_gn rfl rfl rfl ?_ | refine r_gu rfl rfl ?_ | refine r_gd rfl (by assumption) ?_ | refine r_gn rfl (by assumption) rfl ?_); refine r_v (q_moveI rfl) rfl ?_; (first | refine r_gd rfl rfl ?_ | refine r_gn rfl rfl rfl ?_ | refine r_gu rfl rfl ?_ | refine r_gd rfl (by assumption) ?_ | refine r_gn rfl (by assumption) rfl ?_); refine r_v (q_lss rfl rfl) rfl ?_; (first | refine r_v (q_pick1 rfl rfl rfl) rfl ?_ | refine r_v (q_pick0 rfl rfl rfl) rfl ?_ | refine r_v (q_pick1 rfl (by assumption) rfl) rfl ?_ | refine r_v (q_pick0 rfl (by assumption) rfl) rfl ?_ | refine r_v (q_pickB rfl rfl rfl) rfl ?_)
      exact r_nil ⟨decide ((i : Int) < 60), ⟨rfl, rfl, rfl, rfl, rfl, rfl, trivial⟩, fun hk => ⟨hin, by rw [decide_eq_true_eq] at hk; omega⟩, h⟩
    · refine r_is (.bool false) (by simp; omega) ?_
      refine r_v (q_moveB rfl) rfl ?_; (first | refine r_gd rfl rfl ?_ | refine r_gn rfl rfl rfl ?_ | refine r_gu rfl rfl ?_ | refine r_gd rfl (by assumption) ?_ | refine r_gn rfl (by assumption) rfl ?_); (first | refine r_gd rfl rfl ?_ | refine r_gn rfl rfl rfl ?_ | refine r_gu rfl rfl ?_ | refine r_gd rfl (by assumption) ?_ | refine r_gn rfl (by assumption) rfl ?_); (first | refine r_v (q_pick1 rfl rfl rfl) rfl ?_ | refine r_v (q_pick0 rfl rfl rfl) rfl ?_ | refine r_v (q_pick1 rfl (by assumption) rfl) rfl ?_ | refine r_v (q_pick0 rfl (by assumption) rfl) rfl ?_ | refine r_v (q_pickB rfl rfl rfl) rfl ?_)
      exact r_nil ⟨false, ⟨rfl, rfl, rfl, rfl, rfl, rfl, trivial⟩, (fun h => by cases h), h⟩
  clear h
  rintro k w e ⟨hk, h⟩
  refine c_cond k rfl (fun hc => ?_) (fun hc => ?_)
  ·
    obtain ⟨hin, hi60⟩ := hk hc
    have hg := List.getElem?_eq_getElem hin
    generalize us_[i] = x at hg
    have hx := hu x (List.mem_of_getElem? hg)
    obtain ⟨b, o, hsl⟩ := (hr.cons.at_ h).some (by omega)
    refine c_skip ?_
    refine c_seq (c_block ?_)
    refine c_seq (c_region ?_)
    refine r_v (q_moveS rfl) rfl ?_; refine r_v (q_moveI rfl) rfl ?_
    refine r_v (q_idx (b := b) (o := o) (m := us_.length) (c := c) (o' := o + i) (by rw [← hsl]; rfl) rfl rfl hin (by simp)) rfl ?_
    refine r_v (q_loadc (v := .int .u64 x) rfl ((hsl ▸ hr.cons.at_ h).cell (u64V_get hg))) rfl ?_
    refine r_v (q_assignI rfl) rfl ?_
    refine r_nil ?_
    refine c_cut (Γ := Nat) (fun k => [(0, .slice sl us_.length c), (1, .int .i64 how), (5, .slice a vs.length c1), (7, .int .i64 i), (8, .int .u64 k)]) (fun k w => k < 18446744073709551616 ∧ St w0 (OwnU a c1 vs :: l) w) ?_ ?_
    · refine c_seq (c_region ?_)
      refine r_v (q_moveI rfl) rfl ?_; refine r_v (q_and rfl rfl) rfl ?_
      refine r_int fun s _ => ?_
      refine r_nil ?_
      refine c_block ?_
      refine c_seq (c_region ?_)
      refine r_v (q_eql rfl rfl) rfl ?_; refine r_v (q_assignB rfl) rfl ?_
      refine r_nil (c_cond (s == 0) rfl (fun hc => ?_) (fun hc => ?_))
      · refine c_region ?_
        refine r_v (q_moveI rfl) rfl ?_; refine r_v (q_and rfl rfl) rfl ?_
        refine r_nat ⟨_, Nat.lt_of_le_of_lt Nat.and_le_left hx, (bit_u64 hx (by decide : (3 : Nat) < _)).1⟩ fun y hy => ?_
        refine r_v (q_assignI rfl) rfl ?_
        exact r_nil ⟨y, ⟨rfl, rfl, rfl, rfl, rfl, trivial⟩, hy, h⟩
      refine c_seq (c_region ?_)
      refine r_v (q_eql rfl rfl) rfl ?_; refine r_v (q_assignB rfl) rfl ?_
      refine r_nil (c_cond (s == 1) rfl (fun hc => ?_) (fun hc => ?_))
      · refine c_region ?_
        refine r_v (q_moveI rfl) rfl ?_; refine r_v (q_moveI rfl) rfl ?_; refine r_v (q_and rfl rfl) rfl ?_; refine r_v (q_add rfl rfl) rfl ?_
        refine r_nat (us_nat _) fun y hy => ?_
        refine r_v (q_assignI rfl) rfl ?_
        exact r_nil ⟨y, ⟨rfl, rfl, rfl, rfl, rfl, trivial⟩, hy, h⟩
      refine c_seq (c_region ?_)
      refine r_v (q_eql rfl rfl) rfl ?_; refine r_v (q_assignB rfl) rfl ?_
      refine r_nil (c_cond (s == 2) rfl (fun hc => ?_) (fun hc => ?_))
      · refine c_region ?_
        refine r_v (q_moveI rfl) rfl ?_; refine r_v (q_moveI rfl) rfl ?_; refine r_v (q_and rfl rfl) rfl ?_
        refine r_is (.int .u64 ((x &&& 63 : Nat) : Int)) (congrArg (Value.int .u64) (bit_u64 hx (by decide : (63 : Nat) < _)).1) ?_
        refine r_v (q_shl rfl rfl (by omega)) rfl ?_
        refine r_nat (us_nat _) fun z hz => ?_
        refine r_v (q_xor rfl rfl) rfl ?_
        refine r_nat ⟨_, Nat.xor_lt_two_pow (n := 64) hlast hz, (bit_u64 hlast hz).2.2⟩ fun y hy => ?_
        refine r_v (q_assignI rfl) rfl ?_
        exact r_nil ⟨y, ⟨rfl, rfl, rfl, rfl, rfl, trivial⟩, hy, h⟩
      refine c_seq (c_region ?_)
      refine r_v (q_eql rfl rfl) rfl ?_; refine r_v (q_assignB rfl) rfl ?_
      refine r_nil (c_cond (s == 3) rfl (fun hc => ?_) (fun hc => ?_))
      · refine c_region ?_
        refine r_v (q_moveI rfl) rfl ?_; refine r_v (q_and rfl rfl) rfl ?_; refine r_v (q_mul rfl rfl) rfl ?_
        refine r_nat (us_nat _) fun y hy => ?_
        refine r_v (q_assignI rfl) rfl ?_
        exact r_nil ⟨y, ⟨rfl, rfl, rfl, rfl, rfl, trivial⟩, hy, h⟩
      refine c_seq (c_region ?_)
      refine r_v (q_eql rfl rfl) rfl ?_; refine r_v (q_assignB rfl) rfl ?_
      refine r_nil (c_cond (s == 4) rfl (fun hc => ?_) (fun hc => ?_))
      · refine c_region ?_
        refine r_v (q_moveI rfl) rfl ?_; refine r_v (q_moveI rfl) rfl ?_; refine r_v (q_and rfl rfl) rfl ?_; refine r_v (q_add rfl rfl) rfl ?_; refine r_v (q_sub rfl rfl) rfl ?_
        refine r_nat (us_nat _) fun y hy => ?_
        refine r_v (q_assignI rfl) rfl ?_
        exact r_nil ⟨y, ⟨rfl, rfl, rfl, rfl, rfl, trivial⟩, hy, h⟩
      refine c_seq (c_region ?_)
      refine r_v (q_eql rfl rfl) rfl ?_; refine r_v (q_assignB rfl) rfl ?_
      refine r_nil (c_cond (s == 5) rfl (fun hc => ?_) (fun hc => ?_))
      · refine c_region ?_
        refine r_v (q_moveI rfl) rfl ?_
        refine r_v (q_is (v' := .int .u64 ((x / 2 ^ 4 : Nat) : Int)) (q_shr rfl rfl (by omega)) (congrArg (Value.int .u64) (fdiv_nat x 4 64 (by decide)))) rfl ?_
        refine r_v (q_assignI rfl) rfl ?_
        exact r_nil ⟨x / 2 ^ 4, ⟨rfl, rfl, rfl, rfl, rfl, trivial⟩, Nat.lt_of_le_of_lt (Nat.div_le_self _ _) hx, h⟩
      · exact c_skip ⟨x, ⟨rfl, rfl, rfl, rfl, rfl, trivial⟩, hx, h⟩
    clear h
    rintro n w e ⟨hnI, h⟩
    refine c_seq (c_region ?_)
    refine r_v (q_moveS rfl) rfl ?_; refine r_v (q_moveI rfl) rfl ?_
    refine r_c rfl (x_bslice (r := u64V [n]) h rfl rfl rfl fun b2 w h => ?_)
    refine r_c rfl (x_append' (ys := u64V [n]) (zs := u64V (vs ++ [n])) (m3 := (vs ++ [n]).length) (h.f 1) rfl rfl ⟨rfl, .inr ⟨b2, 0, rfl, at_of (h.b 0 rfl) rfl⟩⟩ (u64V_one _) (by simp) (by simp [u64V]) (by simp; omega) (by simp; omega) rfl fun a2 c2 w _ h => ?_)
    refine r_v (q_assignS rfl) rfl ?_
    refine r_nil ?_
    refine c_region ?_
    refine r_v (q_moveI rfl) rfl ?_; refine r_v (q_assignI rfl) rfl ?_
    refine r_nil ?_
    refine c_region ?_
    refine r_v (q_moveI rfl) rfl ?_; refine r_v (q_add rfl rfl) rfl ?_
    refine r_is (.int .i64 ((i + 1 : Nat) : Int)) (by rw [wrap64 (by omega) (by omega)]; rfl) ?_
    refine r_v (q_assignI rfl) rfl ?_
    refine r_nil ⟨(i + 1, vs ++ [n], n, a2, c2), ⟨rfl, rfl, rfl, rfl, rfl, trivial⟩, ⟨hi60, by simp; omega, hnI, fun t ht => ?_, (h.f 1).drop⟩, by dsimp only; omega⟩
    rcases List.mem_append.1 ht with ht | ht
    · exact hvs t ht
    · simp at ht; subst ht; exact hnI
  refine c_exit ?_
  refine c_seq (c_region ?_)
  refine r_v (q_moveS rfl) rfl ?_; refine r_v (q_assignS rfl) rfl ?_
  refine r_nil ?_
  exact c_ret (bq1 ⟨a, c1, vs, by omega, hvs, rfl, h⟩)

theorem law10_Row {st : Option Addr} {ct : Nat} {xs : List Int} {sv : Option Addr} {cv : Nat} {us_ : List Nat} (how : Int) (hx : ∀ x ∈ xs, I64 x) (hn : xs.length ≤ 9223372036854775807) (hrt : Reads w0 l 1 st xs.length (i64V xs))
    (hu : ∀ x ∈ us_, x < 18446744073709551616) (hnu : us_.length ≤ 9223372036854775807) (hrv : Reads w0 l 1 sv us_.length (u64V us_)) (h : St w0 l w) :
    Ret Tryd.prog 15 [.slice st xs.length ct, .slice sv us_.length cv, .int .i64 how] w fun v w' => ∃ a c L, L.length ≤ 60 ∧ (∀ s ∈ L, s.Wf) ∧ rises L = true ∧ v = .slice a L.length c ∧ St w0 (OwnS a c L :: l) w' := by
  refine enter Tryd.func15 rfl Tryd.results15 Tryd.ntmps15 rfl ?_
  refine c_seq (c_region ?_)
  refine r_v (q_assignS rfl) rfl ?_
  refine r_nil ?_
  refine c_seq (c_region ?_)
  refine r_v (q_assignS rfl) rfl ?_
  refine r_nil ?_
  refine c_seq (c_region ?_)
  refine r_v (q_moveS rfl) rfl ?_; refine r_v (q_moveI rfl) rfl ?_
  refine r_v (q_shr rfl rfl (by omega)) rfl ?_
  refine r_v (q_and rfl rfl) rfl ?_; refine r_v (q_eql rfl rfl) rfl ?_
  refine r_bool fun bw _ => ?_
  refine r_c rfl (x_call rfl (law4_Times bw hx hn hrt h) ?_)
  rintro _ w ⟨ta, tc, ts, htl, hti, rfl, h⟩
  refine r_v (q_assignS rfl) rfl ?_
  refine r_nil ?_
  refine c_seq (c_region ?_)
  refine r_v (q_moveS rfl) rfl ?_; refine r_v (q_moveI rfl) rfl ?_
  refine r_c rfl (x_call rfl (law5_Values how hu hnu hrv.cons h) ?_)
  rintro _ w ⟨va, vc, vs, hvl, hvi, rfl, h⟩
  refine r_v (q_assignS rfl) rfl ?_
  refine r_nil ?_
  refine c_seq (c_seq (c_region ?_))
  refine r_v (q_moveS rfl) rfl ?_; refine r_v (q_len rfl) rfl ?_; refine r_v (q_moveI rfl) rfl ?_
  refine r_nil ?_
  refine c_block ?_
  refine c_loop (Γ := Nat × List Smp × Option Addr × Nat) (fun k => [(7, .slice k.2.2.1 k.2.1.length k.2.2.2), (8, .slice ta ts.length tc), (9, .slice va vs.length vc), (22, .int .i64 ts.length), (23, .int .i64 k.1)])
    (fun k w => k.1 ≤ ts.length ∧ k.2.1.length ≤ k.1 ∧ (∀ s ∈ k.2.1, s.Wf) ∧ rises k.2.1 = true ∧ St w0 (OwnS k.2.2.1 k.2.2.2 k.2.1 :: OwnU va vc vs :: OwnT64 ta tc ts :: l) w) (fun k => ts.length - k.1) (0, [], none, 0) ⟨rfl, rfl, rfl, rfl, rfl, trivial⟩ ⟨Nat.zero_le _, Nat.zero_le _, (fun _ h => by cases h), rfl, St.ownNil _ _ h⟩ ?_
  clear h
  rintro ⟨i, L, a, c⟩ w e ⟨hi, hLi, hwf, hris, h⟩
  dsimp only at hi hLi hwf hris h ⊢
  refine c_seq (c_region ?_)
  refine r_v (q_lss rfl rfl) rfl ?_
  refine r_nil ?_
  refine c_seq (c_cond (decide ((i : Int) < (ts.length : Int))) rfl (fun hc => ?_) (fun hc => ?_))
  ·
    have hlt : i < ts.length := by simp at hc; omega
    have hg := List.getElem?_eq_getElem hlt
    generalize ts[i] = t at hg
    have htI := hti t (List.mem_of_getElem? hg)
    obtain ⟨bt, htsl⟩ := (h.f 2).own_some (by omega)
    refine c_skip ?_
    refine c_cut (Γ := List Smp × Option Addr × Nat) (fun k => [(7, .slice k.2.1 k.1.length k.2.2), (8, .slice ta ts.length tc), (9, .slice va vs.length vc), (22, .int .i64 ts.length), (23, .int .i64 i)])
      (fun k w => k.1.length ≤ i + 1 ∧ (∀ s ∈ k.1, s.Wf) ∧ rises k.1 = true ∧ St w0 (OwnS k.2.1 k.2.2 k.1 :: OwnU va vc vs :: OwnT64 ta tc ts :: l) w) ?_ ?_
    · refine c_block ?_
      refine c_seq (c_region ?_)
      refine r_v (q_moveI rfl) rfl ?_; refine r_v (q_assignI rfl) rfl ?_
      refine r_nil ?_
      refine c_seq (c_region ?_)
      refine r_v (q_moveS rfl) rfl ?_; refine r_v (q_moveI rfl) rfl ?_
      refine r_v (q_idx (b := bt) (o := 0) (m := ts.length) (c := tc) (o' := i) (by rw [← htsl]; rfl) rfl rfl hlt (by simp)) rfl ?_
      refine r_v (q_loadc (v := .int .i64 t) rfl (by have := (htsl ▸ (h.f 2).own_rd).cell (i64V_get hg); simpa using this)) rfl ?_
      refine r_v (q_build (r := (Smp.mk t 0).cells) rfl) rfl ?_
      refine r_c rfl (x_alloc h fun b11 w h => ?_)
      refine r_c rfl (x_storeA (vs := (Smp.mk t 0).cells) 0 h rfl rfl rfl rfl rfl rfl rfl fun w h => ?_)
      replace h : St w0 (pt b11 (.cells (Smp.mk t 0).cells.toArray 25 (0, 0)) :: OwnS a c L :: OwnU va vc vs :: OwnT64 ta tc ts :: l) w := h
      refine r_nil ?_
      refine c_cut (Γ := Nat) (fun _ => [(7, .slice a L.length c), (8, .slice ta ts.length tc), (9, .slice va vs.length vc), (11, .pointer (some ⟨b11, 0, none⟩)), (22, .int .i64 ts.length), (23, .int .i64 i)])
        (fun V w => V < 18446744073709551616 ∧ St w0 (pt b11 (.cells (Smp.mk t V).cells.toArray 25 (0, 0)) :: OwnS a c L :: OwnU va vc vs :: OwnT64 ta tc ts :: l) w) ?_ ?_
      · refine c_seq (c_region ?_)
        refine r_v (q_moveS rfl) rfl ?_; refine r_v (q_len rfl) rfl ?_; refine r_v (q_gtr rfl rfl) rfl ?_
        refine r_nil (c_cond (decide ((vs.length : Int) > 0)) rfl (fun hc => ?_) (fun hc => ?_))
        · have hpos : 0 < vs.length := by simp at hc; omega
          have hgv := List.getElem?_eq_getElem (Nat.mod_lt i hpos)
          generalize vs[i % vs.length]'(Nat.mod_lt i hpos) = y at hgv
          have hy := hvi y (List.mem_of_getElem? hgv)
          obtain ⟨bv, hvsl⟩ := (h.f 2).own_some hpos
          refine c_region ?_
          refine r_v (q_moveS rfl) rfl ?_; refine r_v (q_moveI rfl) rfl ?_; refine r_v (q_moveS rfl) rfl ?_; refine r_v (q_len rfl) rfl ?_
          refine r_v (q_is (v' := .int .i64 ((i % vs.length : Nat) : Int)) (q_rem rfl rfl (by omega)) (congrArg (Value.int .i64) (tmod_nat _ _))) rfl ?_
          refine r_v (q_idx (b := bv) (o := 0) (m := vs.length) (c := vc) (o' := i % vs.length) (by rw [← hvsl]; rfl) rfl rfl (Nat.mod_lt i hpos) (by simp)) rfl ?_
          refine r_v (q_loadc (v := .int .u64 y) rfl (by have := (hvsl ▸ (h.f 2).own_rd).cell (u64V_get hgv); simpa using this)) rfl ?_
          refine r_v (q_fa rfl) rfl ?_
          refine r_c rfl (x_store 0 h rfl (show _ = Value.int .u64 (y : Int) from rfl) rfl rfl rfl rfl fun w h => ?_)
          exact r_nil ⟨y, ⟨rfl, rfl, rfl, rfl, rfl, rfl, trivial⟩, hy, h⟩
        · exact c_skip ⟨0, ⟨rfl, rfl, rfl, rfl, rfl, rfl, trivial⟩, by decide, h⟩
      clear h
      rintro V w e ⟨hV, h⟩
      have hsW : (Smp.mk t (V : Int)).Wf := ⟨htI, by dsimp only; omega, by dsimp only; omega⟩
      refine c_cut (Γ := Bool) (fun k => [(7, .slice a L.length c), (8, .slice ta ts.length tc), (9, .slice va vs.length vc), (11, .pointer (some ⟨b11, 0, none⟩)), (22, .int .i64 ts.length), (23, .int .i64 i), (56, .bool k)])
        (fun k w => (k = true → ∀ x, L.getLast? = some x → x.T < t) ∧ St w0 (pt b11 (.cells (Smp.mk t V).cells.toArray 25 (0, 0)) :: OwnS a c L :: OwnU va vc vs :: OwnT64 ta tc ts :: l) w) ?_ ?_
      · by_cases hL0 : L.length = 0
        · have hLn : L = [] := List.eq_nil_of_length_eq_zero hL0
          refine c_any none (fun w => St w0 _ w) (by kernel_rfl) (by kernel_rfl) h.drew fun w h => ?_
          refine cur_pure rfl rfl rfl rfl (fun _ => h) (fun _ => flt_v rfl (q_moveS rfl)) ?_; refine cur_pure rfl rfl rfl rfl (fun _ => h) (fun _ => flt_v rfl (q_len rfl)) ?_
          refine cur_pure rfl rfl rfl rfl (fun _ => h) (fun _ => flt_v rfl (q_is (v' := .bool true) (q_eql rfl rfl) (by rw [hL0]; rfl))) ?_
          refine cur_pure rfl rfl rfl rfl (fun _ => h) (fun _ => flt_v rfl (q_moveB rfl)) ?_; (first | refine cur_pure rfl rfl rfl rfl (fun _ => h) (fun _ => flt_g rfl rfl (q_nil rfl)) ?_ | refine cur_pure rfl rfl rfl rfl (fun _ => h) (fun _ => flt_g rfl (by assumption) (q_nil rfl)) ?_ | refine cur_pure rfl rfl rfl rfl (fun _ => h) (fun _ => flt_n rfl rfl) ?_ | refine cur_pure rfl rfl rfl rfl (fun _ => h) (fun _ => flt_n rfl (by assumption)) ?_); (first | refine cur_pure rfl rfl rfl rfl (fun _ => h) (fun _ => flt_g rfl rfl (q_nil rfl)) ?_ | refine cur_pure rfl rfl rfl rfl (fun _ => h) (fun _ => flt_g rfl (by assumption) (q_nil rfl)) ?_ | refine cur_pure rfl rfl rfl rfl (fun _ => h) (fun _ => flt_n rfl rfl) ?_ | refine cur_pure rfl rfl rfl rfl (fun _ => h) (fun _ => flt_n rfl (by assumption)) ?_); (first | refine cur_pure rfl rfl rfl rfl (fun _ => h) (fun _ => flt_g rfl rfl (q_nil rfl)) ?_ | refine cur_pure rfl rfl rfl rfl (fun _ => h) (fun _ => flt_g rfl (by assumption) (q_nil rfl)) ?_ | refine cur_pure rfl rfl rfl rfl (fun _ => h) (fun _ => flt_n rfl rfl) ?_ | refine cur_pure rfl rfl rfl rfl (fun _ => h) (fun _ => flt_n rfl (by assumption)) ?_); (first | refine cur_pure rfl rfl rfl rfl (fun _ => h) (fun _ => flt_g rfl rfl (q_nil rfl)) ?_ | refine cur_pure rfl rfl rfl rfl (fun _ => h) (fun _ => flt_g rfl (by assumption) (q_nil rfl)) ?_ | refine cur_pure rfl rfl rfl rfl (fun _ => h) (fun _ => flt_n rfl rfl) ?_ | refine cur_pure rfl rfl rfl rfl (fun _ => h) (fun _ => flt_n rfl (by assumption)) ?_); (first | refine cur_pure rfl rfl rfl rfl (fun _ => h) (fun _ => flt_g rfl rfl (q_nil rfl)) ?_ | refine cur_pure rfl rfl rfl rfl (fun _ => h) (fun _ => flt_g rfl (by assumption) (q_nil rfl)) ?_ | refine cur_pure rfl rfl rfl rfl (fun _ => h) (fun _ => flt_n rfl rfl) ?_ | refine cur_pure rfl rfl rfl rfl (fun _ => h) (fun _ => flt_n rfl (by assumption)) ?_); (first | refine cur_pure rfl rfl rfl rfl (fun _ => h) (fun _ => flt_g rfl rfl (q_nil rfl)) ?_ | refine cur_pure rfl rfl rfl rfl (fun _ => h) (fun _ => flt_g rfl (by assumption) (q_nil rfl)) ?_ | refine cur_pure rfl rfl rfl rfl (fun _ => h) (fun _ => flt_n rfl rfl) ?_ | refine cur_pure rfl rfl rfl rfl (fun _ => h) (fun _ => flt_n rfl (by assumption)) ?_); (first | refine cur_pure rfl rfl rfl rfl (fun _ => h) (fun _ => flt_g rfl rfl (q_nil rfl)) ?_ | refine cur_pure rfl rfl rfl rfl (fun _ => h) (fun _ => flt_g rfl (by assumption) (q_nil rfl)) ?_ | refine cur_pure rfl rfl rfl rfl (fun _ => h) (fun _ => flt_n rfl rfl) ?_ | refine cur_pure rfl rfl rfl rfl (fun _ => h) (fun _ => flt_n rfl (by assumption)) ?_); (first | refine cur_pure rfl rfl rfl rfl (fun _ => h) (fun _ => flt_g rfl rfl (q_nil rfl)) ?_ | refine cur_pure rfl rfl rfl rfl (fun _ => h) (fun _ => flt_g rfl (by assumption) (q_nil rfl)) ?_ | refine cur_pure rfl rfl rfl rfl (fun _ => h) (fun _ => flt_n rfl rfl) ?_ | refine cur_pure rfl rfl rfl rfl (fun _ => h) (fun _ => flt_n rfl (by assumption)) ?_); (first | refine cur_pure rfl rfl rfl rfl (fun _ => h) (fun _ => flt_g rfl rfl (q_nil rfl)) ?_ | refine cur_pure rfl rfl rfl rfl (fun _ => h) (fun _ => flt_g rfl (by assumption) (q_nil rfl)) ?_ | refine cur_pure rfl rfl rfl rfl (fun _ => h) (fun _ => flt_n rfl rfl) ?_ | refine cur_pure rfl rfl rfl rfl (fun _ => h) (fun _ => flt_n rfl (by assumption)) ?_); (first | refine cur_pure rfl rfl rfl rfl (fun _ => h) (fun _ => flt_g rfl rfl (q_nil rfl)) ?_ | refine cur_pure rfl rfl rfl rfl (fun _ => h) (fun _ => flt_g rfl (by assumption) (q_nil rfl)) ?_ | refine cur_pure rfl rfl rfl rfl (fun _ => h) (fun _ => flt_n rfl rfl) ?_ | refine cur_pure rfl rfl rfl rfl (fun _ => h) (fun _ => flt_n rfl (by assumption)) ?_); (first | refine cur_pure rfl rfl rfl rfl (fun _ => h) (fun _ => flt_v rfl (q_pick1 rfl rfl rfl)) ?_ | refine cur_pure rfl rfl rfl rfl (fun _ => h) (fun _ => flt_v rfl (q_pick0 rfl rfl rfl)) ?_ | refine cur_pure rfl rfl rfl rfl (fun _ => h) (fun _ => flt_v rfl (q_pick1 rfl (by assumption) rfl)) ?_ | refine cur_pure rfl rfl rfl rfl (fun _ => h) (fun _ => flt_v rfl (q_pick0 rfl (by assumption) rfl)) ?_ | refine cur_pure rfl rfl rfl rfl (fun _ => h) (fun _ => flt_v rfl (q_pickB rfl rfl rfl)) ?_)
          exact cur_end ⟨true, ⟨rfl, rfl, rfl, rfl, rfl, rfl, rfl, trivial⟩, (fun _ x hx => by rw [hLn] at hx; cases hx), h⟩
        · have hgl := List.getElem?_eq_getElem (show L.length - 1 < L.length by omega)
          generalize L[L.length - 1]'(by omega) = z at hgl
          obtain ⟨bl, hlsl⟩ := (h.f 1).own_some (by omega)
          have hzc : ∀ {w'}, St w0 (pt b11 (.cells (Smp.mk t V).cells.toArray 25 (0, 0)) :: OwnS a c L :: OwnU va vc vs :: OwnT64 ta tc ts :: l) w' → w'.cell? ⟨bl, (L.length - 1) * 2 + 0, none⟩ = some (.int .i64 z.T) := fun h' => by
            have := (hlsl ▸ (h'.f 1).own_rd).elem smp_len hgl 0 _ rfl
            simpa using this
          refine c_any none (fun w => St w0 _ w) (by kernel_rfl) (by kernel_rfl) h.drew fun w h => ?_
          refine cur_pure rfl rfl rfl rfl (fun _ => h) (fun _ => flt_v rfl (q_moveS rfl)) ?_; refine cur_pure rfl rfl rfl rfl (fun _ => h) (fun _ => flt_v rfl (q_len rfl)) ?_
          refine cur_pure rfl rfl rfl rfl (fun _ => h) (fun _ => flt_v rfl (q_is (v' := .bool false) (q_eql rfl rfl) (by congr 1; rw [beq_eq_false_iff_ne]; omega))) ?_
          refine cur_pure rfl rfl rfl rfl (fun _ => h) (fun _ => flt_v rfl (q_moveB rfl)) ?_; (first | refine cur_pure rfl rfl rfl rfl (fun _ => h) (fun _ => flt_g rfl rfl (q_fa rfl)) ?_ | refine cur_pure rfl rfl rfl rfl (fun _ => h) (fun _ => flt_g rfl (by assumption) (q_fa rfl)) ?_ | refine cur_pure rfl rfl rfl rfl (fun _ => h) (fun _ => flt_n rfl rfl) ?_ | refine cur_pure rfl rfl rfl rfl (fun _ => h) (fun _ => flt_n rfl (by assumption)) ?_)
          refine cur_float rfl rfl rfl rfl h (fun _ h => flt_g rfl rfl (q_load (v := .int .i64 t) rfl (h.b 0 rfl) rfl)) ?_
          (first | refine cur_pure rfl rfl rfl rfl (fun _ => h) (fun _ => flt_g rfl rfl (q_moveS rfl)) ?_ | refine cur_pure rfl rfl rfl rfl (fun _ => h) (fun _ => flt_g rfl (by assumption) (q_moveS rfl)) ?_ | refine cur_pure rfl rfl rfl rfl (fun _ => h) (fun _ => flt_n rfl rfl) ?_ | refine cur_pure rfl rfl rfl rfl (fun _ => h) (fun _ => flt_n rfl (by assumption)) ?_); (first | refine cur_pure rfl rfl rfl rfl (fun _ => h) (fun _ => flt_g rfl rfl (q_moveS rfl)) ?_ | refine cur_pure rfl rfl rfl rfl (fun _ => h) (fun _ => flt_g rfl (by assumption) (q_moveS rfl)) ?_ | refine cur_pure rfl rfl rfl rfl (fun _ => h) (fun _ => flt_n rfl rfl) ?_ | refine cur_pure rfl rfl rfl rfl (fun _ => h) (fun _ => flt_n rfl (by assumption)) ?_); (first | refine cur_pure rfl rfl rfl rfl (fun _ => h) (fun _ => flt_g rfl rfl (q_len rfl)) ?_ | refine cur_pure rfl rfl rfl rfl (fun _ => h) (fun _ => flt_g rfl (by assumption) (q_len rfl)) ?_ | refine cur_pure rfl rfl rfl rfl (fun _ => h) (fun _ => flt_n rfl rfl) ?_ | refine cur_pure rfl rfl rfl rfl (fun _ => h) (fun _ => flt_n rfl (by assumption)) ?_)
          refine cur_pure rfl rfl rfl rfl (fun _ => h) (fun _ => flt_g rfl rfl (q_is (v' := .int .i64 ((L.length - 1 : Nat) : Int)) (q_sub rfl rfl) (by rw [wrap64 (by omega) (by omega)]; congr 1; omega))) ?_
          refine cur_pure rfl rfl rfl rfl (fun _ => h) (fun _ => flt_g rfl rfl (q_idx (b := bl) (o := 0) (m := L.length) (c := c) (o' := (L.length - 1) * 2) (by rw [← hlsl]; rfl) rfl rfl (by omega) (by simp))) ?_
          (first | refine cur_pure rfl rfl rfl rfl (fun _ => h) (fun _ => flt_g rfl rfl (q_fa rfl)) ?_ | refine cur_pure rfl rfl rfl rfl (fun _ => h) (fun _ => flt_g rfl (by assumption) (q_fa rfl)) ?_ | refine cur_pure rfl rfl rfl rfl (fun _ => h) (fun _ => flt_n rfl rfl) ?_ | refine cur_pure rfl rfl rfl rfl (fun _ => h) (fun _ => flt_n rfl (by assumption)) ?_)
          refine cur_float rfl rfl rfl rfl h (fun w h => flt_g rfl rfl (q_loadc (v := .int .i64 z.T) rfl (hzc h))) ?_
          (first | refine cur_pure rfl rfl rfl rfl (fun _ => h) (fun _ => flt_g rfl rfl (q_gtr rfl rfl)) ?_ | refine cur_pure rfl rfl rfl rfl (fun _ => h) (fun _ => flt_g rfl (by assumption) (q_gtr rfl rfl)) ?_ | refine cur_pure rfl rfl rfl rfl (fun _ => h) (fun _ => flt_n rfl rfl) ?_ | refine cur_pure rfl rfl rfl rfl (fun _ => h) (fun _ => flt_n rfl (by assumption)) ?_); (first | refine cur_pure rfl rfl rfl rfl (fun _ => h) (fun _ => flt_v rfl (q_pick1 rfl rfl rfl)) ?_ | refine cur_pure rfl rfl rfl rfl (fun _ => h) (fun _ => flt_v rfl (q_pick0 rfl rfl rfl)) ?_ | refine cur_pure rfl rfl rfl rfl (fun _ => h) (fun _ => flt_v rfl (q_pick1 rfl (by assumption) rfl)) ?_ | refine cur_pure rfl rfl rfl rfl (fun _ => h) (fun _ => flt_v rfl (q_pick0 rfl (by assumption) rfl)) ?_ | refine cur_pure rfl rfl rfl rfl (fun _ => h) (fun _ => flt_v rfl (q_pickB rfl rfl rfl)) ?_)
          refine cur_end ⟨decide (t > z.T), ⟨rfl, rfl, rfl, rfl, rfl, rfl, rfl, trivial⟩, fun hk x hx => ?_, h⟩
          rw [decide_eq_true_eq] at hk
          rw [List.getLast?_eq_getElem?, hgl] at hx
          cases hx
          exact hk
      clear h
      rintro k w e ⟨hk, h⟩
      refine c_cond k rfl (fun hc => ?_) (fun hc => ?_)
      · refine c_region ?_
        refine r_v (q_moveS rfl) rfl ?_
        refine r_v (q_loadS (l := (Smp.mk t V).cells) rfl rfl (at_of (h.b 0 rfl) rfl)) rfl ?_
        refine r_c rfl (x_bslice (r := smpsV [Smp.mk t V]) h rfl rfl rfl fun b2 w h => ?_)
        refine r_c rfl (x_append' (ys := smpsV [Smp.mk t V]) (zs := smpsV (L ++ [Smp.mk t V])) (m3 := (L ++ [Smp.mk t V]).length) (h.f 2) rfl rfl ⟨rfl, .inr ⟨b2, 0, rfl, at_of (h.b 0 rfl) rfl⟩⟩ (smps_one _) (by simp) (by simp [smpsV]) (by simp; omega) (by simp; omega) rfl fun a2 c2 w _ h => ?_)
        refine r_v (q_assignS rfl) rfl ?_
        refine r_nil ⟨(L ++ [Smp.mk t V], a2, c2), ⟨rfl, rfl, rfl, rfl, rfl, trivial⟩, by simp; omega, fun s hs => ?_, rises_snoc hris (hk hc), ?_⟩
        · rcases List.mem_append.1 hs with hs | hs
          · exact hwf s hs
          · simp at hs; subst hs; exact hsW
        · exact ((h.f 1).drop.f 1).drop
      · exact c_skip ⟨(L, a, c), ⟨rfl, rfl, rfl, rfl, rfl, trivial⟩, by dsimp only; omega, hwf, hris, h.drop⟩
    clear h hwf hris hLi
    rintro ⟨L, a, c⟩ w e ⟨hLi, hwf, hris, h⟩
    dsimp only at hLi hwf hris h ⊢
    refine c_region ?_
    refine r_v (q_add rfl rfl) rfl ?_
    refine r_is (.int .i64 ((i + 1 : Nat) : Int)) (by rw [wrap64 (by omega) (by omega)]; rfl) ?_
    refine r_v (q_moveI rfl) rfl ?_
    exact r_nil ⟨(i + 1, L, a, c), ⟨rfl, rfl, rfl, rfl, rfl, trivial⟩, ⟨hlt, hLi, hwf, hris, h⟩, by dsimp only; omega⟩
  refine c_exit ?_
  refine c_seq (c_region ?_)
  refine r_v (q_moveS rfl) rfl ?_; refine r_v (q_assignS rfl) rfl ?_
  refine r_nil ?_
  exact c_ret (bq1 ⟨a, c, L, by omega, hwf, hris, rfl, (((h.f 1).drop.f 1).drop)⟩)
end
end Go.Proofs.YtjjacchnalemaaaDoor
