/- simp: small numbers, many to a word: telling them. -/
import Derived.Test.YtjjacchnalemaaaDoorMb
import Derived.Test.YtjjacchnalemaaaDoorSl
import Derived.Test.YtjjacchnalemaaaDoorHe
namespace Go.Hw
theorem packW_snoc (b : Nat) : ∀ (l : List Nat) (x : Nat), packW b (l ++ [x]) = packW b l + 2 ^ (b * l.length) * x
  | [], x => by simp [packW]
  | y :: l, x => by
    have hp : 2 ^ (b * (l.length + 1)) = 2 ^ b * 2 ^ (b * l.length) := by rw [Nat.mul_add, Nat.mul_one, Nat.add_comm, Nat.pow_add]
    rw [List.cons_append, packW, packW, packW_snoc b l x, List.length_cons, hp, Nat.mul_add, Nat.mul_assoc, Nat.add_assoc]
theorem or_three {I p y s : Nat} (hp : p < 2 ^ s) (hy : p + y * 2 ^ s < 1152921504606846976) : (I * 1152921504606846976 + p) ||| (y * 2 ^ s) = I * 1152921504606846976 + (p + y * 2 ^ s) := by
  have h1 : I * 1152921504606846976 + p = 2 ^ 60 * I ||| p := by
    rw [← Nat.two_pow_add_eq_or_of_lt (i := 60) (by omega), Nat.mul_comm]
  have h2 : I * 1152921504606846976 + (p + y * 2 ^ s) = 2 ^ 60 * I ||| (p + y * 2 ^ s) := by
    rw [← Nat.two_pow_add_eq_or_of_lt (i := 60) hy, Nat.mul_comm]
  rw [h1, h2, ← or_shift hp, Nat.or_assoc]
end Go.Hw
namespace Go.Proofs.YtjjacchnalemaaaDoor
open Go.Hw
set_option maxHeartbeats 4000000
set_option maxRecDepth 100000
def kindC (k : Nat × Nat) : List Value := [.int .i64 k.1, .int .i64 k.2]
theorem kindC_len (k : Nat × Nat) : (kindC k).length = 2 := rfl
section
variable {w0 w : World} {l : List HProp}
abbrev KindsPt (b : Nat) : HProp := pt b (.cells (kindsL.flatMap kindC).toArray 150 (0, 0))
theorem simp_kinds (h : St w0 l w) : Ret Tryd.prog 101 [] w fun v w' => ∃ b, v = .slice (some ⟨b, 0, none⟩) 16 16 ∧ St w0 (KindsPt b :: l) w' := by
  refine enter Tryd.func101 rfl Tryd.results101 Tryd.ntmps101 rfl ?_
  refine c_seq (c_region ?_)
  refine r_v (q_assignS rfl) rfl ?_
  refine r_nil ?_
  refine c_seq (c_region ?_)
  refine r_v (q_build rfl) rfl ?_; refine r_v (q_build rfl) rfl ?_; refine r_v (q_build rfl) rfl ?_; refine r_v (q_build rfl) rfl ?_; refine r_v (q_build rfl) rfl ?_; refine r_v (q_build rfl) rfl ?_; refine r_v (q_build rfl) rfl ?_; refine r_v (q_build rfl) rfl ?_; refine r_v (q_build rfl) rfl ?_; refine r_v (q_build rfl) rfl ?_; refine r_v (q_build rfl) rfl ?_; refine r_v (q_build rfl) rfl ?_; refine r_v (q_build rfl) rfl ?_; refine r_v (q_build rfl) rfl ?_; refine r_v (q_build rfl) rfl ?_; refine r_v (q_build rfl) rfl ?_
  refine r_c rfl (x_bslice (r := kindsL.flatMap kindC) h rfl rfl rfl fun b w h => ?_)
  refine r_v (q_assignS rfl) rfl ?_
  refine r_nil ?_
  exact c_ret (bq1 ⟨b, rfl, h⟩)
theorem all_take_succ {u : List Nat} {j x : Nat} (p : Nat → Bool) (h : u[j]? = some x) (ha : (u.take j).all p = true) (hx : p x = true) : (u.take (j + 1)).all p = true := by
  rw [List.take_add_one, h, List.all_append, ha]; simp [hx]
theorem simp_fits {k : Nat × Nat} {sl : Option Addr} {c : Nat} {u : List Nat} (hk : k.1 ≤ 1000) (hk2 : k.2 ≤ 1000) (hu : ∀ x ∈ u, x < 18446744073709551616) (hn : u.length ≤ 65535) (hc : u.length ≤ c) (hr : Reads w0 l 1 sl u.length (u64V u)) (h : St w0 l w) :
    Ret Tryd.prog 117 [.agg (kindC k).toArray, .slice sl u.length c] w fun v w' => v = .tuple [.int .i64 (((fitsK k u).getD 0 : Nat)), .bool (fitsK k u).isSome].toArray ∧ St w0 l w' := by
  obtain ⟨k1, k2⟩ := k
  dsimp only at hk hk2
  refine enter Tryd.func117 rfl Tryd.results117 Tryd.ntmps117 rfl ?_
  refine c_seq (c_region ?_)
  refine r_c rfl (x_box h (show _ = Value.agg (kindC (k1, k2)).toArray from rfl) fun b w h => ?_)
  replace h : St w0 (pt b (.cells (kindC (k1, k2)).toArray 150 (0, 0)) :: l) w := h
  refine r_v (q_assignI rfl) rfl ?_; refine r_v (q_assignB rfl) rfl ?_
  refine r_nil ?_
  refine c_cut (Γ := Unit) (fun _ => [(1, .slice sl u.length c), (2, .pointer (some ⟨b, 0, none⟩))]) (fun _ w => ¬ (k2 = 0 ∧ u.length < k1) ∧ St w0 (pt b (.cells (kindC (k1, k2)).toArray 150 (0, 0)) :: l) w) ?_ ?_
  · refine c_seq (c_region ?_)
    refine r_v (q_fa rfl) rfl ?_; (first | refine r_v (q_load rfl (h.b 0) rfl) rfl ?_ | refine r_v (q_load rfl (h.b 1) rfl) rfl ?_ | refine r_v (q_load rfl (h.b 2) rfl) rfl ?_ | refine r_v (q_load rfl (h.b 3) rfl) rfl ?_ | refine r_v (q_load rfl (h.b 4) rfl) rfl ?_ | refine r_v (q_load rfl (h.b 5) rfl) rfl ?_); refine r_v (q_eql rfl rfl) rfl ?_
    by_cases h0 : k2 = 0
    · refine r_is (.bool true) (by subst h0; rfl) ?_
      refine r_v (q_moveB rfl) rfl ?_; (first | refine r_gd rfl rfl ?_ | refine r_gn rfl rfl rfl ?_ | refine r_gu rfl rfl ?_ | refine r_gd rfl (by assumption) ?_ | refine r_gn rfl (by assumption) rfl ?_); refine r_v (q_moveS rfl) rfl ?_; (first | refine r_gd rfl rfl ?_ | refine r_gn rfl rfl rfl ?_ | refine r_gu rfl rfl ?_ | refine r_gd rfl (by assumption) ?_ | refine r_gn rfl (by assumption) rfl ?_); refine r_v (q_len rfl) rfl ?_; (first | refine r_gd rfl rfl ?_ | refine r_gn rfl rfl rfl ?_ | refine r_gu rfl rfl ?_ | refine r_gd rfl (by assumption) ?_ | refine r_gn rfl (by assumption) rfl ?_); refine r_v (q_fa rfl) rfl ?_; (first | refine r_gd rfl rfl ?_ | refine r_gn rfl rfl rfl ?_ | refine r_gu rfl rfl ?_ | refine r_gd rfl (by assumption) ?_ | refine r_gn rfl (by assumption) rfl ?_); (first | refine r_v (q_load rfl (h.b 0) rfl) rfl ?_ | refine r_v (q_load rfl (h.b 1) rfl) rfl ?_ | refine r_v (q_load rfl (h.b 2) rfl) rfl ?_ | refine r_v (q_load rfl (h.b 3) rfl) rfl ?_ | refine r_v (q_load rfl (h.b 4) rfl) rfl ?_ | refine r_v (q_load rfl (h.b 5) rfl) rfl ?_); (first | refine r_gd rfl rfl ?_ | refine r_gn rfl rfl rfl ?_ | refine r_gu rfl rfl ?_ | refine r_gd rfl (by assumption) ?_ | refine r_gn rfl (by assumption) rfl ?_); refine r_v (q_lss rfl rfl) rfl ?_
      by_cases h1 : u.length < k1
      · refine r_is (.bool true) (by simp; omega) ?_
        (first | refine r_v (q_pick1 rfl rfl rfl) rfl ?_ | refine r_v (q_pick0 rfl rfl rfl) rfl ?_ | refine r_v (q_pick1 rfl (by assumption) rfl) rfl ?_ | refine r_v (q_pick0 rfl (by assumption) rfl) rfl ?_ | refine r_v (q_pickB rfl rfl rfl) rfl ?_)
        refine r_nil (c_true rfl ?_)
        refine c_seq (c_region ?_)
        refine r_v (q_assignI rfl) rfl ?_; refine r_v (q_assignB rfl) rfl ?_
        refine r_nil ?_
        have e1 : fitsK (k1, k2) u = none := by unfold fitsK; rw [if_pos ⟨h0, h1⟩]
        rw [e1]
        exact c_ret (bq2 ⟨rfl, h.drop⟩)
      · refine r_is (.bool false) (by simp; omega) ?_
        (first | refine r_v (q_pick1 rfl rfl rfl) rfl ?_ | refine r_v (q_pick0 rfl rfl rfl) rfl ?_ | refine r_v (q_pick1 rfl (by assumption) rfl) rfl ?_ | refine r_v (q_pick0 rfl (by assumption) rfl) rfl ?_ | refine r_v (q_pickB rfl rfl rfl) rfl ?_)
        exact r_nil (c_false rfl (c_skip ⟨(), ⟨rfl, rfl, trivial⟩, fun hh => h1 hh.2, h⟩))
    · refine r_is (.bool false) (by congr 1; rw [beq_eq_false_iff_ne]; omega) ?_
      refine r_v (q_moveB rfl) rfl ?_; (first | refine r_gd rfl rfl ?_ | refine r_gn rfl rfl rfl ?_ | refine r_gu rfl rfl ?_ | refine r_gd rfl (by assumption) ?_ | refine r_gn rfl (by assumption) rfl ?_); (first | refine r_gd rfl rfl ?_ | refine r_gn rfl rfl rfl ?_ | refine r_gu rfl rfl ?_ | refine r_gd rfl (by assumption) ?_ | refine r_gn rfl (by assumption) rfl ?_); (first | refine r_gd rfl rfl ?_ | refine r_gn rfl rfl rfl ?_ | refine r_gu rfl rfl ?_ | refine r_gd rfl (by assumption) ?_ | refine r_gn rfl (by assumption) rfl ?_); (first | refine r_gd rfl rfl ?_ | refine r_gn rfl rfl rfl ?_ | refine r_gu rfl rfl ?_ | refine r_gd rfl (by assumption) ?_ | refine r_gn rfl (by assumption) rfl ?_); (first | refine r_gd rfl rfl ?_ | refine r_gn rfl rfl rfl ?_ | refine r_gu rfl rfl ?_ | refine r_gd rfl (by assumption) ?_ | refine r_gn rfl (by assumption) rfl ?_); (first | refine r_v (q_pick1 rfl rfl rfl) rfl ?_ | refine r_v (q_pick0 rfl rfl rfl) rfl ?_ | refine r_v (q_pick1 rfl (by assumption) rfl) rfl ?_ | refine r_v (q_pick0 rfl (by assumption) rfl) rfl ?_ | refine r_v (q_pickB rfl rfl rfl) rfl ?_)
      exact r_nil (c_false rfl (c_skip ⟨(), ⟨rfl, rfl, trivial⟩, fun hh => h0 hh.1, h⟩))
  clear h
  rintro ⟨⟩ w e ⟨hno, h⟩
  refine c_seq (c_region ?_)
  refine r_v (q_moveS rfl) rfl ?_; refine r_v (q_len rfl) rfl ?_; refine r_v (q_fa rfl) rfl ?_; (first | refine r_v (q_load rfl (h.b 0) rfl) rfl ?_ | refine r_v (q_load rfl (h.b 1) rfl) rfl ?_ | refine r_v (q_load rfl (h.b 2) rfl) rfl ?_ | refine r_v (q_load rfl (h.b 3) rfl) rfl ?_ | refine r_v (q_load rfl (h.b 4) rfl) rfl ?_ | refine r_v (q_load rfl (h.b 5) rfl) rfl ?_); refine r_v (q_min rfl rfl) rfl ?_
  refine r_is (.int .i64 ((min u.length k1 : Nat) : Int)) (by congr 1; omega) ?_
  refine r_v (q_assignI rfl) rfl ?_
  refine r_nil ?_
  refine c_seq (c_seq (c_region ?_))
  refine r_v (q_moveS rfl) rfl ?_; refine r_v (q_moveI rfl) rfl ?_
  refine r_v (q_head (h := min u.length k1) rfl rfl (by omega)) rfl ?_
  refine r_v (q_len rfl) rfl ?_; refine r_v (q_moveI rfl) rfl ?_
  refine r_nil ?_
  refine c_block ?_
  refine c_loop (Γ := Nat) (fun j => [(2, .pointer (some ⟨b, 0, none⟩)), (6, .int .i64 ((min u.length k1 : Nat) : Int)), (26, .slice sl (min u.length k1) c), (27, .int .i64 ((min u.length k1 : Nat) : Int)), (28, .int .i64 j)])
    (fun j w => j ≤ min u.length k1 ∧ (u.take j).all (fun x => decide (len64 x ≤ k2)) = true ∧ St w0 (pt b (.cells (kindC (k1, k2)).toArray 150 (0, 0)) :: l) w) (fun j => min u.length k1 - j) 0 ⟨rfl, rfl, rfl, rfl, rfl, trivial⟩ ⟨Nat.zero_le _, by simp, h⟩ ?_
  clear h
  rintro j w e ⟨hj, hall, h⟩
  refine c_seq (c_region ?_)
  refine r_v (q_lss rfl rfl) rfl ?_
  refine r_nil ?_
  refine c_seq (c_cond (decide ((j : Int) < ((min u.length k1 : Nat) : Int))) rfl (fun hc => ?_) (fun hc => ?_))
  ·
    have hlt : j < min u.length k1 := by simp at hc; omega
    have hg := List.getElem?_eq_getElem (show j < u.length by omega)
    generalize u[j]'(by omega) = x at hg
    have hx := hu x (List.mem_of_getElem? hg)
    obtain ⟨bs, o, hsl⟩ := (hr.at_ h.drop).some (by omega)
    refine c_skip ?_
    refine c_seq (c_block ?_)
    refine c_seq (c_region ?_)
    refine r_v (q_idx (b := bs) (o := o) (m := min u.length k1) (c := c) (o' := o + j) (by rw [← hsl]; rfl) rfl rfl hlt (by simp)) rfl ?_
    refine r_v (q_loadc (v := .int .u64 x) rfl ((hsl ▸ hr.at_ h.drop).cell (u64V_get hg))) rfl ?_
    refine r_v (q_assignI rfl) rfl ?_
    refine r_nil ?_
    refine c_seq (c_any none (fun w => St w0 _ w) (by kernel_rfl) (by kernel_rfl) h.drew fun w h => ?_)
    refine cur_pure rfl rfl rfl rfl (fun _ => h) (fun _ => flt_v rfl (q_moveI rfl)) ?_; refine cur_skip ?_; refine cur_pure rfl rfl rfl rfl (fun _ => h) (fun _ => flt_v rfl (q_fa rfl)) ?_
    refine cur_float rfl rfl rfl rfl h (fun _ h => flt_v rfl (q_load (v := .int .i64 k2) rfl (h.b 0 rfl) rfl)) ?_
    refine cur_skip ?_
    refine cur_one 1 rfl rfl rfl rfl ?_
    refine (x_call rfl (mb_Len64 hx h) ?_)
    rintro _ w ⟨rfl, h⟩
    refine ⟨fun _ => h, ?_⟩
    refine cur_pure rfl rfl rfl rfl (fun _ => h) (fun _ => flt_v rfl (q_gtr rfl rfl)) ?_
    refine cur_end ?_
    refine c_cond (decide ((len64 x : Int) > (k2 : Int))) rfl (fun hc => ?_) (fun hc => ?_)
    ·
      have hgt : ¬ len64 x ≤ k2 := by rw [decide_eq_true_eq] at hc; omega
      refine c_seq (c_region ?_)
      refine r_v (q_assignI rfl) rfl ?_; refine r_v (q_assignB rfl) rfl ?_
      refine r_nil ?_
      have e1 : fitsK (k1, k2) u = none := by
        unfold fitsK
        rw [if_neg hno, if_neg]
        intro hh
        have := List.all_eq_true.1 hh x (by
          have : (u.take k1)[j]? = some x := by rw [List.getElem?_take, if_pos (by omega), hg]
          exact List.mem_of_getElem? this)
        exact hgt (by simpa using this)
      rw [e1]
      exact c_ret (bq2 ⟨rfl, h.drop⟩)
    · have hle : len64 x ≤ k2 := by rw [decide_eq_false_iff_not] at hc; omega
      refine c_skip ?_
      refine c_region ?_
      refine r_v (q_add rfl rfl) rfl ?_
      refine r_is (.int .i64 ((j + 1 : Nat) : Int)) (by rw [wrap64 (by omega) (by omega)]; rfl) ?_
      refine r_v (q_moveI rfl) rfl ?_
      exact r_nil ⟨j + 1, ⟨rfl, rfl, rfl, rfl, rfl, trivial⟩, ⟨hlt, all_take_succ _ hg hall (by simpa using hle), h⟩, by omega⟩
  have hjn : j = min u.length k1 := by simp at hc; omega
  refine c_exit ?_
  refine c_seq (c_region ?_)
  refine r_v (q_moveI rfl) rfl ?_; refine r_v (q_assignI rfl) rfl ?_; refine r_v (q_assignB rfl) rfl ?_
  refine r_nil ?_
  have e1 : fitsK (k1, k2) u = some (min u.length k1) := by
    unfold fitsK
    rw [if_neg hno, if_pos]
    dsimp only
    rcases Nat.le_total u.length k1 with h1 | h1
    · rw [List.take_of_length_le h1]
      rw [hjn, Nat.min_eq_left h1, List.take_length] at hall; exact hall
    · rw [hjn, Nat.min_eq_right h1] at hall; exact hall
  rw [e1]
  exact c_ret (bq2 ⟨rfl, h.drop⟩)

theorem simp_word {b : Nat} {sl : Option Addr} {c : Nat} {u : List Nat} (hu : ∀ x ∈ u, x < 18446744073709551616) (hn : u.length ≤ 65535) (hc_ : u.length ≤ c) (hr : Reads w0 (KindsPt b :: l) 1 sl u.length (u64V u)) (h : St w0 (KindsPt b :: l) w) :
    Ret Tryd.prog 102 [.slice (some ⟨b, 0, none⟩) 16 16, .slice sl u.length c] w fun v w' => v = .tuple [.int .u64 (((wordA 0 kindsL u).getD (0, 0)).1 : Nat), .int .i64 (((wordA 0 kindsL u).getD (0, 0)).2 : Nat)].toArray ∧ St w0 (KindsPt b :: l) w' := by
  refine enter Tryd.func102 rfl Tryd.results102 Tryd.ntmps102 rfl ?_
  refine c_seq (c_region ?_)
  refine r_v (q_assignI rfl) rfl ?_; refine r_v (q_assignI rfl) rfl ?_
  refine r_nil ?_
  refine c_seq (c_seq (c_region ?_))
  refine r_v (q_moveS rfl) rfl ?_; refine r_v (q_len rfl) rfl ?_; refine r_v (q_moveI rfl) rfl ?_
  refine r_nil ?_
  refine c_block ?_
  refine c_loop (Γ := Nat) (fun i => [(1, .slice sl u.length c), (13, .slice (some ⟨b, 0, none⟩) 16 16), (14, .int .i64 16), (15, .int .i64 i)]) (fun i w => i ≤ 16 ∧ wordA i (kindsL.drop i) u = wordA 0 kindsL u ∧ St w0 (KindsPt b :: l) w) (fun i => 16 - i) 0 ⟨rfl, rfl, rfl, rfl, trivial⟩ ⟨Nat.zero_le _, rfl, h⟩ ?_
  clear h
  rintro i w e ⟨hi, hw, h⟩
  refine c_seq (c_region ?_)
  refine r_v (q_lss rfl rfl) rfl ?_
  refine r_nil ?_
  refine c_seq (c_cond (decide ((i : Int) < 16)) rfl (fun hc => ?_) (fun hc => ?_))
  ·
    have hlt : i < 16 := by simp at hc; omega
    have hg := List.getElem?_eq_getElem (show i < kindsL.length from hlt)
    have hdr := List.drop_eq_getElem_cons (show i < kindsL.length from hlt)
    generalize kindsL[i]'hlt = k at hg hdr
    obtain ⟨_, k1, k2, k3⟩ := kindsL_ok i k hg
    have hk2 : k.2 ≤ 60 := Nat.le_trans (Nat.le_mul_of_pos_right _ k1) k3
    refine c_skip ?_
    refine c_seq (c_block ?_)
    refine c_seq (c_region ?_)
    refine r_v (q_moveI rfl) rfl ?_
    refine r_v (q_idx (o' := i * 2) rfl rfl rfl hlt (by simp)) rfl ?_
    refine r_v (q_loadS (l := kindC k) rfl rfl (fun j v hj => cell_of (h.b 0 rfl) (flat_get kindC_len kindsL i k hg j v hj))) rfl ?_
    refine r_c rfl (x_alloc h fun b7 w h => ?_)
    refine r_v (q_assignI rfl) rfl ?_
    refine r_c rfl (x_storeA (vs := kindC k) 0 h rfl rfl rfl rfl rfl rfl rfl fun w h => ?_)
    replace h : St w0 (pt b7 (.cells (kindC k).toArray 150 (0, 0)) :: KindsPt b :: l) w := h
    refine r_nil ?_
    refine c_seq (c_region ?_)
    refine r_v (q_loadS (l := kindC k) rfl rfl (at_of (h.b 0 rfl) rfl)) rfl ?_
    refine r_v (q_moveS rfl) rfl ?_
    refine r_c rfl (x_call rfl (simp_fits (k := k) (by omega) (by omega) hu hn hc_ hr.cons h) ?_)
    rintro _ w ⟨rfl, h⟩
    refine r_v (q_moveT rfl) rfl ?_; refine r_v (q_ext rfl rfl) rfl ?_; refine r_v (q_ext rfl rfl) rfl ?_; refine r_v (q_assignI rfl) rfl ?_; refine r_v (q_assignB rfl) rfl ?_
    refine r_nil ?_
    rw [hdr, wordA] at hw
    refine c_seq (c_seq (c_region ?_))
    refine r_v (q_moveB rfl) rfl ?_; refine r_v (q_not rfl) rfl ?_
    refine r_nil ?_
    cases hf : fitsK k u with
    | none =>
      rw [hf] at hw
      refine c_true rfl ?_
      refine c_exit ?_
      refine c_region ?_
      refine r_v (q_add rfl rfl) rfl ?_
      refine r_is (.int .i64 ((i + 1 : Nat) : Int)) (by rw [wrap64 (by omega) (by omega)]; rfl) ?_
      refine r_v (q_moveI rfl) rfl ?_
      exact r_nil ⟨i + 1, ⟨rfl, rfl, rfl, rfl, trivial⟩, ⟨hlt, hw, h.drop⟩, by omega⟩
    | some m =>
      rw [hf] at hw
      obtain ⟨f1, f2, f3⟩ := fitsK_some hf
      refine c_false rfl (c_skip ?_)
      refine c_seq (c_region ?_)
      refine r_v (q_moveI rfl) rfl ?_; refine r_v (q_conv rfl) rfl ?_
      refine r_is (.int .u64 (i : Int)) (by rw [wrap_u64, Nat.mod_eq_of_lt (by omega)]) ?_
      refine r_v (q_is (v' := .int .u64 ((i * 1152921504606846976 + packW k.2 (u.take 0) : Nat) : Int)) (q_shl rfl rfl (by omega)) (by rw [show IntKind.u64.wrap ((i : Int) * 2 ^ (min (60 : Int).toNat IntKind.u64.bits)) = ((i * 2 ^ 60 % 18446744073709551616 : Nat) : Int) from shl_u64 i 60 (by decide), Nat.mod_eq_of_lt (by omega)]; simp [packW])) rfl ?_
      refine r_v (q_assignI rfl) rfl ?_
      refine r_nil ?_
      refine c_seq (c_seq (c_region ?_))
      refine r_v (q_moveS rfl) rfl ?_; refine r_v (q_moveI rfl) rfl ?_
      refine r_v (q_head (h := m) rfl rfl (by omega)) rfl ?_
      refine r_v (q_len rfl) rfl ?_; refine r_v (q_moveI rfl) rfl ?_
      refine r_nil ?_
      refine c_block ?_
      refine c_loop (Γ := Nat) (fun j => [(7, .pointer (some ⟨b7, 0, none⟩)), (8, .int .i64 m), (10, .int .u64 ((i * 1152921504606846976 + packW k.2 (u.take j) : Nat) : Int)), (33, .slice sl m c), (34, .int .i64 m), (35, .int .i64 j)])
        (fun j w => j ≤ m ∧ St w0 (pt b7 (.cells (kindC k).toArray 150 (0, 0)) :: KindsPt b :: l) w) (fun j => m - j) 0 ⟨rfl, rfl, rfl, rfl, rfl, rfl, trivial⟩ ⟨Nat.zero_le _, h⟩ ?_
      clear h
      rintro j w e ⟨hj, h⟩
      refine c_seq (c_region ?_)
      refine r_v (q_lss rfl rfl) rfl ?_
      refine r_nil ?_
      refine c_seq (c_cond (decide ((j : Int) < (m : Int))) rfl (fun hc => ?_) (fun hc => ?_))
      ·
        have hjm : j < m := by simp at hc; omega
        have hgu := List.getElem?_eq_getElem (show j < u.length by omega)
        generalize u[j]'(by omega) = x at hgu
        have hxb : x < 2 ^ k.2 := f2 x (by
          have : (u.take m)[j]? = some x := by rw [List.getElem?_take, if_pos hjm, hgu]
          exact List.mem_of_getElem? this)
        have hsum : packW k.2 (u.take (j + 1)) = packW k.2 (u.take j) + 2 ^ (k.2 * j) * x := by
          rw [List.take_add_one, hgu]
          show packW k.2 (u.take j ++ [x]) = _
          rw [packW_snoc, List.length_take, Nat.min_eq_left (by omega)]
        have hjk : j * k.2 ≤ 60 := by
          have : j * k.2 ≤ k.1 * k.2 := Nat.mul_le_mul_right _ (by omega)
          rw [Nat.mul_comm k.1] at this; omega
        have hlt60 : packW k.2 (u.take (j + 1)) < 1152921504606846976 := by
          refine Nat.lt_of_lt_of_le (packW_lt (fun y hy => f2 y (by
            have hp : u.take (j + 1) = (u.take m).take (j + 1) := by rw [List.take_take, Nat.min_eq_left (by omega)]
            rw [hp] at hy; exact List.mem_of_mem_take hy))) ?_
          have : k.2 * (u.take (j + 1)).length ≤ 60 := by
            rw [List.length_take]
            exact Nat.le_trans (Nat.mul_le_mul_left _ (by omega)) k3
          exact Nat.pow_le_pow_right (by decide) this
        have hpl : packW k.2 (u.take j) < 2 ^ (j * k.2) := by
          have := packW_lt (b := k.2) (l := u.take j) (fun y hy => f2 y (by
            have hp : u.take j = (u.take m).take j := by rw [List.take_take, Nat.min_eq_left (by omega)]
            rw [hp] at hy; exact List.mem_of_mem_take hy))
          rwa [List.length_take, Nat.min_eq_left (by omega), Nat.mul_comm] at this
        rw [Nat.mul_comm k.2 j, Nat.mul_comm (2 ^ (j * k.2)) x] at hsum
        obtain ⟨bs, o, hsl⟩ := (hr.cons.at_ h).some (by omega)
        refine c_skip ?_
        refine c_seq (c_block ?_)
        refine c_seq (c_region ?_)
        refine r_v (q_moveI rfl) rfl ?_
        refine r_v (q_idx (b := bs) (o := o) (m := m) (c := c) (o' := o + j) (by rw [← hsl]; rfl) rfl rfl hjm (by simp)) rfl ?_
        refine r_v (q_loadc (v := .int .u64 x) rfl ((hsl ▸ hr.cons.at_ h).cell (u64V_get hgu))) rfl ?_
        refine r_v (q_assignI rfl) rfl ?_; refine r_v (q_assignI rfl) rfl ?_
        refine r_nil ?_
        refine c_region ?_
        refine r_v (q_moveI rfl) rfl ?_; refine r_v (q_moveI rfl) rfl ?_; refine r_v (q_moveI rfl) rfl ?_; refine r_v (q_fa rfl) rfl ?_
        refine r_v (q_load (v := .int .i64 k.2) rfl (h.b 0 rfl) rfl) rfl ?_
        refine r_v (q_mul rfl rfl) rfl ?_
        refine r_is (.int .i64 ((j * k.2 : Nat) : Int)) (by rw [← Int.natCast_mul, wrap64 (by omega) (by omega)]) ?_
        refine r_v (q_is (v' := .int .u64 ((x * 2 ^ (j * k.2) : Nat) : Int)) (q_shl rfl rfl (by omega)) (by rw [shl_u64 _ _ (by omega), Nat.mod_eq_of_lt (by omega)])) rfl ?_
        refine r_v (q_or rfl rfl) rfl ?_
        refine r_is (.int .u64 ((i * 1152921504606846976 + packW k.2 (u.take (j + 1)) : Nat) : Int)) (by
          rw [(bit_u64 (by omega) (by omega)).2.1, hsum, or_three hpl (by omega)]) ?_
        refine r_v (q_assignI rfl) rfl ?_
        refine r_nil ?_
        refine c_region ?_
        refine r_v (q_add rfl rfl) rfl ?_
        refine r_is (.int .i64 ((j + 1 : Nat) : Int)) (by rw [wrap64 (by omega) (by omega)]; rfl) ?_
        refine r_v (q_moveI rfl) rfl ?_
        exact r_nil ⟨j + 1, ⟨rfl, rfl, rfl, rfl, rfl, rfl, trivial⟩, ⟨hjm, h⟩, by omega⟩
      obtain rfl : j = m := by simp at hc; omega
      refine c_exit ?_
      refine c_seq (c_region ?_)
      refine r_v (q_moveI rfl) rfl ?_; refine r_v (q_moveI rfl) rfl ?_; refine r_v (q_assignI rfl) rfl ?_; refine r_v (q_assignI rfl) rfl ?_
      refine r_nil ?_
      rw [← hw]
      exact c_ret (bq2 ⟨rfl, h.drop⟩)
  have hin : i = 16 := by simp at hc; omega
  rw [hin] at hw
  refine c_exit ?_
  refine c_seq (c_region ?_)
  refine r_v (q_assignI rfl) rfl ?_; refine r_v (q_assignI rfl) rfl ?_
  refine r_nil ?_
  rw [← hw]
  exact c_ret (bq2 ⟨rfl, h⟩)
end
end Go.Proofs.YtjjacchnalemaaaDoor
