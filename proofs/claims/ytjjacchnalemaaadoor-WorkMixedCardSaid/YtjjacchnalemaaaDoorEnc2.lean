/- dict, and the suit's rows of values: telling them. -/
import Derived.Test.YtjjacchnalemaaaDoorEnc
namespace Go.Hw
def atM (n : Nat) : List Nat → List (Int × Value)
  | [] => []
  | x :: r => ((x : Int), .int .i64 (n : Int)) :: atM (n + 1) r
theorem mget_atM (x : Nat) : ∀ (l : List Nat) (n : Nat), mget (x : Int) (atM n l) = if x ∈ l then some (.int .i64 ((n + l.idxOf x : Nat) : Int)) else none
  | [], n => by simp [atM, mget]
  | y :: r, n => by
    rw [atM, mget]
    by_cases h : y = x
    · subst h; simp
    · have h1 : ¬ ((y : Int) = (x : Int)) := by omega
      rw [if_neg h1, mget_atM x r (n + 1)]
      by_cases h2 : x ∈ r
      · rw [if_pos h2, if_pos (List.mem_cons_of_mem _ h2), List.idxOf_cons, show (y == x) = false by simpa using h]
        congr 2
        simp only [cond_false]
        omega
      · rw [if_neg h2, if_neg (by simp only [List.mem_cons, not_or]; exact ⟨fun h3 => h h3.symm, h2⟩)]
theorem atM_snoc (x : Nat) : ∀ (l : List Nat) (n : Nat), atM n (l ++ [x]) = atM n l ++ [((x : Int), .int .i64 ((n + l.length : Nat) : Int))]
  | [], n => by simp [atM]
  | y :: r, n => by
    rw [List.cons_append, atM, atM, atM_snoc x r (n + 1), List.cons_append, List.length_cons, show n + 1 + r.length = n + (r.length + 1) by omega]
theorem mset_none {k : Int} {v : Value} {m : List (Int × Value)} (h : mget k m = none) : mset k v m = m ++ [(k, v)] := by
  have h1 := mfind_some k m 0
  rw [h] at h1
  exact mset_new (Option.map_eq_none_iff.1 h1)
theorem atM_set {x : Nat} {l : List Nat} (h : x ∉ l) : mset (x : Int) (.int .i64 (l.length : Int)) (atM 0 l) = atM 0 (l ++ [x]) := by
  rw [mset_none (by rw [mget_atM, if_neg h]), atM_snoc, Nat.zero_add]
end Go.Hw
namespace Go.Proofs.YtjjacchnalemaaaDoor
open Go.Hw
set_option maxHeartbeats 4000000
set_option maxRecDepth 100000
section
variable {w0 w : World} {l : List HProp}
theorem dict_unlike {sl : Option Addr} {c : Nat} {u : List Nat} (hu : ∀ x ∈ u, x < 18446744073709551616) (hn : u.length ≤ 65535) (hr : Reads w0 l 1 sl u.length (u64V u)) (h : St w0 l w) :
    Ret Tryd.prog 107 [.slice sl u.length c] w fun v w' => (unlikeA [] u = none ∧ v = .tuple [.slice none 0 0, .map none, .bool false].toArray ∧ St w0 l w') ∨
      (∃ m q a c', unlikeA [] u = some m ∧ v = .tuple [.slice a m.length c', .map (some q), .bool true].toArray ∧ St w0 (OwnU a c' m :: MapOf (Value.int .u64) q (atM 0 m) :: l) w') := by
  refine enter Tryd.func107 rfl Tryd.results107 Tryd.ntmps107 rfl ?_
  refine c_seq (c_region ?_)
  refine r_v (q_assignS rfl) rfl ?_; refine r_v (q_assignM rfl) rfl ?_; refine r_v (q_assignB rfl) rfl ?_
  refine r_nil ?_
  refine c_seq (c_region ?_)
  refine r_v (q_assignS rfl) rfl ?_
  refine r_nil ?_
  refine c_seq (c_region ?_)
  refine r_c rfl (x_mkmap (Value.int .u64) h fun q w h => ?_)
  refine r_v (q_assignM rfl) rfl ?_
  refine r_nil ?_
  refine c_seq (c_seq (c_region ?_))
  refine r_v (q_moveS rfl) rfl ?_; refine r_v (q_len rfl) rfl ?_; refine r_v (q_moveI rfl) rfl ?_
  refine r_nil ?_
  refine c_block ?_
  refine c_loop (Γ := Nat × List Nat × Option Addr × Nat) (fun k => [(5, .slice k.2.2.1 k.2.1.length k.2.2.2), (6, .map (some q)), (12, .slice sl u.length c), (13, .int .i64 u.length), (14, .int .i64 k.1)])
    (fun k w => k.1 ≤ u.length ∧ unlikeA k.2.1 (u.drop k.1) = unlikeA [] u ∧ k.2.1.length ≤ 256 ∧ St w0 (OwnU k.2.2.1 k.2.2.2 k.2.1 :: MapOf (Value.int .u64) q (atM 0 k.2.1) :: l) w)
    (fun k => u.length - k.1) (0, [], none, 0) ⟨rfl, rfl, rfl, rfl, rfl, trivial⟩ ⟨Nat.zero_le _, rfl, by decide, St.ownNil _ _ h⟩ ?_
  clear h
  rintro ⟨i, m, a, c1⟩ w e ⟨hi, he, hm, h⟩
  dsimp only at hi he hm h ⊢
  refine c_seq (c_region ?_)
  refine r_v (q_lss rfl rfl) rfl ?_
  refine r_nil ?_
  refine c_seq (c_cond (decide ((i : Int) < (u.length : Int))) rfl (fun hc => ?_) (fun hc => ?_))
  ·
    have hlt : i < u.length := by simp at hc; omega
    have hg := List.getElem?_eq_getElem hlt
    have hdr := List.drop_eq_getElem_cons hlt
    generalize u[i] = x at hg hdr
    rw [hdr, unlikeA] at he
    obtain ⟨b, o, hsl⟩ := ((hr.more [_, _]).at_ h).some (by omega)
    refine c_skip ?_
    refine c_cut (Γ := List Nat × Option Addr × Nat) (fun k => [(5, .slice k.2.1 k.1.length k.2.2), (6, .map (some q)), (12, .slice sl u.length c), (13, .int .i64 u.length), (14, .int .i64 i)])
      (fun k w => unlikeA k.1 (u.drop (i + 1)) = unlikeA [] u ∧ k.1.length ≤ 256 ∧ St w0 (OwnU k.2.1 k.2.2 k.1 :: MapOf (Value.int .u64) q (atM 0 k.1) :: l) w) ?_ ?_
    · refine c_block ?_
      refine c_seq (c_region ?_)
      refine r_v (q_idx (b := b) (o := o) (m := u.length) (c := c) (o' := o + i) (by rw [← hsl]; rfl) rfl rfl hlt (by simp)) rfl ?_
      refine r_v (q_loadc (v := .int .u64 x) rfl ((hsl ▸ (hr.more [_, _]).at_ h).cell (u64V_get hg))) rfl ?_
      refine r_v (q_assignI rfl) rfl ?_
      refine r_nil ?_
      refine c_seq (c_seq (c_region ?_))
      refine r_v (q_moveM rfl) rfl ?_; refine r_v (q_moveI rfl) rfl ?_
      refine r_v (q_lookup (k := (x : Int)) rfl rfl (h.f 1).isMap) rfl ?_
      rw [mget_atM]
      by_cases hx : x ∈ m
      · rw [if_pos hx] at he ⊢
        refine r_v (q_moveT rfl) rfl ?_; refine r_v (q_ext rfl rfl) rfl ?_; refine r_v (q_ext rfl rfl) rfl ?_; refine r_v (q_assignI rfl) rfl ?_; refine r_v (q_assignB rfl) rfl ?_
        refine r_nil ?_
        refine c_seq (c_region ?_)
        refine r_v (q_moveB rfl) rfl ?_
        refine r_nil (c_true rfl ?_)
        exact c_exit ⟨(m, a, c1), ⟨rfl, rfl, rfl, rfl, rfl, trivial⟩, he, hm, h⟩
      · rw [if_neg hx] at he ⊢
        refine r_v (q_moveT rfl) rfl ?_; refine r_v (q_ext rfl rfl) rfl ?_; refine r_v (q_ext rfl rfl) rfl ?_; refine r_v (q_assignI rfl) rfl ?_; refine r_v (q_assignB rfl) rfl ?_
        refine r_nil ?_
        refine c_seq (c_region ?_)
        refine r_v (q_moveB rfl) rfl ?_
        refine r_nil (c_false rfl (c_skip ?_))
        refine c_seq (c_seq (c_region ?_))
        refine r_v (q_moveS rfl) rfl ?_; refine r_v (q_len rfl) rfl ?_; refine r_v (q_eql rfl rfl) rfl ?_
        by_cases h256 : m.length = 256
        · rw [if_pos h256] at he
          refine r_is (.bool true) (by rw [h256]; rfl) ?_
          refine r_nil (c_true rfl ?_)
          refine c_seq (c_region ?_)
          refine r_v (q_assignS rfl) rfl ?_; refine r_v (q_assignM rfl) rfl ?_; refine r_v (q_assignB rfl) rfl ?_
          refine r_nil ?_
          exact c_ret (bq3 (.inl ⟨he.symm, rfl, h.drop.drop⟩))
        · rw [if_neg h256] at he
          refine r_is (.bool false) (by congr 1; rw [beq_eq_false_iff_ne]; omega) ?_
          refine r_nil (c_false rfl (c_skip ?_))
          refine c_seq (c_region ?_)
          refine r_v (q_moveM rfl) rfl ?_; refine r_v (q_moveI rfl) rfl ?_; refine r_v (q_moveS rfl) rfl ?_; refine r_v (q_len rfl) rfl ?_
          refine r_c rfl (x_mapset (k := (x : Int)) (v := .int .i64 m.length) (h.f 1) rfl rfl rfl fun w h => ?_)
          rw [atM_set hx] at h
          refine r_nil ?_
          refine c_region ?_
          refine r_v (q_moveS rfl) rfl ?_; refine r_v (q_moveI rfl) rfl ?_
          refine r_c rfl (x_bslice (r := u64V [x]) h rfl rfl rfl fun b2 w h => ?_)
          refine r_c rfl (x_append' (ys := u64V [x]) (zs := u64V (m ++ [x])) (m3 := (m ++ [x]).length) (h.f 2) rfl rfl ⟨rfl, .inr ⟨b2, 0, rfl, at_of (h.b 0 rfl) rfl⟩⟩ (u64V_one _) (by simp) (by simp [u64V]) (by simp; omega) (by simp; omega) rfl fun a2 c2 w _ h => ?_)
          refine r_v (q_assignS rfl) rfl ?_
          refine r_nil ⟨(m ++ [x], a2, c2), ⟨rfl, rfl, rfl, rfl, rfl, trivial⟩, he, by simp; omega, ?_⟩
          exact (h.f 1).drop
    clear h he hm
    rintro ⟨m, a, c1⟩ w e ⟨he, hm, h⟩
    dsimp only at he hm h ⊢
    refine c_region ?_
    refine r_v (q_add rfl rfl) rfl ?_
    refine r_is (.int .i64 ((i + 1 : Nat) : Int)) (by rw [wrap64 (by omega) (by omega)]; rfl) ?_
    refine r_v (q_moveI rfl) rfl ?_
    exact r_nil ⟨(i + 1, m, a, c1), ⟨rfl, rfl, rfl, rfl, rfl, trivial⟩, ⟨hlt, he, hm, h⟩, by dsimp only; omega⟩
  have hin : i = u.length := by simp at hc; omega
  rw [hin, List.drop_length, unlikeA] at he
  refine c_exit ?_
  refine c_seq (c_region ?_)
  refine r_v (q_moveS rfl) rfl ?_; refine r_v (q_moveM rfl) rfl ?_; refine r_v (q_assignS rfl) rfl ?_; refine r_v (q_assignM rfl) rfl ?_; refine r_v (q_assignB rfl) rfl ?_
  refine r_nil ?_
  exact c_ret (bq3 (.inr ⟨m, q, a, c1, he.symm, rfl, h⟩))
theorem vputs_len : ∀ m : List Nat, (m.flatMap vput).length ≤ 10 * m.length
  | [] => Nat.le_refl _
  | x :: m => by
    have h1 := vput_len x
    have h2 := vputs_len m
    rw [List.flatMap_cons, List.length_append, List.length_cons]; omega

theorem dict_Encode {sl : Option Addr} {c : Nat} {u : List Nat} (hu : ∀ x ∈ u, x < 18446744073709551616) (hn : u.length ≤ 65535) (hr : Reads w0 l 1 sl u.length (u64V u)) (h : St w0 l w) :
    Ret Tryd.prog 72 [.slice sl u.length c] w fun v w' => ∃ a c', v = .tuple [.slice a ((dictEnc u).getD []).length c', .bool (dictEnc u).isSome].toArray ∧ St w0 (OwnB a c' ((dictEnc u).getD []) :: l) w' := by
  refine enter Tryd.func72 rfl Tryd.results72 Tryd.ntmps72 rfl ?_
  refine c_seq (c_region ?_)
  refine r_v (q_assignS rfl) rfl ?_; refine r_v (q_assignB rfl) rfl ?_
  refine r_nil ?_
  refine c_seq (c_region ?_)
  refine r_v (q_moveS rfl) rfl ?_
  refine r_c rfl (x_call rfl (dict_unlike hu hn hr h) ?_)
  rintro _ w (⟨hno, rfl, h⟩ | ⟨m, q, am, cm, hso, rfl, h⟩)
  · refine r_v (q_moveT rfl) rfl ?_; refine r_v (q_ext rfl rfl) rfl ?_; refine r_v (q_ext rfl rfl) rfl ?_; refine r_v (q_ext rfl rfl) rfl ?_; refine r_v (q_assignS rfl) rfl ?_; refine r_v (q_assignM rfl) rfl ?_; refine r_v (q_assignB rfl) rfl ?_
    refine r_nil ?_
    refine c_seq (c_seq (c_region ?_))
    refine r_v (q_moveB rfl) rfl ?_; refine r_v (q_not rfl) rfl ?_; refine r_v (q_moveB rfl) rfl ?_; (first | refine r_gd rfl rfl ?_ | refine r_gn rfl rfl rfl ?_ | refine r_gu rfl rfl ?_ | refine r_gd rfl (by assumption) ?_ | refine r_gn rfl (by assumption) rfl ?_); (first | refine r_gd rfl rfl ?_ | refine r_gn rfl rfl rfl ?_ | refine r_gu rfl rfl ?_ | refine r_gd rfl (by assumption) ?_ | refine r_gn rfl (by assumption) rfl ?_); (first | refine r_gd rfl rfl ?_ | refine r_gn rfl rfl rfl ?_ | refine r_gu rfl rfl ?_ | refine r_gd rfl (by assumption) ?_ | refine r_gn rfl (by assumption) rfl ?_); (first | refine r_v (q_pick1 rfl rfl rfl) rfl ?_ | refine r_v (q_pick0 rfl rfl rfl) rfl ?_ | refine r_v (q_pick1 rfl (by assumption) rfl) rfl ?_ | refine r_v (q_pick0 rfl (by assumption) rfl) rfl ?_ | refine r_v (q_pickB rfl rfl rfl) rfl ?_)
    refine r_nil (c_true rfl ?_)
    refine c_seq (c_region ?_)
    refine r_v (q_moveB rfl) rfl ?_; refine r_v (q_assignS rfl) rfl ?_; refine r_v (q_assignB rfl) rfl ?_
    refine r_nil ?_
    have e1 : dictEnc u = none := by unfold dictEnc; rw [hno]
    rw [e1]
    exact c_ret (bq2 ⟨none, 0, rfl, St.ownNil _ _ h⟩)
  obtain ⟨_, hmem, hm256, hfrom⟩ := unlikeA_some u [] m hso (by simp)
  have hm64 : ∀ x ∈ m, x < 18446744073709551616 := fun x hx => by
    rcases hfrom x hx with h | h
    · cases h
    · exact hu x h
  refine r_v (q_moveT rfl) rfl ?_; refine r_v (q_ext rfl rfl) rfl ?_; refine r_v (q_ext rfl rfl) rfl ?_; refine r_v (q_ext rfl rfl) rfl ?_; refine r_v (q_assignS rfl) rfl ?_; refine r_v (q_assignM rfl) rfl ?_; refine r_v (q_assignB rfl) rfl ?_
  refine r_nil ?_
  refine c_seq (c_seq (c_region ?_))
  refine r_v (q_moveB rfl) rfl ?_; refine r_v (q_not rfl) rfl ?_; refine r_v (q_moveB rfl) rfl ?_; (first | refine r_gd rfl rfl ?_ | refine r_gn rfl rfl rfl ?_ | refine r_gu rfl rfl ?_ | refine r_gd rfl (by assumption) ?_ | refine r_gn rfl (by assumption) rfl ?_); refine r_v (q_moveS rfl) rfl ?_; (first | refine r_gd rfl rfl ?_ | refine r_gn rfl rfl rfl ?_ | refine r_gu rfl rfl ?_ | refine r_gd rfl (by assumption) ?_ | refine r_gn rfl (by assumption) rfl ?_); refine r_v (q_len rfl) rfl ?_; (first | refine r_gd rfl rfl ?_ | refine r_gn rfl rfl rfl ?_ | refine r_gu rfl rfl ?_ | refine r_gd rfl (by assumption) ?_ | refine r_gn rfl (by assumption) rfl ?_); refine r_v (q_eql rfl rfl) rfl ?_
  by_cases h0 : u = []
  · refine r_is (.bool true) (by rw [h0]; rfl) ?_
    (first | refine r_v (q_pick1 rfl rfl rfl) rfl ?_ | refine r_v (q_pick0 rfl rfl rfl) rfl ?_ | refine r_v (q_pick1 rfl (by assumption) rfl) rfl ?_ | refine r_v (q_pick0 rfl (by assumption) rfl) rfl ?_ | refine r_v (q_pickB rfl rfl rfl) rfl ?_)
    refine r_nil (c_true rfl ?_)
    refine c_seq (c_region ?_)
    refine r_v (q_moveB rfl) rfl ?_; refine r_v (q_assignS rfl) rfl ?_; refine r_v (q_assignB rfl) rfl ?_
    refine r_nil ?_
    have e1 : dictEnc u = some [] := by unfold dictEnc; rw [hso]; dsimp only; rw [if_pos h0]
    rw [e1]
    exact c_ret (bq2 ⟨none, 0, rfl, St.ownNil _ _ h.drop.drop⟩)
  have hpos : 0 < u.length := List.length_pos_iff.2 h0
  have hmp : 0 < m.length := by
    cases u with
    | nil => exact absurd rfl h0
    | cons x r => exact List.length_pos_of_mem (hmem x (List.mem_cons_self ..))
  have e1 : dictEnc u = some (dictBytes m u) := by unfold dictEnc; rw [hso]; dsimp only; rw [if_neg h0]
  rw [e1]
  refine r_is (.bool false) (by congr 1; rw [beq_eq_false_iff_ne]; omega) ?_
  (first | refine r_v (q_pick1 rfl rfl rfl) rfl ?_ | refine r_v (q_pick0 rfl rfl rfl) rfl ?_ | refine r_v (q_pick1 rfl (by assumption) rfl) rfl ?_ | refine r_v (q_pick0 rfl (by assumption) rfl) rfl ?_ | refine r_v (q_pickB rfl rfl rfl) rfl ?_)
  refine r_nil (c_false rfl (c_skip ?_))
  have hvm := vput_len m.length
  refine c_seq (c_region ?_)
  refine r_v (q_moveS rfl) rfl ?_; refine r_v (q_len rfl) rfl ?_; refine r_v (q_conv rfl) rfl ?_
  refine r_is (.int .u64 (m.length : Int)) (by rw [wrap_u64, Nat.mod_eq_of_lt (by omega)]) ?_
  refine r_c rfl (x_call rfl (vint_Put (bs := []) m.length (by omega) h (fun w' h' => Reads.nil.at_ h') (by simp)) ?_)
  rintro _ w ⟨a1, c1, rfl, h⟩
  rw [List.nil_append] at h ⊢
  refine r_v (q_assignS rfl) rfl ?_
  refine r_nil ?_
  refine c_seq (c_seq (c_region ?_))
  refine r_v (q_moveS rfl) rfl ?_; refine r_v (q_len rfl) rfl ?_; refine r_v (q_moveI rfl) rfl ?_
  refine r_nil ?_
  refine c_block ?_
  refine c_loop (Γ := Nat × Option Addr × Nat) (fun k => [(0, .slice sl u.length c), (4, .slice am m.length cm), (5, .map (some q)), (7, .slice k.2.1 (vput m.length ++ (m.take k.1).flatMap vput).length k.2.2), (31, .slice am m.length cm), (32, .int .i64 m.length), (33, .int .i64 k.1)])
    (fun k w => k.1 ≤ m.length ∧ St w0 (OwnB k.2.1 k.2.2 (vput m.length ++ (m.take k.1).flatMap vput) :: OwnU am cm m :: MapOf (Value.int .u64) q (atM 0 m) :: l) w) (fun k => m.length - k.1) (0, a1, c1) ⟨rfl, rfl, rfl, (by show Value.slice _ _ _ = Value.slice _ _ _; simp), rfl, rfl, rfl, trivial⟩ ⟨Nat.zero_le _, by simpa using h⟩ ?_
  clear h a1 c1
  rintro ⟨k, a1, c1⟩ w e ⟨hk, h⟩
  dsimp only at hk h ⊢
  have htl := vputs_len (m.take k)
  have htl2 : (m.take k).length ≤ m.length := by rw [List.length_take]; omega
  refine c_seq (c_region ?_)
  refine r_v (q_lss rfl rfl) rfl ?_
  refine r_nil ?_
  refine c_seq (c_cond (decide ((k : Int) < (m.length : Int))) rfl (fun hc => ?_) (fun hc => ?_))
  ·
    have hlt : k < m.length := by simp at hc; omega
    have hg := List.getElem?_eq_getElem hlt
    generalize m[k] = x at hg
    obtain ⟨b, hsl⟩ := (h.f 1).own_some (by omega)
    refine c_skip ?_
    refine c_seq (c_block ?_)
    refine c_seq (c_region ?_)
    refine r_v (q_idx (b := b) (o := 0) (m := m.length) (c := cm) (o' := k) (by rw [← hsl]; rfl) rfl rfl hlt (by simp)) rfl ?_
    refine r_v (q_loadc (v := .int .u64 x) rfl (by have := (hsl ▸ (h.f 1).own_rd).cell (u64V_get hg); simpa using this)) rfl ?_
    refine r_v (q_assignI rfl) rfl ?_
    refine r_nil ?_
    refine c_region ?_
    refine r_v (q_moveS rfl) rfl ?_; refine r_v (q_moveI rfl) rfl ?_
    refine r_c rfl (x_call rfl (vint_Put x (hm64 x (List.mem_of_getElem? hg)) h (fun w' h' => h'.own_rd) (by rw [List.length_append]; omega)) ?_)
    rintro _ w ⟨a2, c2, rfl, h⟩
    refine r_v (q_assignS rfl) rfl ?_
    refine r_nil ?_
    refine c_region ?_
    refine r_v (q_add rfl rfl) rfl ?_
    refine r_is (.int .i64 ((k + 1 : Nat) : Int)) (by rw [wrap64 (by omega) (by omega)]; rfl) ?_
    refine r_v (q_moveI rfl) rfl ?_
    have hstep : vput m.length ++ (m.take (k + 1)).flatMap vput = (vput m.length ++ (m.take k).flatMap vput) ++ vput x := by
      rw [List.take_add_one, hg, List.flatMap_append, List.append_assoc]; simp
    refine r_nil ⟨(k + 1, a2, c2), ⟨rfl, rfl, rfl, ?_, rfl, rfl, rfl, trivial⟩, ⟨hlt, ?_⟩, by dsimp only; omega⟩
    · show Value.slice _ _ _ = Value.slice _ _ _
      rw [hstep]
    · dsimp only
      rw [hstep]
      exact (h.f 1).drop
  have hkm : k = m.length := by simp at hc; omega
  subst hkm
  rw [List.take_length] at h ⊢
  rw [List.take_length] at htl
  refine c_exit ?_
  refine c_seq (c_region ?_)
  refine r_c rfl (x_call rfl (bits_NewWriter h) ?_)
  rintro _ w ⟨p, rfl, h⟩
  refine r_v (q_assignP rfl) rfl ?_
  refine r_nil ?_
  refine c_seq (c_seq (c_region ?_))
  refine r_v (q_moveS rfl) rfl ?_; refine r_v (q_len rfl) rfl ?_; refine r_v (q_moveI rfl) rfl ?_
  refine r_nil ?_
  have hw64 : len64 (m.length - 1) ≤ 64 := len64_64 (by omega)
  have hdb : dictBytes m u = vput m.length ++ (m.flatMap vput ++ pack (u.flatMap fun x => bitsOf (m.idxOf x) (len64 (m.length - 1)))) := rfl
  have hflat := flat_bits_len (fun y => m.idxOf y) (len64 (m.length - 1)) u
  have hwl : len64 (m.length - 1) * u.length ≤ 64 * 65535 := Nat.mul_le_mul hw64 hn
  refine c_block ?_
  refine c_loop (Γ := Nat) (fun k => [(4, .slice am m.length cm), (5, .map (some q)), (7, .slice a1 (vput m.length ++ m.flatMap vput).length c1), (10, .pointer (some ⟨p, 0, none⟩)), (42, .slice sl u.length c), (43, .int .i64 u.length), (44, .int .i64 k)])
    (fun k w => k ≤ u.length ∧ St w0 (IsBW p ((u.take k).flatMap fun x => bitsOf (m.idxOf x) (len64 (m.length - 1))) :: OwnB a1 c1 (vput m.length ++ m.flatMap vput) :: OwnU am cm m :: MapOf (Value.int .u64) q (atM 0 m) :: l) w) (fun k => u.length - k) 0 ⟨rfl, rfl, rfl, rfl, rfl, rfl, rfl, trivial⟩ ⟨Nat.zero_le _, h⟩ ?_
  clear h
  rintro k w e ⟨hk, h⟩
  refine c_seq (c_region ?_)
  refine r_v (q_lss rfl rfl) rfl ?_
  refine r_nil ?_
  refine c_seq (c_cond (decide ((k : Int) < (u.length : Int))) rfl (fun hc => ?_) (fun hc => ?_))
  ·
    have hlt : k < u.length := by simp at hc; omega
    have hg := List.getElem?_eq_getElem hlt
    generalize u[k] = x at hg
    have hxm := hmem x (List.mem_of_getElem? hg)
    have hidx := List.idxOf_lt_length_iff.2 hxm
    have htk := flat_bits_len (fun y => m.idxOf y) (len64 (m.length - 1)) (u.take k)
    rw [List.length_take, Nat.min_eq_left (Nat.le_of_lt hlt)] at htk
    have hwk : len64 (m.length - 1) * k ≤ len64 (m.length - 1) * u.length := Nat.mul_le_mul_left _ hk
    obtain ⟨b, o, hsl⟩ := ((hr.more [_, _, _, _]).at_ h).some (by omega)
    refine c_skip ?_
    refine c_seq (c_block ?_)
    refine c_seq (c_region ?_)
    refine r_v (q_idx (b := b) (o := o) (m := u.length) (c := c) (o' := o + k) (by rw [← hsl]; rfl) rfl rfl hlt (by simp)) rfl ?_
    refine r_v (q_loadc (v := .int .u64 x) rfl ((hsl ▸ (hr.more [_, _, _, _]).at_ h).cell (u64V_get hg))) rfl ?_
    refine r_v (q_assignI rfl) rfl ?_
    refine r_nil ?_
    refine c_anyW [0, 1, 2, 3, 4, 5, 6, 7, 8, 9, 10] none (fun w => IsMap (Value.int .u64) w q (atM 0 m)) (by kernel_rfl) (by kernel_rfl) ?_
    replace h := h.drew
    generalize w.drew = w at h
    have hs := h
    replace h := (hs.f 3).isMap
    refine cur_pure rfl rfl rfl rfl (fun _ => h) (fun _ => flt_v rfl (q_moveP rfl)) ?_; refine cur_pure rfl rfl rfl rfl (fun _ => h) (fun _ => flt_v rfl (q_moveM rfl)) ?_; refine cur_pure rfl rfl rfl rfl (fun _ => h) (fun _ => flt_v rfl (q_moveI rfl)) ?_
    refine cur_float rfl rfl rfl rfl h (fun w h => flt_v rfl (q_is (v' := .int .i64 ((m.idxOf x : Nat) : Int)) (q_lookup1 (k := (x : Int)) rfl rfl h) (by rw [mget_atM, if_pos hxm, Nat.zero_add]; rfl))) ?_
    refine cur_pure rfl rfl rfl rfl (fun _ => h) (fun _ => flt_v rfl (q_is (v' := .int .u64 ((m.idxOf x : Nat) : Int)) (q_conv rfl) (by rw [wrap_u64, Nat.mod_eq_of_lt (by omega)]))) ?_
    refine cur_pure rfl rfl rfl rfl (fun _ => h) (fun _ => flt_v rfl (q_moveS rfl)) ?_; refine cur_pure rfl rfl rfl rfl (fun _ => h) (fun _ => flt_v rfl (q_len rfl)) ?_
    refine cur_pure rfl rfl rfl rfl (fun _ => h) (fun _ => flt_v rfl (q_is (v' := .int .i64 ((m.length - 1 : Nat) : Int)) (q_sub rfl rfl) (by rw [wrap64 (by omega) (by omega)]; congr 1; omega))) ?_
    refine cur_pure rfl rfl rfl rfl (fun _ => h) (fun _ => flt_v rfl (q_is (v' := .int .u64 ((m.length - 1 : Nat) : Int)) (q_conv rfl) (by rw [wrap_u64, Nat.mod_eq_of_lt (by omega)]))) ?_
    refine cur_skip ?_; refine cur_skip ?_
    refine cur_one 9 rfl rfl rfl rfl ?_
    refine (x_call rfl (mb_Len (by omega) hs) ?_)
    rintro _ w ⟨rfl, hs⟩
    replace h := (hs.f 3).isMap
    refine ⟨fun _ => h, ?_⟩
    refine cur_skip ?_
    refine cur_one 10 rfl rfl rfl rfl ?_
    refine (x_call rfl (bits_Put (m.idxOf x) (len64 (m.length - 1)) (by omega) (by rw [htk]; omega) hs) ?_)
    rintro _ w ⟨rfl, hs⟩
    replace h := (hs.f 3).isMap
    refine ⟨fun _ => h, ?_⟩
    refine cur_end ?_
    refine c_region ?_
    refine r_v (q_add rfl rfl) rfl ?_
    refine r_is (.int .i64 ((k + 1 : Nat) : Int)) (by rw [wrap64 (by omega) (by omega)]; rfl) ?_
    refine r_v (q_moveI rfl) rfl ?_
    refine r_nil ⟨k + 1, ⟨rfl, rfl, rfl, rfl, rfl, rfl, rfl, trivial⟩, ⟨hlt, ?_⟩, by omega⟩
    rw [heldN_nat hw64] at hs
    rw [List.take_add_one, hg, List.flatMap_append]
    simpa using hs
  have hkn : k = u.length := by simp at hc; omega
  rw [hkn, List.take_length] at h
  refine c_exit ?_
  have hpl := pack_len (u.flatMap fun x => bitsOf (m.idxOf x) (len64 (m.length - 1)))
  refine c_seq (c_region ?_)
  refine r_v (q_moveS rfl) rfl ?_; refine r_v (q_moveP rfl) rfl ?_
  refine r_c rfl (x_call rfl (bits_Bytes h (by omega)) ?_)
  rintro _ w ⟨a3, c3, rfl, h⟩
  refine r_c rfl (x_append' (ys := bytesV (pack (u.flatMap fun x => bitsOf (m.idxOf x) (len64 (m.length - 1))))) (zs := bytesV (dictBytes m u)) (m3 := (dictBytes m u).length) (h.f 2) rfl rfl h.own_rd (bytesV_one _) (by rw [hdb]; simp; omega) (by rw [hdb]; simp [bytesV]) (by rw [hdb, List.length_append, List.length_append, hpl]; omega) (by rw [hdb, List.length_append, List.length_append, hpl]; omega) rfl fun a4 c4 w _ h => ?_)
  refine r_v (q_assignS rfl) rfl ?_; refine r_v (q_assignB rfl) rfl ?_
  refine r_nil ?_
  refine c_ret (bq2 ⟨a4, c4, rfl, ?_⟩)
  exact ((((h.f 1).drop.f 1).drop.f 1).drop.f 1).drop

theorem suit_steps {sl : Option Addr} {c : Nat} {u : List Nat} (hu : ∀ x ∈ u, x < 18446744073709551616) (hn : u.length ≤ 65535) (hr : Reads w0 l 1 sl u.length (u64V u)) (h : St w0 l w) :
    Ret Tryd.prog 68 [.slice sl u.length c] w fun v w' => ∃ a c', v = .slice a (stepsL 0 u).length c' ∧ St w0 (OwnU a c' (stepsL 0 u) :: l) w' := by
  refine enter Tryd.func68 rfl Tryd.results68 Tryd.ntmps68 rfl ?_
  refine c_seq (c_region ?_)
  refine r_v (q_assignS rfl) rfl ?_
  refine r_nil ?_
  refine c_seq (c_region ?_)
  refine r_v (q_assignS rfl) rfl ?_
  refine r_nil ?_
  refine c_seq (c_region ?_)
  refine r_v (q_assignI rfl) rfl ?_
  refine r_nil ?_
  refine c_seq (c_seq (c_region ?_))
  refine r_v (q_moveS rfl) rfl ?_; refine r_v (q_len rfl) rfl ?_; refine r_v (q_moveI rfl) rfl ?_
  refine r_nil ?_
  refine c_block ?_
  refine c_loop (Γ := Nat × Nat × List Nat × Option Addr × Nat) (fun k => [(3, .slice k.2.2.2.1 k.2.2.1.length k.2.2.2.2), (4, .int .u64 k.2.1), (7, .slice sl u.length c), (8, .int .i64 u.length), (9, .int .i64 k.1)])
    (fun k w => k.1 ≤ u.length ∧ k.2.1 < 18446744073709551616 ∧ k.2.2.1.length = k.1 ∧ k.2.2.1 ++ stepsL k.2.1 (u.drop k.1) = stepsL 0 u ∧ St w0 (OwnU k.2.2.2.1 k.2.2.2.2 k.2.2.1 :: l) w) (fun k => u.length - k.1) (0, 0, [], none, 0) ⟨rfl, rfl, rfl, rfl, rfl, trivial⟩ ⟨Nat.zero_le _, (by decide : (0 : Nat) < 18446744073709551616), rfl, rfl, St.ownNil _ _ h⟩ ?_
  clear h
  rintro ⟨i, was, out, a, c1⟩ w e ⟨hi, hw, hol, he, h⟩
  dsimp only at hi hw hol he h ⊢
  refine c_seq (c_region ?_)
  refine r_v (q_lss rfl rfl) rfl ?_
  refine r_nil ?_
  refine c_seq (c_cond (decide ((i : Int) < (u.length : Int))) rfl (fun hc => ?_) (fun hc => ?_))
  ·
    have hlt : i < u.length := by simp at hc; omega
    have hg := List.getElem?_eq_getElem hlt
    have hdr := List.drop_eq_getElem_cons hlt
    generalize u[i] = x at hg hdr
    have hx := hu x (List.mem_of_getElem? hg)
    have hd : diff x was < 18446744073709551616 := Nat.mod_lt _ (by decide)
    rw [hdr, stepsL] at he
    obtain ⟨b, o, hsl⟩ := (hr.cons.at_ h).some (by omega)
    refine c_skip ?_
    refine c_seq (c_block ?_)
    refine c_seq (c_region ?_)
    refine r_v (q_idx (b := b) (o := o) (m := u.length) (c := c) (o' := o + i) (by rw [← hsl]; rfl) rfl rfl hlt (by simp)) rfl ?_
    refine r_v (q_loadc (v := .int .u64 x) rfl ((hsl ▸ hr.cons.at_ h).cell (u64V_get hg))) rfl ?_
    refine r_v (q_assignI rfl) rfl ?_
    refine r_nil ?_
    refine c_seq (c_region ?_)
    refine r_v (q_moveS rfl) rfl ?_; refine r_v (q_moveI rfl) rfl ?_; refine r_v (q_moveI rfl) rfl ?_; refine r_v (q_sub rfl rfl) rfl ?_
    refine r_is (.int .u64 (diff x was : Nat)) (by rw [wrap_diff hw]) ?_
    refine r_v (q_conv rfl) rfl ?_
    refine r_is (.int .i64 (sg (diff x was))) (by rw [wrap_sg hd]) ?_
    refine r_c rfl (x_call rfl (vint_Zig (sg_wf hd) h) ?_)
    rintro _ w ⟨rfl, h⟩
    rw [us_sg hd]
    refine r_c rfl (x_bslice (r := u64V [zigU (diff x was)]) h rfl rfl rfl fun b2 w h => ?_)
    refine r_c rfl (x_append' (ys := u64V [zigU (diff x was)]) (zs := u64V (out ++ [zigU (diff x was)])) (m3 := (out ++ [zigU (diff x was)]).length) (h.f 1) rfl rfl ⟨rfl, .inr ⟨b2, 0, rfl, at_of (h.b 0 rfl) rfl⟩⟩ (u64V_one _) (by simp) (by simp [u64V]) (by simp; omega) (by simp; omega) rfl fun a2 c2 w _ h => ?_)
    refine r_v (q_assignS rfl) rfl ?_
    refine r_nil ?_
    refine c_region ?_
    refine r_v (q_moveI rfl) rfl ?_; refine r_v (q_assignI rfl) rfl ?_
    refine r_nil ?_
    refine c_region ?_
    refine r_v (q_add rfl rfl) rfl ?_
    refine r_is (.int .i64 ((i + 1 : Nat) : Int)) (by rw [wrap64 (by omega) (by omega)]; rfl) ?_
    refine r_v (q_moveI rfl) rfl ?_
    refine r_nil ⟨(i + 1, x, out ++ [zigU (diff x was)], a2, c2), ⟨rfl, rfl, rfl, rfl, rfl, trivial⟩, ⟨hlt, hx, by simp; omega, ?_, (h.f 1).drop⟩, by dsimp only; omega⟩
    rw [← he]; simp
  have hin : i = u.length := by simp at hc; omega
  rw [hin, List.drop_length, stepsL, List.append_nil] at he
  refine c_exit ?_
  refine c_seq (c_region ?_)
  refine r_v (q_moveS rfl) rfl ?_; refine r_v (q_assignS rfl) rfl ?_
  refine r_nil ?_
  rw [← he]
  exact c_ret (bq1 ⟨a, c1, rfl, h⟩)
theorem be8_get (x j : Nat) (h : j < 8) : (be8 x)[j]? = some (UInt8.ofNat (x / 2 ^ (8 * (7 - j)))) := by
  rcases (by omega : j = 0 ∨ j = 1 ∨ j = 2 ∨ j = 3 ∨ j = 4 ∨ j = 5 ∨ j = 6 ∨ j = 7) with rfl | rfl | rfl | rfl | rfl | rfl | rfl | rfl <;> simp [be8]

theorem suit_big {sl : Option Addr} {c : Nat} {u : List Nat} (hu : ∀ x ∈ u, x < 18446744073709551616) (hn : u.length ≤ 65535) (hr : Reads w0 l 1 sl u.length (u64V u)) (h : St w0 l w) :
    Ret Tryd.prog 69 [.slice sl u.length c] w fun v w' => ∃ a c', v = .slice a (bigL u).length c' ∧ St w0 (OwnB a c' (bigL u) :: l) w' := by
  refine enter Tryd.func69 rfl Tryd.results69 Tryd.ntmps69 rfl ?_
  refine c_seq (c_region ?_)
  refine r_v (q_assignS rfl) rfl ?_
  refine r_nil ?_
  refine c_seq (c_region ?_)
  refine r_v (q_assignS rfl) rfl ?_
  refine r_nil ?_
  refine c_seq (c_seq (c_region ?_))
  refine r_v (q_moveS rfl) rfl ?_; refine r_v (q_len rfl) rfl ?_; refine r_v (q_moveI rfl) rfl ?_
  refine r_nil ?_
  refine c_block ?_
  refine c_loop (Γ := Nat × Option Addr × Nat) (fun k => [(3, .slice k.2.1 (bigL (u.take k.1)).length k.2.2), (7, .slice sl u.length c), (8, .int .i64 u.length), (9, .int .i64 k.1)])
    (fun k w => k.1 ≤ u.length ∧ St w0 (OwnB k.2.1 k.2.2 (bigL (u.take k.1)) :: l) w) (fun k => u.length - k.1) (0, none, 0) ⟨rfl, rfl, rfl, rfl, trivial⟩ ⟨Nat.zero_le _, St.ownNil _ _ h⟩ ?_
  clear h
  rintro ⟨i, a, c1⟩ w e ⟨hi, h⟩
  dsimp only at hi h ⊢
  have hbl := bigL_len (u.take i)
  rw [List.length_take, Nat.min_eq_left hi] at hbl
  refine c_seq (c_region ?_)
  refine r_v (q_lss rfl rfl) rfl ?_
  refine r_nil ?_
  refine c_seq (c_cond (decide ((i : Int) < (u.length : Int))) rfl (fun hc => ?_) (fun hc => ?_))
  ·
    have hlt : i < u.length := by simp at hc; omega
    have hg := List.getElem?_eq_getElem hlt
    generalize u[i] = x at hg
    have hx := hu x (List.mem_of_getElem? hg)
    obtain ⟨b, o, hsl⟩ := (hr.cons.at_ h).some (by omega)
    have hstep : bigL (u.take (i + 1)) = bigL (u.take i) ++ be8 x := by
      unfold bigL
      rw [List.take_add_one, hg, List.flatMap_append]; simp
    rw [show Value.slice a (bigL (u.take i)).length c1 = Value.slice a (bigL (u.take i) ++ (be8 x).take 0).length c1 by simp]
    replace h : St w0 (OwnB a c1 (bigL (u.take i) ++ (be8 x).take 0) :: l) w := by simpa using h
    generalize bigL (u.take i) = base at hbl hstep h ⊢
    refine c_skip ?_
    refine c_seq (c_block ?_)
    refine c_seq (c_region ?_)
    refine r_v (q_idx (b := b) (o := o) (m := u.length) (c := c) (o' := o + i) (by rw [← hsl]; rfl) rfl rfl hlt (by simp)) rfl ?_
    refine r_v (q_loadc (v := .int .u64 x) rfl ((hsl ▸ hr.cons.at_ h).cell (u64V_get hg))) rfl ?_
    refine r_v (q_assignI rfl) rfl ?_
    refine r_nil ?_
    refine c_seq (c_region ?_)
    refine r_v (q_assignI rfl) rfl ?_
    refine r_nil ?_
    refine c_block ?_
    refine c_loop (Γ := Nat × Option Addr × Nat) (fun k => [(3, .slice k.2.1 (base ++ (be8 x).take k.1).length k.2.2), (5, .int .u64 x), (6, .int .i64 (7 - (k.1 : Int))), (7, .slice sl u.length c), (8, .int .i64 u.length), (9, .int .i64 i)])
      (fun k w => k.1 ≤ 8 ∧ St w0 (OwnB k.2.1 k.2.2 (base ++ (be8 x).take k.1) :: l) w) (fun k => 8 - k.1) (0, a, c1) ⟨rfl, rfl, rfl, rfl, rfl, rfl, trivial⟩ ⟨Nat.zero_le _, h⟩ ?_
    clear h
    rintro ⟨j, a, c1⟩ w e ⟨hj, h⟩
    dsimp only at hj h ⊢
    have hb8 : (be8 x).length = 8 := rfl
    refine c_seq (c_seq (c_region ?_))
    refine r_v (q_moveI rfl) rfl ?_; refine r_v (q_geq rfl rfl) rfl ?_
    by_cases hj8 : j < 8
    · refine r_is (.bool true) (by simp; omega) ?_
      refine r_nil (c_true rfl (c_skip ?_))
      have hgj := be8_get x j hj8
      have htk : (be8 x).take (j + 1) = (be8 x).take j ++ [UInt8.ofNat (x / 2 ^ (8 * (7 - j)))] := by rw [List.take_add_one, hgj]; rfl
      have htl : ((be8 x).take j).length = j := by rw [List.length_take, hb8]; omega
      refine c_seq (c_block ?_)
      refine c_region ?_
      refine r_v (q_moveS rfl) rfl ?_; refine r_v (q_moveI rfl) rfl ?_; refine r_v (q_moveI rfl) rfl ?_; refine r_v (q_mul rfl rfl) rfl ?_
      refine r_is (.int .i64 ((8 * (7 - j) : Nat) : Int)) (by rw [wrap64 (by omega) (by omega)]; congr 1; omega) ?_
      refine r_v (q_is (v' := .int .u64 ((x / 2 ^ (8 * (7 - j)) : Nat) : Int)) (q_shr rfl rfl (by omega)) (congrArg (Value.int .u64) (fdiv_nat x (8 * (7 - j)) 64 (by omega)))) rfl ?_
      refine r_v (q_conv rfl) rfl ?_
      refine r_is (.int .u8 ((UInt8.ofNat (x / 2 ^ (8 * (7 - j)))).toNat : Int)) (by rw [wrap_u8, UInt8.toNat_ofNat']) ?_
      refine r_c rfl (x_bslice (r := bytesV [UInt8.ofNat (x / 2 ^ (8 * (7 - j)))]) h rfl rfl rfl fun b2 w h => ?_)
      refine r_c rfl (x_append' (ys := bytesV [UInt8.ofNat (x / 2 ^ (8 * (7 - j)))]) (zs := bytesV (base ++ (be8 x).take (j + 1))) (m3 := (base ++ (be8 x).take (j + 1)).length) (h.f 1) rfl rfl ⟨rfl, .inr ⟨b2, 0, rfl, at_of (h.b 0 rfl) rfl⟩⟩ (bytesV_one _) (by rw [htk]; simp; omega) (by rw [htk]; simp [bytesV]) (by rw [htk]; simp; omega) (by rw [htk]; simp; omega) rfl fun a2 c2 w _ h => ?_)
      refine r_v (q_assignS rfl) rfl ?_
      refine r_nil ?_
      refine c_region ?_
      refine r_v (q_moveI rfl) rfl ?_; refine r_v (q_sub rfl rfl) rfl ?_
      refine r_is (.int .i64 (7 - ((j + 1 : Nat) : Int))) (by rw [wrap64 (by omega) (by omega)]; congr 1; omega) ?_
      refine r_v (q_assignI rfl) rfl ?_
      exact r_nil ⟨(j + 1, a2, c2), ⟨rfl, rfl, rfl, rfl, rfl, rfl, trivial⟩, ⟨hj8, (h.f 1).drop⟩, by dsimp only; omega⟩
    refine r_is (.bool false) (by simp; omega) ?_
    refine r_nil (c_false rfl ?_)
    have hjj : j = 8 := by omega
    subst hjj
    rw [show (be8 x).take 8 = be8 x from rfl, ← hstep] at h
    refine c_exit ?_
    refine c_region ?_
    refine r_v (q_add rfl rfl) rfl ?_
    refine r_is (.int .i64 ((i + 1 : Nat) : Int)) (by rw [wrap64 (by omega) (by omega)]; rfl) ?_
    refine r_v (q_moveI rfl) rfl ?_
    refine r_nil ⟨(i + 1, a, c1), ⟨?_, rfl, rfl, rfl, trivial⟩, ⟨hlt, h⟩, by dsimp only; omega⟩
    show Value.slice _ _ _ = Value.slice _ _ _
    rw [hstep]; rfl
  have hin : i = u.length := by simp at hc; omega
  rw [hin, List.take_length] at h
  refine c_exit ?_
  refine c_seq (c_region ?_)
  refine r_v (q_moveS rfl) rfl ?_; refine r_v (q_assignS rfl) rfl ?_
  refine r_nil ?_
  refine c_ret (bq1 ⟨a, c1, ?_, h⟩)
  show Value.slice a (bigL (u.take i)).length c1 = _
  rw [hin, List.take_length]

theorem suit_same {sl : Option Addr} {c : Nat} {u : List Nat} (hu : ∀ x ∈ u, x < 18446744073709551616) (hn : u.length ≤ 65535) (hr : Reads w0 l 1 sl u.length (u64V u)) (h : St w0 l w) :
    Ret Tryd.prog 73 [.slice sl u.length c] w fun v w' => ∃ a c', v = .tuple [.slice a ((sameEnc u).getD []).length c', .bool (sameEnc u).isSome].toArray ∧ St w0 (OwnB a c' ((sameEnc u).getD []) :: l) w' := by
  refine enter Tryd.func73 rfl Tryd.results73 Tryd.ntmps73 rfl ?_
  refine c_seq (c_region ?_)
  refine r_v (q_assignS rfl) rfl ?_; refine r_v (q_assignB rfl) rfl ?_
  refine r_nil ?_
  refine c_seq (c_seq (c_region ?_))
  refine r_v (q_moveS rfl) rfl ?_; refine r_v (q_len rfl) rfl ?_; refine r_v (q_moveI rfl) rfl ?_
  refine r_nil ?_
  refine c_block ?_
  refine c_loop (Γ := Nat) (fun k => [(0, .slice sl u.length c), (6, .slice sl u.length c), (7, .int .i64 u.length), (8, .int .i64 k)]) (fun k w => k ≤ u.length ∧ (∀ y ∈ u.take k, some y = u[0]?) ∧ St w0 l w) (fun k => u.length - k) 0 ⟨rfl, rfl, rfl, rfl, trivial⟩ ⟨Nat.zero_le _, by simp, h⟩ ?_
  clear h
  rintro k w e ⟨hk, hall, h⟩
  refine c_seq (c_region ?_)
  refine r_v (q_lss rfl rfl) rfl ?_
  refine r_nil ?_
  refine c_seq (c_cond (decide ((k : Int) < (u.length : Int))) rfl (fun hc => ?_) (fun hc => ?_))
  ·
    have hlt : k < u.length := by simp at hc; omega
    have hg := List.getElem?_eq_getElem hlt
    have hgm : u[k] ∈ u := List.getElem_mem _
    generalize u[k] = y at hg hgm
    have hg0 := List.getElem?_eq_getElem (show 0 < u.length by omega)
    generalize u[0]'(by omega) = x at hg0
    obtain ⟨b, o, hsl⟩ := (hr.at_ h).some (by omega)
    refine c_skip ?_
    refine c_seq (c_block ?_)
    refine c_seq (c_region ?_)
    refine r_v (q_idx (b := b) (o := o) (m := u.length) (c := c) (o' := o + k) (by rw [← hsl]; rfl) rfl rfl hlt (by simp)) rfl ?_
    refine r_v (q_loadc (v := .int .u64 y) rfl ((hsl ▸ hr.at_ h).cell (u64V_get hg))) rfl ?_
    refine r_v (q_assignI rfl) rfl ?_
    refine r_nil ?_
    refine c_seq (c_region ?_)
    refine r_v (q_moveI rfl) rfl ?_; refine r_v (q_moveS rfl) rfl ?_
    refine r_v (q_idx (b := b) (o := o) (m := u.length) (c := c) (o' := o) (by rw [← hsl]; rfl) rfl (j := 0) rfl (by omega) (by simp)) rfl ?_
    refine r_v (q_loadc (v := .int .u64 x) rfl ((hsl ▸ hr.at_ h).cell (u64V_get (j := 0) hg0))) rfl ?_
    refine r_v (q_neq rfl rfl) rfl ?_
    by_cases hyx : y = x
    · refine r_is (.bool false) (by rw [hyx]; simp) ?_
      refine r_nil (c_false rfl (c_skip ?_))
      refine c_region ?_
      refine r_v (q_add rfl rfl) rfl ?_
      refine r_is (.int .i64 ((k + 1 : Nat) : Int)) (by rw [wrap64 (by omega) (by omega)]; rfl) ?_
      refine r_v (q_moveI rfl) rfl ?_
      refine r_nil ⟨k + 1, ⟨rfl, rfl, rfl, rfl, trivial⟩, ⟨hlt, fun z hz => ?_, h⟩, by omega⟩
      rw [List.take_add_one, hg] at hz
      rcases List.mem_append.1 hz with hz | hz
      · exact hall z hz
      · simp at hz; subst hz; rw [hg0, hyx]
    · refine r_is (.bool true) (by congr 1; rw [bne_iff_ne]; omega) ?_
      refine r_nil (c_true rfl ?_)
      refine c_seq (c_region ?_)
      refine r_v (q_assignS rfl) rfl ?_; refine r_v (q_assignB rfl) rfl ?_
      refine r_nil ?_
      have e1 : sameEnc u = none := by
        cases u with
        | nil => cases hgm
        | cons z r =>
          simp at hg0
          subst hg0
          rw [sameEnc, if_neg]
          intro hh
          rcases List.mem_cons.1 hgm with h1 | h1
          · exact hyx h1
          · exact hyx (by simpa using List.all_eq_true.1 hh y h1)
      rw [e1]
      exact c_ret (bq2 ⟨none, 0, rfl, St.ownNil _ _ h⟩)
  have hkn : k = u.length := by simp at hc; omega
  rw [hkn, List.take_length] at hall
  refine c_exit ?_
  refine c_seq (c_seq (c_region ?_))
  refine r_v (q_moveS rfl) rfl ?_; refine r_v (q_len rfl) rfl ?_; refine r_v (q_eql rfl rfl) rfl ?_
  cases u with
  | nil =>
    refine r_is (.bool true) rfl ?_
    refine r_nil (c_true rfl ?_)
    refine c_seq (c_region ?_)
    refine r_v (q_assignS rfl) rfl ?_; refine r_v (q_assignB rfl) rfl ?_
    refine r_nil ?_
    exact c_ret (bq2 ⟨none, 0, rfl, St.ownNil _ _ h⟩)
  | cons x r =>
    obtain ⟨b, o, hsl⟩ := (hr.at_ h).some (by simp)
    refine r_is (.bool false) (by simp; omega) ?_
    refine r_nil (c_false rfl (c_skip ?_))
    refine c_seq (c_region ?_)
    refine r_v (q_moveS rfl) rfl ?_
    refine r_v (q_idx (b := b) (o := o) (m := (x :: r).length) (c := c) (o' := o) (by rw [← hsl]; rfl) rfl (j := 0) rfl (by simp) (by simp)) rfl ?_
    refine r_v (q_loadc (v := .int .u64 x) rfl ((hsl ▸ hr.at_ h).cell (u64V_get (j := 0) rfl))) rfl ?_
    refine r_c rfl (x_call rfl (vint_Put (bs := []) x (hu x (List.mem_cons_self ..)) h (fun w' h' => Reads.nil.at_ h') (by simp)) ?_)
    rintro _ w ⟨a1, c1, rfl, h⟩
    rw [List.nil_append] at h ⊢
    refine r_v (q_assignS rfl) rfl ?_; refine r_v (q_assignB rfl) rfl ?_
    refine r_nil ?_
    have e1 : sameEnc (x :: r) = some (vput x) := by
      rw [sameEnc, if_pos]
      refine List.all_eq_true.2 fun y hy => ?_
      have := hall y (List.mem_cons_of_mem _ hy)
      simp at this
      simpa using this
    rw [e1]
    exact c_ret (bq2 ⟨a1, c1, rfl, h⟩)
end
end Go.Proofs.YtjjacchnalemaaaDoor
