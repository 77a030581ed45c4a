/- dict: reading by a list of values. -/
import Derived.Test.YtjjacchnalemaaaDoorDecR
namespace Go.Hw
theorem pickRun (l : List Nat) (wide k : Nat) (s : RS) : (getAll (k + 1) wide s).bind (pickAll l) =
    if (s.get wide).2.bad = true then none else match l[(s.get wide).1]? with
      | none => none
      | some x => ((getAll k wide (s.get wide).2).bind (pickAll l)).map fun r => x :: r := by
  rw [getAll]
  split
  · rfl
  · cases hx : l[(s.get wide).1]? with
    | none =>
      cases getAll k wide (s.get wide).2 with
      | none => rfl
      | some r => simp [pickAll, hx]
    | some x =>
      cases getAll k wide (s.get wide).2 with
      | none => rfl
      | some r => simp [pickAll, hx]
theorem dictDec_bind (b : List UInt8) (n : Nat) : dictDec b n = if n = 0 then (if b = [] then some [] else none)
  else if (vget b).2 = 0 ∨ (vget b).1 = 0 ∨ 256 < (vget b).1 then none
  else match getVs (vget b).1 (b.drop (vget b).2) with
    | none => none
    | some (l, rest) => match (getAll n (len64 (l.length - 1)) ⟨bitsB rest, false⟩).bind (pickAll l) with
      | none => none
      | some out => if dictEnc out = some b then some out else none := by
  unfold dictDec
  split
  · rfl
  · split
    · rfl
    · cases getVs (vget b).1 (b.drop (vget b).2) with
      | none => rfl
      | some x =>
        obtain ⟨l, rest⟩ := x
        dsimp only
        cases getAll n (len64 (l.length - 1)) ⟨bitsB rest, false⟩ with
        | none => rfl
        | some a => rfl
end Go.Hw
namespace Go.Proofs.YtjjacchnalemaaaDoor
open Go.Hw
set_option maxHeartbeats 4000000
set_option maxRecDepth 100000
section
variable {w0 w : World} {l : List HProp}
theorem dict_values {sl : Option Addr} {c : Nat} {bs : List UInt8} (hbn : bs.length ≤ 140737488355328) (hc : bs.length ≤ c) (hr : Reads w0 l 1 sl bs.length (bytesV bs)) (h : St w0 l w) :
    Ret Tryd.prog 114 [.slice sl bs.length c] w fun v w' =>
      ((if (vget bs).2 = 0 ∨ (vget bs).1 = 0 ∨ 256 < (vget bs).1 then none else getVs (vget bs).1 (bs.drop (vget bs).2)) = none ∧ v = .tuple [.slice none 0 0, .slice none 0 0, .bool false].toArray ∧ St w0 l w') ∨
      ∃ L rest a c1 a2 c2, (if (vget bs).2 = 0 ∨ (vget bs).1 = 0 ∨ 256 < (vget bs).1 then none else getVs (vget bs).1 (bs.drop (vget bs).2)) = some (L, rest) ∧ v = .tuple [.slice a L.length c1, .slice a2 rest.length c2, .bool true].toArray ∧ 0 < L.length ∧ L.length ≤ 256 ∧ (∀ x ∈ L, x < 18446744073709551616) ∧ rest.length ≤ bs.length ∧ Reads w0 l 1 a2 rest.length (bytesV rest) ∧ St w0 (OwnU a c1 L :: l) w' := by
  refine enter Tryd.func114 rfl Tryd.results114 Tryd.ntmps114 rfl ?_
  refine c_seq (c_region ?_)
  refine r_v (q_assignS rfl) rfl ?_; refine r_v (q_assignS rfl) rfl ?_; refine r_v (q_assignB rfl) rfl ?_
  refine r_nil ?_
  have hk := vget_le bs
  have hm := vget_lt bs
  refine c_seq (c_region ?_)
  refine r_v (q_moveS rfl) rfl ?_
  refine r_c rfl (x_call rfl (vint_Get h hr.rd hbn) ?_)
  rintro _ w ⟨rfl, h⟩
  refine r_v (q_moveT rfl) rfl ?_; refine r_v (q_ext rfl rfl) rfl ?_; refine r_v (q_ext rfl rfl) rfl ?_; refine r_v (q_assignI rfl) rfl ?_; refine r_v (q_assignI rfl) rfl ?_
  refine r_nil ?_
  generalize (vget bs).1 = many at hm ⊢
  generalize (vget bs).2 = i at hk ⊢
  refine c_cut (Γ := Unit) (fun _ => [(0, .slice sl bs.length c), (5, .int .u64 many), (6, .int .i64 i)]) (fun _ w => ¬ (i = 0 ∨ many = 0 ∨ 256 < many) ∧ St w0 l w) ?_ ?_
  · refine c_seq (c_region ?_)
    by_cases g1 : i = 0
    · refine r_v (q_moveI rfl) rfl ?_
      refine r_v (q_is (v' := .bool true) (q_eql rfl rfl) (by rw [g1]; rfl)) rfl ?_
      refine r_v (q_moveB rfl) rfl ?_; (first | refine r_gd rfl rfl ?_ | refine r_gn rfl rfl rfl ?_ | refine r_gu rfl rfl ?_ | refine r_gd rfl (by assumption) ?_ | refine r_gn rfl (by assumption) rfl ?_); (first | refine r_gd rfl rfl ?_ | refine r_gn rfl rfl rfl ?_ | refine r_gu rfl rfl ?_ | refine r_gd rfl (by assumption) ?_ | refine r_gn rfl (by assumption) rfl ?_); (first | refine r_v (q_pick1 rfl rfl rfl) rfl ?_ | refine r_v (q_pick0 rfl rfl rfl) rfl ?_ | refine r_v (q_pick1 rfl (by assumption) rfl) rfl ?_ | refine r_v (q_pick0 rfl (by assumption) rfl) rfl ?_ | refine r_v (q_pickB rfl rfl rfl) rfl ?_); refine r_v (q_moveB rfl) rfl ?_; (first | refine r_gd rfl rfl ?_ | refine r_gn rfl rfl rfl ?_ | refine r_gu rfl rfl ?_ | refine r_gd rfl (by assumption) ?_ | refine r_gn rfl (by assumption) rfl ?_); (first | refine r_gd rfl rfl ?_ | refine r_gn rfl rfl rfl ?_ | refine r_gu rfl rfl ?_ | refine r_gd rfl (by assumption) ?_ | refine r_gn rfl (by assumption) rfl ?_); (first | refine r_v (q_pick1 rfl rfl rfl) rfl ?_ | refine r_v (q_pick0 rfl rfl rfl) rfl ?_ | refine r_v (q_pick1 rfl (by assumption) rfl) rfl ?_ | refine r_v (q_pick0 rfl (by assumption) rfl) rfl ?_ | refine r_v (q_pickB rfl rfl rfl) rfl ?_)
      refine r_nil (c_true rfl ?_)
      refine c_seq (c_region ?_)
      refine r_v (q_assignS rfl) rfl ?_; refine r_v (q_assignS rfl) rfl ?_; refine r_v (q_assignB rfl) rfl ?_
      exact r_nil (c_ret (bq3 (.inl ⟨by rw [if_pos (.inl g1)], rfl, h⟩)))
    refine r_v (q_moveI rfl) rfl ?_
    refine r_v (q_is (v' := .bool false) (q_eql rfl rfl) (by congr 1; rw [beq_eq_false_iff_ne]; omega)) rfl ?_
    refine r_v (q_moveB rfl) rfl ?_; (first | refine r_gd rfl rfl ?_ | refine r_gn rfl rfl rfl ?_ | refine r_gu rfl rfl ?_ | refine r_gd rfl (by assumption) ?_ | refine r_gn rfl (by assumption) rfl ?_); refine r_v (q_moveI rfl) rfl ?_; (first | refine r_gd rfl rfl ?_ | refine r_gn rfl rfl rfl ?_ | refine r_gu rfl rfl ?_ | refine r_gd rfl (by assumption) ?_ | refine r_gn rfl (by assumption) rfl ?_)
    by_cases g2 : many = 0
    · refine r_v (q_is (v' := .bool true) (q_eql rfl rfl) (by rw [g2]; rfl)) rfl ?_
      (first | refine r_v (q_pick1 rfl rfl rfl) rfl ?_ | refine r_v (q_pick0 rfl rfl rfl) rfl ?_ | refine r_v (q_pick1 rfl (by assumption) rfl) rfl ?_ | refine r_v (q_pick0 rfl (by assumption) rfl) rfl ?_ | refine r_v (q_pickB rfl rfl rfl) rfl ?_); refine r_v (q_moveB rfl) rfl ?_; (first | refine r_gd rfl rfl ?_ | refine r_gn rfl rfl rfl ?_ | refine r_gu rfl rfl ?_ | refine r_gd rfl (by assumption) ?_ | refine r_gn rfl (by assumption) rfl ?_); (first | refine r_gd rfl rfl ?_ | refine r_gn rfl rfl rfl ?_ | refine r_gu rfl rfl ?_ | refine r_gd rfl (by assumption) ?_ | refine r_gn rfl (by assumption) rfl ?_); (first | refine r_v (q_pick1 rfl rfl rfl) rfl ?_ | refine r_v (q_pick0 rfl rfl rfl) rfl ?_ | refine r_v (q_pick1 rfl (by assumption) rfl) rfl ?_ | refine r_v (q_pick0 rfl (by assumption) rfl) rfl ?_ | refine r_v (q_pickB rfl rfl rfl) rfl ?_)
      refine r_nil (c_true rfl ?_)
      refine c_seq (c_region ?_)
      refine r_v (q_assignS rfl) rfl ?_; refine r_v (q_assignS rfl) rfl ?_; refine r_v (q_assignB rfl) rfl ?_
      exact r_nil (c_ret (bq3 (.inl ⟨by rw [if_pos (.inr (.inl g2))], rfl, h⟩)))
    refine r_v (q_is (v' := .bool false) (q_eql rfl rfl) (by congr 1; rw [beq_eq_false_iff_ne]; omega)) rfl ?_
    (first | refine r_v (q_pick1 rfl rfl rfl) rfl ?_ | refine r_v (q_pick0 rfl rfl rfl) rfl ?_ | refine r_v (q_pick1 rfl (by assumption) rfl) rfl ?_ | refine r_v (q_pick0 rfl (by assumption) rfl) rfl ?_ | refine r_v (q_pickB rfl rfl rfl) rfl ?_); refine r_v (q_moveB rfl) rfl ?_; (first | refine r_gd rfl rfl ?_ | refine r_gn rfl rfl rfl ?_ | refine r_gu rfl rfl ?_ | refine r_gd rfl (by assumption) ?_ | refine r_gn rfl (by assumption) rfl ?_); refine r_v (q_moveI rfl) rfl ?_; (first | refine r_gd rfl rfl ?_ | refine r_gn rfl rfl rfl ?_ | refine r_gu rfl rfl ?_ | refine r_gd rfl (by assumption) ?_ | refine r_gn rfl (by assumption) rfl ?_); refine r_v (q_gtr rfl rfl) rfl ?_; (first | refine r_v (q_pick1 rfl rfl rfl) rfl ?_ | refine r_v (q_pick0 rfl rfl rfl) rfl ?_ | refine r_v (q_pick1 rfl (by assumption) rfl) rfl ?_ | refine r_v (q_pick0 rfl (by assumption) rfl) rfl ?_ | refine r_v (q_pickB rfl rfl rfl) rfl ?_)
    refine r_nil (c_cond (decide ((many : Int) > 256)) rfl (fun hc1 => ?_) (fun hc1 => ?_))
    · refine c_seq (c_region ?_)
      refine r_v (q_assignS rfl) rfl ?_; refine r_v (q_assignS rfl) rfl ?_; refine r_v (q_assignB rfl) rfl ?_
      exact r_nil (c_ret (bq3 (.inl ⟨by rw [if_pos (.inr (.inr (by simp at hc1; omega)))], rfl, h⟩)))
    · exact c_skip ⟨(), ⟨rfl, rfl, rfl, trivial⟩, by simp at hc1; omega, h⟩
  clear h
  rintro _ w e ⟨hcond, h⟩
  rw [if_neg hcond]
  have hrt := hr.tailB hk hc
  refine c_seq (c_region ?_)
  refine r_v (q_moveS rfl) rfl ?_; refine r_v (q_moveI rfl) rfl ?_
  refine r_v (q_tail (i := i) rfl rfl hk) rfl ?_
  show Rn _ _ _ _ _ (upd _ _ (.slice (adv sl (i * 1) (Nat.beq c i)) (bs.length - i) (c - i))) _
  rw [← List.length_drop]
  refine r_v (q_assignS rfl) rfl ?_
  refine r_nil ?_
  refine c_seq (c_region ?_)
  refine r_v (q_assignS rfl) rfl ?_
  refine r_nil ?_
  refine c_seq (c_seq (c_region ?_))
  refine r_v (q_moveI rfl) rfl ?_; refine r_v (q_moveI rfl) rfl ?_
  refine r_nil ?_
  generalize hG : getVs many (bs.drop i) = G
  refine c_block ?_
  refine c_loop (Γ := Nat × List UInt8 × Option Addr × Nat × List Nat × Option Addr × Nat) (fun k => [(0, .slice k.2.2.1 k.2.1.length k.2.2.2.1), (7, .slice k.2.2.2.2.2.1 k.2.2.2.2.1.length k.2.2.2.2.2.2), (28, .int .u64 many), (29, .int .u64 k.1)])
    (fun k w => k.1 ≤ many ∧ k.2.2.2.2.1.length = k.1 ∧ k.2.1.length ≤ bs.length ∧ k.2.1.length ≤ k.2.2.2.1 ∧ (∀ x ∈ k.2.2.2.2.1, x < 18446744073709551616) ∧ G = (getVs (many - k.1) k.2.1).map (fun r => (k.2.2.2.2.1 ++ r.1, r.2)) ∧ Reads w0 l 1 k.2.2.1 k.2.1.length (bytesV k.2.1) ∧ St w0 (OwnU k.2.2.2.2.2.1 k.2.2.2.2.2.2 k.2.2.2.2.1 :: l) w)
    (fun k => many - k.1) (0, bs.drop i, adv sl (i * 1) (Nat.beq c i), c - i, [], none, 0) ⟨rfl, rfl, rfl, rfl, trivial⟩ ⟨Nat.zero_le _, rfl, (by dsimp only; rw [List.length_drop]; omega), (by dsimp only; rw [List.length_drop]; omega), (fun _ h => by cases h), (by rw [← hG]; simp), hrt, St.ownNil _ _ h⟩ ?_
  clear h hrt hr hc
  rintro ⟨j, b, ba, bc, L, oa, oc⟩ w e ⟨hj, hLl, hbl, hc, hL, inv, hr, h⟩
  dsimp only at hj hLl hbl hc hL inv hr h ⊢
  refine c_seq (c_region ?_)
  refine r_v (q_lss rfl rfl) rfl ?_
  refine r_nil ?_
  refine c_seq (c_cond (decide ((j : Int) < (many : Int))) rfl (fun hc1 => ?_) (fun hc1 => ?_))
  ·
    have hlt : j < many := by simp at hc1; omega
    rw [show many - j = (many - (j + 1)) + 1 by omega, getVs] at inv
    have hk2 := vget_le b
    have hx := vget_lt b
    refine c_skip ?_
    refine c_seq (c_block ?_)
    refine c_seq (c_region ?_)
    refine r_v (q_moveS rfl) rfl ?_
    refine r_c rfl (x_call rfl (vint_Get h hr.cons.rd (by omega)) ?_)
    rintro _ w ⟨rfl, h⟩
    refine r_v (q_moveT rfl) rfl ?_; refine r_v (q_ext rfl rfl) rfl ?_; refine r_v (q_ext rfl rfl) rfl ?_; refine r_v (q_assignI rfl) rfl ?_; refine r_v (q_assignI rfl) rfl ?_
    refine r_nil ?_
    generalize (vget b).1 = x at hx inv ⊢
    generalize (vget b).2 = k at hk2 inv ⊢
    refine c_seq (c_seq (c_region ?_))
    refine r_v (q_moveI rfl) rfl ?_; refine r_v (q_eql rfl rfl) rfl ?_
    by_cases hk0 : k = 0
    · refine r_is (.bool true) (by rw [hk0]; rfl) ?_
      refine r_nil (c_true rfl ?_)
      refine c_seq (c_region ?_)
      refine r_v (q_assignS rfl) rfl ?_; refine r_v (q_assignS rfl) rfl ?_; refine r_v (q_assignB rfl) rfl ?_
      refine r_nil ?_
      rw [if_pos hk0] at inv
      exact c_ret (bq3 (.inl ⟨inv, rfl, h.drop⟩))
    refine r_is (.bool false) (by congr 1; rw [beq_eq_false_iff_ne]; omega) ?_
    refine r_nil (c_false rfl (c_skip ?_))
    rw [if_neg hk0, Option.map_map] at inv
    have hrt := hr.tailB hk2 hc
    refine c_anyW [0, 1, 2, 3, 4, 5, 6, 7, 8] none (fun w => ∃ L, St w0 (L ++ l) w) (by kernel_rfl) (by kernel_rfl) ?_
    replace h := h.drew
    generalize w.drew = w at h
    have hs := h
    replace h : ∃ L, St w0 (L ++ l) w := ⟨[_], hs⟩
    refine cur_pure rfl rfl rfl rfl (fun _ => h) (fun _ => flt_v rfl (q_moveS rfl)) ?_; refine cur_pure rfl rfl rfl rfl (fun _ => h) (fun _ => flt_v rfl (q_moveI rfl)) ?_; refine cur_skip ?_; refine cur_skip ?_; refine cur_pure rfl rfl rfl rfl (fun _ => h) (fun _ => flt_v rfl (q_moveS rfl)) ?_; refine cur_pure rfl rfl rfl rfl (fun _ => h) (fun _ => flt_v rfl (q_moveI rfl)) ?_
    refine cur_pure rfl rfl rfl rfl (fun _ => h) (fun _ => flt_v rfl (q_is (v' := .slice (adv ba (k * 1) (Nat.beq bc k)) (b.drop k).length (bc - k)) (q_tail (i := k) rfl rfl hk2) (by rw [List.length_drop]; rfl))) ?_
    refine cur_skip ?_; refine cur_skip ?_
    refine cur_one 2 rfl rfl rfl rfl ?_
    refine (x_bslice (r := u64V [x]) hs rfl rfl rfl fun b2 w hs => ?_)
    replace h : ∃ L, St w0 (L ++ l) w := ⟨[_, _], hs⟩
    refine ⟨fun _ => h, ?_⟩
    refine cur_skip ?_; refine cur_skip ?_; refine cur_skip ?_
    refine cur_one 3 rfl rfl rfl rfl ?_
    refine (x_append' (ys := u64V [x]) (zs := u64V (L ++ [x])) (m3 := (L ++ [x]).length) (hs.f 1) rfl rfl ⟨rfl, .inr ⟨b2, 0, rfl, at_of (hs.b 0 rfl) rfl⟩⟩ (u64V_one _) (by simp) (by simp [u64V]) (by simp; omega) (by simp; omega) rfl fun a2 c2 w _ hs => ?_)
    replace h : ∃ L, St w0 (L ++ l) w := ⟨[_, _], hs⟩
    refine ⟨fun _ => h, ?_⟩
    refine cur_pure rfl rfl rfl rfl (fun _ => h) (fun _ => flt_v rfl (q_assignS rfl)) ?_; refine cur_pure rfl rfl rfl rfl (fun _ => h) (fun _ => flt_v rfl (q_assignS rfl)) ?_
    refine cur_end ?_
    replace hs := (hs.f 1).drop
    refine c_region ?_
    refine r_v (q_add rfl rfl) rfl ?_
    refine r_is (.int .u64 ((j + 1 : Nat) : Int)) (congrArg (Value.int .u64) (conv_nat (x := j + 1) (by omega))) ?_
    refine r_v (q_moveI rfl) rfl ?_
    refine r_nil ⟨(j + 1, b.drop k, adv ba (k * 1) (Nat.beq bc k), bc - k, L ++ [x], a2, c2), ⟨rfl, rfl, rfl, rfl, trivial⟩, ⟨hlt, by simp; omega, by dsimp only; rw [List.length_drop]; omega, by dsimp only; rw [List.length_drop]; omega, fun z hz => ?_, ?_, hrt, hs⟩, by dsimp only; omega⟩
    · rcases List.mem_append.1 hz with hz | hz
      · exact hL z hz
      · simp at hz; subst hz; exact hx
    · dsimp only
      rw [inv]
      congr 1
      funext r
      simp
  have hjm : j = many := by simp at hc1; omega
  rw [hjm, Nat.sub_self, getVs, Option.map_some, List.append_nil] at inv
  refine c_exit ?_
  refine c_seq (c_region ?_)
  refine r_v (q_moveS rfl) rfl ?_; refine r_v (q_moveS rfl) rfl ?_; refine r_v (q_assignS rfl) rfl ?_; refine r_v (q_assignS rfl) rfl ?_; refine r_v (q_assignB rfl) rfl ?_
  refine r_nil ?_
  exact c_ret (bq3 (.inr ⟨L, b, oa, oc, ba, bc, inv, rfl, by omega, by omega, hL, hbl, hr, h⟩))

theorem dict_Decode {sl : Option Addr} {c : Nat} {bs : List UInt8} {n : Nat} (hn : n ≤ 65535) (hbn : bs.length ≤ 140737488355328) (hc : bs.length ≤ c) (hr : Reads w0 l 1 sl bs.length (bytesV bs)) (h : St w0 l w) :
    Ret Tryd.prog 86 [.slice sl bs.length c, .int .i64 (n : Int)] w fun v w' => Told w0 l n (dictDec bs n) v w' := by
  have hdef := dictDec_bind bs n
  refine enter Tryd.func86 rfl Tryd.results86 Tryd.ntmps86 rfl ?_
  refine c_seq (c_region ?_)
  refine r_v (q_assignS rfl) rfl ?_; refine r_v (q_assignB rfl) rfl ?_
  refine r_nil ?_
  refine c_seq (c_region ?_)
  refine r_v (q_moveI rfl) rfl ?_; refine r_v (q_max rfl rfl) rfl ?_; refine r_v (q_min rfl rfl) rfl ?_
  refine r_is (.int .i64 (n : Int)) (by congr 1; omega) ?_
  refine r_v (q_assignI rfl) rfl ?_
  refine r_nil ?_
  refine c_seq (c_seq (c_region ?_))
  refine r_v (q_moveI rfl) rfl ?_; refine r_v (q_eql rfl rfl) rfl ?_
  by_cases hn0 : n = 0
  · refine r_is (.bool true) (by rw [hn0]; rfl) ?_
    refine r_nil (c_true rfl ?_)
    refine c_seq (c_region ?_)
    refine r_v (q_moveS rfl) rfl ?_; refine r_v (q_len rfl) rfl ?_; refine r_v (q_eql rfl rfl) rfl ?_
    refine r_is (.bool (decide (bs = []))) (by congr 1; rw [Bool.eq_iff_iff]; simp) ?_
    refine r_v (q_assignS rfl) rfl ?_; refine r_v (q_assignB rfl) rfl ?_
    refine r_nil ?_
    rw [if_pos hn0] at hdef
    refine c_ret (bq2 ⟨none, 0, [], decide (bs = []), rfl, ?_, fun _ => ⟨hn0.symm, (fun _ h => by cases h)⟩, St.ownNil _ _ h⟩)
    rw [hdef]
    by_cases hb : bs = []
    · rw [if_pos hb, decide_eq_true hb, if_pos rfl]
    · rw [if_neg hb, decide_eq_false hb, if_neg (by decide)]
  refine r_is (.bool false) (by congr 1; rw [beq_eq_false_iff_ne]; omega) ?_
  refine r_nil (c_false rfl (c_skip ?_))
  rw [if_neg hn0] at hdef
  refine c_seq (c_region ?_)
  refine r_v (q_moveS rfl) rfl ?_
  refine r_c rfl (x_call rfl (dict_values hbn hc hr h) ?_)
  clear h
  rintro _ w (⟨hv, rfl, h⟩ | ⟨L, rest, la, lc, ra, rc, hv, rfl, hL0, hL256, hLlt, hrl, hrr, h⟩)
  · refine r_v (q_moveT rfl) rfl ?_; refine r_v (q_ext rfl rfl) rfl ?_; refine r_v (q_ext rfl rfl) rfl ?_; refine r_v (q_ext rfl rfl) rfl ?_; refine r_v (q_assignS rfl) rfl ?_; refine r_v (q_assignS rfl) rfl ?_; refine r_v (q_assignB rfl) rfl ?_
    refine r_nil ?_
    refine c_seq (c_seq (c_region ?_))
    refine r_v (q_moveB rfl) rfl ?_; refine r_v (q_not rfl) rfl ?_
    refine r_nil (c_true rfl ?_)
    refine c_seq (c_region ?_)
    refine r_v (q_assignS rfl) rfl ?_; refine r_v (q_assignB rfl) rfl ?_
    refine r_nil ?_
    refine c_ret (bq2 (Told.no ?_ h))
    rw [hdef]
    split at hv
    · rename_i hh; rw [if_pos hh]
    · rename_i hh; rw [if_neg hh, hv]
  have hdef : dictDec bs n = match (getAll n (len64 (L.length - 1)) ⟨bitsB rest, false⟩).bind (pickAll L) with
      | none => none
      | some out => if dictEnc out = some bs then some out else none := by
    rw [hdef]
    split at hv
    · cases hv
    · rename_i hh; rw [if_neg hh, hv]
  refine r_v (q_moveT rfl) rfl ?_; refine r_v (q_ext rfl rfl) rfl ?_; refine r_v (q_ext rfl rfl) rfl ?_; refine r_v (q_ext rfl rfl) rfl ?_; refine r_v (q_assignS rfl) rfl ?_; refine r_v (q_assignS rfl) rfl ?_; refine r_v (q_assignB rfl) rfl ?_
  refine r_nil ?_
  refine c_seq (c_seq (c_region ?_))
  refine r_v (q_moveB rfl) rfl ?_; refine r_v (q_not rfl) rfl ?_
  refine r_nil (c_false rfl (c_skip ?_))
  refine c_seq (c_region ?_)
  refine r_v (q_moveS rfl) rfl ?_
  refine r_c rfl (x_call rfl (bits_NewReader h hrr.cons.rd (by omega)) ?_)
  rintro _ w ⟨p, rfl, h⟩
  refine r_v (q_assignP rfl) rfl ?_
  refine r_nil ?_
  refine c_seq (c_region ?_)
  refine r_v (q_assignS rfl) rfl ?_
  refine r_nil ?_
  refine c_seq (c_seq (c_region ?_))
  refine r_v (q_moveI rfl) rfl ?_; refine r_v (q_moveI rfl) rfl ?_
  refine r_nil ?_
  have hwide : len64 (L.length - 1) ≤ 64 := len64_64 (by omega)
  generalize hwd : len64 (L.length - 1) = wide at hwide hdef
  generalize (⟨bitsB rest, false⟩ : RS) = s0 at h hdef
  refine c_block ?_
  refine c_loop (Γ := Nat × List Nat × RS × Option Addr × Nat) (fun k => [(0, .slice sl bs.length c), (6, .slice la L.length lc), (9, .pointer (some ⟨p, 0, none⟩)), (10, .slice k.2.2.2.1 k.2.1.length k.2.2.2.2), (32, .int .i64 n), (33, .int .i64 k.1)])
    (fun k w => k.1 ≤ n ∧ k.2.1.length = k.1 ∧ (∀ x ∈ k.2.1, x < 18446744073709551616) ∧ (getAll n wide s0).bind (pickAll L) = ((getAll (n - k.1) wide k.2.2.1).bind (pickAll L)).map (fun r => k.2.1 ++ r) ∧ St w0 (OwnU k.2.2.2.1 k.2.2.2.2 k.2.1 :: IsBR p k.2.2.1 :: OwnU la lc L :: l) w)
    (fun k => n - k.1) (0, [], s0, none, 0) ⟨rfl, rfl, rfl, rfl, rfl, rfl, trivial⟩ ⟨Nat.zero_le _, rfl, (fun _ h => by cases h), (by simp), St.ownNil _ _ h⟩ ?_
  clear h
  rintro ⟨j, out, s1, oa, oc⟩ w e ⟨hj, hol, hout, inv, h⟩
  dsimp only at hj hol hout inv h ⊢
  refine c_seq (c_region ?_)
  refine r_v (q_lss rfl rfl) rfl ?_
  refine r_nil ?_
  refine c_seq (c_cond (decide ((j : Int) < (n : Int))) rfl (fun hc1 => ?_) (fun hc1 => ?_))
  ·
    have hlt : j < n := by simp at hc1; omega
    rw [show n - j = (n - (j + 1)) + 1 by omega, pickRun] at inv
    refine c_skip ?_
    refine c_seq (c_block ?_)
    refine c_seq (c_region ?_)
    refine r_v (q_moveP rfl) rfl ?_; refine r_v (q_moveS rfl) rfl ?_; refine r_v (q_len rfl) rfl ?_; refine r_v (q_sub rfl rfl) rfl ?_
    refine r_is (.int .i64 ((L.length - 1 : Nat) : Int)) (by rw [wrap64 (by omega) (by omega)]; congr 1; omega) ?_
    refine r_v (q_conv rfl) rfl ?_
    refine r_is (.int .u64 ((L.length - 1 : Nat) : Int)) (congrArg (Value.int .u64) (conv_nat (by omega))) ?_
    refine r_c rfl (x_call rfl (mb_Len (by omega) h) ?_)
    rintro _ w ⟨rfl, h⟩
    rw [hwd]
    refine r_c rfl (x_call rfl (bits_Get wide (h.f 1)) ?_)
    rw [heldN_nat hwide]
    have hylt := RS.get_lt s1 wide
    have hp64 : 2 ^ wide ≤ 18446744073709551616 := Nat.pow_le_pow_right (by decide) hwide
    cases hgg : s1.get wide with | mk y s2 =>
    rw [hgg] at inv hylt
    rintro _ w ⟨rfl, h⟩
    dsimp only at h inv hylt ⊢
    refine r_v (q_assignI rfl) rfl ?_
    refine r_nil ?_
    refine c_cut (Γ := Unit) (fun _ => [(0, .slice sl bs.length c), (6, .slice la L.length lc), (9, .pointer (some ⟨p, 0, none⟩)), (10, .slice oa out.length oc), (11, .int .u64 y), (32, .int .i64 n), (33, .int .i64 j)])
      (fun _ w => s2.bad = false ∧ y < L.length ∧ St w0 (IsBR p s2 :: OwnU oa oc out :: OwnU la lc L :: l) w) ?_ ?_
    · refine c_seq (c_region ?_)
      refine r_v (q_moveP rfl) rfl ?_
      refine r_c rfl (x_call rfl (bits_Ok h) ?_)
      rintro _ w ⟨rfl, h⟩
      cases hbd : s2.bad with
      | true =>
        refine r_v (q_not rfl) rfl ?_; refine r_v (q_moveB rfl) rfl ?_; (first | refine r_gd rfl rfl ?_ | refine r_gn rfl rfl rfl ?_ | refine r_gu rfl rfl ?_ | refine r_gd rfl (by assumption) ?_ | refine r_gn rfl (by assumption) rfl ?_); (first | refine r_gd rfl rfl ?_ | refine r_gn rfl rfl rfl ?_ | refine r_gu rfl rfl ?_ | refine r_gd rfl (by assumption) ?_ | refine r_gn rfl (by assumption) rfl ?_); (first | refine r_gd rfl rfl ?_ | refine r_gn rfl rfl rfl ?_ | refine r_gu rfl rfl ?_ | refine r_gd rfl (by assumption) ?_ | refine r_gn rfl (by assumption) rfl ?_); (first | refine r_gd rfl rfl ?_ | refine r_gn rfl rfl rfl ?_ | refine r_gu rfl rfl ?_ | refine r_gd rfl (by assumption) ?_ | refine r_gn rfl (by assumption) rfl ?_); (first | refine r_gd rfl rfl ?_ | refine r_gn rfl rfl rfl ?_ | refine r_gu rfl rfl ?_ | refine r_gd rfl (by assumption) ?_ | refine r_gn rfl (by assumption) rfl ?_); (first | refine r_v (q_pick1 rfl rfl rfl) rfl ?_ | refine r_v (q_pick0 rfl rfl rfl) rfl ?_ | refine r_v (q_pick1 rfl (by assumption) rfl) rfl ?_ | refine r_v (q_pick0 rfl (by assumption) rfl) rfl ?_ | refine r_v (q_pickB rfl rfl rfl) rfl ?_)
        refine r_nil (c_true rfl ?_)
        refine c_seq (c_region ?_)
        refine r_v (q_assignS rfl) rfl ?_; refine r_v (q_assignB rfl) rfl ?_
        refine r_nil ?_
        rw [hbd, if_pos rfl] at inv
        exact c_ret (bq2 (Told.no (by rw [hdef, inv]; rfl) h.drop.drop.drop))
      | false =>
        rw [hbd, if_neg (by decide)] at inv
        refine r_v (q_not rfl) rfl ?_; refine r_v (q_moveB rfl) rfl ?_; (first | refine r_gd rfl rfl ?_ | refine r_gn rfl rfl rfl ?_ | refine r_gu rfl rfl ?_ | refine r_gd rfl (by assumption) ?_ | refine r_gn rfl (by assumption) rfl ?_); refine r_v (q_moveI rfl) rfl ?_; (first | refine r_gd rfl rfl ?_ | refine r_gn rfl rfl rfl ?_ | refine r_gu rfl rfl ?_ | refine r_gd rfl (by assumption) ?_ | refine r_gn rfl (by assumption) rfl ?_); refine r_v (q_moveS rfl) rfl ?_; (first | refine r_gd rfl rfl ?_ | refine r_gn rfl rfl rfl ?_ | refine r_gu rfl rfl ?_ | refine r_gd rfl (by assumption) ?_ | refine r_gn rfl (by assumption) rfl ?_); refine r_v (q_len rfl) rfl ?_; (first | refine r_gd rfl rfl ?_ | refine r_gn rfl rfl rfl ?_ | refine r_gu rfl rfl ?_ | refine r_gd rfl (by assumption) ?_ | refine r_gn rfl (by assumption) rfl ?_)
        refine r_v (q_is (v' := .int .u64 ((L.length : Nat) : Int)) (q_conv rfl) (congrArg (Value.int .u64) (conv_nat (by omega)))) rfl ?_
        (first | refine r_gd rfl rfl ?_ | refine r_gn rfl rfl rfl ?_ | refine r_gu rfl rfl ?_ | refine r_gd rfl (by assumption) ?_ | refine r_gn rfl (by assumption) rfl ?_); refine r_v (q_geq rfl rfl) rfl ?_; (first | refine r_v (q_pick1 rfl rfl rfl) rfl ?_ | refine r_v (q_pick0 rfl rfl rfl) rfl ?_ | refine r_v (q_pick1 rfl (by assumption) rfl) rfl ?_ | refine r_v (q_pick0 rfl (by assumption) rfl) rfl ?_ | refine r_v (q_pickB rfl rfl rfl) rfl ?_)
        refine r_nil (c_cond (decide ((y : Int) ≥ (L.length : Int))) rfl (fun hc2 => ?_) (fun hc2 => ?_))
        · refine c_seq (c_region ?_)
          refine r_v (q_assignS rfl) rfl ?_; refine r_v (q_assignB rfl) rfl ?_
          refine r_nil ?_
          rw [List.getElem?_eq_none (by rw [decide_eq_true_eq] at hc2; omega)] at inv
          exact c_ret (bq2 (Told.no (by rw [hdef, inv]; rfl) h.drop.drop.drop))
        · exact c_skip ⟨(), ⟨rfl, rfl, rfl, rfl, rfl, rfl, rfl, trivial⟩, rfl, by rw [decide_eq_false_iff_not] at hc2; omega, h⟩
    clear h
    rintro _ w e ⟨hbd, hyL, h⟩
    have hg := List.getElem?_eq_getElem hyL
    generalize L[y] = x at hg
    have hx := hLlt x (List.mem_of_getElem? hg)
    rw [hbd, if_neg (by decide), hg] at inv
    dsimp only at inv
    rw [Option.map_map] at inv
    obtain ⟨lb, hlsl⟩ := (h.f 2).own_some hL0
    refine c_region ?_
    refine r_v (q_moveS rfl) rfl ?_; refine r_v (q_moveS rfl) rfl ?_; refine r_v (q_moveI rfl) rfl ?_
    refine r_v (q_idx (b := lb) (o := 0) (m := L.length) (c := lc) (o' := y) (by rw [← hlsl]; rfl) rfl rfl hyL (by simp)) rfl ?_
    refine r_v (q_loadc (v := .int .u64 x) rfl (by have := (hlsl ▸ (h.f 2).own_rd).cell (u64V_get hg); simpa using this)) rfl ?_
    refine r_c rfl (x_bslice (r := u64V [x]) h rfl rfl rfl fun b2 w h => ?_)
    refine r_c rfl (x_append' (ys := u64V [x]) (zs := u64V (out ++ [x])) (m3 := (out ++ [x]).length) (h.f 2) rfl rfl ⟨rfl, .inr ⟨b2, 0, rfl, at_of (h.b 0 rfl) rfl⟩⟩ (u64V_one _) (by simp) (by simp [u64V]) (by simp; omega) (by simp; omega) rfl fun a2 c2 w _ h => ?_)
    refine r_v (q_assignS rfl) rfl ?_
    refine r_nil ?_
    refine c_region ?_
    refine r_v (q_add rfl rfl) rfl ?_
    refine r_is (.int .i64 ((j + 1 : Nat) : Int)) (by rw [wrap64 (by omega) (by omega)]; rfl) ?_
    refine r_v (q_moveI rfl) rfl ?_
    refine r_nil ⟨(j + 1, out ++ [x], s2, a2, c2), ⟨rfl, rfl, rfl, rfl, rfl, rfl, trivial⟩, ⟨hlt, by simp; omega, fun z hz => ?_, ?_, ?_⟩, by dsimp only; omega⟩
    · rcases List.mem_append.1 hz with hz | hz
      · exact hout z hz
      · simp at hz; subst hz; exact hx
    · dsimp only
      rw [inv]
      congr 1
      funext r
      simp
    · exact (h.f 1).drop
  have hjn : j = n := by simp at hc1; omega
  rw [hjn, Nat.sub_self, getAll, Option.bind_some, pickAll, Option.map_some, List.append_nil] at inv
  rw [inv] at hdef
  dsimp only at hdef
  refine c_exit ?_
  refine c_seq (c_region ?_)
  refine r_v (q_moveS rfl) rfl ?_
  refine r_c rfl (x_call rfl (dict_Encode hout (by omega) Reads.own h) ?_)
  rintro _ w ⟨ea, ec, rfl, h⟩
  refine r_v (q_moveT rfl) rfl ?_; refine r_v (q_ext rfl rfl) rfl ?_; refine r_v (q_ext rfl rfl) rfl ?_; refine r_v (q_assignS rfl) rfl ?_; refine r_v (q_assignB rfl) rfl ?_
  refine r_nil ?_
  refine c_cut (Γ := Unit) (fun _ => [(10, .slice oa out.length oc)]) (fun _ w => dictEnc out = some bs ∧ St w0 (OwnU oa oc out :: l) w) ?_ ?_
  · refine c_seq (c_region ?_)
    cases hE : dictEnc out with
    | none =>
      refine r_v (q_moveB rfl) rfl ?_; refine r_v (q_not rfl) rfl ?_; refine r_v (q_moveB rfl) rfl ?_; (first | refine r_gd rfl rfl ?_ | refine r_gn rfl rfl rfl ?_ | refine r_gu rfl rfl ?_ | refine r_gd rfl (by assumption) ?_ | refine r_gn rfl (by assumption) rfl ?_); (first | refine r_gd rfl rfl ?_ | refine r_gn rfl rfl rfl ?_ | refine r_gu rfl rfl ?_ | refine r_gd rfl (by assumption) ?_ | refine r_gn rfl (by assumption) rfl ?_); (first | refine r_gd rfl rfl ?_ | refine r_gn rfl rfl rfl ?_ | refine r_gu rfl rfl ?_ | refine r_gd rfl (by assumption) ?_ | refine r_gn rfl (by assumption) rfl ?_); (first | refine r_gd rfl rfl ?_ | refine r_gn rfl rfl rfl ?_ | refine r_gu rfl rfl ?_ | refine r_gd rfl (by assumption) ?_ | refine r_gn rfl (by assumption) rfl ?_); (first | refine r_v (q_pick1 rfl rfl rfl) rfl ?_ | refine r_v (q_pick0 rfl rfl rfl) rfl ?_ | refine r_v (q_pick1 rfl (by assumption) rfl) rfl ?_ | refine r_v (q_pick0 rfl (by assumption) rfl) rfl ?_ | refine r_v (q_pickB rfl rfl rfl) rfl ?_)
      refine r_nil (c_true rfl ?_)
      refine c_seq (c_region ?_)
      refine r_v (q_assignS rfl) rfl ?_; refine r_v (q_assignB rfl) rfl ?_
      refine r_nil ?_
      exact c_ret (bq2 (Told.no (by rw [hdef, if_neg]; rw [hE]; simp) h.drop.drop.drop.drop))
    | some d =>
      rw [hE] at h
      refine r_v (q_moveB rfl) rfl ?_; refine r_v (q_not rfl) rfl ?_; refine r_v (q_moveB rfl) rfl ?_; (first | refine r_gd rfl rfl ?_ | refine r_gn rfl rfl rfl ?_ | refine r_gu rfl rfl ?_ | refine r_gd rfl (by assumption) ?_ | refine r_gn rfl (by assumption) rfl ?_); refine r_v (q_moveS rfl) rfl ?_; (first | refine r_gd rfl rfl ?_ | refine r_gn rfl rfl rfl ?_ | refine r_gu rfl rfl ?_ | refine r_gd rfl (by assumption) ?_ | refine r_gn rfl (by assumption) rfl ?_); refine r_v (q_moveS rfl) rfl ?_; (first | refine r_gd rfl rfl ?_ | refine r_gn rfl rfl rfl ?_ | refine r_gu rfl rfl ?_ | refine r_gd rfl (by assumption) ?_ | refine r_gn rfl (by assumption) rfl ?_)
      refine r_c rfl (x_call rfl (bytes_Equal (b1 := d) (b2 := bs) h (fun w' h' => h'.own_rd) (hr.more [_, _, _, _]).rd) ?_)
      rintro _ w ⟨rfl, h⟩
      (first | refine r_gd rfl rfl ?_ | refine r_gn rfl rfl rfl ?_ | refine r_gu rfl rfl ?_ | refine r_gd rfl (by assumption) ?_ | refine r_gn rfl (by assumption) rfl ?_); refine r_v (q_not rfl) rfl ?_; (first | refine r_v (q_pick1 rfl rfl rfl) rfl ?_ | refine r_v (q_pick0 rfl rfl rfl) rfl ?_ | refine r_v (q_pick1 rfl (by assumption) rfl) rfl ?_ | refine r_v (q_pick0 rfl (by assumption) rfl) rfl ?_ | refine r_v (q_pickB rfl rfl rfl) rfl ?_)
      refine r_nil (c_cond (!decide (d = bs)) rfl (fun hc2 => ?_) (fun hc2 => ?_))
      · refine c_seq (c_region ?_)
        refine r_v (q_assignS rfl) rfl ?_; refine r_v (q_assignB rfl) rfl ?_
        refine r_nil ?_
        exact c_ret (bq2 (Told.no (by rw [hdef, if_neg]; rw [hE]; simpa using hc2) h.drop.drop.drop.drop))
      · exact c_skip ⟨(), ⟨rfl, trivial⟩, by simpa using hc2, ((h.drop.f 1).drop.f 1).drop⟩
  clear h
  rintro _ w e ⟨hE, h⟩
  refine c_seq (c_region ?_)
  refine r_v (q_moveS rfl) rfl ?_; refine r_v (q_assignS rfl) rfl ?_; refine r_v (q_assignB rfl) rfl ?_
  refine r_nil ?_
  exact c_ret (bq2 ⟨oa, oc, out, true, rfl, by rw [hdef, if_pos hE]; rfl, fun _ => ⟨by omega, hout⟩, h⟩)
end
end Go.Proofs.YtjjacchnalemaaaDoor
