/- runl, forp: reading runs and frames. -/
import Derived.Test.YtjjacchnalemaaaDoorDec
namespace Go.Hw
set_option maxRecDepth 100000
theorem runsDecA_step {f : Nat} {b : List UInt8} {room : Nat} {last : Option Nat} (hb : b ≠ []) : runsDecA (f + 1) b room last =
    if (vget b).2 = 0 ∨ (vget (b.drop (vget b).2)).2 = 0 ∨ (vget b).1 = 0 ∨ room < (vget b).1 ∨ last = some (vget (b.drop (vget b).2)).1 then none
    else (runsDecA f (b.drop ((vget b).2 + (vget (b.drop (vget b).2)).2)) (room - (vget b).1) (some (vget (b.drop (vget b).2)).1)).map fun r => List.replicate (vget b).1 (vget (b.drop (vget b).2)).1 ++ r := by
  cases b with
  | nil => exact absurd rfl hb
  | cons c b => rw [runsDecA]
theorem bytesV_drop (bs : List UInt8) (k : Nat) : bytesV (bs.drop k) = (bytesV bs).drop (k * 1) := by
  unfold bytesV
  rw [List.map_drop, Nat.mul_one]
theorem Reads.tailB {w0 : World} {l : List HProp} {a : Option Addr} {c : Nat} {bs : List UInt8} (h : Reads w0 l 1 a bs.length (bytesV bs)) {i : Nat} (hi : i ≤ bs.length) (hc : bs.length ≤ c) : Reads w0 l 1 (adv a (i * 1) (Nat.beq c i)) (bs.drop i).length (bytesV (bs.drop i)) := by
  have := h.tail hi hc
  rw [List.length_drop, bytesV_drop]
  exact this
theorem getLast?_rep (out : List Nat) {k x : Nat} (h : 0 < k) : (out ++ List.replicate k x).getLast? = some x := by
  rw [List.getLast?_append, List.getLast?_replicate, if_neg (by omega)]
  rfl
end Go.Hw
namespace Go.Proofs.YtjjacchnalemaaaDoor
open Go.Hw
set_option maxHeartbeats 4000000
set_option maxRecDepth 100000
/-- What a decoder answers. -/
abbrev Told (w0 : World) (l : List HProp) (n : Nat) (D : Option (List Nat)) (v : Value) (w' : World) : Prop := ∃ a c xs b, v = .tuple [.slice a xs.length c, .bool b].toArray ∧ D = (if b = true then some xs else none) ∧ (b = true → xs.length = n ∧ ∀ x ∈ xs, x < 18446744073709551616) ∧ St w0 (OwnU a c xs :: l) w'
section
variable {w0 w : World} {l : List HProp}
theorem Told.no {n : Nat} {D : Option (List Nat)} (hb : D = none) (h : St w0 l w) : Told w0 l n D (.tuple [.slice none 0 0, .bool false].toArray) w := ⟨none, 0, [], false, rfl, hb, (fun h => by cases h), St.ownNil _ _ h⟩
theorem runl_Decode {sl : Option Addr} {c : Nat} {bs : List UInt8} {n : Nat} (hn : n ≤ 65535) (hbn : bs.length ≤ 140737488355328) (hc : bs.length ≤ c) (hr : Reads w0 l 1 sl bs.length (bytesV bs)) (h : St w0 l w) :
    Ret Tryd.prog 84 [.slice sl bs.length c, .int .i64 (n : Int)] w fun v w' => Told w0 l n (runsDec bs n) v w' := by
  refine enter Tryd.func84 rfl Tryd.results84 Tryd.ntmps84 rfl ?_
  refine c_seq (c_region ?_)
  refine r_v (q_assignS rfl) rfl ?_; refine r_v (q_assignB rfl) rfl ?_
  refine r_nil ?_
  refine c_seq (c_region ?_)
  refine r_v (q_moveI rfl) rfl ?_; refine r_v (q_max rfl rfl) rfl ?_; refine r_v (q_min rfl rfl) rfl ?_
  refine r_is (.int .i64 (n : Int)) (by congr 1; omega) ?_
  refine r_v (q_assignI rfl) rfl ?_
  refine r_nil ?_
  refine c_seq (c_region ?_)
  refine r_v (q_assignS rfl) rfl ?_
  refine r_nil ?_
  refine c_seq (c_block ?_)
  refine c_loop (Γ := List UInt8 × Option Addr × Nat × Nat × List Nat × Option Addr × Nat) (fun k => [(0, .slice k.2.1 k.1.length k.2.2.1), (1, .int .i64 n), (6, .slice k.2.2.2.2.2.1 k.2.2.2.2.1.length k.2.2.2.2.2.2)])
    (fun k w => k.1.length ≤ bs.length ∧ k.1.length ≤ k.2.2.2.1 ∧ k.1.length ≤ k.2.2.1 ∧ k.2.2.2.2.1.length ≤ n ∧ (∀ x ∈ k.2.2.2.2.1, x < 18446744073709551616) ∧ runsDec bs n = (runsDecA k.2.2.2.1 k.1 (n - k.2.2.2.2.1.length) k.2.2.2.2.1.getLast?).map (fun r => k.2.2.2.2.1 ++ r) ∧ Reads w0 l 1 k.2.1 k.1.length (bytesV k.1) ∧ St w0 (OwnU k.2.2.2.2.2.1 k.2.2.2.2.2.2 k.2.2.2.2.1 :: l) w)
    (fun k => k.1.length) (bs, sl, c, bs.length, [], none, 0) ⟨rfl, rfl, rfl, trivial⟩ ⟨Nat.le_refl _, Nat.le_refl _, hc, Nat.zero_le _, (fun _ h => by cases h), (by simp [runsDec]), hr, St.ownNil _ _ h⟩ ?_
  clear h hr hc
  rintro ⟨b, ba, bc, f, out, oa, oc⟩ w e ⟨hbl, hbf, hc, hol, hout, inv, hr, h⟩
  dsimp only at hbl hbf hc hol hout inv hr h ⊢
  refine c_seq (c_seq (c_region ?_))
  refine r_v (q_moveS rfl) rfl ?_; refine r_v (q_len rfl) rfl ?_; refine r_v (q_gtr rfl rfl) rfl ?_
  refine r_nil ?_
  refine c_cond (decide ((b.length : Int) > 0)) rfl (fun hcc => ?_) (fun hcc => ?_)
  ·
    have hpos : 0 < b.length := by simp at hcc; omega
    have hne : b ≠ [] := List.length_pos_iff.1 hpos
    cases f with
    | zero => omega
    | succ f =>
    rw [runsDecA_step hne] at inv
    have hk := vget_le b
    have hm := vget_lt b
    refine c_skip ?_
    refine c_block ?_
    refine c_seq (c_region ?_)
    refine r_v (q_moveS rfl) rfl ?_
    refine r_c rfl (x_call rfl (vint_Get h hr.cons.rd (by omega)) ?_)
    rintro _ w ⟨rfl, h⟩
    refine r_v (q_moveT rfl) rfl ?_; refine r_v (q_ext rfl rfl) rfl ?_; refine r_v (q_ext rfl rfl) rfl ?_; refine r_v (q_assignI rfl) rfl ?_; refine r_v (q_assignI rfl) rfl ?_
    refine r_nil ?_
    generalize (vget b).1 = many at hm inv ⊢
    generalize (vget b).2 = i at hk inv ⊢
    have hrt := hr.tailB hk hc
    have hk2 := vget_le (b.drop i)
    have hx := vget_lt (b.drop i)
    refine c_seq (c_region ?_)
    refine r_v (q_moveS rfl) rfl ?_; refine r_v (q_moveI rfl) rfl ?_
    refine r_v (q_tail (i := i) rfl rfl hk) rfl ?_
    show Rn _ _ _ _ _ (upd _ _ (.slice (adv ba (i * 1) (Nat.beq bc i)) (b.length - i) (bc - i))) _
    rw [← List.length_drop]
    refine r_c rfl (x_call rfl (vint_Get h hrt.cons.rd (by rw [List.length_drop]; omega)) ?_)
    rintro _ w ⟨rfl, h⟩
    refine r_v (q_moveT rfl) rfl ?_; refine r_v (q_ext rfl rfl) rfl ?_; refine r_v (q_ext rfl rfl) rfl ?_; refine r_v (q_assignI rfl) rfl ?_; refine r_v (q_assignI rfl) rfl ?_
    refine r_nil ?_
    generalize (vget (b.drop i)).1 = x at hx inv ⊢
    generalize (vget (b.drop i)).2 = k at hk2 inv ⊢
    rw [List.length_drop] at hk2
    refine c_cut (Γ := Unit) (fun _ => [(0, .slice ba b.length bc), (1, .int .i64 n), (6, .slice oa out.length oc), (7, .int .u64 many), (8, .int .i64 i), (9, .int .u64 x), (10, .int .i64 k)])
      (fun _ w => ¬ (i = 0 ∨ k = 0 ∨ many = 0 ∨ n - out.length < many ∨ out.getLast? = some x) ∧ St w0 (OwnU oa oc out :: l) w) ?_ ?_
    · have bad : ∀ {w : World}, (i = 0 ∨ k = 0 ∨ many = 0 ∨ n - out.length < many ∨ out.getLast? = some x) → St w0 (OwnU oa oc out :: l) w → Told w0 l n (runsDec bs n) (.tuple [.slice none 0 0, .bool false].toArray) w := fun hb h => Told.no (by rw [inv, if_pos hb]; rfl) h.drop
      refine c_seq (c_region ?_)
      by_cases g1 : i = 0
      · refine r_v (q_moveI rfl) rfl ?_
        refine r_v (q_is (v' := .bool true) (q_eql rfl rfl) (by rw [g1]; rfl)) rfl ?_
        refine r_v (q_moveB rfl) rfl ?_; (first | refine r_gd rfl rfl ?_ | refine r_gn rfl rfl rfl ?_ | refine r_gu rfl rfl ?_ | refine r_gd rfl (by assumption) ?_ | refine r_gn rfl (by assumption) rfl ?_); (first | refine r_gd rfl rfl ?_ | refine r_gn rfl rfl rfl ?_ | refine r_gu rfl rfl ?_ | refine r_gd rfl (by assumption) ?_ | refine r_gn rfl (by assumption) rfl ?_); (first | refine r_v (q_pick1 rfl rfl rfl) rfl ?_ | refine r_v (q_pick0 rfl rfl rfl) rfl ?_ | refine r_v (q_pick1 rfl (by assumption) rfl) rfl ?_ | refine r_v (q_pick0 rfl (by assumption) rfl) rfl ?_ | refine r_v (q_pickB rfl rfl rfl) rfl ?_); refine r_v (q_moveB rfl) rfl ?_; (first | refine r_gd rfl rfl ?_ | refine r_gn rfl rfl rfl ?_ | refine r_gu rfl rfl ?_ | refine r_gd rfl (by assumption) ?_ | refine r_gn rfl (by assumption) rfl ?_); (first | refine r_gd rfl rfl ?_ | refine r_gn rfl rfl rfl ?_ | refine r_gu rfl rfl ?_ | refine r_gd rfl (by assumption) ?_ | refine r_gn rfl (by assumption) rfl ?_); (first | refine r_v (q_pick1 rfl rfl rfl) rfl ?_ | refine r_v (q_pick0 rfl rfl rfl) rfl ?_ | refine r_v (q_pick1 rfl (by assumption) rfl) rfl ?_ | refine r_v (q_pick0 rfl (by assumption) rfl) rfl ?_ | refine r_v (q_pickB rfl rfl rfl) rfl ?_); refine r_v (q_moveB rfl) rfl ?_; (first | refine r_gd rfl rfl ?_ | refine r_gn rfl rfl rfl ?_ | refine r_gu rfl rfl ?_ | refine r_gd rfl (by assumption) ?_ | refine r_gn rfl (by assumption) rfl ?_); (first | refine r_gd rfl rfl ?_ | refine r_gn rfl rfl rfl ?_ | refine r_gu rfl rfl ?_ | refine r_gd rfl (by assumption) ?_ | refine r_gn rfl (by assumption) rfl ?_); (first | refine r_gd rfl rfl ?_ | refine r_gn rfl rfl rfl ?_ | refine r_gu rfl rfl ?_ | refine r_gd rfl (by assumption) ?_ | refine r_gn rfl (by assumption) rfl ?_); (first | refine r_gd rfl rfl ?_ | refine r_gn rfl rfl rfl ?_ | refine r_gu rfl rfl ?_ | refine r_gd rfl (by assumption) ?_ | refine r_gn rfl (by assumption) rfl ?_); (first | refine r_gd rfl rfl ?_ | refine r_gn rfl rfl rfl ?_ | refine r_gu rfl rfl ?_ | refine r_gd rfl (by assumption) ?_ | refine r_gn rfl (by assumption) rfl ?_); (first | refine r_gd rfl rfl ?_ | refine r_gn rfl rfl rfl ?_ | refine r_gu rfl rfl ?_ | refine r_gd rfl (by assumption) ?_ | refine r_gn rfl (by assumption) rfl ?_); (first | refine r_gd rfl rfl ?_ | refine r_gn rfl rfl rfl ?_ | refine r_gu rfl rfl ?_ | refine r_gd rfl (by assumption) ?_ | refine r_gn rfl (by assumption) rfl ?_); (first | refine r_v (q_pick1 rfl rfl rfl) rfl ?_ | refine r_v (q_pick0 rfl rfl rfl) rfl ?_ | refine r_v (q_pick1 rfl (by assumption) rfl) rfl ?_ | refine r_v (q_pick0 rfl (by assumption) rfl) rfl ?_ | refine r_v (q_pickB rfl rfl rfl) rfl ?_); refine r_v (q_moveB rfl) rfl ?_; (first | refine r_gd rfl rfl ?_ | refine r_gn rfl rfl rfl ?_ | refine r_gu rfl rfl ?_ | refine r_gd rfl (by assumption) ?_ | refine r_gn rfl (by assumption) rfl ?_); (first | refine r_gd rfl rfl ?_ | refine r_gn rfl rfl rfl ?_ | refine r_gu rfl rfl ?_ | refine r_gd rfl (by assumption) ?_ | refine r_gn rfl (by assumption) rfl ?_); (first | refine r_gd rfl rfl ?_ | refine r_gn rfl rfl rfl ?_ | refine r_gu rfl rfl ?_ | refine r_gd rfl (by assumption) ?_ | refine r_gn rfl (by assumption) rfl ?_); (first | refine r_gd rfl rfl ?_ | refine r_gn rfl rfl rfl ?_ | refine r_gu rfl rfl ?_ | refine r_gd rfl (by assumption) ?_ | refine r_gn rfl (by assumption) rfl ?_); (first | refine r_gd rfl rfl ?_ | refine r_gn rfl rfl rfl ?_ | refine r_gu rfl rfl ?_ | refine r_gd rfl (by assumption) ?_ | refine r_gn rfl (by assumption) rfl ?_); (first | refine r_gd rfl rfl ?_ | refine r_gn rfl rfl rfl ?_ | refine r_gu rfl rfl ?_ | refine r_gd rfl (by assumption) ?_ | refine r_gn rfl (by assumption) rfl ?_); (first | refine r_gd rfl rfl ?_ | refine r_gn rfl rfl rfl ?_ | refine r_gu rfl rfl ?_ | refine r_gd rfl (by assumption) ?_ | refine r_gn rfl (by assumption) rfl ?_); (first | refine r_gd rfl rfl ?_ | refine r_gn rfl rfl rfl ?_ | refine r_gu rfl rfl ?_ | refine r_gd rfl (by assumption) ?_ | refine r_gn rfl (by assumption) rfl ?_); (first | refine r_gd rfl rfl ?_ | refine r_gn rfl rfl rfl ?_ | refine r_gu rfl rfl ?_ | refine r_gd rfl (by assumption) ?_ | refine r_gn rfl (by assumption) rfl ?_); (first | refine r_gd rfl rfl ?_ | refine r_gn rfl rfl rfl ?_ | refine r_gu rfl rfl ?_ | refine r_gd rfl (by assumption) ?_ | refine r_gn rfl (by assumption) rfl ?_); (first | refine r_gd rfl rfl ?_ | refine r_gn rfl rfl rfl ?_ | refine r_gu rfl rfl ?_ | refine r_gd rfl (by assumption) ?_ | refine r_gn rfl (by assumption) rfl ?_); (first | refine r_gd rfl rfl ?_ | refine r_gn rfl rfl rfl ?_ | refine r_gu rfl rfl ?_ | refine r_gd rfl (by assumption) ?_ | refine r_gn rfl (by assumption) rfl ?_); (first | refine r_gd rfl rfl ?_ | refine r_gn rfl rfl rfl ?_ | refine r_gu rfl rfl ?_ | refine r_gd rfl (by assumption) ?_ | refine r_gn rfl (by assumption) rfl ?_); (first | refine r_v (q_pick1 rfl rfl rfl) rfl ?_ | refine r_v (q_pick0 rfl rfl rfl) rfl ?_ | refine r_v (q_pick1 rfl (by assumption) rfl) rfl ?_ | refine r_v (q_pick0 rfl (by assumption) rfl) rfl ?_ | refine r_v (q_pickB rfl rfl rfl) rfl ?_)
        refine r_nil (c_true rfl ?_)
        refine c_seq (c_region ?_)
        refine r_v (q_assignS rfl) rfl ?_; refine r_v (q_assignB rfl) rfl ?_
        exact r_nil (c_ret (bq2 (bad (.inl g1) h)))
      refine r_v (q_moveI rfl) rfl ?_
      refine r_v (q_is (v' := .bool false) (q_eql rfl rfl) (by congr 1; rw [beq_eq_false_iff_ne]; omega)) rfl ?_
      refine r_v (q_moveB rfl) rfl ?_; (first | refine r_gd rfl rfl ?_ | refine r_gn rfl rfl rfl ?_ | refine r_gu rfl rfl ?_ | refine r_gd rfl (by assumption) ?_ | refine r_gn rfl (by assumption) rfl ?_); refine r_v (q_moveI rfl) rfl ?_; (first | refine r_gd rfl rfl ?_ | refine r_gn rfl rfl rfl ?_ | refine r_gu rfl rfl ?_ | refine r_gd rfl (by assumption) ?_ | refine r_gn rfl (by assumption) rfl ?_)
      by_cases g2 : k = 0
      · refine r_v (q_is (v' := .bool true) (q_eql rfl rfl) (by rw [g2]; rfl)) rfl ?_
        (first | refine r_v (q_pick1 rfl rfl rfl) rfl ?_ | refine r_v (q_pick0 rfl rfl rfl) rfl ?_ | refine r_v (q_pick1 rfl (by assumption) rfl) rfl ?_ | refine r_v (q_pick0 rfl (by assumption) rfl) rfl ?_ | refine r_v (q_pickB rfl rfl rfl) rfl ?_); refine r_v (q_moveB rfl) rfl ?_; (first | refine r_gd rfl rfl ?_ | refine r_gn rfl rfl rfl ?_ | refine r_gu rfl rfl ?_ | refine r_gd rfl (by assumption) ?_ | refine r_gn rfl (by assumption) rfl ?_); (first | refine r_gd rfl rfl ?_ | refine r_gn rfl rfl rfl ?_ | refine r_gu rfl rfl ?_ | refine r_gd rfl (by assumption) ?_ | refine r_gn rfl (by assumption) rfl ?_); (first | refine r_v (q_pick1 rfl rfl rfl) rfl ?_ | refine r_v (q_pick0 rfl rfl rfl) rfl ?_ | refine r_v (q_pick1 rfl (by assumption) rfl) rfl ?_ | refine r_v (q_pick0 rfl (by assumption) rfl) rfl ?_ | refine r_v (q_pickB rfl rfl rfl) rfl ?_); refine r_v (q_moveB rfl) rfl ?_; (first | refine r_gd rfl rfl ?_ | refine r_gn rfl rfl rfl ?_ | refine r_gu rfl rfl ?_ | refine r_gd rfl (by assumption) ?_ | refine r_gn rfl (by assumption) rfl ?_); (first | refine r_gd rfl rfl ?_ | refine r_gn rfl rfl rfl ?_ | refine r_gu rfl rfl ?_ | refine r_gd rfl (by assumption) ?_ | refine r_gn rfl (by assumption) rfl ?_); (first | refine r_gd rfl rfl ?_ | refine r_gn rfl rfl rfl ?_ | refine r_gu rfl rfl ?_ | refine r_gd rfl (by assumption) ?_ | refine r_gn rfl (by assumption) rfl ?_); (first | refine r_gd rfl rfl ?_ | refine r_gn rfl rfl rfl ?_ | refine r_gu rfl rfl ?_ | refine r_gd rfl (by assumption) ?_ | refine r_gn rfl (by assumption) rfl ?_); (first | refine r_gd rfl rfl ?_ | refine r_gn rfl rfl rfl ?_ | refine r_gu rfl rfl ?_ | refine r_gd rfl (by assumption) ?_ | refine r_gn rfl (by assumption) rfl ?_); (first | refine r_gd rfl rfl ?_ | refine r_gn rfl rfl rfl ?_ | refine r_gu rfl rfl ?_ | refine r_gd rfl (by assumption) ?_ | refine r_gn rfl (by assumption) rfl ?_); (first | refine r_gd rfl rfl ?_ | refine r_gn rfl rfl rfl ?_ | refine r_gu rfl rfl ?_ | refine r_gd rfl (by assumption) ?_ | refine r_gn rfl (by assumption) rfl ?_); (first | refine r_v (q_pick1 rfl rfl rfl) rfl ?_ | refine r_v (q_pick0 rfl rfl rfl) rfl ?_ | refine r_v (q_pick1 rfl (by assumption) rfl) rfl ?_ | refine r_v (q_pick0 rfl (by assumption) rfl) rfl ?_ | refine r_v (q_pickB rfl rfl rfl) rfl ?_); refine r_v (q_moveB rfl) rfl ?_; (first | refine r_gd rfl rfl ?_ | refine r_gn rfl rfl rfl ?_ | refine r_gu rfl rfl ?_ | refine r_gd rfl (by assumption) ?_ | refine r_gn rfl (by assumption) rfl ?_); (first | refine r_gd rfl rfl ?_ | refine r_gn rfl rfl rfl ?_ | refine r_gu rfl rfl ?_ | refine r_gd rfl (by assumption) ?_ | refine r_gn rfl (by assumption) rfl ?_); (first | refine r_gd rfl rfl ?_ | refine r_gn rfl rfl rfl ?_ | refine r_gu rfl rfl ?_ | refine r_gd rfl (by assumption) ?_ | refine r_gn rfl (by assumption) rfl ?_); (first | refine r_gd rfl rfl ?_ | refine r_gn rfl rfl rfl ?_ | refine r_gu rfl rfl ?_ | refine r_gd rfl (by assumption) ?_ | refine r_gn rfl (by assumption) rfl ?_); (first | refine r_gd rfl rfl ?_ | refine r_gn rfl rfl rfl ?_ | refine r_gu rfl rfl ?_ | refine r_gd rfl (by assumption) ?_ | refine r_gn rfl (by assumption) rfl ?_); (first | refine r_gd rfl rfl ?_ | refine r_gn rfl rfl rfl ?_ | refine r_gu rfl rfl ?_ | refine r_gd rfl (by assumption) ?_ | refine r_gn rfl (by assumption) rfl ?_); (first | refine r_gd rfl rfl ?_ | refine r_gn rfl rfl rfl ?_ | refine r_gu rfl rfl ?_ | refine r_gd rfl (by assumption) ?_ | refine r_gn rfl (by assumption) rfl ?_); (first | refine r_gd rfl rfl ?_ | refine r_gn rfl rfl rfl ?_ | refine r_gu rfl rfl ?_ | refine r_gd rfl (by assumption) ?_ | refine r_gn rfl (by assumption) rfl ?_); (first | refine r_gd rfl rfl ?_ | refine r_gn rfl rfl rfl ?_ | refine r_gu rfl rfl ?_ | refine r_gd rfl (by assumption) ?_ | refine r_gn rfl (by assumption) rfl ?_); (first | refine r_gd rfl rfl ?_ | refine r_gn rfl rfl rfl ?_ | refine r_gu rfl rfl ?_ | refine r_gd rfl (by assumption) ?_ | refine r_gn rfl (by assumption) rfl ?_); (first | refine r_gd rfl rfl ?_ | refine r_gn rfl rfl rfl ?_ | refine r_gu rfl rfl ?_ | refine r_gd rfl (by assumption) ?_ | refine r_gn rfl (by assumption) rfl ?_); (first | refine r_gd rfl rfl ?_ | refine r_gn rfl rfl rfl ?_ | refine r_gu rfl rfl ?_ | refine r_gd rfl (by assumption) ?_ | refine r_gn rfl (by assumption) rfl ?_); (first | refine r_gd rfl rfl ?_ | refine r_gn rfl rfl rfl ?_ | refine r_gu rfl rfl ?_ | refine r_gd rfl (by assumption) ?_ | refine r_gn rfl (by assumption) rfl ?_); (first | refine r_v (q_pick1 rfl rfl rfl) rfl ?_ | refine r_v (q_pick0 rfl rfl rfl) rfl ?_ | refine r_v (q_pick1 rfl (by assumption) rfl) rfl ?_ | refine r_v (q_pick0 rfl (by assumption) rfl) rfl ?_ | refine r_v (q_pickB rfl rfl rfl) rfl ?_)
        refine r_nil (c_true rfl ?_)
        refine c_seq (c_region ?_)
        refine r_v (q_assignS rfl) rfl ?_; refine r_v (q_assignB rfl) rfl ?_
        exact r_nil (c_ret (bq2 (bad (.inr (.inl g2)) h)))
      refine r_v (q_is (v' := .bool false) (q_eql rfl rfl) (by congr 1; rw [beq_eq_false_iff_ne]; omega)) rfl ?_
      (first | refine r_v (q_pick1 rfl rfl rfl) rfl ?_ | refine r_v (q_pick0 rfl rfl rfl) rfl ?_ | refine r_v (q_pick1 rfl (by assumption) rfl) rfl ?_ | refine r_v (q_pick0 rfl (by assumption) rfl) rfl ?_ | refine r_v (q_pickB rfl rfl rfl) rfl ?_); refine r_v (q_moveB rfl) rfl ?_; (first | refine r_gd rfl rfl ?_ | refine r_gn rfl rfl rfl ?_ | refine r_gu rfl rfl ?_ | refine r_gd rfl (by assumption) ?_ | refine r_gn rfl (by assumption) rfl ?_); refine r_v (q_moveI rfl) rfl ?_; (first | refine r_gd rfl rfl ?_ | refine r_gn rfl rfl rfl ?_ | refine r_gu rfl rfl ?_ | refine r_gd rfl (by assumption) ?_ | refine r_gn rfl (by assumption) rfl ?_)
      by_cases g3 : many = 0
      · refine r_v (q_is (v' := .bool true) (q_eql rfl rfl) (by rw [g3]; rfl)) rfl ?_
        (first | refine r_v (q_pick1 rfl rfl rfl) rfl ?_ | refine r_v (q_pick0 rfl rfl rfl) rfl ?_ | refine r_v (q_pick1 rfl (by assumption) rfl) rfl ?_ | refine r_v (q_pick0 rfl (by assumption) rfl) rfl ?_ | refine r_v (q_pickB rfl rfl rfl) rfl ?_); refine r_v (q_moveB rfl) rfl ?_; (first | refine r_gd rfl rfl ?_ | refine r_gn rfl rfl rfl ?_ | refine r_gu rfl rfl ?_ | refine r_gd rfl (by assumption) ?_ | refine r_gn rfl (by assumption) rfl ?_); (first | refine r_gd rfl rfl ?_ | refine r_gn rfl rfl rfl ?_ | refine r_gu rfl rfl ?_ | refine r_gd rfl (by assumption) ?_ | refine r_gn rfl (by assumption) rfl ?_); (first | refine r_gd rfl rfl ?_ | refine r_gn rfl rfl rfl ?_ | refine r_gu rfl rfl ?_ | refine r_gd rfl (by assumption) ?_ | refine r_gn rfl (by assumption) rfl ?_); (first | refine r_gd rfl rfl ?_ | refine r_gn rfl rfl rfl ?_ | refine r_gu rfl rfl ?_ | refine r_gd rfl (by assumption) ?_ | refine r_gn rfl (by assumption) rfl ?_); (first | refine r_gd rfl rfl ?_ | refine r_gn rfl rfl rfl ?_ | refine r_gu rfl rfl ?_ | refine r_gd rfl (by assumption) ?_ | refine r_gn rfl (by assumption) rfl ?_); (first | refine r_gd rfl rfl ?_ | refine r_gn rfl rfl rfl ?_ | refine r_gu rfl rfl ?_ | refine r_gd rfl (by assumption) ?_ | refine r_gn rfl (by assumption) rfl ?_); (first | refine r_gd rfl rfl ?_ | refine r_gn rfl rfl rfl ?_ | refine r_gu rfl rfl ?_ | refine r_gd rfl (by assumption) ?_ | refine r_gn rfl (by assumption) rfl ?_); (first | refine r_v (q_pick1 rfl rfl rfl) rfl ?_ | refine r_v (q_pick0 rfl rfl rfl) rfl ?_ | refine r_v (q_pick1 rfl (by assumption) rfl) rfl ?_ | refine r_v (q_pick0 rfl (by assumption) rfl) rfl ?_ | refine r_v (q_pickB rfl rfl rfl) rfl ?_); refine r_v (q_moveB rfl) rfl ?_; (first | refine r_gd rfl rfl ?_ | refine r_gn rfl rfl rfl ?_ | refine r_gu rfl rfl ?_ | refine r_gd rfl (by assumption) ?_ | refine r_gn rfl (by assumption) rfl ?_); (first | refine r_gd rfl rfl ?_ | refine r_gn rfl rfl rfl ?_ | refine r_gu rfl rfl ?_ | refine r_gd rfl (by assumption) ?_ | refine r_gn rfl (by assumption) rfl ?_); (first | refine r_gd rfl rfl ?_ | refine r_gn rfl rfl rfl ?_ | refine r_gu rfl rfl ?_ | refine r_gd rfl (by assumption) ?_ | refine r_gn rfl (by assumption) rfl ?_); (first | refine r_gd rfl rfl ?_ | refine r_gn rfl rfl rfl ?_ | refine r_gu rfl rfl ?_ | refine r_gd rfl (by assumption) ?_ | refine r_gn rfl (by assumption) rfl ?_); (first | refine r_gd rfl rfl ?_ | refine r_gn rfl rfl rfl ?_ | refine r_gu rfl rfl ?_ | refine r_gd rfl (by assumption) ?_ | refine r_gn rfl (by assumption) rfl ?_); (first | refine r_gd rfl rfl ?_ | refine r_gn rfl rfl rfl ?_ | refine r_gu rfl rfl ?_ | refine r_gd rfl (by assumption) ?_ | refine r_gn rfl (by assumption) rfl ?_); (first | refine r_gd rfl rfl ?_ | refine r_gn rfl rfl rfl ?_ | refine r_gu rfl rfl ?_ | refine r_gd rfl (by assumption) ?_ | refine r_gn rfl (by assumption) rfl ?_); (first | refine r_gd rfl rfl ?_ | refine r_gn rfl rfl rfl ?_ | refine r_gu rfl rfl ?_ | refine r_gd rfl (by assumption) ?_ | refine r_gn rfl (by assumption) rfl ?_); (first | refine r_gd rfl rfl ?_ | refine r_gn rfl rfl rfl ?_ | refine r_gu rfl rfl ?_ | refine r_gd rfl (by assumption) ?_ | refine r_gn rfl (by assumption) rfl ?_); (first | refine r_gd rfl rfl ?_ | refine r_gn rfl rfl rfl ?_ | refine r_gu rfl rfl ?_ | refine r_gd rfl (by assumption) ?_ | refine r_gn rfl (by assumption) rfl ?_); (first | refine r_gd rfl rfl ?_ | refine r_gn rfl rfl rfl ?_ | refine r_gu rfl rfl ?_ | refine r_gd rfl (by assumption) ?_ | refine r_gn rfl (by assumption) rfl ?_); (first | refine r_gd rfl rfl ?_ | refine r_gn rfl rfl rfl ?_ | refine r_gu rfl rfl ?_ | refine r_gd rfl (by assumption) ?_ | refine r_gn rfl (by assumption) rfl ?_); (first | refine r_gd rfl rfl ?_ | refine r_gn rfl rfl rfl ?_ | refine r_gu rfl rfl ?_ | refine r_gd rfl (by assumption) ?_ | refine r_gn rfl (by assumption) rfl ?_); (first | refine r_v (q_pick1 rfl rfl rfl) rfl ?_ | refine r_v (q_pick0 rfl rfl rfl) rfl ?_ | refine r_v (q_pick1 rfl (by assumption) rfl) rfl ?_ | refine r_v (q_pick0 rfl (by assumption) rfl) rfl ?_ | refine r_v (q_pickB rfl rfl rfl) rfl ?_)
        refine r_nil (c_true rfl ?_)
        refine c_seq (c_region ?_)
        refine r_v (q_assignS rfl) rfl ?_; refine r_v (q_assignB rfl) rfl ?_
        exact r_nil (c_ret (bq2 (bad (.inr (.inr (.inl g3))) h)))
      refine r_v (q_is (v' := .bool false) (q_eql rfl rfl) (by congr 1; rw [beq_eq_false_iff_ne]; omega)) rfl ?_
      (first | refine r_v (q_pick1 rfl rfl rfl) rfl ?_ | refine r_v (q_pick0 rfl rfl rfl) rfl ?_ | refine r_v (q_pick1 rfl (by assumption) rfl) rfl ?_ | refine r_v (q_pick0 rfl (by assumption) rfl) rfl ?_ | refine r_v (q_pickB rfl rfl rfl) rfl ?_); refine r_v (q_moveB rfl) rfl ?_; (first | refine r_gd rfl rfl ?_ | refine r_gn rfl rfl rfl ?_ | refine r_gu rfl rfl ?_ | refine r_gd rfl (by assumption) ?_ | refine r_gn rfl (by assumption) rfl ?_); refine r_v (q_moveI rfl) rfl ?_; (first | refine r_gd rfl rfl ?_ | refine r_gn rfl rfl rfl ?_ | refine r_gu rfl rfl ?_ | refine r_gd rfl (by assumption) ?_ | refine r_gn rfl (by assumption) rfl ?_); refine r_v (q_moveI rfl) rfl ?_; (first | refine r_gd rfl rfl ?_ | refine r_gn rfl rfl rfl ?_ | refine r_gu rfl rfl ?_ | refine r_gd rfl (by assumption) ?_ | refine r_gn rfl (by assumption) rfl ?_); refine r_v (q_moveS rfl) rfl ?_; (first | refine r_gd rfl rfl ?_ | refine r_gn rfl rfl rfl ?_ | refine r_gu rfl rfl ?_ | refine r_gd rfl (by assumption) ?_ | refine r_gn rfl (by assumption) rfl ?_); refine r_v (q_len rfl) rfl ?_; (first | refine r_gd rfl rfl ?_ | refine r_gn rfl rfl rfl ?_ | refine r_gu rfl rfl ?_ | refine r_gd rfl (by assumption) ?_ | refine r_gn rfl (by assumption) rfl ?_)
      refine r_v (q_is (v' := .int .i64 ((n - out.length : Nat) : Int)) (q_sub rfl rfl) (by rw [wrap64 (by omega) (by omega)]; congr 1; omega)) rfl ?_
      refine r_gd rfl rfl ?_
      refine r_v (q_is (v' := .int .u64 ((n - out.length : Nat) : Int)) (q_conv rfl) (congrArg (Value.int .u64) (conv_nat (by omega)))) rfl ?_
      refine r_gd rfl rfl ?_
      by_cases g4 : n - out.length < many
      · refine r_v (q_is (v' := .bool true) (q_gtr rfl rfl) (by congr 1; simp; omega)) rfl ?_
        (first | refine r_v (q_pick1 rfl rfl rfl) rfl ?_ | refine r_v (q_pick0 rfl rfl rfl) rfl ?_ | refine r_v (q_pick1 rfl (by assumption) rfl) rfl ?_ | refine r_v (q_pick0 rfl (by assumption) rfl) rfl ?_ | refine r_v (q_pickB rfl rfl rfl) rfl ?_); refine r_v (q_moveB rfl) rfl ?_; (first | refine r_gd rfl rfl ?_ | refine r_gn rfl rfl rfl ?_ | refine r_gu rfl rfl ?_ | refine r_gd rfl (by assumption) ?_ | refine r_gn rfl (by assumption) rfl ?_); (first | refine r_gd rfl rfl ?_ | refine r_gn rfl rfl rfl ?_ | refine r_gu rfl rfl ?_ | refine r_gd rfl (by assumption) ?_ | refine r_gn rfl (by assumption) rfl ?_); (first | refine r_gd rfl rfl ?_ | refine r_gn rfl rfl rfl ?_ | refine r_gu rfl rfl ?_ | refine r_gd rfl (by assumption) ?_ | refine r_gn rfl (by assumption) rfl ?_); (first | refine r_gd rfl rfl ?_ | refine r_gn rfl rfl rfl ?_ | refine r_gu rfl rfl ?_ | refine r_gd rfl (by assumption) ?_ | refine r_gn rfl (by assumption) rfl ?_); (first | refine r_gd rfl rfl ?_ | refine r_gn rfl rfl rfl ?_ | refine r_gu rfl rfl ?_ | refine r_gd rfl (by assumption) ?_ | refine r_gn rfl (by assumption) rfl ?_); (first | refine r_gd rfl rfl ?_ | refine r_gn rfl rfl rfl ?_ | refine r_gu rfl rfl ?_ | refine r_gd rfl (by assumption) ?_ | refine r_gn rfl (by assumption) rfl ?_); (first | refine r_gd rfl rfl ?_ | refine r_gn rfl rfl rfl ?_ | refine r_gu rfl rfl ?_ | refine r_gd rfl (by assumption) ?_ | refine r_gn rfl (by assumption) rfl ?_); (first | refine r_gd rfl rfl ?_ | refine r_gn rfl rfl rfl ?_ | refine r_gu rfl rfl ?_ | refine r_gd rfl (by assumption) ?_ | refine r_gn rfl (by assumption) rfl ?_); (first | refine r_gd rfl rfl ?_ | refine r_gn rfl rfl rfl ?_ | refine r_gu rfl rfl ?_ | refine r_gd rfl (by assumption) ?_ | refine r_gn rfl (by assumption) rfl ?_); (first | refine r_gd rfl rfl ?_ | refine r_gn rfl rfl rfl ?_ | refine r_gu rfl rfl ?_ | refine r_gd rfl (by assumption) ?_ | refine r_gn rfl (by assumption) rfl ?_); (first | refine r_gd rfl rfl ?_ | refine r_gn rfl rfl rfl ?_ | refine r_gu rfl rfl ?_ | refine r_gd rfl (by assumption) ?_ | refine r_gn rfl (by assumption) rfl ?_); (first | refine r_gd rfl rfl ?_ | refine r_gn rfl rfl rfl ?_ | refine r_gu rfl rfl ?_ | refine r_gd rfl (by assumption) ?_ | refine r_gn rfl (by assumption) rfl ?_); (first | refine r_gd rfl rfl ?_ | refine r_gn rfl rfl rfl ?_ | refine r_gu rfl rfl ?_ | refine r_gd rfl (by assumption) ?_ | refine r_gn rfl (by assumption) rfl ?_); (first | refine r_v (q_pick1 rfl rfl rfl) rfl ?_ | refine r_v (q_pick0 rfl rfl rfl) rfl ?_ | refine r_v (q_pick1 rfl (by assumption) rfl) rfl ?_ | refine r_v (q_pick0 rfl (by assumption) rfl) rfl ?_ | refine r_v (q_pickB rfl rfl rfl) rfl ?_)
        refine r_nil (c_true rfl ?_)
        refine c_seq (c_region ?_)
        refine r_v (q_assignS rfl) rfl ?_; refine r_v (q_assignB rfl) rfl ?_
        exact r_nil (c_ret (bq2 (bad (.inr (.inr (.inr (.inl g4)))) h)))
      refine r_v (q_is (v' := .bool false) (q_gtr rfl rfl) (by congr 1; simp; omega)) rfl ?_
      (first | refine r_v (q_pick1 rfl rfl rfl) rfl ?_ | refine r_v (q_pick0 rfl rfl rfl) rfl ?_ | refine r_v (q_pick1 rfl (by assumption) rfl) rfl ?_ | refine r_v (q_pick0 rfl (by assumption) rfl) rfl ?_ | refine r_v (q_pickB rfl rfl rfl) rfl ?_); refine r_v (q_moveB rfl) rfl ?_; (first | refine r_gd rfl rfl ?_ | refine r_gn rfl rfl rfl ?_ | refine r_gu rfl rfl ?_ | refine r_gd rfl (by assumption) ?_ | refine r_gn rfl (by assumption) rfl ?_); refine r_v (q_moveS rfl) rfl ?_; (first | refine r_gd rfl rfl ?_ | refine r_gn rfl rfl rfl ?_ | refine r_gu rfl rfl ?_ | refine r_gd rfl (by assumption) ?_ | refine r_gn rfl (by assumption) rfl ?_); refine r_v (q_len rfl) rfl ?_; (first | refine r_gd rfl rfl ?_ | refine r_gn rfl rfl rfl ?_ | refine r_gu rfl rfl ?_ | refine r_gd rfl (by assumption) ?_ | refine r_gn rfl (by assumption) rfl ?_)
      by_cases g0 : out.length = 0
      · have ho : out = [] := List.eq_nil_of_length_eq_zero g0
        refine r_v (q_is (v' := .bool false) (q_gtr rfl rfl) (by rw [g0]; rfl)) rfl ?_
        (first | refine r_gd rfl rfl ?_ | refine r_gn rfl rfl rfl ?_ | refine r_gu rfl rfl ?_ | refine r_gd rfl (by assumption) ?_ | refine r_gn rfl (by assumption) rfl ?_); refine r_v (q_moveB rfl) rfl ?_; (first | refine r_gd rfl rfl ?_ | refine r_gn rfl rfl rfl ?_ | refine r_gu rfl rfl ?_ | refine r_gd rfl (by assumption) ?_ | refine r_gn rfl (by assumption) rfl ?_); (first | refine r_gd rfl rfl ?_ | refine r_gn rfl rfl rfl ?_ | refine r_gu rfl rfl ?_ | refine r_gd rfl (by assumption) ?_ | refine r_gn rfl (by assumption) rfl ?_); (first | refine r_gd rfl rfl ?_ | refine r_gn rfl rfl rfl ?_ | refine r_gu rfl rfl ?_ | refine r_gd rfl (by assumption) ?_ | refine r_gn rfl (by assumption) rfl ?_); (first | refine r_gd rfl rfl ?_ | refine r_gn rfl rfl rfl ?_ | refine r_gu rfl rfl ?_ | refine r_gd rfl (by assumption) ?_ | refine r_gn rfl (by assumption) rfl ?_); (first | refine r_gd rfl rfl ?_ | refine r_gn rfl rfl rfl ?_ | refine r_gu rfl rfl ?_ | refine r_gd rfl (by assumption) ?_ | refine r_gn rfl (by assumption) rfl ?_); (first | refine r_gd rfl rfl ?_ | refine r_gn rfl rfl rfl ?_ | refine r_gu rfl rfl ?_ | refine r_gd rfl (by assumption) ?_ | refine r_gn rfl (by assumption) rfl ?_); (first | refine r_gd rfl rfl ?_ | refine r_gn rfl rfl rfl ?_ | refine r_gu rfl rfl ?_ | refine r_gd rfl (by assumption) ?_ | refine r_gn rfl (by assumption) rfl ?_); (first | refine r_gd rfl rfl ?_ | refine r_gn rfl rfl rfl ?_ | refine r_gu rfl rfl ?_ | refine r_gd rfl (by assumption) ?_ | refine r_gn rfl (by assumption) rfl ?_); (first | refine r_gd rfl rfl ?_ | refine r_gn rfl rfl rfl ?_ | refine r_gu rfl rfl ?_ | refine r_gd rfl (by assumption) ?_ | refine r_gn rfl (by assumption) rfl ?_); (first | refine r_v (q_pick1 rfl rfl rfl) rfl ?_ | refine r_v (q_pick0 rfl rfl rfl) rfl ?_ | refine r_v (q_pick1 rfl (by assumption) rfl) rfl ?_ | refine r_v (q_pick0 rfl (by assumption) rfl) rfl ?_ | refine r_v (q_pickB rfl rfl rfl) rfl ?_); (first | refine r_v (q_pick1 rfl rfl rfl) rfl ?_ | refine r_v (q_pick0 rfl rfl rfl) rfl ?_ | refine r_v (q_pick1 rfl (by assumption) rfl) rfl ?_ | refine r_v (q_pick0 rfl (by assumption) rfl) rfl ?_ | refine r_v (q_pickB rfl rfl rfl) rfl ?_)
        refine r_nil (c_false rfl ?_)
        refine c_skip ⟨(), ⟨rfl, rfl, rfl, rfl, rfl, rfl, rfl, trivial⟩, ?_, h⟩
        rw [ho]
        simp
        rw [ho] at g4
        simp at g4
        omega
      · refine r_v (q_is (v' := .bool true) (q_gtr rfl rfl) (by congr 1; simp; omega)) rfl ?_
        have hgl := List.getElem?_eq_getElem (show out.length - 1 < out.length by omega)
        have hlast : out.getLast? = some (out[out.length - 1]'(by omega)) := by rw [List.getLast?_eq_getElem?, hgl]
        generalize out[out.length - 1]'(by omega) = z at hgl hlast
        obtain ⟨bo, hosl⟩ := h.own_some (by omega)
        (first | refine r_gd rfl rfl ?_ | refine r_gn rfl rfl rfl ?_ | refine r_gu rfl rfl ?_ | refine r_gd rfl (by assumption) ?_ | refine r_gn rfl (by assumption) rfl ?_); refine r_v (q_moveB rfl) rfl ?_; (first | refine r_gd rfl rfl ?_ | refine r_gn rfl rfl rfl ?_ | refine r_gu rfl rfl ?_ | refine r_gd rfl (by assumption) ?_ | refine r_gn rfl (by assumption) rfl ?_); refine r_v (q_moveS rfl) rfl ?_; (first | refine r_gd rfl rfl ?_ | refine r_gn rfl rfl rfl ?_ | refine r_gu rfl rfl ?_ | refine r_gd rfl (by assumption) ?_ | refine r_gn rfl (by assumption) rfl ?_); refine r_v (q_moveS rfl) rfl ?_; (first | refine r_gd rfl rfl ?_ | refine r_gn rfl rfl rfl ?_ | refine r_gu rfl rfl ?_ | refine r_gd rfl (by assumption) ?_ | refine r_gn rfl (by assumption) rfl ?_); refine r_v (q_len rfl) rfl ?_; (first | refine r_gd rfl rfl ?_ | refine r_gn rfl rfl rfl ?_ | refine r_gu rfl rfl ?_ | refine r_gd rfl (by assumption) ?_ | refine r_gn rfl (by assumption) rfl ?_)
        refine r_v (q_is (v' := .int .i64 ((out.length - 1 : Nat) : Int)) (q_sub rfl rfl) (by rw [wrap64 (by omega) (by omega)]; congr 1; omega)) rfl ?_
        refine r_gd rfl rfl ?_
        refine r_v (q_idx (b := bo) (o := 0) (m := out.length) (c := oc) (o' := out.length - 1) (by rw [← hosl]; rfl) rfl rfl (by omega) (by simp)) rfl ?_
        refine r_gd rfl rfl ?_
        refine r_v (q_loadc (v := .int .u64 z) rfl (by have := (hosl ▸ h.own_rd).cell (u64V_get hgl); simpa using this)) rfl ?_
        (first | refine r_gd rfl rfl ?_ | refine r_gn rfl rfl rfl ?_ | refine r_gu rfl rfl ?_ | refine r_gd rfl (by assumption) ?_ | refine r_gn rfl (by assumption) rfl ?_); refine r_v (q_moveI rfl) rfl ?_; (first | refine r_gd rfl rfl ?_ | refine r_gn rfl rfl rfl ?_ | refine r_gu rfl rfl ?_ | refine r_gd rfl (by assumption) ?_ | refine r_gn rfl (by assumption) rfl ?_); refine r_v (q_eql rfl rfl) rfl ?_; (first | refine r_gd rfl rfl ?_ | refine r_gn rfl rfl rfl ?_ | refine r_gu rfl rfl ?_ | refine r_gd rfl (by assumption) ?_ | refine r_gn rfl (by assumption) rfl ?_); (first | refine r_v (q_pick1 rfl rfl rfl) rfl ?_ | refine r_v (q_pick0 rfl rfl rfl) rfl ?_ | refine r_v (q_pick1 rfl (by assumption) rfl) rfl ?_ | refine r_v (q_pick0 rfl (by assumption) rfl) rfl ?_ | refine r_v (q_pickB rfl rfl rfl) rfl ?_); (first | refine r_v (q_pick1 rfl rfl rfl) rfl ?_ | refine r_v (q_pick0 rfl rfl rfl) rfl ?_ | refine r_v (q_pick1 rfl (by assumption) rfl) rfl ?_ | refine r_v (q_pick0 rfl (by assumption) rfl) rfl ?_ | refine r_v (q_pickB rfl rfl rfl) rfl ?_)
        refine r_nil (c_cond ((z : Int) == (x : Int)) rfl (fun hc1 => ?_) (fun hc1 => ?_))
        · refine c_seq (c_region ?_)
          refine r_v (q_assignS rfl) rfl ?_; refine r_v (q_assignB rfl) rfl ?_
          exact r_nil (c_ret (bq2 (bad (.inr (.inr (.inr (.inr (by rw [hlast]; congr 1; rw [beq_iff_eq] at hc1; omega))))) h)))
        · refine c_skip ⟨(), ⟨rfl, rfl, rfl, rfl, rfl, rfl, rfl, trivial⟩, ?_, h⟩
          rw [beq_eq_false_iff_ne] at hc1
          rintro (h | h | h | h | h)
          · omega
          · omega
          · omega
          · omega
          · rw [hlast] at h; cases h; exact hc1 rfl
    clear h
    rintro _ w e ⟨hcond, h⟩
    rw [if_neg hcond] at inv
    have hmn : many ≤ n - out.length := by omega
    have hik : i + k ≤ b.length := by omega
    refine c_cut (Γ := Option Addr × Nat) (fun q => [(0, .slice ba b.length bc), (1, .int .i64 n), (6, .slice q.1 (out ++ List.replicate many x).length q.2), (8, .int .i64 i), (10, .int .i64 k)])
      (fun q w => St w0 (OwnU q.1 q.2 (out ++ List.replicate many x) :: l) w) ?_ ?_
    · refine c_seq (c_region ?_)
      refine r_v (q_moveI rfl) rfl ?_; refine r_v (q_moveI rfl) rfl ?_
      refine r_nil ?_
      refine c_block ?_
      refine c_loop (Γ := Nat × Option Addr × Nat) (fun q => [(0, .slice ba b.length bc), (1, .int .i64 n), (6, .slice q.2.1 (out ++ List.replicate q.1 x).length q.2.2), (8, .int .i64 i), (9, .int .u64 x), (10, .int .i64 k), (63, .int .u64 many), (64, .int .u64 q.1)])
        (fun q w => q.1 ≤ many ∧ St w0 (OwnU q.2.1 q.2.2 (out ++ List.replicate q.1 x) :: l) w) (fun q => many - q.1) (0, oa, oc) ⟨rfl, rfl, (by show Value.slice _ _ _ = Value.slice _ _ _; simp), rfl, rfl, rfl, rfl, rfl, trivial⟩ ⟨Nat.zero_le _, by simpa using h⟩ ?_
      clear h
      rintro ⟨j, oa, oc⟩ w e ⟨hj, h⟩
      dsimp only at hj h ⊢
      refine c_seq (c_region ?_)
      refine r_v (q_lss rfl rfl) rfl ?_
      refine r_nil ?_
      refine c_seq (c_cond (decide ((j : Int) < (many : Int))) rfl (fun hc1 => ?_) (fun hc1 => ?_))
      ·
        have hlt : j < many := by simp at hc1; omega
        have hstep : out ++ List.replicate (j + 1) x = out ++ List.replicate j x ++ [x] := by rw [List.replicate_succ', List.append_assoc]
        refine c_skip ?_
        refine c_cut (Γ := Option Addr × Nat) (fun q => [(0, .slice ba b.length bc), (1, .int .i64 n), (6, .slice q.1 (out ++ List.replicate (j + 1) x).length q.2), (8, .int .i64 i), (9, .int .u64 x), (10, .int .i64 k), (63, .int .u64 many), (64, .int .u64 j)]) (fun q w => St w0 (OwnU q.1 q.2 (out ++ List.replicate (j + 1) x) :: l) w) ?_ ?_
        · refine c_block ?_
          refine c_region ?_
          refine r_v (q_moveS rfl) rfl ?_; refine r_v (q_moveI rfl) rfl ?_
          refine r_c rfl (x_bslice (r := u64V [x]) h rfl rfl rfl fun b2 w h => ?_)
          refine r_c rfl (x_append' (ys := u64V [x]) (zs := u64V (out ++ List.replicate (j + 1) x)) (m3 := (out ++ List.replicate (j + 1) x).length) (h.f 1) rfl rfl ⟨rfl, .inr ⟨b2, 0, rfl, at_of (h.b 0 rfl) rfl⟩⟩ (u64V_one _) (by rw [hstep]; simp; omega) (by rw [hstep]; simp [u64V]) (by simp; omega) (by simp; omega) rfl fun a2 c2 w _ h => ?_)
          refine r_v (q_assignS rfl) rfl ?_
          exact r_nil ⟨(a2, c2), ⟨rfl, rfl, rfl, rfl, rfl, rfl, rfl, rfl, trivial⟩, (h.f 1).drop⟩
        clear h
        rintro ⟨oa, oc⟩ w e h
        dsimp only at h ⊢
        refine c_region ?_
        refine r_v (q_add rfl rfl) rfl ?_
        refine r_is (.int .u64 ((j + 1 : Nat) : Int)) (congrArg (Value.int .u64) (conv_nat (x := j + 1) (by omega))) ?_
        refine r_v (q_moveI rfl) rfl ?_
        exact r_nil ⟨(j + 1, oa, oc), ⟨rfl, rfl, rfl, rfl, rfl, rfl, rfl, rfl, trivial⟩, ⟨hlt, h⟩, by dsimp only; omega⟩
      have hjm : j = many := by simp at hc1; omega
      subst hjm
      exact c_exit ⟨(oa, oc), ⟨rfl, rfl, rfl, rfl, rfl, trivial⟩, h⟩
    clear h
    rintro ⟨oa, oc⟩ w e h
    dsimp only at h ⊢
    have hrt2 := hr.tailB hik hc
    refine c_region ?_
    refine r_v (q_moveS rfl) rfl ?_; refine r_v (q_moveI rfl) rfl ?_; refine r_v (q_moveI rfl) rfl ?_; refine r_v (q_add rfl rfl) rfl ?_
    refine r_is (.int .i64 ((i + k : Nat) : Int)) (by rw [wrap64 (by omega) (by omega)]; rfl) ?_
    refine r_v (q_tail (i := i + k) rfl rfl hik) rfl ?_
    show Rn _ _ _ _ _ (upd _ _ (.slice (adv ba ((i + k) * 1) (Nat.beq bc (i + k))) (b.length - (i + k)) (bc - (i + k)))) _
    rw [← List.length_drop]
    refine r_v (q_assignS rfl) rfl ?_
    refine r_nil ⟨(b.drop (i + k), adv ba ((i + k) * 1) (Nat.beq bc (i + k)), bc - (i + k), f, out ++ List.replicate many x, oa, oc), ⟨rfl, rfl, rfl, trivial⟩, ⟨by dsimp only; rw [List.length_drop]; omega, by dsimp only; rw [List.length_drop]; omega, by dsimp only; rw [List.length_drop]; omega, by dsimp only; rw [List.length_append, List.length_replicate]; omega, fun z hz => ?_, ?_, hrt2, h⟩, by dsimp only; rw [List.length_drop]; omega⟩
    · rcases List.mem_append.1 hz with hz | hz
      · exact hout z hz
      · rw [(List.mem_replicate.1 hz).2]; exact hx
    · rw [inv, getLast?_rep out (by omega), List.length_append, List.length_replicate, Option.map_map, Nat.sub_sub]
      congr 1
      funext r
      simp
  have hb0 : b = [] := List.eq_nil_of_length_eq_zero (by rw [decide_eq_false_iff_not] at hcc; omega)
  subst hb0
  have inv : runsDec bs n = (if n - out.length = 0 then some [] else none).map (fun r => out ++ r) := by
    rw [inv]
    cases f <;> rfl
  refine c_exit ?_
  refine c_seq (c_seq (c_region ?_))
  refine r_v (q_moveS rfl) rfl ?_; refine r_v (q_len rfl) rfl ?_; refine r_v (q_moveI rfl) rfl ?_; refine r_v (q_neq rfl rfl) rfl ?_
  by_cases hon : out.length = n
  · refine r_is (.bool false) (by rw [hon]; simp) ?_
    refine r_nil (c_false rfl (c_skip ?_))
    refine c_seq (c_region ?_)
    refine r_v (q_moveS rfl) rfl ?_; refine r_v (q_assignS rfl) rfl ?_; refine r_v (q_assignB rfl) rfl ?_
    refine r_nil ?_
    exact c_ret (bq2 ⟨oa, oc, out, true, rfl, by rw [inv, if_pos (by omega)]; simp, fun _ => ⟨hon, hout⟩, h⟩)
  · refine r_is (.bool true) (by congr 1; rw [bne_iff_ne]; omega) ?_
    refine r_nil (c_true rfl ?_)
    refine c_seq (c_region ?_)
    refine r_v (q_assignS rfl) rfl ?_; refine r_v (q_assignB rfl) rfl ?_
    refine r_nil ?_
    exact c_ret (bq2 (Told.no (by rw [inv, if_neg (by omega)]; rfl) h.drop))

theorem forp_Decode {sl : Option Addr} {c : Nat} {bs : List UInt8} {n : Nat} (hn : n ≤ 65535) (hbn : bs.length ≤ 140737488355328) (hc : bs.length ≤ c) (hr : Reads w0 l 1 sl bs.length (bytesV bs)) (h : St w0 l w) :
    Ret Tryd.prog 85 [.slice sl bs.length c, .int .i64 (n : Int)] w fun v w' => Told w0 l n (frameDec bs n) v w' := by
  have hdef : frameDec bs n = _ := rfl
  conv at hdef => rhs; unfold frameDec
  refine enter Tryd.func85 rfl Tryd.results85 Tryd.ntmps85 rfl ?_
  refine c_seq (c_region ?_)
  refine r_v (q_assignS rfl) rfl ?_; refine r_v (q_assignB rfl) rfl ?_
  refine r_nil ?_
  refine c_seq (c_region ?_)
  refine r_v (q_moveI rfl) rfl ?_; refine r_v (q_max rfl rfl) rfl ?_; refine r_v (q_min rfl rfl) rfl ?_
  refine r_is (.int .i64 (n : Int)) (by congr 1; omega) ?_
  refine r_v (q_assignI rfl) rfl ?_
  refine r_nil ?_
  refine c_seq (c_seq (c_region ?_))
  refine r_v (q_moveI rfl) rfl ?_; refine r_v (q_eql rfl rfl) rfl ?_
  by_cases hn0 : n = 0
  · refine r_is (.bool true) (by rw [hn0]; rfl) ?_
    refine r_nil (c_true rfl ?_)
    refine c_seq (c_region ?_)
    refine r_v (q_moveS rfl) rfl ?_; refine r_v (q_len rfl) rfl ?_; refine r_v (q_eql rfl rfl) rfl ?_
    refine r_is (.bool (decide (bs = []))) (by congr 1; rw [Bool.eq_iff_iff]; simp) ?_
    refine r_v (q_assignS rfl) rfl ?_; refine r_v (q_assignB rfl) rfl ?_
    refine r_nil ?_
    rw [if_pos hn0] at hdef
    refine c_ret (bq2 ⟨none, 0, [], decide (bs = []), rfl, ?_, fun _ => ⟨hn0.symm, (fun _ h => by cases h)⟩, St.ownNil _ _ h⟩)
    rw [hdef]
    by_cases hb : bs = []
    · rw [if_pos hb, decide_eq_true hb, if_pos rfl]
    · rw [if_neg hb, decide_eq_false hb, if_neg (by decide)]
  refine r_is (.bool false) (by congr 1; rw [beq_eq_false_iff_ne]; omega) ?_
  refine r_nil (c_false rfl (c_skip ?_))
  rw [if_neg hn0] at hdef
  have hk := vget_le bs
  have hm := vget_lt bs
  refine c_seq (c_region ?_)
  refine r_v (q_moveS rfl) rfl ?_
  refine r_c rfl (x_call rfl (vint_Get h hr.rd hbn) ?_)
  rintro _ w ⟨rfl, h⟩
  refine r_v (q_moveT rfl) rfl ?_; refine r_v (q_ext rfl rfl) rfl ?_; refine r_v (q_ext rfl rfl) rfl ?_; refine r_v (q_assignI rfl) rfl ?_; refine r_v (q_assignI rfl) rfl ?_
  refine r_nil ?_
  generalize (vget bs).1 = least at hm hdef ⊢
  generalize (vget bs).2 = i at hk hdef ⊢
  refine c_cut (Γ := UInt8) (fun _ => [(0, .slice sl bs.length c), (1, .int .i64 n), (6, .int .u64 least), (7, .int .i64 i)])
    (fun q w => bs[i]? = some q ∧ q.toNat ≤ 64 ∧ i ≠ 0 ∧ St w0 l w) ?_ ?_
  · refine c_seq (c_region ?_)
    by_cases g1 : i = 0
    · refine r_v (q_moveI rfl) rfl ?_
      refine r_v (q_is (v' := .bool true) (q_eql rfl rfl) (by rw [g1]; rfl)) rfl ?_
      refine r_v (q_moveB rfl) rfl ?_; (first | refine r_gd rfl rfl ?_ | refine r_gn rfl rfl rfl ?_ | refine r_gu rfl rfl ?_ | refine r_gd rfl (by assumption) ?_ | refine r_gn rfl (by assumption) rfl ?_); (first | refine r_gd rfl rfl ?_ | refine r_gn rfl rfl rfl ?_ | refine r_gu rfl rfl ?_ | refine r_gd rfl (by assumption) ?_ | refine r_gn rfl (by assumption) rfl ?_); (first | refine r_gd rfl rfl ?_ | refine r_gn rfl rfl rfl ?_ | refine r_gu rfl rfl ?_ | refine r_gd rfl (by assumption) ?_ | refine r_gn rfl (by assumption) rfl ?_); (first | refine r_gd rfl rfl ?_ | refine r_gn rfl rfl rfl ?_ | refine r_gu rfl rfl ?_ | refine r_gd rfl (by assumption) ?_ | refine r_gn rfl (by assumption) rfl ?_); (first | refine r_v (q_pick1 rfl rfl rfl) rfl ?_ | refine r_v (q_pick0 rfl rfl rfl) rfl ?_ | refine r_v (q_pick1 rfl (by assumption) rfl) rfl ?_ | refine r_v (q_pick0 rfl (by assumption) rfl) rfl ?_ | refine r_v (q_pickB rfl rfl rfl) rfl ?_); refine r_v (q_moveB rfl) rfl ?_; (first | refine r_gd rfl rfl ?_ | refine r_gn rfl rfl rfl ?_ | refine r_gu rfl rfl ?_ | refine r_gd rfl (by assumption) ?_ | refine r_gn rfl (by assumption) rfl ?_); (first | refine r_gd rfl rfl ?_ | refine r_gn rfl rfl rfl ?_ | refine r_gu rfl rfl ?_ | refine r_gd rfl (by assumption) ?_ | refine r_gn rfl (by assumption) rfl ?_); (first | refine r_gd rfl rfl ?_ | refine r_gn rfl rfl rfl ?_ | refine r_gu rfl rfl ?_ | refine r_gd rfl (by assumption) ?_ | refine r_gn rfl (by assumption) rfl ?_); (first | refine r_gd rfl rfl ?_ | refine r_gn rfl rfl rfl ?_ | refine r_gu rfl rfl ?_ | refine r_gd rfl (by assumption) ?_ | refine r_gn rfl (by assumption) rfl ?_); (first | refine r_gd rfl rfl ?_ | refine r_gn rfl rfl rfl ?_ | refine r_gu rfl rfl ?_ | refine r_gd rfl (by assumption) ?_ | refine r_gn rfl (by assumption) rfl ?_); (first | refine r_v (q_pick1 rfl rfl rfl) rfl ?_ | refine r_v (q_pick0 rfl rfl rfl) rfl ?_ | refine r_v (q_pick1 rfl (by assumption) rfl) rfl ?_ | refine r_v (q_pick0 rfl (by assumption) rfl) rfl ?_ | refine r_v (q_pickB rfl rfl rfl) rfl ?_)
      refine r_nil (c_true rfl ?_)
      refine c_seq (c_region ?_)
      refine r_v (q_assignS rfl) rfl ?_; refine r_v (q_assignB rfl) rfl ?_
      exact r_nil (c_ret (bq2 (Told.no (by rw [hdef, if_pos g1]) h)))
    rw [if_neg g1] at hdef
    refine r_v (q_moveI rfl) rfl ?_
    refine r_v (q_is (v' := .bool false) (q_eql rfl rfl) (by congr 1; rw [beq_eq_false_iff_ne]; omega)) rfl ?_
    refine r_v (q_moveB rfl) rfl ?_; (first | refine r_gd rfl rfl ?_ | refine r_gn rfl rfl rfl ?_ | refine r_gu rfl rfl ?_ | refine r_gd rfl (by assumption) ?_ | refine r_gn rfl (by assumption) rfl ?_); refine r_v (q_moveI rfl) rfl ?_; (first | refine r_gd rfl rfl ?_ | refine r_gn rfl rfl rfl ?_ | refine r_gu rfl rfl ?_ | refine r_gd rfl (by assumption) ?_ | refine r_gn rfl (by assumption) rfl ?_); refine r_v (q_moveS rfl) rfl ?_; (first | refine r_gd rfl rfl ?_ | refine r_gn rfl rfl rfl ?_ | refine r_gu rfl rfl ?_ | refine r_gd rfl (by assumption) ?_ | refine r_gn rfl (by assumption) rfl ?_); refine r_v (q_len rfl) rfl ?_; (first | refine r_gd rfl rfl ?_ | refine r_gn rfl rfl rfl ?_ | refine r_gu rfl rfl ?_ | refine r_gd rfl (by assumption) ?_ | refine r_gn rfl (by assumption) rfl ?_)
    by_cases g2 : i = bs.length
    · refine r_v (q_is (v' := .bool true) (q_eql rfl rfl) (by rw [g2]; simp)) rfl ?_
      (first | refine r_v (q_pick1 rfl rfl rfl) rfl ?_ | refine r_v (q_pick0 rfl rfl rfl) rfl ?_ | refine r_v (q_pick1 rfl (by assumption) rfl) rfl ?_ | refine r_v (q_pick0 rfl (by assumption) rfl) rfl ?_ | refine r_v (q_pickB rfl rfl rfl) rfl ?_); refine r_v (q_moveB rfl) rfl ?_; (first | refine r_gd rfl rfl ?_ | refine r_gn rfl rfl rfl ?_ | refine r_gu rfl rfl ?_ | refine r_gd rfl (by assumption) ?_ | refine r_gn rfl (by assumption) rfl ?_); (first | refine r_gd rfl rfl ?_ | refine r_gn rfl rfl rfl ?_ | refine r_gu rfl rfl ?_ | refine r_gd rfl (by assumption) ?_ | refine r_gn rfl (by assumption) rfl ?_); (first | refine r_gd rfl rfl ?_ | refine r_gn rfl rfl rfl ?_ | refine r_gu rfl rfl ?_ | refine r_gd rfl (by assumption) ?_ | refine r_gn rfl (by assumption) rfl ?_); (first | refine r_gd rfl rfl ?_ | refine r_gn rfl rfl rfl ?_ | refine r_gu rfl rfl ?_ | refine r_gd rfl (by assumption) ?_ | refine r_gn rfl (by assumption) rfl ?_); (first | refine r_gd rfl rfl ?_ | refine r_gn rfl rfl rfl ?_ | refine r_gu rfl rfl ?_ | refine r_gd rfl (by assumption) ?_ | refine r_gn rfl (by assumption) rfl ?_); (first | refine r_v (q_pick1 rfl rfl rfl) rfl ?_ | refine r_v (q_pick0 rfl rfl rfl) rfl ?_ | refine r_v (q_pick1 rfl (by assumption) rfl) rfl ?_ | refine r_v (q_pick0 rfl (by assumption) rfl) rfl ?_ | refine r_v (q_pickB rfl rfl rfl) rfl ?_)
      refine r_nil (c_true rfl ?_)
      refine c_seq (c_region ?_)
      refine r_v (q_assignS rfl) rfl ?_; refine r_v (q_assignB rfl) rfl ?_
      exact r_nil (c_ret (bq2 (Told.no (by rw [hdef, List.getElem?_eq_none (by omega)]) h)))
    have hil : i < bs.length := by omega
    have hg := List.getElem?_eq_getElem hil
    generalize bs[i] = q at hg
    rw [hg] at hdef
    dsimp only at hdef
    obtain ⟨b, o, hsl⟩ := (hr.at_ h).some (by omega)
    refine r_v (q_is (v' := .bool false) (q_eql rfl rfl) (by congr 1; rw [beq_eq_false_iff_ne]; omega)) rfl ?_
    (first | refine r_v (q_pick1 rfl rfl rfl) rfl ?_ | refine r_v (q_pick0 rfl rfl rfl) rfl ?_ | refine r_v (q_pick1 rfl (by assumption) rfl) rfl ?_ | refine r_v (q_pick0 rfl (by assumption) rfl) rfl ?_ | refine r_v (q_pickB rfl rfl rfl) rfl ?_); refine r_v (q_moveB rfl) rfl ?_; (first | refine r_gd rfl rfl ?_ | refine r_gn rfl rfl rfl ?_ | refine r_gu rfl rfl ?_ | refine r_gd rfl (by assumption) ?_ | refine r_gn rfl (by assumption) rfl ?_); refine r_v (q_moveS rfl) rfl ?_; (first | refine r_gd rfl rfl ?_ | refine r_gn rfl rfl rfl ?_ | refine r_gu rfl rfl ?_ | refine r_gd rfl (by assumption) ?_ | refine r_gn rfl (by assumption) rfl ?_); refine r_v (q_moveI rfl) rfl ?_; (first | refine r_gd rfl rfl ?_ | refine r_gn rfl rfl rfl ?_ | refine r_gu rfl rfl ?_ | refine r_gd rfl (by assumption) ?_ | refine r_gn rfl (by assumption) rfl ?_)
    refine r_v (q_idx (b := b) (o := o) (m := bs.length) (c := c) (o' := o + i) (by rw [← hsl]; rfl) rfl rfl hil (by simp)) rfl ?_
    refine r_gd rfl rfl ?_
    refine r_v (q_loadc (v := .int .u8 q.toNat) rfl ((hsl ▸ hr.at_ h).cell (bytesV_get hg))) rfl ?_
    (first | refine r_gd rfl rfl ?_ | refine r_gn rfl rfl rfl ?_ | refine r_gu rfl rfl ?_ | refine r_gd rfl (by assumption) ?_ | refine r_gn rfl (by assumption) rfl ?_); refine r_v (q_gtr rfl rfl) rfl ?_; (first | refine r_v (q_pick1 rfl rfl rfl) rfl ?_ | refine r_v (q_pick0 rfl rfl rfl) rfl ?_ | refine r_v (q_pick1 rfl (by assumption) rfl) rfl ?_ | refine r_v (q_pick0 rfl (by assumption) rfl) rfl ?_ | refine r_v (q_pickB rfl rfl rfl) rfl ?_)
    refine r_nil (c_cond (decide ((q.toNat : Int) > 64)) rfl (fun hc1 => ?_) (fun hc1 => ?_))
    · refine c_seq (c_region ?_)
      refine r_v (q_assignS rfl) rfl ?_; refine r_v (q_assignB rfl) rfl ?_
      exact r_nil (c_ret (bq2 (Told.no (by rw [hdef, if_pos (by simp at hc1; omega)]) h)))
    · exact c_skip ⟨q, ⟨rfl, rfl, rfl, rfl, trivial⟩, hg, by simp at hc1; omega, g1, h⟩
  clear h
  rintro q w e ⟨hg, hq64, hi0, h⟩
  have hil : i < bs.length := (List.getElem?_eq_some_iff.1 hg).1
  rw [if_neg hi0, hg] at hdef
  dsimp only at hdef
  rw [if_neg (by omega)] at hdef
  have hrt := hr.tailB (i := i + 1) hil hc
  refine c_seq (c_region ?_)
  refine r_v (q_moveS rfl) rfl ?_; refine r_v (q_moveI rfl) rfl ?_; refine r_v (q_add rfl rfl) rfl ?_
  refine r_is (.int .i64 ((i + 1 : Nat) : Int)) (by rw [wrap64 (by omega) (by omega)]; rfl) ?_
  refine r_v (q_tail (i := i + 1) rfl rfl hil) rfl ?_
  show Rn _ _ _ _ _ (upd _ _ (.slice (adv sl ((i + 1) * 1) (Nat.beq c (i + 1))) (bs.length - (i + 1)) (c - (i + 1)))) _
  rw [← List.length_drop]
  refine r_c rfl (x_call rfl (bits_NewReader h hrt.rd (by rw [List.length_drop]; omega)) ?_)
  rintro _ w ⟨p, rfl, h⟩
  refine r_v (q_assignP rfl) rfl ?_
  refine r_nil ?_
  refine c_seq (c_region ?_)
  refine r_v (q_assignS rfl) rfl ?_
  refine r_nil ?_
  refine c_seq (c_seq (c_region ?_))
  refine r_v (q_moveI rfl) rfl ?_; refine r_v (q_moveI rfl) rfl ?_
  refine r_nil ?_
  generalize (⟨bitsB (bs.drop (i + 1)), false⟩ : RS) = s0 at h hdef
  refine c_block ?_
  refine c_loop (Γ := Nat × List Nat × RS × Option Addr × Nat) (fun k => [(0, .slice sl bs.length c), (6, .int .u64 least), (7, .int .i64 i), (8, .pointer (some ⟨p, 0, none⟩)), (9, .slice k.2.2.2.1 (k.2.1.map fun x => summ least x).length k.2.2.2.2), (43, .int .i64 n), (44, .int .i64 k.1)])
    (fun k w => k.1 ≤ n ∧ k.2.1.length = k.1 ∧ getAll n q.toNat s0 = (getAll (n - k.1) q.toNat k.2.2.1).map (fun r => k.2.1 ++ r) ∧ St w0 (OwnU k.2.2.2.1 k.2.2.2.2 (k.2.1.map fun x => summ least x) :: IsBR p k.2.2.1 :: l) w)
    (fun k => n - k.1) (0, [], s0, none, 0) ⟨rfl, rfl, rfl, rfl, rfl, rfl, rfl, trivial⟩ ⟨Nat.zero_le _, rfl, (by simp), St.ownNil _ _ h⟩ ?_
  clear h
  rintro ⟨j, gots, s1, oa, oc⟩ w e ⟨hj, hgl, inv, h⟩
  dsimp only at hj hgl inv h ⊢
  refine c_seq (c_region ?_)
  refine r_v (q_lss rfl rfl) rfl ?_
  refine r_nil ?_
  refine c_seq (c_cond (decide ((j : Int) < (n : Int))) rfl (fun hc1 => ?_) (fun hc1 => ?_))
  ·
    have hlt : j < n := by simp at hc1; omega
    rw [show n - j = (n - (j + 1)) + 1 by omega, getAll] at inv
    obtain ⟨b, o, hsl⟩ := ((hr.more [_, _]).at_ h).some (by omega)
    have hml : (gots.map fun x => summ least x).length = j := by rw [List.length_map, hgl]
    refine c_skip ?_
    refine c_seq (c_block ?_)
    refine c_seq (c_region ?_)
    refine r_v (q_moveS rfl) rfl ?_; refine r_v (q_moveI rfl) rfl ?_; refine r_v (q_moveP rfl) rfl ?_; refine r_v (q_moveS rfl) rfl ?_; refine r_v (q_moveI rfl) rfl ?_
    refine r_v (q_idx (b := b) (o := o) (m := bs.length) (c := c) (o' := o + i) (by rw [← hsl]; rfl) rfl rfl hil (by simp)) rfl ?_
    refine r_v (q_loadc (v := .int .u8 q.toNat) rfl ((hsl ▸ (hr.more [_, _]).at_ h).cell (bytesV_get hg))) rfl ?_
    refine r_v (q_conv rfl) rfl ?_
    refine r_is (.int .i64 (q.toNat : Int)) (by rw [wrap64 (by omega) (by omega)]) ?_
    refine r_c rfl (x_call rfl (bits_Get q.toNat (h.f 1)) ?_)
    rw [heldN_nat hq64]
    cases hgg : s1.get q.toNat with | mk y s2 =>
    rw [hgg] at inv
    rintro _ w ⟨rfl, h⟩
    dsimp only at h inv ⊢
    refine r_v (q_add rfl rfl) rfl ?_
    refine r_is (.int .u64 (summ least y : Nat)) (by rw [wrap_summ]) ?_
    have hstep : (gots ++ [y]).map (fun x => summ least x) = gots.map (fun x => summ least x) ++ [summ least y] := by simp
    refine r_c rfl (x_bslice (r := u64V [summ least y]) h rfl rfl rfl fun b2 w h => ?_)
    refine r_c rfl (x_append' (ys := u64V [summ least y]) (zs := u64V ((gots ++ [y]).map fun x => summ least x)) (m3 := ((gots ++ [y]).map fun x => summ least x).length) (h.f 2) rfl rfl ⟨rfl, .inr ⟨b2, 0, rfl, at_of (h.b 0 rfl) rfl⟩⟩ (u64V_one _) (by rw [hstep]; simp) (by rw [hstep]; simp [u64V]) (by rw [hstep]; simp; omega) (by rw [hstep]; simp; omega) rfl fun a2 c2 w _ h => ?_)
    refine r_v (q_assignS rfl) rfl ?_
    refine r_nil ?_
    refine c_seq (c_region ?_)
    refine r_v (q_moveP rfl) rfl ?_
    refine r_c rfl (x_call rfl (bits_Ok (h.f 2)) ?_)
    rintro _ w ⟨rfl, h⟩
    refine r_v (q_not rfl) rfl ?_
    refine r_nil ?_
    cases hbd : s2.bad with
    | true =>
      refine c_true rfl ?_
      refine c_seq (c_region ?_)
      refine r_v (q_assignS rfl) rfl ?_; refine r_v (q_assignB rfl) rfl ?_
      refine r_nil ?_
      rw [hbd, if_pos rfl] at inv
      exact c_ret (bq2 (Told.no (by rw [hdef, inv]; rfl) h.drop.drop.drop))
    | false =>
      refine c_false rfl (c_skip ?_)
      rw [hbd, if_neg (by decide), Option.map_map] at inv
      refine c_region ?_
      refine r_v (q_add rfl rfl) rfl ?_
      refine r_is (.int .i64 ((j + 1 : Nat) : Int)) (by rw [wrap64 (by omega) (by omega)]; rfl) ?_
      refine r_v (q_moveI rfl) rfl ?_
      refine r_nil ⟨(j + 1, gots ++ [y], s2, a2, c2), ⟨rfl, rfl, rfl, rfl, rfl, rfl, rfl, trivial⟩, ⟨hlt, by simp; omega, ?_, ?_⟩, by dsimp only; omega⟩
      · dsimp only
        rw [inv]
        congr 1
        funext r
        simp
      · exact ((h.f 2).drop.f 1)
  have hjn : j = n := by simp at hc1; omega
  rw [hjn, Nat.sub_self, getAll, Option.map_some, List.append_nil] at inv
  rw [inv] at hdef
  dsimp only at hdef
  have hml : (gots.map fun x => summ least x).length = n := by rw [List.length_map, hgl, hjn]
  have hmlt : ∀ x ∈ gots.map (fun x => summ least x), x < 18446744073709551616 := fun x hx => by
    obtain ⟨y, _, rfl⟩ := List.mem_map.1 hx
    exact Nat.mod_lt _ (by decide)
  generalize gots.map (fun x => summ least x) = out at hml hmlt hdef h ⊢
  refine c_exit ?_
  refine c_seq (c_seq (c_region ?_))
  refine r_v (q_moveS rfl) rfl ?_
  refine r_c rfl (x_call rfl (forp_Encode hmlt (by omega) Reads.own h) ?_)
  rintro _ w ⟨ea, ec, rfl, h⟩
  refine r_v (q_moveS rfl) rfl ?_
  refine r_c rfl (x_call rfl (bytes_Equal (b1 := frameEnc out) (b2 := bs) h (fun w' h' => h'.own_rd) (hr.more [_, _, _]).rd) ?_)
  rintro _ w ⟨rfl, h⟩
  refine r_v (q_not rfl) rfl ?_
  refine r_nil ?_
  refine c_cond (!decide (frameEnc out = bs)) rfl (fun hc2 => ?_) (fun hc2 => ?_)
  ·
    refine c_seq (c_region ?_)
    refine r_v (q_assignS rfl) rfl ?_; refine r_v (q_assignB rfl) rfl ?_
    refine r_nil ?_
    exact c_ret (bq2 (Told.no (by rw [hdef, if_neg (by simpa using hc2)]) h.drop.drop.drop))
  refine c_skip ?_
  refine c_seq (c_region ?_)
  refine r_v (q_moveS rfl) rfl ?_; refine r_v (q_assignS rfl) rfl ?_; refine r_v (q_assignB rfl) rfl ?_
  refine r_nil ?_
  exact c_ret (bq2 ⟨oa, oc, out, true, rfl, by rw [hdef, if_pos (by simpa using hc2)]; rfl, fun _ => ⟨hml, hmlt⟩, (h.drop.f 1).drop⟩)
end
end Go.Proofs.YtjjacchnalemaaaDoor
