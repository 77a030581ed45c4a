/- suit.Decode, out of what suit.read does. -/
import Derived.Test.YtjjacchnalemaaaDoorRow
import Derived.Test.YtjjacchnalemaaaDoorTimeD
namespace Go.Hw
theorem timesDecA_i64 : ∀ (k was step : Nat) (s : RS) (x : List Int × RS), timesDecA k was step s = some x → ∀ t ∈ x.1, I64 t
  | 0, _, _, _, x, h => by cases h; exact fun _ h => by cases h
  | k + 1, was, step, s, x, h => by
    rw [timesDecA] at h
    split at h
    · obtain ⟨y, h1, rfl⟩ := Option.map_eq_some_iff.1 h
      intro t ht
      rcases List.mem_cons.1 ht with rfl | ht
      · exact sg_wf (Nat.mod_lt _ (by decide))
      · exact timesDecA_i64 k _ _ _ y h1 t ht
    · cases h
theorem timesDec_i64 {n : Nat} {s : RS} {x : List Int × RS} (h : timesDec n s = some x) : ∀ t ∈ x.1, I64 t := by
  cases n with
  | zero => unfold timesDec at h; dsimp only at h; split at h <;> cases h; exact fun _ h => by cases h
  | succ k =>
    unfold timesDec at h; dsimp only at h; split at h
    · cases h
    · obtain ⟨y, h1, rfl⟩ := Option.map_eq_some_iff.1 h
      intro t ht
      rcases List.mem_cons.1 ht with rfl | ht
      · exact sg_wf (RS.get_lt s 64)
      · exact timesDecA_i64 k _ _ _ y h1 t ht
theorem zipS_len : ∀ (x : List Int) (v : List Nat), x.length = v.length → (zipS x v).length = x.length
  | [], _, _ => by simp [zipS]
  | _ :: _, [], h => by simp at h
  | t :: x, a :: v, h => by simp [zipS, zipS_len x v (by simpa using h)]
theorem zipS_wf : ∀ (x : List Int) (v : List Nat), (∀ t ∈ x, I64 t) → (∀ a ∈ v, a < 18446744073709551616) → ∀ s ∈ zipS x v, s.Wf
  | [], _, _, _, s, h => by simp [zipS] at h
  | _ :: _, [], _, _, s, h => by simp [zipS] at h
  | t :: x, a :: v, hx, hv, s, h => by
    rw [zipS] at h
    rcases List.mem_cons.1 h with rfl | h
    · exact ⟨hx t (List.mem_cons_self ..), by dsimp only; omega, by have := hv a (List.mem_cons_self ..); dsimp only; omega⟩
    · exact zipS_wf x v (fun y hy => hx y (List.mem_cons_of_mem _ hy)) (fun y hy => hv y (List.mem_cons_of_mem _ hy)) s h
theorem zipS_snoc : ∀ (x : List Int) (v : List Nat) (k : Nat) (t : Int) (a : Nat), x[k]? = some t → v[k]? = some a → zipS (x.take (k + 1)) (v.take (k + 1)) = zipS (x.take k) (v.take k) ++ [⟨t, a⟩]
  | [], _, _, _, _, h, _ => by simp at h
  | _ :: _, [], _, _, _, _, h => by simp at h
  | s :: x, b :: v, 0, t, a, h, h' => by simp at h h'; subst h; subst h'; simp [zipS]
  | s :: x, b :: v, k + 1, t, a, h, h' => by
    have := zipS_snoc x v k t a (by simpa using h) (by simpa using h')
    rw [List.take_succ_cons, List.take_succ_cons, zipS, this, List.take_succ_cons, List.take_succ_cons, zipS]
    rfl
theorem take_len1 {α : Type} {x : List α} {k : Nat} (h : k ≤ x.length) : (x.take k).length = k := by rw [List.length_take, Nat.min_eq_left h]
theorem conv_nat {x : Nat} (h : x ≤ 9223372036854775807) : IntKind.u64.wrap (x : Int) = (x : Int) := by
  unfold IntKind.wrap
  simp [IntKind.signed, IntKind.bits]
  omega
end Go.Hw
namespace Go.Proofs.YtjjacchnalemaaaDoor
open Go.Hw
set_option maxHeartbeats 4000000
set_option maxRecDepth 100000
section
variable {w0 w : World} {l : List HProp}
theorem askN_nat {n : Nat} (h : n ≤ 65535) : askN (n : Int) = n := by unfold askN; omega
theorem bytes_Equal {s1 s2 : Option Addr} {c1 c2 : Nat} {b1 b2 : List UInt8} (h : St w0 l w) (h1 : ∀ w', St w0 l w' → Rd w' 1 s1 b1.length (bytesV b1)) (h2 : ∀ w', St w0 l w' → Rd w' 1 s2 b2.length (bytesV b2)) :
    Ret Tryd.prog 50 [.slice s1 b1.length c1, .slice s2 b2.length c2] w fun v w' => v = .bool (decide (b1 = b2)) ∧ St w0 l w' := by
  refine enter Tryd.func50 rfl Tryd.results50 Tryd.ntmps50 rfl ?_
  refine c_seq (c_region ?_)
  refine r_v (q_assignB rfl) rfl ?_
  refine r_nil ?_
  refine c_seq (c_region ?_)
  refine r_v (q_moveS rfl) rfl ?_
  refine r_v (q_btos rfl (h1 _ h)) rfl ?_
  refine r_v (q_moveS rfl) rfl ?_
  refine r_v (q_btos rfl (h2 _ h)) rfl ?_
  refine r_v (q_streq rfl rfl) rfl ?_; refine r_v (q_assignB rfl) rfl ?_
  refine r_nil ?_
  refine c_ret (bq1 ⟨?_, h⟩)
  show Value.bool (b1.toArray.toList == b2.toArray.toList) = _
  congr 1
  rw [Bool.eq_iff_iff]
  simp

/-- What suit.read does of a codec's bytes. -/
def ReadOk (tag : Int) : Prop := ∀ {w0 w : World} {l : List HProp} {sl : Option Addr} {c : Nat} {bs : List UInt8} {n : Nat}, Tz w0 → Reads w0 l 1 sl bs.length (bytesV bs) → bs.length ≤ 140737488355328 → bs.length ≤ c → n ≤ 65535 → St w0 l w →
  Ret Tryd.prog 49 [.int .i64 tag, .slice sl bs.length c, .int .i64 (n : Int)] w fun v w' => ∃ a c' xs b, v = .tuple [.slice a xs.length c', .bool b].toArray ∧ valuesDec tag bs n = (if b = true then some xs else none) ∧ (b = true → xs.length = n ∧ ∀ x ∈ xs, x < 18446744073709551616) ∧ St w0 (OwnU a c' xs :: l) w'

theorem suit_Decode (hT : Tz w0) {tag : Int} (hread : ReadOk tag) {sl : Option Addr} {c : Nat} {bs : List UInt8} (n : Int) (hn : bs.length ≤ 140737488355328) (hc : bs.length ≤ c) (hr : Reads w0 l 1 sl bs.length (bytesV bs)) (h : St w0 l w) :
    Ret Tryd.prog 18 [.int .i64 tag, .slice sl bs.length c, .int .i64 n] w fun v w' => ∃ a c', v = .tuple [.slice a ((suitDec tag bs n).getD []).length c', .bool (suitDec tag bs n).isSome].toArray ∧ (∀ L, suitDec tag bs n = some L → (L.length : Int) = n ∧ ∀ s ∈ L, s.Wf) ∧ St w0 (OwnS a c' ((suitDec tag bs n).getD []) :: l) w' := by
  have hk := vget_le bs
  have hsz := vget_lt bs
  have hdef : suitDec tag bs n = _ := rfl
  conv at hdef => rhs; unfold suitDec
  refine enter Tryd.func18 rfl Tryd.results18 Tryd.ntmps18 rfl ?_
  refine c_seq (c_region ?_)
  refine r_v (q_assignS rfl) rfl ?_; refine r_v (q_assignB rfl) rfl ?_
  refine r_nil ?_
  refine c_seq (c_region ?_)
  refine r_v (q_moveS rfl) rfl ?_
  refine r_c rfl (x_call rfl (vint_Get h hr.rd hn) ?_)
  rintro _ w ⟨rfl, h⟩
  refine r_v (q_moveT rfl) rfl ?_; refine r_v (q_ext rfl rfl) rfl ?_; refine r_v (q_ext rfl rfl) rfl ?_; refine r_v (q_assignI rfl) rfl ?_; refine r_v (q_assignI rfl) rfl ?_
  refine r_nil ?_
  generalize (vget bs).1 = size at hsz hdef ⊢
  generalize (vget bs).2 = k at hk hdef ⊢
  refine c_cut (Γ := Unit) (fun _ => [(0, .int .i64 tag), (1, .slice sl bs.length c), (2, .int .i64 n), (8, .int .u64 size), (9, .int .i64 k)]) (fun _ w => (¬ (k = 0 ∨ n < 0 ∨ 65535 < n ∨ bs.length - k < size)) ∧ St w0 l w) ?_ ?_
  · refine c_seq (c_region ?_)
    have bad : ∀ {w : World}, (k = 0 ∨ n < 0 ∨ 65535 < n ∨ bs.length - k < size) → St w0 l w → ∃ a c', Value.tuple [.slice none 0 0, .bool false].toArray = .tuple [.slice a ((suitDec tag bs n).getD []).length c', .bool (suitDec tag bs n).isSome].toArray ∧ (∀ L, suitDec tag bs n = some L → (L.length : Int) = n ∧ ∀ s ∈ L, s.Wf) ∧ St w0 (OwnS a c' ((suitDec tag bs n).getD []) :: l) w := fun hb h => by
      rw [if_pos hb] at hdef
      rw [hdef]
      exact ⟨none, 0, rfl, (fun _ h => by cases h), St.ownNil _ _ h⟩
    by_cases g1 : k = 0
    · refine r_v (q_moveI rfl) rfl ?_
      refine r_v (q_is (v' := .bool true) (q_eql rfl rfl) (by rw [g1]; rfl)) rfl ?_
      refine r_v (q_moveB rfl) rfl ?_; (first | refine r_gd rfl rfl ?_ | refine r_gn rfl rfl rfl ?_ | refine r_gu rfl rfl ?_ | refine r_gd rfl (by assumption) ?_ | refine r_gn rfl (by assumption) rfl ?_); (first | refine r_gd rfl rfl ?_ | refine r_gn rfl rfl rfl ?_ | refine r_gu rfl rfl ?_ | refine r_gd rfl (by assumption) ?_ | refine r_gn rfl (by assumption) rfl ?_); (first | refine r_v (q_pick1 rfl rfl rfl) rfl ?_ | refine r_v (q_pick0 rfl rfl rfl) rfl ?_ | refine r_v (q_pick1 rfl (by assumption) rfl) rfl ?_ | refine r_v (q_pick0 rfl (by assumption) rfl) rfl ?_ | refine r_v (q_pickB rfl rfl rfl) rfl ?_); refine r_v (q_moveB rfl) rfl ?_; (first | refine r_gd rfl rfl ?_ | refine r_gn rfl rfl rfl ?_ | refine r_gu rfl rfl ?_ | refine r_gd rfl (by assumption) ?_ | refine r_gn rfl (by assumption) rfl ?_); (first | refine r_gd rfl rfl ?_ | refine r_gn rfl rfl rfl ?_ | refine r_gu rfl rfl ?_ | refine r_gd rfl (by assumption) ?_ | refine r_gn rfl (by assumption) rfl ?_); (first | refine r_v (q_pick1 rfl rfl rfl) rfl ?_ | refine r_v (q_pick0 rfl rfl rfl) rfl ?_ | refine r_v (q_pick1 rfl (by assumption) rfl) rfl ?_ | refine r_v (q_pick0 rfl (by assumption) rfl) rfl ?_ | refine r_v (q_pickB rfl rfl rfl) rfl ?_); refine r_v (q_moveB rfl) rfl ?_; (first | refine r_gd rfl rfl ?_ | refine r_gn rfl rfl rfl ?_ | refine r_gu rfl rfl ?_ | refine r_gd rfl (by assumption) ?_ | refine r_gn rfl (by assumption) rfl ?_); (first | refine r_gd rfl rfl ?_ | refine r_gn rfl rfl rfl ?_ | refine r_gu rfl rfl ?_ | refine r_gd rfl (by assumption) ?_ | refine r_gn rfl (by assumption) rfl ?_); (first | refine r_gd rfl rfl ?_ | refine r_gn rfl rfl rfl ?_ | refine r_gu rfl rfl ?_ | refine r_gd rfl (by assumption) ?_ | refine r_gn rfl (by assumption) rfl ?_); (first | refine r_gd rfl rfl ?_ | refine r_gn rfl rfl rfl ?_ | refine r_gu rfl rfl ?_ | refine r_gd rfl (by assumption) ?_ | refine r_gn rfl (by assumption) rfl ?_); (first | refine r_gd rfl rfl ?_ | refine r_gn rfl rfl rfl ?_ | refine r_gu rfl rfl ?_ | refine r_gd rfl (by assumption) ?_ | refine r_gn rfl (by assumption) rfl ?_); (first | refine r_gd rfl rfl ?_ | refine r_gn rfl rfl rfl ?_ | refine r_gu rfl rfl ?_ | refine r_gd rfl (by assumption) ?_ | refine r_gn rfl (by assumption) rfl ?_); (first | refine r_gd rfl rfl ?_ | refine r_gn rfl rfl rfl ?_ | refine r_gu rfl rfl ?_ | refine r_gd rfl (by assumption) ?_ | refine r_gn rfl (by assumption) rfl ?_); (first | refine r_v (q_pick1 rfl rfl rfl) rfl ?_ | refine r_v (q_pick0 rfl rfl rfl) rfl ?_ | refine r_v (q_pick1 rfl (by assumption) rfl) rfl ?_ | refine r_v (q_pick0 rfl (by assumption) rfl) rfl ?_ | refine r_v (q_pickB rfl rfl rfl) rfl ?_)
      refine r_nil (c_true rfl ?_)
      refine c_seq (c_region ?_)
      refine r_v (q_assignS rfl) rfl ?_; refine r_v (q_assignB rfl) rfl ?_
      exact r_nil (c_ret (bq2 (bad (.inl g1) h)))
    refine r_v (q_moveI rfl) rfl ?_
    refine r_v (q_is (v' := .bool false) (q_eql rfl rfl) (by congr 1; rw [beq_eq_false_iff_ne]; omega)) rfl ?_
    by_cases g2 : n < 0
    · refine r_v (q_moveB rfl) rfl ?_; (first | refine r_gd rfl rfl ?_ | refine r_gn rfl rfl rfl ?_ | refine r_gu rfl rfl ?_ | refine r_gd rfl (by assumption) ?_ | refine r_gn rfl (by assumption) rfl ?_); refine r_v (q_moveI rfl) rfl ?_; (first | refine r_gd rfl rfl ?_ | refine r_gn rfl rfl rfl ?_ | refine r_gu rfl rfl ?_ | refine r_gd rfl (by assumption) ?_ | refine r_gn rfl (by assumption) rfl ?_)
      refine r_v (q_is (v' := .bool true) (q_lss rfl rfl) (by congr 1; simpa using g2)) rfl ?_
      (first | refine r_v (q_pick1 rfl rfl rfl) rfl ?_ | refine r_v (q_pick0 rfl rfl rfl) rfl ?_ | refine r_v (q_pick1 rfl (by assumption) rfl) rfl ?_ | refine r_v (q_pick0 rfl (by assumption) rfl) rfl ?_ | refine r_v (q_pickB rfl rfl rfl) rfl ?_); refine r_v (q_moveB rfl) rfl ?_; (first | refine r_gd rfl rfl ?_ | refine r_gn rfl rfl rfl ?_ | refine r_gu rfl rfl ?_ | refine r_gd rfl (by assumption) ?_ | refine r_gn rfl (by assumption) rfl ?_); (first | refine r_gd rfl rfl ?_ | refine r_gn rfl rfl rfl ?_ | refine r_gu rfl rfl ?_ | refine r_gd rfl (by assumption) ?_ | refine r_gn rfl (by assumption) rfl ?_); (first | refine r_v (q_pick1 rfl rfl rfl) rfl ?_ | refine r_v (q_pick0 rfl rfl rfl) rfl ?_ | refine r_v (q_pick1 rfl (by assumption) rfl) rfl ?_ | refine r_v (q_pick0 rfl (by assumption) rfl) rfl ?_ | refine r_v (q_pickB rfl rfl rfl) rfl ?_); refine r_v (q_moveB rfl) rfl ?_; (first | refine r_gd rfl rfl ?_ | refine r_gn rfl rfl rfl ?_ | refine r_gu rfl rfl ?_ | refine r_gd rfl (by assumption) ?_ | refine r_gn rfl (by assumption) rfl ?_); (first | refine r_gd rfl rfl ?_ | refine r_gn rfl rfl rfl ?_ | refine r_gu rfl rfl ?_ | refine r_gd rfl (by assumption) ?_ | refine r_gn rfl (by assumption) rfl ?_); (first | refine r_gd rfl rfl ?_ | refine r_gn rfl rfl rfl ?_ | refine r_gu rfl rfl ?_ | refine r_gd rfl (by assumption) ?_ | refine r_gn rfl (by assumption) rfl ?_); (first | refine r_gd rfl rfl ?_ | refine r_gn rfl rfl rfl ?_ | refine r_gu rfl rfl ?_ | refine r_gd rfl (by assumption) ?_ | refine r_gn rfl (by assumption) rfl ?_); (first | refine r_gd rfl rfl ?_ | refine r_gn rfl rfl rfl ?_ | refine r_gu rfl rfl ?_ | refine r_gd rfl (by assumption) ?_ | refine r_gn rfl (by assumption) rfl ?_); (first | refine r_gd rfl rfl ?_ | refine r_gn rfl rfl rfl ?_ | refine r_gu rfl rfl ?_ | refine r_gd rfl (by assumption) ?_ | refine r_gn rfl (by assumption) rfl ?_); (first | refine r_gd rfl rfl ?_ | refine r_gn rfl rfl rfl ?_ | refine r_gu rfl rfl ?_ | refine r_gd rfl (by assumption) ?_ | refine r_gn rfl (by assumption) rfl ?_); (first | refine r_v (q_pick1 rfl rfl rfl) rfl ?_ | refine r_v (q_pick0 rfl rfl rfl) rfl ?_ | refine r_v (q_pick1 rfl (by assumption) rfl) rfl ?_ | refine r_v (q_pick0 rfl (by assumption) rfl) rfl ?_ | refine r_v (q_pickB rfl rfl rfl) rfl ?_)
      refine r_nil (c_true rfl ?_)
      refine c_seq (c_region ?_)
      refine r_v (q_assignS rfl) rfl ?_; refine r_v (q_assignB rfl) rfl ?_
      exact r_nil (c_ret (bq2 (bad (.inr (.inl g2)) h)))
    refine r_v (q_moveB rfl) rfl ?_; (first | refine r_gd rfl rfl ?_ | refine r_gn rfl rfl rfl ?_ | refine r_gu rfl rfl ?_ | refine r_gd rfl (by assumption) ?_ | refine r_gn rfl (by assumption) rfl ?_); refine r_v (q_moveI rfl) rfl ?_; (first | refine r_gd rfl rfl ?_ | refine r_gn rfl rfl rfl ?_ | refine r_gu rfl rfl ?_ | refine r_gd rfl (by assumption) ?_ | refine r_gn rfl (by assumption) rfl ?_)
    refine r_v (q_is (v' := .bool false) (q_lss rfl rfl) (by congr 1; simpa using g2)) rfl ?_
    by_cases g3 : 65535 < n
    · (first | refine r_v (q_pick1 rfl rfl rfl) rfl ?_ | refine r_v (q_pick0 rfl rfl rfl) rfl ?_ | refine r_v (q_pick1 rfl (by assumption) rfl) rfl ?_ | refine r_v (q_pick0 rfl (by assumption) rfl) rfl ?_ | refine r_v (q_pickB rfl rfl rfl) rfl ?_); refine r_v (q_moveB rfl) rfl ?_; (first | refine r_gd rfl rfl ?_ | refine r_gn rfl rfl rfl ?_ | refine r_gu rfl rfl ?_ | refine r_gd rfl (by assumption) ?_ | refine r_gn rfl (by assumption) rfl ?_); refine r_v (q_moveI rfl) rfl ?_; (first | refine r_gd rfl rfl ?_ | refine r_gn rfl rfl rfl ?_ | refine r_gu rfl rfl ?_ | refine r_gd rfl (by assumption) ?_ | refine r_gn rfl (by assumption) rfl ?_)
      refine r_v (q_is (v' := .bool true) (q_gtr rfl rfl) (by congr 1; simpa using g3)) rfl ?_
      (first | refine r_v (q_pick1 rfl rfl rfl) rfl ?_ | refine r_v (q_pick0 rfl rfl rfl) rfl ?_ | refine r_v (q_pick1 rfl (by assumption) rfl) rfl ?_ | refine r_v (q_pick0 rfl (by assumption) rfl) rfl ?_ | refine r_v (q_pickB rfl rfl rfl) rfl ?_); refine r_v (q_moveB rfl) rfl ?_; (first | refine r_gd rfl rfl ?_ | refine r_gn rfl rfl rfl ?_ | refine r_gu rfl rfl ?_ | refine r_gd rfl (by assumption) ?_ | refine r_gn rfl (by assumption) rfl ?_); (first | refine r_gd rfl rfl ?_ | refine r_gn rfl rfl rfl ?_ | refine r_gu rfl rfl ?_ | refine r_gd rfl (by assumption) ?_ | refine r_gn rfl (by assumption) rfl ?_); (first | refine r_gd rfl rfl ?_ | refine r_gn rfl rfl rfl ?_ | refine r_gu rfl rfl ?_ | refine r_gd rfl (by assumption) ?_ | refine r_gn rfl (by assumption) rfl ?_); (first | refine r_gd rfl rfl ?_ | refine r_gn rfl rfl rfl ?_ | refine r_gu rfl rfl ?_ | refine r_gd rfl (by assumption) ?_ | refine r_gn rfl (by assumption) rfl ?_); (first | refine r_gd rfl rfl ?_ | refine r_gn rfl rfl rfl ?_ | refine r_gu rfl rfl ?_ | refine r_gd rfl (by assumption) ?_ | refine r_gn rfl (by assumption) rfl ?_); (first | refine r_gd rfl rfl ?_ | refine r_gn rfl rfl rfl ?_ | refine r_gu rfl rfl ?_ | refine r_gd rfl (by assumption) ?_ | refine r_gn rfl (by assumption) rfl ?_); (first | refine r_gd rfl rfl ?_ | refine r_gn rfl rfl rfl ?_ | refine r_gu rfl rfl ?_ | refine r_gd rfl (by assumption) ?_ | refine r_gn rfl (by assumption) rfl ?_); (first | refine r_v (q_pick1 rfl rfl rfl) rfl ?_ | refine r_v (q_pick0 rfl rfl rfl) rfl ?_ | refine r_v (q_pick1 rfl (by assumption) rfl) rfl ?_ | refine r_v (q_pick0 rfl (by assumption) rfl) rfl ?_ | refine r_v (q_pickB rfl rfl rfl) rfl ?_)
      refine r_nil (c_true rfl ?_)
      refine c_seq (c_region ?_)
      refine r_v (q_assignS rfl) rfl ?_; refine r_v (q_assignB rfl) rfl ?_
      exact r_nil (c_ret (bq2 (bad (.inr (.inr (.inl g3))) h)))
    (first | refine r_v (q_pick1 rfl rfl rfl) rfl ?_ | refine r_v (q_pick0 rfl rfl rfl) rfl ?_ | refine r_v (q_pick1 rfl (by assumption) rfl) rfl ?_ | refine r_v (q_pick0 rfl (by assumption) rfl) rfl ?_ | refine r_v (q_pickB rfl rfl rfl) rfl ?_); refine r_v (q_moveB rfl) rfl ?_; (first | refine r_gd rfl rfl ?_ | refine r_gn rfl rfl rfl ?_ | refine r_gu rfl rfl ?_ | refine r_gd rfl (by assumption) ?_ | refine r_gn rfl (by assumption) rfl ?_); refine r_v (q_moveI rfl) rfl ?_; (first | refine r_gd rfl rfl ?_ | refine r_gn rfl rfl rfl ?_ | refine r_gu rfl rfl ?_ | refine r_gd rfl (by assumption) ?_ | refine r_gn rfl (by assumption) rfl ?_)
    refine r_v (q_is (v' := .bool false) (q_gtr rfl rfl) (by congr 1; simpa using g3)) rfl ?_
    (first | refine r_v (q_pick1 rfl rfl rfl) rfl ?_ | refine r_v (q_pick0 rfl rfl rfl) rfl ?_ | refine r_v (q_pick1 rfl (by assumption) rfl) rfl ?_ | refine r_v (q_pick0 rfl (by assumption) rfl) rfl ?_ | refine r_v (q_pickB rfl rfl rfl) rfl ?_); refine r_v (q_moveB rfl) rfl ?_; (first | refine r_gd rfl rfl ?_ | refine r_gn rfl rfl rfl ?_ | refine r_gu rfl rfl ?_ | refine r_gd rfl (by assumption) ?_ | refine r_gn rfl (by assumption) rfl ?_); refine r_v (q_moveI rfl) rfl ?_; (first | refine r_gd rfl rfl ?_ | refine r_gn rfl rfl rfl ?_ | refine r_gu rfl rfl ?_ | refine r_gd rfl (by assumption) ?_ | refine r_gn rfl (by assumption) rfl ?_); refine r_v (q_moveS rfl) rfl ?_; (first | refine r_gd rfl rfl ?_ | refine r_gn rfl rfl rfl ?_ | refine r_gu rfl rfl ?_ | refine r_gd rfl (by assumption) ?_ | refine r_gn rfl (by assumption) rfl ?_); refine r_v (q_len rfl) rfl ?_; (first | refine r_gd rfl rfl ?_ | refine r_gn rfl rfl rfl ?_ | refine r_gu rfl rfl ?_ | refine r_gd rfl (by assumption) ?_ | refine r_gn rfl (by assumption) rfl ?_); refine r_v (q_moveI rfl) rfl ?_; (first | refine r_gd rfl rfl ?_ | refine r_gn rfl rfl rfl ?_ | refine r_gu rfl rfl ?_ | refine r_gd rfl (by assumption) ?_ | refine r_gn rfl (by assumption) rfl ?_)
    refine r_v (q_is (v' := .int .i64 ((bs.length - k : Nat) : Int)) (q_sub rfl rfl) (by rw [wrap64 (by omega) (by omega)]; congr 1; omega)) rfl ?_
    refine r_gd rfl rfl ?_
    refine r_v (q_is (v' := .int .u64 ((bs.length - k : Nat) : Int)) (q_conv rfl) (congrArg (Value.int .u64) (conv_nat (by omega)))) rfl ?_
    (first | refine r_gd rfl rfl ?_ | refine r_gn rfl rfl rfl ?_ | refine r_gu rfl rfl ?_ | refine r_gd rfl (by assumption) ?_ | refine r_gn rfl (by assumption) rfl ?_); refine r_v (q_gtr rfl rfl) rfl ?_; (first | refine r_v (q_pick1 rfl rfl rfl) rfl ?_ | refine r_v (q_pick0 rfl rfl rfl) rfl ?_ | refine r_v (q_pick1 rfl (by assumption) rfl) rfl ?_ | refine r_v (q_pick0 rfl (by assumption) rfl) rfl ?_ | refine r_v (q_pickB rfl rfl rfl) rfl ?_)
    refine r_nil (c_cond (decide ((size : Int) > ((bs.length - k : Nat) : Int))) rfl (fun hc1 => ?_) (fun hc1 => ?_))
    ·
      refine c_seq (c_region ?_)
      refine r_v (q_assignS rfl) rfl ?_; refine r_v (q_assignB rfl) rfl ?_
      exact r_nil (c_ret (bq2 (bad (.inr (.inr (.inr (by simp at hc1; omega)))) h)))
    · exact c_skip ⟨(), ⟨rfl, rfl, rfl, rfl, rfl, trivial⟩, by simp at hc1; omega, h⟩
  clear h
  rintro _ w e ⟨hcond, h⟩
  rw [if_neg hcond] at hdef
  obtain ⟨n, rfl⟩ := Int.eq_ofNat_of_zero_le (show 0 ≤ n by omega)
  have hn16 : n ≤ 65535 := by omega
  have hsk : k + size ≤ bs.length := by omega
  rw [show ((n : Nat) : Int).toNat = n from rfl] at hdef
  refine c_seq (c_region ?_)
  refine r_v (q_moveI rfl) rfl ?_; refine r_v (q_moveI rfl) rfl ?_; refine r_v (q_conv rfl) rfl ?_
  refine r_is (.int .i64 (size : Int)) (by rw [wrap64 (by omega) (by omega)]) ?_
  refine r_v (q_add rfl rfl) rfl ?_
  refine r_is (.int .i64 ((k + size : Nat) : Int)) (by rw [wrap64 (by omega) (by omega)]; rfl) ?_
  refine r_v (q_assignI rfl) rfl ?_
  refine r_nil ?_
  refine c_seq (c_region ?_)
  refine r_v (q_moveS rfl) rfl ?_; refine r_v (q_moveI rfl) rfl ?_; refine r_v (q_moveI rfl) rfl ?_
  refine r_v (q_cut rfl rfl rfl (by omega) (by omega)) rfl ?_
  have hrc := Reads.cut hr (i := k) (j := k + size) (by omega) (by omega) hc
  have hpl : ((bs.drop k).take size).length = k + size - k := by rw [List.length_take, List.length_drop]; omega
  have hrc' : Reads w0 l 1 (adv sl (k * 1) (Nat.beq c k)) ((bs.drop k).take size).length (bytesV ((bs.drop k).take size)) := by
    rw [hpl]
    have : bytesV ((bs.drop k).take size) = ((bytesV bs).drop (k * 1)).take ((k + size - k) * 1) := by
      unfold bytesV
      rw [List.map_take, List.map_drop]
      congr 1
      · omega
      · congr 1; omega
    rw [this]
    exact hrc
  show Rn _ _ _ _ _ (upd _ _ (.slice (adv sl (k * 1) (Nat.beq c k)) (k + size - k) (c - k))) _
  rw [← hpl]
  refine r_c rfl (x_call rfl (bits_NewReader h hrc'.rd (by rw [hpl]; omega)) ?_)
  rintro _ w ⟨p, rfl, h⟩
  refine r_v (q_moveI rfl) rfl ?_
  refine r_c rfl (x_call rfl (time_Decode n h) ?_)
  rw [askN_nat hn16]
  intro v w hv
  have hv : ∃ a c' ts ok, v = .tuple [.slice a ts.length c', .bool ok].toArray ∧ (ok = true → ∃ s', timesDec n ⟨bitsB ((bs.drop k).take size), false⟩ = some (ts, s')) ∧ (ok = false → timesDec n ⟨bitsB ((bs.drop k).take size), false⟩ = none) ∧ ∃ s', St w0 (OwnT64 a c' ts :: IsBR p s' :: l) w := by
    rcases hv with ⟨h1, rfl, s', h⟩ | ⟨x, a, c', h1, rfl, h⟩
    · exact ⟨none, 0, [], false, rfl, (fun h => by cases h), fun _ => h1, s', St.ownNil _ _ h⟩
    · exact ⟨a, c', x.1, true, rfl, fun _ => ⟨x.2, h1⟩, (fun h => by cases h), x.2, h⟩
  clear h
  obtain ⟨ta, tc, ts, ok1, rfl, ht1, ht2, s', h⟩ := hv
  refine r_v (q_moveT rfl) rfl ?_; refine r_v (q_ext rfl rfl) rfl ?_; refine r_v (q_ext rfl rfl) rfl ?_; refine r_v (q_assignS rfl) rfl ?_; refine r_v (q_assignB rfl) rfl ?_
  refine r_nil ?_
  refine c_seq (c_region ?_)
  refine r_v (q_moveI rfl) rfl ?_; refine r_v (q_moveS rfl) rfl ?_; refine r_v (q_moveI rfl) rfl ?_
  refine r_v (q_tail (i := k + size) rfl rfl hsk) rfl ?_
  have hrt : Reads w0 l 1 (adv sl ((k + size) * 1) (Nat.beq c (k + size))) (bs.drop (k + size)).length (bytesV (bs.drop (k + size))) := by
    have := Reads.tail hr (i := k + size) hsk hc
    rw [List.length_drop]
    have e1 : bytesV (bs.drop (k + size)) = (bytesV bs).drop ((k + size) * 1) := by
      unfold bytesV
      rw [List.map_drop]
      congr 1; omega
    rw [e1]
    exact this
  show Rn _ _ _ _ _ (upd _ _ (.slice (adv sl ((k + size) * 1) (Nat.beq c (k + size))) (bs.length - (k + size)) (c - (k + size)))) _
  rw [← List.length_drop]
  refine r_v (q_moveI rfl) rfl ?_
  refine r_c rfl (x_call rfl (hread hT (hrt.more [_, _]) (by rw [List.length_drop]; omega) (by rw [List.length_drop]; omega) hn16 h) ?_)
  rintro _ w ⟨va, vc, vs, ok2, rfl, hv1, hv2, h⟩
  refine r_v (q_moveT rfl) rfl ?_; refine r_v (q_ext rfl rfl) rfl ?_; refine r_v (q_ext rfl rfl) rfl ?_; refine r_v (q_assignS rfl) rfl ?_; refine r_v (q_assignB rfl) rfl ?_
  refine r_nil ?_
  refine c_cut (Γ := Unit) (fun _ => [(0, .int .i64 tag), (1, .slice sl bs.length c), (2, .int .i64 n), (11, .slice ta ts.length tc), (13, .slice va vs.length vc)]) (fun _ w => ok1 = true ∧ ok2 = true ∧ St w0 (OwnU va vc vs :: OwnT64 ta tc ts :: IsBR p s' :: l) w) ?_ ?_
  · have bad : ∀ {w : World}, (ok1 = false ∨ ok2 = false) → St w0 (OwnU va vc vs :: OwnT64 ta tc ts :: IsBR p s' :: l) w → ∃ a c', Value.tuple [.slice none 0 0, .bool false].toArray = .tuple [.slice a ((suitDec tag bs n).getD []).length c', .bool (suitDec tag bs n).isSome].toArray ∧ (∀ L, suitDec tag bs n = some L → (L.length : Int) = n ∧ ∀ s ∈ L, s.Wf) ∧ St w0 (OwnS a c' ((suitDec tag bs n).getD []) :: l) w := fun hb h => by
      have : suitDec tag bs n = none := by
        rw [hdef]
        rcases hb with hb | hb
        · rw [ht2 hb]
        · rw [hb, if_neg (by decide)] at hv1
          rw [hv1]
          cases timesDec n ⟨bitsB ((bs.drop k).take size), false⟩ <;> rfl
      rw [this]
      exact ⟨none, 0, rfl, (fun _ h => by cases h), St.ownNil _ _ h.drop.drop.drop⟩
    refine c_seq (c_region ?_)
    cases ok1 with
    | false =>
      refine r_v (q_moveB rfl) rfl ?_; refine r_v (q_not rfl) rfl ?_; refine r_v (q_moveB rfl) rfl ?_; (first | refine r_gd rfl rfl ?_ | refine r_gn rfl rfl rfl ?_ | refine r_gu rfl rfl ?_ | refine r_gd rfl (by assumption) ?_ | refine r_gn rfl (by assumption) rfl ?_); (first | refine r_gd rfl rfl ?_ | refine r_gn rfl rfl rfl ?_ | refine r_gu rfl rfl ?_ | refine r_gd rfl (by assumption) ?_ | refine r_gn rfl (by assumption) rfl ?_); (first | refine r_v (q_pick1 rfl rfl rfl) rfl ?_ | refine r_v (q_pick0 rfl rfl rfl) rfl ?_ | refine r_v (q_pick1 rfl (by assumption) rfl) rfl ?_ | refine r_v (q_pick0 rfl (by assumption) rfl) rfl ?_ | refine r_v (q_pickB rfl rfl rfl) rfl ?_)
      refine r_nil (c_true rfl ?_)
      refine c_seq (c_region ?_)
      refine r_v (q_assignS rfl) rfl ?_; refine r_v (q_assignB rfl) rfl ?_
      exact r_nil (c_ret (bq2 (bad (.inl rfl) h)))
    | true =>
      refine r_v (q_moveB rfl) rfl ?_; refine r_v (q_not rfl) rfl ?_; refine r_v (q_moveB rfl) rfl ?_; (first | refine r_gd rfl rfl ?_ | refine r_gn rfl rfl rfl ?_ | refine r_gu rfl rfl ?_ | refine r_gd rfl (by assumption) ?_ | refine r_gn rfl (by assumption) rfl ?_); refine r_v (q_moveB rfl) rfl ?_; (first | refine r_gd rfl rfl ?_ | refine r_gn rfl rfl rfl ?_ | refine r_gu rfl rfl ?_ | refine r_gd rfl (by assumption) ?_ | refine r_gn rfl (by assumption) rfl ?_); refine r_v (q_not rfl) rfl ?_; (first | refine r_v (q_pick1 rfl rfl rfl) rfl ?_ | refine r_v (q_pick0 rfl rfl rfl) rfl ?_ | refine r_v (q_pick1 rfl (by assumption) rfl) rfl ?_ | refine r_v (q_pick0 rfl (by assumption) rfl) rfl ?_ | refine r_v (q_pickB rfl rfl rfl) rfl ?_)
      cases ok2 with
      | false =>
        refine r_nil (c_true rfl ?_)
        refine c_seq (c_region ?_)
        refine r_v (q_assignS rfl) rfl ?_; refine r_v (q_assignB rfl) rfl ?_
        exact r_nil (c_ret (bq2 (bad (.inr rfl) h)))
      | true =>
        refine r_nil (c_false rfl ?_)
        exact c_skip ⟨(), ⟨rfl, rfl, rfl, rfl, rfl, trivial⟩, rfl, rfl, h⟩
  clear h
  rintro _ w e ⟨rfl, rfl, h⟩
  obtain ⟨s2, ht⟩ := ht1 rfl
  obtain ⟨hvl, hvlt⟩ := hv2 rfl
  rw [if_pos rfl] at hv1
  rw [ht, hv1] at hdef
  dsimp only at hdef
  have htl : ts.length = n := timesDec_len ht
  have hti : ∀ t ∈ ts, I64 t := timesDec_i64 ht
  have hzl : (zipS ts vs).length = n := by rw [zipS_len _ _ (by omega), htl]
  have hzw := zipS_wf ts vs hti hvlt
  refine c_seq (c_region ?_)
  refine r_v (q_assignS rfl) rfl ?_
  refine r_nil ?_
  refine c_seq (c_seq (c_region ?_))
  refine r_v (q_moveI rfl) rfl ?_; refine r_v (q_moveI rfl) rfl ?_
  refine r_nil ?_
  refine c_block ?_
  refine c_loop (Γ := Nat × Option Addr × Nat) (fun k => [(0, .int .i64 tag), (1, .slice sl bs.length c), (11, .slice ta ts.length tc), (13, .slice va vs.length vc), (15, .slice k.2.1 (zipS (ts.take k.1) (vs.take k.1)).length k.2.2), (72, .int .i64 n), (73, .int .i64 k.1)])
    (fun k w => k.1 ≤ n ∧ St w0 (OwnS k.2.1 k.2.2 (zipS (ts.take k.1) (vs.take k.1)) :: OwnU va vc vs :: OwnT64 ta tc ts :: IsBR p s' :: l) w) (fun k => n - k.1) (0, none, 0) ⟨rfl, rfl, rfl, rfl, rfl, rfl, rfl, trivial⟩ ⟨Nat.zero_le _, St.ownNil _ _ h⟩ ?_
  clear h
  rintro ⟨i, a, c1⟩ w e ⟨hi, h⟩
  dsimp only at hi h ⊢
  refine c_seq (c_region ?_)
  refine r_v (q_lss rfl rfl) rfl ?_
  refine r_nil ?_
  refine c_seq (c_cond (decide ((i : Int) < (n : Int))) rfl (fun hc1 => ?_) (fun hc1 => ?_))
  ·
    have hlt : i < n := by simp at hc1; omega
    have hgt := List.getElem?_eq_getElem (show i < ts.length by omega)
    generalize ts[i]'(by omega) = t at hgt
    have hgv := List.getElem?_eq_getElem (show i < vs.length by omega)
    generalize vs[i]'(by omega) = x at hgv
    have hstep := zipS_snoc ts vs i t x hgt hgv
    have hzi : (zipS (ts.take i) (vs.take i)).length = i := by rw [zipS_len _ _ (by rw [take_len1 (by omega), take_len1 (by omega)]), take_len1 (by omega)]
    obtain ⟨bt, htsl⟩ := (h.f 2).own_some (by omega)
    obtain ⟨bv, hvsl⟩ := (h.f 1).own_some (by omega)
    refine c_skip ?_
    refine c_cut (Γ := Option Addr × Nat) (fun q => [(0, .int .i64 tag), (1, .slice sl bs.length c), (11, .slice ta ts.length tc), (13, .slice va vs.length vc), (15, .slice q.1 (zipS (ts.take (i + 1)) (vs.take (i + 1))).length q.2), (72, .int .i64 n), (73, .int .i64 i)])
      (fun q w => St w0 (OwnS q.1 q.2 (zipS (ts.take (i + 1)) (vs.take (i + 1))) :: OwnU va vc vs :: OwnT64 ta tc ts :: IsBR p s' :: l) w) ?_ ?_
    · refine c_block ?_
      refine c_seq (c_region ?_)
      refine r_v (q_moveI rfl) rfl ?_; refine r_v (q_assignI rfl) rfl ?_
      refine r_nil ?_
      have hct : ∀ {w'}, (∃ L, St w0 (L ++ (OwnU va vc vs :: OwnT64 ta tc ts :: IsBR p s' :: l)) w') → w'.cell? ⟨bt, i, none⟩ = some (.int .i64 t) := fun ⟨L, h'⟩ => by
        have := (htsl ▸ (h'.drops.f 1).own_rd).cell (i64V_get hgt); simpa using this
      have hcv : ∀ {w'}, (∃ L, St w0 (L ++ (OwnU va vc vs :: OwnT64 ta tc ts :: IsBR p s' :: l)) w') → w'.cell? ⟨bv, i, none⟩ = some (.int .u64 x) := fun ⟨L, h'⟩ => by
        have := (hvsl ▸ (h'.drops.f 0).own_rd).cell (u64V_get hgv); simpa using this
      refine c_anyW [0, 1, 2, 3, 4, 5, 6, 7, 8, 9, 10, 11, 12] none (fun w => ∃ L, St w0 (L ++ (OwnU va vc vs :: OwnT64 ta tc ts :: IsBR p s' :: l)) w) (by kernel_rfl) (by kernel_rfl) ?_
      replace h := h.drew
      generalize w.drew = w at h
      have hs := h
      replace h : ∃ L, St w0 (L ++ (OwnU va vc vs :: OwnT64 ta tc ts :: IsBR p s' :: l)) w := ⟨[_], hs⟩
      refine cur_pure rfl rfl rfl rfl (fun _ => h) (fun _ => flt_v rfl (q_moveS rfl)) ?_; refine cur_pure rfl rfl rfl rfl (fun _ => h) (fun _ => flt_v rfl (q_moveS rfl)) ?_; refine cur_pure rfl rfl rfl rfl (fun _ => h) (fun _ => flt_v rfl (q_moveI rfl)) ?_
      refine cur_pure rfl rfl rfl rfl (fun _ => h) (fun _ => flt_v rfl (q_idx (b := bt) (o := 0) (m := ts.length) (c := tc) (j := i) (o' := i) (by rw [← htsl]; rfl) rfl rfl (by omega) (by simp))) ?_
      refine cur_float rfl rfl rfl rfl h (fun w h => flt_v rfl (q_loadc (v := .int .i64 t) rfl (hct h))) ?_
      refine cur_pure rfl rfl rfl rfl (fun _ => h) (fun _ => flt_v rfl (q_moveS rfl)) ?_; refine cur_pure rfl rfl rfl rfl (fun _ => h) (fun _ => flt_v rfl (q_moveI rfl)) ?_
      refine cur_pure rfl rfl rfl rfl (fun _ => h) (fun _ => flt_v rfl (q_idx (b := bv) (o := 0) (m := vs.length) (c := vc) (j := i) (o' := i) (by rw [← hvsl]; rfl) rfl rfl (by omega) (by simp))) ?_
      refine cur_float rfl rfl rfl rfl h (fun w h => flt_v rfl (q_loadc (v := .int .u64 x) rfl (hcv h))) ?_
      refine cur_pure rfl rfl rfl rfl (fun _ => h) (fun _ => flt_v rfl (q_build (r := (Smp.mk t x).cells) rfl)) ?_
      refine cur_skip ?_; refine cur_skip ?_; refine cur_skip ?_
      refine cur_one 10 rfl rfl rfl rfl ?_
      refine (x_bslice (r := smpsV [Smp.mk t x]) hs rfl rfl rfl fun b2 w hs => ?_)
      replace h : ∃ L, St w0 (L ++ (OwnU va vc vs :: OwnT64 ta tc ts :: IsBR p s' :: l)) w := ⟨[_, _], hs⟩
      refine ⟨fun _ => h, ?_⟩
      refine cur_skip ?_; refine cur_skip ?_
      refine cur_one 11 rfl rfl rfl rfl ?_
      refine (x_append' (ys := smpsV [Smp.mk t x]) (zs := smpsV (zipS (ts.take (i + 1)) (vs.take (i + 1)))) (m3 := (zipS (ts.take (i + 1)) (vs.take (i + 1))).length) (hs.f 1) rfl rfl ⟨rfl, .inr ⟨b2, 0, rfl, at_of (hs.b 0 rfl) rfl⟩⟩ (smps_one _) (by rw [hstep]; simp) (by rw [hstep]; simp [smpsV]) (by rw [hstep]; simp; omega) (by rw [hstep]; simp; omega) rfl fun a2 c2 w _ hs => ?_)
      replace h : ∃ L, St w0 (L ++ (OwnU va vc vs :: OwnT64 ta tc ts :: IsBR p s' :: l)) w := ⟨[_, _], hs⟩
      refine ⟨fun _ => h, ?_⟩
      refine cur_pure rfl rfl rfl rfl (fun _ => h) (fun _ => flt_v rfl (q_assignS rfl)) ?_
      exact cur_end ⟨(a2, c2), ⟨rfl, rfl, rfl, rfl, rfl, rfl, rfl, trivial⟩, (hs.f 1).drop⟩
    clear h
    rintro ⟨a, c1⟩ w e h
    dsimp only at h ⊢
    refine c_region ?_
    refine r_v (q_add rfl rfl) rfl ?_
    refine r_is (.int .i64 ((i + 1 : Nat) : Int)) (by rw [wrap64 (by omega) (by omega)]; rfl) ?_
    refine r_v (q_moveI rfl) rfl ?_
    exact r_nil ⟨(i + 1, a, c1), ⟨rfl, rfl, rfl, rfl, rfl, rfl, rfl, trivial⟩, ⟨hlt, h⟩, by dsimp only; omega⟩
  have hin : i = n := by simp at hc1; omega
  refine c_exit ?_
  have hz : zipS (ts.take i) (vs.take i) = zipS ts vs := by rw [hin, List.take_of_length_le (by omega), List.take_of_length_le (by omega)]
  rw [hz] at h ⊢
  refine c_seq (c_region ?_)
  refine r_v (q_moveI rfl) rfl ?_; refine r_v (q_moveS rfl) rfl ?_
  refine r_c rfl (x_call rfl (suit_Encode hT tag hzw (by omega) Reads.own h) ?_)
  rintro _ w ⟨a2, c2, rfl, h⟩
  refine r_v (q_moveT rfl) rfl ?_; refine r_v (q_ext rfl rfl) rfl ?_; refine r_v (q_ext rfl rfl) rfl ?_; refine r_v (q_assignS rfl) rfl ?_; refine r_v (q_assignB rfl) rfl ?_
  refine r_nil ?_
  replace h : St w0 (OwnB a2 c2 ((suitEnc tag (zipS ts vs)).getD []) :: OwnS a c1 (zipS ts vs) :: l) w := (((h.f 2).drop.f 2).drop.f 2).drop
  have bad : ∀ {w : World}, suitEnc tag (zipS ts vs) ≠ some bs → St w0 l w → ∃ a c', Value.tuple [.slice none 0 0, .bool false].toArray = .tuple [.slice a ((suitDec tag bs n).getD []).length c', .bool (suitDec tag bs n).isSome].toArray ∧ (∀ L, suitDec tag bs n = some L → (L.length : Int) = n ∧ ∀ s ∈ L, s.Wf) ∧ St w0 (OwnS a c' ((suitDec tag bs n).getD []) :: l) w := fun hb h => by
    rw [if_neg hb] at hdef
    rw [hdef]
    exact ⟨none, 0, rfl, (fun _ h => by cases h), St.ownNil _ _ h⟩
  refine c_cut (Γ := Unit) (fun _ => [(15, .slice a (zipS ts vs).length c1)]) (fun _ w => suitEnc tag (zipS ts vs) = some bs ∧ St w0 (OwnS a c1 (zipS ts vs) :: l) w) ?_ ?_
  · refine c_seq (c_region ?_)
    cases hE : suitEnc tag (zipS ts vs) with
    | none =>
      rw [hE] at h
      refine r_v (q_moveB rfl) rfl ?_; refine r_v (q_not rfl) rfl ?_; refine r_v (q_moveB rfl) rfl ?_; (first | refine r_gd rfl rfl ?_ | refine r_gn rfl rfl rfl ?_ | refine r_gu rfl rfl ?_ | refine r_gd rfl (by assumption) ?_ | refine r_gn rfl (by assumption) rfl ?_); (first | refine r_gd rfl rfl ?_ | refine r_gn rfl rfl rfl ?_ | refine r_gu rfl rfl ?_ | refine r_gd rfl (by assumption) ?_ | refine r_gn rfl (by assumption) rfl ?_); (first | refine r_gd rfl rfl ?_ | refine r_gn rfl rfl rfl ?_ | refine r_gu rfl rfl ?_ | refine r_gd rfl (by assumption) ?_ | refine r_gn rfl (by assumption) rfl ?_); (first | refine r_gd rfl rfl ?_ | refine r_gn rfl rfl rfl ?_ | refine r_gu rfl rfl ?_ | refine r_gd rfl (by assumption) ?_ | refine r_gn rfl (by assumption) rfl ?_); (first | refine r_v (q_pick1 rfl rfl rfl) rfl ?_ | refine r_v (q_pick0 rfl rfl rfl) rfl ?_ | refine r_v (q_pick1 rfl (by assumption) rfl) rfl ?_ | refine r_v (q_pick0 rfl (by assumption) rfl) rfl ?_ | refine r_v (q_pickB rfl rfl rfl) rfl ?_)
      refine r_nil (c_true rfl ?_)
      refine c_seq (c_region ?_)
      refine r_v (q_assignS rfl) rfl ?_; refine r_v (q_assignB rfl) rfl ?_
      exact r_nil (c_ret (bq2 (bad (by rw [hE]; simp) h.drop.drop)))
    | some d =>
      rw [hE] at h
      refine r_v (q_moveB rfl) rfl ?_; refine r_v (q_not rfl) rfl ?_; refine r_v (q_moveB rfl) rfl ?_; (first | refine r_gd rfl rfl ?_ | refine r_gn rfl rfl rfl ?_ | refine r_gu rfl rfl ?_ | refine r_gd rfl (by assumption) ?_ | refine r_gn rfl (by assumption) rfl ?_); refine r_v (q_moveS rfl) rfl ?_; (first | refine r_gd rfl rfl ?_ | refine r_gn rfl rfl rfl ?_ | refine r_gu rfl rfl ?_ | refine r_gd rfl (by assumption) ?_ | refine r_gn rfl (by assumption) rfl ?_); refine r_v (q_moveS rfl) rfl ?_; (first | refine r_gd rfl rfl ?_ | refine r_gn rfl rfl rfl ?_ | refine r_gu rfl rfl ?_ | refine r_gd rfl (by assumption) ?_ | refine r_gn rfl (by assumption) rfl ?_)
      refine r_c rfl (x_call rfl (bytes_Equal (b1 := d) (b2 := bs) h (fun w' h' => h'.own_rd) ((hr.more [_, _]).rd)) ?_)
      rintro _ w ⟨rfl, h⟩
      (first | refine r_gd rfl rfl ?_ | refine r_gn rfl rfl rfl ?_ | refine r_gu rfl rfl ?_ | refine r_gd rfl (by assumption) ?_ | refine r_gn rfl (by assumption) rfl ?_); refine r_v (q_not rfl) rfl ?_; (first | refine r_v (q_pick1 rfl rfl rfl) rfl ?_ | refine r_v (q_pick0 rfl rfl rfl) rfl ?_ | refine r_v (q_pick1 rfl (by assumption) rfl) rfl ?_ | refine r_v (q_pick0 rfl (by assumption) rfl) rfl ?_ | refine r_v (q_pickB rfl rfl rfl) rfl ?_)
      refine r_nil (c_cond (!decide (d = bs)) rfl (fun hc1 => ?_) (fun hc1 => ?_))
      · refine c_seq (c_region ?_)
        refine r_v (q_assignS rfl) rfl ?_; refine r_v (q_assignB rfl) rfl ?_
        exact r_nil (c_ret (bq2 (bad (by rw [hE]; simpa using hc1) h.drop.drop)))
      · exact c_skip ⟨(), ⟨rfl, trivial⟩, by simpa using hc1, h.drop⟩
  clear h
  rintro _ w e ⟨hE, h⟩
  rw [if_pos hE] at hdef
  rw [hdef]
  refine c_seq (c_region ?_)
  refine r_v (q_moveS rfl) rfl ?_; refine r_v (q_assignS rfl) rfl ?_; refine r_v (q_assignB rfl) rfl ?_
  refine r_nil ?_
  refine c_ret (bq2 ⟨a, c1, rfl, fun L hL => ?_, h⟩)
  cases hL
  exact ⟨by rw [hzl], hzw⟩
end
end Go.Proofs.YtjjacchnalemaaaDoor
