/- ephemerislaw10.SuitRough. -/
import Derived.Test.YtjjacchnalemaaaDoorAwake
import Derived.Test.YtjjacchnalemaaaDoorOset
namespace Go.Proofs.YtjjacchnalemaaaDoor
open Go.Hw
set_option maxHeartbeats 4000000
set_option maxRecDepth 100000
section
variable {w0 w : World} {l : List HProp}
theorem law10_SuitRough (hT : Tz w0) {st : Option Addr} {ct : Nat} {xs : List Int} {sv : Option Addr} {cv : Nat} {us_ : List Nat} (how a b : Int) (hx : ∀ x ∈ xs, I64 x) (hn : xs.length ≤ 9223372036854775807) (hrt : Reads w0 l 1 st xs.length (i64V xs))
    (hu : ∀ x ∈ us_, x < 18446744073709551616) (hnu : us_.length ≤ 9223372036854775807) (hrv : Reads w0 l 1 sv us_.length (u64V us_)) (h : St w0 l w) :
    Ret Tryd.prog 4 [.slice st xs.length ct, .slice sv us_.length cv, .int .i64 how, .int .i64 a, .int .i64 b] w fun v w' => v = .bool true ∧ St w0 l w' := by
  refine enter Tryd.func4 rfl Tryd.results4 Tryd.ntmps4 rfl ?_
  refine c_seq (c_region ?_)
  refine r_v (q_assignB rfl) rfl ?_
  refine r_nil ?_
  refine c_seq (c_region ?_)
  refine r_v (q_moveS rfl) rfl ?_; refine r_v (q_moveS rfl) rfl ?_; refine r_v (q_moveI rfl) rfl ?_
  refine r_c rfl (x_call rfl (law10_Row how hx hn hrt hu hnu hrv h) ?_)
  rintro _ w ⟨sa, sc, L, hL60, hwf, hris, rfl, h⟩
  refine r_v (q_assignS rfl) rfl ?_
  refine r_nil ?_
  have hrise : rising L = true := by unfold rising; rw [hris, Bool.true_and, decide_eq_true_eq]; omega
  refine c_seq (c_seq (c_region ?_))
  refine r_v (q_moveS rfl) rfl ?_; refine r_v (q_len rfl) rfl ?_; refine r_v (q_lss rfl rfl) rfl ?_
  refine r_nil ?_
  refine c_cond (decide ((L.length : Int) < 2)) rfl (fun hc => ?_) (fun hc => ?_)
  ·
    refine c_seq (c_region ?_)
    refine r_v (q_moveS rfl) rfl ?_
    refine r_c rfl (x_call rfl (suit_Rising (by omega) Reads.own h) ?_)
    rintro _ w ⟨rfl, h⟩
    rw [hrise]
    refine r_v (q_moveB rfl) rfl ?_; (first | refine r_gd rfl rfl ?_ | refine r_gn rfl rfl rfl ?_ | refine r_gu rfl rfl ?_ | refine r_gd rfl (by assumption) ?_ | refine r_gn rfl (by assumption) rfl ?_)
    refine r_c rfl (x_call rfl (law10_awake hT h) ?_)
    rintro _ w ⟨rfl, h⟩
    (first | refine r_v (q_pick1 rfl rfl rfl) rfl ?_ | refine r_v (q_pick0 rfl rfl rfl) rfl ?_ | refine r_v (q_pick1 rfl (by assumption) rfl) rfl ?_ | refine r_v (q_pick0 rfl (by assumption) rfl) rfl ?_ | refine r_v (q_pickB rfl rfl rfl) rfl ?_); refine r_v (q_assignB rfl) rfl ?_
    refine r_nil ?_
    exact c_ret (bq1 ⟨rfl, h.drop⟩)
  have h2 : 2 ≤ L.length := by simp at hc; omega
  refine c_skip ?_
  obtain ⟨a0, ha0⟩ := Int.eq_ofNat_of_zero_le (show 0 ≤ a % 2 ^ 8 by omega)
  obtain ⟨b0, hb0⟩ := Int.eq_ofNat_of_zero_le (show 0 ≤ b % 2 ^ 8 by omega)
  refine c_cut (Γ := Nat × Nat) (fun k => [(3, .int .i64 k.1), (4, .int .i64 k.2), (11, .slice sa L.length sc)]) (fun k w => k.1 < L.length ∧ k.2 < L.length ∧ St w0 (OwnS sa sc L :: l) w) ?_ ?_
  · refine c_anyR [0, 1, 2, 3, 4, 8, 9, 5, 6, 10, 7, 11] none (fun w => St w0 _ w) (by kernel_rfl) (by kernel_rfl) h.drew fun w h => ?_
    refine cur_pure rfl rfl rfl rfl (fun _ => h) (fun _ => flt_v rfl (q_moveI rfl)) ?_
    refine cur_pure rfl rfl rfl rfl (fun _ => h) (fun _ => flt_v rfl (q_is (v' := .int .i64 (a0 : Int)) (q_and rfl rfl) (congrArg (Value.int .i64) ((and_mask 8 (by decide) (by decide)).trans ha0)))) ?_
    refine cur_pure rfl rfl rfl rfl (fun _ => h) (fun _ => flt_v rfl (q_moveS rfl)) ?_; refine cur_pure rfl rfl rfl rfl (fun _ => h) (fun _ => flt_v rfl (q_len rfl)) ?_
    refine cur_pure rfl rfl rfl rfl (fun _ => h) (fun _ => flt_v rfl (q_is (v' := .int .i64 ((a0 % L.length : Nat) : Int)) (q_rem rfl rfl (by omega)) (congrArg (Value.int .i64) (tmod_nat _ _)))) ?_
    refine cur_pure rfl rfl rfl rfl (fun _ => h) (fun _ => flt_v rfl (q_moveI rfl)) ?_
    refine cur_pure rfl rfl rfl rfl (fun _ => h) (fun _ => flt_v rfl (q_is (v' := .int .i64 (b0 : Int)) (q_and rfl rfl) (congrArg (Value.int .i64) ((and_mask 8 (by decide) (by decide)).trans hb0)))) ?_
    refine cur_pure rfl rfl rfl rfl (fun _ => h) (fun _ => flt_v rfl (q_moveS rfl)) ?_; refine cur_pure rfl rfl rfl rfl (fun _ => h) (fun _ => flt_v rfl (q_len rfl)) ?_
    refine cur_pure rfl rfl rfl rfl (fun _ => h) (fun _ => flt_v rfl (q_is (v' := .int .i64 ((b0 % L.length : Nat) : Int)) (q_rem rfl rfl (by omega)) (congrArg (Value.int .i64) (tmod_nat _ _)))) ?_
    refine cur_pure rfl rfl rfl rfl (fun _ => h) (fun _ => flt_v rfl (q_assignI rfl)) ?_; refine cur_pure rfl rfl rfl rfl (fun _ => h) (fun _ => flt_v rfl (q_assignI rfl)) ?_
    exact cur_end ⟨(a0 % L.length, b0 % L.length), ⟨rfl, rfl, rfl, trivial⟩, Nat.mod_lt _ (by omega), Nat.mod_lt _ (by omega), h⟩
  clear h
  rintro ⟨i, j⟩ w e ⟨hi, hj, h⟩
  dsimp only at hi hj h ⊢
  have hgi := List.getElem?_eq_getElem hi
  generalize L[i] = x at hgi
  have hgj := List.getElem?_eq_getElem hj
  generalize L[j] = y at hgj
  obtain ⟨bl, hlsl⟩ := h.own_some (by omega)
  subst hlsl
  refine c_cut (Γ := Unit) (fun _ => [(3, .int .i64 i), (4, .int .i64 j), (11, .slice (some ⟨bl, 0, none⟩) L.length sc)]) (fun _ w => St w0 (OwnS (some ⟨bl, 0, none⟩) sc ((L.set i y).set j x) :: l) w) ?_ ?_
  · refine c_anyR [0, 1, 12, 13, 2, 3, 4, 5, 6, 7, 8, 9, 10, 11, 14, 15] (some 13) (fun w => St w0 _ w) (by kernel_rfl) (by kernel_rfl) h.drew fun w h => ?_
    have hel : ∀ {w' : World}, St w0 (OwnS (some ⟨bl, 0, none⟩) sc L :: l) w' → ∀ {k : Nat} {s : Smp}, L[k]? = some s → At w' bl (k * 2) s.cells := fun h' k s hs => by
      have := (h'.own_rd).elem smp_len hs
      simpa using this
    refine cur_pure rfl rfl rfl rfl (fun _ => h) (fun _ => flt_v rfl (q_moveS rfl)) ?_; refine cur_pure rfl rfl rfl rfl (fun _ => h) (fun _ => flt_v rfl (q_moveI rfl)) ?_; refine cur_pure rfl rfl rfl rfl (fun _ => h) (fun _ => flt_v rfl (q_moveS rfl)) ?_; refine cur_pure rfl rfl rfl rfl (fun _ => h) (fun _ => flt_v rfl (q_moveI rfl)) ?_; refine cur_pure rfl rfl rfl rfl (fun _ => h) (fun _ => flt_v rfl (q_moveS rfl)) ?_; refine cur_pure rfl rfl rfl rfl (fun _ => h) (fun _ => flt_v rfl (q_moveI rfl)) ?_
    refine cur_pure rfl rfl rfl rfl (fun _ => h) (fun _ => flt_v rfl (q_idx (b := bl) (o := 0) (m := L.length) (c := sc) (o' := j * 2) rfl rfl rfl hj (by simp))) ?_
    refine cur_float rfl rfl rfl rfl h (fun w h => flt_v rfl (q_loadS (l := y.cells) rfl rfl (hel h hgj))) ?_
    refine cur_pure rfl rfl rfl rfl (fun _ => h) (fun _ => flt_v rfl (q_moveS rfl)) ?_; refine cur_pure rfl rfl rfl rfl (fun _ => h) (fun _ => flt_v rfl (q_moveI rfl)) ?_
    refine cur_pure rfl rfl rfl rfl (fun _ => h) (fun _ => flt_v rfl (q_idx (b := bl) (o := 0) (m := L.length) (c := sc) (o' := i * 2) rfl rfl rfl hi (by simp))) ?_
    refine cur_float rfl rfl rfl rfl h (fun w h => flt_v rfl (q_loadS (l := x.cells) rfl rfl (hel h hgi))) ?_
    refine cur_pure rfl rfl rfl rfl (fun _ => h) (fun _ => flt_v rfl (q_idx (b := bl) (o := 0) (m := L.length) (c := sc) (o' := i * 2) rfl rfl rfl hi (by simp))) ?_
    refine cur_skip ?_; refine cur_skip ?_; refine cur_skip ?_
    refine cur_step 13 (some 15) rfl rfl rfl rfl ?_
    refine x_ownsetA (vs := y.cells) h rfl rfl rfl (by rw [smp_len]; omega) rfl fun w h => ?_
    rw [flat_splice smp_len y L i hi] at h
    have hli : (L.set i y).length = L.length := List.length_set
    refine cur_from h ?_
    refine cur_pure rfl rfl rfl rfl (fun _ => h) (fun _ => flt_v rfl (q_idx (b := bl) (o := 0) (m := L.length) (c := sc) (o' := j * 2) rfl rfl rfl hj (by simp))) ?_
    refine cur_skip ?_
    refine cur_last 15 rfl rfl rfl ?_
    refine x_ownsetA (vs := x.cells) h rfl rfl rfl (by rw [smp_len]; omega) rfl fun w h => ?_
    rw [flat_splice smp_len x (L.set i y) j (by rw [hli]; exact hj)] at h
    refine ⟨(), ⟨rfl, rfl, rfl, trivial⟩, ?_⟩
    show St w0 (Own _ 2 _ ((L.set i y).set j x).length _ _ :: l) w
    rw [List.length_set, hli]
    exact h
  clear h
  rintro _ w e h
  have hset : ∀ {M : List Smp} {k : Nat} {s : Smp}, (∀ t ∈ M, t.Wf) → s.Wf → ∀ t ∈ M.set k s, t.Wf := fun hM hs t ht => by
    rcases List.mem_or_eq_of_mem_set ht with h | h
    · exact hM t h
    · rw [h]; exact hs
  have hxw := hwf x (List.mem_of_getElem? hgi)
  have hyw := hwf y (List.mem_of_getElem? hgj)
  refine c_cut (Γ := List Smp) (fun M => [(11, .slice (some ⟨bl, 0, none⟩) M.length sc)]) (fun M w => M.length = L.length ∧ rises M = false ∧ (∀ s ∈ M, s.Wf) ∧ St w0 (OwnS (some ⟨bl, 0, none⟩) sc M :: l) w) ?_ ?_
  · refine c_seq (c_region ?_)
    refine r_v (q_moveI rfl) rfl ?_; refine r_v (q_moveI rfl) rfl ?_; refine r_v (q_eql rfl rfl) rfl ?_
    by_cases hij : i = j
    · subst hij
      rw [hgi] at hgj; cases hgj
      have hsame : (L.set i x).set i x = L := by
        rw [List.set_set]
        apply List.ext_getElem?
        intro k
        rw [List.getElem?_set]
        split
        · rename_i hk; subst hk; rw [hgi]
        · rfl
      rw [hsame] at h
      have hk : (i + 1) % L.length < L.length := Nat.mod_lt _ (by omega)
      have hgk := List.getElem?_eq_getElem hk
      generalize L[(i + 1) % L.length] = z at hgk
      refine r_is (.bool true) (by simp) ?_
      refine r_nil (c_true rfl ?_)
      refine c_region ?_
      refine r_v (q_moveS rfl) rfl ?_; refine r_v (q_moveI rfl) rfl ?_; refine r_v (q_moveS rfl) rfl ?_; refine r_v (q_moveI rfl) rfl ?_; refine r_v (q_add rfl rfl) rfl ?_
      refine r_is (.int .i64 ((i + 1 : Nat) : Int)) (by rw [wrap64 (by omega) (by omega)]; rfl) ?_
      refine r_v (q_moveS rfl) rfl ?_; refine r_v (q_len rfl) rfl ?_
      refine r_v (q_is (v' := .int .i64 (((i + 1) % L.length : Nat) : Int)) (q_rem rfl rfl (by omega)) (congrArg (Value.int .i64) (tmod_nat _ _))) rfl ?_
      refine r_v (q_idx (b := bl) (o := 0) (m := L.length) (c := sc) (o' := (i + 1) % L.length * 2) rfl rfl rfl hk (by simp)) rfl ?_
      refine r_v (q_loadS (l := z.cells) rfl rfl (by have := (h.own_rd).elem smp_len hgk; simpa using this)) rfl ?_
      refine r_v (q_idx (b := bl) (o := 0) (m := L.length) (c := sc) (o' := i * 2) rfl rfl rfl hi (by simp)) rfl ?_
      refine r_c rfl (x_ownsetA (vs := z.cells) h rfl rfl rfl (by rw [smp_len]; omega) rfl fun w h => ?_)
      rw [flat_splice smp_len z L i hi] at h
      refine r_nil ⟨L.set i z, ⟨?_, trivial⟩, List.length_set, same_rough hi h2 hgk, hset hwf (hwf z (List.mem_of_getElem? hgk)), ?_⟩
      · show Value.slice _ L.length _ = _
        rw [List.length_set]
      · show St w0 (Own _ 2 _ (L.set i z).length _ _ :: l) w
        rw [List.length_set]
        exact h
    · refine r_is (.bool false) (by congr 1; rw [beq_eq_false_iff_ne]; omega) ?_
      refine r_nil (c_false rfl ?_)
      refine c_skip ⟨(L.set i y).set j x, ⟨?_, trivial⟩, by rw [List.length_set, List.length_set], swap_rough hris hgi hgj hij, hset (hset hwf hyw) hxw, h⟩
      show Value.slice _ L.length _ = _
      rw [List.length_set, List.length_set]
  clear h
  rintro M w e ⟨hML, hMr, hMw, h⟩
  have hMris : rising M = false := by unfold rising; rw [hMr]; rfl
  refine c_seq (c_region ?_)
  refine r_v (q_moveS rfl) rfl ?_
  refine r_c rfl (x_call rfl (suit_Best hT hMw (by omega) Reads.own h) ?_)
  rw [suitBest_rough hMr]
  rintro _ w ⟨ba, bc, rfl, h⟩
  replace h := h.drop
  show Rn _ _ _ _ _ (upd _ _ (.tuple [.int .i64 0, .slice ba 0 bc].toArray)) _
  refine r_v (q_moveT rfl) rfl ?_; refine r_v (q_ext rfl rfl) rfl ?_; refine r_v (q_ext rfl rfl) rfl ?_; refine r_v (q_assignI rfl) rfl ?_; refine r_v (q_assignS rfl) rfl ?_
  refine r_nil ?_
  refine c_seq (c_seq (c_region ?_))
  refine r_v (q_moveS rfl) rfl ?_
  refine r_c rfl (x_call rfl (suit_Rising (by omega) Reads.own h) ?_)
  rintro _ w ⟨rfl, h⟩
  rw [hMris]
  refine r_v (q_moveB rfl) rfl ?_; (first | refine r_gd rfl rfl ?_ | refine r_gn rfl rfl rfl ?_ | refine r_gu rfl rfl ?_ | refine r_gd rfl (by assumption) ?_ | refine r_gn rfl (by assumption) rfl ?_); refine r_v (q_moveI rfl) rfl ?_; (first | refine r_gd rfl rfl ?_ | refine r_gn rfl rfl rfl ?_ | refine r_gu rfl rfl ?_ | refine r_gd rfl (by assumption) ?_ | refine r_gn rfl (by assumption) rfl ?_); refine r_v (q_neq rfl rfl) rfl ?_; (first | refine r_v (q_pick1 rfl rfl rfl) rfl ?_ | refine r_v (q_pick0 rfl rfl rfl) rfl ?_ | refine r_v (q_pick1 rfl (by assumption) rfl) rfl ?_ | refine r_v (q_pick0 rfl (by assumption) rfl) rfl ?_ | refine r_v (q_pickB rfl rfl rfl) rfl ?_); refine r_v (q_moveB rfl) rfl ?_; (first | refine r_gd rfl rfl ?_ | refine r_gn rfl rfl rfl ?_ | refine r_gu rfl rfl ?_ | refine r_gd rfl (by assumption) ?_ | refine r_gn rfl (by assumption) rfl ?_); refine r_v (q_moveS rfl) rfl ?_; (first | refine r_gd rfl rfl ?_ | refine r_gn rfl rfl rfl ?_ | refine r_gu rfl rfl ?_ | refine r_gd rfl (by assumption) ?_ | refine r_gn rfl (by assumption) rfl ?_); refine r_v (q_len rfl) rfl ?_; (first | refine r_gd rfl rfl ?_ | refine r_gn rfl rfl rfl ?_ | refine r_gu rfl rfl ?_ | refine r_gd rfl (by assumption) ?_ | refine r_gn rfl (by assumption) rfl ?_); refine r_v (q_neq rfl rfl) rfl ?_; (first | refine r_v (q_pick1 rfl rfl rfl) rfl ?_ | refine r_v (q_pick0 rfl rfl rfl) rfl ?_ | refine r_v (q_pick1 rfl (by assumption) rfl) rfl ?_ | refine r_v (q_pick0 rfl (by assumption) rfl) rfl ?_ | refine r_v (q_pickB rfl rfl rfl) rfl ?_)
  refine r_nil (c_false rfl (c_skip ?_))
  refine c_seq (c_seq (c_region ?_))
  refine r_v (q_assignI rfl) rfl ?_
  refine r_nil ?_
  refine c_block ?_
  refine c_loop (Γ := Nat) (fun k => [(11, .slice (some ⟨bl, 0, none⟩) M.length sc), (14, .int .i64 ((k : Int) - 1))]) (fun k w => k ≤ 10 ∧ St w0 (OwnS (some ⟨bl, 0, none⟩) sc M :: l) w) (fun k => 10 - k) 0 ⟨rfl, rfl, trivial⟩ ⟨Nat.zero_le _, h⟩ ?_
  clear h
  rintro k w e ⟨hk, h⟩
  refine c_seq (c_seq (c_region ?_))
  refine r_v (q_moveI rfl) rfl ?_; refine r_v (q_leq rfl rfl) rfl ?_
  by_cases hlt : k < 10
  · refine r_is (.bool true) (by simp; omega) ?_
    refine r_nil (c_true rfl (c_skip ?_))
    refine c_seq (c_block ?_)
    refine c_seq (c_region ?_)
    refine r_v (q_moveI rfl) rfl ?_; refine r_v (q_moveS rfl) rfl ?_
    refine r_c rfl (x_call rfl (suit_Encode hT ((k : Int) - 1) hMw (by omega) Reads.own h) ?_)
    rw [suitEnc_rough hMr]
    rintro _ w ⟨ea, ec, rfl, h⟩
    replace h := h.drop
    show Rn _ _ _ _ _ (upd _ _ (.tuple [.slice ea 0 ec, .bool false].toArray)) _
    refine r_v (q_moveT rfl) rfl ?_; refine r_v (q_ext rfl rfl) rfl ?_; refine r_v (q_ext rfl rfl) rfl ?_; refine r_v (q_assignS rfl) rfl ?_; refine r_v (q_assignB rfl) rfl ?_
    refine r_nil ?_
    refine c_seq (c_region ?_)
    refine r_v (q_moveB rfl) rfl ?_; refine r_v (q_moveB rfl) rfl ?_; (first | refine r_gd rfl rfl ?_ | refine r_gn rfl rfl rfl ?_ | refine r_gu rfl rfl ?_ | refine r_gd rfl (by assumption) ?_ | refine r_gn rfl (by assumption) rfl ?_); refine r_v (q_moveS rfl) rfl ?_; (first | refine r_gd rfl rfl ?_ | refine r_gn rfl rfl rfl ?_ | refine r_gu rfl rfl ?_ | refine r_gd rfl (by assumption) ?_ | refine r_gn rfl (by assumption) rfl ?_); refine r_v (q_len rfl) rfl ?_; (first | refine r_gd rfl rfl ?_ | refine r_gn rfl rfl rfl ?_ | refine r_gu rfl rfl ?_ | refine r_gd rfl (by assumption) ?_ | refine r_gn rfl (by assumption) rfl ?_); refine r_v (q_neq rfl rfl) rfl ?_; (first | refine r_v (q_pick1 rfl rfl rfl) rfl ?_ | refine r_v (q_pick0 rfl rfl rfl) rfl ?_ | refine r_v (q_pick1 rfl (by assumption) rfl) rfl ?_ | refine r_v (q_pick0 rfl (by assumption) rfl) rfl ?_ | refine r_v (q_pickB rfl rfl rfl) rfl ?_)
    refine r_nil (c_false rfl (c_skip ?_))
    refine c_region ?_
    refine r_v (q_moveI rfl) rfl ?_; refine r_v (q_add rfl rfl) rfl ?_
    refine r_is (.int .i64 (((k + 1 : Nat) : Int) - 1)) (by rw [wrap64 (by omega) (by omega)]; congr 1; omega) ?_
    refine r_v (q_assignI rfl) rfl ?_
    exact r_nil ⟨k + 1, ⟨rfl, rfl, trivial⟩, ⟨hlt, h⟩, by omega⟩
  refine r_is (.bool false) (by simp; omega) ?_
  refine r_nil (c_false rfl ?_)
  refine c_exit ?_
  refine c_seq (c_region ?_)
  refine r_c rfl (x_call rfl (law10_awake hT h) ?_)
  rintro _ w ⟨rfl, h⟩
  refine r_v (q_assignB rfl) rfl ?_
  refine r_nil ?_
  exact c_ret (bq1 ⟨rfl, h.drop⟩)
end
end Go.Proofs.YtjjacchnalemaaaDoor
