/- ephemerislaw12.WorkMixed. -/
import Derived.Test.YtjjacchnalemaaaDoorLaw12
namespace Go.Proofs.YtjjacchnalemaaaDoor
open Go.Hw
set_option maxHeartbeats 4000000
set_option maxRecDepth 100000
section
variable {w0 w : World} {l : List HProp}
theorem law12_WorkMixed (hT : Tz w0) {st : Option Addr} {ct : Nat} {xs : List Int} {sv : Option Addr} {cv : Nat} {us_ : List Nat} {sA : Option Addr} {cA : Nat} {xA : List Int} {sB : Option Addr} {cB : Nat} {xB : List Int} (how tag : Int)
    (hx : ∀ x ∈ xs, I64 x) (hn : xs.length ≤ 9223372036854775807) (hrt : Reads w0 l 1 st xs.length (i64V xs))
    (hu : ∀ x ∈ us_, x < 18446744073709551616) (hnu : us_.length ≤ 9223372036854775807) (hrv : Reads w0 l 1 sv us_.length (u64V us_))
    (hnA : xA.length ≤ 9223372036854775807) (hrA : Reads w0 l 1 sA xA.length (i64V xA)) (hnB : xB.length ≤ 9223372036854775807) (hrB : Reads w0 l 1 sB xB.length (i64V xB)) (h : St w0 l w) :
    Ret Tryd.prog 10 [.slice st xs.length ct, .slice sv us_.length cv, .int .i64 how, .int .i64 tag, .slice sA xA.length cA, .slice sB xB.length cB] w fun v w' => v = .bool true ∧ St w0 l w' := by
  refine enter Tryd.func10 rfl Tryd.results10 Tryd.ntmps10 rfl ?_
  refine c_seq (c_region ?_)
  refine r_v (q_assignB rfl) rfl ?_
  refine r_nil ?_
  refine c_seq (c_region ?_)
  refine r_v (q_moveS rfl) rfl ?_; refine r_v (q_moveS rfl) rfl ?_; refine r_v (q_moveI rfl) rfl ?_
  refine r_c rfl (x_call rfl (law10_Row how hx hn hrt hu hnu hrv h) ?_)
  rintro _ w ⟨sa, sc, L, hL60, hwf, hris, rfl, h⟩
  refine r_v (q_assignS rfl) rfl ?_
  refine r_nil ?_
  have hrise : rising L = true := by unfold rising; rw [hris, Bool.true_and, decide_eq_true_eq]; omega
  obtain ⟨a0, ha0⟩ := Int.eq_ofNat_of_zero_le (show 0 ≤ tag % 2 ^ 8 by omega)
  have q1 : bitOp .and .i64 tag 255 = (a0 : Int) := (and_mask 8 (by decide) (by decide)).trans ha0
  have q2 : (a0 : Int).tmod 6 = ((a0 % 6 : Nat) : Int) := tmod_nat a0 6
  have q3 : IntKind.i64.wrap (((a0 % 6 : Nat) : Int) + 1) = ((a0 % 6 + 1 : Nat) : Int) := by rw [wrap64 (by omega) (by omega)]; rfl
  refine c_seq (c_region ?_)
  refine r_v (q_moveI rfl) rfl ?_
  refine r_v (q_is (v' := .int .i64 (a0 : Int)) (q_and rfl rfl) (congrArg (Value.int .i64) q1)) rfl ?_
  refine r_v (q_is (v' := .int .i64 ((a0 % 6 : Nat) : Int)) (q_rem rfl rfl (by decide)) (congrArg (Value.int .i64) q2)) rfl ?_
  refine r_v (q_is (v' := .int .i64 ((a0 % 6 + 1 : Nat) : Int)) (q_add rfl rfl) (congrArg (Value.int .i64) q3)) rfl ?_
  refine r_v (q_moveS rfl) rfl ?_
  have htg : 1 ≤ a0 % 6 + 1 ∧ a0 % 6 + 1 ≤ 6 := by omega
  refine r_c rfl (x_call rfl (work_NewEncoder ((a0 % 6 + 1 : Nat) : Int) (L := L) (by omega) Reads.own h) ?_)
  generalize a0 % 6 + 1 = tg at htg q3
  rintro _ w ⟨p, la, lc, rfl, h⟩
  refine r_v (q_assignP rfl) rfl ?_
  refine r_nil ?_
  refine c_seq (c_seq (c_region ?_))
  refine r_v (q_moveP rfl) rfl ?_; refine r_v (q_eqnil rfl rfl) rfl ?_
  refine r_nil (c_false rfl (c_skip ?_))
  generalize hM : chMake (tg : Int) L = M
  have hMl : (M.getD []).length ≤ 4000000 := by
    cases M with
    | none => exact Nat.zero_le _
    | some b => exact chMake_len2 hwf hM
  refine c_cut (Γ := WkS × Option Addr × Nat) (fun _ => [(3, .int .i64 tag), (5, .slice sB xB.length cB), (13, .slice sa L.length sc), (14, .pointer (some ⟨p, 0, none⟩))])
    (fun q w => q.1.ov = true ∧ q.1.bad = !M.isSome ∧ St w0 (EncPt p q.1 tg la L.length lc q.2.1 (M.getD []).length q.2.2 :: OwnB q.2.1 q.2.2 (M.getD []) :: OwnS la lc L :: OwnS sa sc L :: l) w) ?_ ?_
  · refine c_seq (c_region ?_)
    refine r_v (q_assignI rfl) rfl ?_
    refine r_nil ?_
    refine c_block ?_
    refine c_loop (Γ := Nat × Option (WkS × Option Addr × Nat)) (fun k => [(3, .int .i64 tag), (4, .slice sA xA.length cA), (5, .slice sB xB.length cB), (13, .slice sa L.length sc), (14, .pointer (some ⟨p, 0, none⟩)), (15, .int .i64 k.1)])
      (fun k w => k.1 ≤ 100 ∧ match k.2 with
        | none => k.1 = 0 ∧ St w0 (EncPt p ⟨false, false, 0, false⟩ tg la L.length lc none 0 0 :: OwnS la lc L :: OwnS sa sc L :: l) w
        | some q => q.1.bg = true ∧ q.1.ov = false ∧ q.1.bad = (!M.isSome) ∧ 0 < q.1.lf ∧ q.1.lf ≤ 60 - (k.1 : Int) ∧ St w0 (EncPt p q.1 tg la L.length lc q.2.1 (M.getD []).length q.2.2 :: OwnB q.2.1 q.2.2 (M.getD []) :: OwnS la lc L :: OwnS sa sc L :: l) w)
      (fun k => 100 - k.1) (0, none) ⟨rfl, rfl, rfl, rfl, rfl, rfl, trivial⟩ ⟨Nat.zero_le _, rfl, h⟩ ?_
    clear h
    rintro ⟨i, o⟩ w e ⟨hi, hq⟩
    dsimp only at hi hq ⊢
    refine c_seq (c_seq (c_region ?_))
    refine r_v (q_moveI rfl) rfl ?_; refine r_v (q_lss rfl rfl) rfl ?_
    by_cases hlt : i < 100
    · refine r_is (.bool true) (by simp; omega) ?_
      refine r_nil (c_true rfl (c_skip ?_))
      have hst : ∃ Q, St w0 (Q ++ l) w := by
        cases o with
        | none => exact ⟨[_, _, _], hq.2⟩
        | some q => exact ⟨[_, _, _, _], hq.2.2.2.2.2⟩
      refine c_seq (c_block ?_)
      refine c_seq (c_region ?_)
      refine r_v (q_assignI rfl) rfl ?_
      refine r_nil ?_
      refine c_cut (Γ := Int) (fun n => [(3, .int .i64 tag), (4, .slice sA xA.length cA), (5, .slice sB xB.length cB), (13, .slice sa L.length sc), (14, .pointer (some ⟨p, 0, none⟩)), (15, .int .i64 i), (16, .int .i64 n)]) (fun _ w' => w' = w) ?_ ?_
      · refine c_seq (c_region ?_)
        refine r_v (q_moveI rfl) rfl ?_; refine r_v (q_moveS rfl) rfl ?_; refine r_v (q_len rfl) rfl ?_; refine r_v (q_lss rfl rfl) rfl ?_
        refine r_nil (c_cond (decide ((i : Int) < (xA.length : Int))) rfl (fun hc => ?_) (fun hc => ?_))
        · have hiA : i < xA.length := by simp at hc; omega
          have hg := List.getElem?_eq_getElem hiA
          generalize xA[i] = z at hg
          obtain ⟨Q, hst⟩ := hst
          obtain ⟨b, o', hsl⟩ := (hrA Q _ hst).some (by omega)
          refine c_region ?_
          refine r_v (q_moveS rfl) rfl ?_; refine r_v (q_moveI rfl) rfl ?_
          refine r_v (q_idx (b := b) (o := o') (m := xA.length) (c := cA) (o' := o' + i) (by rw [← hsl]; rfl) rfl rfl hiA (by simp)) rfl ?_
          refine r_v (q_loadc (v := .int .i64 z) rfl ((hsl ▸ hrA Q _ hst).cell (i64V_get hg))) rfl ?_
          refine r_v (q_assignI rfl) rfl ?_
          exact r_nil ⟨z, ⟨rfl, rfl, rfl, rfl, rfl, rfl, rfl, trivial⟩, rfl⟩
        · exact c_skip ⟨1, ⟨rfl, rfl, rfl, rfl, rfl, rfl, rfl, trivial⟩, rfl⟩
      rintro n w' e rfl
      obtain ⟨hn1, hn2⟩ := clampN_le n
      refine c_cut (Γ := WkS × Option Addr × Nat) (fun q => [(3, .int .i64 tag), (4, .slice sA xA.length cA), (5, .slice sB xB.length cB), (13, .slice sa L.length sc), (14, .pointer (some ⟨p, 0, none⟩)), (15, .int .i64 i), (51, .bool (!q.1.more n))])
        (fun q w => q.1.bg = true ∧ q.1.ov = false ∧ q.1.bad = (!M.isSome) ∧ q.1.lf ≤ 60 - (i : Int) ∧ St w0 (EncPt p (q.1.step n) tg la L.length lc q.2.1 (M.getD []).length q.2.2 :: OwnB q.2.1 q.2.2 (M.getD []) :: OwnS la lc L :: OwnS sa sc L :: l) w) ?_ ?_
      · refine c_region ?_
        refine r_v (q_moveP rfl) rfl ?_; refine r_v (q_moveI rfl) rfl ?_
        cases o with
        | none =>
          obtain ⟨hi0, h⟩ := hq
          refine r_c rfl (x_call rfl (enc_Step0 hT n hwf (by omega) h) ?_)
          rw [hM]
          rintro _ w ⟨ba, bc, rfl, h⟩
          refine r_v (q_not rfl) rfl ?_
          refine r_nil ⟨(encBegin M L.length, ba, bc), ⟨rfl, rfl, rfl, rfl, rfl, rfl, rfl, trivial⟩, rfl, rfl, rfl, ?_, h⟩
          unfold encBegin
          dsimp only
          split <;> omega
        | some q =>
          obtain ⟨s, ba, bc⟩ := q
          obtain ⟨hg1, hg2, hg3, hg4, hg5, h⟩ := hq
          dsimp only at hg1 hg2 hg3 hg4 hg5 h
          refine r_c rfl (x_call rfl (enc_Step (s := s) n hg1 (by omega) h) ?_)
          rintro _ w ⟨rfl, h⟩
          refine r_v (q_not rfl) rfl ?_
          exact r_nil ⟨(s, ba, bc), ⟨rfl, rfl, rfl, rfl, rfl, rfl, rfl, trivial⟩, hg1, hg2, hg3, hg5, h⟩
      clear hq hst
      rintro ⟨s, ba, bc⟩ w e ⟨hg1, hg2, hg3, hg4, h⟩
      dsimp only at hg1 hg2 hg3 hg4 h ⊢
      cases hm : s.more n with
      | false =>
        refine c_true rfl ?_
        refine c_exit ⟨(s.step n, ba, bc), ⟨rfl, rfl, rfl, rfl, trivial⟩, WkS.more_false hg2 hm, hg3, h⟩
      | true =>
        obtain ⟨k1, k2, k3⟩ := WkS.more_true hg2 hm
        refine c_false rfl (c_skip ?_)
        refine c_region ?_
        refine r_v (q_moveI rfl) rfl ?_; refine r_v (q_add rfl rfl) rfl ?_
        refine r_is (.int .i64 ((i + 1 : Nat) : Int)) (by rw [wrap64 (by omega) (by omega)]; rfl) ?_
        refine r_v (q_assignI rfl) rfl ?_
        exact r_nil ⟨(i + 1, some (s.step n, ba, bc)), ⟨rfl, rfl, rfl, rfl, rfl, rfl, trivial⟩, ⟨hlt, hg1, k1, hg3, by dsimp only; omega, by dsimp only; omega, h⟩, by dsimp only; omega⟩
    · exfalso
      cases o with
      | none => have := hq.1; omega
      | some q => obtain ⟨_, _, _, g4, g5, _⟩ := hq; omega
  clear h
  rintro ⟨s, ba, bc⟩ w e ⟨hov, hbad, h⟩
  dsimp only at hov hbad h ⊢
  refine c_seq (c_region ?_)
  refine r_v (q_moveP rfl) rfl ?_
  refine r_c rfl (x_call rfl (enc_Done (bs := M.getD []) (by omega) h) ?_)
  rw [hov, hbad]
  cases M with
  | none =>
    have hno : L.length = 0 ∨ tg = 2 ∨ tg = 6 := by
      by_cases hk : (tg : Int) = 1 ∨ (tg : Int) = 3 ∨ (tg : Int) = 4 ∨ (tg : Int) = 5
      · obtain ⟨x, hxe⟩ := suitEnc_can hrise (by omega) hk
        left
        unfold chMake at hM
        rw [hxe] at hM
        dsimp only at hM
        split at hM
        · rename_i hh; rw [hh]; rfl
        · cases hM
      · right; omega
    rintro _ w ⟨ca, cc, rfl, h⟩
    replace h := h.drop
    show Rn _ _ _ _ _ (upd _ _ (.tuple [.slice ca 0 cc, .bool false].toArray)) _
    refine r_v (q_moveT rfl) rfl ?_; refine r_v (q_ext rfl rfl) rfl ?_; refine r_v (q_ext rfl rfl) rfl ?_; refine r_v (q_assignS rfl) rfl ?_; refine r_v (q_assignB rfl) rfl ?_
    refine r_nil ?_
    refine c_seq (c_seq (c_region ?_))
    refine r_v (q_moveB rfl) rfl ?_; refine r_v (q_not rfl) rfl ?_
    refine r_nil (c_true rfl ?_)
    refine c_seq (c_region ?_)
    refine r_v (q_moveP rfl) rfl ?_
    refine r_c rfl (x_call rfl (enc_Bad h) ?_)
    rw [hov, hbad]
    rintro _ w ⟨rfl, h⟩
    replace h : St w0 l w := h.drop.drop.drop.drop
    by_cases hl0 : L.length = 0
    · refine r_v (q_moveB rfl) rfl ?_; (first | refine r_gd rfl rfl ?_ | refine r_gn rfl rfl rfl ?_ | refine r_gu rfl rfl ?_ | refine r_gd rfl (by assumption) ?_ | refine r_gn rfl (by assumption) rfl ?_); refine r_v (q_moveS rfl) rfl ?_; (first | refine r_gd rfl rfl ?_ | refine r_gn rfl rfl rfl ?_ | refine r_gu rfl rfl ?_ | refine r_gd rfl (by assumption) ?_ | refine r_gn rfl (by assumption) rfl ?_); refine r_v (q_len rfl) rfl ?_; (first | refine r_gd rfl rfl ?_ | refine r_gn rfl rfl rfl ?_ | refine r_gu rfl rfl ?_ | refine r_gd rfl (by assumption) ?_ | refine r_gn rfl (by assumption) rfl ?_)
      refine r_v (q_is (v' := .bool true) (q_eql rfl rfl) (by rw [hl0]; rfl)) rfl ?_
      (first | refine r_gd rfl rfl ?_ | refine r_gn rfl rfl rfl ?_ | refine r_gu rfl rfl ?_ | refine r_gd rfl (by assumption) ?_ | refine r_gn rfl (by assumption) rfl ?_); refine r_v (q_moveB rfl) rfl ?_; (first | refine r_gd rfl rfl ?_ | refine r_gn rfl rfl rfl ?_ | refine r_gu rfl rfl ?_ | refine r_gd rfl (by assumption) ?_ | refine r_gn rfl (by assumption) rfl ?_); (first | refine r_gd rfl rfl ?_ | refine r_gn rfl rfl rfl ?_ | refine r_gu rfl rfl ?_ | refine r_gd rfl (by assumption) ?_ | refine r_gn rfl (by assumption) rfl ?_); (first | refine r_gd rfl rfl ?_ | refine r_gn rfl rfl rfl ?_ | refine r_gu rfl rfl ?_ | refine r_gd rfl (by assumption) ?_ | refine r_gn rfl (by assumption) rfl ?_); (first | refine r_gd rfl rfl ?_ | refine r_gn rfl rfl rfl ?_ | refine r_gu rfl rfl ?_ | refine r_gd rfl (by assumption) ?_ | refine r_gn rfl (by assumption) rfl ?_); (first | refine r_gd rfl rfl ?_ | refine r_gn rfl rfl rfl ?_ | refine r_gu rfl rfl ?_ | refine r_gd rfl (by assumption) ?_ | refine r_gn rfl (by assumption) rfl ?_); (first | refine r_gd rfl rfl ?_ | refine r_gn rfl rfl rfl ?_ | refine r_gu rfl rfl ?_ | refine r_gd rfl (by assumption) ?_ | refine r_gn rfl (by assumption) rfl ?_); (first | refine r_v (q_pick1 rfl rfl rfl) rfl ?_ | refine r_v (q_pick0 rfl rfl rfl) rfl ?_ | refine r_v (q_pick1 rfl (by assumption) rfl) rfl ?_ | refine r_v (q_pick0 rfl (by assumption) rfl) rfl ?_ | refine r_v (q_pickB rfl rfl rfl) rfl ?_); (first | refine r_gd rfl rfl ?_ | refine r_gn rfl rfl rfl ?_ | refine r_gu rfl rfl ?_ | refine r_gd rfl (by assumption) ?_ | refine r_gn rfl (by assumption) rfl ?_); refine r_v (q_moveB rfl) rfl ?_; (first | refine r_gd rfl rfl ?_ | refine r_gn rfl rfl rfl ?_ | refine r_gu rfl rfl ?_ | refine r_gd rfl (by assumption) ?_ | refine r_gn rfl (by assumption) rfl ?_); (first | refine r_gd rfl rfl ?_ | refine r_gn rfl rfl rfl ?_ | refine r_gu rfl rfl ?_ | refine r_gd rfl (by assumption) ?_ | refine r_gn rfl (by assumption) rfl ?_); (first | refine r_gd rfl rfl ?_ | refine r_gn rfl rfl rfl ?_ | refine r_gu rfl rfl ?_ | refine r_gd rfl (by assumption) ?_ | refine r_gn rfl (by assumption) rfl ?_); (first | refine r_gd rfl rfl ?_ | refine r_gn rfl rfl rfl ?_ | refine r_gu rfl rfl ?_ | refine r_gd rfl (by assumption) ?_ | refine r_gn rfl (by assumption) rfl ?_); (first | refine r_gd rfl rfl ?_ | refine r_gn rfl rfl rfl ?_ | refine r_gu rfl rfl ?_ | refine r_gd rfl (by assumption) ?_ | refine r_gn rfl (by assumption) rfl ?_); (first | refine r_gd rfl rfl ?_ | refine r_gn rfl rfl rfl ?_ | refine r_gu rfl rfl ?_ | refine r_gd rfl (by assumption) ?_ | refine r_gn rfl (by assumption) rfl ?_); (first | refine r_v (q_pick1 rfl rfl rfl) rfl ?_ | refine r_v (q_pick0 rfl rfl rfl) rfl ?_ | refine r_v (q_pick1 rfl (by assumption) rfl) rfl ?_ | refine r_v (q_pick0 rfl (by assumption) rfl) rfl ?_ | refine r_v (q_pickB rfl rfl rfl) rfl ?_); (first | refine r_v (q_pick1 rfl rfl rfl) rfl ?_ | refine r_v (q_pick0 rfl rfl rfl) rfl ?_ | refine r_v (q_pick1 rfl (by assumption) rfl) rfl ?_ | refine r_v (q_pick0 rfl (by assumption) rfl) rfl ?_ | refine r_v (q_pickB rfl rfl rfl) rfl ?_); refine r_v (q_moveB rfl) rfl ?_; (first | refine r_gd rfl rfl ?_ | refine r_gn rfl rfl rfl ?_ | refine r_gu rfl rfl ?_ | refine r_gd rfl (by assumption) ?_ | refine r_gn rfl (by assumption) rfl ?_)
      refine r_c rfl (x_call rfl (law12_awake hT h) ?_)
      rintro _ w ⟨rfl, h⟩
      (first | refine r_v (q_pick1 rfl rfl rfl) rfl ?_ | refine r_v (q_pick0 rfl rfl rfl) rfl ?_ | refine r_v (q_pick1 rfl (by assumption) rfl) rfl ?_ | refine r_v (q_pick0 rfl (by assumption) rfl) rfl ?_ | refine r_v (q_pickB rfl rfl rfl) rfl ?_); refine r_v (q_assignB rfl) rfl ?_
      refine r_nil ?_
      exact c_ret (bq1 ⟨rfl, h⟩)
    refine r_v (q_moveB rfl) rfl ?_; (first | refine r_gd rfl rfl ?_ | refine r_gn rfl rfl rfl ?_ | refine r_gu rfl rfl ?_ | refine r_gd rfl (by assumption) ?_ | refine r_gn rfl (by assumption) rfl ?_); refine r_v (q_moveS rfl) rfl ?_; (first | refine r_gd rfl rfl ?_ | refine r_gn rfl rfl rfl ?_ | refine r_gu rfl rfl ?_ | refine r_gd rfl (by assumption) ?_ | refine r_gn rfl (by assumption) rfl ?_); refine r_v (q_len rfl) rfl ?_; (first | refine r_gd rfl rfl ?_ | refine r_gn rfl rfl rfl ?_ | refine r_gu rfl rfl ?_ | refine r_gd rfl (by assumption) ?_ | refine r_gn rfl (by assumption) rfl ?_)
    refine r_v (q_is (v' := .bool false) (q_eql rfl rfl) (by congr 1; rw [beq_eq_false_iff_ne]; omega)) rfl ?_
    (first | refine r_gd rfl rfl ?_ | refine r_gn rfl rfl rfl ?_ | refine r_gu rfl rfl ?_ | refine r_gd rfl (by assumption) ?_ | refine r_gn rfl (by assumption) rfl ?_); refine r_v (q_moveB rfl) rfl ?_; (first | refine r_gd rfl rfl ?_ | refine r_gn rfl rfl rfl ?_ | refine r_gu rfl rfl ?_ | refine r_gd rfl (by assumption) ?_ | refine r_gn rfl (by assumption) rfl ?_); refine r_v (q_moveI rfl) rfl ?_; (first | refine r_gd rfl rfl ?_ | refine r_gn rfl rfl rfl ?_ | refine r_gu rfl rfl ?_ | refine r_gd rfl (by assumption) ?_ | refine r_gn rfl (by assumption) rfl ?_)
    refine r_v (q_is (v' := .int .i64 (a0 : Int)) (q_and rfl rfl) (congrArg (Value.int .i64) q1)) rfl ?_
    refine r_gd rfl rfl ?_
    refine r_v (q_is (v' := .int .i64 ((a0 % 6 : Nat) : Int)) (q_rem rfl rfl (by decide)) (congrArg (Value.int .i64) q2)) rfl ?_
    refine r_gd rfl rfl ?_
    refine r_v (q_is (v' := .int .i64 (tg : Int)) (q_add rfl rfl) (congrArg (Value.int .i64) q3)) rfl ?_
    refine r_gd rfl rfl ?_
    by_cases ht2 : tg = 2
    · refine r_v (q_is (v' := .bool true) (q_eql rfl rfl) (by rw [ht2]; rfl)) rfl ?_
      (first | refine r_gd rfl rfl ?_ | refine r_gn rfl rfl rfl ?_ | refine r_gu rfl rfl ?_ | refine r_gd rfl (by assumption) ?_ | refine r_gn rfl (by assumption) rfl ?_); (first | refine r_v (q_pick1 rfl rfl rfl) rfl ?_ | refine r_v (q_pick0 rfl rfl rfl) rfl ?_ | refine r_v (q_pick1 rfl (by assumption) rfl) rfl ?_ | refine r_v (q_pick0 rfl (by assumption) rfl) rfl ?_ | refine r_v (q_pickB rfl rfl rfl) rfl ?_); (first | refine r_gd rfl rfl ?_ | refine r_gn rfl rfl rfl ?_ | refine r_gu rfl rfl ?_ | refine r_gd rfl (by assumption) ?_ | refine r_gn rfl (by assumption) rfl ?_); refine r_v (q_moveB rfl) rfl ?_; (first | refine r_gd rfl rfl ?_ | refine r_gn rfl rfl rfl ?_ | refine r_gu rfl rfl ?_ | refine r_gd rfl (by assumption) ?_ | refine r_gn rfl (by assumption) rfl ?_); (first | refine r_gd rfl rfl ?_ | refine r_gn rfl rfl rfl ?_ | refine r_gu rfl rfl ?_ | refine r_gd rfl (by assumption) ?_ | refine r_gn rfl (by assumption) rfl ?_); (first | refine r_gd rfl rfl ?_ | refine r_gn rfl rfl rfl ?_ | refine r_gu rfl rfl ?_ | refine r_gd rfl (by assumption) ?_ | refine r_gn rfl (by assumption) rfl ?_); (first | refine r_gd rfl rfl ?_ | refine r_gn rfl rfl rfl ?_ | refine r_gu rfl rfl ?_ | refine r_gd rfl (by assumption) ?_ | refine r_gn rfl (by assumption) rfl ?_); (first | refine r_gd rfl rfl ?_ | refine r_gn rfl rfl rfl ?_ | refine r_gu rfl rfl ?_ | refine r_gd rfl (by assumption) ?_ | refine r_gn rfl (by assumption) rfl ?_); (first | refine r_gd rfl rfl ?_ | refine r_gn rfl rfl rfl ?_ | refine r_gu rfl rfl ?_ | refine r_gd rfl (by assumption) ?_ | refine r_gn rfl (by assumption) rfl ?_); (first | refine r_v (q_pick1 rfl rfl rfl) rfl ?_ | refine r_v (q_pick0 rfl rfl rfl) rfl ?_ | refine r_v (q_pick1 rfl (by assumption) rfl) rfl ?_ | refine r_v (q_pick0 rfl (by assumption) rfl) rfl ?_ | refine r_v (q_pickB rfl rfl rfl) rfl ?_); (first | refine r_v (q_pick1 rfl rfl rfl) rfl ?_ | refine r_v (q_pick0 rfl rfl rfl) rfl ?_ | refine r_v (q_pick1 rfl (by assumption) rfl) rfl ?_ | refine r_v (q_pick0 rfl (by assumption) rfl) rfl ?_ | refine r_v (q_pickB rfl rfl rfl) rfl ?_); refine r_v (q_moveB rfl) rfl ?_; (first | refine r_gd rfl rfl ?_ | refine r_gn rfl rfl rfl ?_ | refine r_gu rfl rfl ?_ | refine r_gd rfl (by assumption) ?_ | refine r_gn rfl (by assumption) rfl ?_)
      refine r_c rfl (x_call rfl (law12_awake hT h) ?_)
      rintro _ w ⟨rfl, h⟩
      (first | refine r_v (q_pick1 rfl rfl rfl) rfl ?_ | refine r_v (q_pick0 rfl rfl rfl) rfl ?_ | refine r_v (q_pick1 rfl (by assumption) rfl) rfl ?_ | refine r_v (q_pick0 rfl (by assumption) rfl) rfl ?_ | refine r_v (q_pickB rfl rfl rfl) rfl ?_); refine r_v (q_assignB rfl) rfl ?_
      refine r_nil ?_
      exact c_ret (bq1 ⟨rfl, h⟩)
    have ht6 : tg = 6 := by omega
    refine r_v (q_is (v' := .bool false) (q_eql rfl rfl) (by rw [ht6]; rfl)) rfl ?_
    (first | refine r_gd rfl rfl ?_ | refine r_gn rfl rfl rfl ?_ | refine r_gu rfl rfl ?_ | refine r_gd rfl (by assumption) ?_ | refine r_gn rfl (by assumption) rfl ?_); (first | refine r_v (q_pick1 rfl rfl rfl) rfl ?_ | refine r_v (q_pick0 rfl rfl rfl) rfl ?_ | refine r_v (q_pick1 rfl (by assumption) rfl) rfl ?_ | refine r_v (q_pick0 rfl (by assumption) rfl) rfl ?_ | refine r_v (q_pickB rfl rfl rfl) rfl ?_); (first | refine r_gd rfl rfl ?_ | refine r_gn rfl rfl rfl ?_ | refine r_gu rfl rfl ?_ | refine r_gd rfl (by assumption) ?_ | refine r_gn rfl (by assumption) rfl ?_); refine r_v (q_moveB rfl) rfl ?_; (first | refine r_gd rfl rfl ?_ | refine r_gn rfl rfl rfl ?_ | refine r_gu rfl rfl ?_ | refine r_gd rfl (by assumption) ?_ | refine r_gn rfl (by assumption) rfl ?_); refine r_v (q_moveI rfl) rfl ?_; (first | refine r_gd rfl rfl ?_ | refine r_gn rfl rfl rfl ?_ | refine r_gu rfl rfl ?_ | refine r_gd rfl (by assumption) ?_ | refine r_gn rfl (by assumption) rfl ?_)
    refine r_v (q_is (v' := .int .i64 (a0 : Int)) (q_and rfl rfl) (congrArg (Value.int .i64) q1)) rfl ?_
    refine r_gd rfl rfl ?_
    refine r_v (q_is (v' := .int .i64 ((a0 % 6 : Nat) : Int)) (q_rem rfl rfl (by decide)) (congrArg (Value.int .i64) q2)) rfl ?_
    refine r_gd rfl rfl ?_
    refine r_v (q_is (v' := .int .i64 (tg : Int)) (q_add rfl rfl) (congrArg (Value.int .i64) q3)) rfl ?_
    refine r_gd rfl rfl ?_
    refine r_v (q_is (v' := .bool true) (q_eql rfl rfl) (by rw [ht6]; rfl)) rfl ?_
    (first | refine r_gd rfl rfl ?_ | refine r_gn rfl rfl rfl ?_ | refine r_gu rfl rfl ?_ | refine r_gd rfl (by assumption) ?_ | refine r_gn rfl (by assumption) rfl ?_); (first | refine r_v (q_pick1 rfl rfl rfl) rfl ?_ | refine r_v (q_pick0 rfl rfl rfl) rfl ?_ | refine r_v (q_pick1 rfl (by assumption) rfl) rfl ?_ | refine r_v (q_pick0 rfl (by assumption) rfl) rfl ?_ | refine r_v (q_pickB rfl rfl rfl) rfl ?_); (first | refine r_v (q_pick1 rfl rfl rfl) rfl ?_ | refine r_v (q_pick0 rfl rfl rfl) rfl ?_ | refine r_v (q_pick1 rfl (by assumption) rfl) rfl ?_ | refine r_v (q_pick0 rfl (by assumption) rfl) rfl ?_ | refine r_v (q_pickB rfl rfl rfl) rfl ?_); refine r_v (q_moveB rfl) rfl ?_; (first | refine r_gd rfl rfl ?_ | refine r_gn rfl rfl rfl ?_ | refine r_gu rfl rfl ?_ | refine r_gd rfl (by assumption) ?_ | refine r_gn rfl (by assumption) rfl ?_)
    refine r_c rfl (x_call rfl (law12_awake hT h) ?_)
    rintro _ w ⟨rfl, h⟩
    (first | refine r_v (q_pick1 rfl rfl rfl) rfl ?_ | refine r_v (q_pick0 rfl rfl rfl) rfl ?_ | refine r_v (q_pick1 rfl (by assumption) rfl) rfl ?_ | refine r_v (q_pick0 rfl (by assumption) rfl) rfl ?_ | refine r_v (q_pickB rfl rfl rfl) rfl ?_); refine r_v (q_assignB rfl) rfl ?_
    refine r_nil ?_
    exact c_ret (bq1 ⟨rfl, h⟩)
  | some b =>
  have hopen := chOpen_told hwf (by have : b.length ≤ 4000000 := hMl; omega) hM
  have hdL : decL b = L := by unfold decL; rw [hopen]; rfl
  have hdB : decBegin b = ⟨true, false, L.length, false⟩ := by unfold decBegin; rw [hdL, hopen]; rfl
  have hbl : b.length ≤ 4000000 := hMl
  rintro _ w ⟨ca, cc, rfl, h⟩
  replace h : St w0 (OwnB ca cc b :: EncPt p s tg la L.length lc ba b.length bc :: OwnB ba bc b :: OwnS la lc L :: OwnS sa sc L :: l) w := h
  show Rn _ _ _ _ _ (upd _ _ (.tuple [.slice ca b.length cc, .bool true].toArray)) _
  refine r_v (q_moveT rfl) rfl ?_; refine r_v (q_ext rfl rfl) rfl ?_; refine r_v (q_ext rfl rfl) rfl ?_; refine r_v (q_assignS rfl) rfl ?_; refine r_v (q_assignB rfl) rfl ?_
  refine r_nil ?_
  refine c_seq (c_seq (c_region ?_))
  refine r_v (q_moveB rfl) rfl ?_; refine r_v (q_not rfl) rfl ?_
  refine r_nil (c_false rfl (c_skip ?_))
  refine c_seq (c_region ?_)
  refine r_v (q_moveS rfl) rfl ?_
  refine r_c rfl (x_call rfl (work_NewDecoder (bs := b) (by omega) Reads.own h) ?_)
  rintro _ w ⟨p2, b2, c2, rfl, h⟩
  replace h : St w0 (DecPt p2 ⟨false, false, 0, false⟩ b2 b.length c2 none 0 0 :: OwnB b2 c2 b :: EncPt p s tg la L.length lc ba b.length bc :: OwnS sa sc L :: l) w := ((((h.f 2).drop.f 3).drop.f 3).drop)
  refine r_v (q_assignP rfl) rfl ?_
  refine r_nil ?_
  refine c_seq (c_seq (c_region ?_))
  refine r_v (q_moveP rfl) rfl ?_; refine r_v (q_eqnil rfl rfl) rfl ?_
  refine r_nil (c_false rfl (c_skip ?_))
  refine c_cut (Γ := WkS × Option Addr × Nat) (fun _ => [(13, .slice sa L.length sc), (14, .pointer (some ⟨p, 0, none⟩)), (19, .pointer (some ⟨p2, 0, none⟩))])
    (fun q w => q.1.ov = true ∧ q.1.bad = false ∧ St w0 (DecPt p2 q.1 b2 b.length c2 q.2.1 L.length q.2.2 :: OwnS q.2.1 q.2.2 L :: OwnB b2 c2 b :: EncPt p s tg la L.length lc ba b.length bc :: OwnS sa sc L :: l) w) ?_ ?_
  · refine c_seq (c_region ?_)
    refine r_v (q_assignI rfl) rfl ?_
    refine r_nil ?_
    refine c_block ?_
    refine c_loop (Γ := Nat × Option (WkS × Option Addr × Nat)) (fun k => [(5, .slice sB xB.length cB), (13, .slice sa L.length sc), (14, .pointer (some ⟨p, 0, none⟩)), (19, .pointer (some ⟨p2, 0, none⟩)), (20, .int .i64 k.1)])
      (fun k w => k.1 ≤ 100 ∧ match k.2 with
        | none => k.1 = 0 ∧ St w0 (DecPt p2 ⟨false, false, 0, false⟩ b2 b.length c2 none 0 0 :: OwnB b2 c2 b :: EncPt p s tg la L.length lc ba b.length bc :: OwnS sa sc L :: l) w
        | some q => q.1.bg = true ∧ q.1.ov = false ∧ q.1.bad = false ∧ 0 < q.1.lf ∧ q.1.lf ≤ 60 - (k.1 : Int) ∧ St w0 (DecPt p2 q.1 b2 b.length c2 q.2.1 L.length q.2.2 :: OwnS q.2.1 q.2.2 L :: OwnB b2 c2 b :: EncPt p s tg la L.length lc ba b.length bc :: OwnS sa sc L :: l) w)
      (fun k => 100 - k.1) (0, none) ⟨rfl, rfl, rfl, rfl, rfl, trivial⟩ ⟨Nat.zero_le _, rfl, h⟩ ?_
    clear h
    rintro ⟨i, o⟩ w e ⟨hi, hq⟩
    dsimp only at hi hq ⊢
    refine c_seq (c_seq (c_region ?_))
    refine r_v (q_moveI rfl) rfl ?_; refine r_v (q_lss rfl rfl) rfl ?_
    by_cases hlt : i < 100
    · refine r_is (.bool true) (by simp; omega) ?_
      refine r_nil (c_true rfl (c_skip ?_))
      have hst : ∃ Q, St w0 (Q ++ l) w := by
        cases o with
        | none => exact ⟨[_, _, _, _], hq.2⟩
        | some q => exact ⟨[_, _, _, _, _], hq.2.2.2.2.2⟩
      refine c_seq (c_block ?_)
      refine c_seq (c_region ?_)
      refine r_v (q_assignI rfl) rfl ?_
      refine r_nil ?_
      refine c_cut (Γ := Int) (fun n => [(5, .slice sB xB.length cB), (13, .slice sa L.length sc), (14, .pointer (some ⟨p, 0, none⟩)), (19, .pointer (some ⟨p2, 0, none⟩)), (20, .int .i64 i), (21, .int .i64 n)]) (fun _ w' => w' = w) ?_ ?_
      · refine c_seq (c_region ?_)
        refine r_v (q_moveI rfl) rfl ?_; refine r_v (q_moveS rfl) rfl ?_; refine r_v (q_len rfl) rfl ?_; refine r_v (q_lss rfl rfl) rfl ?_
        refine r_nil (c_cond (decide ((i : Int) < (xB.length : Int))) rfl (fun hc => ?_) (fun hc => ?_))
        · have hiB : i < xB.length := by simp at hc; omega
          have hg := List.getElem?_eq_getElem hiB
          generalize xB[i] = z at hg
          obtain ⟨Q, hst⟩ := hst
          obtain ⟨bb, o', hsl⟩ := (hrB Q _ hst).some (by omega)
          refine c_region ?_
          refine r_v (q_moveS rfl) rfl ?_; refine r_v (q_moveI rfl) rfl ?_
          refine r_v (q_idx (b := bb) (o := o') (m := xB.length) (c := cB) (o' := o' + i) (by rw [← hsl]; rfl) rfl rfl hiB (by simp)) rfl ?_
          refine r_v (q_loadc (v := .int .i64 z) rfl ((hsl ▸ hrB Q _ hst).cell (i64V_get hg))) rfl ?_
          refine r_v (q_assignI rfl) rfl ?_
          exact r_nil ⟨z, ⟨rfl, rfl, rfl, rfl, rfl, rfl, trivial⟩, rfl⟩
        · exact c_skip ⟨1, ⟨rfl, rfl, rfl, rfl, rfl, rfl, trivial⟩, rfl⟩
      rintro n w' e rfl
      obtain ⟨hn1, hn2⟩ := clampN_le n
      refine c_cut (Γ := WkS × Option Addr × Nat) (fun q => [(5, .slice sB xB.length cB), (13, .slice sa L.length sc), (14, .pointer (some ⟨p, 0, none⟩)), (19, .pointer (some ⟨p2, 0, none⟩)), (20, .int .i64 i), (102, .bool (!q.1.more n))])
        (fun q w => q.1.bg = true ∧ q.1.ov = false ∧ q.1.bad = false ∧ q.1.lf ≤ 60 - (i : Int) ∧ St w0 (DecPt p2 (q.1.step n) b2 b.length c2 q.2.1 L.length q.2.2 :: OwnS q.2.1 q.2.2 L :: OwnB b2 c2 b :: EncPt p s tg la L.length lc ba b.length bc :: OwnS sa sc L :: l) w) ?_ ?_
      · refine c_region ?_
        refine r_v (q_moveP rfl) rfl ?_; refine r_v (q_moveI rfl) rfl ?_
        cases o with
        | none =>
          obtain ⟨hi0, h⟩ := hq
          refine r_c rfl (x_call rfl (dec_Step0 hT n (by omega) h) ?_)
          rw [hdB, hdL]
          rintro _ w ⟨l2, lc2, rfl, _, h⟩
          refine r_v (q_not rfl) rfl ?_
          exact r_nil ⟨(⟨true, false, L.length, false⟩, l2, lc2), ⟨rfl, rfl, rfl, rfl, rfl, rfl, trivial⟩, rfl, rfl, rfl, by dsimp only; omega, h⟩
        | some q =>
          obtain ⟨s', l2, lc2⟩ := q
          obtain ⟨hg1, hg2, hg3, hg4, hg5, h⟩ := hq
          dsimp only at hg1 hg2 hg3 hg4 hg5 h
          refine r_c rfl (x_call rfl (dec_Step (s := s') n hg1 (by omega) h) ?_)
          rintro _ w ⟨rfl, h⟩
          refine r_v (q_not rfl) rfl ?_
          exact r_nil ⟨(s', l2, lc2), ⟨rfl, rfl, rfl, rfl, rfl, rfl, trivial⟩, hg1, hg2, hg3, hg5, h⟩
      clear hq hst
      rintro ⟨s', l2, lc2⟩ w e ⟨hg1, hg2, hg3, hg4, h⟩
      dsimp only at hg1 hg2 hg3 hg4 h ⊢
      cases hm : s'.more n with
      | false =>
        refine c_true rfl ?_
        refine c_exit ⟨(s'.step n, l2, lc2), ⟨rfl, rfl, rfl, trivial⟩, WkS.more_false hg2 hm, hg3, h⟩
      | true =>
        obtain ⟨k1, k2, k3⟩ := WkS.more_true hg2 hm
        refine c_false rfl (c_skip ?_)
        refine c_region ?_
        refine r_v (q_moveI rfl) rfl ?_; refine r_v (q_add rfl rfl) rfl ?_
        refine r_is (.int .i64 ((i + 1 : Nat) : Int)) (by rw [wrap64 (by omega) (by omega)]; rfl) ?_
        refine r_v (q_assignI rfl) rfl ?_
        exact r_nil ⟨(i + 1, some (s'.step n, l2, lc2)), ⟨rfl, rfl, rfl, rfl, rfl, trivial⟩, ⟨hlt, hg1, k1, hg3, by dsimp only; omega, by dsimp only; omega, h⟩, by dsimp only; omega⟩
    · exfalso
      cases o with
      | none => have := hq.1; omega
      | some q => obtain ⟨_, _, _, g4, g5, _⟩ := hq; omega
  clear h
  rintro ⟨s', l2, lc2⟩ w e ⟨hov2, hbad2, h⟩
  dsimp only at hov2 hbad2 h ⊢
  refine c_seq (c_region ?_)
  refine r_v (q_moveP rfl) rfl ?_
  refine r_c rfl (x_call rfl (dec_Done (L := L) (by omega) Reads.own.cons h) ?_)
  rw [hov2, hbad2]
  rintro _ w ⟨xa, xc, rfl, h⟩
  replace h : St w0 (OwnS xa xc L :: DecPt p2 s' b2 b.length c2 l2 L.length lc2 :: OwnS l2 lc2 L :: OwnB b2 c2 b :: EncPt p s tg la L.length lc ba b.length bc :: OwnS sa sc L :: l) w := h
  show Rn _ _ _ _ _ (upd _ _ (.tuple [.slice xa L.length xc, .bool true].toArray)) _
  refine r_v (q_moveT rfl) rfl ?_; refine r_v (q_ext rfl rfl) rfl ?_; refine r_v (q_ext rfl rfl) rfl ?_; refine r_v (q_assignS rfl) rfl ?_; refine r_v (q_assignB rfl) rfl ?_
  refine r_nil ?_
  refine c_seq (c_region ?_)
  refine r_v (q_moveB rfl) rfl ?_; refine r_v (q_moveB rfl) rfl ?_; (first | refine r_gd rfl rfl ?_ | refine r_gn rfl rfl rfl ?_ | refine r_gu rfl rfl ?_ | refine r_gd rfl (by assumption) ?_ | refine r_gn rfl (by assumption) rfl ?_); refine r_v (q_moveS rfl) rfl ?_; (first | refine r_gd rfl rfl ?_ | refine r_gn rfl rfl rfl ?_ | refine r_gu rfl rfl ?_ | refine r_gd rfl (by assumption) ?_ | refine r_gn rfl (by assumption) rfl ?_); refine r_v (q_moveS rfl) rfl ?_; (first | refine r_gd rfl rfl ?_ | refine r_gn rfl rfl rfl ?_ | refine r_gu rfl rfl ?_ | refine r_gd rfl (by assumption) ?_ | refine r_gn rfl (by assumption) rfl ?_)
  refine r_c rfl (x_call rfl (ref10_Same (L1 := L) (L2 := L) h (fun w' h' => h'.own_rd) (fun w' h' => (h'.f 5).own_rd) (by omega)) ?_)
  rintro _ w ⟨rfl, h⟩
  rw [show decide (L = L) = true by simp]
  (first | refine r_v (q_pick1 rfl rfl rfl) rfl ?_ | refine r_v (q_pick0 rfl rfl rfl) rfl ?_ | refine r_v (q_pick1 rfl (by assumption) rfl) rfl ?_ | refine r_v (q_pick0 rfl (by assumption) rfl) rfl ?_ | refine r_v (q_pickB rfl rfl rfl) rfl ?_); refine r_v (q_moveB rfl) rfl ?_; (first | refine r_gd rfl rfl ?_ | refine r_gn rfl rfl rfl ?_ | refine r_gu rfl rfl ?_ | refine r_gd rfl (by assumption) ?_ | refine r_gn rfl (by assumption) rfl ?_); refine r_v (q_moveP rfl) rfl ?_; (first | refine r_gd rfl rfl ?_ | refine r_gn rfl rfl rfl ?_ | refine r_gu rfl rfl ?_ | refine r_gd rfl (by assumption) ?_ | refine r_gn rfl (by assumption) rfl ?_)
  refine r_c rfl (x_call rfl (dec_Bad (h.f 1)) ?_)
  rw [hov2, hbad2]
  rintro _ w ⟨rfl, h⟩
  (first | refine r_gd rfl rfl ?_ | refine r_gn rfl rfl rfl ?_ | refine r_gu rfl rfl ?_ | refine r_gd rfl (by assumption) ?_ | refine r_gn rfl (by assumption) rfl ?_); refine r_v (q_not rfl) rfl ?_; (first | refine r_v (q_pick1 rfl rfl rfl) rfl ?_ | refine r_v (q_pick0 rfl rfl rfl) rfl ?_ | refine r_v (q_pick1 rfl (by assumption) rfl) rfl ?_ | refine r_v (q_pick0 rfl (by assumption) rfl) rfl ?_ | refine r_v (q_pickB rfl rfl rfl) rfl ?_); refine r_v (q_moveB rfl) rfl ?_; (first | refine r_gd rfl rfl ?_ | refine r_gn rfl rfl rfl ?_ | refine r_gu rfl rfl ?_ | refine r_gd rfl (by assumption) ?_ | refine r_gn rfl (by assumption) rfl ?_); refine r_v (q_moveP rfl) rfl ?_; (first | refine r_gd rfl rfl ?_ | refine r_gn rfl rfl rfl ?_ | refine r_gu rfl rfl ?_ | refine r_gd rfl (by assumption) ?_ | refine r_gn rfl (by assumption) rfl ?_)
  refine r_c rfl (x_call rfl (enc_Bad (h.f 4)) ?_)
  rw [hov, hbad]
  rintro _ w ⟨rfl, h⟩
  (first | refine r_gd rfl rfl ?_ | refine r_gn rfl rfl rfl ?_ | refine r_gu rfl rfl ?_ | refine r_gd rfl (by assumption) ?_ | refine r_gn rfl (by assumption) rfl ?_); refine r_v (q_not rfl) rfl ?_; (first | refine r_v (q_pick1 rfl rfl rfl) rfl ?_ | refine r_v (q_pick0 rfl rfl rfl) rfl ?_ | refine r_v (q_pick1 rfl (by assumption) rfl) rfl ?_ | refine r_v (q_pick0 rfl (by assumption) rfl) rfl ?_ | refine r_v (q_pickB rfl rfl rfl) rfl ?_); refine r_v (q_moveB rfl) rfl ?_; (first | refine r_gd rfl rfl ?_ | refine r_gn rfl rfl rfl ?_ | refine r_gu rfl rfl ?_ | refine r_gd rfl (by assumption) ?_ | refine r_gn rfl (by assumption) rfl ?_)
  refine r_c rfl (x_call rfl (law12_awake hT h) ?_)
  rintro _ w ⟨rfl, h⟩
  (first | refine r_v (q_pick1 rfl rfl rfl) rfl ?_ | refine r_v (q_pick0 rfl rfl rfl) rfl ?_ | refine r_v (q_pick1 rfl (by assumption) rfl) rfl ?_ | refine r_v (q_pick0 rfl (by assumption) rfl) rfl ?_ | refine r_v (q_pickB rfl rfl rfl) rfl ?_); refine r_v (q_assignB rfl) rfl ?_
  refine r_nil ?_
  exact c_ret (bq1 ⟨rfl, h.drop.drop.drop.drop.drop.drop⟩)
end
end Go.Proofs.YtjjacchnalemaaaDoor
