/- snap.Of: what a slot has from one time to another one. -/
import Derived.Test.YtgahjjihfibbnaaSnap
namespace Go.Proofs.Ytgahjjihfibbnaa
open Go.Hw
set_option maxHeartbeats 8000000

structure SlotV where
  there : Bool
  closed : Bool
  life : Int
  ver : Int
  any : Bool
  last : Int
  opn : List Smp
  chunks : List Prt
abbrev SlotV.cells (x : SlotV) (a4 : Option Addr) (c4 : Nat) (a5 : Option Addr) (c5 : Nat) : List Value :=
  [.bool x.there, .bool x.closed, .int .i64 x.life, .int .i64 x.ver, .bool x.any, .int .i64 x.last, .slice a4 x.opn.length c4, .slice a5 x.chunks.length c5]
def partsIn (f t : Int) (Ps : List Prt) : List Prt := Ps.filter fun p => decide (max p.frm f ≤ min p.upto t)
def tailIn (f t : Int) (L : List Smp) : List Smp := L.filter fun o => decide (o.T ≥ f) && decide (o.T ≤ t)
theorem partsIn_step (f t : Int) {Ps : List Prt} {k : Nat} {q : Prt} (h : Ps[k]? = some q) : partsIn f t (Ps.take (k + 1)) = if max q.frm f ≤ min q.upto t then partsIn f t (Ps.take k) ++ [q] else partsIn f t (Ps.take k) := by
  unfold partsIn
  rw [List.take_add_one, h, List.filter_append]
  by_cases hc : max q.frm f ≤ min q.upto t
  · rw [if_pos hc]; simp [hc]
  · rw [if_neg hc]; simp [hc]
theorem tailIn_step (f t : Int) {L : List Smp} {k : Nat} {q : Smp} (h : L[k]? = some q) : tailIn f t (L.take (k + 1)) = if q.T ≥ f ∧ q.T ≤ t then tailIn f t (L.take k) ++ [q] else tailIn f t (L.take k) := by
  unfold tailIn
  rw [List.take_add_one, h, List.filter_append]
  by_cases hc : q.T ≥ f ∧ q.T ≤ t
  · rw [if_pos hc]; simp [hc.1, hc.2]
  · rw [if_neg hc]
    have : (decide (q.T ≥ f) && decide (q.T ≤ t)) = false := by
      rw [Bool.and_eq_false_iff]
      simp only [decide_eq_false_iff_not]
      omega
    simp [this]
theorem partsIn_le (f t : Int) (Ps : List Prt) : (partsIn f t Ps).length ≤ Ps.length := List.length_filter_le _ _
theorem tailIn_le (f t : Int) (L : List Smp) : (tailIn f t L).length ≤ L.length := List.length_filter_le _ _
abbrev ofX (s : SlotV) (f t : Int) (P : List Prt) (T : List Smp) : SnapV := ⟨s.life, s.ver, f, t, P.length, prtsV P, T.length, smpsV T⟩
theorem ofX_wf {s : SlotV} {f t : Int} {P : List Prt} {T : List Smp} (hp : P.length * 40 ≤ 140737488355328) (ht : T.length * 16 ≤ 140737488355328) : (ofX s f t P T).Wf := ⟨prts_one _, smps_one _, hp, ht⟩

section
variable {w0 w : World} {l : List HProp}
theorem snap_Of {s : SlotV} (f t : Int) {a4 a5 : Option Addr} {c4 c5 : Nat} (h : St w0 l w) (hr4 : ∀ w', St w0 l w' → Rd w' 2 a4 s.opn.length (smpsV s.opn)) (hr5 : ∀ w', St w0 l w' → Rd w' 5 a5 s.chunks.length (prtsV s.chunks))
    (hn4 : (s.opn.length + 1) * 16 ≤ 140737488355328) (hn5 : (s.chunks.length + 1) * 40 ≤ 140737488355328) :
    Ret Try.prog 32 [.agg (s.cells a4 c4 a5 c5).toArray, .int .i64 f, .int .i64 t] w fun v w' => ∃ a1 a2, v = .agg ((ofX s f t (partsIn f t s.chunks) (tailIn f t s.opn)).cells a1 (partsIn f t s.chunks).length a2 (tailIn f t s.opn).length).toArray ∧
      St w0 (OwnP (ofX s f t (partsIn f t s.chunks) (tailIn f t s.opn)) a1 (partsIn f t s.chunks).length :: OwnT (ofX s f t (partsIn f t s.chunks) (tailIn f t s.opn)) a2 (tailIn f t s.opn).length :: l) w' := by
  refine enter Try.func32 rfl Try.results32 Try.ntmps32 rfl ?_
  refine c_seq (c_region ?_)
  refine r_c rfl (x_box h (show _ = Value.agg (s.cells a4 c4 a5 c5).toArray from rfl) fun r3 w h => ?_)
  replace h : St w0 (pt r3 (.cells (s.cells a4 c4 a5 c5).toArray 69 (0, 0)) :: l) w := h
  refine r_c rfl (x_alloc h fun r6 w h => ?_)
  refine r_nil ?_
  refine c_seq (c_region ?_)
  refine r_v (q_fa rfl) rfl ?_; refine r_v (q_load rfl (h.b 1) rfl) rfl ?_; refine r_v (q_fa rfl) rfl ?_; refine r_v (q_load rfl (h.b 1) rfl) rfl ?_; refine r_v (q_moveI rfl) rfl ?_; refine r_v (q_moveI rfl) rfl ?_
  refine r_v (q_build (r := (ofX s f t [] []).cells none 0 none 0) rfl) rfl ?_
  refine r_c rfl (x_alloc h fun r7 w h => ?_)
  refine r_c rfl (x_storeA (vs := (ofX s f t [] []).cells none 0 none 0) 0 h rfl rfl rfl rfl rfl rfl rfl fun w h => ?_)
  replace h : St w0 (pt r7 (.cells ((ofX s f t [] []).cells none 0 none 0).toArray 43 (0, 0)) :: pt r6 (.cells snap0.toArray 43 (0, 0)) :: pt r3 (.cells (s.cells a4 c4 a5 c5).toArray 69 (0, 0)) :: l) w := h
  refine r_nil ?_
  refine c_seq (c_seq (c_region ?_))
  refine r_v (q_fa rfl) rfl ?_; refine r_v (q_load rfl (h.b 2) rfl) rfl ?_; refine r_v (q_len rfl) rfl ?_; refine r_v (q_moveI rfl) rfl ?_
  refine r_nil ?_
  refine c_block ?_
  refine c_loop (Γ := Nat × Option Addr × Nat × List Prt) (fun k => [(1, .int .i64 f), (2, .int .i64 t), (3, .pointer (some ⟨r3, 0, none⟩)), (6, .pointer (some ⟨r6, 0, none⟩)), (7, .pointer (some ⟨r7, 0, none⟩)), (20, .slice a5 s.chunks.length c5), (21, .int .i64 s.chunks.length), (22, .int .i64 k.1)])
    (fun k w => k.1 ≤ s.chunks.length ∧ k.2.2.2 = partsIn f t (s.chunks.take k.1) ∧ St w0 (Own 53 5 k.2.1 k.2.2.2.length k.2.2.1 (prtsV k.2.2.2) :: pt r7 (.cells ((ofX s f t k.2.2.2 []).cells k.2.1 k.2.2.1 none 0).toArray 43 (0, 0)) :: pt r6 (.cells snap0.toArray 43 (0, 0)) :: pt r3 (.cells (s.cells a4 c4 a5 c5).toArray 69 (0, 0)) :: l) w)
    (fun k => s.chunks.length - k.1) (0, none, 0, []) ⟨rfl, rfl, rfl, rfl, rfl, rfl, rfl, rfl, trivial⟩ ⟨Nat.zero_le _, rfl, St.ownNil _ _ h⟩ ?_
  clear h
  rintro ⟨k, a, c, P⟩ w e ⟨hk, hP, h⟩
  dsimp only at hk hP h ⊢
  refine c_seq (c_region ?_)
  refine r_v (q_lss rfl rfl) rfl ?_
  refine r_nil ?_
  refine c_seq (c_cond (decide ((k : Int) < (s.chunks.length : Int))) rfl (fun hc => ?_) (fun hc => ?_))
  ·
    have hkn : k < s.chunks.length := by simp at hc; omega
    obtain ⟨b5, o5, rfl⟩ := (hr5 w h.drop.drop.drop.drop).some (by omega)
    have hget := List.getElem?_eq_getElem hkn
    generalize s.chunks[k] = q at hget
    have hstep := partsIn_step f t hget
    have hPl : P.length ≤ s.chunks.length := by rw [hP]; exact Nat.le_trans (partsIn_le _ _ _) (by simp; omega)
    refine c_skip ?_
    refine c_seq (c_block ?_)
    refine c_seq (c_region ?_)
    refine r_v (q_idx rfl rfl rfl hkn rfl) rfl ?_
    refine r_v (q_loadS (l := q.cells) rfl rfl ((hr5 w h.drop.drop.drop.drop).elem prt_len hget)) rfl ?_
    refine r_c rfl (x_alloc h fun r9 w h => ?_)
    refine r_c rfl (x_storeA (vs := q.cells) 0 h rfl rfl rfl rfl rfl rfl rfl fun w h => ?_)
    replace h : St w0 (pt r9 (.cells q.cells.toArray 53 (0, 0)) :: Own 53 5 a P.length c (prtsV P) :: pt r7 (.cells ((ofX s f t P []).cells a c none 0).toArray 43 (0, 0)) :: pt r6 (.cells snap0.toArray 43 (0, 0)) :: pt r3 (.cells (s.cells a4 c4 (some ⟨b5, o5, none⟩) c5).toArray 69 (0, 0)) :: l) w := h
    refine r_nil ?_
    refine c_seq (c_region ?_)
    refine r_v (q_fa rfl) rfl ?_
    refine r_v (q_load (v := .int .i64 q.frm) rfl (h.b 0) rfl) rfl ?_
    refine r_v (q_moveI rfl) rfl ?_; refine r_v (q_max rfl rfl) rfl ?_; refine r_v (q_fa rfl) rfl ?_
    refine r_v (q_load (v := .int .i64 q.upto) rfl (h.b 0) rfl) rfl ?_
    refine r_v (q_moveI rfl) rfl ?_; refine r_v (q_min rfl rfl) rfl ?_; refine r_v (q_leq rfl rfl) rfl ?_
    refine r_nil ?_
    refine c_cond _ rfl (fun hc => ?_) (fun hc => ?_)
    ·
      have hin : max q.frm f ≤ min q.upto t := by simpa using hc
      rw [if_pos hin, ← hP] at hstep
      refine c_region ?_
      refine r_v (q_fa rfl) rfl ?_
      refine r_v (q_load (v := .slice a P.length c) rfl (h.b 2) rfl) rfl ?_
      refine r_v (q_loadS (l := q.cells) rfl rfl (at_of (h.b 0 rfl) rfl)) rfl ?_
      refine r_c rfl (x_bslice (r := q.cells) h rfl rfl rfl fun bs w h => ?_)
      refine r_c rfl (x_append' (ys := q.cells) (zs := prtsV (P ++ [q])) (m3 := (P ++ [q]).length) (h.f 2) rfl rfl ⟨rfl, .inr ⟨bs, 0, rfl, at_of (h.b 0 rfl) rfl⟩⟩ (fun u hu => by have := prts_one [q] u; simpa using this (by simpa using hu)) (by simp) (by simp [prtsV]) (by simp; omega) (by simp; omega) rfl fun a' c' w _ h => ?_)
      replace h : St w0 (Own 53 5 a' (P ++ [q]).length c' (prtsV (P ++ [q])) :: pt bs _ :: pt r9 _ :: pt r7 (.cells ((ofX s f t P []).cells a c none 0).toArray 43 (0, 0)) :: pt r6 (.cells snap0.toArray 43 (0, 0)) :: pt r3 (.cells (s.cells a4 c4 (some ⟨b5, o5, none⟩) c5).toArray 69 (0, 0)) :: l) w := h
      refine r_v (q_fa rfl) rfl ?_
      refine r_c rfl (x_store 3 h rfl (show _ = Value.slice _ _ _ from rfl) rfl rfl rfl rfl fun w h => ?_)
      replace h := ((h.f 1).drop.f 1).drop
      refine r_nil ?_
      refine c_region ?_
      refine r_v (q_add rfl rfl) rfl ?_
      refine r_is (.int .i64 ((k + 1 : Nat) : Int)) (by rw [wrap64 (by omega) (by omega)]; rfl) ?_
      refine r_v (q_moveI rfl) rfl ?_
      exact r_nil ⟨(k + 1, a', c', P ++ [q]), ⟨rfl, rfl, rfl, rfl, rfl, rfl, rfl, rfl, trivial⟩, ⟨by dsimp only; omega, hstep.symm, h⟩, by dsimp only; omega⟩
    ·
      have hin : ¬ max q.frm f ≤ min q.upto t := by simpa using hc
      rw [if_neg hin, ← hP] at hstep
      refine c_skip ?_
      refine c_region ?_
      refine r_v (q_add rfl rfl) rfl ?_
      refine r_is (.int .i64 ((k + 1 : Nat) : Int)) (by rw [wrap64 (by omega) (by omega)]; rfl) ?_
      refine r_v (q_moveI rfl) rfl ?_
      exact r_nil ⟨(k + 1, a, c, P), ⟨rfl, rfl, rfl, rfl, rfl, rfl, rfl, rfl, trivial⟩, ⟨by dsimp only; omega, hstep.symm, h.drop⟩, by dsimp only; omega⟩
  have hkn : k = s.chunks.length := by simp at hc; omega
  rw [hkn, List.take_of_length_le (Nat.le_refl _)] at hP
  clear hc hk hkn
  refine c_exit ?_
  refine c_seq (c_seq (c_region ?_))
  refine r_v (q_fa rfl) rfl ?_; refine r_v (q_fa rfl) rfl ?_; refine r_v (q_load rfl (h.b 3) rfl) rfl ?_; refine r_v (q_len rfl) rfl ?_; refine r_v (q_moveI rfl) rfl ?_
  refine r_nil ?_
  refine c_block ?_
  refine c_loop (Γ := Nat × Option Addr × Nat × List Smp) (fun k => [(1, .int .i64 f), (2, .int .i64 t), (6, .pointer (some ⟨r6, 0, none⟩)), (7, .pointer (some ⟨r7, 0, none⟩)), (44, .slice a4 s.opn.length c4), (45, .int .i64 s.opn.length), (46, .int .i64 k.1)])
    (fun k w => k.1 ≤ s.opn.length ∧ k.2.2.2 = tailIn f t (s.opn.take k.1) ∧ St w0 (Own 56 2 k.2.1 k.2.2.2.length k.2.2.1 (smpsV k.2.2.2) :: pt r7 (.cells ((ofX s f t P k.2.2.2).cells a c k.2.1 k.2.2.1).toArray 43 (0, 0)) :: Own 53 5 a P.length c (prtsV P) :: pt r6 (.cells snap0.toArray 43 (0, 0)) :: l) w)
    (fun k => s.opn.length - k.1) (0, none, 0, []) ⟨rfl, rfl, rfl, rfl, rfl, rfl, rfl, trivial⟩ ⟨Nat.zero_le _, rfl, St.ownNil _ _ ((h.f 3).drop.f 1)⟩ ?_
  clear h
  rintro ⟨k, a', c', T⟩ w e ⟨hk, hT, h⟩
  dsimp only at hk hT h ⊢
  refine c_seq (c_region ?_)
  refine r_v (q_lss rfl rfl) rfl ?_
  refine r_nil ?_
  refine c_seq (c_cond (decide ((k : Int) < (s.opn.length : Int))) rfl (fun hc => ?_) (fun hc => ?_))
  ·
    have hkn : k < s.opn.length := by simp at hc; omega
    have hcur := h
    obtain ⟨b4, o4, rfl⟩ := (hr4 w h.drop.drop.drop.drop).some (by omega)
    replace h := hcur
    have hget := List.getElem?_eq_getElem hkn
    generalize s.opn[k] = q at hget
    have hstep := tailIn_step f t hget
    have hTl : T.length ≤ s.opn.length := by rw [hT]; exact Nat.le_trans (tailIn_le _ _ _) (by simp; omega)
    refine c_skip ?_
    refine c_seq (c_block ?_)
    refine c_seq (c_region ?_)
    refine r_v (q_idx rfl rfl rfl hkn rfl) rfl ?_
    refine r_v (q_loadS (l := q.cells) rfl rfl ((hr4 w h.drop.drop.drop.drop).elem smp_len hget)) rfl ?_
    refine r_c rfl (x_alloc h fun r11 w h => ?_)
    refine r_c rfl (x_storeA (vs := q.cells) 0 h rfl rfl rfl rfl rfl rfl rfl fun w h => ?_)
    replace h : St w0 (pt r11 (.cells q.cells.toArray 56 (0, 0)) :: Own 56 2 a' T.length c' (smpsV T) :: pt r7 (.cells ((ofX s f t P T).cells a c a' c').toArray 43 (0, 0)) :: Own 53 5 a P.length c (prtsV P) :: pt r6 (.cells snap0.toArray 43 (0, 0)) :: l) w := h
    refine r_nil ?_
    refine c_seq (c_region ?_)
    refine r_v (q_fa rfl) rfl ?_
    refine r_v (q_load (v := .int .i64 q.T) rfl (h.b 0) rfl) rfl ?_
    refine r_v (q_moveI rfl) rfl ?_; refine r_v (q_geq rfl rfl) rfl ?_
    by_cases hge : q.T ≥ f
    · refine r_is (.bool true) (by simpa using hge) ?_
      refine r_v (q_moveB rfl) rfl ?_; (first | refine r_gd rfl rfl ?_ | refine r_gn rfl rfl rfl ?_ | refine r_gu rfl rfl ?_ | refine r_gd rfl (by assumption) ?_ | refine r_gn rfl (by assumption) rfl ?_); refine r_v (q_fa rfl) rfl ?_; (first | refine r_gd rfl rfl ?_ | refine r_gn rfl rfl rfl ?_ | refine r_gu rfl rfl ?_ | refine r_gd rfl (by assumption) ?_ | refine r_gn rfl (by assumption) rfl ?_)
      refine r_v (q_load (v := .int .i64 q.T) rfl (h.b 0) rfl) rfl ?_
      (first | refine r_gd rfl rfl ?_ | refine r_gn rfl rfl rfl ?_ | refine r_gu rfl rfl ?_ | refine r_gd rfl (by assumption) ?_ | refine r_gn rfl (by assumption) rfl ?_); refine r_v (q_moveI rfl) rfl ?_; (first | refine r_gd rfl rfl ?_ | refine r_gn rfl rfl rfl ?_ | refine r_gu rfl rfl ?_ | refine r_gd rfl (by assumption) ?_ | refine r_gn rfl (by assumption) rfl ?_); refine r_v (q_leq rfl rfl) rfl ?_; (first | refine r_v (q_pick1 rfl rfl rfl) rfl ?_ | refine r_v (q_pick0 rfl rfl rfl) rfl ?_ | refine r_v (q_pick1 rfl (by assumption) rfl) rfl ?_ | refine r_v (q_pick0 rfl (by assumption) rfl) rfl ?_ | refine r_v (q_pickB rfl rfl rfl) rfl ?_)
      refine r_nil ?_
      refine c_cond _ rfl (fun hc => ?_) (fun hc => ?_)
      ·
        have hin : q.T ≥ f ∧ q.T ≤ t := ⟨hge, by simpa using hc⟩
        rw [if_pos hin, ← hT] at hstep
        refine c_region ?_
        refine r_v (q_fa rfl) rfl ?_
        refine r_v (q_load (v := .slice a' T.length c') rfl (h.b 2) rfl) rfl ?_
        refine r_v (q_loadS (l := q.cells) rfl rfl (at_of (h.b 0 rfl) rfl)) rfl ?_
        refine r_c rfl (x_bslice (r := q.cells) h rfl rfl rfl fun bs w h => ?_)
        refine r_c rfl (x_append' (ys := q.cells) (zs := smpsV (T ++ [q])) (m3 := (T ++ [q]).length) (h.f 2) rfl rfl ⟨rfl, .inr ⟨bs, 0, rfl, at_of (h.b 0 rfl) rfl⟩⟩ (fun u hu => by have := smps_one [q] u; simpa using this (by simpa using hu)) (by simp) (by simp [smpsV]) (by simp; omega) (by simp; omega) rfl fun a2 c2 w _ h => ?_)
        replace h : St w0 (Own 56 2 a2 (T ++ [q]).length c2 (smpsV (T ++ [q])) :: pt bs _ :: pt r11 _ :: pt r7 (.cells ((ofX s f t P T).cells a c a' c').toArray 43 (0, 0)) :: Own 53 5 a P.length c (prtsV P) :: pt r6 (.cells snap0.toArray 43 (0, 0)) :: l) w := h
        refine r_v (q_fa rfl) rfl ?_
        refine r_c rfl (x_store 3 h rfl (show _ = Value.slice _ _ _ from rfl) rfl rfl rfl rfl fun w h => ?_)
        replace h := ((h.f 1).drop.f 1).drop
        refine r_nil ?_
        refine c_region ?_
        refine r_v (q_add rfl rfl) rfl ?_
        refine r_is (.int .i64 ((k + 1 : Nat) : Int)) (by rw [wrap64 (by omega) (by omega)]; rfl) ?_
        refine r_v (q_moveI rfl) rfl ?_
        exact r_nil ⟨(k + 1, a2, c2, T ++ [q]), ⟨rfl, rfl, rfl, rfl, rfl, rfl, rfl, trivial⟩, ⟨by dsimp only; omega, hstep.symm, h⟩, by dsimp only; omega⟩
      ·
        have hin : ¬ (q.T ≥ f ∧ q.T ≤ t) := fun h => by simp at hc; omega
        rw [if_neg hin, ← hT] at hstep
        refine c_skip ?_
        refine c_region ?_
        refine r_v (q_add rfl rfl) rfl ?_
        refine r_is (.int .i64 ((k + 1 : Nat) : Int)) (by rw [wrap64 (by omega) (by omega)]; rfl) ?_
        refine r_v (q_moveI rfl) rfl ?_
        exact r_nil ⟨(k + 1, a', c', T), ⟨rfl, rfl, rfl, rfl, rfl, rfl, rfl, trivial⟩, ⟨by dsimp only; omega, hstep.symm, h.drop⟩, by dsimp only; omega⟩
    · refine r_is (.bool false) (by simpa using hge) ?_
      refine r_v (q_moveB rfl) rfl ?_; (first | refine r_gd rfl rfl ?_ | refine r_gn rfl rfl rfl ?_ | refine r_gu rfl rfl ?_ | refine r_gd rfl (by assumption) ?_ | refine r_gn rfl (by assumption) rfl ?_); (first | refine r_gd rfl rfl ?_ | refine r_gn rfl rfl rfl ?_ | refine r_gu rfl rfl ?_ | refine r_gd rfl (by assumption) ?_ | refine r_gn rfl (by assumption) rfl ?_); (first | refine r_gd rfl rfl ?_ | refine r_gn rfl rfl rfl ?_ | refine r_gu rfl rfl ?_ | refine r_gd rfl (by assumption) ?_ | refine r_gn rfl (by assumption) rfl ?_); (first | refine r_gd rfl rfl ?_ | refine r_gn rfl rfl rfl ?_ | refine r_gu rfl rfl ?_ | refine r_gd rfl (by assumption) ?_ | refine r_gn rfl (by assumption) rfl ?_); (first | refine r_v (q_pick1 rfl rfl rfl) rfl ?_ | refine r_v (q_pick0 rfl rfl rfl) rfl ?_ | refine r_v (q_pick1 rfl (by assumption) rfl) rfl ?_ | refine r_v (q_pick0 rfl (by assumption) rfl) rfl ?_ | refine r_v (q_pickB rfl rfl rfl) rfl ?_)
      refine r_nil ?_
      refine c_false rfl ?_
      have hin : ¬ (q.T ≥ f ∧ q.T ≤ t) := fun h => hge h.1
      rw [if_neg hin, ← hT] at hstep
      refine c_skip ?_
      refine c_region ?_
      refine r_v (q_add rfl rfl) rfl ?_
      refine r_is (.int .i64 ((k + 1 : Nat) : Int)) (by rw [wrap64 (by omega) (by omega)]; rfl) ?_
      refine r_v (q_moveI rfl) rfl ?_
      exact r_nil ⟨(k + 1, a', c', T), ⟨rfl, rfl, rfl, rfl, rfl, rfl, rfl, trivial⟩, ⟨by dsimp only; omega, hstep.symm, h.drop⟩, by dsimp only; omega⟩
  have hkn : k = s.opn.length := by simp at hc; omega
  rw [hkn, List.take_of_length_le (Nat.le_refl _)] at hT
  clear hc hk hkn
  refine c_exit ?_
  rw [← hP, ← hT]
  have hcT := h.own_cases.2.1
  have hcP := (h.f 2).own_cases.2.1
  refine c_seq (c_any (some 7) (fun w => St w0 _ w) (by kernel_rfl) (by kernel_rfl) h.drew fun w h => ?_)
  refine cur_pure rfl rfl rfl rfl (fun _ => h) (fun _ => flt_v rfl (q_fa rfl)) ?_; refine cur_float rfl rfl rfl rfl h (fun _ h => flt_v rfl (q_load rfl (h.b 1) rfl)) ?_; refine cur_skip ?_; refine cur_pure rfl rfl rfl rfl (fun _ => h) (fun _ => flt_v rfl (q_fa rfl)) ?_; refine cur_float rfl rfl rfl rfl h (fun _ h => flt_v rfl (q_load rfl (h.b 1) rfl)) ?_; refine cur_skip ?_; refine cur_skip ?_; refine cur_skip ?_; refine cur_skip ?_; refine cur_skip ?_
  refine cur_one 2 rfl rfl rfl rfl ?_
  refine (x_call rfl (clip_parts h hcP) ?_)
  rintro _ w ⟨rfl, h⟩
  refine ⟨fun _ => h, ?_⟩
  refine cur_skip ?_; refine cur_pure rfl rfl rfl rfl (fun _ => h) (fun _ => flt_v rfl (q_fa rfl)) ?_; refine cur_skip ?_; refine cur_skip ?_; refine cur_skip ?_
  refine cur_one 5 rfl rfl rfl rfl ?_
  refine (x_call rfl (clip_smps h hcT) ?_)
  rintro _ w ⟨rfl, h⟩
  refine ⟨fun _ => h, ?_⟩
  refine cur_skip ?_; refine cur_skip ?_; refine cur_skip ?_
  refine cur_step 7 (some 9) rfl rfl rfl rfl ?_
  refine x_store 1 h rfl (show _ = Value.slice _ _ _ from rfl) rfl rfl rfl rfl fun w h => ?_
  refine cur_from h ?_
  refine cur_pure rfl rfl rfl rfl (fun _ => h) (fun _ => flt_v rfl (q_fa rfl)) ?_; refine cur_skip ?_
  refine cur_last 9 rfl rfl rfl ?_
  refine x_store 1 h rfl (show _ = Value.slice _ _ _ from rfl) rfl rfl rfl rfl fun w h => ?_
  replace h : St w0 (Own 56 2 a' T.length c' (smpsV T) :: pt r7 (.cells ((ofX s f t P T).cells a P.length a' T.length).toArray 43 (0, 0)) :: Own 53 5 a P.length c (prtsV P) :: pt r6 (.cells snap0.toArray 43 (0, 0)) :: l) w := h
  refine c_seq (c_region ?_)
  refine r_v (q_loadS (l := (ofX s f t P T).cells a P.length a' T.length) rfl rfl (at_of (h.b 1 rfl) rfl)) rfl ?_
  refine r_c rfl (x_storeA (vs := (ofX s f t P T).cells a P.length a' T.length) 3 h rfl rfl rfl rfl rfl rfl rfl fun w h => ?_)
  replace h : St w0 (Own 56 2 a' T.length c' (smpsV T) :: pt r7 _ :: Own 53 5 a P.length c (prtsV P) :: pt r6 (.cells ((ofX s f t P T).cells a P.length a' T.length).toArray 43 (0, 0)) :: l) w := h
  refine r_nil ?_
  refine c_ret (bqS1 (l := (ofX s f t P T).cells a P.length a' T.length) rfl rfl (at_of (h.b 3 rfl) rfl) ⟨a, a', rfl, ?_⟩)
  replace h := ((h.f 3).drop.f 1).drop
  exact ((h.own_clip.f 1).own_clip)
end
end Go.Proofs.Ytgahjjihfibbnaa
