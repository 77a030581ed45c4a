/- What the proof of ChnkTells needs, part 6: plain lemmas, and what each function does. -/
import Derived.Test.YtjjacchnalemaaaGreatDoorQChnkTellse
namespace Go.Proofs.YtjjacchnalemaaaGreatDoor
open Go.Hw
set_option maxHeartbeats 8000000
set_option maxRecDepth 100000
section
variable {w0 w : World} {l : List HProp}
theorem hd_four (o : Option (Hd × List UInt8)) : ∃ i0 i1 i2 i3 : Int, (o.map fun q => hdC q.1).getD hdZ = [.int .i64 i0, .int .i64 i1, .int .i64 i2, .int .i64 i3] := by
 cases o with
 | none => exact ⟨_, _, _, _, rfl⟩
 | some q => exact ⟨_, _, _, _, rfl⟩
theorem chMake_lenD {tag : Int} {L : List Smp} (hw : ∀ s ∈ L, s.Wf) : ((chMake tag L).getD []).length ≤ 3000035 := by
 have hlen := suitEnc_len (tag := tag) hw
 unfold chMake
 split
 ·exact Nat.zero_le _
 ·rename_i x hx
  rw [hx] at hlen
  replace hlen : x.length ≤ 3000000 := hlen
  split
  ·exact Nat.zero_le _
  ·have := chBody_len tag L x
   rw [Option.getD_some, List.length_append, be4_len]
   omega
theorem law11_ChnkTells (hT : Tz w0) {s0 : Option Addr} {c0 : Nat} {L0 : List Smp} {st : Option Addr} {ct : Nat} {xs : List Int} {sv : Option Addr} {cv : Nat} {us_ : List Nat} {sr : Option Addr} {cr : Nat} {raw : List UInt8} (how a4 a6 : Int) (y : UInt8)
  (hw0 : ∀ s ∈ L0, s.Wf) (hn0 : L0.length ≤ 9223372036854775807) (hr0 : Reads w0 l 2 s0 L0.length (smpsV L0)) (hx : ∀ x ∈ xs, I64 x) (hn : xs.length ≤ 9223372036854775807) (hrt : Reads w0 l 1 st xs.length (i64V xs))
  (hu : ∀ x ∈ us_, x < 18446744073709551616) (hnu : us_.length ≤ 9223372036854775807) (hrv : Reads w0 l 1 sv us_.length (u64V us_)) (hcr : raw.length ≤ cr) (hnr : raw.length ≤ 9223372036854775807) (hrr : Reads w0 l 1 sr raw.length (bytesV raw)) (h : St w0 l w) :
  Ret Tryz.prog 4 [.slice s0 L0.length c0, .slice st xs.length ct, .slice sv us_.length cv, .int .i64 how, .int .i64 a4, .slice sr raw.length cr, .int .i64 a6, .int .u8 y.toNat] w fun v w' => v = .bool true ∧ St w0 l w' := by
 refine enter Tryz.func4 rfl Tryz.results4 Tryz.ntmps4 rfl ?_
 refine c_seq (c_region ?_)
 refine r_v (q_assignB rfl) rfl ?_
 refine r_nil ?_
 refine c_cut (Γ := Unit) (fun _ => [(0, .slice s0 L0.length c0), (1, .slice st xs.length ct), (2, .slice sv us_.length cv), (3, .int .i64 how), (4, .int .i64 a4), (5, .slice sr raw.length cr), (6, .int .i64 a6), (7, .int .u8 y.toNat)]) (fun _ w => L0.length ≤ 60 ∧ raw.length ≤ 200 ∧ St w0 l w) ?_ ?_
 ·refine c_seq (c_region ?_)
  refine r_v (q_moveS rfl) rfl ?_; refine r_v (q_len rfl) rfl ?_; refine r_v (q_gtr rfl rfl) rfl ?_
  by_cases g1 : L0.length ≤ 60
  ·refine r_is (.bool false) (by congr 1; rw [decide_eq_false_iff_not]; omega) ?_
   refine r_v (q_moveB rfl) rfl ?_; refine r_gd rfl rfl ?_; refine r_v (q_moveS rfl) rfl ?_; refine r_gd rfl rfl ?_; refine r_v (q_len rfl) rfl ?_; refine r_gd rfl rfl ?_; refine r_v (q_gtr rfl rfl) rfl ?_; refine r_v (q_pick0 rfl rfl rfl) rfl ?_
   refine r_nil (c_cond (decide ((raw.length : Int) > 200)) rfl (fun hc => ?_) (fun hc => ?_))
   ·refine c_seq (c_region ?_)
    refine r_c rfl (x_call rfl (law11_awake hT h) ?_)
    rintro _ w ⟨rfl, h⟩
    refine r_v (q_assignB rfl) rfl ?_
    exact r_nil (c_ret (bq1 ⟨rfl, h⟩))
   ·exact c_skip ⟨(), ⟨rfl, rfl, rfl, rfl, rfl, rfl, rfl, rfl, trivial⟩, g1, by rw [decide_eq_false_iff_not] at hc; omega, h⟩
  ·refine r_is (.bool true) (by congr 1; rw [decide_eq_true_eq]; omega) ?_
   refine r_v (q_moveB rfl) rfl ?_; refine r_gn rfl rfl rfl ?_; refine r_gn rfl rfl rfl ?_; refine r_gn rfl rfl rfl ?_; refine r_v (q_pick1 rfl rfl rfl) rfl ?_
   refine r_nil (c_true rfl ?_)
   refine c_seq (c_region ?_)
   refine r_c rfl (x_call rfl (law11_awake hT h) ?_)
   rintro _ w ⟨rfl, h⟩
   refine r_v (q_assignB rfl) rfl ?_
   exact r_nil (c_ret (bq1 ⟨rfl, h⟩))
 clear h
 rintro ⟨⟩ w e ⟨g1, g2, h⟩
 refine c_seq (c_region ?_)
 refine r_v (q_moveS rfl) rfl ?_; refine r_v (q_moveS rfl) rfl ?_; refine r_v (q_moveI rfl) rfl ?_
 refine r_c rfl (x_call rfl (law10_Row how hx hn hrt hu hnu hrv h) ?_)
 rintro _ w ⟨sa, sc, L, hL60, hwf, hris, rfl, h⟩
 refine r_v (q_assignS rfl) rfl ?_
 refine r_nil ?_
 refine c_cut (Γ := Unit) (fun _ => []) (fun _ w => St w0 l w) ?_ ?_
 ·refine c_seq (c_region ?_)
  refine r_v (q_moveI rfl) rfl ?_; refine r_v (q_moveI rfl) rfl ?_; refine r_v (q_and rfl rfl) rfl ?_; refine r_v (q_add rfl rfl) rfl ?_; refine r_v (q_moveI rfl) rfl ?_
  refine r_v (q_shr rfl rfl (by omega)) rfl ?_
  refine r_v (q_and rfl rfl) rfl ?_
  refine r_v (q_rem rfl rfl (by decide)) rfl ?_
  refine r_v (q_add rfl rfl) rfl ?_
  refine r_c rfl (x_bslice (r := [.int .i64 _, .int .i64 _, .int .i64 _]) h rfl rfl rfl fun bt w h => ?_)
  refine r_v (q_len rfl) rfl ?_; refine r_v (q_moveI rfl) rfl ?_
  refine r_nil ?_
  replace h : ∃ t0 t1 t2 : Int, St w0 (pt bt (.cells [.int .i64 t0, .int .i64 t1, .int .i64 t2].toArray 3 (0, 0)) :: OwnS sa sc L :: l) w := ⟨_, _, _, h⟩
  obtain ⟨t0, t1, t2, h⟩ := h
  have hk3 : ∀ k, k < 3 → ∃ tg : Int, ∀ w' : World, w'.heap[bt]? = some (.cells [.int .i64 t0, .int .i64 t1, .int .i64 t2].toArray 3 (0, 0)) → w'.cell? ⟨bt, 0 + k * 1, none⟩ = some (.int .i64 tg) := by
   intro k hk
   rcases (by omega : k = 0 ∨ k = 1 ∨ k = 2) with rfl | rfl | rfl
   ·exact ⟨_, fun w' h' => cell_of h' rfl⟩
   ·exact ⟨_, fun w' h' => cell_of h' rfl⟩
   ·exact ⟨_, fun w' h' => cell_of h' rfl⟩
  refine c_block ?_
  refine c_loop (Γ := Nat) (fun i0 => [(0, .slice s0 L0.length c0), (5, .slice sr raw.length cr), (6, .int .i64 a6), (7, .int .u8 y.toNat), (17, .slice sa L.length sc), (62, .slice (some ⟨bt, 0, none⟩) 3 3), (63, .int .i64 3), (64, .int .i64 i0)])
   (fun i0 w => i0 ≤ 3 ∧ St w0 (pt bt (.cells [.int .i64 t0, .int .i64 t1, .int .i64 t2].toArray 3 (0, 0)) :: OwnS sa sc L :: l) w) (fun i0 => 3 - i0) 0 ⟨rfl, rfl, rfl, rfl, rfl, rfl, rfl, rfl, trivial⟩ ⟨by decide, h⟩ ?_
  clear h
  rintro i0 w e ⟨hi0, h⟩
  refine c_seq (c_region ?_)
  refine r_v (q_lss rfl rfl) rfl ?_
  refine r_nil ?_
  refine c_seq (c_cond (decide ((i0 : Int) < 3)) rfl (fun hc => ?_) (fun hc => ?_))
  ·have hlt0 : i0 < 3 := by rw [decide_eq_true_eq] at hc; omega
   obtain ⟨tg, htg⟩ := hk3 i0 hlt0
   refine c_skip ?_
   refine c_seq (c_block ?_)
   refine c_seq (c_region ?_)
   refine r_v (q_idx (b := bt) (o := 0) (m := 3) (c := 3) (o' := 0 + i0 * 1) rfl rfl rfl hlt0 rfl) rfl ?_
   refine r_v (q_loadc (v := .int .i64 tg) rfl (htg _ (h.b 0 rfl))) rfl ?_
   refine r_v (q_assignI rfl) rfl ?_
   refine r_nil ?_
   refine c_seq (c_region ?_)
   refine r_v (q_moveS rfl) rfl ?_; refine r_v (q_moveS rfl) rfl ?_
   refine r_c rfl (x_bslice (r := [.slice s0 L0.length c0, .slice sa L.length sc]) h rfl rfl rfl fun bl w h => ?_)
   refine r_v (q_len rfl) rfl ?_; refine r_v (q_moveI rfl) rfl ?_
   refine r_nil ?_
   have hk2 : ∀ k, k < 2 → ∃ (a : Option Addr) (c : Nat) (X : List Smp), (∀ s ∈ X, s.Wf) ∧ X.length ≤ 60 ∧ (∀ w' : World, w'.heap[bl]? = some (.cells [.slice s0 L0.length c0, .slice sa L.length sc].toArray 22 (0, 0)) → w'.cell? ⟨bl, 0 + k * 1, none⟩ = some (.slice a X.length c)) ∧ Reads w0 (OwnS sa sc L :: l) 2 a X.length (smpsV X) := by
    intro k hk
    rcases (by omega : k = 0 ∨ k = 1) with rfl | rfl
    ·exact ⟨s0, c0, L0, hw0, g1, fun w' h' => cell_of h' rfl, hr0.more [_]⟩
    ·exact ⟨sa, sc, L, hwf, hL60, fun w' h' => cell_of h' rfl, Reads.own⟩
   refine c_block ?_
   refine c_loop (Γ := Nat) (fun i1 => [(0, .slice s0 L0.length c0), (5, .slice sr raw.length cr), (6, .int .i64 a6), (7, .int .u8 y.toNat), (17, .slice sa L.length sc), (19, .int .i64 tg), (62, .slice (some ⟨bt, 0, none⟩) 3 3), (63, .int .i64 3), (64, .int .i64 i0), (70, .slice (some ⟨bl, 0, none⟩) 2 2), (71, .int .i64 2), (72, .int .i64 i1)])
    (fun i1 w => i1 ≤ 2 ∧ St w0 (pt bl (.cells [.slice s0 L0.length c0, .slice sa L.length sc].toArray 22 (0, 0)) :: pt bt (.cells [.int .i64 t0, .int .i64 t1, .int .i64 t2].toArray 3 (0, 0)) :: OwnS sa sc L :: l) w) (fun i1 => 2 - i1) 0 ⟨rfl, rfl, rfl, rfl, rfl, rfl, rfl, rfl, rfl, rfl, rfl, rfl, trivial⟩ ⟨by decide, h⟩ ?_
   clear h
   rintro i1 w e ⟨hi1, h⟩
   refine c_seq (c_region ?_)
   refine r_v (q_lss rfl rfl) rfl ?_
   refine r_nil ?_
   refine c_seq (c_cond (decide ((i1 : Int) < 2)) rfl (fun hc => ?_) (fun hc => ?_))
   ·have hlt1 : i1 < 2 := by rw [decide_eq_true_eq] at hc; omega
    obtain ⟨xa, xc, X, hXw, hXl, hat1, hrx0⟩ := hk2 i1 hlt1
    have hb1 := h.b 0 rfl
    generalize hPL : pt bl (.cells [.slice s0 L0.length c0, .slice sa L.length sc].toArray 22 (0, 0)) = PL at h
    generalize hPT : pt bt (.cells [.int .i64 t0, .int .i64 t1, .int .i64 t2].toArray 3 (0, 0)) = PT at h
    have hrx : Reads w0 (PL :: PT :: OwnS sa sc L :: l) 2 xa X.length (smpsV X) := hrx0.cons.cons
    have hrr2 : Reads w0 (PL :: PT :: OwnS sa sc L :: l) 1 sr raw.length (bytesV raw) := hrr.more [_, _, _]
    refine c_skip ?_
    refine c_seq (c_block ?_)
    refine c_seq (c_region ?_)
    refine r_v (q_idx (b := bl) (o := 0) (m := 2) (c := 2) (o' := 0 + i1 * 1) rfl rfl rfl hlt1 rfl) rfl ?_
    refine r_v (q_loadc (v := .slice xa X.length xc) rfl (hat1 _ hb1)) rfl ?_
    refine r_v (q_assignS rfl) rfl ?_
    refine r_nil ?_
    have hEl := chMake_lenD (tag := tg) hXw
    refine c_seq (c_region ?_)
    refine r_v (q_moveI rfl) rfl ?_; refine r_v (q_moveS rfl) rfl ?_
    refine r_c rfl (x_call rfl (chnk_Make hT tg hXw (by omega) hrx h) ?_)
    rintro _ w ⟨a1, d1, rfl, h⟩
    refine r_v (q_moveT rfl) rfl ?_; refine r_v (q_ext rfl rfl) rfl ?_; refine r_v (q_ext rfl rfl) rfl ?_; refine r_v (q_assignS rfl) rfl ?_; refine r_v (q_assignB rfl) rfl ?_
    refine r_nil ?_
    refine c_seq (c_region ?_)
    refine r_v (q_moveI rfl) rfl ?_; refine r_v (q_moveS rfl) rfl ?_
    refine r_c rfl (x_call rfl (ref10_Make tg hXw (by omega) hrx.cons h) ?_)
    rintro _ w ⟨ea, ec, rfl, h⟩
    refine r_v (q_moveT rfl) rfl ?_; refine r_v (q_ext rfl rfl) rfl ?_; refine r_v (q_ext rfl rfl) rfl ?_; refine r_v (q_assignS rfl) rfl ?_; refine r_v (q_assignB rfl) rfl ?_
    refine r_nil ?_
    generalize (chMake tg X).isSome = o1
    generalize (chMake tg X).getD [] = E at hEl h ⊢
    refine c_seq (c_seq (c_region ?_))
    refine r_v (q_moveB rfl) rfl ?_; refine r_v (q_moveB rfl) rfl ?_; refine r_v (q_neb rfl rfl) rfl ?_
    refine r_is (.bool false) (by simp) ?_
    refine r_v (q_moveB rfl) rfl ?_; refine r_gd rfl rfl ?_; refine r_v (q_moveS rfl) rfl ?_; refine r_gd rfl rfl ?_
    refine r_v (q_btos (bs := E) rfl (h.f 1).own_rd) rfl ?_
    refine r_gd rfl rfl ?_; refine r_v (q_moveS rfl) rfl ?_; refine r_gd rfl rfl ?_
    refine r_v (q_btos (bs := E) rfl h.own_rd) rfl ?_
    refine r_gd rfl rfl ?_; refine r_v (q_strne rfl rfl) rfl ?_
    rw [strB_eq]
    refine r_v (q_pick0 rfl rfl rfl) rfl ?_
    refine r_is (.bool false) (by simp) ?_
    refine r_nil (c_false rfl (c_skip ?_))
    replace h := (h.f 1).drop
    refine c_seq (c_region ?_)
    refine r_c rfl (x_bslice (r := []) h rfl rfl rfl fun bz w h => ?_)
    refine r_v (q_moveS rfl) rfl ?_
    have h1 : St w0 (OwnB (some ⟨bz, 0, none⟩) 0 [] :: OwnB ea ec E :: PL :: PT :: OwnS sa sc L :: l) w := St.own_mk (cur := []) h rfl rfl (Nat.le_refl _)
    refine r_c rfl (x_append' (zs := bytesV E) (m3 := E.length) h1 rfl rfl (h1.f 1).own_rd (bytesV_one _) (by simp) (List.nil_append _) (by omega) (by omega) rfl fun ma mc w _ h => ?_)
    clear h1
    refine r_v (q_assignS rfl) rfl ?_
    refine r_nil ?_
    refine c_seq (c_region ?_)
    refine r_v (q_assignI rfl) rfl ?_
    refine r_nil ?_
    refine c_cut (Γ := Nat × List UInt8) (fun q => [(0, .slice s0 L0.length c0), (5, .slice sr raw.length cr), (6, .int .i64 a6), (7, .int .u8 y.toNat), (17, .slice sa L.length sc), (19, .int .i64 tg), (62, .slice (some ⟨bt, 0, none⟩) 3 3), (63, .int .i64 3), (64, .int .i64 i0), (70, .slice (some ⟨bl, 0, none⟩) 2 2), (71, .int .i64 2), (72, .int .i64 i1), (24, .slice ea E.length ec), (26, .slice ma q.2.length mc), (27, .int .i64 q.1)]) (fun q w => q.1 ≤ E.length ∧ q.2.length = E.length ∧ St w0 (OwnB ma mc q.2 :: OwnB ea ec E :: PL :: PT :: OwnS sa sc L :: l) w) ?_ ?_
    ·refine c_seq (c_region ?_)
     refine r_v (q_moveS rfl) rfl ?_; refine r_v (q_len rfl) rfl ?_; refine r_v (q_gtr rfl rfl) rfl ?_
     refine r_nil (c_cond (decide ((E.length : Int) > 0)) rfl (fun hc => ?_) (fun hc => ?_))
     ·have hpos : 0 < E.length := by rw [decide_eq_true_eq] at hc; omega
      obtain ⟨q0, hq0⟩ := Int.eq_ofNat_of_zero_le (show 0 ≤ a6 % 2 ^ 16 by omega)
      have hj := Nat.mod_lt q0 hpos
      obtain ⟨cb, hcsl⟩ := h.own_some hpos
      subst hcsl
      refine c_seq (c_region ?_)
      refine r_v (q_moveI rfl) rfl ?_; refine r_v (q_and rfl rfl) rfl ?_
      refine r_is (.int .i64 (q0 : Int)) (congrArg (Value.int .i64) ((and_mask 16 (by decide) (by decide)).trans hq0)) ?_
      refine r_v (q_moveS rfl) rfl ?_; refine r_v (q_len rfl) rfl ?_
      refine r_v (q_is (v' := .int .i64 ((q0 % E.length : Nat) : Int)) (q_rem rfl rfl (by omega)) (congrArg (Value.int .i64) (tmod_nat _ _))) rfl ?_
      refine r_v (q_assignI rfl) rfl ?_
      refine r_nil ?_
      refine c_region ?_
      refine r_v (q_moveS rfl) rfl ?_; refine r_v (q_moveI rfl) rfl ?_; refine r_v (q_moveI rfl) rfl ?_
      refine r_v (q_idx (b := cb) (o := 0) (m := E.length) (c := mc) (j := q0 % E.length) (o' := q0 % E.length) rfl rfl rfl hj (by simp)) rfl ?_
      refine r_c rfl (x_ownset (v := .int .u8 (y.toNat : Int)) h rfl rfl (by rw [Nat.mul_one]; exact hj) rfl fun w h => ?_)
      rw [bytesV_set] at h
      refine r_nil ⟨(q0 % E.length, E.set (q0 % E.length) y), ⟨rfl, rfl, rfl, rfl, rfl, rfl, rfl, rfl, rfl, rfl, rfl, rfl, rfl, ?_, rfl, trivial⟩, Nat.le_of_lt hj, List.length_set, ?_⟩
      ·show Value.slice _ _ _ = Value.slice _ _ _
       rw [List.length_set]
      ·show St w0 (Own _ 1 _ (E.set (q0 % E.length) y).length _ _ :: _) w
       rw [List.length_set]; exact h
     ·exact c_skip ⟨(0, E), ⟨rfl, rfl, rfl, rfl, rfl, rfl, rfl, rfl, rfl, rfl, rfl, rfl, rfl, rfl, rfl, trivial⟩, Nat.zero_le _, rfl, h⟩
    clear h
    rintro ⟨j, Mu⟩ w e ⟨hjE, hMl, h⟩
    dsimp only at hjE hMl h ⊢
    have hec : E.length ≤ ec := (h.f 1).own_cases.2.1
    have hmc : Mu.length ≤ mc := h.own_cases.2.1
    refine c_cut (Γ := Nat × List HProp) (fun q => [(0, .slice s0 L0.length c0), (5, .slice sr raw.length cr), (6, .int .i64 a6), (7, .int .u8 y.toNat), (17, .slice sa L.length sc), (19, .int .i64 tg), (62, .slice (some ⟨bt, 0, none⟩) 3 3), (63, .int .i64 3), (64, .int .i64 i0), (70, .slice (some ⟨bl, 0, none⟩) 2 2), (71, .int .i64 2), (72, .int .i64 i1), (125, .slice (some ⟨q.1, 0, none⟩) 5 5), (126, .int .i64 5), (127, .int .i64 0)])
     (fun q w => (∀ k, k < 5 → ∃ (a : Option Addr) (c : Nat) (B : List UInt8), B.length ≤ c ∧ B.length ≤ 140737488355328 ∧ (∀ w', St w0 (q.2 ++ (PL :: PT :: OwnS sa sc L :: l)) w' → w'.cell? ⟨q.1, 0 + k * 1, none⟩ = some (.slice a B.length c)) ∧ Reads w0 (q.2 ++ (PL :: PT :: OwnS sa sc L :: l)) 1 a B.length (bytesV B)) ∧ St w0 (q.2 ++ (PL :: PT :: OwnS sa sc L :: l)) w) ?_ ?_
    ·have hjl : (E.take j).length = j := by rw [List.length_take]; omega
     have hjb : bytesV (E.take j) = (bytesV E).take (j * 1) := by unfold bytesV; rw [List.map_take, Nat.mul_one]
     obtain ⟨MF, hMF⟩ : ∃ f : Nat → Option Addr → Nat → List HProp, ∀ b5 ga gc, f b5 ga gc = [pt b5 (.cells [.slice sr raw.length cr, .slice ea E.length ec, .slice ma Mu.length mc, .slice ea j ec, .slice ga (E ++ [y]).length gc].toArray 25 (0, 0)), OwnB ga gc (E ++ [y]), OwnB ma mc Mu, OwnB ea ec E] := ⟨_, fun _ _ _ => rfl⟩
     have fin : ∀ {w : World} (b5 : Nat) (ga : Option Addr) (gc : Nat), St w0 ([pt b5 (.cells [.slice sr raw.length cr, .slice ea E.length ec, .slice ma Mu.length mc, .slice ea j ec, .slice ga (E ++ [y]).length gc].toArray 25 (0, 0)), OwnB ga gc (E ++ [y]), OwnB ma mc Mu, OwnB ea ec E] ++ (PL :: PT :: OwnS sa sc L :: l)) w →
       (∀ k, k < 5 → ∃ (a : Option Addr) (c : Nat) (B : List UInt8), B.length ≤ c ∧ B.length ≤ 140737488355328 ∧ (∀ w', St w0 (MF b5 ga gc ++ (PL :: PT :: OwnS sa sc L :: l)) w' → w'.cell? ⟨b5, 0 + k * 1, none⟩ = some (.slice a B.length c)) ∧ Reads w0 (MF b5 ga gc ++ (PL :: PT :: OwnS sa sc L :: l)) 1 a B.length (bytesV B)) ∧ St w0 (MF b5 ga gc ++ (PL :: PT :: OwnS sa sc L :: l)) w := by
      intro w b5 ga gc hs
      rw [hMF]
      refine ⟨fun k hk => ?_, hs⟩
      have hgc : (E ++ [y]).length ≤ gc := (hs.f 1).own_cases.2.1
      have hgl : (E ++ [y]).length = E.length + 1 := by simp
      rcases (by omega : k = 0 ∨ k = 1 ∨ k = 2 ∨ k = 3 ∨ k = 4) with rfl | rfl | rfl | rfl | rfl
      ·exact ⟨sr, cr, raw, hcr, by omega, fun w' h' => cell_of (h'.b 0 rfl) rfl, hrr2.more [_, _, _, _]⟩
      ·exact ⟨ea, ec, E, hec, by omega, fun w' h' => cell_of (h'.b 0 rfl) rfl, (Reads.own (l := PL :: PT :: OwnS sa sc L :: l)).more [_, _, _]⟩
      ·exact ⟨ma, mc, Mu, hmc, by omega, fun w' h' => cell_of (h'.b 0 rfl) rfl, (Reads.own (l := OwnB ea ec E :: PL :: PT :: OwnS sa sc L :: l)).more [_, _]⟩
      ·refine ⟨ea, ec, E.take j, by omega, by omega, fun w' h' => by rw [hjl]; exact cell_of (h'.b 0 rfl) rfl, ?_⟩
       rw [hjl, hjb]
       exact ((Reads.own (l := PL :: PT :: OwnS sa sc L :: l)).head hjE).more [_, _, _]
      ·exact ⟨ga, gc, E ++ [y], hgc, by omega, fun w' h' => cell_of (h'.b 0 rfl) rfl, (Reads.own (l := OwnB ma mc Mu :: OwnB ea ec E :: PL :: PT :: OwnS sa sc L :: l)).more [_]⟩
     refine c_anyW [0, 1, 2, 3, 4, 5, 6, 7, 8, 9, 10, 11, 12, 13, 14] none (fun w => ∃ M, St w0 (M ++ (OwnB ma mc Mu :: OwnB ea ec E :: PL :: PT :: OwnS sa sc L :: l)) w) (by kernel_rfl) (by kernel_rfl) ?_
     replace h := h.drew
     generalize w.drew = w at h
     have hs := h
     replace h : ∃ M, St w0 (M ++ (OwnB ma mc Mu :: OwnB ea ec E :: PL :: PT :: OwnS sa sc L :: l)) w := ⟨[], hs⟩
     refine cur_pure rfl rfl rfl rfl (fun _ => h) (fun _ => flt_v rfl (q_moveS rfl)) ?_; refine cur_pure rfl rfl rfl rfl (fun _ => h) (fun _ => flt_v rfl (q_moveS rfl)) ?_; refine cur_pure rfl rfl rfl rfl (fun _ => h) (fun _ => flt_v rfl (q_moveS rfl)) ?_; refine cur_pure rfl rfl rfl rfl (fun _ => h) (fun _ => flt_v rfl (q_moveS rfl)) ?_; refine cur_pure rfl rfl rfl rfl (fun _ => h) (fun _ => flt_v rfl (q_moveI rfl)) ?_
     refine cur_pure rfl rfl rfl rfl (fun _ => h) (fun _ => flt_v rfl (q_head (h := j) rfl rfl (by omega))) ?_
     refine cur_skip ?_; refine cur_pure rfl rfl rfl rfl (fun _ => h) (fun _ => flt_v rfl (q_moveS rfl)) ?_; refine cur_skip ?_; refine cur_pure rfl rfl rfl rfl (fun _ => h) (fun _ => flt_v rfl (q_moveI rfl)) ?_; refine cur_skip ?_; refine cur_skip ?_; refine cur_skip ?_; refine cur_skip ?_; refine cur_pure rfl rfl rfl rfl (fun _ => h) (fun _ => flt_v rfl (q_moveI rfl)) ?_
     refine cur_two 6 10 rfl rfl rfl rfl rfl rfl ?_ ?_
     ·refine (x_bslice (r := []) hs rfl rfl rfl fun bz w hs => ?_)
      replace h : ∃ M, St w0 (M ++ (OwnB ma mc Mu :: OwnB ea ec E :: PL :: PT :: OwnS sa sc L :: l)) w := ⟨[_], hs⟩
      refine ⟨fun _ => h, ?_⟩
      refine cur_skip ?_; refine cur_skip ?_; refine cur_skip ?_; refine cur_skip ?_; refine cur_skip ?_
      refine cur_two 8 10 rfl rfl rfl rfl rfl rfl ?_ ?_
      ·refine (x_append' (zs := bytesV E) (m3 := E.length) (St.own_mk (T := 5) (sz := 1) (cur := []) (n := 0) (c := 0) (xs := []) hs rfl rfl (Nat.le_refl _)) rfl rfl (hs.f 2).own_rd (bytesV_one _) (by simp) (List.nil_append _) (by omega) (by omega) rfl fun fa fc w _ hs => ?_)
       replace h : ∃ M, St w0 (M ++ (OwnB ma mc Mu :: OwnB ea ec E :: PL :: PT :: OwnS sa sc L :: l)) w := ⟨[_], hs⟩
       refine ⟨fun _ => h, ?_⟩
       refine cur_skip ?_; refine cur_skip ?_; refine cur_skip ?_; refine cur_skip ?_
       refine cur_one 10 rfl rfl rfl rfl ?_
       refine (x_bslice (r := bytesV [y]) hs rfl rfl rfl fun bo w hs => ?_)
       replace h : ∃ M, St w0 (M ++ (OwnB ma mc Mu :: OwnB ea ec E :: PL :: PT :: OwnS sa sc L :: l)) w := ⟨[_, _], hs⟩
       refine ⟨fun _ => h, ?_⟩
       refine cur_skip ?_; refine cur_skip ?_; refine cur_skip ?_
       refine cur_one 11 rfl rfl rfl rfl ?_
       refine (x_append' (ys := bytesV [y]) (zs := bytesV (E ++ [y])) (m3 := (E ++ [y]).length) (hs.f 1) rfl rfl ⟨rfl, .inr ⟨bo, 0, rfl, at_of (hs.b 0 rfl) rfl⟩⟩ (bytesV_one _) (by simp) (by simp [bytesV]) (by simp; omega) (by simp; omega) rfl fun ga gc w _ hs => ?_)
       replace hs := hs.x [1]
       replace h : ∃ M, St w0 (M ++ (OwnB ma mc Mu :: OwnB ea ec E :: PL :: PT :: OwnS sa sc L :: l)) w := ⟨[_], hs⟩
       refine ⟨fun _ => h, ?_⟩
       refine cur_skip ?_; refine cur_skip ?_
       refine cur_one 12 rfl rfl rfl rfl ?_
       refine (x_bslice (r := [.slice sr raw.length cr, .slice ea E.length ec, .slice ma Mu.length mc, .slice ea j ec, .slice ga (E ++ [y]).length gc]) hs rfl rfl rfl fun b5 w hs => ?_)
       replace h : ∃ M, St w0 (M ++ (OwnB ma mc Mu :: OwnB ea ec E :: PL :: PT :: OwnS sa sc L :: l)) w := ⟨[_, _], hs⟩
       refine ⟨fun _ => h, ?_⟩
       refine cur_pure rfl rfl rfl rfl (fun _ => h) (fun _ => flt_v rfl (q_len rfl)) ?_
       exact cur_end ⟨(b5, MF b5 ga gc), ⟨rfl, rfl, rfl, rfl, rfl, rfl, rfl, rfl, rfl, rfl, rfl, rfl, rfl, rfl, rfl, trivial⟩, fin b5 ga gc hs⟩
      ·refine (x_bslice (r := bytesV [y]) hs rfl rfl rfl fun bo w hs => ?_)
       replace h : ∃ M, St w0 (M ++ (OwnB ma mc Mu :: OwnB ea ec E :: PL :: PT :: OwnS sa sc L :: l)) w := ⟨[_, _], hs⟩
       refine ⟨fun _ => h, ?_⟩
       refine cur_skip ?_; refine cur_skip ?_; refine cur_skip ?_; refine cur_skip ?_
       refine cur_one 8 rfl rfl rfl rfl ?_
       refine (x_append' (zs := bytesV E) (m3 := E.length) (St.own_mk (T := 5) (sz := 1) (cur := []) (n := 0) (c := 0) (xs := []) (hs.f 1) rfl rfl (Nat.le_refl _)) rfl rfl ((hs.f 3)).own_rd (bytesV_one _) (by simp) (List.nil_append _) (by omega) (by omega) rfl fun fa fc w _ hs => ?_)
       replace h : ∃ M, St w0 (M ++ (OwnB ma mc Mu :: OwnB ea ec E :: PL :: PT :: OwnS sa sc L :: l)) w := ⟨[_, _], hs⟩
       refine ⟨fun _ => h, ?_⟩
       refine cur_skip ?_; refine cur_skip ?_; refine cur_skip ?_
       refine cur_one 11 rfl rfl rfl rfl ?_
       refine (x_append' (ys := bytesV [y]) (zs := bytesV (E ++ [y])) (m3 := (E ++ [y]).length) hs rfl rfl ⟨rfl, .inr ⟨bo, 0, rfl, at_of (hs.b 1 rfl) rfl⟩⟩ (bytesV_one _) (by simp) (by simp [bytesV]) (by simp; omega) (by simp; omega) rfl fun ga gc w _ hs => ?_)
       replace hs := hs.x [1]
       replace h : ∃ M, St w0 (M ++ (OwnB ma mc Mu :: OwnB ea ec E :: PL :: PT :: OwnS sa sc L :: l)) w := ⟨[_], hs⟩
       refine ⟨fun _ => h, ?_⟩
       refine cur_skip ?_; refine cur_skip ?_
       refine cur_one 12 rfl rfl rfl rfl ?_
       refine (x_bslice (r := [.slice sr raw.length cr, .slice ea E.length ec, .slice ma Mu.length mc, .slice ea j ec, .slice ga (E ++ [y]).length gc]) hs rfl rfl rfl fun b5 w hs => ?_)
       replace h : ∃ M, St w0 (M ++ (OwnB ma mc Mu :: OwnB ea ec E :: PL :: PT :: OwnS sa sc L :: l)) w := ⟨[_, _], hs⟩
       refine ⟨fun _ => h, ?_⟩
       refine cur_pure rfl rfl rfl rfl (fun _ => h) (fun _ => flt_v rfl (q_len rfl)) ?_
       exact cur_end ⟨(b5, MF b5 ga gc), ⟨rfl, rfl, rfl, rfl, rfl, rfl, rfl, rfl, rfl, rfl, rfl, rfl, rfl, rfl, rfl, trivial⟩, fin b5 ga gc hs⟩
     ·refine (x_bslice (r := bytesV [y]) hs rfl rfl rfl fun bo w hs => ?_)
      replace h : ∃ M, St w0 (M ++ (OwnB ma mc Mu :: OwnB ea ec E :: PL :: PT :: OwnS sa sc L :: l)) w := ⟨[_], hs⟩
      refine ⟨fun _ => h, ?_⟩
      refine cur_skip ?_; refine cur_skip ?_; refine cur_skip ?_; refine cur_skip ?_; refine cur_skip ?_
      refine cur_one 6 rfl rfl rfl rfl ?_
      refine (x_bslice (r := []) hs rfl rfl rfl fun bz w hs => ?_)
      replace h : ∃ M, St w0 (M ++ (OwnB ma mc Mu :: OwnB ea ec E :: PL :: PT :: OwnS sa sc L :: l)) w := ⟨[_, _], hs⟩
      refine ⟨fun _ => h, ?_⟩
      refine cur_skip ?_; refine cur_skip ?_; refine cur_skip ?_; refine cur_skip ?_
      refine cur_one 8 rfl rfl rfl rfl ?_
      refine (x_append' (zs := bytesV E) (m3 := E.length) (St.own_mk (T := 5) (sz := 1) (cur := []) (n := 0) (c := 0) (xs := []) hs rfl rfl (Nat.le_refl _)) rfl rfl (hs.f 3).own_rd (bytesV_one _) (by simp) (List.nil_append _) (by omega) (by omega) rfl fun fa fc w _ hs => ?_)
      replace h : ∃ M, St w0 (M ++ (OwnB ma mc Mu :: OwnB ea ec E :: PL :: PT :: OwnS sa sc L :: l)) w := ⟨[_, _], hs⟩
      refine ⟨fun _ => h, ?_⟩
      refine cur_skip ?_; refine cur_skip ?_; refine cur_skip ?_
      refine cur_one 11 rfl rfl rfl rfl ?_
      refine (x_append' (ys := bytesV [y]) (zs := bytesV (E ++ [y])) (m3 := (E ++ [y]).length) hs rfl rfl ⟨rfl, .inr ⟨bo, 0, rfl, at_of (hs.b 1 rfl) rfl⟩⟩ (bytesV_one _) (by simp) (by simp [bytesV]) (by simp; omega) (by simp; omega) rfl fun ga gc w _ hs => ?_)
      replace hs := hs.x [1]
      replace h : ∃ M, St w0 (M ++ (OwnB ma mc Mu :: OwnB ea ec E :: PL :: PT :: OwnS sa sc L :: l)) w := ⟨[_], hs⟩
      refine ⟨fun _ => h, ?_⟩
      refine cur_skip ?_; refine cur_skip ?_
      refine cur_one 12 rfl rfl rfl rfl ?_
      refine (x_bslice (r := [.slice sr raw.length cr, .slice ea E.length ec, .slice ma Mu.length mc, .slice ea j ec, .slice ga (E ++ [y]).length gc]) hs rfl rfl rfl fun b5 w hs => ?_)
      replace h : ∃ M, St w0 (M ++ (OwnB ma mc Mu :: OwnB ea ec E :: PL :: PT :: OwnS sa sc L :: l)) w := ⟨[_, _], hs⟩
      refine ⟨fun _ => h, ?_⟩
      refine cur_pure rfl rfl rfl rfl (fun _ => h) (fun _ => flt_v rfl (q_len rfl)) ?_
      exact cur_end ⟨(b5, MF b5 ga gc), ⟨rfl, rfl, rfl, rfl, rfl, rfl, rfl, rfl, rfl, rfl, rfl, rfl, rfl, rfl, rfl, trivial⟩, fin b5 ga gc hs⟩
    clear h
    rintro ⟨b5, M⟩ w e ⟨hk5, h⟩
    dsimp only at hk5 h ⊢
    refine c_block ?_
    refine c_loop (Γ := Nat) (fun i => [(0, .slice s0 L0.length c0), (5, .slice sr raw.length cr), (6, .int .i64 a6), (7, .int .u8 y.toNat), (17, .slice sa L.length sc), (19, .int .i64 tg), (62, .slice (some ⟨bt, 0, none⟩) 3 3), (63, .int .i64 3), (64, .int .i64 i0), (70, .slice (some ⟨bl, 0, none⟩) 2 2), (71, .int .i64 2), (72, .int .i64 i1), (125, .slice (some ⟨b5, 0, none⟩) 5 5), (126, .int .i64 5), (127, .int .i64 i)])
     (fun i w => i ≤ 5 ∧ St w0 (M ++ (PL :: PT :: OwnS sa sc L :: l)) w) (fun i => 5 - i) 0 ⟨rfl, rfl, rfl, rfl, rfl, rfl, rfl, rfl, rfl, rfl, rfl, rfl, rfl, rfl, rfl, trivial⟩ ⟨by decide, h⟩ ?_
    clear h
    rintro i w e ⟨hi, h⟩
    refine c_seq (c_region ?_)
    refine r_v (q_lss rfl rfl) rfl ?_
    refine r_nil ?_
    refine c_seq (c_cond (decide ((i : Int) < 5)) rfl (fun hc => ?_) (fun hc => ?_))
    ·have hi5 : i < 5 := by rw [decide_eq_true_eq] at hc; omega
     obtain ⟨ba, bc, B, hBc, hBn, hat, hrB⟩ := hk5 i hi5
     refine c_skip ?_
     refine c_seq (c_block ?_)
     refine c_seq (c_region ?_)
     refine r_v (q_idx (b := b5) (o := 0) (m := 5) (c := 5) (o' := 0 + i * 1) rfl rfl rfl hi5 rfl) rfl ?_
     refine r_v (q_loadc (v := .slice ba B.length bc) rfl (hat _ h)) rfl ?_
     refine r_v (q_assignS rfl) rfl ?_
     refine r_nil ?_
     refine c_seq (c_region ?_)
     refine r_v (q_moveS rfl) rfl ?_
     refine r_c rfl (x_call rfl (chnk_Open hT hBn hBc hrB h) ?_)
     rintro _ w ⟨p1, q1, rfl, hO1, h⟩
     refine r_v (q_moveT rfl) rfl ?_; refine r_v (q_ext rfl rfl) rfl ?_; refine r_v (q_ext rfl rfl) rfl ?_; refine r_v (q_ext rfl rfl) rfl ?_; refine r_v (q_assignS rfl) rfl ?_; refine r_v (q_assignI rfl) rfl ?_; refine r_v (q_assignB rfl) rfl ?_
     refine r_nil ?_
     refine c_seq (c_region ?_)
     refine r_v (q_moveS rfl) rfl ?_
     refine r_c rfl (x_call rfl (ref10_Open hBn hBc hrB.cons h) ?_)
     rintro _ w ⟨p2, q2, rfl, _, h⟩
     refine r_v (q_moveT rfl) rfl ?_; refine r_v (q_ext rfl rfl) rfl ?_; refine r_v (q_ext rfl rfl) rfl ?_; refine r_v (q_ext rfl rfl) rfl ?_; refine r_v (q_assignS rfl) rfl ?_; refine r_v (q_assignI rfl) rfl ?_; refine r_v (q_assignB rfl) rfl ?_
     refine r_nil ?_
     have hDl : (((chOpen B).map Prod.fst).getD []).length ≤ 65535 := by
      cases hD : chOpen B with
      | none => exact Nat.zero_le _
      | some D => exact (hO1 D.1 D.2 hD).1
     generalize (chOpen B).isSome = o3
     generalize ((chOpen B).map Prod.snd).getD 0 = tt
     generalize ((chOpen B).map Prod.fst).getD [] = D at hDl h ⊢
     obtain ⟨i0_, i1_, i2_, i3_, hH⟩ := hd_four (headDec B)
     refine c_seq (c_region ?_)
     refine r_v (q_moveS rfl) rfl ?_
     refine r_c rfl (x_call rfl (chnk_Head hBn hBc hrB.cons.cons h) ?_)
     rintro _ w ⟨rfl, h⟩
     rw [hH]
     refine r_v (q_moveT rfl) rfl ?_; refine r_v (q_ext rfl rfl) rfl ?_; refine r_v (q_ext rfl rfl) rfl ?_
     refine r_c rfl (x_alloc h fun bh w h => ?_)
     refine r_c rfl (x_storeA (vs := [.int .i64 i0_, .int .i64 i1_, .int .i64 i2_, .int .i64 i3_]) 0 h rfl rfl rfl rfl rfl rfl rfl fun w h => ?_)
     replace h : St w0 (pt bh (.cells [.int .i64 i0_, .int .i64 i1_, .int .i64 i2_, .int .i64 i3_].toArray 43 (0, 0)) :: OwnS p2 q2 D :: OwnS p1 q1 D :: (M ++ (PL :: PT :: OwnS sa sc L :: l))) w := h
     refine r_v (q_assignB rfl) rfl ?_
     refine r_nil ?_
     refine c_seq (c_region ?_)
     refine r_v (q_moveS rfl) rfl ?_
     refine r_c rfl (x_call rfl (ref10_HeadF hBn hBc hrB.cons.cons.cons h) ?_)
     rintro _ w ⟨rfl, h⟩
     rw [hH]
     refine r_v (q_moveT rfl) rfl ?_; refine r_v (q_ext rfl rfl) rfl ?_; refine r_v (q_ext rfl rfl) rfl ?_
     refine r_c rfl (x_alloc h fun bg w h => ?_)
     refine r_c rfl (x_storeA (vs := [.int .i64 i0_, .int .i64 i1_, .int .i64 i2_, .int .i64 i3_]) 0 h rfl rfl rfl rfl rfl rfl rfl fun w h => ?_)
     replace h : St w0 (pt bg (.cells [.int .i64 i0_, .int .i64 i1_, .int .i64 i2_, .int .i64 i3_].toArray 43 (0, 0)) :: pt bh (.cells [.int .i64 i0_, .int .i64 i1_, .int .i64 i2_, .int .i64 i3_].toArray 43 (0, 0)) :: OwnS p2 q2 D :: OwnS p1 q1 D :: (M ++ (PL :: PT :: OwnS sa sc L :: l))) w := h
     refine r_v (q_assignB rfl) rfl ?_
     refine r_nil ?_
     generalize (headDec B).isSome = o4
     refine c_seq (c_region ?_)
     refine r_v (q_moveB rfl) rfl ?_; refine r_v (q_moveB rfl) rfl ?_; refine r_v (q_neb rfl rfl) rfl ?_
     refine r_is (.bool false) (by simp) ?_
     refine r_v (q_moveB rfl) rfl ?_; refine r_gd rfl rfl ?_; refine r_v (q_moveI rfl) rfl ?_; refine r_gd rfl rfl ?_; refine r_v (q_moveI rfl) rfl ?_; refine r_gd rfl rfl ?_
     refine r_v (q_is (v' := .bool false) (q_neq rfl rfl) (by simp)) rfl ?_
     refine r_v (q_pick0 rfl rfl rfl) rfl ?_; refine r_v (q_moveB rfl) rfl ?_; refine r_gd rfl rfl ?_; refine r_v (q_moveS rfl) rfl ?_; refine r_gd rfl rfl ?_; refine r_v (q_moveS rfl) rfl ?_; refine r_gd rfl rfl ?_
     refine r_c rfl (x_call rfl (ref10_Same (L1 := D) (L2 := D) h (fun w' h' => (h'.f 3).own_rd) (fun w' h' => (h'.f 2).own_rd) (by omega)) ?_)
     rintro _ w ⟨rfl, h⟩
     refine r_gd rfl rfl ?_; refine r_v (q_not rfl) rfl ?_
     refine r_is (.bool false) (by simp) ?_
     refine r_v (q_pick0 rfl rfl rfl) rfl ?_; refine r_v (q_moveB rfl) rfl ?_; refine r_gd rfl rfl ?_
     refine r_v (q_loadS (l := [.int .i64 i0_, .int .i64 i1_, .int .i64 i2_, .int .i64 i3_]) rfl rfl (at_of (h.b 1 rfl) rfl)) rfl ?_
     refine r_gd rfl rfl ?_
     refine r_v (q_loadS (l := [.int .i64 i0_, .int .i64 i1_, .int .i64 i2_, .int .i64 i3_]) rfl rfl (at_of (h.b 0 rfl) rfl)) rfl ?_
     refine r_gd rfl rfl ?_
     refine r_v (q_is (v' := .bool false) (q_neI [i0_, i1_, i2_, i3_] [i0_, i1_, i2_, i3_] rfl rfl rfl rfl) (by rw [beq_self_eq_true]; rfl)) rfl ?_
     refine r_v (q_pick0 rfl rfl rfl) rfl ?_; refine r_v (q_moveB rfl) rfl ?_; refine r_gd rfl rfl ?_; refine r_v (q_moveB rfl) rfl ?_; refine r_gd rfl rfl ?_; refine r_v (q_moveB rfl) rfl ?_; refine r_gd rfl rfl ?_; refine r_v (q_neb rfl rfl) rfl ?_
     refine r_is (.bool false) (by simp) ?_
     refine r_v (q_pick0 rfl rfl rfl) rfl ?_
     refine r_nil (c_false rfl (c_skip ?_))
     refine c_region ?_
     refine r_v (q_add rfl rfl) rfl ?_
     refine r_is (.int .i64 ((i + 1 : Nat) : Int)) (by rw [wrap64 (by omega) (by omega)]; rfl) ?_
     refine r_v (q_moveI rfl) rfl ?_
     exact r_nil ⟨i + 1, ⟨rfl, rfl, rfl, rfl, rfl, rfl, rfl, rfl, rfl, rfl, rfl, rfl, rfl, rfl, rfl, trivial⟩, ⟨hi5, h.drop.drop.drop.drop⟩, by omega⟩
    ·refine c_exit ?_
     replace h := h.drops
     refine c_region ?_
     refine r_v (q_add rfl rfl) rfl ?_
     refine r_is (.int .i64 ((i1 + 1 : Nat) : Int)) (by rw [wrap64 (by omega) (by omega)]; rfl) ?_
     refine r_v (q_moveI rfl) rfl ?_
     exact r_nil ⟨i1 + 1, ⟨rfl, rfl, rfl, rfl, rfl, rfl, rfl, rfl, rfl, rfl, rfl, rfl, trivial⟩, ⟨hlt1, h⟩, by omega⟩
   ·refine c_exit ?_
    refine c_region ?_
    refine r_v (q_add rfl rfl) rfl ?_
    refine r_is (.int .i64 ((i0 + 1 : Nat) : Int)) (by rw [wrap64 (by omega) (by omega)]; rfl) ?_
    refine r_v (q_moveI rfl) rfl ?_
    exact r_nil ⟨i0 + 1, ⟨rfl, rfl, rfl, rfl, rfl, rfl, rfl, rfl, trivial⟩, ⟨hlt0, h.drop⟩, by omega⟩
  ·exact c_exit ⟨(), trivial, h.drop.drop⟩
 clear h
 rintro ⟨⟩ w e h
 refine c_seq (c_region ?_)
 refine r_c rfl (x_call rfl (law11_awake hT h) ?_)
 rintro _ w ⟨rfl, h⟩
 refine r_v (q_assignB rfl) rfl ?_
 exact r_nil (c_ret (bq1 ⟨rfl, h⟩))
end
end Go.Proofs.YtjjacchnalemaaaGreatDoor
