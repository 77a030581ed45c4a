/- Layer 21: the walk of 'IterMany'. -/
import Derived.Test.YtgahjjihfibbnaaLaw21a
namespace Go.Proofs.Ytgahjjihfibbnaa
open Go.Hw
set_option maxHeartbeats 4000000

theorem r_bool {P : Program} {n : Nat} {ops : Array Oper} {Q : Post} {rest : List Oper} {e : Env} {w : World} {c : Nat} {b : Bool} (h : ∀ b' : Bool, Rn P n ops Q rest (upd e c (.bool b')) w) : Rn P n ops Q rest (upd e c (.bool b)) w := h b
theorem r_int {P : Program} {n : Nat} {ops : Array Oper} {Q : Post} {rest : List Oper} {e : Env} {w : World} {c : Nat} {k : IntKind} {b : Int} (h : ∀ b' : Int, b' = b → Rn P n ops Q rest (upd e c (.int k b')) w) : Rn P n ops Q rest (upd e c (.int k b)) w := h b rfl

abbrev openL (l : List (Int × One)) : List (Int × Value) := l.map fun p => (p.1, (fun _ : One => Value.bool true) p.2)
structure ManyInv (T : Tab) (i : Nat) : Prop where
  nd : (keys T.l).Nodup
  fresh : ∀ k ∈ keys T.l, k ≤ T.last
  l0 : 0 ≤ T.last
  l1 : T.last ≤ i
  idle : ∀ k o, mget k T.l = some o → o.used = false
theorem ManyInv.next {T : Tab} {i : Nat} (h : ManyInv T i) : mget (T.last + 1) T.l = none := by
  rw [mget_none]
  intro hm
  have := h.fresh _ hm
  omega
theorem ManyInv.opened {T : Tab} {i : Nat} (h : ManyInv T i) {series : Int} {x : SnapV} : ManyInv ⟨T.last + 1, mset (T.last + 1) ⟨series, 0, x, false, 0⟩ T.l⟩ (i + 1) := by
  have hl0 := h.l0
  have hl1 := h.l1
  refine ⟨mset_nodup h.nd, ?_, by dsimp only; omega, by dsimp only; omega, ?_⟩
  · intro k hk
    dsimp only at hk ⊢
    rw [keys_mset, if_neg (by rw [← mget_none]; exact h.next)] at hk
    rcases List.mem_append.1 hk with hk | hk
    · have := h.fresh k hk; omega
    · simp at hk; omega
  · intro k o ho
    dsimp only at ho
    rw [mget_mset] at ho
    split at ho
    · cases ho; rfl
    · exact h.idle k o ho
theorem ManyInv.more {T : Tab} {i : Nat} (h : ManyInv T i) : ManyInv T (i + 1) := ⟨h.nd, h.fresh, h.l0, by have := h.l1; omega, h.idle⟩
theorem ManyInv.closed {T : Tab} {i : Nat} (h : ManyInv T i) (k : Int) : ManyInv ⟨T.last, mdel k T.l⟩ i := by
  refine ⟨mdel_nodup h.nd, ?_, h.l0, h.l1, ?_⟩
  · intro j hj
    dsimp only at hj ⊢
    rw [keys_mdel] at hj
    exact h.fresh j (List.mem_of_mem_erase hj)
  · intro j o ho
    dsimp only at ho
    rw [mget_mdel _ _ _ h.nd] at ho
    split at ho
    · cases ho
    · exact h.idle j o ho

section
variable {w : World}
theorem law21_IterMany (num closes : Int) : Ret Try.prog 6 [.int .i64 num, .int .i64 closes] w fun v w' => v = .bool true ∧ St w [] w' := by
  have h := St.init w
  generalize hw0 : w = w0 at h
  clear hw0
  refine enter Try.func6 rfl Try.results6 Try.ntmps6 rfl ?_
  refine c_seq (c_region ?_)
  refine r_v (q_assignB rfl) rfl ?_
  refine r_nil ?_
  refine c_seq (c_region ?_)
  refine r_c rfl (x_call rfl (iter_New h) ?_)
  rintro _ w ⟨p, rfl, h⟩
  refine r_v (q_assignP rfl) rfl ?_
  refine r_nil ?_
  refine c_seq (c_seq (c_region ?_))
  refine r_v (q_moveP rfl) rfl ?_; refine r_v (q_eqnil rfl rfl) rfl ?_
  refine r_nil ?_
  refine c_false rfl (c_skip ?_)
  refine c_seq (c_region ?_)
  have hm := and_mask (a := num) (m := 31) 5 (by decide) (by decide)
  refine r_v (q_moveI rfl) rfl ?_; refine r_v (q_and rfl rfl) rfl ?_; refine r_v (q_assignI rfl) rfl ?_
  generalize bitOp .and .i64 num 31 = M at hm ⊢
  obtain ⟨m, rfl⟩ := Int.eq_ofNat_of_zero_le (show 0 ≤ M by omega)
  have hm : m < 32 := by omega
  refine r_nil ?_
  refine c_seq (c_region ?_)
  refine r_c rfl (x_mkmap (Value.int .i64) h fun q w h => ?_)
  refine r_v (q_assignM rfl) rfl ?_
  refine r_nil ?_
  refine c_seq (c_region ?_)
  refine r_v (q_assignI rfl) rfl ?_
  refine r_nil ?_
  refine c_seq (c_seq (c_region ?_))
  refine r_v (q_assignI rfl) rfl ?_
  refine r_nil ?_
  refine c_block ?_
  refine c_loop (Γ := Nat × Tab) (fun k => [(0, .int .i64 m), (1, .int .i64 closes), (5, .pointer (some ⟨p, 0, none⟩)), (6, .map (some q)), (7, .int .i64 k.2.last), (8, .int .i64 k.1)])
    (fun k w => k.1 ≤ m ∧ ManyInv k.2 k.1 ∧ St w0 [IsTab p k.2, MapOf (Value.int .i64) q (openL k.2.l)] w) (fun k => m - k.1) (0, ⟨0, []⟩) ⟨rfl, rfl, rfl, rfl, rfl, rfl, trivial⟩ ⟨Nat.zero_le _, ⟨List.nodup_nil, by simp [keys], Int.le_refl _, Int.le_refl _, by simp [mget]⟩, h.f 1⟩ ?_
  clear h
  rintro ⟨i, T⟩ w e ⟨hi, inv, h⟩
  dsimp only at hi inv h ⊢
  refine c_seq (c_seq (c_region ?_))
  refine r_v (q_moveI rfl) rfl ?_; refine r_v (q_moveI rfl) rfl ?_; refine r_v (q_lss rfl rfl) rfl ?_
  refine r_nil ?_
  refine c_cond _ rfl (fun hc => ?_) (fun hc => ?_)
  ·
    have him : i < m := by simp at hc; omega
    have hT0 := inv.l0
    have hT1 := inv.l1
    refine c_skip ?_
    refine c_seq (c_block ?_)
    refine c_cut (Γ := Bool × Int) (fun k => [(0, .int .i64 m), (1, .int .i64 closes), (5, .pointer (some ⟨p, 0, none⟩)), (6, .map (some q)), (7, .int .i64 T.last), (8, .int .i64 i), (9, .int .i64 (bif k.1 then T.last + 1 else 0)), (10, .bool k.1)])
      (fun k w => (k.1 = true ∧ T.l.length < 8 ∧ St w0 [IsTab p ⟨T.last + 1, mset (T.last + 1) ⟨k.2, 0, snapL i, false, 0⟩ T.l⟩, MapOf (Value.int .i64) q (openL T.l)] w) ∨ (k.1 = false ∧ 8 ≤ T.l.length ∧ St w0 [IsTab p T, MapOf (Value.int .i64) q (openL T.l)] w)) ?_ ?_
    · refine c_region ?_
      refine r_v (q_moveP rfl) rfl ?_; refine r_v (q_moveI rfl) rfl ?_; refine r_v (q_and rfl rfl) rfl ?_; refine r_v (q_moveI rfl) rfl ?_
      refine r_v (q_build (r := (snapL i).cells none 0 none 0) rfl) rfl ?_
      by_cases h8 : T.l.length < 8
      · refine r_c rfl (x_call rfl (iter_Open1 (snapL_wf i) _ h h8 inv.next (by omega) (by omega) (fun _ _ => rd_none) (fun _ _ => rd_none)) ?_)
        rintro _ w ⟨rfl, h⟩
        refine r_v (q_moveT rfl) rfl ?_; refine r_v (q_ext rfl rfl) rfl ?_; refine r_v (q_ext rfl rfl) rfl ?_; refine r_v (q_assignI rfl) rfl ?_; refine r_v (q_assignB rfl) rfl ?_
        exact r_nil ⟨(true, _), ⟨rfl, rfl, rfl, rfl, rfl, rfl, rfl, rfl, trivial⟩, .inl ⟨rfl, h8, h⟩⟩
      · refine r_c rfl (x_call rfl (iter_Open0 (x := snapL i) _ h (by omega)) ?_)
        rintro _ w ⟨rfl, h⟩
        refine r_v (q_moveT rfl) rfl ?_; refine r_v (q_ext rfl rfl) rfl ?_; refine r_v (q_ext rfl rfl) rfl ?_; refine r_v (q_assignI rfl) rfl ?_; refine r_v (q_assignB rfl) rfl ?_
        exact r_nil ⟨(false, 0), ⟨rfl, rfl, rfl, rfl, rfl, rfl, rfl, rfl, trivial⟩, .inr ⟨rfl, by omega, h⟩⟩
    clear h
    rintro ⟨ok, series⟩ w e h
    dsimp only at h ⊢
    refine c_cut (Γ := Unit) (fun _ => [(0, .int .i64 m), (1, .int .i64 closes), (5, .pointer (some ⟨p, 0, none⟩)), (6, .map (some q)), (7, .int .i64 T.last), (8, .int .i64 i), (9, .int .i64 (bif ok then T.last + 1 else 0)), (10, .bool ok)])
      (fun _ w => (ok = true ∧ T.l.length < 8 ∧ St w0 [IsTab p ⟨T.last + 1, mset (T.last + 1) ⟨series, 0, snapL i, false, 0⟩ T.l⟩, MapOf (Value.int .i64) q (openL T.l)] w) ∨ (ok = false ∧ 8 ≤ T.l.length ∧ St w0 [IsTab p T, MapOf (Value.int .i64) q (openL T.l)] w)) ?_ ?_
    · have hmap : IsMap (Value.int .i64) w q (openL T.l) := by
        rcases h with ⟨_, _, h⟩ | ⟨_, _, h⟩ <;> exact (h.f 1).isMap
      refine c_seq (c_region ?_)
      refine r_v (q_moveB rfl) rfl ?_; refine r_v (q_moveM rfl) rfl ?_
      refine r_v (q_lenm rfl hmap) rfl ?_
      refine r_v (q_lss rfl rfl) rfl ?_; refine r_v (q_neb rfl rfl) rfl ?_
      refine r_is (.bool false) (by rcases h with ⟨rfl, h8, _⟩ | ⟨rfl, h8, _⟩ <;> simp <;> omega) ?_
      refine r_nil ?_
      exact c_false rfl (c_skip ⟨(), ⟨rfl, rfl, rfl, rfl, rfl, rfl, rfl, rfl, trivial⟩, h⟩)
    clear h
    rintro ⟨⟩ w e h
    refine c_cut (Γ := Tab) (fun T => [(0, .int .i64 m), (1, .int .i64 closes), (5, .pointer (some ⟨p, 0, none⟩)), (6, .map (some q)), (7, .int .i64 T.last), (8, .int .i64 i)])
      (fun T w => ManyInv T (i + 1) ∧ St w0 [IsTab p T, MapOf (Value.int .i64) q (openL T.l)] w) ?_ ?_
    · refine c_seq (c_region ?_)
      refine r_v (q_moveB rfl) rfl ?_
      refine r_nil ?_
      rcases h with ⟨rfl, h8, h⟩ | ⟨rfl, h8, h⟩
      · refine c_true rfl ?_
        refine c_seq (c_region ?_)
        refine r_v (q_moveI rfl) rfl ?_; refine r_v (q_add rfl rfl) rfl ?_
        refine r_is (.int .i64 (T.last + 1)) (by rw [wrap64 (by omega) (by omega)]) ?_
        refine r_v (q_assignI rfl) rfl ?_
        refine r_nil ?_
        refine c_seq (c_seq (c_region ?_))
        refine r_v (q_moveI rfl) rfl ?_; refine r_v (q_moveI rfl) rfl ?_; refine r_v (q_neq rfl rfl) rfl ?_
        refine r_is (.bool false) (by simp) ?_
        refine r_nil ?_
        refine c_false rfl (c_skip ?_)
        refine c_region ?_
        refine r_v (q_moveM rfl) rfl ?_; refine r_v (q_moveI rfl) rfl ?_
        refine r_c rfl (x_mapset (v := .bool true) (h.f 1) rfl rfl rfl fun w h => ?_)
        refine r_nil ⟨_, ⟨rfl, rfl, rfl, rfl, rfl, rfl, trivial⟩, inv.opened (series := series) (x := snapL i), ?_⟩
        dsimp only [cond_true] at h ⊢
        have e1 := mset_map (fun _ : One => Value.bool true) (T.last + 1) ⟨series, 0, snapL i, false, 0⟩ T.l
        unfold openL
        rw [← e1]
        exact h.f 1
      · exact c_false rfl (c_skip ⟨T, ⟨rfl, rfl, rfl, rfl, rfl, rfl, trivial⟩, inv.more, h⟩)
    clear h inv hT0 hT1
    rintro T w e ⟨inv, h⟩
    refine c_seq (c_region ?_)
    refine r_v (q_moveI rfl) rfl ?_; refine r_v (q_moveI rfl) rfl ?_; refine r_v (q_and rfl rfl) rfl ?_; refine r_v (q_sub rfl rfl) rfl ?_
    refine r_int fun K hK => ?_
    refine r_v (q_assignI rfl) rfl ?_
    refine r_nil ?_
    refine c_cut (Γ := Tab) (fun T => [(0, .int .i64 m), (1, .int .i64 closes), (5, .pointer (some ⟨p, 0, none⟩)), (6, .map (some q)), (7, .int .i64 T.last), (8, .int .i64 i)])
      (fun T w => ManyInv T (i + 1) ∧ St w0 [IsTab p T, MapOf (Value.int .i64) q (openL T.l)] w) ?_ ?_
    · refine c_seq (c_region ?_)
      refine r_v (q_moveI rfl) rfl ?_; refine r_v (q_moveI rfl) rfl ?_; refine r_v (q_and rfl rfl) rfl ?_
      have hs := and_mask (a := (i : Int)) (m := 31) 5 (by decide) (by decide)
      refine r_int fun s hs' => ?_
      rw [hs] at hs'
      refine r_v (q_conv rfl) rfl ?_
      refine r_is (.int .u64 s) (by congr 1; simp [IntKind.wrap, IntKind.signed, IntKind.bits]; omega) ?_
      refine r_v (q_shr rfl rfl (by omega)) rfl ?_
      refine r_v (q_and rfl rfl) rfl ?_; refine r_v (q_eql rfl rfl) rfl ?_
      refine r_bool fun bt => ?_
      cases bt with
      | false =>
        refine r_v (q_moveB rfl) rfl ?_; (first | refine r_gd rfl rfl ?_ | refine r_gn rfl rfl rfl ?_ | refine r_gu rfl rfl ?_ | refine r_gd rfl (by assumption) ?_ | refine r_gn rfl (by assumption) rfl ?_); (first | refine r_gd rfl rfl ?_ | refine r_gn rfl rfl rfl ?_ | refine r_gu rfl rfl ?_ | refine r_gd rfl (by assumption) ?_ | refine r_gn rfl (by assumption) rfl ?_); (first | refine r_gd rfl rfl ?_ | refine r_gn rfl rfl rfl ?_ | refine r_gu rfl rfl ?_ | refine r_gd rfl (by assumption) ?_ | refine r_gn rfl (by assumption) rfl ?_); (first | refine r_v (q_pick1 rfl rfl rfl) rfl ?_ | refine r_v (q_pick0 rfl rfl rfl) rfl ?_ | refine r_v (q_pick1 rfl (by assumption) rfl) rfl ?_ | refine r_v (q_pick0 rfl (by assumption) rfl) rfl ?_ | refine r_v (q_pickB rfl rfl rfl) rfl ?_)
        refine r_nil ?_
        exact c_false rfl (c_skip ⟨T, ⟨rfl, rfl, rfl, rfl, rfl, rfl, trivial⟩, inv, h⟩)
      | true =>
        refine r_v (q_moveB rfl) rfl ?_; (first | refine r_gd rfl rfl ?_ | refine r_gn rfl rfl rfl ?_ | refine r_gu rfl rfl ?_ | refine r_gd rfl (by assumption) ?_ | refine r_gn rfl (by assumption) rfl ?_); refine r_v (q_moveM rfl) rfl ?_; (first | refine r_gd rfl rfl ?_ | refine r_gn rfl rfl rfl ?_ | refine r_gu rfl rfl ?_ | refine r_gd rfl (by assumption) ?_ | refine r_gn rfl (by assumption) rfl ?_); refine r_v (q_moveI rfl) rfl ?_; (first | refine r_gd rfl rfl ?_ | refine r_gn rfl rfl rfl ?_ | refine r_gu rfl rfl ?_ | refine r_gd rfl (by assumption) ?_ | refine r_gn rfl (by assumption) rfl ?_)
        refine r_v (q_lookup1 (kv := Value.int .i64) (k := K) rfl rfl (h.f 1).isMap) rfl ?_
        rw [show mget K (openL T.l) = (mget K T.l).map (fun _ => Value.bool true) from mget_map (fun _ : One => Value.bool true) K T.l]
        cases hg : mget K T.l with
        | none =>
          dsimp only [Option.map_none, Option.getD_none]
          refine r_v (q_pick1 (b := false) rfl rfl rfl) rfl ?_
          refine r_nil ?_
          exact c_false rfl (c_skip ⟨T, ⟨rfl, rfl, rfl, rfl, rfl, rfl, trivial⟩, inv, h⟩)
        | some o =>
          dsimp only [Option.map_some, Option.getD_some]
          refine r_v (q_pick1 (b := true) rfl rfl rfl) rfl ?_
          have hidle := inv.idle K o hg
          refine r_nil ?_
          refine c_true rfl ?_
          refine c_seq (c_seq (c_region ?_))
          refine r_v (q_moveP rfl) rfl ?_; refine r_v (q_moveI rfl) rfl ?_
          refine r_c rfl (x_call rfl (iter_Use1 K 4 h hg (fun hu => by rw [hidle] at hu; cases hu)) ?_)
          rintro _ w ⟨rfl, h⟩
          refine r_v (q_neq rfl rfl) rfl ?_
          refine r_nil ?_
          refine c_false rfl (c_skip ?_)
          refine c_seq (c_seq (c_region ?_))
          refine r_v (q_moveP rfl) rfl ?_; refine r_v (q_moveI rfl) rfl ?_
          refine r_c rfl (x_call rfl (iter_Close1 K 4 h (o := { o with used := true, who := 4 }) (by dsimp only; rw [mget_mset, if_pos rfl]) ⟨rfl, rfl⟩) ?_)
          rintro _ w ⟨a1, c1, a2, c2, rfl, h⟩
          replace h := h.drop.drop
          dsimp only at h
          rw [mdel_mset] at h
          refine r_v (q_moveT rfl) rfl ?_; refine r_v (q_ext rfl rfl) rfl ?_; refine r_v (q_ext rfl rfl) rfl ?_
          refine r_c rfl (x_alloc h fun r w h => ?_)
          refine r_c rfl (x_storeA (vs := o.x.cells a1 c1 a2 c2) 0 h rfl rfl rfl rfl rfl rfl rfl fun w h => ?_)
          replace h := h.drop
          refine r_v (q_assignB rfl) rfl ?_
          refine r_nil ?_
          refine c_seq (c_region ?_)
          refine r_v (q_moveB rfl) rfl ?_; refine r_v (q_not rfl) rfl ?_
          refine r_nil ?_
          refine c_false rfl (c_skip ?_)
          refine c_seq (c_region ?_)
          refine r_v (q_moveM rfl) rfl ?_; refine r_v (q_moveI rfl) rfl ?_
          refine r_c rfl (x_delete (h.f 1) rfl rfl fun w h => ?_)
          rw [show mdel K (openL T.l) = openL (mdel K T.l) from mdel_map (fun _ : One => Value.bool true) K T.l] at h
          replace h := h.f 1
          have hno : mget K (mdel K T.l) = none := by rw [mget_mdel _ _ _ inv.nd, if_pos rfl]
          refine r_nil ?_
          refine c_seq (c_region ?_)
          refine r_v (q_moveP rfl) rfl ?_; refine r_v (q_moveI rfl) rfl ?_
          refine r_c rfl (x_call rfl (iter_At0 K h hno) ?_)
          rintro _ w ⟨rfl, h⟩
          refine r_v (q_moveT rfl) rfl ?_; refine r_v (q_ext rfl rfl) rfl ?_; refine r_v (q_ext rfl rfl) rfl ?_; refine r_v (q_ext rfl rfl) rfl ?_; refine r_v (q_ext rfl rfl) rfl ?_
          refine r_c rfl (x_alloc h fun r w h => ?_)
          refine r_v (q_assignI rfl) rfl ?_
          refine r_c rfl (x_storeA (vs := snap0) 0 h rfl rfl rfl rfl rfl rfl rfl fun w h => ?_)
          replace h := h.drop
          refine r_v (q_assignI rfl) rfl ?_; refine r_v (q_assignB rfl) rfl ?_
          refine r_nil ?_
          refine c_seq (c_region ?_)
          refine r_v (q_moveB rfl) rfl ?_; refine r_v (q_moveB rfl) rfl ?_; (first | refine r_gd rfl rfl ?_ | refine r_gn rfl rfl rfl ?_ | refine r_gu rfl rfl ?_ | refine r_gd rfl (by assumption) ?_ | refine r_gn rfl (by assumption) rfl ?_); refine r_v (q_moveP rfl) rfl ?_; (first | refine r_gd rfl rfl ?_ | refine r_gn rfl rfl rfl ?_ | refine r_gu rfl rfl ?_ | refine r_gd rfl (by assumption) ?_ | refine r_gn rfl (by assumption) rfl ?_); refine r_v (q_moveI rfl) rfl ?_; (first | refine r_gd rfl rfl ?_ | refine r_gn rfl rfl rfl ?_ | refine r_gu rfl rfl ?_ | refine r_gd rfl (by assumption) ?_ | refine r_gn rfl (by assumption) rfl ?_)
          refine r_c rfl (x_call rfl (iter_Use0 K 4 h hno) ?_)
          rintro _ w ⟨rfl, h⟩
          (first | refine r_gd rfl rfl ?_ | refine r_gn rfl rfl rfl ?_ | refine r_gu rfl rfl ?_ | refine r_gd rfl (by assumption) ?_ | refine r_gn rfl (by assumption) rfl ?_); refine r_v (q_neq rfl rfl) rfl ?_; (first | refine r_v (q_pick1 rfl rfl rfl) rfl ?_ | refine r_v (q_pick0 rfl rfl rfl) rfl ?_ | refine r_v (q_pick1 rfl (by assumption) rfl) rfl ?_ | refine r_v (q_pick0 rfl (by assumption) rfl) rfl ?_ | refine r_v (q_pickB rfl rfl rfl) rfl ?_)
          refine r_nil ?_
          exact c_false rfl (c_skip ⟨⟨T.last, mdel K T.l⟩, ⟨rfl, rfl, rfl, rfl, rfl, rfl, trivial⟩, inv.closed K, h⟩)
    clear h inv hK T
    rintro T w e ⟨inv, h⟩
    refine c_seq (c_region ?_)
    refine r_v (q_moveP rfl) rfl ?_
    refine r_c rfl (x_call rfl (iter_Count h) ?_)
    rintro _ w ⟨rfl, h⟩
    refine r_v (q_moveM rfl) rfl ?_
    refine r_v (q_lenm rfl (h.f 1).isMap) rfl ?_
    refine r_v (q_neq rfl rfl) rfl ?_
    refine r_is (.bool false) (by simp) ?_
    refine r_nil ?_
    refine c_false rfl (c_skip ?_)
    refine c_region ?_
    refine r_v (q_moveI rfl) rfl ?_; refine r_v (q_add rfl rfl) rfl ?_
    refine r_is (.int .i64 ((i + 1 : Nat) : Int)) (by rw [wrap64 (by omega) (by omega)]; rfl) ?_
    refine r_v (q_assignI rfl) rfl ?_
    exact r_nil ⟨(i + 1, T), ⟨rfl, rfl, rfl, rfl, rfl, rfl, trivial⟩, ⟨by dsimp only; omega, inv, h⟩, by dsimp only; omega⟩
  refine c_exit ?_
  refine c_seq (c_region ?_)
  refine r_c rfl (x_call rfl (law21_awake h) ?_)
  rintro _ w ⟨rfl, h⟩
  refine r_v (q_assignB rfl) rfl ?_
  refine r_nil ?_
  exact c_ret (bq1 ⟨rfl, h.drop.drop⟩)
end
end Go.Proofs.Ytgahjjihfibbnaa
