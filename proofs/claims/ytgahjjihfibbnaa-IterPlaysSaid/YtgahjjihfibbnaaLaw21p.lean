/- Layer 21: the walk of 'IterPlays'. -/
import Derived.Test.YtgahjjihfibbnaaLaw21m
import Derived.Test.YtgahjjihfibbnaaSame
import Derived.Test.YtgahjjihfibbnaaHrb
import Derived.Test.YtgahjjihfibbnaaHx
namespace Go.Proofs.Ytgahjjihfibbnaa
open Go.Hw
set_option maxHeartbeats 4000000

/-- What the statement knows of an iterator. -/
structure Ent where
  series : Int
  life : Int
  told : Int
  who : Int
abbrev Ent.cells (x : Ent) : List Value := [.int .i64 x.series, .int .i64 x.life, .int .i64 x.told, .int .i64 x.who]
abbrev entOf (o : One) : Ent := ⟨o.series, o.x.life, o.told, bif o.used then o.who else -1⟩
abbrev entV (o : One) : Value := .agg (entOf o).cells.toArray
abbrev viewL (l : List (Int × One)) : List (Int × Value) := l.map fun p => (p.1, entV p.2)
def entO (oo : Option One) : Ent := (oo.map entOf).getD ⟨0, 0, 0, 0⟩
def usesB (oo : Option One) (who : Int) : Bool := match oo with
  | some o => o.used && o.who == who
  | none => false
theorem uses_by {oo : Option One} {who : Int} (h : true = usesB oo who) : ∃ o, oo = some o ∧ o.by who := by
  cases oo with
  | none => cases h
  | some o =>
    simp only [usesB] at h
    have h := h.symm
    simp only [Bool.and_eq_true, beq_iff_eq] at h
    exact ⟨o, rfl, h⟩
theorem uses_no {oo : Option One} {who : Int} (h : false = usesB oo who) : ∀ o, oo = some o → ¬ o.by who := by
  rintro o rfl ⟨h1, h2⟩
  simp [usesB, h1, h2] at h

def rowAt (rows : List RowS) (j : Nat) : RowS := (rows[j % rows.length]?).getD ⟨none, 0, 0, []⟩
abbrev snapR (rows : List RowS) (j : Nat) : SnapV := ⟨j, 0, 0, 0, 0, [], (rowAt rows j).n, smpsV (rowAt rows j).xs⟩
theorem rowAt_ok {P : Program} {W : World} {e : TypeId} {B : Nat} {rows : List RowS} (h : ∀ x ∈ rows, x.Ok P W e B) (j : Nat) : (rowAt rows j).Ok P W e B := by
  unfold rowAt
  cases hg : rows[j % rows.length]? with
  | none => exact ⟨Nat.le_refl _, ⟨by simp, .inl rfl⟩, (fun _ _ h => by cases h), by simp⟩
  | some x => exact h x (List.mem_of_getElem? hg)
theorem rowAt_get {rows : List RowS} {n : Nat} (hn : rows.length = n) (j : Nat) (h : 0 < n) : (rows.map fun x => Value.slice x.a x.n x.c)[j % n]? = some (.slice (rowAt rows j).a (rowAt rows j).n (rowAt rows j).c) := by
  subst hn
  have hlt : j % rows.length < rows.length := Nat.mod_lt _ h
  unfold rowAt
  rw [List.getElem?_map, List.getElem?_eq_getElem hlt]
  rfl
theorem rowAt_nil (j : Nat) : rowAt [] j = ⟨none, 0, 0, []⟩ := rfl

structure PlayInv (rows : List RowS) (T : Tab) (i : Nat) : Prop where
  nd : (keys T.l).Nodup
  fresh : ∀ k ∈ keys T.l, k ≤ T.last
  l0 : 0 ≤ T.last
  l1 : T.last ≤ i
  snaps : ∀ k o, mget k T.l = some o → ∃ j : Nat, j < i ∧ o.x = snapR rows j
  whos : ∀ k o, mget k T.l = some o → o.used = true → 0 ≤ o.who
section
variable {rows : List RowS} {T : Tab} {i : Nat}
theorem PlayInv.next (h : PlayInv rows T i) : mget (T.last + 1) T.l = none := by
  rw [mget_none]
  intro hm
  have := h.fresh _ hm
  omega
theorem PlayInv.opened (h : PlayInv rows T i) {series : Int} : PlayInv rows ⟨T.last + 1, mset (T.last + 1) ⟨series, 0, snapR rows i, false, 0⟩ T.l⟩ (i + 1) := by
  have hl0 := h.l0
  have hl1 := h.l1
  refine ⟨mset_nodup h.nd, ?_, by dsimp only; omega, by dsimp only; omega, ?_, ?_⟩
  · intro k hk
    dsimp only at hk ⊢
    rw [keys_mset, if_neg (by rw [← mget_none]; exact h.next)] at hk
    rcases List.mem_append.1 hk with hk | hk
    · have := h.fresh k hk; omega
    · simp at hk; omega
  · intro k o ho
    dsimp only at ho
    rw [mget_mset] at ho
    split at ho
    · cases ho; exact ⟨i, by omega, rfl⟩
    · obtain ⟨j, h1, h2⟩ := h.snaps k o ho; exact ⟨j, by omega, h2⟩
  · intro k o ho hu
    dsimp only at ho
    rw [mget_mset] at ho
    split at ho
    · cases ho; cases hu
    · exact h.whos k o ho hu
theorem PlayInv.more (h : PlayInv rows T i) : PlayInv rows T (i + 1) :=
  ⟨h.nd, h.fresh, h.l0, by have := h.l1; omega, fun k o ho => by obtain ⟨j, h1, h2⟩ := h.snaps k o ho; exact ⟨j, by omega, h2⟩, h.whos⟩
theorem PlayInv.changed (h : PlayInv rows T i) {K : Int} {o o' : One} (hg : mget K T.l = some o) (hx : o'.x = o.x) (hw : o'.used = true → 0 ≤ o'.who) : PlayInv rows ⟨T.last, mset K o' T.l⟩ (i + 1) := by
  refine ⟨mset_nodup h.nd, ?_, h.l0, by have := h.l1; dsimp only; omega, ?_, ?_⟩
  · intro k hk
    dsimp only at hk ⊢
    have hm : K ∈ keys T.l := by
      have := mget_none (k := K) (m := T.l)
      rw [hg] at this
      by_cases hm : K ∈ keys T.l
      · exact hm
      · cases this.2 hm
    rw [keys_mset, if_pos hm] at hk
    exact h.fresh k hk
  · intro k u hu
    dsimp only at hu
    rw [mget_mset] at hu
    split at hu
    · cases hu
      obtain ⟨j, h1, h2⟩ := h.snaps K o hg
      exact ⟨j, by omega, by rw [hx, h2]⟩
    · obtain ⟨j, h1, h2⟩ := h.snaps k u hu; exact ⟨j, by omega, h2⟩
  · intro k u hu huu
    dsimp only at hu
    rw [mget_mset] at hu
    split at hu
    · cases hu; exact hw huu
    · exact h.whos k u hu huu
theorem PlayInv.closed (h : PlayInv rows T i) (k : Int) : PlayInv rows ⟨T.last, mdel k T.l⟩ i := by
  refine ⟨mdel_nodup h.nd, ?_, h.l0, h.l1, ?_, ?_⟩
  · intro j hj
    dsimp only at hj ⊢
    rw [keys_mdel] at hj
    exact h.fresh j (List.mem_of_mem_erase hj)
  · intro j o ho
    dsimp only at ho
    rw [mget_mdel _ _ _ h.nd] at ho
    split at ho
    · cases ho
    · exact h.snaps j o ho
  · intro j o ho
    dsimp only at ho
    rw [mget_mdel _ _ _ h.nd] at ho
    split at ho
    · cases ho
    · exact h.whos j o ho
end
theorem look_view (K : Int) (l : List (Int × One)) (z : Value) (hz : z = .agg (Ent.mk 0 0 0 0).cells.toArray) : Value.tuple [(mget K (viewL l)).getD z, .bool (mget K (viewL l)).isSome].toArray = Value.tuple [.agg (entO (mget K l)).cells.toArray, .bool (mget K l).isSome].toArray := by
  subst hz
  rw [show mget K (viewL l) = (mget K l).map entV from mget_map entV K l]
  cases mget K l <;> rfl

section
variable {w : World}
theorem law21_IterPlays {sA sR : Option Addr} {nA cA nR cR : Nat} {xsA : List Int} {rows : List RowS} (hrA : Rd w 1 sA nA (xsA.map (Value.int .i64))) (hbA : ∀ b o, sA = some ⟨b, o, none⟩ → 0 < nA → b < w.heap.size)
    (hrR : Rd w 1 sR nR (rows.map fun x => .slice x.a x.n x.c)) (hbR : ∀ b o, sR = some ⟨b, o, none⟩ → 0 < nR → b < w.heap.size) (hok : ∀ x ∈ rows, x.Ok Try.prog w 56 140737488351232) :
    Ret Try.prog 9 [.slice sA nA cA, .slice sR nR cR] w fun v w' => v = .bool true ∧ St w [] w' := by
  have h := St.init w
  generalize hw0 : w = w0 at h
  rw [hw0] at hrA hbA hrR hbR hok
  clear hw0
  have hra : ∀ {l w'}, St w0 l w' → Rd w' 1 sA nA (xsA.map (Value.int .i64)) := fun h => Rd.old h hrA hbA
  have hrr : ∀ {l w'}, St w0 l w' → Rd w' 1 sR nR (rows.map fun x => .slice x.a x.n x.c) := fun h => Rd.old h hrR hbR
  have hrow : ∀ {l w'}, St w0 l w' → ∀ j, Rd w' 2 (rowAt rows j).a (rowAt rows j).n (smpsV (rowAt rows j).xs) := fun h j => Rd.old h (rowAt_ok hok j).rd (rowAt_ok hok j).old
  have hsz : ∀ j, (rowAt rows j).n * 16 ≤ 140737488351232 := fun j => (rowAt_ok hok j).size
  have hlA : xsA.length = nA := by have := hrA.1; simpa using this
  have hlR : rows.length = nR := by have := hrR.1; simpa using this
  have hwf : ∀ j, (snapR rows j).Wf := fun j => ⟨by simp, smps_one _, by simp, by have := hsz j; dsimp only; omega⟩
  refine enter Try.func9 rfl Try.results9 Try.ntmps9 rfl ?_
  refine c_seq (c_region ?_)
  refine r_v (q_assignB rfl) rfl ?_
  refine r_nil ?_
  refine c_seq (c_region ?_)
  refine r_c rfl (x_call rfl (iter_New h) ?_)
  rintro _ w ⟨p, rfl, h⟩
  refine r_v (q_assignP rfl) rfl ?_
  refine r_nil ?_
  refine c_seq (c_seq (c_region ?_))
  refine r_v (q_moveP rfl) rfl ?_; refine r_v (q_eqnil rfl rfl) rfl ?_
  refine r_nil ?_
  refine c_false rfl (c_skip ?_)
  refine c_seq (c_region ?_)
  refine r_c rfl (x_mkmap (Value.int .i64) h fun q w h => ?_)
  refine r_v (q_assignM rfl) rfl ?_
  refine r_nil ?_
  refine c_seq (c_region ?_)
  refine r_v (q_assignI rfl) rfl ?_
  refine r_nil ?_
  refine c_seq (c_seq (c_region ?_))
  refine r_v (q_assignI rfl) rfl ?_
  refine r_nil ?_
  refine c_block ?_
  refine c_loop (Γ := Nat × Tab) (fun k => [(0, .slice sA nA cA), (1, .slice sR nR cR), (5, .pointer (some ⟨p, 0, none⟩)), (6, .map (some q)), (7, .int .i64 k.2.last), (8, .int .i64 k.1)])
    (fun k w => k.1 ≤ 100 ∧ PlayInv rows k.2 k.1 ∧ St w0 [IsTab p k.2, MapOf (Value.int .i64) q (viewL k.2.l)] w) (fun k => 100 - k.1) (0, ⟨0, []⟩) ⟨rfl, rfl, rfl, rfl, rfl, rfl, trivial⟩ ⟨Nat.zero_le _, ⟨List.nodup_nil, by simp [keys], Int.le_refl _, Int.le_refl _, by simp [mget], by simp [mget]⟩, h.f 1⟩ ?_
  clear h
  rintro ⟨i, T⟩ w e ⟨hi, inv, h⟩
  dsimp only at hi inv h ⊢
  refine c_seq ?_
  refine c_cut (Γ := Bool) (fun k => [(0, .slice sA nA cA), (1, .slice sR nR cR), (5, .pointer (some ⟨p, 0, none⟩)), (6, .map (some q)), (7, .int .i64 T.last), (8, .int .i64 i), (36, .bool k)]) (fun k w => (k = true → i < nA ∧ i < 100) ∧ St w0 [IsTab p T, MapOf (Value.int .i64) q (viewL T.l)] w) ?_ ?_
  · refine c_region ?_
    refine r_v (q_moveI rfl) rfl ?_; refine r_v (q_moveS rfl) rfl ?_; refine r_v (q_len rfl) rfl ?_; refine r_v (q_lss rfl rfl) rfl ?_
    by_cases hin : i < nA
    · refine r_is (.bool true) (by simp; omega) ?_
      refine r_v (q_moveB rfl) rfl ?_; (first | refine r_gd rfl rfl ?_ | refine r_gn rfl rfl rfl ?_ | refine r_gu rfl rfl ?_ | refine r_gd rfl (by assumption) ?_ | refine r_gn rfl (by assumption) rfl ?_); refine r_v (q_moveI rfl) rfl ?_; (first | refine r_gd rfl rfl ?_ | refine r_gn rfl rfl rfl ?_ | refine r_gu rfl rfl ?_ | refine r_gd rfl (by assumption) ?_ | refine r_gn rfl (by assumption) rfl ?_); refine r_v (q_lss rfl rfl) rfl ?_
      by_cases hi9 : i < 100
      · refine r_is (.bool true) (by simp; omega) ?_
        (first | refine r_v (q_pick1 rfl rfl rfl) rfl ?_ | refine r_v (q_pick0 rfl rfl rfl) rfl ?_ | refine r_v (q_pick1 rfl (by assumption) rfl) rfl ?_ | refine r_v (q_pick0 rfl (by assumption) rfl) rfl ?_ | refine r_v (q_pickB rfl rfl rfl) rfl ?_)
        exact r_nil ⟨true, ⟨rfl, rfl, rfl, rfl, rfl, rfl, rfl, trivial⟩, fun _ => ⟨hin, hi9⟩, h⟩
      · refine r_is (.bool false) (by simp; omega) ?_
        (first | refine r_v (q_pick1 rfl rfl rfl) rfl ?_ | refine r_v (q_pick0 rfl rfl rfl) rfl ?_ | refine r_v (q_pick1 rfl (by assumption) rfl) rfl ?_ | refine r_v (q_pick0 rfl (by assumption) rfl) rfl ?_ | refine r_v (q_pickB rfl rfl rfl) rfl ?_)
        exact r_nil ⟨false, ⟨rfl, rfl, rfl, rfl, rfl, rfl, rfl, trivial⟩, (fun h => by cases h), h⟩
    · refine r_is (.bool false) (by simp; omega) ?_
      refine r_v (q_moveB rfl) rfl ?_; (first | refine r_gd rfl rfl ?_ | refine r_gn rfl rfl rfl ?_ | refine r_gu rfl rfl ?_ | refine r_gd rfl (by assumption) ?_ | refine r_gn rfl (by assumption) rfl ?_); (first | refine r_gd rfl rfl ?_ | refine r_gn rfl rfl rfl ?_ | refine r_gu rfl rfl ?_ | refine r_gd rfl (by assumption) ?_ | refine r_gn rfl (by assumption) rfl ?_); (first | refine r_v (q_pick1 rfl rfl rfl) rfl ?_ | refine r_v (q_pick0 rfl rfl rfl) rfl ?_ | refine r_v (q_pick1 rfl (by assumption) rfl) rfl ?_ | refine r_v (q_pick0 rfl (by assumption) rfl) rfl ?_ | refine r_v (q_pickB rfl rfl rfl) rfl ?_)
      exact r_nil ⟨false, ⟨rfl, rfl, rfl, rfl, rfl, rfl, rfl, trivial⟩, (fun h => by cases h), h⟩
  clear h
  rintro k w e ⟨hk, h⟩
  refine c_cond k rfl (fun hc => ?_) (fun hc => ?_)
  ·
    obtain ⟨hin, hi9⟩ := hk hc
    clear hk hc
    have hl0 := inv.l0
    have hl1 := inv.l1
    obtain ⟨bA, oA, hsA⟩ := hrA.some (show 0 < nA by omega)
    have hget : (xsA.map (Value.int .i64))[i]? = some (.int .i64 (xsA[i]'(by omega))) := by rw [List.getElem?_map, List.getElem?_eq_getElem]; rfl
    generalize xsA[i]'(by omega) = a at hget
    have hcell : ∀ {l w'}, St w0 l w' → w'.cell? ⟨bA, oA + i, none⟩ = some (.int .i64 a) := fun h => (hsA ▸ hra h).cell hget
    refine c_skip ?_
    refine c_cut (Γ := Tab) (fun T => [(0, .slice sA nA cA), (1, .slice sR nR cR), (5, .pointer (some ⟨p, 0, none⟩)), (6, .map (some q)), (7, .int .i64 T.last), (8, .int .i64 i)]) (fun T w => PlayInv rows T (i + 1) ∧ St w0 [IsTab p T, MapOf (Value.int .i64) q (viewL T.l)] w) ?_ ?_
    · refine c_block ?_
      refine c_cut (Γ := Int × Int) (fun k => [(0, .slice sA nA cA), (1, .slice sR nR cR), (5, .pointer (some ⟨p, 0, none⟩)), (6, .map (some q)), (7, .int .i64 T.last), (8, .int .i64 i), (9, .int .i64 k.1), (10, .int .i64 k.2)]) (fun k w => 0 ≤ k.2 ∧ St w0 [IsTab p T, MapOf (Value.int .i64) q (viewL T.l)] w) ?_ ?_
      · refine c_anyR [0, 1, 2, 3, 4, 5, 7, 8, 9, 10, 11, 12, 6, 13] none (fun w => St w0 _ w) (by kernel_rfl) (by kernel_rfl) h.drew fun w h => ?_
        refine cur_pure rfl rfl rfl rfl (fun _ => h) (fun _ => flt_v rfl (q_moveS rfl)) ?_; refine cur_pure rfl rfl rfl rfl (fun _ => h) (fun _ => flt_v rfl (q_moveI rfl)) ?_
        refine cur_pure rfl rfl rfl rfl (fun _ => h) (fun _ => flt_v rfl (q_idx (b := bA) (o := oA) (m := nA) (c := cA) (o' := oA + i) (by rw [← hsA]; rfl) rfl rfl hin (by simp))) ?_
        refine cur_float rfl rfl rfl rfl h (fun w h => flt_v rfl (q_loadc (v := .int .i64 a) rfl (hcell h))) ?_
        refine cur_pure rfl rfl rfl rfl (fun _ => h) (fun _ => flt_v rfl (q_shr rfl rfl (by omega))) ?_
        refine cur_pure rfl rfl rfl rfl (fun _ => h) (fun _ => flt_v rfl (q_and rfl rfl)) ?_; refine cur_pure rfl rfl rfl rfl (fun _ => h) (fun _ => flt_v rfl (q_moveS rfl)) ?_; refine cur_pure rfl rfl rfl rfl (fun _ => h) (fun _ => flt_v rfl (q_moveI rfl)) ?_
        refine cur_pure rfl rfl rfl rfl (fun _ => h) (fun _ => flt_v rfl (q_idx (b := bA) (o := oA) (m := nA) (c := cA) (o' := oA + i) (by rw [← hsA]; rfl) rfl rfl hin (by simp))) ?_
        refine cur_float rfl rfl rfl rfl h (fun w h => flt_v rfl (q_loadc (v := .int .i64 a) rfl (hcell h))) ?_
        refine cur_pure rfl rfl rfl rfl (fun _ => h) (fun _ => flt_v rfl (q_shr rfl rfl (by omega))) ?_
        refine cur_pure rfl rfl rfl rfl (fun _ => h) (fun _ => flt_v rfl (q_and rfl rfl)) ?_; refine cur_pure rfl rfl rfl rfl (fun _ => h) (fun _ => flt_v rfl (q_assignI rfl)) ?_; refine cur_pure rfl rfl rfl rfl (fun _ => h) (fun _ => flt_v rfl (q_assignI rfl)) ?_
        refine cur_end ⟨(_, bitOp .and .i64 (a.fdiv (2 ^ (min (7 : Int).toNat IntKind.i64.bits))) 3), ⟨rfl, rfl, rfl, rfl, rfl, rfl, rfl, rfl, trivial⟩, ?_, h⟩
        show 0 ≤ bitOp .and .i64 (a.fdiv (2 ^ (min (7 : Int).toNat IntKind.i64.bits))) 3
        rw [and_mask 2 (by decide) (by decide)]
        exact Int.emod_nonneg _ (by decide)
      clear h
      rintro ⟨K, who⟩ w e ⟨hwho, h⟩
      dsimp only at hwho ⊢
      refine c_seq (c_region ?_)
      refine r_v (q_moveM rfl) rfl ?_; refine r_v (q_moveI rfl) rfl ?_
      refine r_v (q_lookupS (kv := Value.int .i64) (k := K) rfl rfl (h.f 1).isMap) rfl ?_
      refine r_is _ (look_view K T.l _ rfl) ?_
      refine r_v (q_moveT rfl) rfl ?_; refine r_v (q_ext rfl rfl) rfl ?_; refine r_v (q_ext rfl rfl) rfl ?_
      refine r_c rfl (x_alloc h fun rx w h => ?_)
      refine r_c rfl (x_storeA (vs := (entO (mget K T.l)).cells) 0 h rfl rfl rfl rfl rfl rfl rfl fun w h => ?_)
      replace h : St w0 [pt rx (.cells (entO (mget K T.l)).cells.toArray 63 (0, 0)), IsTab p T, MapOf (Value.int .i64) q (viewL T.l)] w := h
      refine r_v (q_assignB rfl) rfl ?_
      refine r_nil ?_
      refine c_cut (Γ := Bool × Bool) (fun k => [(0, .slice sA nA cA), (1, .slice sR nR cR), (5, .pointer (some ⟨p, 0, none⟩)), (6, .map (some q)), (7, .int .i64 T.last), (8, .int .i64 i), (9, .int .i64 K), (10, .int .i64 who), (11, .pointer (some ⟨rx, 0, none⟩)), (12, .bool k.1), (13, .bool k.2)])
        (fun k w => k.1 = (mget K T.l).isSome ∧ k.2 = usesB (mget K T.l) who ∧ St w0 [pt rx (.cells (entO (mget K T.l)).cells.toArray 63 (0, 0)), IsTab p T, MapOf (Value.int .i64) q (viewL T.l)] w) ?_ ?_
      · refine c_region ?_
        generalize hg : mget K T.l = oo at h ⊢
        cases oo with
        | none =>
          refine r_v (q_moveB rfl) rfl ?_; refine r_v (q_moveB rfl) rfl ?_; (first | refine r_gd rfl rfl ?_ | refine r_gn rfl rfl rfl ?_ | refine r_gu rfl rfl ?_ | refine r_gd rfl (by assumption) ?_ | refine r_gn rfl (by assumption) rfl ?_); (first | refine r_gd rfl rfl ?_ | refine r_gn rfl rfl rfl ?_ | refine r_gu rfl rfl ?_ | refine r_gd rfl (by assumption) ?_ | refine r_gn rfl (by assumption) rfl ?_); (first | refine r_gd rfl rfl ?_ | refine r_gn rfl rfl rfl ?_ | refine r_gu rfl rfl ?_ | refine r_gd rfl (by assumption) ?_ | refine r_gn rfl (by assumption) rfl ?_); (first | refine r_gd rfl rfl ?_ | refine r_gn rfl rfl rfl ?_ | refine r_gu rfl rfl ?_ | refine r_gd rfl (by assumption) ?_ | refine r_gn rfl (by assumption) rfl ?_); (first | refine r_v (q_pick1 rfl rfl rfl) rfl ?_ | refine r_v (q_pick0 rfl rfl rfl) rfl ?_ | refine r_v (q_pick1 rfl (by assumption) rfl) rfl ?_ | refine r_v (q_pick0 rfl (by assumption) rfl) rfl ?_ | refine r_v (q_pickB rfl rfl rfl) rfl ?_); refine r_v (q_assignB rfl) rfl ?_
          exact r_nil ⟨(_, _), ⟨rfl, rfl, rfl, rfl, rfl, rfl, rfl, rfl, rfl, rfl, rfl, trivial⟩, rfl, rfl, h⟩
        | some o =>
          refine r_v (q_moveB rfl) rfl ?_; refine r_v (q_moveB rfl) rfl ?_; (first | refine r_gd rfl rfl ?_ | refine r_gn rfl rfl rfl ?_ | refine r_gu rfl rfl ?_ | refine r_gd rfl (by assumption) ?_ | refine r_gn rfl (by assumption) rfl ?_); refine r_v (q_fa rfl) rfl ?_; (first | refine r_gd rfl rfl ?_ | refine r_gn rfl rfl rfl ?_ | refine r_gu rfl rfl ?_ | refine r_gd rfl (by assumption) ?_ | refine r_gn rfl (by assumption) rfl ?_); (first | refine r_v (q_load rfl (h.b 0) rfl) rfl ?_ | refine r_v (q_load rfl (h.b 1) rfl) rfl ?_ | refine r_v (q_load rfl (h.b 2) rfl) rfl ?_ | refine r_v (q_load rfl (h.b 3) rfl) rfl ?_ | refine r_v (q_load rfl (h.b 4) rfl) rfl ?_ | refine r_v (q_load rfl (h.b 5) rfl) rfl ?_); (first | refine r_gd rfl rfl ?_ | refine r_gn rfl rfl rfl ?_ | refine r_gu rfl rfl ?_ | refine r_gd rfl (by assumption) ?_ | refine r_gn rfl (by assumption) rfl ?_); refine r_v (q_moveI rfl) rfl ?_; (first | refine r_gd rfl rfl ?_ | refine r_gn rfl rfl rfl ?_ | refine r_gu rfl rfl ?_ | refine r_gd rfl (by assumption) ?_ | refine r_gn rfl (by assumption) rfl ?_); refine r_v (q_eql rfl rfl) rfl ?_
          refine r_is (.bool (usesB (some o) who)) ?_ ?_
          · have hw := inv.whos K o hg
            obtain ⟨series, told, x, used, ow⟩ := o
            cases used with
            | true => rfl
            | false =>
              show Value.bool ((-1 : Int) == who) = Value.bool false
              congr 1
              simp
              omega
          (first | refine r_v (q_pick1 rfl rfl rfl) rfl ?_ | refine r_v (q_pick0 rfl rfl rfl) rfl ?_ | refine r_v (q_pick1 rfl (by assumption) rfl) rfl ?_ | refine r_v (q_pick0 rfl (by assumption) rfl) rfl ?_ | refine r_v (q_pickB rfl rfl rfl) rfl ?_); refine r_v (q_assignB rfl) rfl ?_
          exact r_nil ⟨(_, _), ⟨rfl, rfl, rfl, rfl, rfl, rfl, rfl, rfl, rfl, rfl, rfl, trivial⟩, rfl, rfl, h⟩
      clear h
      rintro ⟨inn, u⟩ w e ⟨hinn, hu, h⟩
      dsimp only at hinn hu ⊢
      refine c_cut (Γ := Tab × Ent) (fun k => [(0, .slice sA nA cA), (1, .slice sR nR cR), (5, .pointer (some ⟨p, 0, none⟩)), (6, .map (some q)), (7, .int .i64 k.1.last), (8, .int .i64 i), (9, .int .i64 K), (11, .pointer (some ⟨rx, 0, none⟩))])
        (fun k w => PlayInv rows k.1 (i + 1) ∧ St w0 [pt rx (.cells k.2.cells.toArray 63 (0, 0)), IsTab p k.1, MapOf (Value.int .i64) q (viewL k.1.l)] w) ?_ ?_
      · refine c_seq (c_region ?_)
        refine r_v (q_moveS rfl) rfl ?_; refine r_v (q_moveI rfl) rfl ?_
        refine r_v (q_idx (b := bA) (o := oA) (m := nA) (c := cA) (o' := oA + i) (by rw [← hsA]; rfl) rfl rfl hin (by simp)) rfl ?_
        refine r_v (q_loadc (v := .int .i64 a) rfl (hcell h)) rfl ?_
        refine r_v (q_and rfl rfl) rfl ?_
        refine r_int fun s _ => ?_
        refine r_nil ?_
        refine c_block ?_
        refine c_cut (Γ := Bool) (fun k => [(0, .slice sA nA cA), (1, .slice sR nR cR), (5, .pointer (some ⟨p, 0, none⟩)), (6, .map (some q)), (7, .int .i64 T.last), (8, .int .i64 i), (9, .int .i64 K), (10, .int .i64 who), (11, .pointer (some ⟨rx, 0, none⟩)), (12, .bool inn), (13, .bool u), (68, .int .i64 s), (92, .bool k)]) (fun _ w => St w0 [pt rx (.cells (entO (mget K T.l)).cells.toArray 63 (0, 0)), IsTab p T, MapOf (Value.int .i64) q (viewL T.l)] w) ?_ ?_
        · refine c_seq (c_region ?_)
          refine r_v (q_eql rfl rfl) rfl ?_
          refine r_bool fun k => ?_
          refine r_v (q_assignB rfl) rfl ?_
          refine r_nil (c_cond k rfl (fun hc => ?_) (fun hc => ?_))
          · exact c_skip ⟨k, ⟨rfl, rfl, rfl, rfl, rfl, rfl, rfl, rfl, rfl, rfl, rfl, rfl, rfl, trivial⟩, h⟩
          · refine c_region ?_
            refine r_v (q_eql rfl rfl) rfl ?_
            refine r_bool fun k => ?_
            refine r_v (q_assignB rfl) rfl ?_
            exact r_nil ⟨k, ⟨rfl, rfl, rfl, rfl, rfl, rfl, rfl, rfl, rfl, rfl, rfl, rfl, rfl, trivial⟩, h⟩
        clear h
        rintro k w e h
        refine c_cond k rfl (fun hc => ?_) (fun hc => ?_)
        ·
          clear hc
          refine c_seq (c_region ?_)
          refine r_v (q_moveI rfl) rfl ?_
          refine r_v (q_build (r := (snapL i).cells none 0 none 0) rfl) rfl ?_
          refine r_c rfl (x_alloc h fun r14 w h => ?_)
          refine r_c rfl (x_storeA (vs := (snapL i).cells none 0 none 0) 0 h rfl rfl rfl rfl rfl rfl rfl fun w h => ?_)
          replace h : St w0 [pt r14 (.cells ((snapL i).cells none 0 none 0).toArray 43 (0, 0)), pt rx (.cells (entO (mget K T.l)).cells.toArray 63 (0, 0)), IsTab p T, MapOf (Value.int .i64) q (viewL T.l)] w := h
          refine r_nil ?_
          refine c_cut (Γ := Unit) (fun _ => [(0, .slice sA nA cA), (1, .slice sR nR cR), (5, .pointer (some ⟨p, 0, none⟩)), (6, .map (some q)), (7, .int .i64 T.last), (8, .int .i64 i), (9, .int .i64 K), (11, .pointer (some ⟨rx, 0, none⟩)), (14, .pointer (some ⟨r14, 0, none⟩))])
            (fun _ w => St w0 [pt r14 (.cells ((snapR rows i).cells none 0 (rowAt rows i).a (rowAt rows i).c).toArray 43 (0, 0)), pt rx (.cells (entO (mget K T.l)).cells.toArray 63 (0, 0)), IsTab p T, MapOf (Value.int .i64) q (viewL T.l)] w) ?_ ?_
          · refine c_seq (c_region ?_)
            refine r_v (q_moveS rfl) rfl ?_; refine r_v (q_len rfl) rfl ?_; refine r_v (q_gtr rfl rfl) rfl ?_
            refine r_nil (c_cond (decide ((nR : Int) > 0)) rfl (fun hc => ?_) (fun hc => ?_))
            ·
              have hn0 : 0 < nR := by simp at hc; omega
              obtain ⟨bR, oR, hsR⟩ := hrR.some hn0
              refine c_region ?_
              refine r_v (q_moveS rfl) rfl ?_; refine r_v (q_moveI rfl) rfl ?_; refine r_v (q_moveS rfl) rfl ?_; refine r_v (q_len rfl) rfl ?_
              refine r_v (q_rem rfl rfl (by omega)) rfl ?_
              refine r_is (.int .i64 ((i % nR : Nat) : Int)) (by rw [Int.tmod_eq_emod_of_nonneg (Int.natCast_nonneg _), Int.natCast_emod]) ?_
              refine r_v (q_idx (b := bR) (o := oR) (m := nR) (c := cR) (o' := oR + i % nR) (by rw [← hsR]; rfl) rfl rfl (Nat.mod_lt _ hn0) (by simp)) rfl ?_
              refine r_v (q_loadc (v := .slice (rowAt rows i).a (rowAt rows i).n (rowAt rows i).c) rfl ((hsR ▸ hrr h).cell (rowAt_get hlR i hn0))) rfl ?_
              refine r_v (q_fa rfl) rfl ?_
              refine r_c rfl (x_store 0 h rfl (show _ = Value.slice _ _ _ from rfl) rfl rfl rfl rfl fun w h => ?_)
              exact r_nil ⟨(), ⟨rfl, rfl, rfl, rfl, rfl, rfl, rfl, rfl, rfl, trivial⟩, h⟩
            ·
              have hn0 : nR = 0 := by simp at hc; omega
              refine c_skip ⟨(), ⟨rfl, rfl, rfl, rfl, rfl, rfl, rfl, rfl, rfl, trivial⟩, ?_⟩
              obtain rfl : rows = [] := List.eq_nil_of_length_eq_zero (by omega)
              exact h
          clear h
          rintro ⟨⟩ w e h
          refine c_cut (Γ := Bool) (fun k => [(0, .slice sA nA cA), (1, .slice sR nR cR), (5, .pointer (some ⟨p, 0, none⟩)), (6, .map (some q)), (7, .int .i64 T.last), (8, .int .i64 i), (9, .int .i64 K), (11, .pointer (some ⟨rx, 0, none⟩)), (15, .int .i64 (bif k then T.last + 1 else 0)), (16, .bool k)])
            (fun k w => (k = true ∧ T.l.length < 8 ∧ St w0 [IsTab p ⟨T.last + 1, mset (T.last + 1) ⟨bitOp .and .i64 (a.fdiv (2 ^ (min (9 : Int).toNat IntKind.i64.bits))) 15, 0, snapR rows i, false, 0⟩ T.l⟩, pt rx (.cells (entO (mget K T.l)).cells.toArray 63 (0, 0)), MapOf (Value.int .i64) q (viewL T.l)] w)
              ∨ (k = false ∧ 8 ≤ T.l.length ∧ St w0 [IsTab p T, pt rx (.cells (entO (mget K T.l)).cells.toArray 63 (0, 0)), MapOf (Value.int .i64) q (viewL T.l)] w)) ?_ ?_
          · refine c_anyW [0, 1, 2, 3, 4, 5, 6, 7, 8, 9, 10, 12, 11, 13] none (fun w => w.heap[r14]? = some (.cells ((snapR rows i).cells none 0 (rowAt rows i).a (rowAt rows i).c).toArray 43 (0, 0)) ∧ w.cell? ⟨bA, oA + i, none⟩ = some (.int .i64 a)) (by kernel_rfl) (by kernel_rfl) ?_
            replace h := h.drew
            generalize w.drew = w at h
            have hs := h
            replace h := And.intro (hs.b 0 rfl) (hcell hs)
            refine cur_pure rfl rfl rfl rfl (fun _ => h) (fun _ => flt_v rfl (q_moveP rfl)) ?_; refine cur_pure rfl rfl rfl rfl (fun _ => h) (fun _ => flt_v rfl (q_moveS rfl)) ?_; refine cur_pure rfl rfl rfl rfl (fun _ => h) (fun _ => flt_v rfl (q_moveI rfl)) ?_
            refine cur_pure rfl rfl rfl rfl (fun _ => h) (fun _ => flt_v rfl (q_idx (b := bA) (o := oA) (m := nA) (c := cA) (o' := oA + i) (by rw [← hsA]; rfl) rfl rfl hin (by simp))) ?_
            refine cur_float rfl rfl rfl rfl h (fun w h => flt_v rfl (q_loadc (v := .int .i64 a) rfl h.2)) ?_
            refine cur_pure rfl rfl rfl rfl (fun _ => h) (fun _ => flt_v rfl (q_shr rfl rfl (by omega))) ?_
            refine cur_pure rfl rfl rfl rfl (fun _ => h) (fun _ => flt_v rfl (q_and rfl rfl)) ?_
            refine cur_float rfl rfl rfl rfl h (fun w h => flt_v rfl (q_loadS (l := (snapR rows i).cells none 0 (rowAt rows i).a (rowAt rows i).c) rfl rfl (at_of h.1 rfl))) ?_
            refine cur_skip ?_; refine cur_skip ?_; refine cur_skip ?_; refine cur_skip ?_; refine cur_skip ?_; refine cur_skip ?_
            refine cur_one 8 rfl rfl rfl rfl ?_
            by_cases h8 : T.l.length < 8
            · refine x_call rfl (iter_Open1 (hwf i) _ (hs.f 2) h8 inv.next (by omega) (by omega) (fun _ _ => rd_none) (fun w' h' => hrow h' i)) ?_
              rintro _ w ⟨rfl, hs⟩
              replace h := And.intro (hs.b 1 rfl) (hcell hs)
              refine ⟨fun _ => h, ?_⟩
              refine cur_pure rfl rfl rfl rfl (fun _ => h) (fun _ => flt_v rfl (q_moveT rfl)) ?_; refine cur_pure rfl rfl rfl rfl (fun _ => h) (fun _ => flt_v rfl (q_ext rfl rfl)) ?_; refine cur_pure rfl rfl rfl rfl (fun _ => h) (fun _ => flt_v rfl (q_ext rfl rfl)) ?_; refine cur_pure rfl rfl rfl rfl (fun _ => h) (fun _ => flt_v rfl (q_assignI rfl)) ?_; refine cur_pure rfl rfl rfl rfl (fun _ => h) (fun _ => flt_v rfl (q_assignB rfl)) ?_
              exact cur_end ⟨true, ⟨rfl, rfl, rfl, rfl, rfl, rfl, rfl, rfl, rfl, rfl, trivial⟩, .inl ⟨rfl, h8, (hs.f 1).drop⟩⟩
            · refine x_call rfl (iter_Open0 (x := snapR rows i) _ (hs.f 2) (by omega)) ?_
              rintro _ w ⟨rfl, hs⟩
              replace h := And.intro (hs.b 1 rfl) (hcell hs)
              refine ⟨fun _ => h, ?_⟩
              refine cur_pure rfl rfl rfl rfl (fun _ => h) (fun _ => flt_v rfl (q_moveT rfl)) ?_; refine cur_pure rfl rfl rfl rfl (fun _ => h) (fun _ => flt_v rfl (q_ext rfl rfl)) ?_; refine cur_pure rfl rfl rfl rfl (fun _ => h) (fun _ => flt_v rfl (q_ext rfl rfl)) ?_; refine cur_pure rfl rfl rfl rfl (fun _ => h) (fun _ => flt_v rfl (q_assignI rfl)) ?_; refine cur_pure rfl rfl rfl rfl (fun _ => h) (fun _ => flt_v rfl (q_assignB rfl)) ?_
              exact cur_end ⟨false, ⟨rfl, rfl, rfl, rfl, rfl, rfl, rfl, rfl, rfl, rfl, trivial⟩, .inr ⟨rfl, by omega, (hs.f 1).drop⟩⟩
          clear h
          rintro ok w e h
          rcases h with ⟨rfl, h8, h⟩ | ⟨rfl, h8, h⟩
          · refine c_seq (c_seq (c_region ?_))
            refine r_v (q_moveB rfl) rfl ?_; refine r_v (q_moveM rfl) rfl ?_
            refine r_v (q_lenm rfl (h.f 2).isMap) rfl ?_
            refine r_v (q_lss rfl rfl) rfl ?_; refine r_v (q_neb rfl rfl) rfl ?_
            refine r_is (.bool false) (by simp; omega) ?_
            refine r_v (q_moveB rfl) rfl ?_; (first | refine r_gd rfl rfl ?_ | refine r_gn rfl rfl rfl ?_ | refine r_gu rfl rfl ?_ | refine r_gd rfl (by assumption) ?_ | refine r_gn rfl (by assumption) rfl ?_); refine r_v (q_moveB rfl) rfl ?_; (first | refine r_gd rfl rfl ?_ | refine r_gn rfl rfl rfl ?_ | refine r_gu rfl rfl ?_ | refine r_gd rfl (by assumption) ?_ | refine r_gn rfl (by assumption) rfl ?_); refine r_v (q_moveB rfl) rfl ?_; (first | refine r_gd rfl rfl ?_ | refine r_gn rfl rfl rfl ?_ | refine r_gu rfl rfl ?_ | refine r_gd rfl (by assumption) ?_ | refine r_gn rfl (by assumption) rfl ?_); refine r_v (q_moveI rfl) rfl ?_; (first | refine r_gd rfl rfl ?_ | refine r_gn rfl rfl rfl ?_ | refine r_gu rfl rfl ?_ | refine r_gd rfl (by assumption) ?_ | refine r_gn rfl (by assumption) rfl ?_); refine r_v (q_moveI rfl) rfl ?_; (first | refine r_gd rfl rfl ?_ | refine r_gn rfl rfl rfl ?_ | refine r_gu rfl rfl ?_ | refine r_gd rfl (by assumption) ?_ | refine r_gn rfl (by assumption) rfl ?_); refine r_v (q_add rfl rfl) rfl ?_
            refine r_is (.int .i64 (T.last + 1)) (by rw [wrap64 (by omega) (by omega)]) ?_
            (first | refine r_gd rfl rfl ?_ | refine r_gn rfl rfl rfl ?_ | refine r_gu rfl rfl ?_ | refine r_gd rfl (by assumption) ?_ | refine r_gn rfl (by assumption) rfl ?_); refine r_v (q_neq rfl rfl) rfl ?_
            refine r_is (.bool false) (by simp) ?_
            (first | refine r_gd rfl rfl ?_ | refine r_gn rfl rfl rfl ?_ | refine r_gu rfl rfl ?_ | refine r_gd rfl (by assumption) ?_ | refine r_gn rfl (by assumption) rfl ?_); (first | refine r_v (q_pick1 rfl rfl rfl) rfl ?_ | refine r_v (q_pick0 rfl rfl rfl) rfl ?_ | refine r_v (q_pick1 rfl (by assumption) rfl) rfl ?_ | refine r_v (q_pick0 rfl (by assumption) rfl) rfl ?_ | refine r_v (q_pickB rfl rfl rfl) rfl ?_); (first | refine r_v (q_pick1 rfl rfl rfl) rfl ?_ | refine r_v (q_pick0 rfl rfl rfl) rfl ?_ | refine r_v (q_pick1 rfl (by assumption) rfl) rfl ?_ | refine r_v (q_pick0 rfl (by assumption) rfl) rfl ?_ | refine r_v (q_pickB rfl rfl rfl) rfl ?_)
            refine r_nil (c_false rfl (c_skip ?_))
            refine c_seq (c_region ?_)
            refine r_v (q_moveB rfl) rfl ?_
            refine r_nil (c_true rfl ?_)
            refine c_seq (c_region ?_)
            refine r_v (q_moveI rfl) rfl ?_; refine r_v (q_add rfl rfl) rfl ?_
            refine r_is (.int .i64 (T.last + 1)) (by rw [wrap64 (by omega) (by omega)]) ?_
            refine r_v (q_assignI rfl) rfl ?_
            refine r_nil ?_
            refine c_region ?_
            refine r_v (q_moveM rfl) rfl ?_; refine r_v (q_moveI rfl) rfl ?_; refine r_v (q_moveS rfl) rfl ?_; refine r_v (q_moveI rfl) rfl ?_
            refine r_v (q_idx (b := bA) (o := oA) (m := nA) (c := cA) (o' := oA + i) (by rw [← hsA]; rfl) rfl rfl hin (by simp)) rfl ?_
            refine r_v (q_loadc (v := .int .i64 a) rfl (hcell h)) rfl ?_
            refine r_v (q_shr rfl rfl (by omega)) rfl ?_
            refine r_v (q_and rfl rfl) rfl ?_; refine r_v (q_moveI rfl) rfl ?_
            refine r_v (q_build (r := (Ent.mk (bitOp .and .i64 (a.fdiv (2 ^ (min (9 : Int).toNat IntKind.i64.bits))) 15) i 0 (-1)).cells) rfl) rfl ?_
            refine r_c rfl (x_mapset (k := T.last + 1) (v := entV ⟨bitOp .and .i64 (a.fdiv (2 ^ (min (9 : Int).toNat IntKind.i64.bits))) 15, 0, snapR rows i, false, 0⟩) (h.f 2) rfl rfl rfl fun w h => ?_)
            refine r_nil ⟨(⟨T.last + 1, mset (T.last + 1) ⟨bitOp .and .i64 (a.fdiv (2 ^ (min (9 : Int).toNat IntKind.i64.bits))) 15, 0, snapR rows i, false, 0⟩ T.l⟩, entO (mget K T.l)), ⟨rfl, rfl, rfl, rfl, rfl, rfl, rfl, rfl, trivial⟩, inv.opened, ?_⟩
            dsimp only
            rw [show viewL (mset (T.last + 1) ⟨bitOp .and .i64 (a.fdiv (2 ^ (min (9 : Int).toNat IntKind.i64.bits))) 15, 0, snapR rows i, false, 0⟩ T.l) = _ from (mset_map entV _ _ _).symm]
            exact (h.f 1).f 2
          · refine c_seq (c_seq (c_region ?_))
            refine r_v (q_moveB rfl) rfl ?_; refine r_v (q_moveM rfl) rfl ?_
            refine r_v (q_lenm rfl (h.f 2).isMap) rfl ?_
            refine r_v (q_lss rfl rfl) rfl ?_; refine r_v (q_neb rfl rfl) rfl ?_
            refine r_is (.bool false) (by simp; omega) ?_
            refine r_v (q_moveB rfl) rfl ?_; (first | refine r_gd rfl rfl ?_ | refine r_gn rfl rfl rfl ?_ | refine r_gu rfl rfl ?_ | refine r_gd rfl (by assumption) ?_ | refine r_gn rfl (by assumption) rfl ?_); refine r_v (q_moveB rfl) rfl ?_; (first | refine r_gd rfl rfl ?_ | refine r_gn rfl rfl rfl ?_ | refine r_gu rfl rfl ?_ | refine r_gd rfl (by assumption) ?_ | refine r_gn rfl (by assumption) rfl ?_); refine r_v (q_moveB rfl) rfl ?_; (first | refine r_gd rfl rfl ?_ | refine r_gn rfl rfl rfl ?_ | refine r_gu rfl rfl ?_ | refine r_gd rfl (by assumption) ?_ | refine r_gn rfl (by assumption) rfl ?_); (first | refine r_gd rfl rfl ?_ | refine r_gn rfl rfl rfl ?_ | refine r_gu rfl rfl ?_ | refine r_gd rfl (by assumption) ?_ | refine r_gn rfl (by assumption) rfl ?_); (first | refine r_gd rfl rfl ?_ | refine r_gn rfl rfl rfl ?_ | refine r_gu rfl rfl ?_ | refine r_gd rfl (by assumption) ?_ | refine r_gn rfl (by assumption) rfl ?_); (first | refine r_gd rfl rfl ?_ | refine r_gn rfl rfl rfl ?_ | refine r_gu rfl rfl ?_ | refine r_gd rfl (by assumption) ?_ | refine r_gn rfl (by assumption) rfl ?_); (first | refine r_gd rfl rfl ?_ | refine r_gn rfl rfl rfl ?_ | refine r_gu rfl rfl ?_ | refine r_gd rfl (by assumption) ?_ | refine r_gn rfl (by assumption) rfl ?_); (first | refine r_v (q_pick1 rfl rfl rfl) rfl ?_ | refine r_v (q_pick0 rfl rfl rfl) rfl ?_ | refine r_v (q_pick1 rfl (by assumption) rfl) rfl ?_ | refine r_v (q_pick0 rfl (by assumption) rfl) rfl ?_ | refine r_v (q_pickB rfl rfl rfl) rfl ?_); (first | refine r_v (q_pick1 rfl rfl rfl) rfl ?_ | refine r_v (q_pick0 rfl rfl rfl) rfl ?_ | refine r_v (q_pick1 rfl (by assumption) rfl) rfl ?_ | refine r_v (q_pick0 rfl (by assumption) rfl) rfl ?_ | refine r_v (q_pickB rfl rfl rfl) rfl ?_)
            refine r_nil (c_false rfl (c_skip ?_))
            refine c_seq (c_region ?_)
            refine r_v (q_moveB rfl) rfl ?_
            refine r_nil (c_false rfl (c_skip ⟨(T, entO (mget K T.l)), ⟨rfl, rfl, rfl, rfl, rfl, rfl, rfl, rfl, trivial⟩, inv.more, h.f 1⟩))
        ·
          clear hc
          refine c_cut (Γ := Bool) (fun k => [(0, .slice sA nA cA), (1, .slice sR nR cR), (5, .pointer (some ⟨p, 0, none⟩)), (6, .map (some q)), (7, .int .i64 T.last), (8, .int .i64 i), (9, .int .i64 K), (10, .int .i64 who), (11, .pointer (some ⟨rx, 0, none⟩)), (12, .bool inn), (13, .bool u), (68, .int .i64 s), (147, .bool k)]) (fun _ w => St w0 [pt rx (.cells (entO (mget K T.l)).cells.toArray 63 (0, 0)), IsTab p T, MapOf (Value.int .i64) q (viewL T.l)] w) ?_ ?_
          · refine c_seq (c_region ?_)
            refine r_v (q_eql rfl rfl) rfl ?_
            refine r_bool fun k => ?_
            refine r_v (q_assignB rfl) rfl ?_
            refine r_nil (c_cond k rfl (fun hc => ?_) (fun hc => ?_))
            · exact c_skip ⟨k, ⟨rfl, rfl, rfl, rfl, rfl, rfl, rfl, rfl, rfl, rfl, rfl, rfl, rfl, trivial⟩, h⟩
            · refine c_region ?_
              refine r_v (q_eql rfl rfl) rfl ?_
              refine r_bool fun k => ?_
              refine r_v (q_assignB rfl) rfl ?_
              exact r_nil ⟨k, ⟨rfl, rfl, rfl, rfl, rfl, rfl, rfl, rfl, rfl, rfl, rfl, rfl, rfl, trivial⟩, h⟩
          clear h k
          rintro k w e h
          refine c_cond k rfl (fun hc => ?_) (fun hc => ?_)
          ·
            clear hc
            refine c_seq (c_region ?_)
            refine r_v (q_assignI rfl) rfl ?_
            refine r_nil ?_
            refine c_cut (Γ := Int) (fun k => [(0, .slice sA nA cA), (1, .slice sR nR cR), (5, .pointer (some ⟨p, 0, none⟩)), (6, .map (some q)), (7, .int .i64 T.last), (8, .int .i64 i), (9, .int .i64 K), (10, .int .i64 who), (11, .pointer (some ⟨rx, 0, none⟩)), (17, .int .i64 k)])
              (fun k w => ((k = 3 ∧ mget K T.l = none) ∨ (k = 8 ∧ ∃ o, mget K T.l = some o ∧ o.used = true ∧ o.who ≠ who) ∨ (k = 0 ∧ ∃ o, mget K T.l = some o ∧ (o.used = true → o.who = who))) ∧ St w0 [pt rx (.cells (entO (mget K T.l)).cells.toArray 63 (0, 0)), IsTab p T, MapOf (Value.int .i64) q (viewL T.l)] w) ?_ ?_
            · refine c_seq (c_region ?_)
              generalize hg : mget K T.l = oo at h hinn ⊢
              cases oo with
              | none =>
                obtain rfl : inn = false := hinn
                refine r_v (q_moveB rfl) rfl ?_; refine r_v (q_not rfl) rfl ?_
                refine r_nil (c_true rfl ?_)
                refine c_region ?_
                refine r_v (q_assignI rfl) rfl ?_
                exact r_nil ⟨3, ⟨rfl, rfl, rfl, rfl, rfl, rfl, rfl, rfl, rfl, rfl, trivial⟩, .inl ⟨rfl, rfl⟩, h⟩
              | some o =>
                obtain rfl : inn = true := hinn
                have hw := inv.whos K o hg
                refine r_v (q_moveB rfl) rfl ?_; refine r_v (q_not rfl) rfl ?_
                refine r_nil (c_false rfl ?_)
                refine c_seq (c_region ?_)
                obtain ⟨series, told, x, used, ow⟩ := o
                cases used with
                | true =>
                  have hw := hw rfl
                  dsimp only at hw
                  refine r_v (q_fa rfl) rfl ?_; (first | refine r_v (q_load rfl (h.b 0) rfl) rfl ?_ | refine r_v (q_load rfl (h.b 1) rfl) rfl ?_ | refine r_v (q_load rfl (h.b 2) rfl) rfl ?_ | refine r_v (q_load rfl (h.b 3) rfl) rfl ?_ | refine r_v (q_load rfl (h.b 4) rfl) rfl ?_ | refine r_v (q_load rfl (h.b 5) rfl) rfl ?_); refine r_v (q_geq rfl rfl) rfl ?_
                  refine r_is (.bool true) (congrArg Value.bool (decide_eq_true hw)) ?_
                  refine r_v (q_moveB rfl) rfl ?_; (first | refine r_gd rfl rfl ?_ | refine r_gn rfl rfl rfl ?_ | refine r_gu rfl rfl ?_ | refine r_gd rfl (by assumption) ?_ | refine r_gn rfl (by assumption) rfl ?_); refine r_v (q_fa rfl) rfl ?_; (first | refine r_gd rfl rfl ?_ | refine r_gn rfl rfl rfl ?_ | refine r_gu rfl rfl ?_ | refine r_gd rfl (by assumption) ?_ | refine r_gn rfl (by assumption) rfl ?_); (first | refine r_v (q_load rfl (h.b 0) rfl) rfl ?_ | refine r_v (q_load rfl (h.b 1) rfl) rfl ?_ | refine r_v (q_load rfl (h.b 2) rfl) rfl ?_ | refine r_v (q_load rfl (h.b 3) rfl) rfl ?_ | refine r_v (q_load rfl (h.b 4) rfl) rfl ?_ | refine r_v (q_load rfl (h.b 5) rfl) rfl ?_); (first | refine r_gd rfl rfl ?_ | refine r_gn rfl rfl rfl ?_ | refine r_gu rfl rfl ?_ | refine r_gd rfl (by assumption) ?_ | refine r_gn rfl (by assumption) rfl ?_); refine r_v (q_moveI rfl) rfl ?_; (first | refine r_gd rfl rfl ?_ | refine r_gn rfl rfl rfl ?_ | refine r_gu rfl rfl ?_ | refine r_gd rfl (by assumption) ?_ | refine r_gn rfl (by assumption) rfl ?_); refine r_v (q_neq rfl rfl) rfl ?_
                  by_cases how : ow = who
                  · refine r_is (.bool false) (by subst how; exact congrArg Value.bool (bne_self_eq_false _)) ?_
                    (first | refine r_v (q_pick1 rfl rfl rfl) rfl ?_ | refine r_v (q_pick0 rfl rfl rfl) rfl ?_ | refine r_v (q_pick1 rfl (by assumption) rfl) rfl ?_ | refine r_v (q_pick0 rfl (by assumption) rfl) rfl ?_ | refine r_v (q_pickB rfl rfl rfl) rfl ?_)
                    refine r_nil (c_false rfl (c_skip ⟨0, ⟨rfl, rfl, rfl, rfl, rfl, rfl, rfl, rfl, rfl, rfl, trivial⟩, .inr (.inr ⟨rfl, _, rfl, fun _ => how⟩), h⟩))
                  · refine r_is (.bool true) (congrArg Value.bool (bne_iff_ne.2 how)) ?_
                    (first | refine r_v (q_pick1 rfl rfl rfl) rfl ?_ | refine r_v (q_pick0 rfl rfl rfl) rfl ?_ | refine r_v (q_pick1 rfl (by assumption) rfl) rfl ?_ | refine r_v (q_pick0 rfl (by assumption) rfl) rfl ?_ | refine r_v (q_pickB rfl rfl rfl) rfl ?_)
                    refine r_nil (c_true rfl ?_)
                    refine c_region ?_
                    refine r_v (q_assignI rfl) rfl ?_
                    exact r_nil ⟨8, ⟨rfl, rfl, rfl, rfl, rfl, rfl, rfl, rfl, rfl, rfl, trivial⟩, .inr (.inl ⟨rfl, _, rfl, rfl, how⟩), h⟩
                | false =>
                  refine r_v (q_fa rfl) rfl ?_; (first | refine r_v (q_load rfl (h.b 0) rfl) rfl ?_ | refine r_v (q_load rfl (h.b 1) rfl) rfl ?_ | refine r_v (q_load rfl (h.b 2) rfl) rfl ?_ | refine r_v (q_load rfl (h.b 3) rfl) rfl ?_ | refine r_v (q_load rfl (h.b 4) rfl) rfl ?_ | refine r_v (q_load rfl (h.b 5) rfl) rfl ?_); refine r_v (q_geq rfl rfl) rfl ?_
                  refine r_is (.bool false) rfl ?_
                  refine r_v (q_moveB rfl) rfl ?_; (first | refine r_gd rfl rfl ?_ | refine r_gn rfl rfl rfl ?_ | refine r_gu rfl rfl ?_ | refine r_gd rfl (by assumption) ?_ | refine r_gn rfl (by assumption) rfl ?_); (first | refine r_gd rfl rfl ?_ | refine r_gn rfl rfl rfl ?_ | refine r_gu rfl rfl ?_ | refine r_gd rfl (by assumption) ?_ | refine r_gn rfl (by assumption) rfl ?_); (first | refine r_gd rfl rfl ?_ | refine r_gn rfl rfl rfl ?_ | refine r_gu rfl rfl ?_ | refine r_gd rfl (by assumption) ?_ | refine r_gn rfl (by assumption) rfl ?_); (first | refine r_gd rfl rfl ?_ | refine r_gn rfl rfl rfl ?_ | refine r_gu rfl rfl ?_ | refine r_gd rfl (by assumption) ?_ | refine r_gn rfl (by assumption) rfl ?_); (first | refine r_v (q_pick1 rfl rfl rfl) rfl ?_ | refine r_v (q_pick0 rfl rfl rfl) rfl ?_ | refine r_v (q_pick1 rfl (by assumption) rfl) rfl ?_ | refine r_v (q_pick0 rfl (by assumption) rfl) rfl ?_ | refine r_v (q_pickB rfl rfl rfl) rfl ?_)
                  exact r_nil (c_false rfl (c_skip ⟨0, ⟨rfl, rfl, rfl, rfl, rfl, rfl, rfl, rfl, rfl, rfl, trivial⟩, .inr (.inr ⟨rfl, _, rfl, fun h => by cases h⟩), h⟩))
            clear h
            rintro want w e ⟨hk, h⟩
            rcases hk with ⟨rfl, hg⟩ | ⟨rfl, o, hg, h1, h2⟩ | ⟨rfl, o, hg, h1⟩
            · refine c_seq (c_seq (c_region ?_))
              refine r_v (q_moveP rfl) rfl ?_; refine r_v (q_moveI rfl) rfl ?_; refine r_v (q_moveI rfl) rfl ?_
              refine r_c rfl (x_call rfl (iter_Use0 K who (h.f 1) hg) ?_)
              rintro _ w ⟨rfl, h⟩
              refine r_v (q_moveI rfl) rfl ?_; refine r_v (q_neq rfl rfl) rfl ?_
              refine r_nil (c_false rfl (c_skip ?_))
              refine c_seq (c_region ?_)
              refine r_v (q_moveI rfl) rfl ?_; refine r_v (q_eql rfl rfl) rfl ?_
              exact r_nil (c_false rfl (c_skip ⟨(T, entO (mget K T.l)), ⟨rfl, rfl, rfl, rfl, rfl, rfl, rfl, rfl, trivial⟩, inv.more, h.f 1⟩))
            · refine c_seq (c_seq (c_region ?_))
              refine r_v (q_moveP rfl) rfl ?_; refine r_v (q_moveI rfl) rfl ?_; refine r_v (q_moveI rfl) rfl ?_
              refine r_c rfl (x_call rfl (iter_UseW K who (h.f 1) hg h1 h2) ?_)
              rintro _ w ⟨rfl, h⟩
              refine r_v (q_moveI rfl) rfl ?_; refine r_v (q_neq rfl rfl) rfl ?_
              refine r_nil (c_false rfl (c_skip ?_))
              refine c_seq (c_region ?_)
              refine r_v (q_moveI rfl) rfl ?_; refine r_v (q_eql rfl rfl) rfl ?_
              exact r_nil (c_false rfl (c_skip ⟨(T, entO (mget K T.l)), ⟨rfl, rfl, rfl, rfl, rfl, rfl, rfl, rfl, trivial⟩, inv.more, h.f 1⟩))
            · refine c_seq (c_seq (c_region ?_))
              refine r_v (q_moveP rfl) rfl ?_; refine r_v (q_moveI rfl) rfl ?_; refine r_v (q_moveI rfl) rfl ?_
              refine r_c rfl (x_call rfl (iter_Use1 K who (h.f 1) hg h1) ?_)
              rintro _ w ⟨rfl, h⟩
              refine r_v (q_moveI rfl) rfl ?_; refine r_v (q_neq rfl rfl) rfl ?_
              refine r_nil (c_false rfl (c_skip ?_))
              refine c_seq (c_region ?_)
              refine r_v (q_moveI rfl) rfl ?_; refine r_v (q_eql rfl rfl) rfl ?_
              refine r_nil (c_true rfl ?_)
              rw [hg] at h
              refine c_seq (c_region ?_)
              refine r_v (q_moveI rfl) rfl ?_; refine r_v (q_fa rfl) rfl ?_
              refine r_c rfl (x_store 1 h rfl (show _ = Value.int .i64 who from rfl) rfl rfl rfl rfl fun w h => ?_)
              replace h : St w0 [IsTab p ⟨T.last, mset K { o with used := true, who := who } T.l⟩, pt rx (.cells (entOf { o with used := true, who := who }).cells.toArray 63 (0, 0)), MapOf (Value.int .i64) q (viewL T.l)] w := h
              refine r_nil ?_
              refine c_region ?_
              refine r_v (q_moveM rfl) rfl ?_; refine r_v (q_moveI rfl) rfl ?_
              refine r_v (q_loadS (l := (entOf { o with used := true, who := who }).cells) rfl rfl (at_of (h.b 1 rfl) rfl)) rfl ?_
              refine r_c rfl (x_mapset (k := K) (v := entV { o with used := true, who := who }) (h.f 2) rfl rfl rfl fun w h => ?_)
              refine r_nil ⟨(⟨T.last, mset K { o with used := true, who := who } T.l⟩, entOf { o with used := true, who := who }), ⟨rfl, rfl, rfl, rfl, rfl, rfl, rfl, rfl, trivial⟩, inv.changed hg rfl (fun _ => hwho), ?_⟩
              dsimp only
              rw [show viewL (mset K { o with used := true, who := who } T.l) = _ from (mset_map entV _ _ _).symm]
              exact (h.f 1).f 2
          ·
            clear hc
            refine c_seq (c_region ?_)
            refine r_v (q_eql rfl rfl) rfl ?_
            refine r_bool fun k => ?_
            refine r_v (q_assignB rfl) rfl ?_
            refine r_nil ?_
            refine c_cond k rfl (fun hc => ?_) (fun hc => ?_)
            ·
              clear hc
              refine c_seq (c_seq (c_region ?_))
              refine r_v (q_moveP rfl) rfl ?_; refine r_v (q_moveI rfl) rfl ?_; refine r_v (q_moveI rfl) rfl ?_
              cases u with
              | false =>
                refine r_c rfl (x_call rfl (iter_Free0 K who (h.f 1) (uses_no hu)) ?_)
                rintro _ w ⟨rfl, h⟩
                refine r_v (q_moveB rfl) rfl ?_; refine r_v (q_neb rfl rfl) rfl ?_
                refine r_nil (c_false rfl (c_skip ?_))
                refine c_seq (c_region ?_)
                refine r_v (q_moveB rfl) rfl ?_
                exact r_nil (c_false rfl (c_skip ⟨(T, entO (mget K T.l)), ⟨rfl, rfl, rfl, rfl, rfl, rfl, rfl, rfl, trivial⟩, inv.more, h.f 1⟩))
              | true =>
                obtain ⟨o, hg, hby⟩ := uses_by hu
                refine r_c rfl (x_call rfl (iter_Free1 K who (h.f 1) hg hby) ?_)
                rintro _ w ⟨rfl, h⟩
                refine r_v (q_moveB rfl) rfl ?_; refine r_v (q_neb rfl rfl) rfl ?_
                refine r_nil (c_false rfl (c_skip ?_))
                refine c_seq (c_region ?_)
                refine r_v (q_moveB rfl) rfl ?_
                refine r_nil (c_true rfl ?_)
                rw [hg] at h
                refine c_seq (c_region ?_)
                refine r_v (q_fa rfl) rfl ?_
                refine r_c rfl (x_store 1 h rfl (show _ = Value.int .i64 (-1) from rfl) rfl rfl rfl rfl fun w h => ?_)
                replace h : St w0 [IsTab p ⟨T.last, mset K { o with used := false } T.l⟩, pt rx (.cells (entOf { o with used := false }).cells.toArray 63 (0, 0)), MapOf (Value.int .i64) q (viewL T.l)] w := h
                refine r_nil ?_
                refine c_region ?_
                refine r_v (q_moveM rfl) rfl ?_; refine r_v (q_moveI rfl) rfl ?_
                refine r_v (q_loadS (l := (entOf { o with used := false }).cells) rfl rfl (at_of (h.b 1 rfl) rfl)) rfl ?_
                refine r_c rfl (x_mapset (k := K) (v := entV { o with used := false }) (h.f 2) rfl rfl rfl fun w h => ?_)
                refine r_nil ⟨(⟨T.last, mset K { o with used := false } T.l⟩, entOf { o with used := false }), ⟨rfl, rfl, rfl, rfl, rfl, rfl, rfl, rfl, trivial⟩, inv.changed hg rfl (fun h => by cases h), ?_⟩
                dsimp only
                rw [show viewL (mset K { o with used := false } T.l) = _ from (mset_map entV _ _ _).symm]
                exact (h.f 1).f 2
            ·
              clear hc
              refine c_cut (Γ := Bool) (fun k => [(0, .slice sA nA cA), (1, .slice sR nR cR), (5, .pointer (some ⟨p, 0, none⟩)), (6, .map (some q)), (7, .int .i64 T.last), (8, .int .i64 i), (9, .int .i64 K), (10, .int .i64 who), (11, .pointer (some ⟨rx, 0, none⟩)), (13, .bool u), (187, .bool k)]) (fun _ w => St w0 [pt rx (.cells (entO (mget K T.l)).cells.toArray 63 (0, 0)), IsTab p T, MapOf (Value.int .i64) q (viewL T.l)] w) ?_ ?_
              · refine c_seq (c_region ?_)
                refine r_v (q_eql rfl rfl) rfl ?_
                refine r_bool fun k => ?_
                refine r_v (q_assignB rfl) rfl ?_
                refine r_nil (c_cond k rfl (fun hc => ?_) (fun hc => ?_))
                · exact c_skip ⟨k, ⟨rfl, rfl, rfl, rfl, rfl, rfl, rfl, rfl, rfl, rfl, rfl, trivial⟩, h⟩
                · refine c_region ?_
                  refine r_v (q_eql rfl rfl) rfl ?_
                  refine r_bool fun k => ?_
                  refine r_v (q_assignB rfl) rfl ?_
                  exact r_nil ⟨k, ⟨rfl, rfl, rfl, rfl, rfl, rfl, rfl, rfl, rfl, rfl, rfl, trivial⟩, h⟩
              clear h
              rintro k w e h
              refine c_cond k rfl (fun hc => ?_) (fun hc => ?_)
              ·
                clear hc
                refine c_seq (c_region ?_)
                refine r_v (q_moveS rfl) rfl ?_; refine r_v (q_moveI rfl) rfl ?_
                refine r_v (q_idx (b := bA) (o := oA) (m := nA) (c := cA) (o' := oA + i) (by rw [← hsA]; rfl) rfl rfl hin (by simp)) rfl ?_
                refine r_v (q_loadc (v := .int .i64 a) rfl (hcell h)) rfl ?_
                refine r_v (q_shr rfl rfl (by omega)) rfl ?_
                refine r_v (q_and rfl rfl) rfl ?_; refine r_v (q_sub rfl rfl) rfl ?_
                refine r_int fun n _ => ?_
                refine r_v (q_assignI rfl) rfl ?_
                refine r_nil ?_
                refine c_seq (c_seq (c_region ?_))
                refine r_v (q_moveP rfl) rfl ?_; refine r_v (q_moveI rfl) rfl ?_; refine r_v (q_moveI rfl) rfl ?_; refine r_v (q_moveI rfl) rfl ?_
                cases u with
                | false =>
                  refine r_c rfl (x_call rfl (iter_Move0 K who n (h.f 1) (uses_no hu)) ?_)
                  rintro _ w ⟨rfl, h⟩
                  refine r_v (q_moveB rfl) rfl ?_; refine r_v (q_neb rfl rfl) rfl ?_
                  refine r_nil (c_false rfl (c_skip ?_))
                  refine c_seq (c_region ?_)
                  refine r_v (q_moveB rfl) rfl ?_
                  exact r_nil (c_false rfl (c_skip ⟨(T, entO (mget K T.l)), ⟨rfl, rfl, rfl, rfl, rfl, rfl, rfl, rfl, trivial⟩, inv.more, h.f 1⟩))
                | true =>
                  obtain ⟨o, hg, hby⟩ := uses_by hu
                  refine r_c rfl (x_call rfl (iter_Move1 K who n (h.f 1) hg hby) ?_)
                  rintro _ w ⟨rfl, h⟩
                  refine r_v (q_moveB rfl) rfl ?_; refine r_v (q_neb rfl rfl) rfl ?_
                  refine r_nil (c_false rfl (c_skip ?_))
                  refine c_seq (c_region ?_)
                  refine r_v (q_moveB rfl) rfl ?_
                  refine r_nil (c_true rfl ?_)
                  rw [hg] at h
                  refine c_seq (c_region ?_)
                  refine r_v (q_fa rfl) rfl ?_
                  refine r_v (q_load (v := .int .i64 o.told) rfl (h.b 1 rfl) rfl) rfl ?_
                  refine r_v (q_moveI rfl) rfl ?_; refine r_v (q_max rfl rfl) rfl ?_; refine r_v (q_add rfl rfl) rfl ?_; refine r_v (q_fa rfl) rfl ?_
                  refine r_c rfl (x_store 1 h rfl (show _ = Value.int .i64 (IntKind.i64.wrap (o.told + max n 0)) from rfl) rfl rfl rfl rfl fun w h => ?_)
                  replace h : St w0 [IsTab p ⟨T.last, mset K { o with told := IntKind.i64.wrap (o.told + max n 0) } T.l⟩, pt rx (.cells (entOf { o with told := IntKind.i64.wrap (o.told + max n 0) }).cells.toArray 63 (0, 0)), MapOf (Value.int .i64) q (viewL T.l)] w := h
                  refine r_nil ?_
                  refine c_region ?_
                  refine r_v (q_moveM rfl) rfl ?_; refine r_v (q_moveI rfl) rfl ?_
                  refine r_v (q_loadS (l := (entOf { o with told := IntKind.i64.wrap (o.told + max n 0) }).cells) rfl rfl (at_of (h.b 1 rfl) rfl)) rfl ?_
                  refine r_c rfl (x_mapset (k := K) (v := entV { o with told := IntKind.i64.wrap (o.told + max n 0) }) (h.f 2) rfl rfl rfl fun w h => ?_)
                  refine r_nil ⟨(⟨T.last, mset K { o with told := IntKind.i64.wrap (o.told + max n 0) } T.l⟩, entOf { o with told := IntKind.i64.wrap (o.told + max n 0) }), ⟨rfl, rfl, rfl, rfl, rfl, rfl, rfl, rfl, trivial⟩, inv.changed hg rfl (fun h => inv.whos K o hg h), ?_⟩
                  dsimp only
                  rw [show viewL (mset K { o with told := IntKind.i64.wrap (o.told + max n 0) } T.l) = _ from (mset_map entV _ _ _).symm]
                  exact (h.f 1).f 2
              ·
                clear hc
                refine c_seq (c_region ?_)
                refine r_v (q_moveP rfl) rfl ?_; refine r_v (q_moveI rfl) rfl ?_; refine r_v (q_moveI rfl) rfl ?_
                cases u with
                | false =>
                  refine r_c rfl (x_call rfl (iter_Close0 K who (h.f 1) (uses_no hu)) ?_)
                  rintro _ w ⟨rfl, h⟩
                  refine r_v (q_moveT rfl) rfl ?_; refine r_v (q_ext rfl rfl) rfl ?_; refine r_v (q_ext rfl rfl) rfl ?_
                  refine r_c rfl (x_alloc h fun r19 w h => ?_)
                  refine r_c rfl (x_storeA (vs := snap0) 0 h rfl rfl rfl rfl rfl rfl rfl fun w h => ?_)
                  replace h := h.drop
                  refine r_v (q_assignB rfl) rfl ?_
                  refine r_nil ?_
                  refine c_seq (c_seq (c_region ?_))
                  refine r_v (q_moveB rfl) rfl ?_; refine r_v (q_moveB rfl) rfl ?_; refine r_v (q_neb rfl rfl) rfl ?_; refine r_v (q_moveB rfl) rfl ?_; (first | refine r_gd rfl rfl ?_ | refine r_gn rfl rfl rfl ?_ | refine r_gu rfl rfl ?_ | refine r_gd rfl (by assumption) ?_ | refine r_gn rfl (by assumption) rfl ?_); refine r_v (q_moveB rfl) rfl ?_; (first | refine r_gd rfl rfl ?_ | refine r_gn rfl rfl rfl ?_ | refine r_gu rfl rfl ?_ | refine r_gd rfl (by assumption) ?_ | refine r_gn rfl (by assumption) rfl ?_); refine r_v (q_moveB rfl) rfl ?_; (first | refine r_gd rfl rfl ?_ | refine r_gn rfl rfl rfl ?_ | refine r_gu rfl rfl ?_ | refine r_gd rfl (by assumption) ?_ | refine r_gn rfl (by assumption) rfl ?_); (first | refine r_gd rfl rfl ?_ | refine r_gn rfl rfl rfl ?_ | refine r_gu rfl rfl ?_ | refine r_gd rfl (by assumption) ?_ | refine r_gn rfl (by assumption) rfl ?_); (first | refine r_gd rfl rfl ?_ | refine r_gn rfl rfl rfl ?_ | refine r_gu rfl rfl ?_ | refine r_gd rfl (by assumption) ?_ | refine r_gn rfl (by assumption) rfl ?_); (first | refine r_gd rfl rfl ?_ | refine r_gn rfl rfl rfl ?_ | refine r_gu rfl rfl ?_ | refine r_gd rfl (by assumption) ?_ | refine r_gn rfl (by assumption) rfl ?_); (first | refine r_gd rfl rfl ?_ | refine r_gn rfl rfl rfl ?_ | refine r_gu rfl rfl ?_ | refine r_gd rfl (by assumption) ?_ | refine r_gn rfl (by assumption) rfl ?_); (first | refine r_gd rfl rfl ?_ | refine r_gn rfl rfl rfl ?_ | refine r_gu rfl rfl ?_ | refine r_gd rfl (by assumption) ?_ | refine r_gn rfl (by assumption) rfl ?_); (first | refine r_v (q_pick1 rfl rfl rfl) rfl ?_ | refine r_v (q_pick0 rfl rfl rfl) rfl ?_ | refine r_v (q_pick1 rfl (by assumption) rfl) rfl ?_ | refine r_v (q_pick0 rfl (by assumption) rfl) rfl ?_ | refine r_v (q_pickB rfl rfl rfl) rfl ?_); (first | refine r_v (q_pick1 rfl rfl rfl) rfl ?_ | refine r_v (q_pick0 rfl rfl rfl) rfl ?_ | refine r_v (q_pick1 rfl (by assumption) rfl) rfl ?_ | refine r_v (q_pick0 rfl (by assumption) rfl) rfl ?_ | refine r_v (q_pickB rfl rfl rfl) rfl ?_)
                  refine r_nil (c_false rfl (c_skip ?_))
                  refine c_seq (c_region ?_)
                  refine r_v (q_moveB rfl) rfl ?_
                  exact r_nil (c_false rfl (c_skip ⟨(T, entO (mget K T.l)), ⟨rfl, rfl, rfl, rfl, rfl, rfl, rfl, rfl, trivial⟩, inv.more, h.f 1⟩))
                | true =>
                  obtain ⟨o, hg, hby⟩ := uses_by hu
                  refine r_c rfl (x_call rfl (iter_Close1 K who (h.f 1) hg hby) ?_)
                  rintro _ w ⟨a1, c1, a2, c2, rfl, h⟩
                  replace h := h.drop.drop
                  rw [hg] at h
                  refine r_v (q_moveT rfl) rfl ?_; refine r_v (q_ext rfl rfl) rfl ?_; refine r_v (q_ext rfl rfl) rfl ?_
                  refine r_c rfl (x_alloc h fun r19 w h => ?_)
                  refine r_c rfl (x_storeA (vs := o.x.cells a1 c1 a2 c2) 0 h rfl rfl rfl rfl rfl rfl rfl fun w h => ?_)
                  replace h : St w0 [pt r19 (.cells (o.x.cells a1 c1 a2 c2).toArray 43 (0, 0)), IsTab p ⟨T.last, mdel K T.l⟩, pt rx (.cells (entOf o).cells.toArray 63 (0, 0)), MapOf (Value.int .i64) q (viewL T.l)] w := h
                  refine r_v (q_assignB rfl) rfl ?_
                  refine r_nil ?_
                  refine c_seq (c_seq (c_region ?_))
                  refine r_v (q_moveB rfl) rfl ?_; refine r_v (q_moveB rfl) rfl ?_; refine r_v (q_neb rfl rfl) rfl ?_; refine r_v (q_moveB rfl) rfl ?_; (first | refine r_gd rfl rfl ?_ | refine r_gn rfl rfl rfl ?_ | refine r_gu rfl rfl ?_ | refine r_gd rfl (by assumption) ?_ | refine r_gn rfl (by assumption) rfl ?_); refine r_v (q_moveB rfl) rfl ?_; (first | refine r_gd rfl rfl ?_ | refine r_gn rfl rfl rfl ?_ | refine r_gu rfl rfl ?_ | refine r_gd rfl (by assumption) ?_ | refine r_gn rfl (by assumption) rfl ?_); refine r_v (q_moveB rfl) rfl ?_; (first | refine r_gd rfl rfl ?_ | refine r_gn rfl rfl rfl ?_ | refine r_gu rfl rfl ?_ | refine r_gd rfl (by assumption) ?_ | refine r_gn rfl (by assumption) rfl ?_); refine r_v (q_fa rfl) rfl ?_; (first | refine r_gd rfl rfl ?_ | refine r_gn rfl rfl rfl ?_ | refine r_gu rfl rfl ?_ | refine r_gd rfl (by assumption) ?_ | refine r_gn rfl (by assumption) rfl ?_); refine r_v (q_load rfl (h.b 0) rfl) rfl ?_; (first | refine r_gd rfl rfl ?_ | refine r_gn rfl rfl rfl ?_ | refine r_gu rfl rfl ?_ | refine r_gd rfl (by assumption) ?_ | refine r_gn rfl (by assumption) rfl ?_); refine r_v (q_fa rfl) rfl ?_; (first | refine r_gd rfl rfl ?_ | refine r_gn rfl rfl rfl ?_ | refine r_gu rfl rfl ?_ | refine r_gd rfl (by assumption) ?_ | refine r_gn rfl (by assumption) rfl ?_); refine r_v (q_load rfl (h.b 2) rfl) rfl ?_; (first | refine r_gd rfl rfl ?_ | refine r_gn rfl rfl rfl ?_ | refine r_gu rfl rfl ?_ | refine r_gd rfl (by assumption) ?_ | refine r_gn rfl (by assumption) rfl ?_); refine r_v (q_neqs rfl rfl) rfl ?_; (first | refine r_gd rfl rfl ?_ | refine r_gn rfl rfl rfl ?_ | refine r_gu rfl rfl ?_ | refine r_gd rfl (by assumption) ?_ | refine r_gn rfl (by assumption) rfl ?_); (first | refine r_v (q_pick1 rfl rfl rfl) rfl ?_ | refine r_v (q_pick0 rfl rfl rfl) rfl ?_ | refine r_v (q_pick1 rfl (by assumption) rfl) rfl ?_ | refine r_v (q_pick0 rfl (by assumption) rfl) rfl ?_ | refine r_v (q_pickB rfl rfl rfl) rfl ?_); (first | refine r_v (q_pick1 rfl rfl rfl) rfl ?_ | refine r_v (q_pick0 rfl rfl rfl) rfl ?_ | refine r_v (q_pick1 rfl (by assumption) rfl) rfl ?_ | refine r_v (q_pick0 rfl (by assumption) rfl) rfl ?_ | refine r_v (q_pickB rfl rfl rfl) rfl ?_)
                  refine r_nil (c_false rfl (c_skip ?_))
                  refine c_seq (c_region ?_)
                  refine r_v (q_moveB rfl) rfl ?_
                  refine r_nil (c_true rfl ?_)
                  refine c_region ?_
                  refine r_v (q_moveM rfl) rfl ?_; refine r_v (q_moveI rfl) rfl ?_
                  refine r_c rfl (x_delete (h.f 3) rfl rfl fun w h => ?_)
                  refine r_nil ⟨(⟨T.last, mdel K T.l⟩, entOf o), ⟨rfl, rfl, rfl, rfl, rfl, rfl, rfl, rfl, trivial⟩, (inv.closed K).more, ?_⟩
                  dsimp only
                  rw [show viewL (mdel K T.l) = _ from (mdel_map entV _ _).symm]
                  exact (h.f 1).drop.f 1 |>.f 2

      clear h inv hu hinn hl0 hl1 hwho
      rintro ⟨T, x0⟩ w e ⟨inv, h⟩
      dsimp only at inv h ⊢
      have hl0 := inv.l0
      have hl1 := inv.l1
      refine c_seq (c_region ?_)
      refine r_v (q_moveM rfl) rfl ?_; refine r_v (q_moveI rfl) rfl ?_
      refine r_v (q_lookupS (kv := Value.int .i64) (k := K) rfl rfl (h.f 2).isMap) rfl ?_
      refine r_is _ (look_view K T.l _ rfl) ?_
      refine r_v (q_moveT rfl) rfl ?_; refine r_v (q_ext rfl rfl) rfl ?_; refine r_v (q_ext rfl rfl) rfl ?_
      refine r_c rfl (x_storeA (vs := (entO (mget K T.l)).cells) 0 h rfl rfl rfl rfl rfl rfl rfl fun w h => ?_)
      replace h : St w0 [pt rx (.cells (entO (mget K T.l)).cells.toArray 63 (0, 0)), IsTab p T, MapOf (Value.int .i64) q (viewL T.l)] w := h
      refine r_v (q_assignB rfl) rfl ?_
      refine r_nil ?_
      refine c_seq (c_region ?_)
      refine r_v (q_moveP rfl) rfl ?_; refine r_v (q_moveI rfl) rfl ?_
      generalize hg : mget K T.l = oo at h ⊢
      cases oo with
      | none =>
        refine r_c rfl (x_call rfl (iter_At0 K (h.f 1) hg) ?_)
        rintro _ w ⟨rfl, h⟩
        refine r_v (q_moveT rfl) rfl ?_; refine r_v (q_ext rfl rfl) rfl ?_; refine r_v (q_ext rfl rfl) rfl ?_; refine r_v (q_ext rfl rfl) rfl ?_; refine r_v (q_ext rfl rfl) rfl ?_
        refine r_c rfl (x_alloc h fun r22 w h => ?_)
        refine r_v (q_assignI rfl) rfl ?_
        refine r_c rfl (x_storeA (vs := snap0) 0 h rfl rfl rfl rfl rfl rfl rfl fun w h => ?_)
        replace h : St w0 [pt r22 (.cells snap0.toArray 43 (0, 0)), IsTab p T, pt rx (.cells (entO none).cells.toArray 63 (0, 0)), MapOf (Value.int .i64) q (viewL T.l)] w := h
        refine r_v (q_assignI rfl) rfl ?_; refine r_v (q_assignB rfl) rfl ?_
        refine r_nil ?_
        refine c_seq (c_any none (fun w => St w0 _ w) (by kernel_rfl) (by kernel_rfl) h.drew fun w h => ?_)
        refine cur_pure rfl rfl rfl rfl (fun _ => h) (fun _ => flt_v rfl (q_moveB rfl)) ?_; refine cur_pure rfl rfl rfl rfl (fun _ => h) (fun _ => flt_v rfl (q_moveB rfl)) ?_; refine cur_pure rfl rfl rfl rfl (fun _ => h) (fun _ => flt_v rfl (q_neb rfl rfl)) ?_; refine cur_pure rfl rfl rfl rfl (fun _ => h) (fun _ => flt_v rfl (q_moveB rfl)) ?_; (first | refine cur_pure rfl rfl rfl rfl (fun _ => h) (fun _ => flt_g rfl rfl (q_moveB rfl)) ?_ | refine cur_pure rfl rfl rfl rfl (fun _ => h) (fun _ => flt_g rfl (by assumption) (q_moveB rfl)) ?_ | refine cur_pure rfl rfl rfl rfl (fun _ => h) (fun _ => flt_n rfl rfl) ?_ | refine cur_pure rfl rfl rfl rfl (fun _ => h) (fun _ => flt_n rfl (by assumption)) ?_); (first | refine cur_pure rfl rfl rfl rfl (fun _ => h) (fun _ => flt_g rfl rfl (q_moveB rfl)) ?_ | refine cur_pure rfl rfl rfl rfl (fun _ => h) (fun _ => flt_g rfl (by assumption) (q_moveB rfl)) ?_ | refine cur_pure rfl rfl rfl rfl (fun _ => h) (fun _ => flt_n rfl rfl) ?_ | refine cur_pure rfl rfl rfl rfl (fun _ => h) (fun _ => flt_n rfl (by assumption)) ?_); (first | refine cur_pure rfl rfl rfl rfl (fun _ => h) (fun _ => flt_g rfl rfl (q_moveI rfl)) ?_ | refine cur_pure rfl rfl rfl rfl (fun _ => h) (fun _ => flt_g rfl (by assumption) (q_moveI rfl)) ?_ | refine cur_pure rfl rfl rfl rfl (fun _ => h) (fun _ => flt_n rfl rfl) ?_ | refine cur_pure rfl rfl rfl rfl (fun _ => h) (fun _ => flt_n rfl (by assumption)) ?_); (first | refine cur_pure rfl rfl rfl rfl (fun _ => h) (fun _ => flt_g rfl rfl (q_fa rfl)) ?_ | refine cur_pure rfl rfl rfl rfl (fun _ => h) (fun _ => flt_g rfl (by assumption) (q_fa rfl)) ?_ | refine cur_pure rfl rfl rfl rfl (fun _ => h) (fun _ => flt_n rfl rfl) ?_ | refine cur_pure rfl rfl rfl rfl (fun _ => h) (fun _ => flt_n rfl (by assumption)) ?_); (first | refine cur_float rfl rfl rfl rfl h (fun _ h => flt_g rfl rfl (q_load rfl (h.b 0) rfl)) ?_ | refine cur_float rfl rfl rfl rfl h (fun _ h => flt_g rfl rfl (q_load rfl (h.b 1) rfl)) ?_ | refine cur_float rfl rfl rfl rfl h (fun _ h => flt_g rfl rfl (q_load rfl (h.b 2) rfl)) ?_ | refine cur_float rfl rfl rfl rfl h (fun _ h => flt_g rfl rfl (q_load rfl (h.b 3) rfl)) ?_ | refine cur_float rfl rfl rfl rfl h (fun _ h => flt_g rfl rfl (q_load rfl (h.b 4) rfl)) ?_ | refine cur_float rfl rfl rfl rfl h (fun _ h => flt_g rfl rfl (q_load rfl (h.b 5) rfl)) ?_ | refine cur_float rfl rfl rfl rfl h (fun _ h => flt_g rfl (by assumption) (q_load rfl (h.b 0) rfl)) ?_ | refine cur_float rfl rfl rfl rfl h (fun _ h => flt_g rfl (by assumption) (q_load rfl (h.b 1) rfl)) ?_ | refine cur_float rfl rfl rfl rfl h (fun _ h => flt_g rfl (by assumption) (q_load rfl (h.b 2) rfl)) ?_ | refine cur_float rfl rfl rfl rfl h (fun _ h => flt_g rfl (by assumption) (q_load rfl (h.b 3) rfl)) ?_ | refine cur_float rfl rfl rfl rfl h (fun _ h => flt_g rfl (by assumption) (q_load rfl (h.b 4) rfl)) ?_ | refine cur_float rfl rfl rfl rfl h (fun _ h => flt_g rfl (by assumption) (q_load rfl (h.b 5) rfl)) ?_ | refine cur_pure rfl rfl rfl rfl (fun _ => h) (fun _ => flt_n rfl rfl) ?_ | refine cur_pure rfl rfl rfl rfl (fun _ => h) (fun _ => flt_n rfl (by assumption)) ?_); (first | refine cur_pure rfl rfl rfl rfl (fun _ => h) (fun _ => flt_g rfl rfl (q_neq rfl rfl)) ?_ | refine cur_pure rfl rfl rfl rfl (fun _ => h) (fun _ => flt_g rfl (by assumption) (q_neq rfl rfl)) ?_ | refine cur_pure rfl rfl rfl rfl (fun _ => h) (fun _ => flt_n rfl rfl) ?_ | refine cur_pure rfl rfl rfl rfl (fun _ => h) (fun _ => flt_n rfl (by assumption)) ?_); (first | refine cur_pure rfl rfl rfl rfl (fun _ => h) (fun _ => flt_g rfl rfl (q_moveB rfl)) ?_ | refine cur_pure rfl rfl rfl rfl (fun _ => h) (fun _ => flt_g rfl (by assumption) (q_moveB rfl)) ?_ | refine cur_pure rfl rfl rfl rfl (fun _ => h) (fun _ => flt_n rfl rfl) ?_ | refine cur_pure rfl rfl rfl rfl (fun _ => h) (fun _ => flt_n rfl (by assumption)) ?_); refine cur_pure rfl rfl rfl rfl (fun _ => h) (fun _ => flt_u rfl) ?_; refine cur_pure rfl rfl rfl rfl (fun _ => h) (fun _ => flt_u rfl) ?_; refine cur_pure rfl rfl rfl rfl (fun _ => h) (fun _ => flt_u rfl) ?_; refine cur_pure rfl rfl rfl rfl (fun _ => h) (fun _ => flt_u rfl) ?_; refine cur_pure rfl rfl rfl rfl (fun _ => h) (fun _ => flt_u rfl) ?_; (first | refine cur_pure rfl rfl rfl rfl (fun _ => h) (fun _ => flt_g rfl rfl (q_pick1 rfl rfl rfl)) ?_ | refine cur_pure rfl rfl rfl rfl (fun _ => h) (fun _ => flt_g rfl rfl (q_pick0 rfl rfl rfl)) ?_ | refine cur_pure rfl rfl rfl rfl (fun _ => h) (fun _ => flt_g rfl rfl (q_pick1 rfl (by assumption) rfl)) ?_ | refine cur_pure rfl rfl rfl rfl (fun _ => h) (fun _ => flt_g rfl rfl (q_pick0 rfl (by assumption) rfl)) ?_ | refine cur_pure rfl rfl rfl rfl (fun _ => h) (fun _ => flt_g rfl rfl (q_pickB rfl rfl rfl)) ?_ | refine cur_pure rfl rfl rfl rfl (fun _ => h) (fun _ => flt_g rfl (by assumption) (q_pick1 rfl rfl rfl)) ?_ | refine cur_pure rfl rfl rfl rfl (fun _ => h) (fun _ => flt_g rfl (by assumption) (q_pick0 rfl rfl rfl)) ?_ | refine cur_pure rfl rfl rfl rfl (fun _ => h) (fun _ => flt_g rfl (by assumption) (q_pick1 rfl (by assumption) rfl)) ?_ | refine cur_pure rfl rfl rfl rfl (fun _ => h) (fun _ => flt_g rfl (by assumption) (q_pick0 rfl (by assumption) rfl)) ?_ | refine cur_pure rfl rfl rfl rfl (fun _ => h) (fun _ => flt_g rfl (by assumption) (q_pickB rfl rfl rfl)) ?_ | refine cur_pure rfl rfl rfl rfl (fun _ => h) (fun _ => flt_n rfl rfl) ?_ | refine cur_pure rfl rfl rfl rfl (fun _ => h) (fun _ => flt_n rfl (by assumption)) ?_); (first | refine cur_pure rfl rfl rfl rfl (fun _ => h) (fun _ => flt_g rfl rfl (q_moveB rfl)) ?_ | refine cur_pure rfl rfl rfl rfl (fun _ => h) (fun _ => flt_g rfl (by assumption) (q_moveB rfl)) ?_ | refine cur_pure rfl rfl rfl rfl (fun _ => h) (fun _ => flt_n rfl rfl) ?_ | refine cur_pure rfl rfl rfl rfl (fun _ => h) (fun _ => flt_n rfl (by assumption)) ?_); refine cur_pure rfl rfl rfl rfl (fun _ => h) (fun _ => flt_u rfl) ?_; refine cur_pure rfl rfl rfl rfl (fun _ => h) (fun _ => flt_u rfl) ?_; refine cur_pure rfl rfl rfl rfl (fun _ => h) (fun _ => flt_u rfl) ?_; refine cur_pure rfl rfl rfl rfl (fun _ => h) (fun _ => flt_u rfl) ?_; (first | refine cur_pure rfl rfl rfl rfl (fun _ => h) (fun _ => flt_g rfl rfl (q_pick1 rfl rfl rfl)) ?_ | refine cur_pure rfl rfl rfl rfl (fun _ => h) (fun _ => flt_g rfl rfl (q_pick0 rfl rfl rfl)) ?_ | refine cur_pure rfl rfl rfl rfl (fun _ => h) (fun _ => flt_g rfl rfl (q_pick1 rfl (by assumption) rfl)) ?_ | refine cur_pure rfl rfl rfl rfl (fun _ => h) (fun _ => flt_g rfl rfl (q_pick0 rfl (by assumption) rfl)) ?_ | refine cur_pure rfl rfl rfl rfl (fun _ => h) (fun _ => flt_g rfl rfl (q_pickB rfl rfl rfl)) ?_ | refine cur_pure rfl rfl rfl rfl (fun _ => h) (fun _ => flt_g rfl (by assumption) (q_pick1 rfl rfl rfl)) ?_ | refine cur_pure rfl rfl rfl rfl (fun _ => h) (fun _ => flt_g rfl (by assumption) (q_pick0 rfl rfl rfl)) ?_ | refine cur_pure rfl rfl rfl rfl (fun _ => h) (fun _ => flt_g rfl (by assumption) (q_pick1 rfl (by assumption) rfl)) ?_ | refine cur_pure rfl rfl rfl rfl (fun _ => h) (fun _ => flt_g rfl (by assumption) (q_pick0 rfl (by assumption) rfl)) ?_ | refine cur_pure rfl rfl rfl rfl (fun _ => h) (fun _ => flt_g rfl (by assumption) (q_pickB rfl rfl rfl)) ?_ | refine cur_pure rfl rfl rfl rfl (fun _ => h) (fun _ => flt_n rfl rfl) ?_ | refine cur_pure rfl rfl rfl rfl (fun _ => h) (fun _ => flt_n rfl (by assumption)) ?_); (first | refine cur_pure rfl rfl rfl rfl (fun _ => h) (fun _ => flt_g rfl rfl (q_pick1 rfl rfl rfl)) ?_ | refine cur_pure rfl rfl rfl rfl (fun _ => h) (fun _ => flt_g rfl rfl (q_pick0 rfl rfl rfl)) ?_ | refine cur_pure rfl rfl rfl rfl (fun _ => h) (fun _ => flt_g rfl rfl (q_pick1 rfl (by assumption) rfl)) ?_ | refine cur_pure rfl rfl rfl rfl (fun _ => h) (fun _ => flt_g rfl rfl (q_pick0 rfl (by assumption) rfl)) ?_ | refine cur_pure rfl rfl rfl rfl (fun _ => h) (fun _ => flt_g rfl rfl (q_pickB rfl rfl rfl)) ?_ | refine cur_pure rfl rfl rfl rfl (fun _ => h) (fun _ => flt_g rfl (by assumption) (q_pick1 rfl rfl rfl)) ?_ | refine cur_pure rfl rfl rfl rfl (fun _ => h) (fun _ => flt_g rfl (by assumption) (q_pick0 rfl rfl rfl)) ?_ | refine cur_pure rfl rfl rfl rfl (fun _ => h) (fun _ => flt_g rfl (by assumption) (q_pick1 rfl (by assumption) rfl)) ?_ | refine cur_pure rfl rfl rfl rfl (fun _ => h) (fun _ => flt_g rfl (by assumption) (q_pick0 rfl (by assumption) rfl)) ?_ | refine cur_pure rfl rfl rfl rfl (fun _ => h) (fun _ => flt_g rfl (by assumption) (q_pickB rfl rfl rfl)) ?_ | refine cur_pure rfl rfl rfl rfl (fun _ => h) (fun _ => flt_n rfl rfl) ?_ | refine cur_pure rfl rfl rfl rfl (fun _ => h) (fun _ => flt_n rfl (by assumption)) ?_); (first | refine cur_pure rfl rfl rfl rfl (fun _ => h) (fun _ => flt_v rfl (q_pick1 rfl rfl rfl)) ?_ | refine cur_pure rfl rfl rfl rfl (fun _ => h) (fun _ => flt_v rfl (q_pick0 rfl rfl rfl)) ?_ | refine cur_pure rfl rfl rfl rfl (fun _ => h) (fun _ => flt_v rfl (q_pick1 rfl (by assumption) rfl)) ?_ | refine cur_pure rfl rfl rfl rfl (fun _ => h) (fun _ => flt_v rfl (q_pick0 rfl (by assumption) rfl)) ?_ | refine cur_pure rfl rfl rfl rfl (fun _ => h) (fun _ => flt_v rfl (q_pickB rfl rfl rfl)) ?_); refine cur_pure rfl rfl rfl rfl (fun _ => h) (fun _ => flt_v rfl (q_moveB rfl)) ?_; (first | refine cur_pure rfl rfl rfl rfl (fun _ => h) (fun _ => flt_g rfl rfl (q_moveP rfl)) ?_ | refine cur_pure rfl rfl rfl rfl (fun _ => h) (fun _ => flt_g rfl (by assumption) (q_moveP rfl)) ?_ | refine cur_pure rfl rfl rfl rfl (fun _ => h) (fun _ => flt_n rfl rfl) ?_ | refine cur_pure rfl rfl rfl rfl (fun _ => h) (fun _ => flt_n rfl (by assumption)) ?_); refine cur_skip ?_; (first | refine cur_pure rfl rfl rfl rfl (fun _ => h) (fun _ => flt_g rfl rfl (q_moveM rfl)) ?_ | refine cur_pure rfl rfl rfl rfl (fun _ => h) (fun _ => flt_g rfl (by assumption) (q_moveM rfl)) ?_ | refine cur_pure rfl rfl rfl rfl (fun _ => h) (fun _ => flt_n rfl rfl) ?_ | refine cur_pure rfl rfl rfl rfl (fun _ => h) (fun _ => flt_n rfl (by assumption)) ?_)
        refine cur_skip ?_; refine cur_skip ?_; refine cur_skip ?_; refine cur_skip ?_; refine cur_skip ?_; refine cur_skip ?_; refine cur_skip ?_; refine cur_skip ?_; refine cur_skip ?_; refine cur_skip ?_; refine cur_skip ?_; refine cur_skip ?_; refine cur_skip ?_; refine cur_skip ?_; refine cur_skip ?_; refine cur_skip ?_; refine cur_skip ?_; refine cur_skip ?_; refine cur_skip ?_; refine cur_skip ?_; refine cur_skip ?_; refine cur_skip ?_; refine cur_skip ?_; refine cur_skip ?_; refine cur_skip ?_; refine cur_skip ?_; refine cur_skip ?_; refine cur_skip ?_; refine cur_skip ?_; refine cur_skip ?_; refine cur_skip ?_; refine cur_skip ?_; refine cur_skip ?_; refine cur_skip ?_; refine cur_skip ?_
        refine cur_one 27 rfl rfl rfl (wanted_g rfl rfl rfl) ?_
        refine (x_call rfl (iter_Count (h.f 1)) ?_)
        rintro _ w ⟨rfl, h⟩
        replace h := h.f 1
        refine ⟨fun _ => h, ?_⟩
        refine cur_float rfl rfl rfl rfl h (fun w h => flt_g rfl rfl (q_lenm rfl (h.f 3).isMap)) ?_
        refine cur_pure rfl rfl rfl rfl (fun _ => h) (fun _ => flt_g rfl rfl (q_is (v' := .bool false) (q_neq rfl rfl) (by simp))) ?_
        (first | refine cur_pure rfl rfl rfl rfl (fun _ => h) (fun _ => flt_v rfl (q_pick1 rfl rfl rfl)) ?_ | refine cur_pure rfl rfl rfl rfl (fun _ => h) (fun _ => flt_v rfl (q_pick0 rfl rfl rfl)) ?_ | refine cur_pure rfl rfl rfl rfl (fun _ => h) (fun _ => flt_v rfl (q_pick1 rfl (by assumption) rfl)) ?_ | refine cur_pure rfl rfl rfl rfl (fun _ => h) (fun _ => flt_v rfl (q_pick0 rfl (by assumption) rfl)) ?_ | refine cur_pure rfl rfl rfl rfl (fun _ => h) (fun _ => flt_v rfl (q_pickB rfl rfl rfl)) ?_); refine cur_pure rfl rfl rfl rfl (fun _ => h) (fun _ => flt_v rfl (q_moveB rfl)) ?_; (first | refine cur_pure rfl rfl rfl rfl (fun _ => h) (fun _ => flt_g rfl rfl (q_moveB rfl)) ?_ | refine cur_pure rfl rfl rfl rfl (fun _ => h) (fun _ => flt_g rfl (by assumption) (q_moveB rfl)) ?_ | refine cur_pure rfl rfl rfl rfl (fun _ => h) (fun _ => flt_n rfl rfl) ?_ | refine cur_pure rfl rfl rfl rfl (fun _ => h) (fun _ => flt_n rfl (by assumption)) ?_); (first | refine cur_pure rfl rfl rfl rfl (fun _ => h) (fun _ => flt_g rfl rfl (q_not rfl)) ?_ | refine cur_pure rfl rfl rfl rfl (fun _ => h) (fun _ => flt_g rfl (by assumption) (q_not rfl)) ?_ | refine cur_pure rfl rfl rfl rfl (fun _ => h) (fun _ => flt_n rfl rfl) ?_ | refine cur_pure rfl rfl rfl rfl (fun _ => h) (fun _ => flt_n rfl (by assumption)) ?_); (first | refine cur_pure rfl rfl rfl rfl (fun _ => h) (fun _ => flt_g rfl rfl (q_moveB rfl)) ?_ | refine cur_pure rfl rfl rfl rfl (fun _ => h) (fun _ => flt_g rfl (by assumption) (q_moveB rfl)) ?_ | refine cur_pure rfl rfl rfl rfl (fun _ => h) (fun _ => flt_n rfl rfl) ?_ | refine cur_pure rfl rfl rfl rfl (fun _ => h) (fun _ => flt_n rfl (by assumption)) ?_); (first | refine cur_pure rfl rfl rfl rfl (fun _ => h) (fun _ => flt_g rfl rfl (q_fa rfl)) ?_ | refine cur_pure rfl rfl rfl rfl (fun _ => h) (fun _ => flt_g rfl (by assumption) (q_fa rfl)) ?_ | refine cur_pure rfl rfl rfl rfl (fun _ => h) (fun _ => flt_n rfl rfl) ?_ | refine cur_pure rfl rfl rfl rfl (fun _ => h) (fun _ => flt_n rfl (by assumption)) ?_); (first | refine cur_float rfl rfl rfl rfl h (fun _ h => flt_g rfl rfl (q_load rfl (h.b 0) rfl)) ?_ | refine cur_float rfl rfl rfl rfl h (fun _ h => flt_g rfl rfl (q_load rfl (h.b 1) rfl)) ?_ | refine cur_float rfl rfl rfl rfl h (fun _ h => flt_g rfl rfl (q_load rfl (h.b 2) rfl)) ?_ | refine cur_float rfl rfl rfl rfl h (fun _ h => flt_g rfl rfl (q_load rfl (h.b 3) rfl)) ?_ | refine cur_float rfl rfl rfl rfl h (fun _ h => flt_g rfl rfl (q_load rfl (h.b 4) rfl)) ?_ | refine cur_float rfl rfl rfl rfl h (fun _ h => flt_g rfl rfl (q_load rfl (h.b 5) rfl)) ?_ | refine cur_float rfl rfl rfl rfl h (fun _ h => flt_g rfl (by assumption) (q_load rfl (h.b 0) rfl)) ?_ | refine cur_float rfl rfl rfl rfl h (fun _ h => flt_g rfl (by assumption) (q_load rfl (h.b 1) rfl)) ?_ | refine cur_float rfl rfl rfl rfl h (fun _ h => flt_g rfl (by assumption) (q_load rfl (h.b 2) rfl)) ?_ | refine cur_float rfl rfl rfl rfl h (fun _ h => flt_g rfl (by assumption) (q_load rfl (h.b 3) rfl)) ?_ | refine cur_float rfl rfl rfl rfl h (fun _ h => flt_g rfl (by assumption) (q_load rfl (h.b 4) rfl)) ?_ | refine cur_float rfl rfl rfl rfl h (fun _ h => flt_g rfl (by assumption) (q_load rfl (h.b 5) rfl)) ?_ | refine cur_pure rfl rfl rfl rfl (fun _ => h) (fun _ => flt_n rfl rfl) ?_ | refine cur_pure rfl rfl rfl rfl (fun _ => h) (fun _ => flt_n rfl (by assumption)) ?_); (first | refine cur_pure rfl rfl rfl rfl (fun _ => h) (fun _ => flt_g rfl rfl (q_len rfl)) ?_ | refine cur_pure rfl rfl rfl rfl (fun _ => h) (fun _ => flt_g rfl (by assumption) (q_len rfl)) ?_ | refine cur_pure rfl rfl rfl rfl (fun _ => h) (fun _ => flt_n rfl rfl) ?_ | refine cur_pure rfl rfl rfl rfl (fun _ => h) (fun _ => flt_n rfl (by assumption)) ?_)
        refine cur_pure rfl rfl rfl rfl (fun _ => h) (fun _ => flt_g rfl rfl (q_is (v' := .bool false) (q_neq rfl rfl) (by simp))) ?_
        (first | refine cur_pure rfl rfl rfl rfl (fun _ => h) (fun _ => flt_g rfl rfl (q_pick1 rfl rfl rfl)) ?_ | refine cur_pure rfl rfl rfl rfl (fun _ => h) (fun _ => flt_g rfl rfl (q_pick0 rfl rfl rfl)) ?_ | refine cur_pure rfl rfl rfl rfl (fun _ => h) (fun _ => flt_g rfl rfl (q_pick1 rfl (by assumption) rfl)) ?_ | refine cur_pure rfl rfl rfl rfl (fun _ => h) (fun _ => flt_g rfl rfl (q_pick0 rfl (by assumption) rfl)) ?_ | refine cur_pure rfl rfl rfl rfl (fun _ => h) (fun _ => flt_g rfl rfl (q_pickB rfl rfl rfl)) ?_ | refine cur_pure rfl rfl rfl rfl (fun _ => h) (fun _ => flt_g rfl (by assumption) (q_pick1 rfl rfl rfl)) ?_ | refine cur_pure rfl rfl rfl rfl (fun _ => h) (fun _ => flt_g rfl (by assumption) (q_pick0 rfl rfl rfl)) ?_ | refine cur_pure rfl rfl rfl rfl (fun _ => h) (fun _ => flt_g rfl (by assumption) (q_pick1 rfl (by assumption) rfl)) ?_ | refine cur_pure rfl rfl rfl rfl (fun _ => h) (fun _ => flt_g rfl (by assumption) (q_pick0 rfl (by assumption) rfl)) ?_ | refine cur_pure rfl rfl rfl rfl (fun _ => h) (fun _ => flt_g rfl (by assumption) (q_pickB rfl rfl rfl)) ?_ | refine cur_pure rfl rfl rfl rfl (fun _ => h) (fun _ => flt_n rfl rfl) ?_ | refine cur_pure rfl rfl rfl rfl (fun _ => h) (fun _ => flt_n rfl (by assumption)) ?_); (first | refine cur_pure rfl rfl rfl rfl (fun _ => h) (fun _ => flt_v rfl (q_pick1 rfl rfl rfl)) ?_ | refine cur_pure rfl rfl rfl rfl (fun _ => h) (fun _ => flt_v rfl (q_pick0 rfl rfl rfl)) ?_ | refine cur_pure rfl rfl rfl rfl (fun _ => h) (fun _ => flt_v rfl (q_pick1 rfl (by assumption) rfl)) ?_ | refine cur_pure rfl rfl rfl rfl (fun _ => h) (fun _ => flt_v rfl (q_pick0 rfl (by assumption) rfl)) ?_ | refine cur_pure rfl rfl rfl rfl (fun _ => h) (fun _ => flt_v rfl (q_pickB rfl rfl rfl)) ?_); refine cur_pure rfl rfl rfl rfl (fun _ => h) (fun _ => flt_v rfl (q_moveB rfl)) ?_; (first | refine cur_pure rfl rfl rfl rfl (fun _ => h) (fun _ => flt_g rfl rfl (q_moveB rfl)) ?_ | refine cur_pure rfl rfl rfl rfl (fun _ => h) (fun _ => flt_g rfl (by assumption) (q_moveB rfl)) ?_ | refine cur_pure rfl rfl rfl rfl (fun _ => h) (fun _ => flt_n rfl rfl) ?_ | refine cur_pure rfl rfl rfl rfl (fun _ => h) (fun _ => flt_n rfl (by assumption)) ?_); (first | refine cur_pure rfl rfl rfl rfl (fun _ => h) (fun _ => flt_g rfl rfl (q_moveB rfl)) ?_ | refine cur_pure rfl rfl rfl rfl (fun _ => h) (fun _ => flt_g rfl (by assumption) (q_moveB rfl)) ?_ | refine cur_pure rfl rfl rfl rfl (fun _ => h) (fun _ => flt_n rfl rfl) ?_ | refine cur_pure rfl rfl rfl rfl (fun _ => h) (fun _ => flt_n rfl (by assumption)) ?_); (first | refine cur_pure rfl rfl rfl rfl (fun _ => h) (fun _ => flt_g rfl rfl (q_moveS rfl)) ?_ | refine cur_pure rfl rfl rfl rfl (fun _ => h) (fun _ => flt_g rfl (by assumption) (q_moveS rfl)) ?_ | refine cur_pure rfl rfl rfl rfl (fun _ => h) (fun _ => flt_n rfl rfl) ?_ | refine cur_pure rfl rfl rfl rfl (fun _ => h) (fun _ => flt_n rfl (by assumption)) ?_); (first | refine cur_pure rfl rfl rfl rfl (fun _ => h) (fun _ => flt_g rfl rfl (q_len rfl)) ?_ | refine cur_pure rfl rfl rfl rfl (fun _ => h) (fun _ => flt_g rfl (by assumption) (q_len rfl)) ?_ | refine cur_pure rfl rfl rfl rfl (fun _ => h) (fun _ => flt_n rfl rfl) ?_ | refine cur_pure rfl rfl rfl rfl (fun _ => h) (fun _ => flt_n rfl (by assumption)) ?_); (first | refine cur_pure rfl rfl rfl rfl (fun _ => h) (fun _ => flt_g rfl rfl (q_gtr rfl rfl)) ?_ | refine cur_pure rfl rfl rfl rfl (fun _ => h) (fun _ => flt_g rfl (by assumption) (q_gtr rfl rfl)) ?_ | refine cur_pure rfl rfl rfl rfl (fun _ => h) (fun _ => flt_n rfl rfl) ?_ | refine cur_pure rfl rfl rfl rfl (fun _ => h) (fun _ => flt_n rfl (by assumption)) ?_); (first | refine cur_pure rfl rfl rfl rfl (fun _ => h) (fun _ => flt_g rfl rfl (q_pick1 rfl rfl rfl)) ?_ | refine cur_pure rfl rfl rfl rfl (fun _ => h) (fun _ => flt_g rfl rfl (q_pick0 rfl rfl rfl)) ?_ | refine cur_pure rfl rfl rfl rfl (fun _ => h) (fun _ => flt_g rfl rfl (q_pick1 rfl (by assumption) rfl)) ?_ | refine cur_pure rfl rfl rfl rfl (fun _ => h) (fun _ => flt_g rfl rfl (q_pick0 rfl (by assumption) rfl)) ?_ | refine cur_pure rfl rfl rfl rfl (fun _ => h) (fun _ => flt_g rfl rfl (q_pickB rfl rfl rfl)) ?_ | refine cur_pure rfl rfl rfl rfl (fun _ => h) (fun _ => flt_g rfl (by assumption) (q_pick1 rfl rfl rfl)) ?_ | refine cur_pure rfl rfl rfl rfl (fun _ => h) (fun _ => flt_g rfl (by assumption) (q_pick0 rfl rfl rfl)) ?_ | refine cur_pure rfl rfl rfl rfl (fun _ => h) (fun _ => flt_g rfl (by assumption) (q_pick1 rfl (by assumption) rfl)) ?_ | refine cur_pure rfl rfl rfl rfl (fun _ => h) (fun _ => flt_g rfl (by assumption) (q_pick0 rfl (by assumption) rfl)) ?_ | refine cur_pure rfl rfl rfl rfl (fun _ => h) (fun _ => flt_g rfl (by assumption) (q_pickB rfl rfl rfl)) ?_ | refine cur_pure rfl rfl rfl rfl (fun _ => h) (fun _ => flt_n rfl rfl) ?_ | refine cur_pure rfl rfl rfl rfl (fun _ => h) (fun _ => flt_n rfl (by assumption)) ?_); (first | refine cur_pure rfl rfl rfl rfl (fun _ => h) (fun _ => flt_g rfl rfl (q_moveB rfl)) ?_ | refine cur_pure rfl rfl rfl rfl (fun _ => h) (fun _ => flt_g rfl (by assumption) (q_moveB rfl)) ?_ | refine cur_pure rfl rfl rfl rfl (fun _ => h) (fun _ => flt_n rfl rfl) ?_ | refine cur_pure rfl rfl rfl rfl (fun _ => h) (fun _ => flt_n rfl (by assumption)) ?_); (first | refine cur_pure rfl rfl rfl rfl (fun _ => h) (fun _ => flt_g rfl rfl (q_fa rfl)) ?_ | refine cur_pure rfl rfl rfl rfl (fun _ => h) (fun _ => flt_g rfl (by assumption) (q_fa rfl)) ?_ | refine cur_pure rfl rfl rfl rfl (fun _ => h) (fun _ => flt_n rfl rfl) ?_ | refine cur_pure rfl rfl rfl rfl (fun _ => h) (fun _ => flt_n rfl (by assumption)) ?_); (first | refine cur_float rfl rfl rfl rfl h (fun _ h => flt_g rfl rfl (q_load rfl (h.b 0) rfl)) ?_ | refine cur_float rfl rfl rfl rfl h (fun _ h => flt_g rfl rfl (q_load rfl (h.b 1) rfl)) ?_ | refine cur_float rfl rfl rfl rfl h (fun _ h => flt_g rfl rfl (q_load rfl (h.b 2) rfl)) ?_ | refine cur_float rfl rfl rfl rfl h (fun _ h => flt_g rfl rfl (q_load rfl (h.b 3) rfl)) ?_ | refine cur_float rfl rfl rfl rfl h (fun _ h => flt_g rfl rfl (q_load rfl (h.b 4) rfl)) ?_ | refine cur_float rfl rfl rfl rfl h (fun _ h => flt_g rfl rfl (q_load rfl (h.b 5) rfl)) ?_ | refine cur_float rfl rfl rfl rfl h (fun _ h => flt_g rfl (by assumption) (q_load rfl (h.b 0) rfl)) ?_ | refine cur_float rfl rfl rfl rfl h (fun _ h => flt_g rfl (by assumption) (q_load rfl (h.b 1) rfl)) ?_ | refine cur_float rfl rfl rfl rfl h (fun _ h => flt_g rfl (by assumption) (q_load rfl (h.b 2) rfl)) ?_ | refine cur_float rfl rfl rfl rfl h (fun _ h => flt_g rfl (by assumption) (q_load rfl (h.b 3) rfl)) ?_ | refine cur_float rfl rfl rfl rfl h (fun _ h => flt_g rfl (by assumption) (q_load rfl (h.b 4) rfl)) ?_ | refine cur_float rfl rfl rfl rfl h (fun _ h => flt_g rfl (by assumption) (q_load rfl (h.b 5) rfl)) ?_ | refine cur_pure rfl rfl rfl rfl (fun _ => h) (fun _ => flt_n rfl rfl) ?_ | refine cur_pure rfl rfl rfl rfl (fun _ => h) (fun _ => flt_n rfl (by assumption)) ?_); (first | refine cur_pure rfl rfl rfl rfl (fun _ => h) (fun _ => flt_g rfl rfl (q_moveS rfl)) ?_ | refine cur_pure rfl rfl rfl rfl (fun _ => h) (fun _ => flt_g rfl (by assumption) (q_moveS rfl)) ?_ | refine cur_pure rfl rfl rfl rfl (fun _ => h) (fun _ => flt_n rfl rfl) ?_ | refine cur_pure rfl rfl rfl rfl (fun _ => h) (fun _ => flt_n rfl (by assumption)) ?_); (first | refine cur_pure rfl rfl rfl rfl (fun _ => h) (fun _ => flt_g rfl rfl (q_fa rfl)) ?_ | refine cur_pure rfl rfl rfl rfl (fun _ => h) (fun _ => flt_g rfl (by assumption) (q_fa rfl)) ?_ | refine cur_pure rfl rfl rfl rfl (fun _ => h) (fun _ => flt_n rfl rfl) ?_ | refine cur_pure rfl rfl rfl rfl (fun _ => h) (fun _ => flt_n rfl (by assumption)) ?_); (first | refine cur_float rfl rfl rfl rfl h (fun _ h => flt_g rfl rfl (q_load rfl (h.b 0) rfl)) ?_ | refine cur_float rfl rfl rfl rfl h (fun _ h => flt_g rfl rfl (q_load rfl (h.b 1) rfl)) ?_ | refine cur_float rfl rfl rfl rfl h (fun _ h => flt_g rfl rfl (q_load rfl (h.b 2) rfl)) ?_ | refine cur_float rfl rfl rfl rfl h (fun _ h => flt_g rfl rfl (q_load rfl (h.b 3) rfl)) ?_ | refine cur_float rfl rfl rfl rfl h (fun _ h => flt_g rfl rfl (q_load rfl (h.b 4) rfl)) ?_ | refine cur_float rfl rfl rfl rfl h (fun _ h => flt_g rfl rfl (q_load rfl (h.b 5) rfl)) ?_ | refine cur_float rfl rfl rfl rfl h (fun _ h => flt_g rfl (by assumption) (q_load rfl (h.b 0) rfl)) ?_ | refine cur_float rfl rfl rfl rfl h (fun _ h => flt_g rfl (by assumption) (q_load rfl (h.b 1) rfl)) ?_ | refine cur_float rfl rfl rfl rfl h (fun _ h => flt_g rfl (by assumption) (q_load rfl (h.b 2) rfl)) ?_ | refine cur_float rfl rfl rfl rfl h (fun _ h => flt_g rfl (by assumption) (q_load rfl (h.b 3) rfl)) ?_ | refine cur_float rfl rfl rfl rfl h (fun _ h => flt_g rfl (by assumption) (q_load rfl (h.b 4) rfl)) ?_ | refine cur_float rfl rfl rfl rfl h (fun _ h => flt_g rfl (by assumption) (q_load rfl (h.b 5) rfl)) ?_ | refine cur_pure rfl rfl rfl rfl (fun _ => h) (fun _ => flt_n rfl rfl) ?_ | refine cur_pure rfl rfl rfl rfl (fun _ => h) (fun _ => flt_n rfl (by assumption)) ?_); (first | refine cur_pure rfl rfl rfl rfl (fun _ => h) (fun _ => flt_g rfl rfl (q_moveS rfl)) ?_ | refine cur_pure rfl rfl rfl rfl (fun _ => h) (fun _ => flt_g rfl (by assumption) (q_moveS rfl)) ?_ | refine cur_pure rfl rfl rfl rfl (fun _ => h) (fun _ => flt_n rfl rfl) ?_ | refine cur_pure rfl rfl rfl rfl (fun _ => h) (fun _ => flt_n rfl (by assumption)) ?_); (first | refine cur_pure rfl rfl rfl rfl (fun _ => h) (fun _ => flt_g rfl rfl (q_len rfl)) ?_ | refine cur_pure rfl rfl rfl rfl (fun _ => h) (fun _ => flt_g rfl (by assumption) (q_len rfl)) ?_ | refine cur_pure rfl rfl rfl rfl (fun _ => h) (fun _ => flt_n rfl rfl) ?_ | refine cur_pure rfl rfl rfl rfl (fun _ => h) (fun _ => flt_n rfl (by assumption)) ?_); (first | refine cur_pure rfl rfl rfl rfl (fun _ => h) (fun _ => flt_g rfl rfl (q_nil rfl)) ?_ | refine cur_pure rfl rfl rfl rfl (fun _ => h) (fun _ => flt_g rfl (by assumption) (q_nil rfl)) ?_ | refine cur_pure rfl rfl rfl rfl (fun _ => h) (fun _ => flt_n rfl rfl) ?_ | refine cur_pure rfl rfl rfl rfl (fun _ => h) (fun _ => flt_n rfl (by assumption)) ?_); (first | refine cur_pure rfl rfl rfl rfl (fun _ => h) (fun _ => flt_g rfl rfl (q_nil rfl)) ?_ | refine cur_pure rfl rfl rfl rfl (fun _ => h) (fun _ => flt_g rfl (by assumption) (q_nil rfl)) ?_ | refine cur_pure rfl rfl rfl rfl (fun _ => h) (fun _ => flt_n rfl rfl) ?_ | refine cur_pure rfl rfl rfl rfl (fun _ => h) (fun _ => flt_n rfl (by assumption)) ?_); (first | refine cur_pure rfl rfl rfl rfl (fun _ => h) (fun _ => flt_g rfl rfl (q_nil rfl)) ?_ | refine cur_pure rfl rfl rfl rfl (fun _ => h) (fun _ => flt_g rfl (by assumption) (q_nil rfl)) ?_ | refine cur_pure rfl rfl rfl rfl (fun _ => h) (fun _ => flt_n rfl rfl) ?_ | refine cur_pure rfl rfl rfl rfl (fun _ => h) (fun _ => flt_n rfl (by assumption)) ?_); (first | refine cur_pure rfl rfl rfl rfl (fun _ => h) (fun _ => flt_g rfl rfl (q_nil rfl)) ?_ | refine cur_pure rfl rfl rfl rfl (fun _ => h) (fun _ => flt_g rfl (by assumption) (q_nil rfl)) ?_ | refine cur_pure rfl rfl rfl rfl (fun _ => h) (fun _ => flt_n rfl rfl) ?_ | refine cur_pure rfl rfl rfl rfl (fun _ => h) (fun _ => flt_n rfl (by assumption)) ?_); (first | refine cur_pure rfl rfl rfl rfl (fun _ => h) (fun _ => flt_g rfl rfl (q_nil rfl)) ?_ | refine cur_pure rfl rfl rfl rfl (fun _ => h) (fun _ => flt_g rfl (by assumption) (q_nil rfl)) ?_ | refine cur_pure rfl rfl rfl rfl (fun _ => h) (fun _ => flt_n rfl rfl) ?_ | refine cur_pure rfl rfl rfl rfl (fun _ => h) (fun _ => flt_n rfl (by assumption)) ?_); (first | refine cur_pure rfl rfl rfl rfl (fun _ => h) (fun _ => flt_g rfl rfl (q_pick1 rfl rfl rfl)) ?_ | refine cur_pure rfl rfl rfl rfl (fun _ => h) (fun _ => flt_g rfl rfl (q_pick0 rfl rfl rfl)) ?_ | refine cur_pure rfl rfl rfl rfl (fun _ => h) (fun _ => flt_g rfl rfl (q_pick1 rfl (by assumption) rfl)) ?_ | refine cur_pure rfl rfl rfl rfl (fun _ => h) (fun _ => flt_g rfl rfl (q_pick0 rfl (by assumption) rfl)) ?_ | refine cur_pure rfl rfl rfl rfl (fun _ => h) (fun _ => flt_g rfl rfl (q_pickB rfl rfl rfl)) ?_ | refine cur_pure rfl rfl rfl rfl (fun _ => h) (fun _ => flt_g rfl (by assumption) (q_pick1 rfl rfl rfl)) ?_ | refine cur_pure rfl rfl rfl rfl (fun _ => h) (fun _ => flt_g rfl (by assumption) (q_pick0 rfl rfl rfl)) ?_ | refine cur_pure rfl rfl rfl rfl (fun _ => h) (fun _ => flt_g rfl (by assumption) (q_pick1 rfl (by assumption) rfl)) ?_ | refine cur_pure rfl rfl rfl rfl (fun _ => h) (fun _ => flt_g rfl (by assumption) (q_pick0 rfl (by assumption) rfl)) ?_ | refine cur_pure rfl rfl rfl rfl (fun _ => h) (fun _ => flt_g rfl (by assumption) (q_pickB rfl rfl rfl)) ?_ | refine cur_pure rfl rfl rfl rfl (fun _ => h) (fun _ => flt_n rfl rfl) ?_ | refine cur_pure rfl rfl rfl rfl (fun _ => h) (fun _ => flt_n rfl (by assumption)) ?_); (first | refine cur_pure rfl rfl rfl rfl (fun _ => h) (fun _ => flt_v rfl (q_pick1 rfl rfl rfl)) ?_ | refine cur_pure rfl rfl rfl rfl (fun _ => h) (fun _ => flt_v rfl (q_pick0 rfl rfl rfl)) ?_ | refine cur_pure rfl rfl rfl rfl (fun _ => h) (fun _ => flt_v rfl (q_pick1 rfl (by assumption) rfl)) ?_ | refine cur_pure rfl rfl rfl rfl (fun _ => h) (fun _ => flt_v rfl (q_pick0 rfl (by assumption) rfl)) ?_ | refine cur_pure rfl rfl rfl rfl (fun _ => h) (fun _ => flt_v rfl (q_pickB rfl rfl rfl)) ?_)
        refine cur_end (c_false rfl (c_skip ⟨T, ⟨rfl, rfl, rfl, rfl, rfl, rfl, trivial⟩, inv, h.drop.f 1 |>.drop⟩))
      | some o =>
        obtain ⟨j, hji, hx⟩ := inv.snaps K o hg
        obtain ⟨series, told, x, used, ow⟩ := o
        dsimp only at hx
        subst hx
        have hszj := hsz j
        refine r_c rfl (x_call rfl (iter_At1 K (h.f 1) hg) ?_)
        rintro _ w ⟨a1, c1, a2, c2, rfl, h⟩
        dsimp only at h ⊢
        refine r_v (q_moveT rfl) rfl ?_; refine r_v (q_ext rfl rfl) rfl ?_; refine r_v (q_ext rfl rfl) rfl ?_; refine r_v (q_ext rfl rfl) rfl ?_; refine r_v (q_ext rfl rfl) rfl ?_
        refine r_c rfl (x_alloc h fun r22 w h => ?_)
        refine r_v (q_assignI rfl) rfl ?_
        refine r_c rfl (x_storeA (vs := (snapR rows j).cells a1 c1 a2 c2) 0 h rfl rfl rfl rfl rfl rfl rfl fun w h => ?_)
        replace h : St w0 [pt r22 (.cells ((snapR rows j).cells a1 c1 a2 c2).toArray 43 (0, 0)), OwnP (snapR rows j) a1 c1, OwnT (snapR rows j) a2 c2, IsTab p T, pt rx (.cells (Ent.mk series j told (bif used then ow else -1)).cells.toArray 63 (0, 0)), MapOf (Value.int .i64) q (viewL T.l)] w := h
        refine r_v (q_assignI rfl) rfl ?_; refine r_v (q_assignB rfl) rfl ?_
        refine r_nil ?_
        by_cases hn0 : 0 < nR
        · obtain ⟨bR, oR, hsR⟩ := hrR.some hn0
          refine c_seq (c_any none (fun w => St w0 _ w) (by kernel_rfl) (by kernel_rfl) h.drew fun w h => ?_)
          refine cur_pure rfl rfl rfl rfl (fun _ => h) (fun _ => flt_v rfl (q_moveB rfl)) ?_; refine cur_pure rfl rfl rfl rfl (fun _ => h) (fun _ => flt_v rfl (q_moveB rfl)) ?_; refine cur_pure rfl rfl rfl rfl (fun _ => h) (fun _ => flt_v rfl (q_neb rfl rfl)) ?_; refine cur_pure rfl rfl rfl rfl (fun _ => h) (fun _ => flt_v rfl (q_moveB rfl)) ?_; (first | refine cur_pure rfl rfl rfl rfl (fun _ => h) (fun _ => flt_g rfl rfl (q_moveB rfl)) ?_ | refine cur_pure rfl rfl rfl rfl (fun _ => h) (fun _ => flt_g rfl (by assumption) (q_moveB rfl)) ?_ | refine cur_pure rfl rfl rfl rfl (fun _ => h) (fun _ => flt_n rfl rfl) ?_ | refine cur_pure rfl rfl rfl rfl (fun _ => h) (fun _ => flt_n rfl (by assumption)) ?_); (first | refine cur_pure rfl rfl rfl rfl (fun _ => h) (fun _ => flt_g rfl rfl (q_moveB rfl)) ?_ | refine cur_pure rfl rfl rfl rfl (fun _ => h) (fun _ => flt_g rfl (by assumption) (q_moveB rfl)) ?_ | refine cur_pure rfl rfl rfl rfl (fun _ => h) (fun _ => flt_n rfl rfl) ?_ | refine cur_pure rfl rfl rfl rfl (fun _ => h) (fun _ => flt_n rfl (by assumption)) ?_); (first | refine cur_pure rfl rfl rfl rfl (fun _ => h) (fun _ => flt_g rfl rfl (q_moveI rfl)) ?_ | refine cur_pure rfl rfl rfl rfl (fun _ => h) (fun _ => flt_g rfl (by assumption) (q_moveI rfl)) ?_ | refine cur_pure rfl rfl rfl rfl (fun _ => h) (fun _ => flt_n rfl rfl) ?_ | refine cur_pure rfl rfl rfl rfl (fun _ => h) (fun _ => flt_n rfl (by assumption)) ?_); (first | refine cur_pure rfl rfl rfl rfl (fun _ => h) (fun _ => flt_g rfl rfl (q_fa rfl)) ?_ | refine cur_pure rfl rfl rfl rfl (fun _ => h) (fun _ => flt_g rfl (by assumption) (q_fa rfl)) ?_ | refine cur_pure rfl rfl rfl rfl (fun _ => h) (fun _ => flt_n rfl rfl) ?_ | refine cur_pure rfl rfl rfl rfl (fun _ => h) (fun _ => flt_n rfl (by assumption)) ?_); (first | refine cur_float rfl rfl rfl rfl h (fun _ h => flt_g rfl rfl (q_load rfl (h.b 4) rfl)) ?_ | refine cur_float rfl rfl rfl rfl h (fun _ h => flt_g rfl (by assumption) (q_load rfl (h.b 4) rfl)) ?_ | refine cur_pure rfl rfl rfl rfl (fun _ => h) (fun _ => flt_n rfl rfl) ?_ | refine cur_pure rfl rfl rfl rfl (fun _ => h) (fun _ => flt_n rfl (by assumption)) ?_); (first | refine cur_pure rfl rfl rfl rfl (fun _ => h) (fun _ => flt_g rfl rfl (q_neqs rfl rfl)) ?_ | refine cur_pure rfl rfl rfl rfl (fun _ => h) (fun _ => flt_g rfl (by assumption) (q_neqs rfl rfl)) ?_ | refine cur_pure rfl rfl rfl rfl (fun _ => h) (fun _ => flt_n rfl rfl) ?_ | refine cur_pure rfl rfl rfl rfl (fun _ => h) (fun _ => flt_n rfl (by assumption)) ?_); (first | refine cur_pure rfl rfl rfl rfl (fun _ => h) (fun _ => flt_g rfl rfl (q_moveB rfl)) ?_ | refine cur_pure rfl rfl rfl rfl (fun _ => h) (fun _ => flt_g rfl (by assumption) (q_moveB rfl)) ?_ | refine cur_pure rfl rfl rfl rfl (fun _ => h) (fun _ => flt_n rfl rfl) ?_ | refine cur_pure rfl rfl rfl rfl (fun _ => h) (fun _ => flt_n rfl (by assumption)) ?_); (first | refine cur_pure rfl rfl rfl rfl (fun _ => h) (fun _ => flt_g rfl rfl (q_fa rfl)) ?_ | refine cur_pure rfl rfl rfl rfl (fun _ => h) (fun _ => flt_g rfl (by assumption) (q_fa rfl)) ?_ | refine cur_pure rfl rfl rfl rfl (fun _ => h) (fun _ => flt_n rfl rfl) ?_ | refine cur_pure rfl rfl rfl rfl (fun _ => h) (fun _ => flt_n rfl (by assumption)) ?_); (first | refine cur_float rfl rfl rfl rfl h (fun _ h => flt_g rfl rfl (q_load rfl (h.b 0) rfl)) ?_ | refine cur_float rfl rfl rfl rfl h (fun _ h => flt_g rfl (by assumption) (q_load rfl (h.b 0) rfl)) ?_ | refine cur_pure rfl rfl rfl rfl (fun _ => h) (fun _ => flt_n rfl rfl) ?_ | refine cur_pure rfl rfl rfl rfl (fun _ => h) (fun _ => flt_n rfl (by assumption)) ?_); (first | refine cur_pure rfl rfl rfl rfl (fun _ => h) (fun _ => flt_g rfl rfl (q_fa rfl)) ?_ | refine cur_pure rfl rfl rfl rfl (fun _ => h) (fun _ => flt_g rfl (by assumption) (q_fa rfl)) ?_ | refine cur_pure rfl rfl rfl rfl (fun _ => h) (fun _ => flt_n rfl rfl) ?_ | refine cur_pure rfl rfl rfl rfl (fun _ => h) (fun _ => flt_n rfl (by assumption)) ?_); (first | refine cur_float rfl rfl rfl rfl h (fun _ h => flt_g rfl rfl (q_load rfl (h.b 4) rfl)) ?_ | refine cur_float rfl rfl rfl rfl h (fun _ h => flt_g rfl (by assumption) (q_load rfl (h.b 4) rfl)) ?_ | refine cur_pure rfl rfl rfl rfl (fun _ => h) (fun _ => flt_n rfl rfl) ?_ | refine cur_pure rfl rfl rfl rfl (fun _ => h) (fun _ => flt_n rfl (by assumption)) ?_); (first | refine cur_pure rfl rfl rfl rfl (fun _ => h) (fun _ => flt_g rfl rfl (q_neqs rfl rfl)) ?_ | refine cur_pure rfl rfl rfl rfl (fun _ => h) (fun _ => flt_g rfl (by assumption) (q_neqs rfl rfl)) ?_ | refine cur_pure rfl rfl rfl rfl (fun _ => h) (fun _ => flt_n rfl rfl) ?_ | refine cur_pure rfl rfl rfl rfl (fun _ => h) (fun _ => flt_n rfl (by assumption)) ?_); (first | refine cur_pure rfl rfl rfl rfl (fun _ => h) (fun _ => flt_g rfl rfl (q_pick1 rfl rfl rfl)) ?_ | refine cur_pure rfl rfl rfl rfl (fun _ => h) (fun _ => flt_g rfl rfl (q_pick0 rfl rfl rfl)) ?_ | refine cur_pure rfl rfl rfl rfl (fun _ => h) (fun _ => flt_g rfl rfl (q_pick1 rfl (by assumption) rfl)) ?_ | refine cur_pure rfl rfl rfl rfl (fun _ => h) (fun _ => flt_g rfl rfl (q_pick0 rfl (by assumption) rfl)) ?_ | refine cur_pure rfl rfl rfl rfl (fun _ => h) (fun _ => flt_g rfl rfl (q_pickB rfl rfl rfl)) ?_ | refine cur_pure rfl rfl rfl rfl (fun _ => h) (fun _ => flt_g rfl (by assumption) (q_pick1 rfl rfl rfl)) ?_ | refine cur_pure rfl rfl rfl rfl (fun _ => h) (fun _ => flt_g rfl (by assumption) (q_pick0 rfl rfl rfl)) ?_ | refine cur_pure rfl rfl rfl rfl (fun _ => h) (fun _ => flt_g rfl (by assumption) (q_pick1 rfl (by assumption) rfl)) ?_ | refine cur_pure rfl rfl rfl rfl (fun _ => h) (fun _ => flt_g rfl (by assumption) (q_pick0 rfl (by assumption) rfl)) ?_ | refine cur_pure rfl rfl rfl rfl (fun _ => h) (fun _ => flt_g rfl (by assumption) (q_pickB rfl rfl rfl)) ?_ | refine cur_pure rfl rfl rfl rfl (fun _ => h) (fun _ => flt_n rfl rfl) ?_ | refine cur_pure rfl rfl rfl rfl (fun _ => h) (fun _ => flt_n rfl (by assumption)) ?_); (first | refine cur_pure rfl rfl rfl rfl (fun _ => h) (fun _ => flt_g rfl rfl (q_moveB rfl)) ?_ | refine cur_pure rfl rfl rfl rfl (fun _ => h) (fun _ => flt_g rfl (by assumption) (q_moveB rfl)) ?_ | refine cur_pure rfl rfl rfl rfl (fun _ => h) (fun _ => flt_n rfl rfl) ?_ | refine cur_pure rfl rfl rfl rfl (fun _ => h) (fun _ => flt_n rfl (by assumption)) ?_); (first | refine cur_pure rfl rfl rfl rfl (fun _ => h) (fun _ => flt_g rfl rfl (q_moveI rfl)) ?_ | refine cur_pure rfl rfl rfl rfl (fun _ => h) (fun _ => flt_g rfl (by assumption) (q_moveI rfl)) ?_ | refine cur_pure rfl rfl rfl rfl (fun _ => h) (fun _ => flt_n rfl rfl) ?_ | refine cur_pure rfl rfl rfl rfl (fun _ => h) (fun _ => flt_n rfl (by assumption)) ?_); (first | refine cur_pure rfl rfl rfl rfl (fun _ => h) (fun _ => flt_g rfl rfl (q_fa rfl)) ?_ | refine cur_pure rfl rfl rfl rfl (fun _ => h) (fun _ => flt_g rfl (by assumption) (q_fa rfl)) ?_ | refine cur_pure rfl rfl rfl rfl (fun _ => h) (fun _ => flt_n rfl rfl) ?_ | refine cur_pure rfl rfl rfl rfl (fun _ => h) (fun _ => flt_n rfl (by assumption)) ?_); (first | refine cur_float rfl rfl rfl rfl h (fun _ h => flt_g rfl rfl (q_load rfl (h.b 4) rfl)) ?_ | refine cur_float rfl rfl rfl rfl h (fun _ h => flt_g rfl (by assumption) (q_load rfl (h.b 4) rfl)) ?_ | refine cur_pure rfl rfl rfl rfl (fun _ => h) (fun _ => flt_n rfl rfl) ?_ | refine cur_pure rfl rfl rfl rfl (fun _ => h) (fun _ => flt_n rfl (by assumption)) ?_); (first | refine cur_pure rfl rfl rfl rfl (fun _ => h) (fun _ => flt_g rfl rfl (q_neqs rfl rfl)) ?_ | refine cur_pure rfl rfl rfl rfl (fun _ => h) (fun _ => flt_g rfl (by assumption) (q_neqs rfl rfl)) ?_ | refine cur_pure rfl rfl rfl rfl (fun _ => h) (fun _ => flt_n rfl rfl) ?_ | refine cur_pure rfl rfl rfl rfl (fun _ => h) (fun _ => flt_n rfl (by assumption)) ?_); (first | refine cur_pure rfl rfl rfl rfl (fun _ => h) (fun _ => flt_g rfl rfl (q_pick1 rfl rfl rfl)) ?_ | refine cur_pure rfl rfl rfl rfl (fun _ => h) (fun _ => flt_g rfl rfl (q_pick0 rfl rfl rfl)) ?_ | refine cur_pure rfl rfl rfl rfl (fun _ => h) (fun _ => flt_g rfl rfl (q_pick1 rfl (by assumption) rfl)) ?_ | refine cur_pure rfl rfl rfl rfl (fun _ => h) (fun _ => flt_g rfl rfl (q_pick0 rfl (by assumption) rfl)) ?_ | refine cur_pure rfl rfl rfl rfl (fun _ => h) (fun _ => flt_g rfl rfl (q_pickB rfl rfl rfl)) ?_ | refine cur_pure rfl rfl rfl rfl (fun _ => h) (fun _ => flt_g rfl (by assumption) (q_pick1 rfl rfl rfl)) ?_ | refine cur_pure rfl rfl rfl rfl (fun _ => h) (fun _ => flt_g rfl (by assumption) (q_pick0 rfl rfl rfl)) ?_ | refine cur_pure rfl rfl rfl rfl (fun _ => h) (fun _ => flt_g rfl (by assumption) (q_pick1 rfl (by assumption) rfl)) ?_ | refine cur_pure rfl rfl rfl rfl (fun _ => h) (fun _ => flt_g rfl (by assumption) (q_pick0 rfl (by assumption) rfl)) ?_ | refine cur_pure rfl rfl rfl rfl (fun _ => h) (fun _ => flt_g rfl (by assumption) (q_pickB rfl rfl rfl)) ?_ | refine cur_pure rfl rfl rfl rfl (fun _ => h) (fun _ => flt_n rfl rfl) ?_ | refine cur_pure rfl rfl rfl rfl (fun _ => h) (fun _ => flt_n rfl (by assumption)) ?_); (first | refine cur_pure rfl rfl rfl rfl (fun _ => h) (fun _ => flt_g rfl rfl (q_pick1 rfl rfl rfl)) ?_ | refine cur_pure rfl rfl rfl rfl (fun _ => h) (fun _ => flt_g rfl rfl (q_pick0 rfl rfl rfl)) ?_ | refine cur_pure rfl rfl rfl rfl (fun _ => h) (fun _ => flt_g rfl rfl (q_pick1 rfl (by assumption) rfl)) ?_ | refine cur_pure rfl rfl rfl rfl (fun _ => h) (fun _ => flt_g rfl rfl (q_pick0 rfl (by assumption) rfl)) ?_ | refine cur_pure rfl rfl rfl rfl (fun _ => h) (fun _ => flt_g rfl rfl (q_pickB rfl rfl rfl)) ?_ | refine cur_pure rfl rfl rfl rfl (fun _ => h) (fun _ => flt_g rfl (by assumption) (q_pick1 rfl rfl rfl)) ?_ | refine cur_pure rfl rfl rfl rfl (fun _ => h) (fun _ => flt_g rfl (by assumption) (q_pick0 rfl rfl rfl)) ?_ | refine cur_pure rfl rfl rfl rfl (fun _ => h) (fun _ => flt_g rfl (by assumption) (q_pick1 rfl (by assumption) rfl)) ?_ | refine cur_pure rfl rfl rfl rfl (fun _ => h) (fun _ => flt_g rfl (by assumption) (q_pick0 rfl (by assumption) rfl)) ?_ | refine cur_pure rfl rfl rfl rfl (fun _ => h) (fun _ => flt_g rfl (by assumption) (q_pickB rfl rfl rfl)) ?_ | refine cur_pure rfl rfl rfl rfl (fun _ => h) (fun _ => flt_n rfl rfl) ?_ | refine cur_pure rfl rfl rfl rfl (fun _ => h) (fun _ => flt_n rfl (by assumption)) ?_); (first | refine cur_pure rfl rfl rfl rfl (fun _ => h) (fun _ => flt_v rfl (q_pick1 rfl rfl rfl)) ?_ | refine cur_pure rfl rfl rfl rfl (fun _ => h) (fun _ => flt_v rfl (q_pick0 rfl rfl rfl)) ?_ | refine cur_pure rfl rfl rfl rfl (fun _ => h) (fun _ => flt_v rfl (q_pick1 rfl (by assumption) rfl)) ?_ | refine cur_pure rfl rfl rfl rfl (fun _ => h) (fun _ => flt_v rfl (q_pick0 rfl (by assumption) rfl)) ?_ | refine cur_pure rfl rfl rfl rfl (fun _ => h) (fun _ => flt_v rfl (q_pickB rfl rfl rfl)) ?_); refine cur_pure rfl rfl rfl rfl (fun _ => h) (fun _ => flt_v rfl (q_moveB rfl)) ?_; (first | refine cur_pure rfl rfl rfl rfl (fun _ => h) (fun _ => flt_g rfl rfl (q_moveP rfl)) ?_ | refine cur_pure rfl rfl rfl rfl (fun _ => h) (fun _ => flt_g rfl (by assumption) (q_moveP rfl)) ?_ | refine cur_pure rfl rfl rfl rfl (fun _ => h) (fun _ => flt_n rfl rfl) ?_ | refine cur_pure rfl rfl rfl rfl (fun _ => h) (fun _ => flt_n rfl (by assumption)) ?_); refine cur_skip ?_; (first | refine cur_pure rfl rfl rfl rfl (fun _ => h) (fun _ => flt_g rfl rfl (q_moveM rfl)) ?_ | refine cur_pure rfl rfl rfl rfl (fun _ => h) (fun _ => flt_g rfl (by assumption) (q_moveM rfl)) ?_ | refine cur_pure rfl rfl rfl rfl (fun _ => h) (fun _ => flt_n rfl rfl) ?_ | refine cur_pure rfl rfl rfl rfl (fun _ => h) (fun _ => flt_n rfl (by assumption)) ?_)
          refine cur_skip ?_; refine cur_skip ?_; refine cur_skip ?_; refine cur_skip ?_; refine cur_skip ?_; refine cur_skip ?_; refine cur_skip ?_; refine cur_skip ?_; refine cur_skip ?_; refine cur_skip ?_; refine cur_skip ?_; refine cur_skip ?_; refine cur_skip ?_; refine cur_skip ?_; refine cur_skip ?_; refine cur_skip ?_; refine cur_skip ?_; refine cur_skip ?_; refine cur_skip ?_; refine cur_skip ?_; refine cur_skip ?_; refine cur_skip ?_; refine cur_skip ?_; refine cur_skip ?_; refine cur_skip ?_; refine cur_skip ?_; refine cur_skip ?_; refine cur_skip ?_; refine cur_skip ?_; refine cur_skip ?_; refine cur_skip ?_; refine cur_skip ?_; refine cur_skip ?_; refine cur_skip ?_; refine cur_skip ?_
          refine cur_one 27 rfl rfl rfl (wanted_g rfl rfl rfl) ?_
          refine (x_call rfl (iter_Count (h.f 3)) ?_)
          rintro _ w ⟨rfl, h⟩
          replace h : St w0 [pt r22 (.cells ((snapR rows j).cells a1 c1 a2 c2).toArray 43 (0, 0)), OwnP (snapR rows j) a1 c1, OwnT (snapR rows j) a2 c2, IsTab p T, pt rx (.cells (Ent.mk series j told (bif used then ow else -1)).cells.toArray 63 (0, 0)), MapOf (Value.int .i64) q (viewL T.l)] w := h.of_all (by simp only [all_star]; ac_rfl)
          refine ⟨fun _ => h, ?_⟩
          refine cur_float rfl rfl rfl rfl h (fun w h => flt_g rfl rfl (q_lenm rfl (h.f 5).isMap)) ?_
          refine cur_pure rfl rfl rfl rfl (fun _ => h) (fun _ => flt_g rfl rfl (q_is (v' := .bool false) (q_neq rfl rfl) (by simp))) ?_
          (first | refine cur_pure rfl rfl rfl rfl (fun _ => h) (fun _ => flt_v rfl (q_pick1 rfl rfl rfl)) ?_ | refine cur_pure rfl rfl rfl rfl (fun _ => h) (fun _ => flt_v rfl (q_pick0 rfl rfl rfl)) ?_ | refine cur_pure rfl rfl rfl rfl (fun _ => h) (fun _ => flt_v rfl (q_pick1 rfl (by assumption) rfl)) ?_ | refine cur_pure rfl rfl rfl rfl (fun _ => h) (fun _ => flt_v rfl (q_pick0 rfl (by assumption) rfl)) ?_ | refine cur_pure rfl rfl rfl rfl (fun _ => h) (fun _ => flt_v rfl (q_pickB rfl rfl rfl)) ?_); refine cur_pure rfl rfl rfl rfl (fun _ => h) (fun _ => flt_v rfl (q_moveB rfl)) ?_; (first | refine cur_pure rfl rfl rfl rfl (fun _ => h) (fun _ => flt_g rfl rfl (q_moveB rfl)) ?_ | refine cur_pure rfl rfl rfl rfl (fun _ => h) (fun _ => flt_g rfl (by assumption) (q_moveB rfl)) ?_ | refine cur_pure rfl rfl rfl rfl (fun _ => h) (fun _ => flt_n rfl rfl) ?_ | refine cur_pure rfl rfl rfl rfl (fun _ => h) (fun _ => flt_n rfl (by assumption)) ?_); (first | refine cur_pure rfl rfl rfl rfl (fun _ => h) (fun _ => flt_g rfl rfl (q_not rfl)) ?_ | refine cur_pure rfl rfl rfl rfl (fun _ => h) (fun _ => flt_g rfl (by assumption) (q_not rfl)) ?_ | refine cur_pure rfl rfl rfl rfl (fun _ => h) (fun _ => flt_n rfl rfl) ?_ | refine cur_pure rfl rfl rfl rfl (fun _ => h) (fun _ => flt_n rfl (by assumption)) ?_); (first | refine cur_pure rfl rfl rfl rfl (fun _ => h) (fun _ => flt_g rfl rfl (q_moveB rfl)) ?_ | refine cur_pure rfl rfl rfl rfl (fun _ => h) (fun _ => flt_g rfl (by assumption) (q_moveB rfl)) ?_ | refine cur_pure rfl rfl rfl rfl (fun _ => h) (fun _ => flt_n rfl rfl) ?_ | refine cur_pure rfl rfl rfl rfl (fun _ => h) (fun _ => flt_n rfl (by assumption)) ?_); (first | refine cur_pure rfl rfl rfl rfl (fun _ => h) (fun _ => flt_g rfl rfl (q_nil rfl)) ?_ | refine cur_pure rfl rfl rfl rfl (fun _ => h) (fun _ => flt_g rfl (by assumption) (q_nil rfl)) ?_ | refine cur_pure rfl rfl rfl rfl (fun _ => h) (fun _ => flt_n rfl rfl) ?_ | refine cur_pure rfl rfl rfl rfl (fun _ => h) (fun _ => flt_n rfl (by assumption)) ?_); (first | refine cur_pure rfl rfl rfl rfl (fun _ => h) (fun _ => flt_g rfl rfl (q_nil rfl)) ?_ | refine cur_pure rfl rfl rfl rfl (fun _ => h) (fun _ => flt_g rfl (by assumption) (q_nil rfl)) ?_ | refine cur_pure rfl rfl rfl rfl (fun _ => h) (fun _ => flt_n rfl rfl) ?_ | refine cur_pure rfl rfl rfl rfl (fun _ => h) (fun _ => flt_n rfl (by assumption)) ?_); (first | refine cur_pure rfl rfl rfl rfl (fun _ => h) (fun _ => flt_g rfl rfl (q_nil rfl)) ?_ | refine cur_pure rfl rfl rfl rfl (fun _ => h) (fun _ => flt_g rfl (by assumption) (q_nil rfl)) ?_ | refine cur_pure rfl rfl rfl rfl (fun _ => h) (fun _ => flt_n rfl rfl) ?_ | refine cur_pure rfl rfl rfl rfl (fun _ => h) (fun _ => flt_n rfl (by assumption)) ?_); (first | refine cur_pure rfl rfl rfl rfl (fun _ => h) (fun _ => flt_g rfl rfl (q_nil rfl)) ?_ | refine cur_pure rfl rfl rfl rfl (fun _ => h) (fun _ => flt_g rfl (by assumption) (q_nil rfl)) ?_ | refine cur_pure rfl rfl rfl rfl (fun _ => h) (fun _ => flt_n rfl rfl) ?_ | refine cur_pure rfl rfl rfl rfl (fun _ => h) (fun _ => flt_n rfl (by assumption)) ?_); (first | refine cur_pure rfl rfl rfl rfl (fun _ => h) (fun _ => flt_g rfl rfl (q_pick1 rfl rfl rfl)) ?_ | refine cur_pure rfl rfl rfl rfl (fun _ => h) (fun _ => flt_g rfl rfl (q_pick0 rfl rfl rfl)) ?_ | refine cur_pure rfl rfl rfl rfl (fun _ => h) (fun _ => flt_g rfl rfl (q_pick1 rfl (by assumption) rfl)) ?_ | refine cur_pure rfl rfl rfl rfl (fun _ => h) (fun _ => flt_g rfl rfl (q_pick0 rfl (by assumption) rfl)) ?_ | refine cur_pure rfl rfl rfl rfl (fun _ => h) (fun _ => flt_g rfl rfl (q_pickB rfl rfl rfl)) ?_ | refine cur_pure rfl rfl rfl rfl (fun _ => h) (fun _ => flt_g rfl (by assumption) (q_pick1 rfl rfl rfl)) ?_ | refine cur_pure rfl rfl rfl rfl (fun _ => h) (fun _ => flt_g rfl (by assumption) (q_pick0 rfl rfl rfl)) ?_ | refine cur_pure rfl rfl rfl rfl (fun _ => h) (fun _ => flt_g rfl (by assumption) (q_pick1 rfl (by assumption) rfl)) ?_ | refine cur_pure rfl rfl rfl rfl (fun _ => h) (fun _ => flt_g rfl (by assumption) (q_pick0 rfl (by assumption) rfl)) ?_ | refine cur_pure rfl rfl rfl rfl (fun _ => h) (fun _ => flt_g rfl (by assumption) (q_pickB rfl rfl rfl)) ?_ | refine cur_pure rfl rfl rfl rfl (fun _ => h) (fun _ => flt_n rfl rfl) ?_ | refine cur_pure rfl rfl rfl rfl (fun _ => h) (fun _ => flt_n rfl (by assumption)) ?_); (first | refine cur_pure rfl rfl rfl rfl (fun _ => h) (fun _ => flt_v rfl (q_pick1 rfl rfl rfl)) ?_ | refine cur_pure rfl rfl rfl rfl (fun _ => h) (fun _ => flt_v rfl (q_pick0 rfl rfl rfl)) ?_ | refine cur_pure rfl rfl rfl rfl (fun _ => h) (fun _ => flt_v rfl (q_pick1 rfl (by assumption) rfl)) ?_ | refine cur_pure rfl rfl rfl rfl (fun _ => h) (fun _ => flt_v rfl (q_pick0 rfl (by assumption) rfl)) ?_ | refine cur_pure rfl rfl rfl rfl (fun _ => h) (fun _ => flt_v rfl (q_pickB rfl rfl rfl)) ?_); refine cur_pure rfl rfl rfl rfl (fun _ => h) (fun _ => flt_v rfl (q_moveB rfl)) ?_; (first | refine cur_pure rfl rfl rfl rfl (fun _ => h) (fun _ => flt_g rfl rfl (q_moveB rfl)) ?_ | refine cur_pure rfl rfl rfl rfl (fun _ => h) (fun _ => flt_g rfl (by assumption) (q_moveB rfl)) ?_ | refine cur_pure rfl rfl rfl rfl (fun _ => h) (fun _ => flt_n rfl rfl) ?_ | refine cur_pure rfl rfl rfl rfl (fun _ => h) (fun _ => flt_n rfl (by assumption)) ?_); (first | refine cur_pure rfl rfl rfl rfl (fun _ => h) (fun _ => flt_g rfl rfl (q_moveB rfl)) ?_ | refine cur_pure rfl rfl rfl rfl (fun _ => h) (fun _ => flt_g rfl (by assumption) (q_moveB rfl)) ?_ | refine cur_pure rfl rfl rfl rfl (fun _ => h) (fun _ => flt_n rfl rfl) ?_ | refine cur_pure rfl rfl rfl rfl (fun _ => h) (fun _ => flt_n rfl (by assumption)) ?_); (first | refine cur_pure rfl rfl rfl rfl (fun _ => h) (fun _ => flt_g rfl rfl (q_moveS rfl)) ?_ | refine cur_pure rfl rfl rfl rfl (fun _ => h) (fun _ => flt_g rfl (by assumption) (q_moveS rfl)) ?_ | refine cur_pure rfl rfl rfl rfl (fun _ => h) (fun _ => flt_n rfl rfl) ?_ | refine cur_pure rfl rfl rfl rfl (fun _ => h) (fun _ => flt_n rfl (by assumption)) ?_); (first | refine cur_pure rfl rfl rfl rfl (fun _ => h) (fun _ => flt_g rfl rfl (q_len rfl)) ?_ | refine cur_pure rfl rfl rfl rfl (fun _ => h) (fun _ => flt_g rfl (by assumption) (q_len rfl)) ?_ | refine cur_pure rfl rfl rfl rfl (fun _ => h) (fun _ => flt_n rfl rfl) ?_ | refine cur_pure rfl rfl rfl rfl (fun _ => h) (fun _ => flt_n rfl (by assumption)) ?_)
          refine cur_pure rfl rfl rfl rfl (fun _ => h) (fun _ => flt_g rfl rfl (q_is (v' := .bool true) (q_gtr rfl rfl) (by simp; omega))) ?_
          (first | refine cur_pure rfl rfl rfl rfl (fun _ => h) (fun _ => flt_g rfl rfl (q_pick1 rfl rfl rfl)) ?_ | refine cur_pure rfl rfl rfl rfl (fun _ => h) (fun _ => flt_g rfl rfl (q_pick0 rfl rfl rfl)) ?_ | refine cur_pure rfl rfl rfl rfl (fun _ => h) (fun _ => flt_g rfl rfl (q_pick1 rfl (by assumption) rfl)) ?_ | refine cur_pure rfl rfl rfl rfl (fun _ => h) (fun _ => flt_g rfl rfl (q_pick0 rfl (by assumption) rfl)) ?_ | refine cur_pure rfl rfl rfl rfl (fun _ => h) (fun _ => flt_g rfl rfl (q_pickB rfl rfl rfl)) ?_ | refine cur_pure rfl rfl rfl rfl (fun _ => h) (fun _ => flt_g rfl (by assumption) (q_pick1 rfl rfl rfl)) ?_ | refine cur_pure rfl rfl rfl rfl (fun _ => h) (fun _ => flt_g rfl (by assumption) (q_pick0 rfl rfl rfl)) ?_ | refine cur_pure rfl rfl rfl rfl (fun _ => h) (fun _ => flt_g rfl (by assumption) (q_pick1 rfl (by assumption) rfl)) ?_ | refine cur_pure rfl rfl rfl rfl (fun _ => h) (fun _ => flt_g rfl (by assumption) (q_pick0 rfl (by assumption) rfl)) ?_ | refine cur_pure rfl rfl rfl rfl (fun _ => h) (fun _ => flt_g rfl (by assumption) (q_pickB rfl rfl rfl)) ?_ | refine cur_pure rfl rfl rfl rfl (fun _ => h) (fun _ => flt_n rfl rfl) ?_ | refine cur_pure rfl rfl rfl rfl (fun _ => h) (fun _ => flt_n rfl (by assumption)) ?_); (first | refine cur_pure rfl rfl rfl rfl (fun _ => h) (fun _ => flt_g rfl rfl (q_moveB rfl)) ?_ | refine cur_pure rfl rfl rfl rfl (fun _ => h) (fun _ => flt_g rfl (by assumption) (q_moveB rfl)) ?_ | refine cur_pure rfl rfl rfl rfl (fun _ => h) (fun _ => flt_n rfl rfl) ?_ | refine cur_pure rfl rfl rfl rfl (fun _ => h) (fun _ => flt_n rfl (by assumption)) ?_); (first | refine cur_pure rfl rfl rfl rfl (fun _ => h) (fun _ => flt_g rfl rfl (q_fa rfl)) ?_ | refine cur_pure rfl rfl rfl rfl (fun _ => h) (fun _ => flt_g rfl (by assumption) (q_fa rfl)) ?_ | refine cur_pure rfl rfl rfl rfl (fun _ => h) (fun _ => flt_n rfl rfl) ?_ | refine cur_pure rfl rfl rfl rfl (fun _ => h) (fun _ => flt_n rfl (by assumption)) ?_); (first | refine cur_float rfl rfl rfl rfl h (fun _ h => flt_g rfl rfl (q_load rfl (h.b 0) rfl)) ?_ | refine cur_float rfl rfl rfl rfl h (fun _ h => flt_g rfl (by assumption) (q_load rfl (h.b 0) rfl)) ?_ | refine cur_pure rfl rfl rfl rfl (fun _ => h) (fun _ => flt_n rfl rfl) ?_ | refine cur_pure rfl rfl rfl rfl (fun _ => h) (fun _ => flt_n rfl (by assumption)) ?_); (first | refine cur_pure rfl rfl rfl rfl (fun _ => h) (fun _ => flt_g rfl rfl (q_moveS rfl)) ?_ | refine cur_pure rfl rfl rfl rfl (fun _ => h) (fun _ => flt_g rfl (by assumption) (q_moveS rfl)) ?_ | refine cur_pure rfl rfl rfl rfl (fun _ => h) (fun _ => flt_n rfl rfl) ?_ | refine cur_pure rfl rfl rfl rfl (fun _ => h) (fun _ => flt_n rfl (by assumption)) ?_); (first | refine cur_pure rfl rfl rfl rfl (fun _ => h) (fun _ => flt_g rfl rfl (q_fa rfl)) ?_ | refine cur_pure rfl rfl rfl rfl (fun _ => h) (fun _ => flt_g rfl (by assumption) (q_fa rfl)) ?_ | refine cur_pure rfl rfl rfl rfl (fun _ => h) (fun _ => flt_n rfl rfl) ?_ | refine cur_pure rfl rfl rfl rfl (fun _ => h) (fun _ => flt_n rfl (by assumption)) ?_); (first | refine cur_float rfl rfl rfl rfl h (fun _ h => flt_g rfl rfl (q_load rfl (h.b 4) rfl)) ?_ | refine cur_float rfl rfl rfl rfl h (fun _ h => flt_g rfl (by assumption) (q_load rfl (h.b 4) rfl)) ?_ | refine cur_pure rfl rfl rfl rfl (fun _ => h) (fun _ => flt_n rfl rfl) ?_ | refine cur_pure rfl rfl rfl rfl (fun _ => h) (fun _ => flt_n rfl (by assumption)) ?_); (first | refine cur_pure rfl rfl rfl rfl (fun _ => h) (fun _ => flt_g rfl rfl (q_moveS rfl)) ?_ | refine cur_pure rfl rfl rfl rfl (fun _ => h) (fun _ => flt_g rfl (by assumption) (q_moveS rfl)) ?_ | refine cur_pure rfl rfl rfl rfl (fun _ => h) (fun _ => flt_n rfl rfl) ?_ | refine cur_pure rfl rfl rfl rfl (fun _ => h) (fun _ => flt_n rfl (by assumption)) ?_); (first | refine cur_pure rfl rfl rfl rfl (fun _ => h) (fun _ => flt_g rfl rfl (q_len rfl)) ?_ | refine cur_pure rfl rfl rfl rfl (fun _ => h) (fun _ => flt_g rfl (by assumption) (q_len rfl)) ?_ | refine cur_pure rfl rfl rfl rfl (fun _ => h) (fun _ => flt_n rfl rfl) ?_ | refine cur_pure rfl rfl rfl rfl (fun _ => h) (fun _ => flt_n rfl (by assumption)) ?_)
          refine cur_pure rfl rfl rfl rfl (fun _ => h) (fun _ => flt_g rfl rfl (q_is (v' := .int .i64 ((j % nR : Nat) : Int)) (q_rem rfl rfl (by omega)) (by rw [Int.tmod_eq_emod_of_nonneg (Int.natCast_nonneg _), Int.natCast_emod]))) ?_
          refine cur_pure rfl rfl rfl rfl (fun _ => h) (fun _ => flt_g rfl rfl (q_idx (b := bR) (o := oR) (m := nR) (c := cR) (o' := oR + j % nR) (by rw [← hsR]; rfl) rfl rfl (Nat.mod_lt _ hn0) (by simp))) ?_
          refine cur_float rfl rfl rfl rfl h (fun w h => flt_g rfl rfl (q_loadc (v := .slice (rowAt rows j).a (rowAt rows j).n (rowAt rows j).c) rfl ((hsR ▸ hrr h).cell (rowAt_get hlR j hn0)))) ?_
          refine cur_skip ?_; refine cur_skip ?_; refine cur_skip ?_; refine cur_skip ?_
          refine cur_one 60 rfl rfl rfl (wanted_g rfl rfl rfl) ?_
          refine (x_call rfl (ref10_Same (L1 := (rowAt rows j).xs) (L2 := (rowAt rows j).xs) h (fun w' h' => (h'.f 2).own_rd) (fun w' h' => hrow h' j) (by show (rowAt rows j).n < _; omega)) ?_)
          rintro _ w ⟨rfl, h⟩
          rw [decide_eq_true (rfl : (rowAt rows j).xs = (rowAt rows j).xs)]
          refine ⟨fun _ => h, ?_⟩
          (first | refine cur_pure rfl rfl rfl rfl (fun _ => h) (fun _ => flt_g rfl rfl (q_not rfl)) ?_ | refine cur_pure rfl rfl rfl rfl (fun _ => h) (fun _ => flt_g rfl (by assumption) (q_not rfl)) ?_ | refine cur_pure rfl rfl rfl rfl (fun _ => h) (fun _ => flt_n rfl rfl) ?_ | refine cur_pure rfl rfl rfl rfl (fun _ => h) (fun _ => flt_n rfl (by assumption)) ?_); (first | refine cur_pure rfl rfl rfl rfl (fun _ => h) (fun _ => flt_g rfl rfl (q_pick1 rfl rfl rfl)) ?_ | refine cur_pure rfl rfl rfl rfl (fun _ => h) (fun _ => flt_g rfl rfl (q_pick0 rfl rfl rfl)) ?_ | refine cur_pure rfl rfl rfl rfl (fun _ => h) (fun _ => flt_g rfl rfl (q_pick1 rfl (by assumption) rfl)) ?_ | refine cur_pure rfl rfl rfl rfl (fun _ => h) (fun _ => flt_g rfl rfl (q_pick0 rfl (by assumption) rfl)) ?_ | refine cur_pure rfl rfl rfl rfl (fun _ => h) (fun _ => flt_g rfl rfl (q_pickB rfl rfl rfl)) ?_ | refine cur_pure rfl rfl rfl rfl (fun _ => h) (fun _ => flt_g rfl (by assumption) (q_pick1 rfl rfl rfl)) ?_ | refine cur_pure rfl rfl rfl rfl (fun _ => h) (fun _ => flt_g rfl (by assumption) (q_pick0 rfl rfl rfl)) ?_ | refine cur_pure rfl rfl rfl rfl (fun _ => h) (fun _ => flt_g rfl (by assumption) (q_pick1 rfl (by assumption) rfl)) ?_ | refine cur_pure rfl rfl rfl rfl (fun _ => h) (fun _ => flt_g rfl (by assumption) (q_pick0 rfl (by assumption) rfl)) ?_ | refine cur_pure rfl rfl rfl rfl (fun _ => h) (fun _ => flt_g rfl (by assumption) (q_pickB rfl rfl rfl)) ?_ | refine cur_pure rfl rfl rfl rfl (fun _ => h) (fun _ => flt_n rfl rfl) ?_ | refine cur_pure rfl rfl rfl rfl (fun _ => h) (fun _ => flt_n rfl (by assumption)) ?_); (first | refine cur_pure rfl rfl rfl rfl (fun _ => h) (fun _ => flt_v rfl (q_pick1 rfl rfl rfl)) ?_ | refine cur_pure rfl rfl rfl rfl (fun _ => h) (fun _ => flt_v rfl (q_pick0 rfl rfl rfl)) ?_ | refine cur_pure rfl rfl rfl rfl (fun _ => h) (fun _ => flt_v rfl (q_pick1 rfl (by assumption) rfl)) ?_ | refine cur_pure rfl rfl rfl rfl (fun _ => h) (fun _ => flt_v rfl (q_pick0 rfl (by assumption) rfl)) ?_ | refine cur_pure rfl rfl rfl rfl (fun _ => h) (fun _ => flt_v rfl (q_pickB rfl rfl rfl)) ?_)
          refine cur_end (c_false rfl (c_skip ⟨T, ⟨rfl, rfl, rfl, rfl, rfl, rfl, trivial⟩, inv, (h.drop.drop.drop.f 1).drop⟩))
        · refine c_seq (c_any none (fun w => St w0 _ w) (by kernel_rfl) (by kernel_rfl) h.drew fun w h => ?_)
          refine cur_pure rfl rfl rfl rfl (fun _ => h) (fun _ => flt_v rfl (q_moveB rfl)) ?_; refine cur_pure rfl rfl rfl rfl (fun _ => h) (fun _ => flt_v rfl (q_moveB rfl)) ?_; refine cur_pure rfl rfl rfl rfl (fun _ => h) (fun _ => flt_v rfl (q_neb rfl rfl)) ?_; refine cur_pure rfl rfl rfl rfl (fun _ => h) (fun _ => flt_v rfl (q_moveB rfl)) ?_; (first | refine cur_pure rfl rfl rfl rfl (fun _ => h) (fun _ => flt_g rfl rfl (q_moveB rfl)) ?_ | refine cur_pure rfl rfl rfl rfl (fun _ => h) (fun _ => flt_g rfl (by assumption) (q_moveB rfl)) ?_ | refine cur_pure rfl rfl rfl rfl (fun _ => h) (fun _ => flt_n rfl rfl) ?_ | refine cur_pure rfl rfl rfl rfl (fun _ => h) (fun _ => flt_n rfl (by assumption)) ?_); (first | refine cur_pure rfl rfl rfl rfl (fun _ => h) (fun _ => flt_g rfl rfl (q_moveB rfl)) ?_ | refine cur_pure rfl rfl rfl rfl (fun _ => h) (fun _ => flt_g rfl (by assumption) (q_moveB rfl)) ?_ | refine cur_pure rfl rfl rfl rfl (fun _ => h) (fun _ => flt_n rfl rfl) ?_ | refine cur_pure rfl rfl rfl rfl (fun _ => h) (fun _ => flt_n rfl (by assumption)) ?_); (first | refine cur_pure rfl rfl rfl rfl (fun _ => h) (fun _ => flt_g rfl rfl (q_moveI rfl)) ?_ | refine cur_pure rfl rfl rfl rfl (fun _ => h) (fun _ => flt_g rfl (by assumption) (q_moveI rfl)) ?_ | refine cur_pure rfl rfl rfl rfl (fun _ => h) (fun _ => flt_n rfl rfl) ?_ | refine cur_pure rfl rfl rfl rfl (fun _ => h) (fun _ => flt_n rfl (by assumption)) ?_); (first | refine cur_pure rfl rfl rfl rfl (fun _ => h) (fun _ => flt_g rfl rfl (q_fa rfl)) ?_ | refine cur_pure rfl rfl rfl rfl (fun _ => h) (fun _ => flt_g rfl (by assumption) (q_fa rfl)) ?_ | refine cur_pure rfl rfl rfl rfl (fun _ => h) (fun _ => flt_n rfl rfl) ?_ | refine cur_pure rfl rfl rfl rfl (fun _ => h) (fun _ => flt_n rfl (by assumption)) ?_); (first | refine cur_float rfl rfl rfl rfl h (fun _ h => flt_g rfl rfl (q_load rfl (h.b 4) rfl)) ?_ | refine cur_float rfl rfl rfl rfl h (fun _ h => flt_g rfl (by assumption) (q_load rfl (h.b 4) rfl)) ?_ | refine cur_pure rfl rfl rfl rfl (fun _ => h) (fun _ => flt_n rfl rfl) ?_ | refine cur_pure rfl rfl rfl rfl (fun _ => h) (fun _ => flt_n rfl (by assumption)) ?_); (first | refine cur_pure rfl rfl rfl rfl (fun _ => h) (fun _ => flt_g rfl rfl (q_neqs rfl rfl)) ?_ | refine cur_pure rfl rfl rfl rfl (fun _ => h) (fun _ => flt_g rfl (by assumption) (q_neqs rfl rfl)) ?_ | refine cur_pure rfl rfl rfl rfl (fun _ => h) (fun _ => flt_n rfl rfl) ?_ | refine cur_pure rfl rfl rfl rfl (fun _ => h) (fun _ => flt_n rfl (by assumption)) ?_); (first | refine cur_pure rfl rfl rfl rfl (fun _ => h) (fun _ => flt_g rfl rfl (q_moveB rfl)) ?_ | refine cur_pure rfl rfl rfl rfl (fun _ => h) (fun _ => flt_g rfl (by assumption) (q_moveB rfl)) ?_ | refine cur_pure rfl rfl rfl rfl (fun _ => h) (fun _ => flt_n rfl rfl) ?_ | refine cur_pure rfl rfl rfl rfl (fun _ => h) (fun _ => flt_n rfl (by assumption)) ?_); (first | refine cur_pure rfl rfl rfl rfl (fun _ => h) (fun _ => flt_g rfl rfl (q_fa rfl)) ?_ | refine cur_pure rfl rfl rfl rfl (fun _ => h) (fun _ => flt_g rfl (by assumption) (q_fa rfl)) ?_ | refine cur_pure rfl rfl rfl rfl (fun _ => h) (fun _ => flt_n rfl rfl) ?_ | refine cur_pure rfl rfl rfl rfl (fun _ => h) (fun _ => flt_n rfl (by assumption)) ?_); (first | refine cur_float rfl rfl rfl rfl h (fun _ h => flt_g rfl rfl (q_load rfl (h.b 0) rfl)) ?_ | refine cur_float rfl rfl rfl rfl h (fun _ h => flt_g rfl (by assumption) (q_load rfl (h.b 0) rfl)) ?_ | refine cur_pure rfl rfl rfl rfl (fun _ => h) (fun _ => flt_n rfl rfl) ?_ | refine cur_pure rfl rfl rfl rfl (fun _ => h) (fun _ => flt_n rfl (by assumption)) ?_); (first | refine cur_pure rfl rfl rfl rfl (fun _ => h) (fun _ => flt_g rfl rfl (q_fa rfl)) ?_ | refine cur_pure rfl rfl rfl rfl (fun _ => h) (fun _ => flt_g rfl (by assumption) (q_fa rfl)) ?_ | refine cur_pure rfl rfl rfl rfl (fun _ => h) (fun _ => flt_n rfl rfl) ?_ | refine cur_pure rfl rfl rfl rfl (fun _ => h) (fun _ => flt_n rfl (by assumption)) ?_); (first | refine cur_float rfl rfl rfl rfl h (fun _ h => flt_g rfl rfl (q_load rfl (h.b 4) rfl)) ?_ | refine cur_float rfl rfl rfl rfl h (fun _ h => flt_g rfl (by assumption) (q_load rfl (h.b 4) rfl)) ?_ | refine cur_pure rfl rfl rfl rfl (fun _ => h) (fun _ => flt_n rfl rfl) ?_ | refine cur_pure rfl rfl rfl rfl (fun _ => h) (fun _ => flt_n rfl (by assumption)) ?_); (first | refine cur_pure rfl rfl rfl rfl (fun _ => h) (fun _ => flt_g rfl rfl (q_neqs rfl rfl)) ?_ | refine cur_pure rfl rfl rfl rfl (fun _ => h) (fun _ => flt_g rfl (by assumption) (q_neqs rfl rfl)) ?_ | refine cur_pure rfl rfl rfl rfl (fun _ => h) (fun _ => flt_n rfl rfl) ?_ | refine cur_pure rfl rfl rfl rfl (fun _ => h) (fun _ => flt_n rfl (by assumption)) ?_); (first | refine cur_pure rfl rfl rfl rfl (fun _ => h) (fun _ => flt_g rfl rfl (q_pick1 rfl rfl rfl)) ?_ | refine cur_pure rfl rfl rfl rfl (fun _ => h) (fun _ => flt_g rfl rfl (q_pick0 rfl rfl rfl)) ?_ | refine cur_pure rfl rfl rfl rfl (fun _ => h) (fun _ => flt_g rfl rfl (q_pick1 rfl (by assumption) rfl)) ?_ | refine cur_pure rfl rfl rfl rfl (fun _ => h) (fun _ => flt_g rfl rfl (q_pick0 rfl (by assumption) rfl)) ?_ | refine cur_pure rfl rfl rfl rfl (fun _ => h) (fun _ => flt_g rfl rfl (q_pickB rfl rfl rfl)) ?_ | refine cur_pure rfl rfl rfl rfl (fun _ => h) (fun _ => flt_g rfl (by assumption) (q_pick1 rfl rfl rfl)) ?_ | refine cur_pure rfl rfl rfl rfl (fun _ => h) (fun _ => flt_g rfl (by assumption) (q_pick0 rfl rfl rfl)) ?_ | refine cur_pure rfl rfl rfl rfl (fun _ => h) (fun _ => flt_g rfl (by assumption) (q_pick1 rfl (by assumption) rfl)) ?_ | refine cur_pure rfl rfl rfl rfl (fun _ => h) (fun _ => flt_g rfl (by assumption) (q_pick0 rfl (by assumption) rfl)) ?_ | refine cur_pure rfl rfl rfl rfl (fun _ => h) (fun _ => flt_g rfl (by assumption) (q_pickB rfl rfl rfl)) ?_ | refine cur_pure rfl rfl rfl rfl (fun _ => h) (fun _ => flt_n rfl rfl) ?_ | refine cur_pure rfl rfl rfl rfl (fun _ => h) (fun _ => flt_n rfl (by assumption)) ?_); (first | refine cur_pure rfl rfl rfl rfl (fun _ => h) (fun _ => flt_g rfl rfl (q_moveB rfl)) ?_ | refine cur_pure rfl rfl rfl rfl (fun _ => h) (fun _ => flt_g rfl (by assumption) (q_moveB rfl)) ?_ | refine cur_pure rfl rfl rfl rfl (fun _ => h) (fun _ => flt_n rfl rfl) ?_ | refine cur_pure rfl rfl rfl rfl (fun _ => h) (fun _ => flt_n rfl (by assumption)) ?_); (first | refine cur_pure rfl rfl rfl rfl (fun _ => h) (fun _ => flt_g rfl rfl (q_moveI rfl)) ?_ | refine cur_pure rfl rfl rfl rfl (fun _ => h) (fun _ => flt_g rfl (by assumption) (q_moveI rfl)) ?_ | refine cur_pure rfl rfl rfl rfl (fun _ => h) (fun _ => flt_n rfl rfl) ?_ | refine cur_pure rfl rfl rfl rfl (fun _ => h) (fun _ => flt_n rfl (by assumption)) ?_); (first | refine cur_pure rfl rfl rfl rfl (fun _ => h) (fun _ => flt_g rfl rfl (q_fa rfl)) ?_ | refine cur_pure rfl rfl rfl rfl (fun _ => h) (fun _ => flt_g rfl (by assumption) (q_fa rfl)) ?_ | refine cur_pure rfl rfl rfl rfl (fun _ => h) (fun _ => flt_n rfl rfl) ?_ | refine cur_pure rfl rfl rfl rfl (fun _ => h) (fun _ => flt_n rfl (by assumption)) ?_); (first | refine cur_float rfl rfl rfl rfl h (fun _ h => flt_g rfl rfl (q_load rfl (h.b 4) rfl)) ?_ | refine cur_float rfl rfl rfl rfl h (fun _ h => flt_g rfl (by assumption) (q_load rfl (h.b 4) rfl)) ?_ | refine cur_pure rfl rfl rfl rfl (fun _ => h) (fun _ => flt_n rfl rfl) ?_ | refine cur_pure rfl rfl rfl rfl (fun _ => h) (fun _ => flt_n rfl (by assumption)) ?_); (first | refine cur_pure rfl rfl rfl rfl (fun _ => h) (fun _ => flt_g rfl rfl (q_neqs rfl rfl)) ?_ | refine cur_pure rfl rfl rfl rfl (fun _ => h) (fun _ => flt_g rfl (by assumption) (q_neqs rfl rfl)) ?_ | refine cur_pure rfl rfl rfl rfl (fun _ => h) (fun _ => flt_n rfl rfl) ?_ | refine cur_pure rfl rfl rfl rfl (fun _ => h) (fun _ => flt_n rfl (by assumption)) ?_); (first | refine cur_pure rfl rfl rfl rfl (fun _ => h) (fun _ => flt_g rfl rfl (q_pick1 rfl rfl rfl)) ?_ | refine cur_pure rfl rfl rfl rfl (fun _ => h) (fun _ => flt_g rfl rfl (q_pick0 rfl rfl rfl)) ?_ | refine cur_pure rfl rfl rfl rfl (fun _ => h) (fun _ => flt_g rfl rfl (q_pick1 rfl (by assumption) rfl)) ?_ | refine cur_pure rfl rfl rfl rfl (fun _ => h) (fun _ => flt_g rfl rfl (q_pick0 rfl (by assumption) rfl)) ?_ | refine cur_pure rfl rfl rfl rfl (fun _ => h) (fun _ => flt_g rfl rfl (q_pickB rfl rfl rfl)) ?_ | refine cur_pure rfl rfl rfl rfl (fun _ => h) (fun _ => flt_g rfl (by assumption) (q_pick1 rfl rfl rfl)) ?_ | refine cur_pure rfl rfl rfl rfl (fun _ => h) (fun _ => flt_g rfl (by assumption) (q_pick0 rfl rfl rfl)) ?_ | refine cur_pure rfl rfl rfl rfl (fun _ => h) (fun _ => flt_g rfl (by assumption) (q_pick1 rfl (by assumption) rfl)) ?_ | refine cur_pure rfl rfl rfl rfl (fun _ => h) (fun _ => flt_g rfl (by assumption) (q_pick0 rfl (by assumption) rfl)) ?_ | refine cur_pure rfl rfl rfl rfl (fun _ => h) (fun _ => flt_g rfl (by assumption) (q_pickB rfl rfl rfl)) ?_ | refine cur_pure rfl rfl rfl rfl (fun _ => h) (fun _ => flt_n rfl rfl) ?_ | refine cur_pure rfl rfl rfl rfl (fun _ => h) (fun _ => flt_n rfl (by assumption)) ?_); (first | refine cur_pure rfl rfl rfl rfl (fun _ => h) (fun _ => flt_g rfl rfl (q_pick1 rfl rfl rfl)) ?_ | refine cur_pure rfl rfl rfl rfl (fun _ => h) (fun _ => flt_g rfl rfl (q_pick0 rfl rfl rfl)) ?_ | refine cur_pure rfl rfl rfl rfl (fun _ => h) (fun _ => flt_g rfl rfl (q_pick1 rfl (by assumption) rfl)) ?_ | refine cur_pure rfl rfl rfl rfl (fun _ => h) (fun _ => flt_g rfl rfl (q_pick0 rfl (by assumption) rfl)) ?_ | refine cur_pure rfl rfl rfl rfl (fun _ => h) (fun _ => flt_g rfl rfl (q_pickB rfl rfl rfl)) ?_ | refine cur_pure rfl rfl rfl rfl (fun _ => h) (fun _ => flt_g rfl (by assumption) (q_pick1 rfl rfl rfl)) ?_ | refine cur_pure rfl rfl rfl rfl (fun _ => h) (fun _ => flt_g rfl (by assumption) (q_pick0 rfl rfl rfl)) ?_ | refine cur_pure rfl rfl rfl rfl (fun _ => h) (fun _ => flt_g rfl (by assumption) (q_pick1 rfl (by assumption) rfl)) ?_ | refine cur_pure rfl rfl rfl rfl (fun _ => h) (fun _ => flt_g rfl (by assumption) (q_pick0 rfl (by assumption) rfl)) ?_ | refine cur_pure rfl rfl rfl rfl (fun _ => h) (fun _ => flt_g rfl (by assumption) (q_pickB rfl rfl rfl)) ?_ | refine cur_pure rfl rfl rfl rfl (fun _ => h) (fun _ => flt_n rfl rfl) ?_ | refine cur_pure rfl rfl rfl rfl (fun _ => h) (fun _ => flt_n rfl (by assumption)) ?_); (first | refine cur_pure rfl rfl rfl rfl (fun _ => h) (fun _ => flt_v rfl (q_pick1 rfl rfl rfl)) ?_ | refine cur_pure rfl rfl rfl rfl (fun _ => h) (fun _ => flt_v rfl (q_pick0 rfl rfl rfl)) ?_ | refine cur_pure rfl rfl rfl rfl (fun _ => h) (fun _ => flt_v rfl (q_pick1 rfl (by assumption) rfl)) ?_ | refine cur_pure rfl rfl rfl rfl (fun _ => h) (fun _ => flt_v rfl (q_pick0 rfl (by assumption) rfl)) ?_ | refine cur_pure rfl rfl rfl rfl (fun _ => h) (fun _ => flt_v rfl (q_pickB rfl rfl rfl)) ?_); refine cur_pure rfl rfl rfl rfl (fun _ => h) (fun _ => flt_v rfl (q_moveB rfl)) ?_; (first | refine cur_pure rfl rfl rfl rfl (fun _ => h) (fun _ => flt_g rfl rfl (q_moveP rfl)) ?_ | refine cur_pure rfl rfl rfl rfl (fun _ => h) (fun _ => flt_g rfl (by assumption) (q_moveP rfl)) ?_ | refine cur_pure rfl rfl rfl rfl (fun _ => h) (fun _ => flt_n rfl rfl) ?_ | refine cur_pure rfl rfl rfl rfl (fun _ => h) (fun _ => flt_n rfl (by assumption)) ?_); refine cur_skip ?_; (first | refine cur_pure rfl rfl rfl rfl (fun _ => h) (fun _ => flt_g rfl rfl (q_moveM rfl)) ?_ | refine cur_pure rfl rfl rfl rfl (fun _ => h) (fun _ => flt_g rfl (by assumption) (q_moveM rfl)) ?_ | refine cur_pure rfl rfl rfl rfl (fun _ => h) (fun _ => flt_n rfl rfl) ?_ | refine cur_pure rfl rfl rfl rfl (fun _ => h) (fun _ => flt_n rfl (by assumption)) ?_)
          refine cur_skip ?_; refine cur_skip ?_; refine cur_skip ?_; refine cur_skip ?_; refine cur_skip ?_; refine cur_skip ?_; refine cur_skip ?_; refine cur_skip ?_; refine cur_skip ?_; refine cur_skip ?_; refine cur_skip ?_; refine cur_skip ?_; refine cur_skip ?_; refine cur_skip ?_; refine cur_skip ?_; refine cur_skip ?_; refine cur_skip ?_; refine cur_skip ?_; refine cur_skip ?_; refine cur_skip ?_; refine cur_skip ?_; refine cur_skip ?_; refine cur_skip ?_; refine cur_skip ?_; refine cur_skip ?_; refine cur_skip ?_; refine cur_skip ?_; refine cur_skip ?_; refine cur_skip ?_; refine cur_skip ?_; refine cur_skip ?_; refine cur_skip ?_; refine cur_skip ?_; refine cur_skip ?_; refine cur_skip ?_
          refine cur_one 27 rfl rfl rfl (wanted_g rfl rfl rfl) ?_
          refine (x_call rfl (iter_Count (h.f 3)) ?_)
          rintro _ w ⟨rfl, h⟩
          replace h : St w0 [pt r22 (.cells ((snapR rows j).cells a1 c1 a2 c2).toArray 43 (0, 0)), OwnP (snapR rows j) a1 c1, OwnT (snapR rows j) a2 c2, IsTab p T, pt rx (.cells (Ent.mk series j told (bif used then ow else -1)).cells.toArray 63 (0, 0)), MapOf (Value.int .i64) q (viewL T.l)] w := h.of_all (by simp only [all_star]; ac_rfl)
          refine ⟨fun _ => h, ?_⟩
          refine cur_float rfl rfl rfl rfl h (fun w h => flt_g rfl rfl (q_lenm rfl (h.f 5).isMap)) ?_
          refine cur_pure rfl rfl rfl rfl (fun _ => h) (fun _ => flt_g rfl rfl (q_is (v' := .bool false) (q_neq rfl rfl) (by simp))) ?_
          (first | refine cur_pure rfl rfl rfl rfl (fun _ => h) (fun _ => flt_v rfl (q_pick1 rfl rfl rfl)) ?_ | refine cur_pure rfl rfl rfl rfl (fun _ => h) (fun _ => flt_v rfl (q_pick0 rfl rfl rfl)) ?_ | refine cur_pure rfl rfl rfl rfl (fun _ => h) (fun _ => flt_v rfl (q_pick1 rfl (by assumption) rfl)) ?_ | refine cur_pure rfl rfl rfl rfl (fun _ => h) (fun _ => flt_v rfl (q_pick0 rfl (by assumption) rfl)) ?_ | refine cur_pure rfl rfl rfl rfl (fun _ => h) (fun _ => flt_v rfl (q_pickB rfl rfl rfl)) ?_); refine cur_pure rfl rfl rfl rfl (fun _ => h) (fun _ => flt_v rfl (q_moveB rfl)) ?_; (first | refine cur_pure rfl rfl rfl rfl (fun _ => h) (fun _ => flt_g rfl rfl (q_moveB rfl)) ?_ | refine cur_pure rfl rfl rfl rfl (fun _ => h) (fun _ => flt_g rfl (by assumption) (q_moveB rfl)) ?_ | refine cur_pure rfl rfl rfl rfl (fun _ => h) (fun _ => flt_n rfl rfl) ?_ | refine cur_pure rfl rfl rfl rfl (fun _ => h) (fun _ => flt_n rfl (by assumption)) ?_); (first | refine cur_pure rfl rfl rfl rfl (fun _ => h) (fun _ => flt_g rfl rfl (q_not rfl)) ?_ | refine cur_pure rfl rfl rfl rfl (fun _ => h) (fun _ => flt_g rfl (by assumption) (q_not rfl)) ?_ | refine cur_pure rfl rfl rfl rfl (fun _ => h) (fun _ => flt_n rfl rfl) ?_ | refine cur_pure rfl rfl rfl rfl (fun _ => h) (fun _ => flt_n rfl (by assumption)) ?_); (first | refine cur_pure rfl rfl rfl rfl (fun _ => h) (fun _ => flt_g rfl rfl (q_moveB rfl)) ?_ | refine cur_pure rfl rfl rfl rfl (fun _ => h) (fun _ => flt_g rfl (by assumption) (q_moveB rfl)) ?_ | refine cur_pure rfl rfl rfl rfl (fun _ => h) (fun _ => flt_n rfl rfl) ?_ | refine cur_pure rfl rfl rfl rfl (fun _ => h) (fun _ => flt_n rfl (by assumption)) ?_); (first | refine cur_pure rfl rfl rfl rfl (fun _ => h) (fun _ => flt_g rfl rfl (q_nil rfl)) ?_ | refine cur_pure rfl rfl rfl rfl (fun _ => h) (fun _ => flt_g rfl (by assumption) (q_nil rfl)) ?_ | refine cur_pure rfl rfl rfl rfl (fun _ => h) (fun _ => flt_n rfl rfl) ?_ | refine cur_pure rfl rfl rfl rfl (fun _ => h) (fun _ => flt_n rfl (by assumption)) ?_); (first | refine cur_pure rfl rfl rfl rfl (fun _ => h) (fun _ => flt_g rfl rfl (q_nil rfl)) ?_ | refine cur_pure rfl rfl rfl rfl (fun _ => h) (fun _ => flt_g rfl (by assumption) (q_nil rfl)) ?_ | refine cur_pure rfl rfl rfl rfl (fun _ => h) (fun _ => flt_n rfl rfl) ?_ | refine cur_pure rfl rfl rfl rfl (fun _ => h) (fun _ => flt_n rfl (by assumption)) ?_); (first | refine cur_pure rfl rfl rfl rfl (fun _ => h) (fun _ => flt_g rfl rfl (q_nil rfl)) ?_ | refine cur_pure rfl rfl rfl rfl (fun _ => h) (fun _ => flt_g rfl (by assumption) (q_nil rfl)) ?_ | refine cur_pure rfl rfl rfl rfl (fun _ => h) (fun _ => flt_n rfl rfl) ?_ | refine cur_pure rfl rfl rfl rfl (fun _ => h) (fun _ => flt_n rfl (by assumption)) ?_); (first | refine cur_pure rfl rfl rfl rfl (fun _ => h) (fun _ => flt_g rfl rfl (q_nil rfl)) ?_ | refine cur_pure rfl rfl rfl rfl (fun _ => h) (fun _ => flt_g rfl (by assumption) (q_nil rfl)) ?_ | refine cur_pure rfl rfl rfl rfl (fun _ => h) (fun _ => flt_n rfl rfl) ?_ | refine cur_pure rfl rfl rfl rfl (fun _ => h) (fun _ => flt_n rfl (by assumption)) ?_); (first | refine cur_pure rfl rfl rfl rfl (fun _ => h) (fun _ => flt_g rfl rfl (q_pick1 rfl rfl rfl)) ?_ | refine cur_pure rfl rfl rfl rfl (fun _ => h) (fun _ => flt_g rfl rfl (q_pick0 rfl rfl rfl)) ?_ | refine cur_pure rfl rfl rfl rfl (fun _ => h) (fun _ => flt_g rfl rfl (q_pick1 rfl (by assumption) rfl)) ?_ | refine cur_pure rfl rfl rfl rfl (fun _ => h) (fun _ => flt_g rfl rfl (q_pick0 rfl (by assumption) rfl)) ?_ | refine cur_pure rfl rfl rfl rfl (fun _ => h) (fun _ => flt_g rfl rfl (q_pickB rfl rfl rfl)) ?_ | refine cur_pure rfl rfl rfl rfl (fun _ => h) (fun _ => flt_g rfl (by assumption) (q_pick1 rfl rfl rfl)) ?_ | refine cur_pure rfl rfl rfl rfl (fun _ => h) (fun _ => flt_g rfl (by assumption) (q_pick0 rfl rfl rfl)) ?_ | refine cur_pure rfl rfl rfl rfl (fun _ => h) (fun _ => flt_g rfl (by assumption) (q_pick1 rfl (by assumption) rfl)) ?_ | refine cur_pure rfl rfl rfl rfl (fun _ => h) (fun _ => flt_g rfl (by assumption) (q_pick0 rfl (by assumption) rfl)) ?_ | refine cur_pure rfl rfl rfl rfl (fun _ => h) (fun _ => flt_g rfl (by assumption) (q_pickB rfl rfl rfl)) ?_ | refine cur_pure rfl rfl rfl rfl (fun _ => h) (fun _ => flt_n rfl rfl) ?_ | refine cur_pure rfl rfl rfl rfl (fun _ => h) (fun _ => flt_n rfl (by assumption)) ?_); (first | refine cur_pure rfl rfl rfl rfl (fun _ => h) (fun _ => flt_v rfl (q_pick1 rfl rfl rfl)) ?_ | refine cur_pure rfl rfl rfl rfl (fun _ => h) (fun _ => flt_v rfl (q_pick0 rfl rfl rfl)) ?_ | refine cur_pure rfl rfl rfl rfl (fun _ => h) (fun _ => flt_v rfl (q_pick1 rfl (by assumption) rfl)) ?_ | refine cur_pure rfl rfl rfl rfl (fun _ => h) (fun _ => flt_v rfl (q_pick0 rfl (by assumption) rfl)) ?_ | refine cur_pure rfl rfl rfl rfl (fun _ => h) (fun _ => flt_v rfl (q_pickB rfl rfl rfl)) ?_); refine cur_pure rfl rfl rfl rfl (fun _ => h) (fun _ => flt_v rfl (q_moveB rfl)) ?_; (first | refine cur_pure rfl rfl rfl rfl (fun _ => h) (fun _ => flt_g rfl rfl (q_moveB rfl)) ?_ | refine cur_pure rfl rfl rfl rfl (fun _ => h) (fun _ => flt_g rfl (by assumption) (q_moveB rfl)) ?_ | refine cur_pure rfl rfl rfl rfl (fun _ => h) (fun _ => flt_n rfl rfl) ?_ | refine cur_pure rfl rfl rfl rfl (fun _ => h) (fun _ => flt_n rfl (by assumption)) ?_); (first | refine cur_pure rfl rfl rfl rfl (fun _ => h) (fun _ => flt_g rfl rfl (q_moveB rfl)) ?_ | refine cur_pure rfl rfl rfl rfl (fun _ => h) (fun _ => flt_g rfl (by assumption) (q_moveB rfl)) ?_ | refine cur_pure rfl rfl rfl rfl (fun _ => h) (fun _ => flt_n rfl rfl) ?_ | refine cur_pure rfl rfl rfl rfl (fun _ => h) (fun _ => flt_n rfl (by assumption)) ?_); (first | refine cur_pure rfl rfl rfl rfl (fun _ => h) (fun _ => flt_g rfl rfl (q_moveS rfl)) ?_ | refine cur_pure rfl rfl rfl rfl (fun _ => h) (fun _ => flt_g rfl (by assumption) (q_moveS rfl)) ?_ | refine cur_pure rfl rfl rfl rfl (fun _ => h) (fun _ => flt_n rfl rfl) ?_ | refine cur_pure rfl rfl rfl rfl (fun _ => h) (fun _ => flt_n rfl (by assumption)) ?_); (first | refine cur_pure rfl rfl rfl rfl (fun _ => h) (fun _ => flt_g rfl rfl (q_len rfl)) ?_ | refine cur_pure rfl rfl rfl rfl (fun _ => h) (fun _ => flt_g rfl (by assumption) (q_len rfl)) ?_ | refine cur_pure rfl rfl rfl rfl (fun _ => h) (fun _ => flt_n rfl rfl) ?_ | refine cur_pure rfl rfl rfl rfl (fun _ => h) (fun _ => flt_n rfl (by assumption)) ?_)
          refine cur_pure rfl rfl rfl rfl (fun _ => h) (fun _ => flt_g rfl rfl (q_is (v' := .bool false) (q_gtr rfl rfl) (by simp; omega))) ?_
          (first | refine cur_pure rfl rfl rfl rfl (fun _ => h) (fun _ => flt_g rfl rfl (q_pick1 rfl rfl rfl)) ?_ | refine cur_pure rfl rfl rfl rfl (fun _ => h) (fun _ => flt_g rfl rfl (q_pick0 rfl rfl rfl)) ?_ | refine cur_pure rfl rfl rfl rfl (fun _ => h) (fun _ => flt_g rfl rfl (q_pick1 rfl (by assumption) rfl)) ?_ | refine cur_pure rfl rfl rfl rfl (fun _ => h) (fun _ => flt_g rfl rfl (q_pick0 rfl (by assumption) rfl)) ?_ | refine cur_pure rfl rfl rfl rfl (fun _ => h) (fun _ => flt_g rfl rfl (q_pickB rfl rfl rfl)) ?_ | refine cur_pure rfl rfl rfl rfl (fun _ => h) (fun _ => flt_g rfl (by assumption) (q_pick1 rfl rfl rfl)) ?_ | refine cur_pure rfl rfl rfl rfl (fun _ => h) (fun _ => flt_g rfl (by assumption) (q_pick0 rfl rfl rfl)) ?_ | refine cur_pure rfl rfl rfl rfl (fun _ => h) (fun _ => flt_g rfl (by assumption) (q_pick1 rfl (by assumption) rfl)) ?_ | refine cur_pure rfl rfl rfl rfl (fun _ => h) (fun _ => flt_g rfl (by assumption) (q_pick0 rfl (by assumption) rfl)) ?_ | refine cur_pure rfl rfl rfl rfl (fun _ => h) (fun _ => flt_g rfl (by assumption) (q_pickB rfl rfl rfl)) ?_ | refine cur_pure rfl rfl rfl rfl (fun _ => h) (fun _ => flt_n rfl rfl) ?_ | refine cur_pure rfl rfl rfl rfl (fun _ => h) (fun _ => flt_n rfl (by assumption)) ?_); (first | refine cur_pure rfl rfl rfl rfl (fun _ => h) (fun _ => flt_g rfl rfl (q_moveB rfl)) ?_ | refine cur_pure rfl rfl rfl rfl (fun _ => h) (fun _ => flt_g rfl (by assumption) (q_moveB rfl)) ?_ | refine cur_pure rfl rfl rfl rfl (fun _ => h) (fun _ => flt_n rfl rfl) ?_ | refine cur_pure rfl rfl rfl rfl (fun _ => h) (fun _ => flt_n rfl (by assumption)) ?_); (first | refine cur_pure rfl rfl rfl rfl (fun _ => h) (fun _ => flt_g rfl rfl (q_fa rfl)) ?_ | refine cur_pure rfl rfl rfl rfl (fun _ => h) (fun _ => flt_g rfl (by assumption) (q_fa rfl)) ?_ | refine cur_pure rfl rfl rfl rfl (fun _ => h) (fun _ => flt_n rfl rfl) ?_ | refine cur_pure rfl rfl rfl rfl (fun _ => h) (fun _ => flt_n rfl (by assumption)) ?_); (first | refine cur_float rfl rfl rfl rfl h (fun _ h => flt_g rfl rfl (q_load rfl (h.b 0) rfl)) ?_ | refine cur_float rfl rfl rfl rfl h (fun _ h => flt_g rfl rfl (q_load rfl (h.b 1) rfl)) ?_ | refine cur_float rfl rfl rfl rfl h (fun _ h => flt_g rfl rfl (q_load rfl (h.b 2) rfl)) ?_ | refine cur_float rfl rfl rfl rfl h (fun _ h => flt_g rfl rfl (q_load rfl (h.b 3) rfl)) ?_ | refine cur_float rfl rfl rfl rfl h (fun _ h => flt_g rfl rfl (q_load rfl (h.b 4) rfl)) ?_ | refine cur_float rfl rfl rfl rfl h (fun _ h => flt_g rfl rfl (q_load rfl (h.b 5) rfl)) ?_ | refine cur_float rfl rfl rfl rfl h (fun _ h => flt_g rfl (by assumption) (q_load rfl (h.b 0) rfl)) ?_ | refine cur_float rfl rfl rfl rfl h (fun _ h => flt_g rfl (by assumption) (q_load rfl (h.b 1) rfl)) ?_ | refine cur_float rfl rfl rfl rfl h (fun _ h => flt_g rfl (by assumption) (q_load rfl (h.b 2) rfl)) ?_ | refine cur_float rfl rfl rfl rfl h (fun _ h => flt_g rfl (by assumption) (q_load rfl (h.b 3) rfl)) ?_ | refine cur_float rfl rfl rfl rfl h (fun _ h => flt_g rfl (by assumption) (q_load rfl (h.b 4) rfl)) ?_ | refine cur_float rfl rfl rfl rfl h (fun _ h => flt_g rfl (by assumption) (q_load rfl (h.b 5) rfl)) ?_ | refine cur_pure rfl rfl rfl rfl (fun _ => h) (fun _ => flt_n rfl rfl) ?_ | refine cur_pure rfl rfl rfl rfl (fun _ => h) (fun _ => flt_n rfl (by assumption)) ?_); (first | refine cur_pure rfl rfl rfl rfl (fun _ => h) (fun _ => flt_g rfl rfl (q_moveS rfl)) ?_ | refine cur_pure rfl rfl rfl rfl (fun _ => h) (fun _ => flt_g rfl (by assumption) (q_moveS rfl)) ?_ | refine cur_pure rfl rfl rfl rfl (fun _ => h) (fun _ => flt_n rfl rfl) ?_ | refine cur_pure rfl rfl rfl rfl (fun _ => h) (fun _ => flt_n rfl (by assumption)) ?_); (first | refine cur_pure rfl rfl rfl rfl (fun _ => h) (fun _ => flt_g rfl rfl (q_fa rfl)) ?_ | refine cur_pure rfl rfl rfl rfl (fun _ => h) (fun _ => flt_g rfl (by assumption) (q_fa rfl)) ?_ | refine cur_pure rfl rfl rfl rfl (fun _ => h) (fun _ => flt_n rfl rfl) ?_ | refine cur_pure rfl rfl rfl rfl (fun _ => h) (fun _ => flt_n rfl (by assumption)) ?_); (first | refine cur_float rfl rfl rfl rfl h (fun _ h => flt_g rfl rfl (q_load rfl (h.b 0) rfl)) ?_ | refine cur_float rfl rfl rfl rfl h (fun _ h => flt_g rfl rfl (q_load rfl (h.b 1) rfl)) ?_ | refine cur_float rfl rfl rfl rfl h (fun _ h => flt_g rfl rfl (q_load rfl (h.b 2) rfl)) ?_ | refine cur_float rfl rfl rfl rfl h (fun _ h => flt_g rfl rfl (q_load rfl (h.b 3) rfl)) ?_ | refine cur_float rfl rfl rfl rfl h (fun _ h => flt_g rfl rfl (q_load rfl (h.b 4) rfl)) ?_ | refine cur_float rfl rfl rfl rfl h (fun _ h => flt_g rfl rfl (q_load rfl (h.b 5) rfl)) ?_ | refine cur_float rfl rfl rfl rfl h (fun _ h => flt_g rfl (by assumption) (q_load rfl (h.b 0) rfl)) ?_ | refine cur_float rfl rfl rfl rfl h (fun _ h => flt_g rfl (by assumption) (q_load rfl (h.b 1) rfl)) ?_ | refine cur_float rfl rfl rfl rfl h (fun _ h => flt_g rfl (by assumption) (q_load rfl (h.b 2) rfl)) ?_ | refine cur_float rfl rfl rfl rfl h (fun _ h => flt_g rfl (by assumption) (q_load rfl (h.b 3) rfl)) ?_ | refine cur_float rfl rfl rfl rfl h (fun _ h => flt_g rfl (by assumption) (q_load rfl (h.b 4) rfl)) ?_ | refine cur_float rfl rfl rfl rfl h (fun _ h => flt_g rfl (by assumption) (q_load rfl (h.b 5) rfl)) ?_ | refine cur_pure rfl rfl rfl rfl (fun _ => h) (fun _ => flt_n rfl rfl) ?_ | refine cur_pure rfl rfl rfl rfl (fun _ => h) (fun _ => flt_n rfl (by assumption)) ?_); (first | refine cur_pure rfl rfl rfl rfl (fun _ => h) (fun _ => flt_g rfl rfl (q_moveS rfl)) ?_ | refine cur_pure rfl rfl rfl rfl (fun _ => h) (fun _ => flt_g rfl (by assumption) (q_moveS rfl)) ?_ | refine cur_pure rfl rfl rfl rfl (fun _ => h) (fun _ => flt_n rfl rfl) ?_ | refine cur_pure rfl rfl rfl rfl (fun _ => h) (fun _ => flt_n rfl (by assumption)) ?_); (first | refine cur_pure rfl rfl rfl rfl (fun _ => h) (fun _ => flt_g rfl rfl (q_len rfl)) ?_ | refine cur_pure rfl rfl rfl rfl (fun _ => h) (fun _ => flt_g rfl (by assumption) (q_len rfl)) ?_ | refine cur_pure rfl rfl rfl rfl (fun _ => h) (fun _ => flt_n rfl rfl) ?_ | refine cur_pure rfl rfl rfl rfl (fun _ => h) (fun _ => flt_n rfl (by assumption)) ?_); (first | refine cur_pure rfl rfl rfl rfl (fun _ => h) (fun _ => flt_g rfl rfl (q_nil rfl)) ?_ | refine cur_pure rfl rfl rfl rfl (fun _ => h) (fun _ => flt_g rfl (by assumption) (q_nil rfl)) ?_ | refine cur_pure rfl rfl rfl rfl (fun _ => h) (fun _ => flt_n rfl rfl) ?_ | refine cur_pure rfl rfl rfl rfl (fun _ => h) (fun _ => flt_n rfl (by assumption)) ?_); (first | refine cur_pure rfl rfl rfl rfl (fun _ => h) (fun _ => flt_g rfl rfl (q_nil rfl)) ?_ | refine cur_pure rfl rfl rfl rfl (fun _ => h) (fun _ => flt_g rfl (by assumption) (q_nil rfl)) ?_ | refine cur_pure rfl rfl rfl rfl (fun _ => h) (fun _ => flt_n rfl rfl) ?_ | refine cur_pure rfl rfl rfl rfl (fun _ => h) (fun _ => flt_n rfl (by assumption)) ?_); (first | refine cur_pure rfl rfl rfl rfl (fun _ => h) (fun _ => flt_g rfl rfl (q_nil rfl)) ?_ | refine cur_pure rfl rfl rfl rfl (fun _ => h) (fun _ => flt_g rfl (by assumption) (q_nil rfl)) ?_ | refine cur_pure rfl rfl rfl rfl (fun _ => h) (fun _ => flt_n rfl rfl) ?_ | refine cur_pure rfl rfl rfl rfl (fun _ => h) (fun _ => flt_n rfl (by assumption)) ?_); (first | refine cur_pure rfl rfl rfl rfl (fun _ => h) (fun _ => flt_g rfl rfl (q_nil rfl)) ?_ | refine cur_pure rfl rfl rfl rfl (fun _ => h) (fun _ => flt_g rfl (by assumption) (q_nil rfl)) ?_ | refine cur_pure rfl rfl rfl rfl (fun _ => h) (fun _ => flt_n rfl rfl) ?_ | refine cur_pure rfl rfl rfl rfl (fun _ => h) (fun _ => flt_n rfl (by assumption)) ?_); (first | refine cur_pure rfl rfl rfl rfl (fun _ => h) (fun _ => flt_g rfl rfl (q_nil rfl)) ?_ | refine cur_pure rfl rfl rfl rfl (fun _ => h) (fun _ => flt_g rfl (by assumption) (q_nil rfl)) ?_ | refine cur_pure rfl rfl rfl rfl (fun _ => h) (fun _ => flt_n rfl rfl) ?_ | refine cur_pure rfl rfl rfl rfl (fun _ => h) (fun _ => flt_n rfl (by assumption)) ?_); (first | refine cur_pure rfl rfl rfl rfl (fun _ => h) (fun _ => flt_g rfl rfl (q_pick1 rfl rfl rfl)) ?_ | refine cur_pure rfl rfl rfl rfl (fun _ => h) (fun _ => flt_g rfl rfl (q_pick0 rfl rfl rfl)) ?_ | refine cur_pure rfl rfl rfl rfl (fun _ => h) (fun _ => flt_g rfl rfl (q_pick1 rfl (by assumption) rfl)) ?_ | refine cur_pure rfl rfl rfl rfl (fun _ => h) (fun _ => flt_g rfl rfl (q_pick0 rfl (by assumption) rfl)) ?_ | refine cur_pure rfl rfl rfl rfl (fun _ => h) (fun _ => flt_g rfl rfl (q_pickB rfl rfl rfl)) ?_ | refine cur_pure rfl rfl rfl rfl (fun _ => h) (fun _ => flt_g rfl (by assumption) (q_pick1 rfl rfl rfl)) ?_ | refine cur_pure rfl rfl rfl rfl (fun _ => h) (fun _ => flt_g rfl (by assumption) (q_pick0 rfl rfl rfl)) ?_ | refine cur_pure rfl rfl rfl rfl (fun _ => h) (fun _ => flt_g rfl (by assumption) (q_pick1 rfl (by assumption) rfl)) ?_ | refine cur_pure rfl rfl rfl rfl (fun _ => h) (fun _ => flt_g rfl (by assumption) (q_pick0 rfl (by assumption) rfl)) ?_ | refine cur_pure rfl rfl rfl rfl (fun _ => h) (fun _ => flt_g rfl (by assumption) (q_pickB rfl rfl rfl)) ?_ | refine cur_pure rfl rfl rfl rfl (fun _ => h) (fun _ => flt_n rfl rfl) ?_ | refine cur_pure rfl rfl rfl rfl (fun _ => h) (fun _ => flt_n rfl (by assumption)) ?_); (first | refine cur_pure rfl rfl rfl rfl (fun _ => h) (fun _ => flt_v rfl (q_pick1 rfl rfl rfl)) ?_ | refine cur_pure rfl rfl rfl rfl (fun _ => h) (fun _ => flt_v rfl (q_pick0 rfl rfl rfl)) ?_ | refine cur_pure rfl rfl rfl rfl (fun _ => h) (fun _ => flt_v rfl (q_pick1 rfl (by assumption) rfl)) ?_ | refine cur_pure rfl rfl rfl rfl (fun _ => h) (fun _ => flt_v rfl (q_pick0 rfl (by assumption) rfl)) ?_ | refine cur_pure rfl rfl rfl rfl (fun _ => h) (fun _ => flt_v rfl (q_pickB rfl rfl rfl)) ?_)
          refine cur_end (c_false rfl (c_skip ⟨T, ⟨rfl, rfl, rfl, rfl, rfl, rfl, trivial⟩, inv, (h.drop.drop.drop.f 1).drop⟩))
    clear h inv hl0 hl1
    rintro T w e ⟨inv, h⟩
    refine c_region ?_
    refine r_v (q_moveI rfl) rfl ?_; refine r_v (q_add rfl rfl) rfl ?_
    refine r_is (.int .i64 ((i + 1 : Nat) : Int)) (by rw [wrap64 (by omega) (by omega)]; rfl) ?_
    refine r_v (q_assignI rfl) rfl ?_
    exact r_nil ⟨(i + 1, T), ⟨rfl, rfl, rfl, rfl, rfl, rfl, trivial⟩, ⟨by dsimp only; omega, inv, h⟩, by dsimp only; omega⟩
  refine c_exit ?_
  refine c_seq (c_region ?_)
  refine r_c rfl (x_call rfl (law21_awake h) ?_)
  rintro _ w ⟨rfl, h⟩
  refine r_v (q_assignB rfl) rfl ?_
  refine r_nil ?_
  exact c_ret (bq1 ⟨rfl, h.drop.drop⟩)
end
end Go.Proofs.Ytgahjjihfibbnaa
