/- Layer 19: the walk of 'SnapTells'. -/
import Derived.Test.YtgahjjihfibbnaaLaw19a
import Derived.Test.YtgahjjihfibbnaaSame
import Derived.Test.YtgahjjihfibbnaaSnapL
namespace Go.Proofs.Ytgahjjihfibbnaa
open Go.Hw
set_option maxHeartbeats 16000000

theorem r_bool' {P : Program} {n : Nat} {ops : Array Oper} {Q : Post} {rest : List Oper} {e : Env} {w : World} {c : Nat} {b : Bool} (h : ∀ b' : Bool, b' = b → Rn P n ops Q rest (upd e c (.bool b')) w) : Rn P n ops Q rest (upd e c (.bool b)) w := h b rfl

theorem r_num {P : Program} {n : Nat} {ops : Array Oper} {Q : Post} {rest : List Oper} {e : Env} {w : World} {c : Nat} {k : IntKind} {b : Int} (h : ∀ b' : Int, b' = b → Rn P n ops Q rest (upd e c (.int k b')) w) : Rn P n ops Q rest (upd e c (.int k b)) w := h b rfl
/-- The bit of the j-th part. -/
def bitN (there : Int) (j : Nat) : Int := bitOp .and .i64 (there.fdiv (2 ^ (2 * j))) 1
theorem bitN_cases (there : Int) (j : Nat) : bitN there j = 0 ∨ bitN there j = 1 := by
  have := and_mask (a := there.fdiv (2 ^ (2 * j))) (m := 1) 1 (by decide) (by decide)
  unfold bitN
  omega
/-- The shift, as the program does it. -/
theorem bit_shift {there i : Int} {j : Nat} (hi : i = 2 * (j : Int)) (hj : j < 8) : bitOp .and .i64 i 15 = i ∧ IntKind.u64.wrap i = i ∧ there.fdiv (2 ^ (min i.toNat IntKind.i64.bits)) = there.fdiv (2 ^ (2 * j)) := by
  refine ⟨?_, ?_, ?_⟩
  · have := and_mask (a := i) (m := 15) 4 (by decide) (by decide)
    omega
  · simp [IntKind.wrap, IntKind.signed, IntKind.bits]; omega
  · have : min i.toNat IntKind.i64.bits = 2 * j := by simp [IntKind.bits]; omega
    rw [this]
structure TellInv (f t there : Int) (k : Nat) (Ps W : List Prt) (all : Bool) (S : Sto) : Prop where
  len : Ps.length = k
  blob : ∀ (j : Nat) p, Ps[j]? = some p → p.blob = j + 1 ∧ p.frm ≤ p.upto
  k8 : k ≤ 8
  want : W = partsIn f t Ps
  alls : all = W.all fun p => bitN there (p.blob.toNat - 1) == 0
  budget : S.budget = 1000
  last : S.last = k
  y0 : 0 ≤ S.bytes
  y1 : S.bytes ≤ k
  ch : S.charged = 0
  nd : (keys S.l).Nodup
  view : ∀ id, S.view id = if 1 ≤ id ∧ id ≤ k ∧ bitN there (id.toNat - 1) = 0 then some ⟨[1], 1⟩ else none
theorem TellInv.ok {f t there : Int} {k : Nat} {Ps W : List Prt} {all : Bool} {S : Sto} (h : TellInv f t there k Ps W all S) : S.Ok := by
  have := h.k8; have := h.budget; have := h.last; have := h.y0; have := h.y1; have := h.ch
  constructor <;> omega
/-- What the store is behind one more part. -/
structure StoreInv (there : Int) (k : Nat) (S : Sto) : Prop where
  budget : S.budget = 1000
  last : S.last = k
  y0 : 0 ≤ S.bytes
  y1 : S.bytes ≤ k
  ch : S.charged = 0
  nd : (keys S.l).Nodup
  view : ∀ id, S.view id = if 1 ≤ id ∧ id ≤ k ∧ bitN there (id.toNat - 1) = 0 then some ⟨[1], 1⟩ else none
theorem StoreInv.kept {f t there : Int} {k : Nat} {Ps W : List Prt} {all : Bool} {S : Sto} (h : TellInv f t there k Ps W all S) (hb : bitN there k = 0) :
    StoreInv there (k + 1) ⟨S.budget, S.last + 1, S.bytes + 1, S.charged, mset (S.last + 1) ⟨[1], 1⟩ S.l⟩ := by
  have hy0 := h.y0; have hy1 := h.y1; have hl := h.last
  refine ⟨h.budget, by dsimp only; omega, by dsimp only; omega, by dsimp only; omega, h.ch, mset_nodup h.nd, fun id => ?_⟩
  show mget id (mset (S.last + 1) _ S.l) = _
  rw [mget_mset]
  by_cases hid : id = S.last + 1
  · rw [if_pos hid, if_pos]
    refine ⟨by omega, by omega, ?_⟩
    rw [show id.toNat - 1 = k by omega]
    exact hb
  · rw [if_neg hid, show mget id S.l = S.view id from rfl, h.view]
    by_cases hc : 1 ≤ id ∧ id ≤ (k : Int) ∧ bitN there (id.toNat - 1) = 0
    · rw [if_pos hc, if_pos ⟨hc.1, by omega, hc.2.2⟩]
    · rw [if_neg hc, if_neg (fun h2 => hc ⟨h2.1, by omega, h2.2.2⟩)]
theorem StoreInv.gone {f t there : Int} {k : Nat} {Ps W : List Prt} {all : Bool} {S : Sto} (h : TellInv f t there k Ps W all S) (hb : bitN there k ≠ 0) :
    StoreInv there (k + 1) ⟨S.budget, S.last + 1, S.bytes + 1 - 1, S.charged, mdel (S.last + 1) (mset (S.last + 1) ⟨[1], 1⟩ S.l)⟩ := by
  have hy0 := h.y0; have hy1 := h.y1; have hl := h.last
  refine ⟨h.budget, by dsimp only; omega, by dsimp only; omega, by dsimp only; omega, h.ch, mdel_nodup (mset_nodup h.nd), fun id => ?_⟩
  show mget id (mdel (S.last + 1) (mset (S.last + 1) _ S.l)) = _
  rw [mdel_mset, mget_mdel _ _ _ h.nd]
  by_cases hid : id = S.last + 1
  · rw [if_pos hid, if_neg]
    rintro ⟨_, _, h3⟩
    rw [show id.toNat - 1 = k by omega] at h3
    exact hb h3
  · rw [if_neg hid, show mget id S.l = S.view id from rfl, h.view]
    by_cases hc : 1 ≤ id ∧ id ≤ (k : Int) ∧ bitN there (id.toNat - 1) = 0
    · rw [if_pos hc, if_pos ⟨hc.1, by omega, hc.2.2⟩]
    · rw [if_neg hc, if_neg (fun h2 => hc ⟨h2.1, by omega, h2.2.2⟩)]
theorem TellInv.step {f t there : Int} {k : Nat} {Ps W : List Prt} {all : Bool} {S S' : Sto} (h : TellInv f t there k Ps W all S) (hk : k < 8) (hs : StoreInv there (k + 1) S') {p : Prt} (hp : p.blob = k + 1) (hfu : p.frm ≤ p.upto) :
    TellInv f t there (k + 1) (Ps ++ [p]) (if p.frm ≤ t ∧ p.upto ≥ f ∧ f ≤ t then W ++ [p] else W) (if p.frm ≤ t ∧ p.upto ≥ f ∧ f ≤ t then all && (bitN there k == 0) else all) S' := by
  have hl := h.len
  refine ⟨by simp [hl], ?_, by omega, ?_, ?_, hs.budget, hs.last, hs.y0, hs.y1, hs.ch, hs.nd, hs.view⟩
  · intro j q hq
    by_cases hj : j < Ps.length
    · rw [List.getElem?_append_left hj] at hq
      exact h.blob j q hq
    · rw [List.getElem?_append_right (by omega)] at hq
      have hj2 : j - Ps.length = 0 := by
        have := (List.getElem?_eq_some_iff.1 hq).1
        simp at this; omega
      rw [hj2] at hq
      simp at hq
      subst hq
      exact ⟨by omega, hfu⟩
  · rw [h.want]
    unfold partsIn
    rw [List.filter_append]
    by_cases hc : p.frm ≤ t ∧ p.upto ≥ f ∧ f ≤ t
    · rw [if_pos hc]
      have : max p.frm f ≤ min p.upto t := by omega
      simp [this]
    · rw [if_neg hc]
      have : ¬ max p.frm f ≤ min p.upto t := by omega
      simp [this]
  · rw [h.alls]
    by_cases hc : p.frm ≤ t ∧ p.upto ≥ f ∧ f ≤ t
    · rw [if_pos hc, if_pos hc, List.all_append]
      simp only [List.all_cons, List.all_nil, Bool.and_true]
      rw [show p.blob.toNat - 1 = k by omega]
    · rw [if_neg hc, if_neg hc]
theorem TellInv.mem {f t there : Int} {k : Nat} {Ps W : List Prt} {all : Bool} {S : Sto} (h : TellInv f t there k Ps W all S) {q : Prt} (hq : q ∈ Ps) : ∃ j : Nat, j < k ∧ Ps[j]? = some q ∧ q.blob = j + 1 := by
  obtain ⟨j, hj, rfl⟩ := List.getElem_of_mem hq
  have := h.blob j _ (List.getElem?_eq_getElem hj)
  exact ⟨j, by rw [← h.len]; exact hj, List.getElem?_eq_getElem hj, this.1⟩
theorem TellInv.same {f t there : Int} {k : Nat} {Ps W : List Prt} {all : Bool} {S : Sto} (h : TellInv f t there k Ps W all S) {q r : Prt} (hq : q ∈ Ps) (hr : r ∈ Ps) (hb : q.blob = r.blob) : q = r := by
  obtain ⟨i, _, h1, h2⟩ := h.mem hq
  obtain ⟨j, _, h3, h4⟩ := h.mem hr
  obtain rfl : i = j := by omega
  rw [h1] at h3
  exact Option.some.inj h3
theorem TellInv.sub {f t there : Int} {k : Nat} {Ps W : List Prt} {all : Bool} {S : Sto} (h : TellInv f t there k Ps W all S) {q : Prt} (hq : q ∈ W) : q ∈ Ps := by
  rw [h.want] at hq
  exact (List.mem_filter.1 hq).1
theorem TellInv.nodup {f t there : Int} {k : Nat} {Ps W : List Prt} {all : Bool} {S : Sto} (h : TellInv f t there k Ps W all S) : (W.map (·.blob)).Nodup := by
  have hP : (Ps.map (·.blob)).Nodup := by
    rw [List.nodup_iff_pairwise_ne, List.pairwise_iff_getElem]
    intro i j hi hj hij
    simp only [List.length_map] at hi hj
    have h1 := (h.blob i _ (List.getElem?_eq_getElem hi)).1
    have h2 := (h.blob j _ (List.getElem?_eq_getElem hj)).1
    simp only [List.getElem_map]
    omega
  rw [h.want]
  exact hP.sublist (List.filter_sublist.map _)
theorem TellInv.one {f t there : Int} {k : Nat} {Ps W : List Prt} {all : Bool} {S : Sto} (h : TellInv f t there k Ps W all S) : ∀ id x, S.view id = some x → x.holds = 1 := by
  intro id x hx
  rw [h.view] at hx
  split at hx
  · cases hx; rfl
  · cases hx
theorem TellInv.here {f t there : Int} {k : Nat} {Ps W : List Prt} {all : Bool} {S : Sto} (h : TellInv f t there k Ps W all S) {q : Prt} (hq : q ∈ Ps) : (S.view q.blob).isSome = true ↔ bitN there (q.blob.toNat - 1) = 0 := by
  obtain ⟨j, h1, _, h2⟩ := h.mem hq
  rw [h.view]
  constructor
  · intro hs
    split at hs
    · rename_i hc; exact hc.2.2
    · cases hs
  · intro hb
    rw [if_pos ⟨by omega, by omega, hb⟩]; rfl
theorem TellInv.all_iff {f t there : Int} {k : Nat} {Ps W : List Prt} {all : Bool} {S : Sto} (h : TellInv f t there k Ps W all S) : all = true ↔ ∀ p ∈ W, (S.view p.blob).isSome = true := by
  rw [h.alls, List.all_eq_true]
  constructor
  · intro ha p hp
    rw [h.here (h.sub hp)]
    simpa using ha p hp
  · intro ha p hp
    have := (h.here (h.sub hp)).1 (ha p hp)
    simpa using this
theorem TellInv.hold {f t there : Int} {k : Nat} {Ps W : List Prt} {all : Bool} {S : Sto} (h : TellInv f t there k Ps W all S) :
    (S.hold [] W).1 = all ∧ ∀ id, (S.hold [] W).2.view id = if all = true ∧ id ∈ W.map (·.blob) then (S.view id).map twice else S.view id := by
  have hh0 : HeldTo S S [] := fun id => by simp
  rcases hold_held h.one W [] S (by simpa using h.nodup) (by simp) hh0 with ⟨h1, h2, h3⟩ | ⟨h1, h2, h3⟩
  · have ha : all = true := h.all_iff.2 h2
    subst ha
    refine ⟨h1, fun id => ?_⟩
    have := h3 id
    simpa using this
  · have ha : all = false := by
      cases all with
      | false => rfl
      | true => exact absurd (h.all_iff.1 rfl) h2
    subst ha
    refine ⟨h1, fun id => ?_⟩
    rw [h3]; simp
theorem TellInv.count {f t there : Int} {k : Nat} {Ps W : List Prt} {all : Bool} {S : Sto} (h : TellInv f t there k Ps W all S) {j : Nat} {q : Prt} (hq : Ps[j]? = some q) :
    (((S.hold [] W).2.view q.blob).map (·.holds)).getD 0 = (1 - bitN there j) + (if (decide (q ∈ W) && all) = true then 1 else 0) := by
  have hqP : q ∈ Ps := List.mem_of_getElem? hq
  have hb := (h.blob j q hq).1
  have hj : j < k := by rw [← h.len]; exact (List.getElem?_eq_some_iff.1 hq).1
  have hjb : q.blob.toNat - 1 = j := by omega
  have hmem : q.blob ∈ W.map (·.blob) ↔ q ∈ W := by
    constructor
    · intro hm
      obtain ⟨r, hr, hrb⟩ := List.mem_map.1 hm
      rw [← h.same (h.sub hr) hqP hrb]; exact hr
    · exact fun hm => List.mem_map.2 ⟨q, hm, rfl⟩
  rw [h.hold.2]
  simp only [hmem]
  have hv := h.view q.blob
  rw [hjb] at hv
  rcases bitN_cases there j with hbit | hbit
  · rw [if_pos ⟨by omega, by omega, hbit⟩] at hv
    rw [hv, hbit]
    by_cases hc : all = true ∧ q ∈ W
    · rw [if_pos hc, if_pos (by simp [hc.1, hc.2])]; rfl
    · rw [if_neg hc, if_neg (by intro hx; apply hc; simp at hx; exact ⟨hx.2, hx.1⟩)]; rfl
  · rw [if_neg (by intro hx; omega)] at hv
    have hc : ¬ (all = true ∧ q ∈ W) := by
      rintro ⟨ha, hw⟩
      have := h.all_iff.1 ha q hw
      rw [hv] at this
      cases this
    rw [if_neg hc, hv, hbit, if_neg (by intro hx; apply hc; simp at hx; exact ⟨hx.2, hx.1⟩)]; rfl
/-- Behind all: what was held is left again. -/
theorem TellInv.left {f t there : Int} {k : Nat} {Ps W : List Prt} {all : Bool} {S : Sto} (h : TellInv f t there k Ps W all S) (ha : all = true) (id : Int) : ((S.hold [] W).2.leave W).view id = S.view id := by
  refine leave_held h.one W _ h.nodup (fun p hp => h.all_iff.1 ha p hp) (fun j => ?_) id
  rw [h.hold.2]
  simp [ha]
theorem TellInv.count0 {f t there : Int} {k : Nat} {Ps W : List Prt} {all : Bool} {S : Sto} (h : TellInv f t there k Ps W all S) {j : Nat} {q : Prt} (hq : Ps[j]? = some q) : ((S.view q.blob).map (·.holds)).getD 0 = 1 - bitN there j := by
  have hb := (h.blob j q hq).1
  have hj : j < k := by rw [← h.len]; exact (List.getElem?_eq_some_iff.1 hq).1
  rw [h.view, show q.blob.toNat - 1 = j by omega]
  rcases bitN_cases there j with hbit | hbit
  · rw [if_pos ⟨by omega, by omega, hbit⟩, hbit]; rfl
  · rw [if_neg (by intro hx; omega), hbit]; rfl
end Go.Proofs.Ytgahjjihfibbnaa
