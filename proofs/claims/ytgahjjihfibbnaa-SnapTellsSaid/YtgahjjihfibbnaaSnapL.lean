/- Holding all parts of a snap, and leaving them again: what stands in the store. -/
import Derived.Test.YtgahjjihfibbnaaSnap
namespace Go.Proofs.Ytgahjjihfibbnaa
open Go.Hw

abbrev Sto.view (S : Sto) (id : Int) : Option Kept := mget id S.l
def twice (x : Kept) : Kept := ⟨x.bs, 2⟩
theorem view_put (S : Sto) (k : Int) (x : Kept) (id : Int) : (S.put k x).view id = if id = k then some x else S.view id := mget_mset k id x S.l
theorem left_two (S : Sto) (k : Int) (bs : List UInt8) : S.left k ⟨bs, 2⟩ = S.put k ⟨bs, 1⟩ := by
  have e : IntKind.i64.wrap ((2 : Int) - 1) = 1 := by decide
  unfold Sto.left
  rw [e, if_neg (by decide)]
/-- The store S0 with one hold more of each of these parts. -/
def HeldTo (S0 S : Sto) (ps : List Prt) : Prop := ∀ id, S.view id = if id ∈ ps.map (·.blob) then (S0.view id).map twice else S0.view id
theorem leave_held {S0 : Sto} (h1 : ∀ id x, S0.view id = some x → x.holds = 1) : ∀ (ps : List Prt) (S : Sto), (ps.map (·.blob)).Nodup → (∀ p ∈ ps, (S0.view p.blob).isSome) → HeldTo S0 S ps → ∀ id, (S.leave ps).view id = S0.view id
  | [], S, _, _, hh, id => by show S.view id = S0.view id; simpa using hh id
  | p :: ps, S, hn, hp, hh, id => by
    simp only [List.map_cons, List.nodup_cons] at hn
    obtain ⟨x, hx⟩ := Option.isSome_iff_exists.1 (hp p (List.mem_cons_self ..))
    have hx1 := h1 _ _ hx
    have hS : S.view p.blob = some ⟨x.bs, 2⟩ := by rw [hh, if_pos (by simp), hx]; rfl
    have hx' : (⟨x.bs, 1⟩ : Kept) = x := by cases x; dsimp only at hx1; rw [hx1]
    unfold Sto.leave
    rw [show mget p.blob S.l = some ⟨x.bs, 2⟩ from hS]
    dsimp only
    rw [left_two]
    refine leave_held h1 ps _ hn.2 (fun q hq => hp q (List.mem_cons_of_mem _ hq)) (fun j => ?_) id
    rw [view_put]
    by_cases hj : j = p.blob
    · subst hj
      rw [if_pos rfl, if_neg hn.1, hx, hx']
    · rw [if_neg hj, hh]
      simp only [List.map_cons, List.mem_cons, hj, false_or]
theorem hold_held {S0 : Sto} (h1 : ∀ id x, S0.view id = some x → x.holds = 1) : ∀ (ps done : List Prt) (S : Sto), ((done ++ ps).map (·.blob)).Nodup → (∀ p ∈ done, (S0.view p.blob).isSome) → HeldTo S0 S done →
    ((S.hold done ps).1 = true ∧ (∀ p ∈ ps, (S0.view p.blob).isSome) ∧ HeldTo S0 (S.hold done ps).2 (done ++ ps)) ∨ ((S.hold done ps).1 = false ∧ ¬ (∀ p ∈ ps, (S0.view p.blob).isSome) ∧ ∀ id, (S.hold done ps).2.view id = S0.view id)
  | [], done, S, _, _, hh => .inl ⟨rfl, by simp, by rw [List.append_nil]; exact hh⟩
  | p :: ps, done, S, hn, hp, hh => by
    have hpn : p.blob ∉ done.map (·.blob) := by
      intro hm
      rw [List.map_append, List.nodup_append] at hn
      exact hn.2.2 _ hm _ (by simp) rfl
    have hSv : S.view p.blob = S0.view p.blob := by rw [hh, if_neg hpn]
    unfold Sto.hold
    cases hg : S0.view p.blob with
    | none =>
      rw [show mget p.blob S.l = none from hSv.trans hg]
      refine .inr ⟨rfl, fun hall => ?_, fun id => ?_⟩
      · have := hall p (List.mem_cons_self ..)
        rw [hg] at this
        cases this
      · rw [List.map_append, List.nodup_append] at hn
        exact leave_held h1 done S hn.1 hp hh id
    | some x =>
      rw [show mget p.blob S.l = some x from hSv.trans hg]
      dsimp only
      have hx1 := h1 _ _ hg
      have hw : IntKind.i64.wrap (x.holds + 1) = 2 := by rw [hx1]; decide
      rw [hw]
      have hh' : HeldTo S0 (S.put p.blob ⟨x.bs, 2⟩) (done ++ [p]) := by
        intro j
        rw [view_put]
        by_cases hj : j = p.blob
        · subst hj
          rw [if_pos rfl, if_pos (by simp), hg]; rfl
        · rw [if_neg hj, hh]
          simp only [List.map_append, List.map_cons, List.map_nil, List.mem_append, List.mem_singleton, hj, or_false]
      have ih := hold_held h1 ps (done ++ [p]) (S.put p.blob ⟨x.bs, 2⟩) (by simpa using hn) (by
        intro q hq
        rcases List.mem_append.1 hq with hq | hq
        · exact hp q hq
        · simp at hq; subst hq; rw [hg]; rfl) hh'
      rcases ih with ⟨i1, i2, i3⟩ | ⟨i1, i2, i3⟩
      · refine .inl ⟨i1, ?_, by simpa using i3⟩
        intro q hq
        rcases List.mem_cons.1 hq with rfl | hq
        · rw [hg]; rfl
        · exact i2 q hq
      · exact .inr ⟨i1, fun hall => i2 fun q hq => hall q (List.mem_cons_of_mem _ hq), i3⟩
end Go.Proofs.Ytgahjjihfibbnaa
