/- From a law's walk to its row: whatever the arguments, 'true', and the arguments read as they did. -/
import Derived.Test.YtjjacchnalemaaaDoorHs
import Derived.ProofKit
import Derived.OpenShut
import Derived.JoinedCond
import Derived.Carry
import Derived.KernelRfl
namespace Go.Hw
open Go.ChangeShapes Go.WideShapes Go.ChangeAt Go.RowKit

theorem trodAll_stays {H : Type} {enc : TypeId × Value → H} {P : Program} (hl : laidOutB P = true) {W W' : World} (hb : Below W.heap.size W W') :
    ∀ {ts : List TypeId} {vs : List Value} {ds : List (DataW H)} {ps : List MemPlace}, (ts.all fun t => P.readableRec t && Nat.blt t P.types.size) = true →
      DataW.TrodAll enc P W 0 (fun _ => true) true ts vs ds ps → (∀ x ∈ ps, x.block < W.heap.size) → DataW.TrodAll enc P W' 0 (fun b => decide (b < W.heap.size)) true ts vs ds ps
  | [], vs, ds, ps, _, h, _ => by
    obtain ⟨rfl, rfl, rfl⟩ := trodAll_nil h
    exact trodAll_mk0
  | t :: ts, vs, ds, ps, hr, h, hlt => by
    obtain ⟨v, vs', d, ds', p, q, rfl, rfl, rfl, h1, h2⟩ := trodAll_cons h
    simp only [List.all_cons, Bool.and_eq_true] at hr
    exact trodAll_cons_mk (Below.trod hl hr.1.1 (by simpa [Nat.blt_eq] using hr.1.2) h1 hb (fun x hx => hlt x (List.mem_append_left _ hx)))
      (trodAll_stays hl hb hr.2 h2 (fun x hx => hlt x (List.mem_append_right _ hx)))

theorem trodAll_len {H : Type} {enc : TypeId × Value → H} {P : Program} {w : World} {base : Nat} {spare : Nat → Bool} {held : Bool} :
    ∀ {ts : List TypeId} {vs : List Value} {ds : List (DataW H)} {ps : List MemPlace}, DataW.TrodAll enc P w base spare held ts vs ds ps → ds.length = ts.length
  | [], vs, ds, ps, h => by obtain ⟨_, rfl, _⟩ := trodAll_nil h; rfl
  | t :: ts, vs, ds, ps, h => by
    obtain ⟨v, vs', d, ds', p, q, rfl, rfl, rfl, h1, h2⟩ := trodAll_cons h
    simp [trodAll_len h2]

theorem law_contract {H : Type} {enc : TypeId × Value → H} {C : Checked} {f : FuncId} {fn : Func} {s : ChangeSpec} {ts : List TypeId} {tb : TypeId} (hl : laidOutB C.prog = true) (hp : fn.params.toList = ts) (hrt : fn.resultTypes = #[tb]) (hbool : C.prog.underlying tb = some .bool)
    (hread : (ts.all fun t => C.prog.readableRec t && Nat.blt t C.prog.types.size) = true) (hvars : s.vars = []) (hs : ∀ ds : List (DataW H), ds.length = ts.length → s.fn H ds = { results := [.lit (.bool true)], args := ds })
    {W : World} {args : Array Value} {ds gs : List (DataW H)} {before : List MemPlace}
    (hW : DataW.Whole enc C.prog fn.params.toList s.vars false W args.toList ds gs before)
    (main : (∃ ps, DataW.TrodAll enc C.prog W 0 (fun _ => true) true ts args.toList ds ps ∧ ∀ x ∈ ps, x.block < W.heap.size) → Ret C.prog f args.toList W fun v w' => v = .bool true ∧ St W [] w') :
    Calls C.prog f args W fun e W' => ∃ v, e = .returned v ∧ s.post enc C.prog fn false true false false W args v W' := by
  have hW' := hW
  obtain ⟨p, q, hA, hV, rfl, hfz, hnd⟩ := hW
  rw [hp] at hA
  rw [hvars] at hV
  obtain ⟨rfl, rfl⟩ := trodVars_none hV
  simp only [List.append_nil] at hW'
  have hlt : ∀ x ∈ p, x.block < W.heap.size := fun x hx => by simpa using hW'.lt x hx
  have hlen := trodAll_len hA
  have hm := main ⟨p, hA, hlt⟩
  unfold Ret at hm
  simp only [Array.toArray_toList] at hm
  refine hm.mono fun e W' ⟨v, he, hv, hst⟩ => ?_
  subst he hv
  have hb := hst.below
  refine ⟨_, rfl, ds, [], _, [], p, [], hW', ?_, ?_, ?_, hb.frame _, fun h => by cases h⟩
  · rw [hrt, List.append_nil, hs ds hlen]
    exact trodAll_cons_mk (shut_bool hbool true) trodAll_mk0
  · rw [hp, List.append_nil, hs ds hlen]
    exact trodAll_stays hl hb hread hA hlt
  · rw [hvars, List.append_nil, hs ds hlen]; rfl

section
variable {H : Type} {enc : TypeId × Value → H} {P : Program} {W : World} {r : Reach} {b0 : Nat}
/-- A slice of numbers, as an argument. -/
theorem arg_nums {t e : TypeId} {k : IntKind} {v : Value} {d : DataW H} {p : List MemPlace} (ht : P.underlying t = some (.slice e)) (he : P.underlying e = some (.int k)) (hc : P.cellsOf e = 1)
    (hval : Value.okWide P W r b0 t v) (h : DataW.Trod enc P W 0 (fun _ => true) true t v d p) (hlt : ∀ x ∈ p, x.block < W.heap.size) :
    ∃ (a : Option Addr) (n c : Nat) (zs : List Int), v = .slice a n c ∧ n ≤ maxLen ∧ (∀ z ∈ zs, (Lit.int k z).wf = true) ∧ Rd W 1 a n (zs.map (Value.int k)) ∧ ∀ b o, a = some ⟨b, o, none⟩ → 0 < n → b < W.heap.size := by
  obtain ⟨a0, len, cap, rfl⟩ := okWide_slice ht hval
  obtain ⟨fuel, hf⟩ := h
  rcases open_ints ht he hc hf with ⟨hcs, hx⟩ | ⟨a, len', cap', zs, hcs, _, hl, hm, hz, hx, hcell, hwz⟩
  · simp [Value.cells] at hcs
    obtain ⟨rfl, rfl, rfl⟩ := hcs
    exact ⟨none, 0, 0, [], rfl, Nat.zero_le _, (fun _ h => by cases h), ⟨rfl, .inl rfl⟩, fun _ _ h => by cases h⟩
  · simp [Value.cells] at hcs
    obtain ⟨rfl, rfl, rfl⟩ := hcs
    simp only [Prod.mk.injEq] at hx
    obtain ⟨rfl, rfl⟩ := hx
    simp only [if_true] at hz
    refine ⟨some a, len, cap, zs.take len, rfl, Nat.le_trans hl hm, (fun z hz => hwz z (List.mem_of_mem_take hz)), ⟨by simp; omega, ?_⟩, ?_⟩
    · rcases Nat.eq_zero_or_pos len with h0 | h0
      · exact .inl h0
      · obtain ⟨b, off, spot⟩ := a
        have hspot : spot = none := by simpa [Addr.add] using World.cell?_spot (hcell 0 (by omega))
        subst hspot
        refine .inr ⟨b, off, rfl, fun j v hj => ?_⟩
        have hjl : j < len ∧ j < zs.length := by
          have := (List.getElem?_eq_some_iff.1 hj).1
          simp at this
          omega
        have hc := hcell j hjl.2
        rw [Addr.add_mid] at hc
        rw [hc, ← hj]
        simp [List.getElem?_take, hjl.1, List.getElem?_eq_getElem hjl.2, List.getD]
    · intro b o hb hn
      cases hb
      exact hlt (.cell b o) (MemPlace.mem_row.2 ⟨0, by omega, by simp⟩)
theorem nums_bytes : ∀ {zs : List Int}, (∀ z ∈ zs, (Lit.int .u8 z).wf = true) → ∃ bs, zs.map (Value.int .u8) = bytesV bs
  | [], _ => ⟨[], rfl⟩
  | z :: zs, h => by
    obtain ⟨bs, hb⟩ := nums_bytes (zs := zs) fun y hy => h y (List.mem_cons_of_mem _ hy)
    have hz : 0 ≤ z ∧ z ≤ 255 := by simpa [Lit.wf, IntKind.min, IntKind.max, IntKind.signed, IntKind.bits] using h z (List.mem_cons_self ..)
    refine ⟨UInt8.ofNat z.toNat :: bs, ?_⟩
    simp only [List.map_cons, hb, bytesV]
    congr 2
    simp
    omega
theorem arg_bytes {t e : TypeId} {v : Value} {d : DataW H} {p : List MemPlace} (ht : P.underlying t = some (.slice e)) (he : P.underlying e = some (.int .u8)) (hc : P.cellsOf e = 1)
    (hval : Value.okWide P W r b0 t v) (h : DataW.Trod enc P W 0 (fun _ => true) true t v d p) (hlt : ∀ x ∈ p, x.block < W.heap.size) :
    ∃ a n c bs, v = .slice a n c ∧ n ≤ maxLen ∧ Rd W 1 a n (bytesV bs) ∧ ∀ b o, a = some ⟨b, o, none⟩ → 0 < n → b < W.heap.size := by
  obtain ⟨a, n, c, zs, h1, h2, h3, h4, h5⟩ := arg_nums ht he hc hval h hlt
  obtain ⟨bs, hb⟩ := nums_bytes h3
  exact ⟨a, n, c, bs, h1, h2, hb ▸ h4, h5⟩
end
end Go.Hw
