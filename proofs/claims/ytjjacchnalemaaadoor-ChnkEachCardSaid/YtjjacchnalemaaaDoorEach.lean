/- ephemerislaw11.ChnkEach. -/
import Derived.Test.YtjjacchnalemaaaDoorLaw11
import Derived.Test.YtjjacchnalemaaaDoorHra
import Derived.Test.YtjjacchnalemaaaDoorHm
namespace Go.Hw
open Go.ChangeShapes Go.WideShapes Go.ChangeAt Go.RowKit
theorem strB_inj {a b : List UInt8} (h : strB a = strB b) : a = b := by
  unfold strB at h
  injection h with h
  simpa using h
theorem strB_beq (a b : List UInt8) : (strB a == strB b) = decide (a = b) := by
  show ((strB a).data == (strB b).data) = _
  rw [Bool.eq_iff_iff]
  simp [strB]
/-- Keys that are texts. -/
theorem find_str {P : Program} {w : World} {kt : TypeId} (hu : P.underlying kt = some .string) (k : List UInt8) : ∀ (es : List MapEntry) (m : List (List UInt8 × Value)), Ents (fun b => Value.string (strB b)) es m → (Instr.findKey kt (.string (strB k)) es).run P w = .ok (mfind k m 0) w := by
  have key : ∀ (es : List MapEntry) (m : List (List UInt8 × Value)) (i : Nat), Ents (fun b => Value.string (strB b)) es m → Instr.findNow .string (.string (strB k)) es i = some (mfind k m i) := by
    intro es
    induction es with
    | nil => intro m i h; cases m with | nil => rfl | cons a m => simp [Ents] at h
    | cons e es ih =>
      intro m i h
      cases m with
      | nil => simp [Ents] at h
      | cons a m =>
        obtain ⟨j, u⟩ := a
        have h' : (e.key, e.val) = (Value.string (strB j), u) ∧ Ents (fun b => Value.string (strB b)) es m := by simpa [Ents] using h
        have hk : e.key = .string (strB j) := congrArg Prod.fst h'.1
        have hv : e.val = u := congrArg Prod.snd h'.1
        by_cases hj : j = k
        · subst hj
          simp [Instr.findNow, hk, hv, Instr.sameNow, mfind, strB_beq]
        · have : (strB k == strB j) = false := by
            rw [strB_beq]
            exact decide_eq_false fun h => hj h.symm
          simp [Instr.findNow, hk, Instr.sameNow, mfind, this, hj, ih m (i + 1) h'.2]
  intro es m h
  have := key es m 0 h
  simp [Instr.findKey, run_underlying hu, this]
theorem MK.str {P : Program} {kt : TypeId} (hu : P.underlying kt = some .string) : MK P kt (List UInt8) (fun b => Value.string (strB b)) where
  check := fun e w k => by
    show (Instr.checkKey e (9999 + 1) kt (.string (strB k))).run P w = _
    unfold Instr.checkKey
    rw [Sem.run_bind, run_underlying hu]
    rfl
  find := fun w k es m h => find_str hu k es m h
  same := fun k => by
    show (strB k == strB k) = true
    rw [strB_beq]; simp
  inj := fun a b h => by injection h with h; exact strB_inj h
section
variable {H : Type} {enc : TypeId × Value → H} {P : Program} {W : World} {r : Reach} {b0 : Nat}
/-- An argument that is a sample. -/
theorem arg_smp {t : TypeId} [he : EqI P t [.i64, .u64]] {v : Value} {d : DataW H} {p : List MemPlace} (hC : P.cellsOf t = 2) (h1 : ((P.fieldsOf t).toList.all fun f => P.cellsOf f.type == 1) = true)
    (hval : Value.okWide P W r b0 t v) (h : DataW.Trod enc P W 0 (fun _ => true) true t v d p) : ∃ s : Smp, v = .agg s.cells.toArray ∧ s.Wf := by
  obtain ⟨fl, hu, _⟩ := he.u
  obtain ⟨cs, rfl, hcs⟩ := okWide_struct hu hval
  obtain ⟨fuel, hf⟩ := h
  obtain ⟨ns, h2, h3, h4⟩ := trod_ints hC h1 hf
  match ns, h2 with
  | [x, y], _ =>
    have hx := h4 0 .i64 x rfl rfl
    have hy := h4 1 .u64 y rfl rfl
    simp [Lit.wf, IntKind.min, IntKind.max, IntKind.signed, IntKind.bits] at hx hy
    have hc : cs.toList = [.int .i64 x, .int .u64 y] := by simpa [Value.cells, ints] using h3
    refine ⟨⟨x, y⟩, ?_, ⟨by dsimp only; omega, by dsimp only; omega⟩, by dsimp only; omega, by dsimp only; omega⟩
    have : cs = [.int .i64 x, .int .u64 y].toArray := by rw [← hc]
    rw [this]; rfl
end
theorem chMake_tag {t t' : Int} {L L' : List Smp} {b : List UInt8} (h : chMake t L = some b) (h' : chMake t' L' = some b) : t = t' := by
  obtain ⟨x, hx, _, he⟩ := chMake_some h
  obtain ⟨x', hx', _, he'⟩ := chMake_some h'
  obtain ⟨a1, a2⟩ := suitEnc_tag hx
  obtain ⟨b1, b2⟩ := suitEnc_tag hx'
  rw [he] at he'
  unfold chBody at he'
  simp only [List.cons_append, List.cons.injEq] at he'
  have h1 := congrArg UInt8.toNat he'.1
  rw [UInt8.toNat_ofNat', UInt8.toNat_ofNat'] at h1
  omega
theorem one_can {tag : Int} {s : Smp} (h1 : 1 ≤ tag) (h6 : tag ≤ 6) (h2 : tag ≠ 2) : ∃ b, chMake tag [s] = some b := by
  have : ∃ x, suitEnc tag [s] = some x := by
    by_cases ht : tag = 6
    · subst ht
      exact ⟨_, rfl⟩
    · exact suitEnc_can rfl (by show 1 ≤ 256; decide) (by omega)
  obtain ⟨x, hx⟩ := this
  unfold chMake
  rw [hx]
  exact ⟨_, rfl⟩
end Go.Hw
namespace Go.Proofs.YtjjacchnalemaaaDoor
open Go.Hw
set_option maxHeartbeats 4000000
set_option maxRecDepth 100000
instance mkStr : MK Tryd.prog 9 (List UInt8) (fun b => Value.string (strB b)) := MK.str Tryd.underlying9
section
variable {w0 w : World} {l : List HProp}
theorem law11_ChnkEach (hT : Tz w0) {st : Option Addr} {ct : Nat} {xs : List Int} {sv : Option Addr} {cv : Nat} {us_ : List Nat} (how : Int) (s : Smp) (hsw : s.Wf) (hx : ∀ x ∈ xs, I64 x) (hn : xs.length ≤ 9223372036854775807) (hrt : Reads w0 l 1 st xs.length (i64V xs))
    (hu : ∀ x ∈ us_, x < 18446744073709551616) (hnu : us_.length ≤ 9223372036854775807) (hrv : Reads w0 l 1 sv us_.length (u64V us_)) (h : St w0 l w) :
    Ret Tryd.prog 8 [.slice st xs.length ct, .slice sv us_.length cv, .int .i64 how, .agg s.cells.toArray] w fun v w' => v = .bool true ∧ St w0 l w' := by
  refine enter Tryd.func8 rfl Tryd.results8 Tryd.ntmps8 rfl ?_
  refine c_seq (c_region ?_)
  refine r_c rfl (x_box h (show _ = Value.agg s.cells.toArray from rfl) fun bs w h => ?_)
  refine r_v (q_assignB rfl) rfl ?_
  refine r_nil ?_
  refine c_seq (c_region ?_)
  refine r_v (q_moveS rfl) rfl ?_; refine r_v (q_moveS rfl) rfl ?_; refine r_v (q_moveI rfl) rfl ?_
  refine r_c rfl (x_call rfl (law10_Row how hx hn hrt.cons hu hnu hrv.cons h) ?_)
  rintro _ w ⟨sa, sc, L, hL60, hwf, hris, rfl, h⟩
  refine r_v (q_assignS rfl) rfl ?_
  refine r_nil ?_
  have hrise : rising L = true := by unfold rising; rw [hris, Bool.true_and, decide_eq_true_eq]; omega
  refine c_seq (c_region ?_)
  refine r_c rfl (x_mkmap (fun b : List UInt8 => Value.string (strB b)) h fun q w h => ?_)
  refine r_v (q_assignM rfl) rfl ?_
  refine r_nil ?_
  refine c_seq (c_seq (c_region ?_))
  refine r_v (q_assignI rfl) rfl ?_
  refine r_nil ?_
  refine c_block ?_
  refine c_loop (Γ := Nat × List (List UInt8 × Value)) (fun k => [(7, .pointer (some ⟨bs, 0, none⟩)), (9, .slice sa L.length sc), (10, .map (some q)), (11, .int .i64 ((k.1 + 1 : Nat) : Int))])
    (fun k w => k.1 ≤ 6 ∧ (∀ b v, mget b k.2 = some v → ∃ t : Nat, t ≤ k.1 ∧ chMake (t : Int) L = some b) ∧ St w0 (MapOf (fun b : List UInt8 => Value.string (strB b)) q k.2 :: OwnS sa sc L :: pt bs (.cells s.cells.toArray 25 (0, 0)) :: l) w) (fun k => 6 - k.1) (0, []) ⟨rfl, rfl, rfl, rfl, trivial⟩ ⟨Nat.zero_le _, (fun _ _ h => by cases h), h⟩ ?_
  clear h
  rintro ⟨k, m⟩ w e ⟨hk, hm, h⟩
  dsimp only at hk hm h ⊢
  refine c_seq (c_seq (c_region ?_))
  refine r_v (q_moveI rfl) rfl ?_; refine r_v (q_leq rfl rfl) rfl ?_
  by_cases hlt : k < 6
  · refine r_is (.bool true) (by simp; omega) ?_
    refine r_nil (c_true rfl (c_skip ?_))
    refine c_cut (Γ := List (List UInt8 × Value)) (fun m' => [(7, .pointer (some ⟨bs, 0, none⟩)), (9, .slice sa L.length sc), (10, .map (some q)), (11, .int .i64 ((k + 1 : Nat) : Int))])
      (fun m' w => (∀ b v, mget b m' = some v → ∃ t : Nat, t ≤ k + 1 ∧ chMake (t : Int) L = some b) ∧ St w0 (MapOf (fun b : List UInt8 => Value.string (strB b)) q m' :: OwnS sa sc L :: pt bs (.cells s.cells.toArray 25 (0, 0)) :: l) w) ?_ ?_
    · refine c_block ?_
      refine c_seq (c_region ?_)
      refine r_v (q_moveI rfl) rfl ?_; refine r_v (q_moveS rfl) rfl ?_
      refine r_c rfl (x_call rfl (chnk_Make hT ((k + 1 : Nat) : Int) (L := L) hwf (by omega) Reads.own.cons h) ?_)
      cases hM : chMake ((k + 1 : Nat) : Int) L with
      | none =>
        rintro _ w ⟨ba, bc, rfl, h⟩
        replace h := h.drop
        show Rn _ _ _ _ _ (upd _ _ (.tuple [.slice ba 0 bc, .bool false].toArray)) _
        refine r_v (q_moveT rfl) rfl ?_; refine r_v (q_ext rfl rfl) rfl ?_; refine r_v (q_ext rfl rfl) rfl ?_; refine r_v (q_assignS rfl) rfl ?_; refine r_v (q_assignB rfl) rfl ?_
        refine r_nil ?_
        refine c_seq (c_seq (c_region ?_))
        refine r_v (q_moveB rfl) rfl ?_; refine r_v (q_not rfl) rfl ?_
        refine r_nil (c_true rfl ?_)
        refine c_cut (Γ := Unit) (fun _ => [(7, .pointer (some ⟨bs, 0, none⟩)), (9, .slice sa L.length sc), (10, .map (some q)), (11, .int .i64 ((k + 1 : Nat) : Int))]) (fun _ w' => w' = w) ?_ ?_
        · refine c_seq (c_region ?_)
          by_cases hl0 : L.length = 0
          · refine r_v (q_moveS rfl) rfl ?_; refine r_v (q_len rfl) rfl ?_
            refine r_v (q_is (v' := .bool false) (q_gtr rfl rfl) (by rw [hl0]; rfl)) rfl ?_
            refine r_v (q_moveB rfl) rfl ?_; (first | refine r_gd rfl rfl ?_ | refine r_gn rfl rfl rfl ?_ | refine r_gu rfl rfl ?_ | refine r_gd rfl (by assumption) ?_ | refine r_gn rfl (by assumption) rfl ?_); (first | refine r_gd rfl rfl ?_ | refine r_gn rfl rfl rfl ?_ | refine r_gu rfl rfl ?_ | refine r_gd rfl (by assumption) ?_ | refine r_gn rfl (by assumption) rfl ?_); (first | refine r_v (q_pick1 rfl rfl rfl) rfl ?_ | refine r_v (q_pick0 rfl rfl rfl) rfl ?_ | refine r_v (q_pick1 rfl (by assumption) rfl) rfl ?_ | refine r_v (q_pick0 rfl (by assumption) rfl) rfl ?_ | refine r_v (q_pickB rfl rfl rfl) rfl ?_); refine r_v (q_moveB rfl) rfl ?_; (first | refine r_gd rfl rfl ?_ | refine r_gn rfl rfl rfl ?_ | refine r_gu rfl rfl ?_ | refine r_gd rfl (by assumption) ?_ | refine r_gn rfl (by assumption) rfl ?_); (first | refine r_gd rfl rfl ?_ | refine r_gn rfl rfl rfl ?_ | refine r_gu rfl rfl ?_ | refine r_gd rfl (by assumption) ?_ | refine r_gn rfl (by assumption) rfl ?_); (first | refine r_v (q_pick1 rfl rfl rfl) rfl ?_ | refine r_v (q_pick0 rfl rfl rfl) rfl ?_ | refine r_v (q_pick1 rfl (by assumption) rfl) rfl ?_ | refine r_v (q_pick0 rfl (by assumption) rfl) rfl ?_ | refine r_v (q_pickB rfl rfl rfl) rfl ?_)
            exact r_nil (c_false rfl (c_skip ⟨(), ⟨rfl, rfl, rfl, rfl, trivial⟩, rfl⟩))
          have hkk : k + 1 = 2 ∨ k + 1 = 6 := by
            by_cases hk4 : ((k + 1 : Nat) : Int) = 1 ∨ ((k + 1 : Nat) : Int) = 3 ∨ ((k + 1 : Nat) : Int) = 4 ∨ ((k + 1 : Nat) : Int) = 5
            · exfalso
              obtain ⟨x, hxe⟩ := suitEnc_can hrise (by omega) hk4
              unfold chMake at hM
              rw [hxe] at hM
              dsimp only at hM
              split at hM
              · rename_i hh; exact hl0 (by rw [hh]; rfl)
              · cases hM
            · omega
          refine r_v (q_moveS rfl) rfl ?_; refine r_v (q_len rfl) rfl ?_
          refine r_v (q_is (v' := .bool true) (q_gtr rfl rfl) (by congr 1; simp; omega)) rfl ?_
          refine r_v (q_moveB rfl) rfl ?_; (first | refine r_gd rfl rfl ?_ | refine r_gn rfl rfl rfl ?_ | refine r_gu rfl rfl ?_ | refine r_gd rfl (by assumption) ?_ | refine r_gn rfl (by assumption) rfl ?_); refine r_v (q_moveI rfl) rfl ?_; (first | refine r_gd rfl rfl ?_ | refine r_gn rfl rfl rfl ?_ | refine r_gu rfl rfl ?_ | refine r_gd rfl (by assumption) ?_ | refine r_gn rfl (by assumption) rfl ?_)
          rcases hkk with hkk | hkk
          · refine r_v (q_is (v' := .bool false) (q_neq rfl rfl) (by rw [hkk]; rfl)) rfl ?_
            (first | refine r_v (q_pick1 rfl rfl rfl) rfl ?_ | refine r_v (q_pick0 rfl rfl rfl) rfl ?_ | refine r_v (q_pick1 rfl (by assumption) rfl) rfl ?_ | refine r_v (q_pick0 rfl (by assumption) rfl) rfl ?_ | refine r_v (q_pickB rfl rfl rfl) rfl ?_); refine r_v (q_moveB rfl) rfl ?_; (first | refine r_gd rfl rfl ?_ | refine r_gn rfl rfl rfl ?_ | refine r_gu rfl rfl ?_ | refine r_gd rfl (by assumption) ?_ | refine r_gn rfl (by assumption) rfl ?_); (first | refine r_gd rfl rfl ?_ | refine r_gn rfl rfl rfl ?_ | refine r_gu rfl rfl ?_ | refine r_gd rfl (by assumption) ?_ | refine r_gn rfl (by assumption) rfl ?_); (first | refine r_v (q_pick1 rfl rfl rfl) rfl ?_ | refine r_v (q_pick0 rfl rfl rfl) rfl ?_ | refine r_v (q_pick1 rfl (by assumption) rfl) rfl ?_ | refine r_v (q_pick0 rfl (by assumption) rfl) rfl ?_ | refine r_v (q_pickB rfl rfl rfl) rfl ?_)
            exact r_nil (c_false rfl (c_skip ⟨(), ⟨rfl, rfl, rfl, rfl, trivial⟩, rfl⟩))
          · refine r_v (q_is (v' := .bool true) (q_neq rfl rfl) (by rw [hkk]; rfl)) rfl ?_
            (first | refine r_v (q_pick1 rfl rfl rfl) rfl ?_ | refine r_v (q_pick0 rfl rfl rfl) rfl ?_ | refine r_v (q_pick1 rfl (by assumption) rfl) rfl ?_ | refine r_v (q_pick0 rfl (by assumption) rfl) rfl ?_ | refine r_v (q_pickB rfl rfl rfl) rfl ?_); refine r_v (q_moveB rfl) rfl ?_; (first | refine r_gd rfl rfl ?_ | refine r_gn rfl rfl rfl ?_ | refine r_gu rfl rfl ?_ | refine r_gd rfl (by assumption) ?_ | refine r_gn rfl (by assumption) rfl ?_); refine r_v (q_moveI rfl) rfl ?_; (first | refine r_gd rfl rfl ?_ | refine r_gn rfl rfl rfl ?_ | refine r_gu rfl rfl ?_ | refine r_gd rfl (by assumption) ?_ | refine r_gn rfl (by assumption) rfl ?_)
            refine r_v (q_is (v' := .bool false) (q_neq rfl rfl) (by rw [hkk]; rfl)) rfl ?_
            (first | refine r_v (q_pick1 rfl rfl rfl) rfl ?_ | refine r_v (q_pick0 rfl rfl rfl) rfl ?_ | refine r_v (q_pick1 rfl (by assumption) rfl) rfl ?_ | refine r_v (q_pick0 rfl (by assumption) rfl) rfl ?_ | refine r_v (q_pickB rfl rfl rfl) rfl ?_)
            exact r_nil (c_false rfl (c_skip ⟨(), ⟨rfl, rfl, rfl, rfl, trivial⟩, rfl⟩))
        rintro _ w' e rfl
        refine c_exit ⟨m, ⟨rfl, rfl, rfl, rfl, trivial⟩, fun b v hb => ?_, h⟩
        obtain ⟨t, h1, h2⟩ := hm b v hb
        exact ⟨t, by omega, h2⟩
      | some b =>
      have hbm := chMake_len2 hwf hM
      have hopen := chOpen_told hwf (by omega) hM
      rw [show (((k + 1 : Nat) : Int)).toNat = k + 1 from rfl] at hopen
      have hfresh : mget b m = none := by
        cases hg : mget b m with
        | none => rfl
        | some v =>
          obtain ⟨t, h1, h2⟩ := hm b v hg
          have := chMake_tag h2 hM
          omega
      rintro _ w ⟨ba, bc, rfl, h⟩
      replace h : St w0 (OwnB ba bc b :: MapOf (fun b : List UInt8 => Value.string (strB b)) q m :: OwnS sa sc L :: pt bs (.cells s.cells.toArray 25 (0, 0)) :: l) w := h
      show Rn _ _ _ _ _ (upd _ _ (.tuple [.slice ba b.length bc, .bool true].toArray)) _
      refine r_v (q_moveT rfl) rfl ?_; refine r_v (q_ext rfl rfl) rfl ?_; refine r_v (q_ext rfl rfl) rfl ?_; refine r_v (q_assignS rfl) rfl ?_; refine r_v (q_assignB rfl) rfl ?_
      refine r_nil ?_
      refine c_seq (c_seq (c_region ?_))
      refine r_v (q_moveB rfl) rfl ?_; refine r_v (q_not rfl) rfl ?_
      refine r_nil (c_false rfl (c_skip ?_))
      refine c_seq (c_region ?_)
      refine r_v (q_moveS rfl) rfl ?_
      refine r_c rfl (x_call rfl (chnk_Open hT (bs := b) (by omega) h.own_cases.2.1 Reads.own h) ?_)
      rw [hopen]
      rintro _ w ⟨oa, oc, rfl, _, h⟩
      replace h : St w0 (OwnS oa oc L :: OwnB ba bc b :: MapOf (fun b : List UInt8 => Value.string (strB b)) q m :: OwnS sa sc L :: pt bs (.cells s.cells.toArray 25 (0, 0)) :: l) w := h
      show Rn _ _ _ _ _ (upd _ _ (.tuple [.slice oa L.length oc, .int .i64 ((k + 1 : Nat) : Int), .bool true].toArray)) _
      refine r_v (q_moveT rfl) rfl ?_; refine r_v (q_ext rfl rfl) rfl ?_; refine r_v (q_ext rfl rfl) rfl ?_; refine r_v (q_ext rfl rfl) rfl ?_; refine r_v (q_assignS rfl) rfl ?_; refine r_v (q_assignI rfl) rfl ?_; refine r_v (q_assignB rfl) rfl ?_
      refine r_nil ?_
      refine c_seq (c_seq (c_region ?_))
      refine r_v (q_moveB rfl) rfl ?_; refine r_v (q_not rfl) rfl ?_; refine r_v (q_moveB rfl) rfl ?_; (first | refine r_gd rfl rfl ?_ | refine r_gn rfl rfl rfl ?_ | refine r_gu rfl rfl ?_ | refine r_gd rfl (by assumption) ?_ | refine r_gn rfl (by assumption) rfl ?_); refine r_v (q_moveI rfl) rfl ?_; (first | refine r_gd rfl rfl ?_ | refine r_gn rfl rfl rfl ?_ | refine r_gu rfl rfl ?_ | refine r_gd rfl (by assumption) ?_ | refine r_gn rfl (by assumption) rfl ?_); refine r_v (q_moveI rfl) rfl ?_; (first | refine r_gd rfl rfl ?_ | refine r_gn rfl rfl rfl ?_ | refine r_gu rfl rfl ?_ | refine r_gd rfl (by assumption) ?_ | refine r_gn rfl (by assumption) rfl ?_)
      refine r_v (q_is (v' := .bool false) (q_neq rfl rfl) (by simp)) rfl ?_
      (first | refine r_v (q_pick1 rfl rfl rfl) rfl ?_ | refine r_v (q_pick0 rfl rfl rfl) rfl ?_ | refine r_v (q_pick1 rfl (by assumption) rfl) rfl ?_ | refine r_v (q_pick0 rfl (by assumption) rfl) rfl ?_ | refine r_v (q_pickB rfl rfl rfl) rfl ?_); refine r_v (q_moveB rfl) rfl ?_; (first | refine r_gd rfl rfl ?_ | refine r_gn rfl rfl rfl ?_ | refine r_gu rfl rfl ?_ | refine r_gd rfl (by assumption) ?_ | refine r_gn rfl (by assumption) rfl ?_); refine r_v (q_moveS rfl) rfl ?_; (first | refine r_gd rfl rfl ?_ | refine r_gn rfl rfl rfl ?_ | refine r_gu rfl rfl ?_ | refine r_gd rfl (by assumption) ?_ | refine r_gn rfl (by assumption) rfl ?_); refine r_v (q_moveS rfl) rfl ?_; (first | refine r_gd rfl rfl ?_ | refine r_gn rfl rfl rfl ?_ | refine r_gu rfl rfl ?_ | refine r_gd rfl (by assumption) ?_ | refine r_gn rfl (by assumption) rfl ?_)
      refine r_c rfl (x_call rfl (ref10_Same (L1 := L) (L2 := L) h (fun w' h' => h'.own_rd) (fun w' h' => (h'.f 3).own_rd) (by omega)) ?_)
      rintro _ w ⟨rfl, h⟩
      rw [show decide (L = L) = true by simp]
      (first | refine r_gd rfl rfl ?_ | refine r_gn rfl rfl rfl ?_ | refine r_gu rfl rfl ?_ | refine r_gd rfl (by assumption) ?_ | refine r_gn rfl (by assumption) rfl ?_); refine r_v (q_not rfl) rfl ?_; (first | refine r_v (q_pick1 rfl rfl rfl) rfl ?_ | refine r_v (q_pick0 rfl rfl rfl) rfl ?_ | refine r_v (q_pick1 rfl (by assumption) rfl) rfl ?_ | refine r_v (q_pick0 rfl (by assumption) rfl) rfl ?_ | refine r_v (q_pickB rfl rfl rfl) rfl ?_); refine r_v (q_moveB rfl) rfl ?_; (first | refine r_gd rfl rfl ?_ | refine r_gn rfl rfl rfl ?_ | refine r_gu rfl rfl ?_ | refine r_gd rfl (by assumption) ?_ | refine r_gn rfl (by assumption) rfl ?_); refine r_v (q_moveM rfl) rfl ?_; (first | refine r_gd rfl rfl ?_ | refine r_gn rfl rfl rfl ?_ | refine r_gu rfl rfl ?_ | refine r_gd rfl (by assumption) ?_ | refine r_gn rfl (by assumption) rfl ?_); refine r_v (q_moveS rfl) rfl ?_; (first | refine r_gd rfl rfl ?_ | refine r_gn rfl rfl rfl ?_ | refine r_gu rfl rfl ?_ | refine r_gd rfl (by assumption) ?_ | refine r_gn rfl (by assumption) rfl ?_)
      refine r_v (q_btos (bs := b) rfl (h.f 1).own_rd) rfl ?_
      refine r_gd rfl rfl ?_
      refine r_v (q_is (v' := .bool false) (q_lookup1 (k := b) rfl rfl (h.f 2).isMap) (by rw [hfresh]; rfl)) rfl ?_
      (first | refine r_v (q_pick1 rfl rfl rfl) rfl ?_ | refine r_v (q_pick0 rfl rfl rfl) rfl ?_ | refine r_v (q_pick1 rfl (by assumption) rfl) rfl ?_ | refine r_v (q_pick0 rfl (by assumption) rfl) rfl ?_ | refine r_v (q_pickB rfl rfl rfl) rfl ?_)
      refine r_nil (c_false rfl (c_skip ?_))
      replace h := h.drop
      refine c_seq (c_region ?_)
      refine r_v (q_moveM rfl) rfl ?_; refine r_v (q_moveS rfl) rfl ?_
      refine r_v (q_btos (bs := b) rfl h.own_rd) rfl ?_
      refine r_c rfl (x_mapset (k := b) (v := .bool true) (h.f 1) rfl rfl rfl fun w h => ?_)
      replace h := (h.f 1).drop
      have hm' : ∀ b' v, mget b' (mset b (.bool true) m) = some v → ∃ t : Nat, t ≤ k + 1 ∧ chMake (t : Int) L = some b' := fun b' v hb => by
        rw [mget_mset] at hb
        split at hb
        · rename_i hbb; exact ⟨k + 1, Nat.le_refl _, by rw [hbb]; exact hM⟩
        · obtain ⟨t, h1, h2⟩ := hm b' v hb
          exact ⟨t, by omega, h2⟩
      generalize mset b (.bool true) m = m' at h hm'
      refine r_nil ?_
      refine c_seq (c_region ?_)
      refine r_v (q_moveI rfl) rfl ?_
      refine r_v (q_loadS (l := s.cells) rfl rfl (at_of (h.b 2 rfl) rfl)) rfl ?_
      refine r_c rfl (x_bslice (r := smpsV [s]) h rfl rfl rfl fun b1 w h => ?_)
      have h1w : ∀ x ∈ [s], x.Wf := fun x hx => by simp at hx; subst hx; exact hsw
      refine r_c rfl (x_call rfl (chnk_Make hT ((k + 1 : Nat) : Int) (L := [s]) h1w (by simp) (Reads.pt (m := 0) rfl rfl) h) ?_)
      cases hM1 : chMake ((k + 1 : Nat) : Int) [s] with
      | none =>
        have hk2 : k + 1 = 2 := by
          by_cases h2 : k + 1 = 2
          · exact h2
          · obtain ⟨b, hb⟩ := one_can (s := s) (tag := ((k + 1 : Nat) : Int)) (by omega) (by omega) (by omega)
            rw [hb] at hM1; cases hM1
        rintro _ w ⟨ca, cc, rfl, h⟩
        show Rn _ _ _ _ _ (upd _ _ (.tuple [.slice ca ([] : List UInt8).length cc, .bool false].toArray)) _
        refine r_v (q_moveT rfl) rfl ?_; refine r_v (q_ext rfl rfl) rfl ?_; refine r_v (q_ext rfl rfl) rfl ?_; refine r_v (q_assignS rfl) rfl ?_; refine r_v (q_assignB rfl) rfl ?_
        refine r_nil ?_
        refine c_seq (c_region ?_)
        refine r_v (q_moveS rfl) rfl ?_
        refine r_c rfl (x_call rfl (chnk_Head (bs := []) (by simp) (Nat.zero_le _) Reads.own h) ?_)
        rintro _ w ⟨rfl, h⟩
        show Rn _ _ _ _ _ (upd _ _ (.tuple [.agg hdZ.toArray, .bool false].toArray)) _
        refine r_v (q_moveT rfl) rfl ?_; refine r_v (q_ext rfl rfl) rfl ?_; refine r_v (q_ext rfl rfl) rfl ?_
        refine r_c rfl (x_alloc h fun b19 w h => ?_)
        refine r_c rfl (x_storeA (vs := hdZ) 0 h rfl rfl rfl rfl rfl rfl rfl fun w h => ?_)
        replace h := h.drop.drop.drop
        refine r_v (q_assignB rfl) rfl ?_
        refine r_nil ?_
        refine c_seq (c_region ?_)
        refine r_v (q_moveB rfl) rfl ?_; refine r_v (q_moveB rfl) rfl ?_; (first | refine r_gd rfl rfl ?_ | refine r_gn rfl rfl rfl ?_ | refine r_gu rfl rfl ?_ | refine r_gd rfl (by assumption) ?_ | refine r_gn rfl (by assumption) rfl ?_); (first | refine r_gd rfl rfl ?_ | refine r_gn rfl rfl rfl ?_ | refine r_gu rfl rfl ?_ | refine r_gd rfl (by assumption) ?_ | refine r_gn rfl (by assumption) rfl ?_); (first | refine r_gd rfl rfl ?_ | refine r_gn rfl rfl rfl ?_ | refine r_gu rfl rfl ?_ | refine r_gd rfl (by assumption) ?_ | refine r_gn rfl (by assumption) rfl ?_); (first | refine r_gd rfl rfl ?_ | refine r_gn rfl rfl rfl ?_ | refine r_gu rfl rfl ?_ | refine r_gd rfl (by assumption) ?_ | refine r_gn rfl (by assumption) rfl ?_); (first | refine r_gd rfl rfl ?_ | refine r_gn rfl rfl rfl ?_ | refine r_gu rfl rfl ?_ | refine r_gd rfl (by assumption) ?_ | refine r_gn rfl (by assumption) rfl ?_); (first | refine r_gd rfl rfl ?_ | refine r_gn rfl rfl rfl ?_ | refine r_gu rfl rfl ?_ | refine r_gd rfl (by assumption) ?_ | refine r_gn rfl (by assumption) rfl ?_); (first | refine r_gd rfl rfl ?_ | refine r_gn rfl rfl rfl ?_ | refine r_gu rfl rfl ?_ | refine r_gd rfl (by assumption) ?_ | refine r_gn rfl (by assumption) rfl ?_); (first | refine r_gd rfl rfl ?_ | refine r_gn rfl rfl rfl ?_ | refine r_gu rfl rfl ?_ | refine r_gd rfl (by assumption) ?_ | refine r_gn rfl (by assumption) rfl ?_); (first | refine r_gd rfl rfl ?_ | refine r_gn rfl rfl rfl ?_ | refine r_gu rfl rfl ?_ | refine r_gd rfl (by assumption) ?_ | refine r_gn rfl (by assumption) rfl ?_); (first | refine r_gd rfl rfl ?_ | refine r_gn rfl rfl rfl ?_ | refine r_gu rfl rfl ?_ | refine r_gd rfl (by assumption) ?_ | refine r_gn rfl (by assumption) rfl ?_); (first | refine r_gd rfl rfl ?_ | refine r_gn rfl rfl rfl ?_ | refine r_gu rfl rfl ?_ | refine r_gd rfl (by assumption) ?_ | refine r_gn rfl (by assumption) rfl ?_); (first | refine r_gd rfl rfl ?_ | refine r_gn rfl rfl rfl ?_ | refine r_gu rfl rfl ?_ | refine r_gd rfl (by assumption) ?_ | refine r_gn rfl (by assumption) rfl ?_); (first | refine r_v (q_pick1 rfl rfl rfl) rfl ?_ | refine r_v (q_pick0 rfl rfl rfl) rfl ?_ | refine r_v (q_pick1 rfl (by assumption) rfl) rfl ?_ | refine r_v (q_pick0 rfl (by assumption) rfl) rfl ?_ | refine r_v (q_pickB rfl rfl rfl) rfl ?_); refine r_v (q_moveB rfl) rfl ?_; (first | refine r_gd rfl rfl ?_ | refine r_gn rfl rfl rfl ?_ | refine r_gu rfl rfl ?_ | refine r_gd rfl (by assumption) ?_ | refine r_gn rfl (by assumption) rfl ?_); refine r_v (q_moveB rfl) rfl ?_; (first | refine r_gd rfl rfl ?_ | refine r_gn rfl rfl rfl ?_ | refine r_gu rfl rfl ?_ | refine r_gd rfl (by assumption) ?_ | refine r_gn rfl (by assumption) rfl ?_); refine r_v (q_not rfl) rfl ?_; (first | refine r_gd rfl rfl ?_ | refine r_gn rfl rfl rfl ?_ | refine r_gu rfl rfl ?_ | refine r_gd rfl (by assumption) ?_ | refine r_gn rfl (by assumption) rfl ?_); refine r_v (q_moveB rfl) rfl ?_; (first | refine r_gd rfl rfl ?_ | refine r_gn rfl rfl rfl ?_ | refine r_gu rfl rfl ?_ | refine r_gd rfl (by assumption) ?_ | refine r_gn rfl (by assumption) rfl ?_); refine r_v (q_moveI rfl) rfl ?_; (first | refine r_gd rfl rfl ?_ | refine r_gn rfl rfl rfl ?_ | refine r_gu rfl rfl ?_ | refine r_gd rfl (by assumption) ?_ | refine r_gn rfl (by assumption) rfl ?_)
        refine r_v (q_is (v' := .bool false) (q_neq rfl rfl) (by rw [hk2]; rfl)) rfl ?_
        (first | refine r_gd rfl rfl ?_ | refine r_gn rfl rfl rfl ?_ | refine r_gu rfl rfl ?_ | refine r_gd rfl (by assumption) ?_ | refine r_gn rfl (by assumption) rfl ?_); (first | refine r_v (q_pick1 rfl rfl rfl) rfl ?_ | refine r_v (q_pick0 rfl rfl rfl) rfl ?_ | refine r_v (q_pick1 rfl (by assumption) rfl) rfl ?_ | refine r_v (q_pick0 rfl (by assumption) rfl) rfl ?_ | refine r_v (q_pickB rfl rfl rfl) rfl ?_); (first | refine r_v (q_pick1 rfl rfl rfl) rfl ?_ | refine r_v (q_pick0 rfl rfl rfl) rfl ?_ | refine r_v (q_pick1 rfl (by assumption) rfl) rfl ?_ | refine r_v (q_pick0 rfl (by assumption) rfl) rfl ?_ | refine r_v (q_pickB rfl rfl rfl) rfl ?_)
        refine r_nil (c_false rfl (c_skip ?_))
        exact ⟨m', ⟨rfl, rfl, rfl, rfl, trivial⟩, hm', h⟩
      | some c =>
      have hcm := chMake_len2 h1w hM1
      obtain ⟨x, hxe, hLn, hbe⟩ := chMake_some hM1
      have hhead : headDec c = some (⟨k + 1, 1, s.T, s.T⟩, x ++ be4 (crc (chBody ((k + 1 : Nat) : Int) [s] x))) := by
        have := headDec_told h1w hLn hxe (x ++ be4 (crc (chBody ((k + 1 : Nat) : Int) [s] x)))
        have hb' : c = UInt8.ofNat (((k + 1 : Nat) : Int)).toNat :: ((chNums [s]).flatMap vput ++ (x ++ be4 (crc (chBody ((k + 1 : Nat) : Int) [s] x)))) := by
          rw [hbe]; unfold chBody; simp
        rw [← hb'] at this
        exact this
      rintro _ w ⟨ca, cc, rfl, h⟩
      replace h : St w0 (OwnB ca cc c :: pt b1 _ :: _ :: _ :: _ :: l) w := h
      show Rn _ _ _ _ _ (upd _ _ (.tuple [.slice ca c.length cc, .bool true].toArray)) _
      refine r_v (q_moveT rfl) rfl ?_; refine r_v (q_ext rfl rfl) rfl ?_; refine r_v (q_ext rfl rfl) rfl ?_; refine r_v (q_assignS rfl) rfl ?_; refine r_v (q_assignB rfl) rfl ?_
      refine r_nil ?_
      refine c_seq (c_region ?_)
      refine r_v (q_moveS rfl) rfl ?_
      refine r_c rfl (x_call rfl (chnk_Head (bs := c) (by omega) h.own_cases.2.1 Reads.own h) ?_)
      rw [hhead]
      rintro _ w ⟨rfl, h⟩
      replace h := h.drop.drop
      show Rn _ _ _ _ _ (upd _ _ (.tuple [.agg (hdC ⟨k + 1, 1, s.T, s.T⟩).toArray, .bool true].toArray)) _
      refine r_v (q_moveT rfl) rfl ?_; refine r_v (q_ext rfl rfl) rfl ?_; refine r_v (q_ext rfl rfl) rfl ?_
      refine r_c rfl (x_alloc h fun b19 w h => ?_)
      refine r_c rfl (x_storeA (vs := hdC ⟨k + 1, 1, s.T, s.T⟩) 0 h rfl rfl rfl rfl rfl rfl rfl fun w h => ?_)
      replace h : St w0 (pt b19 (.cells (hdC ⟨k + 1, 1, s.T, s.T⟩).toArray 46 (0, 0)) :: MapOf (fun b : List UInt8 => Value.string (strB b)) q m' :: OwnS sa sc L :: pt bs (.cells s.cells.toArray 25 (0, 0)) :: l) w := h
      refine r_v (q_assignB rfl) rfl ?_
      refine r_nil ?_
      refine c_seq (c_region ?_)
      refine r_v (q_moveB rfl) rfl ?_; refine r_v (q_moveB rfl) rfl ?_; (first | refine r_gd rfl rfl ?_ | refine r_gn rfl rfl rfl ?_ | refine r_gu rfl rfl ?_ | refine r_gd rfl (by assumption) ?_ | refine r_gn rfl (by assumption) rfl ?_); refine r_v (q_moveB rfl) rfl ?_; (first | refine r_gd rfl rfl ?_ | refine r_gn rfl rfl rfl ?_ | refine r_gu rfl rfl ?_ | refine r_gd rfl (by assumption) ?_ | refine r_gn rfl (by assumption) rfl ?_); refine r_v (q_not rfl) rfl ?_; (first | refine r_gd rfl rfl ?_ | refine r_gn rfl rfl rfl ?_ | refine r_gu rfl rfl ?_ | refine r_gd rfl (by assumption) ?_ | refine r_gn rfl (by assumption) rfl ?_); refine r_v (q_moveB rfl) rfl ?_; (first | refine r_gd rfl rfl ?_ | refine r_gn rfl rfl rfl ?_ | refine r_gu rfl rfl ?_ | refine r_gd rfl (by assumption) ?_ | refine r_gn rfl (by assumption) rfl ?_)
      refine r_v (q_loadS (l := hdC ⟨k + 1, 1, s.T, s.T⟩) rfl rfl (at_of (h.b 0 rfl) rfl)) rfl ?_
      (first | refine r_gd rfl rfl ?_ | refine r_gn rfl rfl rfl ?_ | refine r_gu rfl rfl ?_ | refine r_gd rfl (by assumption) ?_ | refine r_gn rfl (by assumption) rfl ?_); refine r_v (q_moveI rfl) rfl ?_; (first | refine r_gd rfl rfl ?_ | refine r_gn rfl rfl rfl ?_ | refine r_gu rfl rfl ?_ | refine r_gd rfl (by assumption) ?_ | refine r_gn rfl (by assumption) rfl ?_); refine r_v (q_fa rfl) rfl ?_; (first | refine r_gd rfl rfl ?_ | refine r_gn rfl rfl rfl ?_ | refine r_gu rfl rfl ?_ | refine r_gd rfl (by assumption) ?_ | refine r_gn rfl (by assumption) rfl ?_)
      refine r_v (q_load (v := .int .i64 s.T) rfl (h.b 3 rfl) rfl) rfl ?_
      (first | refine r_gd rfl rfl ?_ | refine r_gn rfl rfl rfl ?_ | refine r_gu rfl rfl ?_ | refine r_gd rfl (by assumption) ?_ | refine r_gn rfl (by assumption) rfl ?_); refine r_v (q_fa rfl) rfl ?_; (first | refine r_gd rfl rfl ?_ | refine r_gn rfl rfl rfl ?_ | refine r_gu rfl rfl ?_ | refine r_gd rfl (by assumption) ?_ | refine r_gn rfl (by assumption) rfl ?_)
      refine r_v (q_load (v := .int .i64 s.T) rfl (h.b 3 rfl) rfl) rfl ?_
      refine r_gd rfl rfl ?_
      refine r_v (q_build (r := hdC ⟨k + 1, 1, s.T, s.T⟩) rfl) rfl ?_
      refine r_gd rfl rfl ?_
      refine r_v (q_is (v' := .bool false) (q_neI [((k + 1 : Nat) : Int), 1, s.T, s.T] [((k + 1 : Nat) : Int), 1, s.T, s.T] rfl rfl rfl rfl) (by rw [beq_self_eq_true]; rfl)) rfl ?_
      (first | refine r_gd rfl rfl ?_ | refine r_gn rfl rfl rfl ?_ | refine r_gu rfl rfl ?_ | refine r_gd rfl (by assumption) ?_ | refine r_gn rfl (by assumption) rfl ?_); (first | refine r_v (q_pick1 rfl rfl rfl) rfl ?_ | refine r_v (q_pick0 rfl rfl rfl) rfl ?_ | refine r_v (q_pick1 rfl (by assumption) rfl) rfl ?_ | refine r_v (q_pick0 rfl (by assumption) rfl) rfl ?_ | refine r_v (q_pickB rfl rfl rfl) rfl ?_); (first | refine r_v (q_pick1 rfl rfl rfl) rfl ?_ | refine r_v (q_pick0 rfl rfl rfl) rfl ?_ | refine r_v (q_pick1 rfl (by assumption) rfl) rfl ?_ | refine r_v (q_pick0 rfl (by assumption) rfl) rfl ?_ | refine r_v (q_pickB rfl rfl rfl) rfl ?_); refine r_v (q_moveB rfl) rfl ?_; (first | refine r_gd rfl rfl ?_ | refine r_gn rfl rfl rfl ?_ | refine r_gu rfl rfl ?_ | refine r_gd rfl (by assumption) ?_ | refine r_gn rfl (by assumption) rfl ?_); refine r_v (q_moveB rfl) rfl ?_; (first | refine r_gd rfl rfl ?_ | refine r_gn rfl rfl rfl ?_ | refine r_gu rfl rfl ?_ | refine r_gd rfl (by assumption) ?_ | refine r_gn rfl (by assumption) rfl ?_); refine r_v (q_not rfl) rfl ?_; (first | refine r_gd rfl rfl ?_ | refine r_gn rfl rfl rfl ?_ | refine r_gu rfl rfl ?_ | refine r_gd rfl (by assumption) ?_ | refine r_gn rfl (by assumption) rfl ?_); refine r_v (q_moveB rfl) rfl ?_; (first | refine r_gd rfl rfl ?_ | refine r_gn rfl rfl rfl ?_ | refine r_gu rfl rfl ?_ | refine r_gd rfl (by assumption) ?_ | refine r_gn rfl (by assumption) rfl ?_); (first | refine r_gd rfl rfl ?_ | refine r_gn rfl rfl rfl ?_ | refine r_gu rfl rfl ?_ | refine r_gd rfl (by assumption) ?_ | refine r_gn rfl (by assumption) rfl ?_); (first | refine r_gd rfl rfl ?_ | refine r_gn rfl rfl rfl ?_ | refine r_gu rfl rfl ?_ | refine r_gd rfl (by assumption) ?_ | refine r_gn rfl (by assumption) rfl ?_); (first | refine r_v (q_pick1 rfl rfl rfl) rfl ?_ | refine r_v (q_pick0 rfl rfl rfl) rfl ?_ | refine r_v (q_pick1 rfl (by assumption) rfl) rfl ?_ | refine r_v (q_pick0 rfl (by assumption) rfl) rfl ?_ | refine r_v (q_pickB rfl rfl rfl) rfl ?_); (first | refine r_v (q_pick1 rfl rfl rfl) rfl ?_ | refine r_v (q_pick0 rfl rfl rfl) rfl ?_ | refine r_v (q_pick1 rfl (by assumption) rfl) rfl ?_ | refine r_v (q_pick0 rfl (by assumption) rfl) rfl ?_ | refine r_v (q_pickB rfl rfl rfl) rfl ?_)
      refine r_nil (c_false rfl (c_skip ?_))
      exact ⟨m', ⟨rfl, rfl, rfl, rfl, trivial⟩, hm', h.drop⟩
    clear h hm
    rintro m' w e ⟨hm, h⟩
    refine c_region ?_
    refine r_v (q_moveI rfl) rfl ?_; refine r_v (q_add rfl rfl) rfl ?_
    refine r_is (.int .i64 ((k + 1 + 1 : Nat) : Int)) (by rw [wrap64 (by omega) (by omega)]; rfl) ?_
    refine r_v (q_assignI rfl) rfl ?_
    exact r_nil ⟨(k + 1, m'), ⟨rfl, rfl, rfl, rfl, trivial⟩, ⟨hlt, hm, h⟩, by dsimp only; omega⟩
  refine r_is (.bool false) (by simp; omega) ?_
  refine r_nil (c_false rfl ?_)
  refine c_exit ?_
  refine c_seq (c_region ?_)
  refine r_c rfl (x_call rfl (law11_awake hT h) ?_)
  rintro _ w ⟨rfl, h⟩
  refine r_v (q_assignB rfl) rfl ?_
  refine r_nil ?_
  exact c_ret (bq1 ⟨rfl, h.drop.drop.drop⟩)
end
end Go.Proofs.YtjjacchnalemaaaDoor
