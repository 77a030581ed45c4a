/- For all arguments 'ephemerislaw27.ReptBack' returns true. Conditions: none of ours; the listed table starts as the program's own initialiser lays it (tied). -/
import Derived.Test.YtnnehiiblfmpnaaGreatDoorRows
import Derived.Test.YtnnehiiblfmpnaaGreatDoorTie
import Derived.Test.YtnnehiiblfmpnaaGreatDoorCards
import Derived.Lay
import Derived.ProofKit
import Derived.LaidMore
import Derived.Stop.Joined
import Derived.SevenTiedAt
import Derived.Test.YtnnehiiblfmpnaaGreatDoorQReptBackd
set_option linter.unusedVariables false
set_option linter.unusedSimpArgs false
namespace Go.Proofs.YtnnehiiblfmpnaaGreatDoor.reptBack
open Go.Hw Go.ChangeShapes Go.WideShapes Go.ChangeAt Go.RowKit
set_option maxRecDepth 100000

theorem own : ownKnob Tryz.prog.godebug = none := by kernel_rfl
theorem laidOut : laidOutB Tryz.prog = true := by kernel_rfl
theorem door_met (os : Os) (args : Array Value) : laidMetH Tryz.prog Rows.reptBackRow.laid ((World.laidAll Tryz.prog os Rows.reptBackRow.laid).forCall (fun _ _ => 0) ⟨#[], args, []⟩).memory := by
  rw [MakeChecks.laidMetH_plain _ _ _ (by kernel_rfl)]; exact laidMet_laidAll _ (by kernel_rfl) (by kernel_rfl)

theorem lifted (os : Os) (started : os.Started) (H : Type) (enc : TypeId × Value → H) :
    ReturnsInHanded {} Tryz.checked os 4 .any (fun w args => (Rows.reptBackSpec.pre enc Tryz.prog Tryz.f4 [] false w args ∧ laidMetH Tryz.prog Rows.reptBackRow.laid w) ∧ sizedMet enc Tryz.prog Tryz.f4 (OpenSpec.ofChange Rows.reptBackSpec) false w args)
      (Rows.reptBackSpec.post enc Tryz.prog Tryz.f4 false true false false) := by
  refine returns_shape (C := Tryz.checked) (X := fun w _ => laidMetH Tryz.prog Rows.reptBackRow.laid w) (fun _ _ _ hh h => h.of_heap hh) own started (by kernel_rfl) Tryz.func4
    (ChangeSpec.witness_shaped (enc := enc) (C := Tryz.checked) (os := os) (X := fun w _ => laidMetH Tryz.prog Rows.reptBackRow.laid w) false (World.laidAll Tryz.prog os Rows.reptBackRow.laid) #[.agg #[.int .i64 0, .int .i64 0, .int .i64 0, .int .i64 0, .int .u64 0, .int .i64 0, .int .i64 0, .int .i64 0], .int .i64 0] 8 (World.laidAll_os _ _ _) (World.shaped_of_ZipB (by kernel_rfl) (by kernel_rfl)) (by kernel_rfl) (by kernel_rfl) (by kernel_rfl) (door_met os _)) ?_
  intro W base args ds gs before hval hW hsz hL hsh
  have hR := rp_of_laid hL hsh
  refine law_contract (ts := [32, 3]) (tb := 4) laidOut (by rw [Tryz.params4]) rfl Tryz.underlying4 (by kernel_rfl) rfl (fun ds h => by match ds, h with | [_, _], _ => rfl) hW ?_
  rintro ⟨ps, hA, hlt⟩
  rw [Tryz.params4] at hval
  obtain ⟨v0, vs0, d0, ds0, p0, q0, hargs, rfl, rfl, h0, t0⟩ := trodAll_cons hA
  obtain ⟨v1, vs1, d1, ds1, p1, q1, rfl, rfl, rfl, h1, t1⟩ := trodAll_cons t0
  obtain ⟨rfl, rfl, rfl⟩ := trodAll_nil t1
  obtain rfl : args = #[v0, v1] := by cases args; simp_all
  obtain ⟨o0, rfl, w0⟩ := arg_op (P := Tryz.prog) (t := 32) (by kernel_rfl) (by kernel_rfl) (hval 0 _ _ rfl rfl) h0
  obtain ⟨a1, rfl, rfl, rfl, w1⟩ := open_int Tryz.underlying3 (hval 1 _ _ rfl rfl) h1
  exact law27_ReptBack hR w0 a1 (St.init W)
end Go.Proofs.YtnnehiiblfmpnaaGreatDoor.reptBack
namespace Go.Proofs.YtnnehiiblfmpnaaGreatDoor
theorem reptBack_jf0 : (Rows.reptBackRow.wf (OpenSpec.ofChange Rows.reptBackSpec)) = true := by kernel_rfl
theorem reptBack_jf1 : (laidOutB Tryz.prog) = true := by kernel_rfl
theorem reptBack_jf2 : (mapsRowed Tryz.prog) = true := by kernel_rfl
theorem reptBack_jf3 : (Tryz.f4.params.all (Tryz.prog.readableRec ·)) = true := by kernel_rfl
theorem reptBack_jf4 : (namedTie Tryz.prog Rows.reptBackRow.named Rows.reptBackSpec.vars) = true := by kernel_rfl
theorem reptBack_jf5 : (Rows.reptBackRow.stops == []) = true := by kernel_rfl
theorem reptBack_jf6 : (Tryz.prog.stops == []) = true := by kernel_rfl
theorem reptBack_jf7 : (Rows.reptBackRow.knobs == []) = true := by kernel_rfl
theorem reptBack_jf8 : (Tryz.prog.stopKnobs == []) = true := by kernel_rfl
theorem reptBack_jf9 : (Rows.reptBackRow.inPlace == Tryz.prog.inPlace 4) = true := by kernel_rfl
theorem reptBack_jf10 : (Rows.reptBackRow.unfollowed == Tryz.prog.unfollowed 4) = true := by kernel_rfl
theorem reptBack_jf11 : (Rows.reptBackRow.recurses == Tryz.prog.recurses 4) = true := by kernel_rfl
theorem reptBack_jf12 : (Rows.reptBackRow.named == Tryz.prog.varsNamed 4) = true := by kernel_rfl
theorem reptBack_jf13 : (Rows.reptBackRow.maps == (Tryz.f4.params.toList ++ Rows.reptBackSpec.plain.varTypes Tryz.prog).any (Tryz.prog.mapsRec ·)) = true := by kernel_rfl
theorem reptBack_jf14 : (Rows.reptBackRow.ifaces == (Tryz.f4.params.toList ++ Rows.reptBackSpec.plain.varTypes Tryz.prog).any (Tryz.prog.ifacesRec ·)) = true := by kernel_rfl
theorem reptBack_jf15 : (Rows.reptBackRow.mapsOut == Tryz.prog.mapsAmong Tryz.f4.resultTypes.toList) = true := by kernel_rfl
theorem reptBack_jf16 : (Rows.reptBackRow.loops == (Tryz.f4.params.toList ++ Rows.reptBackSpec.plain.varTypes Tryz.prog).any (Tryz.prog.loopsFrom ·)) = true := by kernel_rfl
theorem reptBack_jf17 : (Rows.reptBackRow.wideKeys == (Tryz.f4.params.toList ++ Rows.reptBackSpec.plain.varTypes Tryz.prog ++ Tryz.f4.resultTypes.toList).any (Tryz.prog.wideKeysFrom ·)) = true := by kernel_rfl
theorem reptBack_jf18 : (Rows.reptBackSpec.vars.all (Tryz.prog.varReadable ·)) = true := by kernel_rfl
theorem reptBack_jf19 : (Tryz.f4.resultTypes.all (fun t => Tryz.prog.readableRec t && decide (t < Tryz.prog.types.size))) = true := by kernel_rfl
theorem reptBack_jf20 : (Rows.reptBackRow.ifacesOut == Tryz.f4.resultTypes.toList.any (Tryz.prog.ifacesRec ·)) = true := by kernel_rfl
theorem reptBack_jf21 : (Rows.reptBackRow.loopsOut == Tryz.f4.resultTypes.toList.any (Tryz.prog.loopsFrom ·)) = true := by kernel_rfl
theorem reptBack_jf22 : (Rows.reptBackRow.plainKeys == Tryz.prog.plainKeys) = true := by kernel_rfl
theorem reptBack_jf23 : (Rows.reptBackRow.shortTexts.isNone) = true := by kernel_rfl
theorem reptBack_jf24 : (Tryz.prog.stopsHeard) = true := by kernel_rfl
theorem reptBack_jf25 : (Tryz.prog.mayEnter) = true := by kernel_rfl
theorem reptBack_jf26 : (Rows.reptBackRow.lifted == Tryz.prog.liftsFinal) = true := by kernel_rfl
theorem reptBack_jf27 : (Tryz.prog.make == some Rows.reptBackRow.make) = true := by kernel_rfl
theorem reptBack_jf29 : (Rows.reptBackRow.pinned == Rows.reptBackRow.pinnedBy) = true := by kernel_rfl
theorem reptBack_jf30 : (Rows.reptBackRow.veiled == (Tryz.f4.params.toList ++ Rows.reptBackSpec.plain.varTypes Tryz.prog ++ Tryz.f4.resultTypes.toList).any (Tryz.prog.veiledRec ·)) = true := by kernel_rfl
theorem reptBack_jf31 : (Rows.reptBackRow.veiledFits Tryz.prog Tryz.f4.params.toList (Tryz.f4.params.toList ++ Rows.reptBackSpec.plain.varTypes Tryz.prog ++ Tryz.f4.resultTypes.toList)) = true := by kernel_rfl
theorem reptBack_closed : joinedFacts Tryz.prog 4 Tryz.f4 Rows.reptBackSpec Rows.reptBackRow = true := by
  unfold joinedFacts
  simp only [Bool.and_eq_true]
  exact ⟨⟨⟨⟨⟨⟨⟨⟨⟨⟨⟨⟨⟨⟨⟨⟨⟨⟨⟨⟨⟨⟨⟨⟨⟨⟨⟨⟨⟨⟨⟨reptBack_jf0, reptBack_jf1⟩, reptBack_jf2⟩, reptBack_jf3⟩, reptBack_jf4⟩, reptBack_jf5⟩, reptBack_jf6⟩, reptBack_jf7⟩, reptBack_jf8⟩, reptBack_jf9⟩, reptBack_jf10⟩, reptBack_jf11⟩, reptBack_jf12⟩, reptBack_jf13⟩, reptBack_jf14⟩, reptBack_jf15⟩, reptBack_jf16⟩, reptBack_jf17⟩, reptBack_jf18⟩, reptBack_jf19⟩, reptBack_jf20⟩, reptBack_jf21⟩, reptBack_jf22⟩, reptBack_jf23⟩, reptBack_jf24⟩, reptBack_jf25⟩, reptBack_jf26⟩, reptBack_jf27⟩, by kernel_rfl⟩, reptBack_jf29⟩, reptBack_jf30⟩, reptBack_jf31⟩
theorem reptBack_holds : Rows.ReptBackSaid :=
  OpenClaim.holds_of_wide 4 Tryz.f4 rfl rfl rfl rfl rfl rfl rfl ⟨rfl, rfl, rfl, rfl, rfl⟩ rfl rfl rfl rfl rfl (by kernel_rfl) Tryz.func4 reptBack_closed
    (of_decide_eq_true (by kernel_rfl)) (by unfold Func.isWrapper; first | (rw [if_pos (by decide +kernel)]; kernel_rfl) | (rw [if_neg (by decide +kernel)]; exact ⟨rfl, rfl⟩))
    (fun os started H enc _ => reptBack.lifted os started H enc)
theorem reptBack_proved : Rows.ReptBackCardSaid :=
  Claim7.holds_tied_plain_at .later [] [.data, .data, .data, .data, .sentinel, .sentinel, .pinned] true Rows.reptBackCard.stood.harness true
    reptBack_holds (fun _ h => by cases h) (by kernel_rfl) (fun _ h => by cases h) reptBack_row_tie rfl ⟨rfl, rfl⟩ (by kernel_rfl) rfl
    (fun f fn hf hfn => by
      obtain rfl : f = 4 := Option.some.inj ((show Tryz.prog.funcNamed "ephemeris/ephemerislaw27.ReptBack" = some 4 by kernel_rfl).symm.trans hf) |>.symm
      obtain rfl : fn = Tryz.f4 := (Option.some.inj (Tryz.func4.symm.trans hfn)).symm
      exact ⟨by kernel_rfl, fun j t ht => by
        rw [Tryz.params4] at ht
        match j, ht with
        | 0, ht => cases ht; decide +kernel
        | 1, ht => cases ht; decide +kernel
        | j + 2, ht => cases ht⟩)
    (by kernel_rfl)
end Go.Proofs.YtnnehiiblfmpnaaGreatDoor
