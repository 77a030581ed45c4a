/- For all arguments 'ephemerislaw20.TakeLeaves' returns true, and they read as they read before. Conditions: none of ours; the listed table starts as the program's own initialiser lays it (tied). -/
import Derived.Test.YtnnehiiblfmpnaaGreatDoorRows
import Derived.Test.YtnnehiiblfmpnaaGreatDoorTie
import Derived.Test.YtnnehiiblfmpnaaGreatDoorCards
import Derived.ProofKit
import Derived.LaidMore
import Derived.Stop.Joined
import Derived.SevenTiedAt
import Derived.Test.YtnnehiiblfmpnaaGreatDoorQTakeLeavesf
set_option linter.unusedVariables false
set_option linter.unusedSimpArgs false
namespace Go.Proofs.YtnnehiiblfmpnaaGreatDoor.takeLeaves
open Go.Hw Go.ChangeShapes Go.WideShapes Go.ChangeAt Go.RowKit
set_option maxRecDepth 100000

theorem own : ownKnob Tryz.prog.godebug = none := by kernel_rfl
theorem laidOut : laidOutB Tryz.prog = true := by kernel_rfl
/-- The door's own heap meets the condition: three closed facts. -/
theorem door_met (os : Os) (args : Array Value) : laidMetH Tryz.prog Rows.takeLeavesRow.laid ((World.doorLaid Tryz.prog 14 os).forCall (fun _ _ => 0) ⟨#[], args, []⟩).memory :=
  laidMetH_of_parts3 (fuel := 8) (laidMet_of_run' 8 (by kernel_rfl) (by kernel_rfl)) (by kernel_rfl) (by kernel_rfl)

theorem lifted (os : Os) (started : os.Started) (H : Type) (enc : TypeId × Value → H) :
    ReturnsInHanded {} Tryz.checked os 9 .any (fun w args => (Rows.takeLeavesSpec.pre enc Tryz.prog Tryz.f9 [] false w args ∧ laidMetH Tryz.prog Rows.takeLeavesRow.laid w) ∧ sizedMet enc Tryz.prog Tryz.f9 (OpenSpec.ofChange Rows.takeLeavesSpec) false w args)
      (Rows.takeLeavesSpec.post enc Tryz.prog Tryz.f9 false true false false) := by
  refine returnsInHanded_of_change_and (C := Tryz.checked) (X := fun w _ => laidMetH Tryz.prog Rows.takeLeavesRow.laid w) (fun _ _ _ hh h => h.of_heap hh) own started (by kernel_rfl) Tryz.func9
    (ChangeSpec.witness_shaped (enc := enc) (C := Tryz.checked) (os := os) (X := fun w _ => laidMetH Tryz.prog Rows.takeLeavesRow.laid w) false (World.doorLaid Tryz.prog 14 os) #[.slice none 0 0, .slice none 0 0, .int .i64 0, .int .i64 0, .slice none 0 0] 8 rfl (World.shaped_of_RefB (by kernel_rfl) (by kernel_rfl)) (by kernel_rfl) (by kernel_rfl) (by kernel_rfl) (door_met os _)) ?_
  intro W base args ds gs before hval hW _ hsz hL _
  have hT := tz_of_laid hL
  refine law_contract (ts := [46, 47, 3, 3, 38]) (tb := 4) laidOut (by rw [Tryz.params9]) rfl Tryz.underlying4 (by kernel_rfl) rfl (fun ds h => by match ds, h with | [_, _, _, _, _], _ => rfl) hW ?_
  rintro ⟨ps, hA, hlt⟩
  rw [Tryz.params9] at hval
  obtain ⟨v0, vs0, d0, ds0, p0, q0, hargs, rfl, rfl, h0, t0⟩ := trodAll_cons hA
  obtain ⟨v1, vs1, d1, ds1, p1, q1, rfl, rfl, rfl, h1, t1⟩ := trodAll_cons t0
  obtain ⟨v2, vs2, d2, ds2, p2, q2, rfl, rfl, rfl, h2, t2⟩ := trodAll_cons t1
  obtain ⟨v3, vs3, d3, ds3, p3, q3, rfl, rfl, rfl, h3, t3⟩ := trodAll_cons t2
  obtain ⟨v4, vs4, d4, ds4, p4, q4, rfl, rfl, rfl, h4, t4⟩ := trodAll_cons t3
  obtain ⟨rfl, rfl, rfl⟩ := trodAll_nil t4
  obtain rfl : args = #[v0, v1, v2, v3, v4] := by cases args; simp_all
  obtain ⟨s0, c0, xs0, rfl, l0, w0, r0⟩ := arg_i64s Tryz.underlying46 Tryz.underlying3 (by kernel_rfl) (hval 0 _ _ rfl rfl) h0 (fun x hx => hlt x (by simp [hx]))
  obtain ⟨s1, c1, xs1, rfl, l1, w1, r1⟩ := arg_u64s Tryz.underlying47 Tryz.underlying30 (by kernel_rfl) (hval 1 _ _ rfl rfl) h1 (fun x hx => hlt x (by simp [hx]))
  obtain ⟨a2, rfl, rfl, rfl, w2⟩ := open_int Tryz.underlying3 (hval 2 _ _ rfl rfl) h2
  obtain ⟨a3, rfl, rfl, rfl, w3⟩ := open_int Tryz.underlying3 (hval 3 _ _ rfl rfl) h3
  obtain ⟨s4, c4, xs4, rfl, l4, w4, r4⟩ := arg_bytesC Tryz.underlying38 Tryz.underlying5 (by kernel_rfl) (hval 4 _ _ rfl rfl) h4 (fun x hx => hlt x (by simp [hx]))
  exact law20_TakeLeaves hT a2 w0 l0 r0 w1 l1 r1 a3 l4 w4 r4 (St.init W)
end Go.Proofs.YtnnehiiblfmpnaaGreatDoor.takeLeaves
namespace Go.Proofs.YtnnehiiblfmpnaaGreatDoor
theorem takeLeaves_jf0 : (Rows.takeLeavesRow.wf (OpenSpec.ofChange Rows.takeLeavesSpec)) = true := by kernel_rfl
theorem takeLeaves_jf1 : (laidOutB Tryz.prog) = true := by kernel_rfl
theorem takeLeaves_jf2 : (mapsRowed Tryz.prog) = true := by kernel_rfl
theorem takeLeaves_jf3 : (Tryz.f9.params.all (Tryz.prog.readableRec ·)) = true := by kernel_rfl
theorem takeLeaves_jf4 : (namedTie Tryz.prog Rows.takeLeavesRow.named Rows.takeLeavesSpec.vars) = true := by kernel_rfl
theorem takeLeaves_jf5 : (Rows.takeLeavesRow.stops == []) = true := by kernel_rfl
theorem takeLeaves_jf6 : (Tryz.prog.stops == []) = true := by kernel_rfl
theorem takeLeaves_jf7 : (Rows.takeLeavesRow.knobs == []) = true := by kernel_rfl
theorem takeLeaves_jf8 : (Tryz.prog.stopKnobs == []) = true := by kernel_rfl
theorem takeLeaves_jf9 : (Rows.takeLeavesRow.inPlace == Tryz.prog.inPlace 9) = true := by kernel_rfl
theorem takeLeaves_jf10 : (Rows.takeLeavesRow.unfollowed == Tryz.prog.unfollowed 9) = true := by kernel_rfl
theorem takeLeaves_jf11 : (Rows.takeLeavesRow.recurses == Tryz.prog.recurses 9) = true := by kernel_rfl
theorem takeLeaves_jf12 : (Rows.takeLeavesRow.named == Tryz.prog.varsNamed 9) = true := by kernel_rfl
theorem takeLeaves_jf13 : (Rows.takeLeavesRow.maps == (Tryz.f9.params.toList ++ Rows.takeLeavesSpec.plain.varTypes Tryz.prog).any (Tryz.prog.mapsRec ·)) = true := by kernel_rfl
theorem takeLeaves_jf14 : (Rows.takeLeavesRow.ifaces == (Tryz.f9.params.toList ++ Rows.takeLeavesSpec.plain.varTypes Tryz.prog).any (Tryz.prog.ifacesRec ·)) = true := by kernel_rfl
theorem takeLeaves_jf15 : (Rows.takeLeavesRow.mapsOut == Tryz.prog.mapsAmong Tryz.f9.resultTypes.toList) = true := by kernel_rfl
theorem takeLeaves_jf16 : (Rows.takeLeavesRow.loops == (Tryz.f9.params.toList ++ Rows.takeLeavesSpec.plain.varTypes Tryz.prog).any (Tryz.prog.loopsFrom ·)) = true := by kernel_rfl
theorem takeLeaves_jf17 : (Rows.takeLeavesRow.wideKeys == (Tryz.f9.params.toList ++ Rows.takeLeavesSpec.plain.varTypes Tryz.prog ++ Tryz.f9.resultTypes.toList).any (Tryz.prog.wideKeysFrom ·)) = true := by kernel_rfl
theorem takeLeaves_jf18 : (Rows.takeLeavesSpec.vars.all (Tryz.prog.varReadable ·)) = true := by kernel_rfl
theorem takeLeaves_jf19 : (Tryz.f9.resultTypes.all (fun t => Tryz.prog.readableRec t && decide (t < Tryz.prog.types.size))) = true := by kernel_rfl
theorem takeLeaves_jf20 : (Rows.takeLeavesRow.ifacesOut == Tryz.f9.resultTypes.toList.any (Tryz.prog.ifacesRec ·)) = true := by kernel_rfl
theorem takeLeaves_jf21 : (Rows.takeLeavesRow.loopsOut == Tryz.f9.resultTypes.toList.any (Tryz.prog.loopsFrom ·)) = true := by kernel_rfl
theorem takeLeaves_jf22 : (Rows.takeLeavesRow.plainKeys == Tryz.prog.plainKeys) = true := by kernel_rfl
theorem takeLeaves_jf23 : (Rows.takeLeavesRow.shortTexts.isNone) = true := by kernel_rfl
theorem takeLeaves_jf24 : (Tryz.prog.stopsHeard) = true := by kernel_rfl
theorem takeLeaves_jf25 : (Tryz.prog.mayEnter) = true := by kernel_rfl
theorem takeLeaves_jf26 : (Rows.takeLeavesRow.lifted == Tryz.prog.liftsFinal) = true := by kernel_rfl
theorem takeLeaves_jf27 : (Tryz.prog.make == some Rows.takeLeavesRow.make) = true := by kernel_rfl
theorem takeLeaves_jf29 : (Rows.takeLeavesRow.pinned == Rows.takeLeavesRow.pinnedBy) = true := by kernel_rfl
theorem takeLeaves_jf30 : (Rows.takeLeavesRow.veiled == (Tryz.f9.params.toList ++ Rows.takeLeavesSpec.plain.varTypes Tryz.prog ++ Tryz.f9.resultTypes.toList).any (Tryz.prog.veiledRec ·)) = true := by kernel_rfl
theorem takeLeaves_jf31 : (Rows.takeLeavesRow.veiledFits Tryz.prog Tryz.f9.params.toList (Tryz.f9.params.toList ++ Rows.takeLeavesSpec.plain.varTypes Tryz.prog ++ Tryz.f9.resultTypes.toList)) = true := by kernel_rfl
theorem takeLeaves_closed : joinedFacts Tryz.prog 9 Tryz.f9 Rows.takeLeavesSpec Rows.takeLeavesRow = true := by
  unfold joinedFacts
  simp only [Bool.and_eq_true]
  exact ⟨⟨⟨⟨⟨⟨⟨⟨⟨⟨⟨⟨⟨⟨⟨⟨⟨⟨⟨⟨⟨⟨⟨⟨⟨⟨⟨⟨⟨⟨⟨takeLeaves_jf0, takeLeaves_jf1⟩, takeLeaves_jf2⟩, takeLeaves_jf3⟩, takeLeaves_jf4⟩, takeLeaves_jf5⟩, takeLeaves_jf6⟩, takeLeaves_jf7⟩, takeLeaves_jf8⟩, takeLeaves_jf9⟩, takeLeaves_jf10⟩, takeLeaves_jf11⟩, takeLeaves_jf12⟩, takeLeaves_jf13⟩, takeLeaves_jf14⟩, takeLeaves_jf15⟩, takeLeaves_jf16⟩, takeLeaves_jf17⟩, takeLeaves_jf18⟩, takeLeaves_jf19⟩, takeLeaves_jf20⟩, takeLeaves_jf21⟩, takeLeaves_jf22⟩, takeLeaves_jf23⟩, takeLeaves_jf24⟩, takeLeaves_jf25⟩, takeLeaves_jf26⟩, takeLeaves_jf27⟩, by kernel_rfl⟩, takeLeaves_jf29⟩, takeLeaves_jf30⟩, takeLeaves_jf31⟩
theorem takeLeaves_holds : Rows.TakeLeavesSaid :=
  OpenClaim.holds_of_wide 9 Tryz.f9 rfl rfl rfl rfl rfl rfl rfl ⟨rfl, rfl, rfl, rfl, rfl⟩ rfl rfl rfl rfl rfl (by kernel_rfl) Tryz.func9 takeLeaves_closed
    (of_decide_eq_true (by kernel_rfl)) (by unfold Func.isWrapper; first | (rw [if_pos (by decide +kernel)]; kernel_rfl) | (rw [if_neg (by decide +kernel)]; exact ⟨rfl, rfl⟩))
    (fun os started H enc _ => takeLeaves.lifted os started H enc)
theorem takeLeaves_proved : Rows.TakeLeavesCardSaid :=
  Claim7.holds_tied_plain_at .later [] [.data] true Rows.takeLeavesCard.stood.harness true
    takeLeaves_holds (fun _ h => by cases h) (by kernel_rfl) (fun _ h => by cases h) takeLeaves_row_tie rfl ⟨rfl, rfl⟩ (by kernel_rfl) rfl
    (fun f fn hf hfn => by
      obtain rfl : f = 9 := Option.some.inj ((show Tryz.prog.funcNamed "ephemeris/ephemerislaw20.TakeLeaves" = some 9 by kernel_rfl).symm.trans hf) |>.symm
      obtain rfl : fn = Tryz.f9 := (Option.some.inj (Tryz.func9.symm.trans hfn)).symm
      exact ⟨by kernel_rfl, fun j t ht => by
        rw [Tryz.params9] at ht
        match j, ht with
        | 0, ht => cases ht; decide +kernel
        | 1, ht => cases ht; decide +kernel
        | 2, ht => cases ht; decide +kernel
        | 3, ht => cases ht; decide +kernel
        | 4, ht => cases ht; decide +kernel
        | j + 5, ht => cases ht⟩)
    (by kernel_rfl)
end Go.Proofs.YtnnehiiblfmpnaaGreatDoor
