/- For all arguments 'ephemerislaw27.ReptResults' returns true. Conditions: none of ours; the listed table starts as the program's own initialiser lays it (tied). -/
import Derived.Test.YtnnehiiblfmpnaaGreatDoorRows
import Derived.Test.YtnnehiiblfmpnaaGreatDoorTie
import Derived.Test.YtnnehiiblfmpnaaGreatDoorCards
import Derived.Lay
import Derived.ProofKit
import Derived.LaidMore
import Derived.Stop.Joined
import Derived.SevenTiedAt
import Derived.Test.YtnnehiiblfmpnaaGreatDoorQReptResultsd
set_option linter.unusedVariables false
set_option linter.unusedSimpArgs false
namespace Go.Proofs.YtnnehiiblfmpnaaGreatDoor.reptResults
open Go.Hw Go.ChangeShapes Go.WideShapes Go.ChangeAt Go.RowKit
set_option maxRecDepth 100000

theorem own : ownKnob Tryz.prog.godebug = none := by kernel_rfl
theorem laidOut : laidOutB Tryz.prog = true := by kernel_rfl
theorem door_met (os : Os) (args : Array Value) : laidMetH Tryz.prog Rows.reptResultsRow.laid ((World.laidAll Tryz.prog os Rows.reptResultsRow.laid).forCall (fun _ _ => 0) ⟨#[], args, []⟩).memory := by
  rw [MakeChecks.laidMetH_plain _ _ _ (by kernel_rfl)]; exact laidMet_laidAll _ (by kernel_rfl) (by kernel_rfl)

theorem lifted (os : Os) (started : os.Started) (H : Type) (enc : TypeId × Value → H) :
    ReturnsInHanded {} Tryz.checked os 3 .any (fun w args => (Rows.reptResultsSpec.pre enc Tryz.prog Tryz.f3 [] false w args ∧ laidMetH Tryz.prog Rows.reptResultsRow.laid w) ∧ sizedMet enc Tryz.prog Tryz.f3 (OpenSpec.ofChange Rows.reptResultsSpec) false w args)
      (Rows.reptResultsSpec.post enc Tryz.prog Tryz.f3 false true false false) := by
  refine returns_shape (C := Tryz.checked) (X := fun w _ => laidMetH Tryz.prog Rows.reptResultsRow.laid w) (fun _ _ _ hh h => h.of_heap hh) own started (by kernel_rfl) Tryz.func3
    (ChangeSpec.witness_shaped (enc := enc) (C := Tryz.checked) (os := os) (X := fun w _ => laidMetH Tryz.prog Rows.reptResultsRow.laid w) false (World.laidAll Tryz.prog os Rows.reptResultsRow.laid) #[.agg #[.int .i64 0, .int .i64 0, .slice none 0 0], .agg #[.int .i64 0, .int .i64 0, .slice none 0 0], .bool false] 8 (World.laidAll_os _ _ _) (World.shaped_of_ZipB (by kernel_rfl) (by kernel_rfl)) (by kernel_rfl) (by kernel_rfl) (by kernel_rfl) (door_met os _)) ?_
  intro W base args ds gs before hval hW hsz hL hsh
  have hR := rp_of_laid hL hsh
  refine law_contract (ts := [25, 25, 4]) (tb := 4) laidOut (by rw [Tryz.params3]) rfl Tryz.underlying4 (by kernel_rfl) rfl (fun ds h => by match ds, h with | [_, _, _], _ => rfl) hW ?_
  rintro ⟨ps, hA, hlt⟩
  rw [Tryz.params3] at hval
  obtain ⟨v0, vs0, d0, ds0, p0, q0, hargs, rfl, rfl, h0, t0⟩ := trodAll_cons hA
  obtain ⟨v1, vs1, d1, ds1, p1, q1, rfl, rfl, rfl, h1, t1⟩ := trodAll_cons t0
  obtain ⟨v2, vs2, d2, ds2, p2, q2, rfl, rfl, rfl, h2, t2⟩ := trodAll_cons t1
  obtain ⟨rfl, rfl, rfl⟩ := trodAll_nil t2
  obtain rfl : args = #[v0, v1, v2] := by cases args; simp_all
  obtain ⟨s0, c0, q0, rfl, w0, r0⟩ := arg_res (P := Tryz.prog) (t := 25) Tryz.underlying25 rfl (by kernel_rfl) (by kernel_rfl) (by kernel_rfl) (by kernel_rfl) Tryz.underlying22 Tryz.underlying3 Tryz.underlying23 (by kernel_rfl) (by kernel_rfl) (hval 0 _ _ rfl rfl) h0 (fun x hx => hlt x (by simp [hx]))
  obtain ⟨s1, c1, q1, rfl, w1, r1⟩ := arg_res (P := Tryz.prog) (t := 25) Tryz.underlying25 rfl (by kernel_rfl) (by kernel_rfl) (by kernel_rfl) (by kernel_rfl) Tryz.underlying22 Tryz.underlying3 Tryz.underlying23 (by kernel_rfl) (by kernel_rfl) (hval 1 _ _ rfl rfl) h1 (fun x hx => hlt x (by simp [hx]))
  obtain ⟨a2, rfl, rfl, rfl⟩ := open_bool Tryz.underlying4 (hval 2 _ _ rfl rfl) h2
  exact law27_ReptResults hR a2 w0 w1 r0 r1 (St.init W)
end Go.Proofs.YtnnehiiblfmpnaaGreatDoor.reptResults
namespace Go.Proofs.YtnnehiiblfmpnaaGreatDoor
theorem reptResults_jf0 : (Rows.reptResultsRow.wf (OpenSpec.ofChange Rows.reptResultsSpec)) = true := by kernel_rfl
theorem reptResults_jf1 : (laidOutB Tryz.prog) = true := by kernel_rfl
theorem reptResults_jf2 : (mapsRowed Tryz.prog) = true := by kernel_rfl
theorem reptResults_jf3 : (Tryz.f3.params.all (Tryz.prog.readableRec ·)) = true := by kernel_rfl
theorem reptResults_jf4 : (namedTie Tryz.prog Rows.reptResultsRow.named Rows.reptResultsSpec.vars) = true := by kernel_rfl
theorem reptResults_jf5 : (Rows.reptResultsRow.stops == []) = true := by kernel_rfl
theorem reptResults_jf6 : (Tryz.prog.stops == []) = true := by kernel_rfl
theorem reptResults_jf7 : (Rows.reptResultsRow.knobs == []) = true := by kernel_rfl
theorem reptResults_jf8 : (Tryz.prog.stopKnobs == []) = true := by kernel_rfl
theorem reptResults_jf9 : (Rows.reptResultsRow.inPlace == Tryz.prog.inPlace 3) = true := by kernel_rfl
theorem reptResults_jf10 : (Rows.reptResultsRow.unfollowed == Tryz.prog.unfollowed 3) = true := by kernel_rfl
theorem reptResults_jf11 : (Rows.reptResultsRow.recurses == Tryz.prog.recurses 3) = true := by kernel_rfl
theorem reptResults_jf12 : (Rows.reptResultsRow.named == Tryz.prog.varsNamed 3) = true := by kernel_rfl
theorem reptResults_jf13 : (Rows.reptResultsRow.maps == (Tryz.f3.params.toList ++ Rows.reptResultsSpec.plain.varTypes Tryz.prog).any (Tryz.prog.mapsRec ·)) = true := by kernel_rfl
theorem reptResults_jf14 : (Rows.reptResultsRow.ifaces == (Tryz.f3.params.toList ++ Rows.reptResultsSpec.plain.varTypes Tryz.prog).any (Tryz.prog.ifacesRec ·)) = true := by kernel_rfl
theorem reptResults_jf15 : (Rows.reptResultsRow.mapsOut == Tryz.prog.mapsAmong Tryz.f3.resultTypes.toList) = true := by kernel_rfl
theorem reptResults_jf16 : (Rows.reptResultsRow.loops == (Tryz.f3.params.toList ++ Rows.reptResultsSpec.plain.varTypes Tryz.prog).any (Tryz.prog.loopsFrom ·)) = true := by kernel_rfl
theorem reptResults_jf17 : (Rows.reptResultsRow.wideKeys == (Tryz.f3.params.toList ++ Rows.reptResultsSpec.plain.varTypes Tryz.prog ++ Tryz.f3.resultTypes.toList).any (Tryz.prog.wideKeysFrom ·)) = true := by kernel_rfl
theorem reptResults_jf18 : (Rows.reptResultsSpec.vars.all (Tryz.prog.varReadable ·)) = true := by kernel_rfl
theorem reptResults_jf19 : (Tryz.f3.resultTypes.all (fun t => Tryz.prog.readableRec t && decide (t < Tryz.prog.types.size))) = true := by kernel_rfl
theorem reptResults_jf20 : (Rows.reptResultsRow.ifacesOut == Tryz.f3.resultTypes.toList.any (Tryz.prog.ifacesRec ·)) = true := by kernel_rfl
theorem reptResults_jf21 : (Rows.reptResultsRow.loopsOut == Tryz.f3.resultTypes.toList.any (Tryz.prog.loopsFrom ·)) = true := by kernel_rfl
theorem reptResults_jf22 : (Rows.reptResultsRow.plainKeys == Tryz.prog.plainKeys) = true := by kernel_rfl
theorem reptResults_jf23 : (Rows.reptResultsRow.shortTexts.isNone) = true := by kernel_rfl
theorem reptResults_jf24 : (Tryz.prog.stopsHeard) = true := by kernel_rfl
theorem reptResults_jf25 : (Tryz.prog.mayEnter) = true := by kernel_rfl
theorem reptResults_jf26 : (Rows.reptResultsRow.lifted == Tryz.prog.liftsFinal) = true := by kernel_rfl
theorem reptResults_jf27 : (Tryz.prog.make == some Rows.reptResultsRow.make) = true := by kernel_rfl
theorem reptResults_jf29 : (Rows.reptResultsRow.pinned == Rows.reptResultsRow.pinnedBy) = true := by kernel_rfl
theorem reptResults_jf30 : (Rows.reptResultsRow.veiled == (Tryz.f3.params.toList ++ Rows.reptResultsSpec.plain.varTypes Tryz.prog ++ Tryz.f3.resultTypes.toList).any (Tryz.prog.veiledRec ·)) = true := by kernel_rfl
theorem reptResults_jf31 : (Rows.reptResultsRow.veiledFits Tryz.prog Tryz.f3.params.toList (Tryz.f3.params.toList ++ Rows.reptResultsSpec.plain.varTypes Tryz.prog ++ Tryz.f3.resultTypes.toList)) = true := by kernel_rfl
theorem reptResults_closed : joinedFacts Tryz.prog 3 Tryz.f3 Rows.reptResultsSpec Rows.reptResultsRow = true := by
  unfold joinedFacts
  simp only [Bool.and_eq_true]
  exact ⟨⟨⟨⟨⟨⟨⟨⟨⟨⟨⟨⟨⟨⟨⟨⟨⟨⟨⟨⟨⟨⟨⟨⟨⟨⟨⟨⟨⟨⟨⟨reptResults_jf0, reptResults_jf1⟩, reptResults_jf2⟩, reptResults_jf3⟩, reptResults_jf4⟩, reptResults_jf5⟩, reptResults_jf6⟩, reptResults_jf7⟩, reptResults_jf8⟩, reptResults_jf9⟩, reptResults_jf10⟩, reptResults_jf11⟩, reptResults_jf12⟩, reptResults_jf13⟩, reptResults_jf14⟩, reptResults_jf15⟩, reptResults_jf16⟩, reptResults_jf17⟩, reptResults_jf18⟩, reptResults_jf19⟩, reptResults_jf20⟩, reptResults_jf21⟩, reptResults_jf22⟩, reptResults_jf23⟩, reptResults_jf24⟩, reptResults_jf25⟩, reptResults_jf26⟩, reptResults_jf27⟩, by kernel_rfl⟩, reptResults_jf29⟩, reptResults_jf30⟩, reptResults_jf31⟩
theorem reptResults_holds : Rows.ReptResultsSaid :=
  OpenClaim.holds_of_wide 3 Tryz.f3 rfl rfl rfl rfl rfl rfl rfl ⟨rfl, rfl, rfl, rfl, rfl⟩ rfl rfl rfl rfl rfl (by kernel_rfl) Tryz.func3 reptResults_closed
    (of_decide_eq_true (by kernel_rfl)) (by unfold Func.isWrapper; first | (rw [if_pos (by decide +kernel)]; kernel_rfl) | (rw [if_neg (by decide +kernel)]; exact ⟨rfl, rfl⟩))
    (fun os started H enc _ => reptResults.lifted os started H enc)
theorem reptResults_proved : Rows.ReptResultsCardSaid :=
  Claim7.holds_tied_plain_at .later [] [.data, .data, .data, .data, .sentinel, .sentinel, .pinned] true Rows.reptResultsCard.stood.harness true
    reptResults_holds (fun _ h => by cases h) (by kernel_rfl) (fun _ h => by cases h) reptResults_row_tie rfl ⟨rfl, rfl⟩ (by kernel_rfl) rfl
    (fun f fn hf hfn => by
      obtain rfl : f = 3 := Option.some.inj ((show Tryz.prog.funcNamed "ephemeris/ephemerislaw27.ReptResults" = some 3 by kernel_rfl).symm.trans hf) |>.symm
      obtain rfl : fn = Tryz.f3 := (Option.some.inj (Tryz.func3.symm.trans hfn)).symm
      exact ⟨by kernel_rfl, fun j t ht => by
        rw [Tryz.params3] at ht
        match j, ht with
        | 0, ht => cases ht; decide +kernel
        | 1, ht => cases ht; decide +kernel
        | 2, ht => cases ht; decide +kernel
        | j + 3, ht => cases ht⟩)
    (by kernel_rfl)
end Go.Proofs.YtnnehiiblfmpnaaGreatDoor
