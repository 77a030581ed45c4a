/- For all arguments 'ephemerislaw20.TakeSpans' returns true, and they read as they read before. Conditions: none of ours; the listed table starts as the program's own initialiser lays it (tied). -/
import Derived.Test.YtnnehiiblfmpnaaGreatDoorRows
import Derived.Test.YtnnehiiblfmpnaaGreatDoorTie
import Derived.Test.YtnnehiiblfmpnaaGreatDoorCards
import Derived.ProofKit
import Derived.LaidMore
import Derived.Stop.Joined
import Derived.SevenTiedAt
import Derived.Test.YtnnehiiblfmpnaaGreatDoorQTakeSpanse
set_option linter.unusedVariables false
set_option linter.unusedSimpArgs false
namespace Go.Proofs.YtnnehiiblfmpnaaGreatDoor.takeSpans
open Go.Hw Go.ChangeShapes Go.WideShapes Go.ChangeAt Go.RowKit
set_option maxRecDepth 100000

theorem own : ownKnob Tryz.prog.godebug = none := by kernel_rfl
theorem laidOut : laidOutB Tryz.prog = true := by kernel_rfl
/-- The door's own heap meets the condition: three closed facts. -/
theorem door_met (os : Os) (args : Array Value) : laidMetH Tryz.prog Rows.takeSpansRow.laid ((World.doorLaid Tryz.prog 14 os).forCall (fun _ _ => 0) ⟨#[], args, []⟩).memory :=
  laidMetH_of_parts3 (fuel := 8) (laidMet_of_run' 8 (by kernel_rfl) (by kernel_rfl)) (by kernel_rfl) (by kernel_rfl)

theorem lifted (os : Os) (started : os.Started) (H : Type) (enc : TypeId × Value → H) :
    ReturnsInHanded {} Tryz.checked os 7 .any (fun w args => (Rows.takeSpansSpec.pre enc Tryz.prog Tryz.f7 [] false w args ∧ laidMetH Tryz.prog Rows.takeSpansRow.laid w) ∧ sizedMet enc Tryz.prog Tryz.f7 (OpenSpec.ofChange Rows.takeSpansSpec) false w args)
      (Rows.takeSpansSpec.post enc Tryz.prog Tryz.f7 false true false false) := by
  refine returnsInHanded_of_change_and (C := Tryz.checked) (X := fun w _ => laidMetH Tryz.prog Rows.takeSpansRow.laid w) (fun _ _ _ hh h => h.of_heap hh) own started (by kernel_rfl) Tryz.func7
    (ChangeSpec.witness_shaped (enc := enc) (C := Tryz.checked) (os := os) (X := fun w _ => laidMetH Tryz.prog Rows.takeSpansRow.laid w) false (World.doorLaid Tryz.prog 14 os) #[.slice none 0 0, .slice none 0 0, .int .i64 0, .int .i64 0] 8 rfl (World.shaped_of_RefB (by kernel_rfl) (by kernel_rfl)) (by kernel_rfl) (by kernel_rfl) (by kernel_rfl) (door_met os _)) ?_
  intro W base args ds gs before hval hW _ hsz hL _
  have hT := tz_of_laid hL
  refine law_contract (ts := [46, 47, 3, 3]) (tb := 4) laidOut (by rw [Tryz.params7]) rfl Tryz.underlying4 (by kernel_rfl) rfl (fun ds h => by match ds, h with | [_, _, _, _], _ => rfl) hW ?_
  rintro ⟨ps, hA, hlt⟩
  rw [Tryz.params7] at hval
  obtain ⟨v0, vs0, d0, ds0, p0, q0, hargs, rfl, rfl, h0, t0⟩ := trodAll_cons hA
  obtain ⟨v1, vs1, d1, ds1, p1, q1, rfl, rfl, rfl, h1, t1⟩ := trodAll_cons t0
  obtain ⟨v2, vs2, d2, ds2, p2, q2, rfl, rfl, rfl, h2, t2⟩ := trodAll_cons t1
  obtain ⟨v3, vs3, d3, ds3, p3, q3, rfl, rfl, rfl, h3, t3⟩ := trodAll_cons t2
  obtain ⟨rfl, rfl, rfl⟩ := trodAll_nil t3
  obtain rfl : args = #[v0, v1, v2, v3] := by cases args; simp_all
  obtain ⟨s0, c0, xs0, rfl, l0, w0, r0⟩ := arg_i64s Tryz.underlying46 Tryz.underlying3 (by kernel_rfl) (hval 0 _ _ rfl rfl) h0 (fun x hx => hlt x (by simp [hx]))
  obtain ⟨s1, c1, xs1, rfl, l1, w1, r1⟩ := arg_u64s Tryz.underlying47 Tryz.underlying30 (by kernel_rfl) (hval 1 _ _ rfl rfl) h1 (fun x hx => hlt x (by simp [hx]))
  obtain ⟨a2, rfl, rfl, rfl, w2⟩ := open_int Tryz.underlying3 (hval 2 _ _ rfl rfl) h2
  obtain ⟨a3, rfl, rfl, rfl, w3⟩ := open_int Tryz.underlying3 (hval 3 _ _ rfl rfl) h3
  exact law20_TakeSpans hT a2 w0 l0 r0 w1 l1 r1 a3 (St.init W)
end Go.Proofs.YtnnehiiblfmpnaaGreatDoor.takeSpans
namespace Go.Proofs.YtnnehiiblfmpnaaGreatDoor
theorem takeSpans_jf0 : (Rows.takeSpansRow.wf (OpenSpec.ofChange Rows.takeSpansSpec)) = true := by kernel_rfl
theorem takeSpans_jf1 : (laidOutB Tryz.prog) = true := by kernel_rfl
theorem takeSpans_jf2 : (mapsRowed Tryz.prog) = true := by kernel_rfl
theorem takeSpans_jf3 : (Tryz.f7.params.all (Tryz.prog.readableRec ·)) = true := by kernel_rfl
theorem takeSpans_jf4 : (namedTie Tryz.prog Rows.takeSpansRow.named Rows.takeSpansSpec.vars) = true := by kernel_rfl
theorem takeSpans_jf5 : (Rows.takeSpansRow.stops == []) = true := by kernel_rfl
theorem takeSpans_jf6 : (Tryz.prog.stops == []) = true := by kernel_rfl
theorem takeSpans_jf7 : (Rows.takeSpansRow.knobs == []) = true := by kernel_rfl
theorem takeSpans_jf8 : (Tryz.prog.stopKnobs == []) = true := by kernel_rfl
theorem takeSpans_jf9 : (Rows.takeSpansRow.inPlace == Tryz.prog.inPlace 7) = true := by kernel_rfl
theorem takeSpans_jf10 : (Rows.takeSpansRow.unfollowed == Tryz.prog.unfollowed 7) = true := by kernel_rfl
theorem takeSpans_jf11 : (Rows.takeSpansRow.recurses == Tryz.prog.recurses 7) = true := by kernel_rfl
theorem takeSpans_jf12 : (Rows.takeSpansRow.named == Tryz.prog.varsNamed 7) = true := by kernel_rfl
theorem takeSpans_jf13 : (Rows.takeSpansRow.maps == (Tryz.f7.params.toList ++ Rows.takeSpansSpec.plain.varTypes Tryz.prog).any (Tryz.prog.mapsRec ·)) = true := by kernel_rfl
theorem takeSpans_jf14 : (Rows.takeSpansRow.ifaces == (Tryz.f7.params.toList ++ Rows.takeSpansSpec.plain.varTypes Tryz.prog).any (Tryz.prog.ifacesRec ·)) = true := by kernel_rfl
theorem takeSpans_jf15 : (Rows.takeSpansRow.mapsOut == Tryz.prog.mapsAmong Tryz.f7.resultTypes.toList) = true := by kernel_rfl
theorem takeSpans_jf16 : (Rows.takeSpansRow.loops == (Tryz.f7.params.toList ++ Rows.takeSpansSpec.plain.varTypes Tryz.prog).any (Tryz.prog.loopsFrom ·)) = true := by kernel_rfl
theorem takeSpans_jf17 : (Rows.takeSpansRow.wideKeys == (Tryz.f7.params.toList ++ Rows.takeSpansSpec.plain.varTypes Tryz.prog ++ Tryz.f7.resultTypes.toList).any (Tryz.prog.wideKeysFrom ·)) = true := by kernel_rfl
theorem takeSpans_jf18 : (Rows.takeSpansSpec.vars.all (Tryz.prog.varReadable ·)) = true := by kernel_rfl
theorem takeSpans_jf19 : (Tryz.f7.resultTypes.all (fun t => Tryz.prog.readableRec t && decide (t < Tryz.prog.types.size))) = true := by kernel_rfl
theorem takeSpans_jf20 : (Rows.takeSpansRow.ifacesOut == Tryz.f7.resultTypes.toList.any (Tryz.prog.ifacesRec ·)) = true := by kernel_rfl
theorem takeSpans_jf21 : (Rows.takeSpansRow.loopsOut == Tryz.f7.resultTypes.toList.any (Tryz.prog.loopsFrom ·)) = true := by kernel_rfl
theorem takeSpans_jf22 : (Rows.takeSpansRow.plainKeys == Tryz.prog.plainKeys) = true := by kernel_rfl
theorem takeSpans_jf23 : (Rows.takeSpansRow.shortTexts.isNone) = true := by kernel_rfl
theorem takeSpans_jf24 : (Tryz.prog.stopsHeard) = true := by kernel_rfl
theorem takeSpans_jf25 : (Tryz.prog.mayEnter) = true := by kernel_rfl
theorem takeSpans_jf26 : (Rows.takeSpansRow.lifted == Tryz.prog.liftsFinal) = true := by kernel_rfl
theorem takeSpans_jf27 : (Tryz.prog.make == some Rows.takeSpansRow.make) = true := by kernel_rfl
theorem takeSpans_jf29 : (Rows.takeSpansRow.pinned == Rows.takeSpansRow.pinnedBy) = true := by kernel_rfl
theorem takeSpans_jf30 : (Rows.takeSpansRow.veiled == (Tryz.f7.params.toList ++ Rows.takeSpansSpec.plain.varTypes Tryz.prog ++ Tryz.f7.resultTypes.toList).any (Tryz.prog.veiledRec ·)) = true := by kernel_rfl
theorem takeSpans_jf31 : (Rows.takeSpansRow.veiledFits Tryz.prog Tryz.f7.params.toList (Tryz.f7.params.toList ++ Rows.takeSpansSpec.plain.varTypes Tryz.prog ++ Tryz.f7.resultTypes.toList)) = true := by kernel_rfl
theorem takeSpans_closed : joinedFacts Tryz.prog 7 Tryz.f7 Rows.takeSpansSpec Rows.takeSpansRow = true := by
  unfold joinedFacts
  simp only [Bool.and_eq_true]
  exact ⟨⟨⟨⟨⟨⟨⟨⟨⟨⟨⟨⟨⟨⟨⟨⟨⟨⟨⟨⟨⟨⟨⟨⟨⟨⟨⟨⟨⟨⟨⟨takeSpans_jf0, takeSpans_jf1⟩, takeSpans_jf2⟩, takeSpans_jf3⟩, takeSpans_jf4⟩, takeSpans_jf5⟩, takeSpans_jf6⟩, takeSpans_jf7⟩, takeSpans_jf8⟩, takeSpans_jf9⟩, takeSpans_jf10⟩, takeSpans_jf11⟩, takeSpans_jf12⟩, takeSpans_jf13⟩, takeSpans_jf14⟩, takeSpans_jf15⟩, takeSpans_jf16⟩, takeSpans_jf17⟩, takeSpans_jf18⟩, takeSpans_jf19⟩, takeSpans_jf20⟩, takeSpans_jf21⟩, takeSpans_jf22⟩, takeSpans_jf23⟩, takeSpans_jf24⟩, takeSpans_jf25⟩, takeSpans_jf26⟩, takeSpans_jf27⟩, by kernel_rfl⟩, takeSpans_jf29⟩, takeSpans_jf30⟩, takeSpans_jf31⟩
theorem takeSpans_holds : Rows.TakeSpansSaid :=
  OpenClaim.holds_of_wide 7 Tryz.f7 rfl rfl rfl rfl rfl rfl rfl ⟨rfl, rfl, rfl, rfl, rfl⟩ rfl rfl rfl rfl rfl (by kernel_rfl) Tryz.func7 takeSpans_closed
    (of_decide_eq_true (by kernel_rfl)) (by unfold Func.isWrapper; first | (rw [if_pos (by decide +kernel)]; kernel_rfl) | (rw [if_neg (by decide +kernel)]; exact ⟨rfl, rfl⟩))
    (fun os started H enc _ => takeSpans.lifted os started H enc)
theorem takeSpans_proved : Rows.TakeSpansCardSaid :=
  Claim7.holds_tied_plain_at .later [] [.data] true Rows.takeSpansCard.stood.harness true
    takeSpans_holds (fun _ h => by cases h) (by kernel_rfl) (fun _ h => by cases h) takeSpans_row_tie rfl ⟨rfl, rfl⟩ (by kernel_rfl) rfl
    (fun f fn hf hfn => by
      obtain rfl : f = 7 := Option.some.inj ((show Tryz.prog.funcNamed "ephemeris/ephemerislaw20.TakeSpans" = some 7 by kernel_rfl).symm.trans hf) |>.symm
      obtain rfl : fn = Tryz.f7 := (Option.some.inj (Tryz.func7.symm.trans hfn)).symm
      exact ⟨by kernel_rfl, fun j t ht => by
        rw [Tryz.params7] at ht
        match j, ht with
        | 0, ht => cases ht; decide +kernel
        | 1, ht => cases ht; decide +kernel
        | 2, ht => cases ht; decide +kernel
        | 3, ht => cases ht; decide +kernel
        | j + 4, ht => cases ht⟩)
    (by kernel_rfl)
end Go.Proofs.YtnnehiiblfmpnaaGreatDoor
