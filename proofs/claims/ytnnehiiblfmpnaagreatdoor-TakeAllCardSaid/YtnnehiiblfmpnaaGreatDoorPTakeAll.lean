/- For all arguments 'ephemerislaw20.TakeAll' returns true, and they read as they read before. Conditions: none of ours; the listed table starts as the program's own initialiser lays it (tied). -/
import Derived.Test.YtnnehiiblfmpnaaGreatDoorRows
import Derived.Test.YtnnehiiblfmpnaaGreatDoorTie
import Derived.Test.YtnnehiiblfmpnaaGreatDoorCards
import Derived.ProofKit
import Derived.LaidMore
import Derived.Stop.Joined
import Derived.SevenTiedAt
import Derived.Test.YtnnehiiblfmpnaaGreatDoorQTakeAlle
set_option linter.unusedVariables false
set_option linter.unusedSimpArgs false
namespace Go.Proofs.YtnnehiiblfmpnaaGreatDoor.takeAll
open Go.Hw Go.ChangeShapes Go.WideShapes Go.ChangeAt Go.RowKit
set_option maxRecDepth 100000

theorem own : ownKnob Tryz.prog.godebug = none := by kernel_rfl
theorem laidOut : laidOutB Tryz.prog = true := by kernel_rfl
/-- The door's own heap meets the condition: three closed facts. -/
theorem door_met (os : Os) (args : Array Value) : laidMetH Tryz.prog Rows.takeAllRow.laid ((World.doorLaid Tryz.prog 14 os).forCall (fun _ _ => 0) ⟨#[], args, []⟩).memory :=
  laidMetH_of_parts3 (fuel := 8) (laidMet_of_run' 8 (by kernel_rfl) (by kernel_rfl)) (by kernel_rfl) (by kernel_rfl)

theorem lifted (os : Os) (started : os.Started) (H : Type) (enc : TypeId × Value → H) :
    ReturnsInHanded {} Tryz.checked os 8 .any (fun w args => (Rows.takeAllSpec.pre enc Tryz.prog Tryz.f8 [] false w args ∧ laidMetH Tryz.prog Rows.takeAllRow.laid w) ∧ sizedMet enc Tryz.prog Tryz.f8 (OpenSpec.ofChange Rows.takeAllSpec) false w args)
      (Rows.takeAllSpec.post enc Tryz.prog Tryz.f8 false true false false) := by
  refine returnsInHanded_of_change_and (C := Tryz.checked) (X := fun w _ => laidMetH Tryz.prog Rows.takeAllRow.laid w) (fun _ _ _ hh h => h.of_heap hh) own started (by kernel_rfl) Tryz.func8
    (ChangeSpec.witness_shaped (enc := enc) (C := Tryz.checked) (os := os) (X := fun w _ => laidMetH Tryz.prog Rows.takeAllRow.laid w) false (World.doorLaid Tryz.prog 14 os) #[.slice none 0 0, .slice none 0 0, .int .i64 0, .int .i64 0, .int .i64 0, .int .i64 0, .slice none 0 0, .int .i64 0] 8 rfl (World.shaped_of_RefB (by kernel_rfl) (by kernel_rfl)) (by kernel_rfl) (by kernel_rfl) (by kernel_rfl) (door_met os _)) ?_
  intro W base args ds gs before hval hW _ hsz hL _
  have hT := tz_of_laid hL
  refine law_contract (ts := [46, 47, 3, 2, 2, 3, 46, 3]) (tb := 4) laidOut (by rw [Tryz.params8]) rfl Tryz.underlying4 (by kernel_rfl) rfl (fun ds h => by match ds, h with | [_, _, _, _, _, _, _, _], _ => rfl) hW ?_
  rintro ⟨ps, hA, hlt⟩
  rw [Tryz.params8] at hval
  obtain ⟨v0, vs0, d0, ds0, p0, q0, hargs, rfl, rfl, h0, t0⟩ := trodAll_cons hA
  obtain ⟨v1, vs1, d1, ds1, p1, q1, rfl, rfl, rfl, h1, t1⟩ := trodAll_cons t0
  obtain ⟨v2, vs2, d2, ds2, p2, q2, rfl, rfl, rfl, h2, t2⟩ := trodAll_cons t1
  obtain ⟨v3, vs3, d3, ds3, p3, q3, rfl, rfl, rfl, h3, t3⟩ := trodAll_cons t2
  obtain ⟨v4, vs4, d4, ds4, p4, q4, rfl, rfl, rfl, h4, t4⟩ := trodAll_cons t3
  obtain ⟨v5, vs5, d5, ds5, p5, q5, rfl, rfl, rfl, h5, t5⟩ := trodAll_cons t4
  obtain ⟨v6, vs6, d6, ds6, p6, q6, rfl, rfl, rfl, h6, t6⟩ := trodAll_cons t5
  obtain ⟨v7, vs7, d7, ds7, p7, q7, rfl, rfl, rfl, h7, t7⟩ := trodAll_cons t6
  obtain ⟨rfl, rfl, rfl⟩ := trodAll_nil t7
  obtain rfl : args = #[v0, v1, v2, v3, v4, v5, v6, v7] := by cases args; simp_all
  obtain ⟨s0, c0, xs0, rfl, l0, w0, r0⟩ := arg_i64s Tryz.underlying46 Tryz.underlying3 (by kernel_rfl) (hval 0 _ _ rfl rfl) h0 (fun x hx => hlt x (by simp [hx]))
  obtain ⟨s1, c1, xs1, rfl, l1, w1, r1⟩ := arg_u64s Tryz.underlying47 Tryz.underlying30 (by kernel_rfl) (hval 1 _ _ rfl rfl) h1 (fun x hx => hlt x (by simp [hx]))
  obtain ⟨a2, rfl, rfl, rfl, w2⟩ := open_int Tryz.underlying3 (hval 2 _ _ rfl rfl) h2
  obtain ⟨a3, rfl, rfl, rfl, w3⟩ := open_int Tryz.underlying2 (hval 3 _ _ rfl rfl) h3
  obtain ⟨a4, rfl, rfl, rfl, w4⟩ := open_int Tryz.underlying2 (hval 4 _ _ rfl rfl) h4
  obtain ⟨a5, rfl, rfl, rfl, w5⟩ := open_int Tryz.underlying3 (hval 5 _ _ rfl rfl) h5
  obtain ⟨s6, c6, xs6, rfl, l6, w6, r6⟩ := arg_i64s Tryz.underlying46 Tryz.underlying3 (by kernel_rfl) (hval 6 _ _ rfl rfl) h6 (fun x hx => hlt x (by simp [hx]))
  obtain ⟨a7, rfl, rfl, rfl, w7⟩ := open_int Tryz.underlying3 (hval 7 _ _ rfl rfl) h7
  exact law20_TakeAll hT a2 w0 l0 r0 w1 l1 r1 a3 a4 a5 l6 r6 a7 (St.init W)
end Go.Proofs.YtnnehiiblfmpnaaGreatDoor.takeAll
namespace Go.Proofs.YtnnehiiblfmpnaaGreatDoor
theorem takeAll_jf0 : (Rows.takeAllRow.wf (OpenSpec.ofChange Rows.takeAllSpec)) = true := by kernel_rfl
theorem takeAll_jf1 : (laidOutB Tryz.prog) = true := by kernel_rfl
theorem takeAll_jf2 : (mapsRowed Tryz.prog) = true := by kernel_rfl
theorem takeAll_jf3 : (Tryz.f8.params.all (Tryz.prog.readableRec ·)) = true := by kernel_rfl
theorem takeAll_jf4 : (namedTie Tryz.prog Rows.takeAllRow.named Rows.takeAllSpec.vars) = true := by kernel_rfl
theorem takeAll_jf5 : (Rows.takeAllRow.stops == []) = true := by kernel_rfl
theorem takeAll_jf6 : (Tryz.prog.stops == []) = true := by kernel_rfl
theorem takeAll_jf7 : (Rows.takeAllRow.knobs == []) = true := by kernel_rfl
theorem takeAll_jf8 : (Tryz.prog.stopKnobs == []) = true := by kernel_rfl
theorem takeAll_jf9 : (Rows.takeAllRow.inPlace == Tryz.prog.inPlace 8) = true := by kernel_rfl
theorem takeAll_jf10 : (Rows.takeAllRow.unfollowed == Tryz.prog.unfollowed 8) = true := by kernel_rfl
theorem takeAll_jf11 : (Rows.takeAllRow.recurses == Tryz.prog.recurses 8) = true := by kernel_rfl
theorem takeAll_jf12 : (Rows.takeAllRow.named == Tryz.prog.varsNamed 8) = true := by kernel_rfl
theorem takeAll_jf13 : (Rows.takeAllRow.maps == (Tryz.f8.params.toList ++ Rows.takeAllSpec.plain.varTypes Tryz.prog).any (Tryz.prog.mapsRec ·)) = true := by kernel_rfl
theorem takeAll_jf14 : (Rows.takeAllRow.ifaces == (Tryz.f8.params.toList ++ Rows.takeAllSpec.plain.varTypes Tryz.prog).any (Tryz.prog.ifacesRec ·)) = true := by kernel_rfl
theorem takeAll_jf15 : (Rows.takeAllRow.mapsOut == Tryz.prog.mapsAmong Tryz.f8.resultTypes.toList) = true := by kernel_rfl
theorem takeAll_jf16 : (Rows.takeAllRow.loops == (Tryz.f8.params.toList ++ Rows.takeAllSpec.plain.varTypes Tryz.prog).any (Tryz.prog.loopsFrom ·)) = true := by kernel_rfl
theorem takeAll_jf17 : (Rows.takeAllRow.wideKeys == (Tryz.f8.params.toList ++ Rows.takeAllSpec.plain.varTypes Tryz.prog ++ Tryz.f8.resultTypes.toList).any (Tryz.prog.wideKeysFrom ·)) = true := by kernel_rfl
theorem takeAll_jf18 : (Rows.takeAllSpec.vars.all (Tryz.prog.varReadable ·)) = true := by kernel_rfl
theorem takeAll_jf19 : (Tryz.f8.resultTypes.all (fun t => Tryz.prog.readableRec t && decide (t < Tryz.prog.types.size))) = true := by kernel_rfl
theorem takeAll_jf20 : (Rows.takeAllRow.ifacesOut == Tryz.f8.resultTypes.toList.any (Tryz.prog.ifacesRec ·)) = true := by kernel_rfl
theorem takeAll_jf21 : (Rows.takeAllRow.loopsOut == Tryz.f8.resultTypes.toList.any (Tryz.prog.loopsFrom ·)) = true := by kernel_rfl
theorem takeAll_jf22 : (Rows.takeAllRow.plainKeys == Tryz.prog.plainKeys) = true := by kernel_rfl
theorem takeAll_jf23 : (Rows.takeAllRow.shortTexts.isNone) = true := by kernel_rfl
theorem takeAll_jf24 : (Tryz.prog.stopsHeard) = true := by kernel_rfl
theorem takeAll_jf25 : (Tryz.prog.mayEnter) = true := by kernel_rfl
theorem takeAll_jf26 : (Rows.takeAllRow.lifted == Tryz.prog.liftsFinal) = true := by kernel_rfl
theorem takeAll_jf27 : (Tryz.prog.make == some Rows.takeAllRow.make) = true := by kernel_rfl
theorem takeAll_jf29 : (Rows.takeAllRow.pinned == Rows.takeAllRow.pinnedBy) = true := by kernel_rfl
theorem takeAll_jf30 : (Rows.takeAllRow.veiled == (Tryz.f8.params.toList ++ Rows.takeAllSpec.plain.varTypes Tryz.prog ++ Tryz.f8.resultTypes.toList).any (Tryz.prog.veiledRec ·)) = true := by kernel_rfl
theorem takeAll_jf31 : (Rows.takeAllRow.veiledFits Tryz.prog Tryz.f8.params.toList (Tryz.f8.params.toList ++ Rows.takeAllSpec.plain.varTypes Tryz.prog ++ Tryz.f8.resultTypes.toList)) = true := by kernel_rfl
theorem takeAll_closed : joinedFacts Tryz.prog 8 Tryz.f8 Rows.takeAllSpec Rows.takeAllRow = true := by
  unfold joinedFacts
  simp only [Bool.and_eq_true]
  exact ⟨⟨⟨⟨⟨⟨⟨⟨⟨⟨⟨⟨⟨⟨⟨⟨⟨⟨⟨⟨⟨⟨⟨⟨⟨⟨⟨⟨⟨⟨⟨takeAll_jf0, takeAll_jf1⟩, takeAll_jf2⟩, takeAll_jf3⟩, takeAll_jf4⟩, takeAll_jf5⟩, takeAll_jf6⟩, takeAll_jf7⟩, takeAll_jf8⟩, takeAll_jf9⟩, takeAll_jf10⟩, takeAll_jf11⟩, takeAll_jf12⟩, takeAll_jf13⟩, takeAll_jf14⟩, takeAll_jf15⟩, takeAll_jf16⟩, takeAll_jf17⟩, takeAll_jf18⟩, takeAll_jf19⟩, takeAll_jf20⟩, takeAll_jf21⟩, takeAll_jf22⟩, takeAll_jf23⟩, takeAll_jf24⟩, takeAll_jf25⟩, takeAll_jf26⟩, takeAll_jf27⟩, by kernel_rfl⟩, takeAll_jf29⟩, takeAll_jf30⟩, takeAll_jf31⟩
theorem takeAll_holds : Rows.TakeAllSaid :=
  OpenClaim.holds_of_wide 8 Tryz.f8 rfl rfl rfl rfl rfl rfl rfl ⟨rfl, rfl, rfl, rfl, rfl⟩ rfl rfl rfl rfl rfl (by kernel_rfl) Tryz.func8 takeAll_closed
    (of_decide_eq_true (by kernel_rfl)) (by unfold Func.isWrapper; first | (rw [if_pos (by decide +kernel)]; kernel_rfl) | (rw [if_neg (by decide +kernel)]; exact ⟨rfl, rfl⟩))
    (fun os started H enc _ => takeAll.lifted os started H enc)
theorem takeAll_proved : Rows.TakeAllCardSaid :=
  Claim7.holds_tied_plain_at .later [] [.data] true Rows.takeAllCard.stood.harness true
    takeAll_holds (fun _ h => by cases h) (by kernel_rfl) (fun _ h => by cases h) takeAll_row_tie rfl ⟨rfl, rfl⟩ (by kernel_rfl) rfl
    (fun f fn hf hfn => by
      obtain rfl : f = 8 := Option.some.inj ((show Tryz.prog.funcNamed "ephemeris/ephemerislaw20.TakeAll" = some 8 by kernel_rfl).symm.trans hf) |>.symm
      obtain rfl : fn = Tryz.f8 := (Option.some.inj (Tryz.func8.symm.trans hfn)).symm
      exact ⟨by kernel_rfl, fun j t ht => by
        rw [Tryz.params8] at ht
        match j, ht with
        | 0, ht => cases ht; decide +kernel
        | 1, ht => cases ht; decide +kernel
        | 2, ht => cases ht; decide +kernel
        | 3, ht => cases ht; decide +kernel
        | 4, ht => cases ht; decide +kernel
        | 5, ht => cases ht; decide +kernel
        | 6, ht => cases ht; decide +kernel
        | 7, ht => cases ht; decide +kernel
        | j + 8, ht => cases ht⟩)
    (by kernel_rfl)
end Go.Proofs.YtnnehiiblfmpnaaGreatDoor
