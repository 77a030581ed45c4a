/- For all arguments 'ephemerislaw20.TakeCached' returns true, and they read as they read before. Conditions: none of ours; the listed table starts as the program's own initialiser lays it (tied). -/
import Derived.Test.YtnnehiiblfmpnaaGreatDoorRows
import Derived.Test.YtnnehiiblfmpnaaGreatDoorTie
import Derived.Test.YtnnehiiblfmpnaaGreatDoorCards
import Derived.ProofKit
import Derived.LaidMore
import Derived.Stop.Joined
import Derived.SevenTiedAt
import Derived.Test.YtnnehiiblfmpnaaGreatDoorQTakeCachede
set_option linter.unusedVariables false
set_option linter.unusedSimpArgs false
namespace Go.Proofs.YtnnehiiblfmpnaaGreatDoor.takeCached
open Go.Hw Go.ChangeShapes Go.WideShapes Go.ChangeAt Go.RowKit
set_option maxRecDepth 100000

theorem own : ownKnob Tryz.prog.godebug = none := by kernel_rfl
theorem laidOut : laidOutB Tryz.prog = true := by kernel_rfl
/-- The door's own heap meets the condition: three closed facts. -/
theorem door_met (os : Os) (args : Array Value) : laidMetH Tryz.prog Rows.takeCachedRow.laid ((World.doorLaid Tryz.prog 14 os).forCall (fun _ _ => 0) ⟨#[], args, []⟩).memory :=
  laidMetH_of_parts3 (fuel := 8) (laidMet_of_run' 8 (by kernel_rfl) (by kernel_rfl)) (by kernel_rfl) (by kernel_rfl)

theorem lifted (os : Os) (started : os.Started) (H : Type) (enc : TypeId × Value → H) :
    ReturnsInHanded {} Tryz.checked os 10 .any (fun w args => (Rows.takeCachedSpec.pre enc Tryz.prog Tryz.f10 [] false w args ∧ laidMetH Tryz.prog Rows.takeCachedRow.laid w) ∧ sizedMet enc Tryz.prog Tryz.f10 (OpenSpec.ofChange Rows.takeCachedSpec) false w args)
      (Rows.takeCachedSpec.post enc Tryz.prog Tryz.f10 false true false false) := by
  refine returnsInHanded_of_change_and (C := Tryz.checked) (X := fun w _ => laidMetH Tryz.prog Rows.takeCachedRow.laid w) (fun _ _ _ hh h => h.of_heap hh) own started (by kernel_rfl) Tryz.func10
    (ChangeSpec.witness_shaped (enc := enc) (C := Tryz.checked) (os := os) (X := fun w _ => laidMetH Tryz.prog Rows.takeCachedRow.laid w) false (World.doorLaid Tryz.prog 14 os) #[.slice none 0 0, .slice none 0 0, .int .i64 0, .bool false] 8 rfl (World.shaped_of_RefB (by kernel_rfl) (by kernel_rfl)) (by kernel_rfl) (by kernel_rfl) (by kernel_rfl) (door_met os _)) ?_
  intro W base args ds gs before hval hW _ hsz hL _
  have hT := tz_of_laid hL
  refine law_contract (ts := [46, 47, 3, 4]) (tb := 4) laidOut (by rw [Tryz.params10]) rfl Tryz.underlying4 (by kernel_rfl) rfl (fun ds h => by match ds, h with | [_, _, _, _], _ => rfl) hW ?_
  rintro ⟨ps, hA, hlt⟩
  rw [Tryz.params10] at hval
  obtain ⟨v0, vs0, d0, ds0, p0, q0, hargs, rfl, rfl, h0, t0⟩ := trodAll_cons hA
  obtain ⟨v1, vs1, d1, ds1, p1, q1, rfl, rfl, rfl, h1, t1⟩ := trodAll_cons t0
  obtain ⟨v2, vs2, d2, ds2, p2, q2, rfl, rfl, rfl, h2, t2⟩ := trodAll_cons t1
  obtain ⟨v3, vs3, d3, ds3, p3, q3, rfl, rfl, rfl, h3, t3⟩ := trodAll_cons t2
  obtain ⟨rfl, rfl, rfl⟩ := trodAll_nil t3
  obtain rfl : args = #[v0, v1, v2, v3] := by cases args; simp_all
  obtain ⟨s0, c0, xs0, rfl, l0, w0, r0⟩ := arg_i64s Tryz.underlying46 Tryz.underlying3 (by kernel_rfl) (hval 0 _ _ rfl rfl) h0 (fun x hx => hlt x (by simp [hx]))
  obtain ⟨s1, c1, xs1, rfl, l1, w1, r1⟩ := arg_u64s Tryz.underlying47 Tryz.underlying30 (by kernel_rfl) (hval 1 _ _ rfl rfl) h1 (fun x hx => hlt x (by simp [hx]))
  obtain ⟨a2, rfl, rfl, rfl, w2⟩ := open_int Tryz.underlying3 (hval 2 _ _ rfl rfl) h2
  obtain ⟨a3, rfl, rfl, rfl⟩ := open_bool Tryz.underlying4 (hval 3 _ _ rfl rfl) h3
  exact law20_TakeCached hT a2 w0 l0 r0 w1 l1 r1 a3 (St.init W)
end Go.Proofs.YtnnehiiblfmpnaaGreatDoor.takeCached
namespace Go.Proofs.YtnnehiiblfmpnaaGreatDoor
theorem takeCached_jf0 : (Rows.takeCachedRow.wf (OpenSpec.ofChange Rows.takeCachedSpec)) = true := by kernel_rfl
theorem takeCached_jf1 : (laidOutB Tryz.prog) = true := by kernel_rfl
theorem takeCached_jf2 : (mapsRowed Tryz.prog) = true := by kernel_rfl
theorem takeCached_jf3 : (Tryz.f10.params.all (Tryz.prog.readableRec ·)) = true := by kernel_rfl
theorem takeCached_jf4 : (namedTie Tryz.prog Rows.takeCachedRow.named Rows.takeCachedSpec.vars) = true := by kernel_rfl
theorem takeCached_jf5 : (Rows.takeCachedRow.stops == []) = true := by kernel_rfl
theorem takeCached_jf6 : (Tryz.prog.stops == []) = true := by kernel_rfl
theorem takeCached_jf7 : (Rows.takeCachedRow.knobs == []) = true := by kernel_rfl
theorem takeCached_jf8 : (Tryz.prog.stopKnobs == []) = true := by kernel_rfl
theorem takeCached_jf9 : (Rows.takeCachedRow.inPlace == Tryz.prog.inPlace 10) = true := by kernel_rfl
theorem takeCached_jf10 : (Rows.takeCachedRow.unfollowed == Tryz.prog.unfollowed 10) = true := by kernel_rfl
theorem takeCached_jf11 : (Rows.takeCachedRow.recurses == Tryz.prog.recurses 10) = true := by kernel_rfl
theorem takeCached_jf12 : (Rows.takeCachedRow.named == Tryz.prog.varsNamed 10) = true := by kernel_rfl
theorem takeCached_jf13 : (Rows.takeCachedRow.maps == (Tryz.f10.params.toList ++ Rows.takeCachedSpec.plain.varTypes Tryz.prog).any (Tryz.prog.mapsRec ·)) = true := by kernel_rfl
theorem takeCached_jf14 : (Rows.takeCachedRow.ifaces == (Tryz.f10.params.toList ++ Rows.takeCachedSpec.plain.varTypes Tryz.prog).any (Tryz.prog.ifacesRec ·)) = true := by kernel_rfl
theorem takeCached_jf15 : (Rows.takeCachedRow.mapsOut == Tryz.prog.mapsAmong Tryz.f10.resultTypes.toList) = true := by kernel_rfl
theorem takeCached_jf16 : (Rows.takeCachedRow.loops == (Tryz.f10.params.toList ++ Rows.takeCachedSpec.plain.varTypes Tryz.prog).any (Tryz.prog.loopsFrom ·)) = true := by kernel_rfl
theorem takeCached_jf17 : (Rows.takeCachedRow.wideKeys == (Tryz.f10.params.toList ++ Rows.takeCachedSpec.plain.varTypes Tryz.prog ++ Tryz.f10.resultTypes.toList).any (Tryz.prog.wideKeysFrom ·)) = true := by kernel_rfl
theorem takeCached_jf18 : (Rows.takeCachedSpec.vars.all (Tryz.prog.varReadable ·)) = true := by kernel_rfl
theorem takeCached_jf19 : (Tryz.f10.resultTypes.all (fun t => Tryz.prog.readableRec t && decide (t < Tryz.prog.types.size))) = true := by kernel_rfl
theorem takeCached_jf20 : (Rows.takeCachedRow.ifacesOut == Tryz.f10.resultTypes.toList.any (Tryz.prog.ifacesRec ·)) = true := by kernel_rfl
theorem takeCached_jf21 : (Rows.takeCachedRow.loopsOut == Tryz.f10.resultTypes.toList.any (Tryz.prog.loopsFrom ·)) = true := by kernel_rfl
theorem takeCached_jf22 : (Rows.takeCachedRow.plainKeys == Tryz.prog.plainKeys) = true := by kernel_rfl
theorem takeCached_jf23 : (Rows.takeCachedRow.shortTexts.isNone) = true := by kernel_rfl
theorem takeCached_jf24 : (Tryz.prog.stopsHeard) = true := by kernel_rfl
theorem takeCached_jf25 : (Tryz.prog.mayEnter) = true := by kernel_rfl
theorem takeCached_jf26 : (Rows.takeCachedRow.lifted == Tryz.prog.liftsFinal) = true := by kernel_rfl
theorem takeCached_jf27 : (Tryz.prog.make == some Rows.takeCachedRow.make) = true := by kernel_rfl
theorem takeCached_jf29 : (Rows.takeCachedRow.pinned == Rows.takeCachedRow.pinnedBy) = true := by kernel_rfl
theorem takeCached_jf30 : (Rows.takeCachedRow.veiled == (Tryz.f10.params.toList ++ Rows.takeCachedSpec.plain.varTypes Tryz.prog ++ Tryz.f10.resultTypes.toList).any (Tryz.prog.veiledRec ·)) = true := by kernel_rfl
theorem takeCached_jf31 : (Rows.takeCachedRow.veiledFits Tryz.prog Tryz.f10.params.toList (Tryz.f10.params.toList ++ Rows.takeCachedSpec.plain.varTypes Tryz.prog ++ Tryz.f10.resultTypes.toList)) = true := by kernel_rfl
theorem takeCached_closed : joinedFacts Tryz.prog 10 Tryz.f10 Rows.takeCachedSpec Rows.takeCachedRow = true := by
  unfold joinedFacts
  simp only [Bool.and_eq_true]
  exact ⟨⟨⟨⟨⟨⟨⟨⟨⟨⟨⟨⟨⟨⟨⟨⟨⟨⟨⟨⟨⟨⟨⟨⟨⟨⟨⟨⟨⟨⟨⟨takeCached_jf0, takeCached_jf1⟩, takeCached_jf2⟩, takeCached_jf3⟩, takeCached_jf4⟩, takeCached_jf5⟩, takeCached_jf6⟩, takeCached_jf7⟩, takeCached_jf8⟩, takeCached_jf9⟩, takeCached_jf10⟩, takeCached_jf11⟩, takeCached_jf12⟩, takeCached_jf13⟩, takeCached_jf14⟩, takeCached_jf15⟩, takeCached_jf16⟩, takeCached_jf17⟩, takeCached_jf18⟩, takeCached_jf19⟩, takeCached_jf20⟩, takeCached_jf21⟩, takeCached_jf22⟩, takeCached_jf23⟩, takeCached_jf24⟩, takeCached_jf25⟩, takeCached_jf26⟩, takeCached_jf27⟩, by kernel_rfl⟩, takeCached_jf29⟩, takeCached_jf30⟩, takeCached_jf31⟩
theorem takeCached_holds : Rows.TakeCachedSaid :=
  OpenClaim.holds_of_wide 10 Tryz.f10 rfl rfl rfl rfl rfl rfl rfl ⟨rfl, rfl, rfl, rfl, rfl⟩ rfl rfl rfl rfl rfl (by kernel_rfl) Tryz.func10 takeCached_closed
    (of_decide_eq_true (by kernel_rfl)) (by unfold Func.isWrapper; first | (rw [if_pos (by decide +kernel)]; kernel_rfl) | (rw [if_neg (by decide +kernel)]; exact ⟨rfl, rfl⟩))
    (fun os started H enc _ => takeCached.lifted os started H enc)
theorem takeCached_proved : Rows.TakeCachedCardSaid :=
  Claim7.holds_tied_plain_at .later [] [.data] true Rows.takeCachedCard.stood.harness true
    takeCached_holds (fun _ h => by cases h) (by kernel_rfl) (fun _ h => by cases h) takeCached_row_tie rfl ⟨rfl, rfl⟩ (by kernel_rfl) rfl
    (fun f fn hf hfn => by
      obtain rfl : f = 10 := Option.some.inj ((show Tryz.prog.funcNamed "ephemeris/ephemerislaw20.TakeCached" = some 10 by kernel_rfl).symm.trans hf) |>.symm
      obtain rfl : fn = Tryz.f10 := (Option.some.inj (Tryz.func10.symm.trans hfn)).symm
      exact ⟨by kernel_rfl, fun j t ht => by
        rw [Tryz.params10] at ht
        match j, ht with
        | 0, ht => cases ht; decide +kernel
        | 1, ht => cases ht; decide +kernel
        | 2, ht => cases ht; decide +kernel
        | 3, ht => cases ht; decide +kernel
        | j + 4, ht => cases ht⟩)
    (by kernel_rfl)
end Go.Proofs.YtnnehiiblfmpnaaGreatDoor
