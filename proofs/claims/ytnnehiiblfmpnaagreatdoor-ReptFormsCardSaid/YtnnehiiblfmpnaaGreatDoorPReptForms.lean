/- For all arguments 'ephemerislaw27.ReptForms' returns true. Conditions: none of ours; the listed table starts as the program's own initialiser lays it (tied). -/
import Derived.Test.YtnnehiiblfmpnaaGreatDoorRows
import Derived.Test.YtnnehiiblfmpnaaGreatDoorTie
import Derived.Test.YtnnehiiblfmpnaaGreatDoorCards
import Derived.Lay
import Derived.ProofKit
import Derived.LaidMore
import Derived.Stop.Joined
import Derived.SevenTiedAt
import Derived.Test.YtnnehiiblfmpnaaGreatDoorQReptFormsd
set_option linter.unusedVariables false
set_option linter.unusedSimpArgs false
namespace Go.Proofs.YtnnehiiblfmpnaaGreatDoor.reptForms
open Go.Hw Go.ChangeShapes Go.WideShapes Go.ChangeAt Go.RowKit
set_option maxRecDepth 100000

theorem own : ownKnob Tryz.prog.godebug = none := by kernel_rfl
theorem laidOut : laidOutB Tryz.prog = true := by kernel_rfl
theorem door_met (os : Os) (args : Array Value) : laidMetH Tryz.prog Rows.reptFormsRow.laid ((World.laidAll Tryz.prog os Rows.reptFormsRow.laid).forCall (fun _ _ => 0) ⟨#[], args, []⟩).memory := by
  rw [MakeChecks.laidMetH_plain _ _ _ (by kernel_rfl)]; exact laidMet_laidAll _ (by kernel_rfl) (by kernel_rfl)

theorem lifted (os : Os) (started : os.Started) (H : Type) (enc : TypeId × Value → H) :
    ReturnsInHanded {} Tryz.checked os 6 .any (fun w args => (Rows.reptFormsSpec.pre enc Tryz.prog Tryz.f6 [] false w args ∧ laidMetH Tryz.prog Rows.reptFormsRow.laid w) ∧ sizedMet enc Tryz.prog Tryz.f6 (OpenSpec.ofChange Rows.reptFormsSpec) false w args)
      (Rows.reptFormsSpec.post enc Tryz.prog Tryz.f6 false true false false) := by
  refine returns_shape (C := Tryz.checked) (X := fun w _ => laidMetH Tryz.prog Rows.reptFormsRow.laid w) (fun _ _ _ hh h => h.of_heap hh) own started (by kernel_rfl) Tryz.func6
    (ChangeSpec.witness_shaped (enc := enc) (C := Tryz.checked) (os := os) (X := fun w _ => laidMetH Tryz.prog Rows.reptFormsRow.laid w) false (World.laidAll Tryz.prog os Rows.reptFormsRow.laid) #[.int .i64 0] 8 (World.laidAll_os _ _ _) (World.shaped_of_ZipB (by kernel_rfl) (by kernel_rfl)) (by kernel_rfl) (by kernel_rfl) (by kernel_rfl) (door_met os _)) ?_
  intro W base args ds gs before hval hW hsz hL hsh
  have hR := rp_of_laid hL hsh
  refine law_contract (ts := [3]) (tb := 4) laidOut (by rw [Tryz.params6]) rfl Tryz.underlying4 (by kernel_rfl) rfl (fun ds h => by match ds, h with | [_], _ => rfl) hW ?_
  rintro ⟨ps, hA, hlt⟩
  rw [Tryz.params6] at hval
  obtain ⟨v0, vs0, d0, ds0, p0, q0, hargs, rfl, rfl, h0, t0⟩ := trodAll_cons hA
  obtain ⟨rfl, rfl, rfl⟩ := trodAll_nil t0
  obtain rfl : args = #[v0] := by cases args; simp_all
  obtain ⟨a0, rfl, rfl, rfl, w0⟩ := open_int Tryz.underlying3 (hval 0 _ _ rfl rfl) h0
  exact law27_ReptForms hR a0 (St.init W)
end Go.Proofs.YtnnehiiblfmpnaaGreatDoor.reptForms
namespace Go.Proofs.YtnnehiiblfmpnaaGreatDoor
theorem reptForms_jf0 : (Rows.reptFormsRow.wf (OpenSpec.ofChange Rows.reptFormsSpec)) = true := by kernel_rfl
theorem reptForms_jf1 : (laidOutB Tryz.prog) = true := by kernel_rfl
theorem reptForms_jf2 : (mapsRowed Tryz.prog) = true := by kernel_rfl
theorem reptForms_jf3 : (Tryz.f6.params.all (Tryz.prog.readableRec ·)) = true := by kernel_rfl
theorem reptForms_jf4 : (namedTie Tryz.prog Rows.reptFormsRow.named Rows.reptFormsSpec.vars) = true := by kernel_rfl
theorem reptForms_jf5 : (Rows.reptFormsRow.stops == []) = true := by kernel_rfl
theorem reptForms_jf6 : (Tryz.prog.stops == []) = true := by kernel_rfl
theorem reptForms_jf7 : (Rows.reptFormsRow.knobs == []) = true := by kernel_rfl
theorem reptForms_jf8 : (Tryz.prog.stopKnobs == []) = true := by kernel_rfl
theorem reptForms_jf9 : (Rows.reptFormsRow.inPlace == Tryz.prog.inPlace 6) = true := by kernel_rfl
theorem reptForms_jf10 : (Rows.reptFormsRow.unfollowed == Tryz.prog.unfollowed 6) = true := by kernel_rfl
theorem reptForms_jf11 : (Rows.reptFormsRow.recurses == Tryz.prog.recurses 6) = true := by kernel_rfl
theorem reptForms_jf12 : (Rows.reptFormsRow.named == Tryz.prog.varsNamed 6) = true := by kernel_rfl
theorem reptForms_jf13 : (Rows.reptFormsRow.maps == (Tryz.f6.params.toList ++ Rows.reptFormsSpec.plain.varTypes Tryz.prog).any (Tryz.prog.mapsRec ·)) = true := by kernel_rfl
theorem reptForms_jf14 : (Rows.reptFormsRow.ifaces == (Tryz.f6.params.toList ++ Rows.reptFormsSpec.plain.varTypes Tryz.prog).any (Tryz.prog.ifacesRec ·)) = true := by kernel_rfl
theorem reptForms_jf15 : (Rows.reptFormsRow.mapsOut == Tryz.prog.mapsAmong Tryz.f6.resultTypes.toList) = true := by kernel_rfl
theorem reptForms_jf16 : (Rows.reptFormsRow.loops == (Tryz.f6.params.toList ++ Rows.reptFormsSpec.plain.varTypes Tryz.prog).any (Tryz.prog.loopsFrom ·)) = true := by kernel_rfl
theorem reptForms_jf17 : (Rows.reptFormsRow.wideKeys == (Tryz.f6.params.toList ++ Rows.reptFormsSpec.plain.varTypes Tryz.prog ++ Tryz.f6.resultTypes.toList).any (Tryz.prog.wideKeysFrom ·)) = true := by kernel_rfl
theorem reptForms_jf18 : (Rows.reptFormsSpec.vars.all (Tryz.prog.varReadable ·)) = true := by kernel_rfl
theorem reptForms_jf19 : (Tryz.f6.resultTypes.all (fun t => Tryz.prog.readableRec t && decide (t < Tryz.prog.types.size))) = true := by kernel_rfl
theorem reptForms_jf20 : (Rows.reptFormsRow.ifacesOut == Tryz.f6.resultTypes.toList.any (Tryz.prog.ifacesRec ·)) = true := by kernel_rfl
theorem reptForms_jf21 : (Rows.reptFormsRow.loopsOut == Tryz.f6.resultTypes.toList.any (Tryz.prog.loopsFrom ·)) = true := by kernel_rfl
theorem reptForms_jf22 : (Rows.reptFormsRow.plainKeys == Tryz.prog.plainKeys) = true := by kernel_rfl
theorem reptForms_jf23 : (Rows.reptFormsRow.shortTexts.isNone) = true := by kernel_rfl
theorem reptForms_jf24 : (Tryz.prog.stopsHeard) = true := by kernel_rfl
theorem reptForms_jf25 : (Tryz.prog.mayEnter) = true := by kernel_rfl
theorem reptForms_jf26 : (Rows.reptFormsRow.lifted == Tryz.prog.liftsFinal) = true := by kernel_rfl
theorem reptForms_jf27 : (Tryz.prog.make == some Rows.reptFormsRow.make) = true := by kernel_rfl
theorem reptForms_jf29 : (Rows.reptFormsRow.pinned == Rows.reptFormsRow.pinnedBy) = true := by kernel_rfl
theorem reptForms_jf30 : (Rows.reptFormsRow.veiled == (Tryz.f6.params.toList ++ Rows.reptFormsSpec.plain.varTypes Tryz.prog ++ Tryz.f6.resultTypes.toList).any (Tryz.prog.veiledRec ·)) = true := by kernel_rfl
theorem reptForms_jf31 : (Rows.reptFormsRow.veiledFits Tryz.prog Tryz.f6.params.toList (Tryz.f6.params.toList ++ Rows.reptFormsSpec.plain.varTypes Tryz.prog ++ Tryz.f6.resultTypes.toList)) = true := by kernel_rfl
theorem reptForms_closed : joinedFacts Tryz.prog 6 Tryz.f6 Rows.reptFormsSpec Rows.reptFormsRow = true := by
  unfold joinedFacts
  simp only [Bool.and_eq_true]
  exact ⟨⟨⟨⟨⟨⟨⟨⟨⟨⟨⟨⟨⟨⟨⟨⟨⟨⟨⟨⟨⟨⟨⟨⟨⟨⟨⟨⟨⟨⟨⟨reptForms_jf0, reptForms_jf1⟩, reptForms_jf2⟩, reptForms_jf3⟩, reptForms_jf4⟩, reptForms_jf5⟩, reptForms_jf6⟩, reptForms_jf7⟩, reptForms_jf8⟩, reptForms_jf9⟩, reptForms_jf10⟩, reptForms_jf11⟩, reptForms_jf12⟩, reptForms_jf13⟩, reptForms_jf14⟩, reptForms_jf15⟩, reptForms_jf16⟩, reptForms_jf17⟩, reptForms_jf18⟩, reptForms_jf19⟩, reptForms_jf20⟩, reptForms_jf21⟩, reptForms_jf22⟩, reptForms_jf23⟩, reptForms_jf24⟩, reptForms_jf25⟩, reptForms_jf26⟩, reptForms_jf27⟩, by kernel_rfl⟩, reptForms_jf29⟩, reptForms_jf30⟩, reptForms_jf31⟩
theorem reptForms_holds : Rows.ReptFormsSaid :=
  OpenClaim.holds_of_wide 6 Tryz.f6 rfl rfl rfl rfl rfl rfl rfl ⟨rfl, rfl, rfl, rfl, rfl⟩ rfl rfl rfl rfl rfl (by kernel_rfl) Tryz.func6 reptForms_closed
    (of_decide_eq_true (by kernel_rfl)) (by unfold Func.isWrapper; first | (rw [if_pos (by decide +kernel)]; kernel_rfl) | (rw [if_neg (by decide +kernel)]; exact ⟨rfl, rfl⟩))
    (fun os started H enc _ => reptForms.lifted os started H enc)
theorem reptForms_proved : Rows.ReptFormsCardSaid :=
  Claim7.holds_tied_plain_at .later [] [.data, .data, .data, .data, .sentinel, .sentinel, .pinned] true Rows.reptFormsCard.stood.harness true
    reptForms_holds (fun _ h => by cases h) (by kernel_rfl) (fun _ h => by cases h) reptForms_row_tie rfl ⟨rfl, rfl⟩ (by kernel_rfl) rfl
    (fun f fn hf hfn => by
      obtain rfl : f = 6 := Option.some.inj ((show Tryz.prog.funcNamed "ephemeris/ephemerislaw27.ReptForms" = some 6 by kernel_rfl).symm.trans hf) |>.symm
      obtain rfl : fn = Tryz.f6 := (Option.some.inj (Tryz.func6.symm.trans hfn)).symm
      exact ⟨by kernel_rfl, fun j t ht => by
        rw [Tryz.params6] at ht
        match j, ht with
        | 0, ht => cases ht; decide +kernel
        | j + 1, ht => cases ht⟩)
    (by kernel_rfl)
end Go.Proofs.YtnnehiiblfmpnaaGreatDoor
