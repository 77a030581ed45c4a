/- Any op and any result have the text that the document says; any text is the op whose text it is, or none. Conditions: none of ours; the listed table starts as the program's own initialiser lays it (tied). -/
import Derived.Test.YtdeaeboijmeefaaGreatDoorRows
import Derived.Test.YtdeaeboijmeefaaGreatDoorTie
import Derived.Test.YtdeaeboijmeefaaGreatDoorCards
import Derived.Lay
import Derived.ProofKit
import Derived.LaidMore
import Derived.Stop.Joined
import Derived.SevenTiedAt
import Derived.Test.YtdeaeboijmeefaaGreatDoorQReptTellsb
set_option linter.unusedVariables false
set_option linter.unusedSimpArgs false
namespace Go.Proofs.YtdeaeboijmeefaaGreatDoor.reptTells
open Go.Hw Go.ChangeShapes Go.WideShapes Go.ChangeAt Go.RowKit
set_option maxRecDepth 100000

theorem own : ownKnob Tryz.prog.godebug = none := by kernel_rfl
theorem laidOut : laidOutB Tryz.prog = true := by kernel_rfl
theorem door_met (os : Os) (args : Array Value) : laidMetH Tryz.prog Rows.reptTellsRow.laid ((World.laidAll Tryz.prog os Rows.reptTellsRow.laid).forCall (fun _ _ => 0) ⟨#[], args, []⟩).memory := by
  rw [MakeChecks.laidMetH_plain _ _ _ (by kernel_rfl)]; exact laidMet_laidAll _ (by kernel_rfl) (by kernel_rfl)

theorem lifted (os : Os) (started : os.Started) (H : Type) (enc : TypeId × Value → H) :
    ReturnsInHanded {} Tryz.checked os 3 .any (fun w args => (Rows.reptTellsSpec.pre enc Tryz.prog Tryz.f3 [] false w args ∧ laidMetH Tryz.prog Rows.reptTellsRow.laid w) ∧ sizedMet enc Tryz.prog Tryz.f3 (OpenSpec.ofChange Rows.reptTellsSpec) false w args)
      (Rows.reptTellsSpec.post enc Tryz.prog Tryz.f3 false true false false) := by
  refine returns_shape (C := Tryz.checked) (X := fun w _ => laidMetH Tryz.prog Rows.reptTellsRow.laid w) (fun _ _ _ hh h => h.of_heap hh) own started (by kernel_rfl) Tryz.func3
    (ChangeSpec.witness_shaped (enc := enc) (C := Tryz.checked) (os := os) (X := fun w _ => laidMetH Tryz.prog Rows.reptTellsRow.laid w) false (World.laidAll Tryz.prog os Rows.reptTellsRow.laid) #[.agg #[.int .i64 0, .int .i64 0, .int .i64 0, .int .i64 0, .int .u64 0, .int .i64 0, .int .i64 0, .int .i64 0], .int .i64 0, .agg #[.int .i64 0, .int .i64 0, .slice none 0 0], .slice none 0 0, .int .i64 0, .int .u8 0] 8 (World.laidAll_os _ _ _) (World.shaped_of_ZipB (by kernel_rfl) (by kernel_rfl)) (by kernel_rfl) (by kernel_rfl) (by kernel_rfl) (door_met os _)) ?_
  intro W base args ds gs before hval hW hsz hL hsh
  have hR := rp_of_laid hL hsh
  refine law_contract (ts := [24, 3, 28, 29, 3, 5]) (tb := 4) laidOut (by rw [Tryz.params3]) rfl Tryz.underlying4 (by kernel_rfl) rfl (fun ds h => by match ds, h with | [_, _, _, _, _, _], _ => rfl) hW ?_
  rintro ⟨ps, hA, hlt⟩
  rw [Tryz.params3] at hval
  obtain ⟨v0, vs0, d0, ds0, p0, q0, hargs, rfl, rfl, h0, t0⟩ := trodAll_cons hA
  obtain ⟨v1, vs1, d1, ds1, p1, q1, rfl, rfl, rfl, h1, t1⟩ := trodAll_cons t0
  obtain ⟨v2, vs2, d2, ds2, p2, q2, rfl, rfl, rfl, h2, t2⟩ := trodAll_cons t1
  obtain ⟨v3, vs3, d3, ds3, p3, q3, rfl, rfl, rfl, h3, t3⟩ := trodAll_cons t2
  obtain ⟨v4, vs4, d4, ds4, p4, q4, rfl, rfl, rfl, h4, t4⟩ := trodAll_cons t3
  obtain ⟨v5, vs5, d5, ds5, p5, q5, rfl, rfl, rfl, h5, t5⟩ := trodAll_cons t4
  obtain ⟨rfl, rfl, rfl⟩ := trodAll_nil t5
  obtain rfl : args = #[v0, v1, v2, v3, v4, v5] := by cases args; simp_all
  obtain ⟨o0, rfl, w0⟩ := arg_op (P := Tryz.prog) (t := 24) (by kernel_rfl) (by kernel_rfl) (hval 0 _ _ rfl rfl) h0
  obtain ⟨a1, rfl, rfl, rfl, w1⟩ := open_int Tryz.underlying3 (hval 1 _ _ rfl rfl) h1
  obtain ⟨s2, c2, q2, rfl, w2, r2⟩ := arg_res (P := Tryz.prog) (t := 28) Tryz.underlying28 rfl (by kernel_rfl) (by kernel_rfl) (by kernel_rfl) (by kernel_rfl) Tryz.underlying25 Tryz.underlying3 Tryz.underlying26 (by kernel_rfl) (by kernel_rfl) (hval 2 _ _ rfl rfl) h2 (fun x hx => hlt x (by simp [hx]))
  obtain ⟨s3, c3, xs3, rfl, l3, w3, r3⟩ := arg_bytesC Tryz.underlying29 Tryz.underlying5 (by kernel_rfl) (hval 3 _ _ rfl rfl) h3 (fun x hx => hlt x (by simp [hx]))
  obtain ⟨a4, rfl, rfl, rfl, w4⟩ := open_int Tryz.underlying3 (hval 4 _ _ rfl rfl) h4
  obtain ⟨a5, rfl, rfl, rfl, w5⟩ := open_int Tryz.underlying5 (hval 5 _ _ rfl rfl) h5
  obtain ⟨y5, rfl⟩ := byte_of w5
  exact law27_ReptTells hR w0 a1 w2 r2 l3 r3 a4 y5 (St.init W)
end Go.Proofs.YtdeaeboijmeefaaGreatDoor.reptTells
namespace Go.Proofs.YtdeaeboijmeefaaGreatDoor
theorem reptTells_jf0 : (Rows.reptTellsRow.wf (OpenSpec.ofChange Rows.reptTellsSpec)) = true := by kernel_rfl
theorem reptTells_jf1 : (laidOutB Tryz.prog) = true := by kernel_rfl
theorem reptTells_jf2 : (mapsRowed Tryz.prog) = true := by kernel_rfl
theorem reptTells_jf3 : (Tryz.f3.params.all (Tryz.prog.readableRec ·)) = true := by kernel_rfl
theorem reptTells_jf4 : (namedTie Tryz.prog Rows.reptTellsRow.named Rows.reptTellsSpec.vars) = true := by kernel_rfl
theorem reptTells_jf5 : (Rows.reptTellsRow.stops == []) = true := by kernel_rfl
theorem reptTells_jf6 : (Tryz.prog.stops == []) = true := by kernel_rfl
theorem reptTells_jf7 : (Rows.reptTellsRow.knobs == []) = true := by kernel_rfl
theorem reptTells_jf8 : (Tryz.prog.stopKnobs == []) = true := by kernel_rfl
theorem reptTells_jf9 : (Rows.reptTellsRow.inPlace == Tryz.prog.inPlace 3) = true := by kernel_rfl
theorem reptTells_jf10 : (Rows.reptTellsRow.unfollowed == Tryz.prog.unfollowed 3) = true := by kernel_rfl
theorem reptTells_jf11 : (Rows.reptTellsRow.recurses == Tryz.prog.recurses 3) = true := by kernel_rfl
theorem reptTells_jf12 : (Rows.reptTellsRow.named == Tryz.prog.varsNamed 3) = true := by kernel_rfl
theorem reptTells_jf13 : (Rows.reptTellsRow.maps == (Tryz.f3.params.toList ++ Rows.reptTellsSpec.plain.varTypes Tryz.prog).any (Tryz.prog.mapsRec ·)) = true := by kernel_rfl
theorem reptTells_jf14 : (Rows.reptTellsRow.ifaces == (Tryz.f3.params.toList ++ Rows.reptTellsSpec.plain.varTypes Tryz.prog).any (Tryz.prog.ifacesRec ·)) = true := by kernel_rfl
theorem reptTells_jf15 : (Rows.reptTellsRow.mapsOut == Tryz.prog.mapsAmong Tryz.f3.resultTypes.toList) = true := by kernel_rfl
theorem reptTells_jf16 : (Rows.reptTellsRow.loops == (Tryz.f3.params.toList ++ Rows.reptTellsSpec.plain.varTypes Tryz.prog).any (Tryz.prog.loopsFrom ·)) = true := by kernel_rfl
theorem reptTells_jf17 : (Rows.reptTellsRow.wideKeys == (Tryz.f3.params.toList ++ Rows.reptTellsSpec.plain.varTypes Tryz.prog ++ Tryz.f3.resultTypes.toList).any (Tryz.prog.wideKeysFrom ·)) = true := by kernel_rfl
theorem reptTells_jf18 : (Rows.reptTellsSpec.vars.all (Tryz.prog.varReadable ·)) = true := by kernel_rfl
theorem reptTells_jf19 : (Tryz.f3.resultTypes.all (fun t => Tryz.prog.readableRec t && decide (t < Tryz.prog.types.size))) = true := by kernel_rfl
theorem reptTells_jf20 : (Rows.reptTellsRow.ifacesOut == Tryz.f3.resultTypes.toList.any (Tryz.prog.ifacesRec ·)) = true := by kernel_rfl
theorem reptTells_jf21 : (Rows.reptTellsRow.loopsOut == Tryz.f3.resultTypes.toList.any (Tryz.prog.loopsFrom ·)) = true := by kernel_rfl
theorem reptTells_jf22 : (Rows.reptTellsRow.plainKeys == Tryz.prog.plainKeys) = true := by kernel_rfl
theorem reptTells_jf23 : (Rows.reptTellsRow.shortTexts.isNone) = true := by kernel_rfl
theorem reptTells_jf24 : (Tryz.prog.stopsHeard) = true := by kernel_rfl
theorem reptTells_jf25 : (Tryz.prog.mayEnter) = true := by kernel_rfl
theorem reptTells_jf26 : (Rows.reptTellsRow.lifted == Tryz.prog.liftsFinal) = true := by kernel_rfl
theorem reptTells_jf27 : (Tryz.prog.make == some Rows.reptTellsRow.make) = true := by kernel_rfl
theorem reptTells_jf29 : (Rows.reptTellsRow.pinned == Rows.reptTellsRow.pinnedBy) = true := by kernel_rfl
theorem reptTells_jf30 : (Rows.reptTellsRow.veiled == (Tryz.f3.params.toList ++ Rows.reptTellsSpec.plain.varTypes Tryz.prog ++ Tryz.f3.resultTypes.toList).any (Tryz.prog.veiledRec ·)) = true := by kernel_rfl
theorem reptTells_jf31 : (Rows.reptTellsRow.veiledFits Tryz.prog Tryz.f3.params.toList (Tryz.f3.params.toList ++ Rows.reptTellsSpec.plain.varTypes Tryz.prog ++ Tryz.f3.resultTypes.toList)) = true := by kernel_rfl
theorem reptTells_closed : joinedFacts Tryz.prog 3 Tryz.f3 Rows.reptTellsSpec Rows.reptTellsRow = true := by
  unfold joinedFacts
  simp only [Bool.and_eq_true]
  exact ⟨⟨⟨⟨⟨⟨⟨⟨⟨⟨⟨⟨⟨⟨⟨⟨⟨⟨⟨⟨⟨⟨⟨⟨⟨⟨⟨⟨⟨⟨⟨reptTells_jf0, reptTells_jf1⟩, reptTells_jf2⟩, reptTells_jf3⟩, reptTells_jf4⟩, reptTells_jf5⟩, reptTells_jf6⟩, reptTells_jf7⟩, reptTells_jf8⟩, reptTells_jf9⟩, reptTells_jf10⟩, reptTells_jf11⟩, reptTells_jf12⟩, reptTells_jf13⟩, reptTells_jf14⟩, reptTells_jf15⟩, reptTells_jf16⟩, reptTells_jf17⟩, reptTells_jf18⟩, reptTells_jf19⟩, reptTells_jf20⟩, reptTells_jf21⟩, reptTells_jf22⟩, reptTells_jf23⟩, reptTells_jf24⟩, reptTells_jf25⟩, reptTells_jf26⟩, reptTells_jf27⟩, by kernel_rfl⟩, reptTells_jf29⟩, reptTells_jf30⟩, reptTells_jf31⟩
theorem reptTells_holds : Rows.ReptTellsSaid :=
  OpenClaim.holds_of_wide 3 Tryz.f3 rfl rfl rfl rfl rfl rfl rfl ⟨rfl, rfl, rfl, rfl, rfl⟩ rfl rfl rfl rfl rfl (by kernel_rfl) Tryz.func3 reptTells_closed
    (of_decide_eq_true (by kernel_rfl)) (by unfold Func.isWrapper; first | (rw [if_pos (by decide +kernel)]; kernel_rfl) | (rw [if_neg (by decide +kernel)]; exact ⟨rfl, rfl⟩))
    (fun os started H enc _ => reptTells.lifted os started H enc)
theorem reptTells_proved : Rows.ReptTellsCardSaid :=
  Claim7.holds_tied_plain_at .later [] [.data, .data, .data, .data, .sentinel, .sentinel, .pinned] true Rows.reptTellsCard.stood.harness true
    reptTells_holds (fun _ h => by cases h) (by kernel_rfl) (fun _ h => by cases h) reptTells_row_tie rfl ⟨rfl, rfl⟩ (by kernel_rfl) rfl
    (fun f fn hf hfn => by
      obtain rfl : f = 3 := Option.some.inj ((show Tryz.prog.funcNamed "ephemeris/ephemerislaw27.ReptTells" = some 3 by kernel_rfl).symm.trans hf) |>.symm
      obtain rfl : fn = Tryz.f3 := (Option.some.inj (Tryz.func3.symm.trans hfn)).symm
      exact ⟨by kernel_rfl, fun j t ht => by
        rw [Tryz.params3] at ht
        match j, ht with
        | 0, ht => cases ht; decide +kernel
        | 1, ht => cases ht; decide +kernel
        | 2, ht => cases ht; decide +kernel
        | 3, ht => cases ht; decide +kernel
        | 4, ht => cases ht; decide +kernel
        | 5, ht => cases ht; decide +kernel
        | j + 6, ht => cases ht⟩)
    (by kernel_rfl)
end Go.Proofs.YtdeaeboijmeefaaGreatDoor
