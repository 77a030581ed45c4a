/- Ops that are done one behind the other, each to its end, answer what one hand alone would; but for want of room, when they do nothing. Conditions: none of ours; the listed table starts as the program's own initialiser lays it (tied). -/
import Derived.Test.YtngdfdangkdgcaaGreatDoorRows
import Derived.Test.YtngdfdangkdgcaaGreatDoorTie
import Derived.Test.YtngdfdangkdgcaaGreatDoorCards
import Derived.ProofKit
import Derived.LaidMore
import Derived.Stop.Joined
import Derived.SevenTiedAt
import Derived.Test.YtngdfdangkdgcaaGreatDoorQProgAloneh
set_option linter.unusedVariables false
set_option linter.unusedSimpArgs false
namespace Go.Proofs.YtngdfdangkdgcaaGreatDoor.progAlone
open Go.Hw Go.ChangeShapes Go.WideShapes Go.ChangeAt Go.RowKit
set_option maxRecDepth 100000

theorem own : ownKnob Tryz.prog.godebug = none := by kernel_rfl
theorem laidOut : laidOutB Tryz.prog = true := by kernel_rfl
/-- The door's own heap meets the condition: three closed facts. -/
theorem door_met (os : Os) (args : Array Value) : laidMetH Tryz.prog Rows.progAloneRow.laid ((World.doorLaid Tryz.prog 14 os).forCall (fun _ _ => 0) ⟨#[], args, []⟩).memory :=
  laidMetH_of_parts3 (fuel := 8) (laidMet_of_run' 8 (by kernel_rfl) (by kernel_rfl)) (by kernel_rfl) (by kernel_rfl)

theorem lifted (os : Os) (started : os.Started) (H : Type) (enc : TypeId × Value → H) :
    ReturnsInHanded {} Tryz.checked os 10 .any (fun w args => (Rows.progAloneSpec.pre enc Tryz.prog Tryz.f10 [] false w args ∧ laidMetH Tryz.prog Rows.progAloneRow.laid w) ∧ sizedMet enc Tryz.prog Tryz.f10 (OpenSpec.ofChange Rows.progAloneSpec) false w args)
      (Rows.progAloneSpec.post enc Tryz.prog Tryz.f10 false true false false) := by
  refine returnsInHanded_of_change_and (C := Tryz.checked) (X := fun w _ => laidMetH Tryz.prog Rows.progAloneRow.laid w) (fun _ _ _ hh h => h.of_heap hh) own started (by kernel_rfl) Tryz.func10
    (ChangeSpec.witness_shaped (enc := enc) (C := Tryz.checked) (os := os) (X := fun w _ => laidMetH Tryz.prog Rows.progAloneRow.laid w) false (World.doorLaid Tryz.prog 14 os) #[.int .i64 0, .int .i64 0, .slice none 0 0, .slice none 0 0] 8 rfl (World.shaped_of_RefB (by kernel_rfl) (by kernel_rfl)) (by kernel_rfl) (by kernel_rfl) (by kernel_rfl) (door_met os _)) ?_
  intro W base args ds gs before hval hW _ hsz hL _
  have hT := tz_of_laid hL
  refine law_contract (ts := [3, 3, 54, 64]) (tb := 4) laidOut (by rw [Tryz.params10]) rfl Tryz.underlying4 (by kernel_rfl) rfl (fun ds h => by match ds, h with | [_, _, _, _], _ => rfl) hW ?_
  rintro ⟨ps, hA, hlt⟩
  rw [Tryz.params10] at hval
  obtain ⟨v0, vs0, d0, ds0, p0, q0, hargs, rfl, rfl, h0, t0⟩ := trodAll_cons hA
  obtain ⟨v1, vs1, d1, ds1, p1, q1, rfl, rfl, rfl, h1, t1⟩ := trodAll_cons t0
  obtain ⟨v2, vs2, d2, ds2, p2, q2, rfl, rfl, rfl, h2, t2⟩ := trodAll_cons t1
  obtain ⟨v3, vs3, d3, ds3, p3, q3, rfl, rfl, rfl, h3, t3⟩ := trodAll_cons t2
  obtain ⟨rfl, rfl, rfl⟩ := trodAll_nil t3
  obtain rfl : args = #[v0, v1, v2, v3] := by cases args; simp_all
  obtain ⟨a0, rfl, rfl, rfl, w0⟩ := open_int Tryz.underlying3 (hval 0 _ _ rfl rfl) h0
  obtain ⟨a1, rfl, rfl, rfl, w1⟩ := open_int Tryz.underlying3 (hval 1 _ _ rfl rfl) h1
  obtain ⟨s2, c2, xs2, rfl, l2, w2, r2⟩ := arg_i64s Tryz.underlying54 Tryz.underlying3 (by kernel_rfl) (hval 2 _ _ rfl rfl) h2 (fun x hx => hlt x (by simp [hx]))
  obtain ⟨s3, c3, xs3, rfl, l3, w3, r3⟩ := arg_opsR Tryz.underlying64 (by kernel_rfl) (by kernel_rfl) (hval 3 _ _ rfl rfl) h3 (fun x hx => hlt x (by simp [hx]))
  exact law22_ProgAlone hT a0 a1 w2 l2 r2 w3 l3 r3 (St.init W)
end Go.Proofs.YtngdfdangkdgcaaGreatDoor.progAlone
namespace Go.Proofs.YtngdfdangkdgcaaGreatDoor
theorem progAlone_holds : Rows.ProgAloneSaid :=
  OpenClaim.holds_of_wide 10 Tryz.f10 rfl rfl rfl rfl rfl rfl rfl ⟨rfl, rfl, rfl, rfl, rfl⟩ rfl rfl rfl rfl rfl (by kernel_rfl) Tryz.func10 (by kernel_rfl)
    (of_decide_eq_true (by kernel_rfl)) (by unfold Func.isWrapper; first | (rw [if_pos (by decide +kernel)]; kernel_rfl) | (rw [if_neg (by decide +kernel)]; exact ⟨rfl, rfl⟩))
    (fun os started H enc _ => progAlone.lifted os started H enc)
theorem progAlone_proved : Rows.ProgAloneCardSaid :=
  Claim7.holds_tied_plain_at .later [] [.data] true Rows.progAloneCard.stood.harness false
    progAlone_holds (fun _ h => by cases h) (by kernel_rfl) (fun _ h => by cases h) progAlone_row_tie rfl ⟨rfl, rfl⟩ (by kernel_rfl) rfl
    (fun f fn hf hfn => by
      obtain rfl : f = 10 := Option.some.inj ((show Tryz.prog.funcNamed "ephemeris/ephemerislaw22.ProgAlone" = some 10 by kernel_rfl).symm.trans hf) |>.symm
      obtain rfl : fn = Tryz.f10 := (Option.some.inj (Tryz.func10.symm.trans hfn)).symm
      exact ⟨by kernel_rfl, fun j t ht => by
        rw [Tryz.params10] at ht
        match j, ht with
        | 0, ht => cases ht; decide +kernel
        | 1, ht => cases ht; decide +kernel
        | 2, ht => cases ht; decide +kernel
        | 3, ht => cases ht; decide +kernel
        | j + 4, ht => cases ht⟩)
    (by kernel_rfl)
end Go.Proofs.YtngdfdangkdgcaaGreatDoor
