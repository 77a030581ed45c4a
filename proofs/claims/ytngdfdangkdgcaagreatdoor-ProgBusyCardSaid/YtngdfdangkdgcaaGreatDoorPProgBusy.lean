/- Where all frames are pinned by others a read of a chunk that is in none is refused, and leaves nothing behind; when one is free it is answered. Conditions: none of ours; the listed table starts as the program's own initialiser lays it (tied). -/
import Derived.Test.YtngdfdangkdgcaaGreatDoorRows
import Derived.Test.YtngdfdangkdgcaaGreatDoorTie
import Derived.Test.YtngdfdangkdgcaaGreatDoorCards
import Derived.ProofKit
import Derived.LaidMore
import Derived.Stop.Joined
import Derived.SevenTiedAt
import Derived.Test.YtngdfdangkdgcaaGreatDoorQProgBusyg
set_option linter.unusedVariables false
set_option linter.unusedSimpArgs false
namespace Go.Proofs.YtngdfdangkdgcaaGreatDoor.progBusy
open Go.Hw Go.ChangeShapes Go.WideShapes Go.ChangeAt Go.RowKit
set_option maxRecDepth 100000

theorem own : ownKnob Tryz.prog.godebug = none := by kernel_rfl
theorem laidOut : laidOutB Tryz.prog = true := by kernel_rfl
/-- The door's own heap meets the condition: three closed facts. -/
theorem door_met (os : Os) (args : Array Value) : laidMetH Tryz.prog Rows.progBusyRow.laid ((World.doorLaid Tryz.prog 14 os).forCall (fun _ _ => 0) ⟨#[], args, []⟩).memory :=
  laidMetH_of_parts3 (fuel := 8) (laidMet_of_run' 8 (by kernel_rfl) (by kernel_rfl)) (by kernel_rfl) (by kernel_rfl)

theorem lifted (os : Os) (started : os.Started) (H : Type) (enc : TypeId × Value → H) :
    ReturnsInHanded {} Tryz.checked os 4 .any (fun w args => (Rows.progBusySpec.pre enc Tryz.prog Tryz.f4 [] false w args ∧ laidMetH Tryz.prog Rows.progBusyRow.laid w) ∧ sizedMet enc Tryz.prog Tryz.f4 (OpenSpec.ofChange Rows.progBusySpec) false w args)
      (Rows.progBusySpec.post enc Tryz.prog Tryz.f4 false true false false) := by
  refine returnsInHanded_of_change_and (C := Tryz.checked) (X := fun w _ => laidMetH Tryz.prog Rows.progBusyRow.laid w) (fun _ _ _ hh h => h.of_heap hh) own started (by kernel_rfl) Tryz.func4
    (ChangeSpec.witness_shaped (enc := enc) (C := Tryz.checked) (os := os) (X := fun w _ => laidMetH Tryz.prog Rows.progBusyRow.laid w) false (World.doorLaid Tryz.prog 14 os) #[.int .i64 0, .int .i64 0] 8 rfl (World.shaped_of_RefB (by kernel_rfl) (by kernel_rfl)) (by kernel_rfl) (by kernel_rfl) (by kernel_rfl) (door_met os _)) ?_
  intro W base args ds gs before hval hW _ hsz hL _
  have hT := tz_of_laid hL
  refine law_contract (ts := [3, 3]) (tb := 4) laidOut (by rw [Tryz.params4]) rfl Tryz.underlying4 (by kernel_rfl) rfl (fun ds h => by match ds, h with | [_, _], _ => rfl) hW ?_
  rintro ⟨ps, hA, hlt⟩
  rw [Tryz.params4] at hval
  obtain ⟨v0, vs0, d0, ds0, p0, q0, hargs, rfl, rfl, h0, t0⟩ := trodAll_cons hA
  obtain ⟨v1, vs1, d1, ds1, p1, q1, rfl, rfl, rfl, h1, t1⟩ := trodAll_cons t0
  obtain ⟨rfl, rfl, rfl⟩ := trodAll_nil t1
  obtain rfl : args = #[v0, v1] := by cases args; simp_all
  obtain ⟨a0, rfl, rfl, rfl, w0⟩ := open_int Tryz.underlying3 (hval 0 _ _ rfl rfl) h0
  obtain ⟨a1, rfl, rfl, rfl, w1⟩ := open_int Tryz.underlying3 (hval 1 _ _ rfl rfl) h1
  exact law22_ProgBusy hT a0 a1 (St.init W)
end Go.Proofs.YtngdfdangkdgcaaGreatDoor.progBusy
namespace Go.Proofs.YtngdfdangkdgcaaGreatDoor
theorem progBusy_holds : Rows.ProgBusySaid :=
  OpenClaim.holds_of_wide 4 Tryz.f4 rfl rfl rfl rfl rfl rfl rfl ⟨rfl, rfl, rfl, rfl, rfl⟩ rfl rfl rfl rfl rfl (by kernel_rfl) Tryz.func4 (by kernel_rfl)
    (of_decide_eq_true (by kernel_rfl)) (by unfold Func.isWrapper; first | (rw [if_pos (by decide +kernel)]; kernel_rfl) | (rw [if_neg (by decide +kernel)]; exact ⟨rfl, rfl⟩))
    (fun os started H enc _ => progBusy.lifted os started H enc)
theorem progBusy_proved : Rows.ProgBusyCardSaid :=
  Claim7.holds_tied_plain_at .later [] [.data] true Rows.progBusyCard.stood.harness false
    progBusy_holds (fun _ h => by cases h) (by kernel_rfl) (fun _ h => by cases h) progBusy_row_tie rfl ⟨rfl, rfl⟩ (by kernel_rfl) rfl
    (fun f fn hf hfn => by
      obtain rfl : f = 4 := Option.some.inj ((show Tryz.prog.funcNamed "ephemeris/ephemerislaw22.ProgBusy" = some 4 by kernel_rfl).symm.trans hf) |>.symm
      obtain rfl : fn = Tryz.f4 := (Option.some.inj (Tryz.func4.symm.trans hfn)).symm
      exact ⟨by kernel_rfl, fun j t ht => by
        rw [Tryz.params4] at ht
        match j, ht with
        | 0, ht => cases ht; decide +kernel
        | 1, ht => cases ht; decide +kernel
        | j + 2, ht => cases ht⟩)
    (by kernel_rfl)
end Go.Proofs.YtngdfdangkdgcaaGreatDoor
