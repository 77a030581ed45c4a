/- For all arguments 'ephemerislaw12.WorkOwn' returns true, and they read as they read before. Conditions: none of ours; the listed table starts as the program's own initialiser lays it (tied). -/
import Derived.Test.YtjjacchnalemaaaGreatDoorRows
import Derived.Test.YtjjacchnalemaaaGreatDoorTie
import Derived.Test.YtjjacchnalemaaaGreatDoorCards
import Derived.ProofKit
import Derived.LaidMore
import Derived.Stop.Joined
import Derived.SevenTiedAt
import Derived.Test.YtjjacchnalemaaaGreatDoorQWorkOwnf
namespace Go.Proofs.YtjjacchnalemaaaGreatDoor.workOwn
open Go.Hw Go.ChangeShapes Go.WideShapes Go.ChangeAt Go.RowKit
set_option maxRecDepth 100000

theorem own : ownKnob Tryz.prog.godebug = none := by kernel_rfl
theorem laidOut : laidOutB Tryz.prog = true := by kernel_rfl
/-- The door's own heap meets the condition: three closed facts. -/
theorem door_met (os : Os) (args : Array Value) : laidMetH Tryz.prog Rows.workOwnRow.laid ((World.doorLaid Tryz.prog 14 os).forCall (fun _ _ => 0) ⟨#[], args, []⟩).memory :=
  laidMetH_of_parts3 (fuel := 8) (laidMet_of_run' 8 (by kernel_rfl) (by kernel_rfl)) (by kernel_rfl) (by kernel_rfl)

theorem lifted (os : Os) (started : os.Started) (H : Type) (enc : TypeId × Value → H) :
    ReturnsInHanded {} Tryz.checked os 5 .any (fun w args => (Rows.workOwnSpec.pre enc Tryz.prog Tryz.f5 [] false w args ∧ laidMetH Tryz.prog Rows.workOwnRow.laid w) ∧ sizedMet enc Tryz.prog Tryz.f5 (OpenSpec.ofChange Rows.workOwnSpec) false w args)
      (Rows.workOwnSpec.post enc Tryz.prog Tryz.f5 false true false false) := by
  refine returnsInHanded_of_change_and (C := Tryz.checked) (X := fun w _ => laidMetH Tryz.prog Rows.workOwnRow.laid w) (fun _ _ _ hh h => h.of_heap hh) own started (by kernel_rfl) Tryz.func5
    (ChangeSpec.witness_shaped (enc := enc) (C := Tryz.checked) (os := os) (X := fun w _ => laidMetH Tryz.prog Rows.workOwnRow.laid w) false (World.doorLaid Tryz.prog 14 os) #[.slice none 0 0, .slice none 0 0, .int .i64 0] 8 rfl (World.shaped_of_RefB (by kernel_rfl) (by kernel_rfl)) (by kernel_rfl) (by kernel_rfl) (by kernel_rfl) (door_met os _)) ?_
  intro W base args ds gs before hval hW _ hsz hL _
  have hT := tz_of_laid hL
  refine law_contract (ts := [23, 24, 3]) (tb := 4) laidOut (by rw [Tryz.params5]) rfl Tryz.underlying4 (by kernel_rfl) rfl (fun ds h => by match ds, h with | [_, _, _], _ => rfl) hW ?_
  rintro ⟨ps, hA, hlt⟩
  rw [Tryz.params5] at hval
  obtain ⟨v0, vs0, d0, ds0, p0, q0, hargs, rfl, rfl, h0, t0⟩ := trodAll_cons hA
  obtain ⟨v1, vs1, d1, ds1, p1, q1, rfl, rfl, rfl, h1, t1⟩ := trodAll_cons t0
  obtain ⟨v2, vs2, d2, ds2, p2, q2, rfl, rfl, rfl, h2, t2⟩ := trodAll_cons t1
  obtain ⟨rfl, rfl, rfl⟩ := trodAll_nil t2
  obtain rfl : args = #[v0, v1, v2] := by cases args; simp_all
  obtain ⟨s0, c0, xs0, rfl, l0, w0, r0⟩ := arg_i64s Tryz.underlying23 Tryz.underlying3 (by kernel_rfl) (hval 0 _ _ rfl rfl) h0 (fun x hx => hlt x (by simp [hx]))
  obtain ⟨s1, c1, xs1, rfl, l1, w1, r1⟩ := arg_u64s Tryz.underlying24 Tryz.underlying51 (by kernel_rfl) (hval 1 _ _ rfl rfl) h1 (fun x hx => hlt x (by simp [hx]))
  obtain ⟨a2, rfl, rfl, rfl, w2⟩ := open_int Tryz.underlying3 (hval 2 _ _ rfl rfl) h2
  exact law12_WorkOwn hT a2 w0 l0 r0 w1 l1 r1 (St.init W)
end Go.Proofs.YtjjacchnalemaaaGreatDoor.workOwn
namespace Go.Proofs.YtjjacchnalemaaaGreatDoor
theorem workOwn_holds : Rows.WorkOwnSaid :=
  OpenClaim.holds_of_wide 5 Tryz.f5 rfl rfl rfl rfl rfl rfl rfl ⟨rfl, rfl, rfl, rfl, rfl⟩ rfl rfl rfl rfl rfl (by kernel_rfl) Tryz.func5 (by kernel_rfl)
    (of_decide_eq_true (by kernel_rfl)) (by unfold Func.isWrapper; first | (rw [if_pos (by decide +kernel)]; kernel_rfl) | (rw [if_neg (by decide +kernel)]; exact ⟨rfl, rfl⟩))
    (fun os started H enc _ => workOwn.lifted os started H enc)
theorem workOwn_proved : Rows.WorkOwnCardSaid :=
  Claim7.holds_tied_plain_at .later [] [.data] true Rows.workOwnCard.stood.harness false
    workOwn_holds (fun _ h => by cases h) (by kernel_rfl) (fun _ h => by cases h) workOwn_row_tie rfl ⟨rfl, rfl⟩ (by kernel_rfl) rfl
    (fun f fn hf hfn => by
      obtain rfl : f = 5 := Option.some.inj ((show Tryz.prog.funcNamed "ephemeris/ephemerislaw12.WorkOwn" = some 5 by kernel_rfl).symm.trans hf) |>.symm
      obtain rfl : fn = Tryz.f5 := (Option.some.inj (Tryz.func5.symm.trans hfn)).symm
      exact ⟨by kernel_rfl, fun j t ht => by
        rw [Tryz.params5] at ht
        match j, ht with
        | 0, ht => cases ht; decide +kernel
        | 1, ht => cases ht; decide +kernel
        | 2, ht => cases ht; decide +kernel
        | j + 3, ht => cases ht⟩)
    (by kernel_rfl)
end Go.Proofs.YtjjacchnalemaaaGreatDoor
