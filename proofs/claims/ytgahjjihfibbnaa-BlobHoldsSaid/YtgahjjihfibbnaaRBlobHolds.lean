/- For any number and every slice of bytes 'ephemerislaw17.BlobHolds' returns true, and the slice reads as it read before. Conditions: none. -/
import Derived.Test.YtgahjjihfibbnaaRows
import Derived.Test.YtgahjjihfibbnaaHr
import Derived.Test.YtgahjjihfibbnaaLaw17h
namespace Go.Proofs.Ytgahjjihfibbnaa.blobHolds
open Go.Hw Go.ChangeShapes Go.WideShapes Go.ChangeAt Go.RowKit
set_option maxRecDepth 100000

theorem own : ownKnob Try.prog.godebug = none := by kernel_rfl
theorem laidOut : laidOutB Try.prog = true := by kernel_rfl

theorem lifted (os : Os) (started : os.Started) (H : Type) (enc : TypeId × Value → H) :
    ReturnsInHanded {} Try.checked os 3 .any (Rows.blobHoldsSpec.pre6 enc Try.prog Try.f3 Rows.blobHoldsRow.domain false) (Rows.blobHoldsSpec.post enc Try.prog Try.f3 false true false false) := by
  refine returnsInHanded_of_change (C := Try.checked) own started (by kernel_rfl) Try.func3
    (ChangeSpec.witness6 (enc := enc) (C := Try.checked) false ⟨#[], #[.int .i64 0, .slice none 0 0], []⟩ 8 (by kernel_rfl) (by kernel_rfl) (by kernel_rfl) (by kernel_rfl)) ?_
  intro W base args ds gs before hval hW _ _
  refine law_contract (ts := [3, 22]) (tb := 4) laidOut (by rw [Try.params3]) rfl Try.underlying4 (by kernel_rfl) rfl (fun ds h => by match ds, h with | [_, _], _ => rfl) hW ?_
  rintro ⟨ps, hA, hlt⟩
  rw [Try.params3] at hval
  obtain ⟨v0, vs0, d0, ds0, p0, q0, hargs, rfl, rfl, h0, t0⟩ := trodAll_cons hA
  obtain ⟨v1, vs1, d1, ds1, p1, q1, rfl, rfl, rfl, h1, t1⟩ := trodAll_cons t0
  obtain ⟨rfl, rfl, rfl⟩ := trodAll_nil t1
  obtain rfl : args = #[v0, v1] := by cases args; simp_all
  obtain ⟨a0, rfl, rfl, rfl, w0⟩ := open_int Try.underlying3 (hval 0 _ _ rfl rfl) h0
  obtain ⟨s1, n1, c1, xs1, rfl, l1, r1, b1⟩ := arg_bytes Try.underlying22 Try.underlying5 (by kernel_rfl) (hval 1 _ _ rfl rfl) h1 (fun x hx => hlt x (by simp [hx]))
  exact law17_BlobHolds a0 r1 b1
end Go.Proofs.Ytgahjjihfibbnaa.blobHolds
namespace Go.Proofs.Ytgahjjihfibbnaa
theorem blobHolds_proved : Rows.BlobHoldsSaid :=
  OpenClaim.holds_of_wide 3 Try.f3 rfl rfl rfl rfl rfl rfl rfl ⟨rfl, rfl, rfl, rfl, rfl⟩ rfl rfl rfl rfl rfl (by kernel_rfl) Try.func3 (by kernel_rfl)
    (of_decide_eq_true (by kernel_rfl)) (by unfold Func.isWrapper; first | (rw [if_pos (by decide +kernel)]; kernel_rfl) | (rw [if_neg (by decide +kernel)]; exact ⟨rfl, rfl⟩))
    (fun os started H enc _ => blobHolds.lifted os started H enc)
end Go.Proofs.Ytgahjjihfibbnaa
