/- For every slice of bytes 'ephemerislaw17.BlobOwn' returns true, and the slice reads as it read before. Conditions: none. -/
import Derived.Test.YtgahjjihfibbnaaRows
import Derived.Test.YtgahjjihfibbnaaHr
import Derived.Test.YtgahjjihfibbnaaLaw17
namespace Go.Proofs.Ytgahjjihfibbnaa.blobOwn
open Go.Hw Go.ChangeShapes Go.WideShapes Go.ChangeAt Go.RowKit
set_option maxRecDepth 100000

theorem own : ownKnob Try.prog.godebug = none := by kernel_rfl
theorem laidOut : laidOutB Try.prog = true := by kernel_rfl

theorem lifted (os : Os) (started : os.Started) (H : Type) (enc : TypeId × Value → H) :
    ReturnsInHanded {} Try.checked os 5 .any (Rows.blobOwnSpec.pre6 enc Try.prog Try.f5 Rows.blobOwnRow.domain false) (Rows.blobOwnSpec.post enc Try.prog Try.f5 false true false false) := by
  refine returnsInHanded_of_change (C := Try.checked) own started (by kernel_rfl) Try.func5
    (ChangeSpec.witness6 (enc := enc) (C := Try.checked) false ⟨#[], #[.slice none 0 0], []⟩ 8 (by kernel_rfl) (by kernel_rfl) (by kernel_rfl) (by kernel_rfl)) ?_
  intro W base args ds gs before hval hW _ _
  refine law_contract (ts := [22]) (tb := 4) laidOut (by rw [Try.params5]) rfl Try.underlying4 (by kernel_rfl) rfl (fun ds h => by match ds, h with | [_], _ => rfl) hW ?_
  rintro ⟨ps, hA, hlt⟩
  obtain ⟨v0, d0, rfl, rfl, h0⟩ := trodAll_one hA
  rw [Try.params5] at hval
  obtain ⟨a, n, c, bs, rfl, hn, hr, hb⟩ := arg_bytes Try.underlying22 Try.underlying5 (by kernel_rfl) (hval 0 _ _ rfl rfl) h0 hlt
  exact law17_BlobOwn hr hb
end Go.Proofs.Ytgahjjihfibbnaa.blobOwn
namespace Go.Proofs.Ytgahjjihfibbnaa
theorem blobOwn_proved : Rows.BlobOwnSaid :=
  OpenClaim.holds_of_wide 5 Try.f5 rfl rfl rfl rfl rfl rfl rfl ⟨rfl, rfl, rfl, rfl, rfl⟩ rfl rfl rfl rfl rfl (by kernel_rfl) Try.func5 (by kernel_rfl)
    (of_decide_eq_true (by kernel_rfl)) (by unfold Func.isWrapper; first | (rw [if_pos (by decide +kernel)]; kernel_rfl) | (rw [if_neg (by decide +kernel)]; exact ⟨rfl, rfl⟩))
    (fun os started H enc _ => blobOwn.lifted os started H enc)
end Go.Proofs.Ytgahjjihfibbnaa
