/- For every slice of samples 'ephemerislaw19.SnapOwn' returns true, and the slice reads as it read before. Conditions: none. -/
import Derived.Test.YtgahjjihfibbnaaRows
import Derived.Test.YtgahjjihfibbnaaHr
import Derived.Test.YtgahjjihfibbnaaHra
import Derived.Test.YtgahjjihfibbnaaLaw19o
namespace Go.Proofs.Ytgahjjihfibbnaa.snapOwn
open Go.Hw Go.ChangeShapes Go.WideShapes Go.ChangeAt Go.RowKit
set_option maxRecDepth 100000

theorem own : ownKnob Try.prog.godebug = none := by kernel_rfl
theorem laidOut : laidOutB Try.prog = true := by kernel_rfl

theorem lifted (os : Os) (started : os.Started) (H : Type) (enc : TypeId × Value → H) :
    ReturnsInHanded {} Try.checked os 10 .any (Rows.snapOwnSpec.pre6 enc Try.prog Try.f10 Rows.snapOwnRow.domain false) (Rows.snapOwnSpec.post enc Try.prog Try.f10 false true false false) := by
  refine returnsInHanded_of_change (C := Try.checked) own started (by kernel_rfl) Try.func10
    (ChangeSpec.witness6 (enc := enc) (C := Try.checked) false ⟨#[], #[.slice none 0 0], []⟩ 8 (by kernel_rfl) (by kernel_rfl) (by kernel_rfl) (by kernel_rfl)) ?_
  intro W base args ds gs before hval hW _ _
  refine law_contract (ts := [41]) (tb := 4) laidOut (by rw [Try.params10]) rfl Try.underlying4 (by kernel_rfl) rfl (fun ds h => by match ds, h with | [_], _ => rfl) hW ?_
  rintro ⟨ps, hA, hlt⟩
  rw [Try.params10] at hval
  obtain ⟨v0, vs0, d0, ds0, p0, q0, hargs, rfl, rfl, h0, t0⟩ := trodAll_cons hA
  obtain ⟨rfl, rfl, rfl⟩ := trodAll_nil t0
  obtain rfl : args = #[v0] := by cases args; simp_all
  obtain ⟨s0, n0, c0, xs0, rfl, l0, w0, r0, b0⟩ := arg_smps Try.underlying41 (by kernel_rfl) (by kernel_rfl) (hval 0 _ _ rfl rfl) h0 (fun x hx => hlt x (by simp [hx]))
  exact by have hl := r0.count smp_len (by decide); subst hl; exact law19_SnapOwn r0 b0 (fun s hs => by have := (w0 s hs).1; simpa [Lit.wf, IntKind.min, IntKind.max, IntKind.signed, IntKind.bits] using this)
end Go.Proofs.Ytgahjjihfibbnaa.snapOwn
namespace Go.Proofs.Ytgahjjihfibbnaa
theorem snapOwn_proved : Rows.SnapOwnSaid :=
  OpenClaim.holds_of_wide 10 Try.f10 rfl rfl rfl rfl rfl rfl rfl ⟨rfl, rfl, rfl, rfl, rfl⟩ rfl rfl rfl rfl rfl (by kernel_rfl) Try.func10 (by kernel_rfl)
    (of_decide_eq_true (by kernel_rfl)) (by unfold Func.isWrapper; first | (rw [if_pos (by decide +kernel)]; kernel_rfl) | (rw [if_neg (by decide +kernel)]; exact ⟨rfl, rfl⟩))
    (fun os started H enc _ => snapOwn.lifted os started H enc)
end Go.Proofs.Ytgahjjihfibbnaa
