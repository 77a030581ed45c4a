/- For all arguments 'ephemerislaw21.IterPlays' returns true, and they read as they read before. Conditions: none. -/
import Derived.Test.YtgahjjihfibbnaaRows
import Derived.Test.YtgahjjihfibbnaaHr
import Derived.Test.YtgahjjihfibbnaaHrb
import Derived.Test.YtgahjjihfibbnaaLaw21p
namespace Go.Proofs.Ytgahjjihfibbnaa.iterPlays
open Go.Hw Go.ChangeShapes Go.WideShapes Go.ChangeAt Go.RowKit
set_option maxRecDepth 100000

theorem own : ownKnob Try.prog.godebug = none := by kernel_rfl
theorem laidOut : laidOutB Try.prog = true := by kernel_rfl

theorem lifted (os : Os) (started : os.Started) (H : Type) (enc : TypeId × Value → H) :
    ReturnsInHanded {} Try.checked os 9 .any (Rows.iterPlaysSpec.pre6 enc Try.prog Try.f9 Rows.iterPlaysRow.domain false) (Rows.iterPlaysSpec.post enc Try.prog Try.f9 false true false false) := by
  refine returnsInHanded_of_change_sized (C := Try.checked) own started (by kernel_rfl) Try.func9
    (ChangeSpec.witness6 (enc := enc) (C := Try.checked) false ⟨#[], #[.slice none 0 0, .slice none 0 0], []⟩ 8 (by kernel_rfl) (by kernel_rfl) (by kernel_rfl) (by kernel_rfl)) ?_
  intro W base args ds gs before hval hW _ hsz _
  refine law_contract (ts := [59, 60]) (tb := 4) laidOut (by rw [Try.params9]) rfl Try.underlying4 (by kernel_rfl) rfl (fun ds h => by match ds, h with | [_, _], _ => rfl) hW ?_
  rintro ⟨ps, hA, hlt⟩
  rw [Try.params9] at hval
  obtain ⟨v0, vs0, d0, ds0, p0, q0, hargs, rfl, rfl, h0, t0⟩ := trodAll_cons hA
  obtain ⟨v1, vs1, d1, ds1, p1, q1, rfl, rfl, rfl, h1, t1⟩ := trodAll_cons t0
  obtain ⟨rfl, rfl, rfl⟩ := trodAll_nil t1
  obtain rfl : args = #[v0, v1] := by cases args; simp_all
  rw [Try.params9] at hsz
  obtain ⟨s0, n0, c0, xs0, rfl, l0, w0, r0, b0⟩ := arg_nums Try.underlying59 Try.underlying3 (by kernel_rfl) (hval 0 _ _ rfl rfl) h0 (fun x hx => hlt x (by simp [hx]))
  obtain ⟨s1, n1, c1, xs1, rfl, l1, w1, r1, b1⟩ := arg_rows Try.underlying60 Try.underlying41 (by kernel_rfl) (by kernel_rfl) (by kernel_rfl) (hval 1 _ _ rfl rfl) h1 (fun x hx => hlt x (by simp [hx])) (weights_arg hsz (j := 1) rfl rfl)
  exact law21_IterPlays r0 b0 r1 b1 w1
end Go.Proofs.Ytgahjjihfibbnaa.iterPlays
namespace Go.Proofs.Ytgahjjihfibbnaa
theorem iterPlays_proved : Rows.IterPlaysSaid :=
  OpenClaim.holds_of_wide 9 Try.f9 rfl rfl rfl rfl rfl rfl rfl ⟨rfl, rfl, rfl, rfl, rfl⟩ rfl rfl rfl rfl rfl (by kernel_rfl) Try.func9 (by kernel_rfl)
    (of_decide_eq_true (by kernel_rfl)) (by unfold Func.isWrapper; first | (rw [if_pos (by decide +kernel)]; kernel_rfl) | (rw [if_neg (by decide +kernel)]; exact ⟨rfl, rfl⟩))
    (fun os started H enc _ => iterPlays.lifted os started H enc)
end Go.Proofs.Ytgahjjihfibbnaa
