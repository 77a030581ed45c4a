/- For all arguments 'ephemerislaw19.SnapTells' returns true, and they read as they read before. Conditions: none. -/
import Derived.Test.YtgahjjihfibbnaaRows
import Derived.Test.YtgahjjihfibbnaaHr
import Derived.Test.YtgahjjihfibbnaaHra
import Derived.Test.YtgahjjihfibbnaaLaw19u
namespace Go.Proofs.Ytgahjjihfibbnaa.snapTells
open Go.Hw Go.ChangeShapes Go.WideShapes Go.ChangeAt Go.RowKit
set_option maxRecDepth 100000

theorem own : ownKnob Try.prog.godebug = none := by kernel_rfl
theorem laidOut : laidOutB Try.prog = true := by kernel_rfl

theorem lifted (os : Os) (started : os.Started) (H : Type) (enc : TypeId × Value → H) :
    ReturnsInHanded {} Try.checked os 11 .any (Rows.snapTellsSpec.pre6 enc Try.prog Try.f11 Rows.snapTellsRow.domain false) (Rows.snapTellsSpec.post enc Try.prog Try.f11 false true false false) := by
  refine returnsInHanded_of_change (C := Try.checked) own started (by kernel_rfl) Try.func11
    (ChangeSpec.witness6 (enc := enc) (C := Try.checked) false ⟨#[], #[.slice none 0 0, .slice none 0 0, .int .i64 0, .int .i64 0, .bool false, .int .i64 0], []⟩ 8 (by kernel_rfl) (by kernel_rfl) (by kernel_rfl) (by kernel_rfl)) ?_
  intro W base args ds gs before hval hW _ _
  refine law_contract (ts := [59, 41, 2, 2, 4, 3]) (tb := 4) laidOut (by rw [Try.params11]) rfl Try.underlying4 (by kernel_rfl) rfl (fun ds h => by match ds, h with | [_, _, _, _, _, _], _ => rfl) hW ?_
  rintro ⟨ps, hA, hlt⟩
  rw [Try.params11] at hval
  obtain ⟨v0, vs0, d0, ds0, p0, q0, hargs, rfl, rfl, h0, t0⟩ := trodAll_cons hA
  obtain ⟨v1, vs1, d1, ds1, p1, q1, rfl, rfl, rfl, h1, t1⟩ := trodAll_cons t0
  obtain ⟨v2, vs2, d2, ds2, p2, q2, rfl, rfl, rfl, h2, t2⟩ := trodAll_cons t1
  obtain ⟨v3, vs3, d3, ds3, p3, q3, rfl, rfl, rfl, h3, t3⟩ := trodAll_cons t2
  obtain ⟨v4, vs4, d4, ds4, p4, q4, rfl, rfl, rfl, h4, t4⟩ := trodAll_cons t3
  obtain ⟨v5, vs5, d5, ds5, p5, q5, rfl, rfl, rfl, h5, t5⟩ := trodAll_cons t4
  obtain ⟨rfl, rfl, rfl⟩ := trodAll_nil t5
  obtain rfl : args = #[v0, v1, v2, v3, v4, v5] := by cases args; simp_all
  obtain ⟨s0, n0, c0, xs0, rfl, l0, w0, r0, b0⟩ := arg_nums Try.underlying59 Try.underlying3 (by kernel_rfl) (hval 0 _ _ rfl rfl) h0 (fun x hx => hlt x (by simp [hx]))
  obtain ⟨s1, n1, c1, xs1, rfl, l1, w1, r1, b1⟩ := arg_smps Try.underlying41 (by kernel_rfl) (by kernel_rfl) (hval 1 _ _ rfl rfl) h1 (fun x hx => hlt x (by simp [hx]))
  obtain ⟨a2, rfl, rfl, rfl, w2⟩ := open_int Try.underlying2 (hval 2 _ _ rfl rfl) h2
  obtain ⟨a3, rfl, rfl, rfl, w3⟩ := open_int Try.underlying2 (hval 3 _ _ rfl rfl) h3
  obtain ⟨a4, rfl, rfl, rfl⟩ := open_bool Try.underlying4 (hval 4 _ _ rfl rfl) h4
  obtain ⟨a5, rfl, rfl, rfl, w5⟩ := open_int Try.underlying3 (hval 5 _ _ rfl rfl) h5
  exact by have hl := r1.count smp_len (by decide); subst hl; exact law19_SnapTells a2 a3 a4 a5 r0 b0 r1 b1 (by simpa [maxLen] using l0)
end Go.Proofs.Ytgahjjihfibbnaa.snapTells
namespace Go.Proofs.Ytgahjjihfibbnaa
theorem snapTells_proved : Rows.SnapTellsSaid :=
  OpenClaim.holds_of_wide 11 Try.f11 rfl rfl rfl rfl rfl rfl rfl ⟨rfl, rfl, rfl, rfl, rfl⟩ rfl rfl rfl rfl rfl (by kernel_rfl) Try.func11 (by kernel_rfl)
    (of_decide_eq_true (by kernel_rfl)) (by unfold Func.isWrapper; first | (rw [if_pos (by decide +kernel)]; kernel_rfl) | (rw [if_neg (by decide +kernel)]; exact ⟨rfl, rfl⟩))
    (fun os started H enc _ => snapTells.lifted os started H enc)
end Go.Proofs.Ytgahjjihfibbnaa
