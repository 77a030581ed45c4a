/- What the laid table is, by the row's condition. -/
import Derived.Test.YtjjacchnalemaaaDoorMb
import Derived.Test.YtjjacchnalemaaaDoorRows
import Derived.ProofKit
import Derived.LaidMore
import Derived.OpenShut
import Derived.Stop.Joined
namespace Go.Proofs.YtjjacchnalemaaaDoor
open Go.Hw Go.ChangeShapes Go.WideShapes Go.ChangeAt Go.RowKit
set_option maxRecDepth 100000
theorem laid_deB {H : Type} : (Rows.laid_math_bits_deBruijn64tab : DataW H) = .agg (deB.map fun (v : Nat) => .lit (.int .u8 (v : Int))) := rfl
theorem tz_of_laid {W : World} (h : laidMetH Tryd.prog [("math/bits.deBruijn64tab", Rows.laid_math_bits_deBruijn64tab)] W) : Tz W := by
  rw [MakeChecks.laidMetH_plain _ _ _ (by kernel_rfl)] at h
  obtain ⟨ps, ⟨g1, t1, cs1, f1, p1, q1, hg1, ht1, hv1, hd1, _⟩, _⟩ := h
  obtain rfl := Option.some.inj ((show Tryd.prog.globalNamed "math/bits.deBruijn64tab" = some 0 by kernel_rfl).symm.trans hg1)
  obtain rfl := Option.some.inj ((show (Tryd.prog.globals[0]?).map (·.type) = some 158 by kernel_rfl).symm.trans ht1)
  obtain ⟨xs, m1, rfl, hx1, hlen, hn3, hel⟩ := DataW.trod_array Tryd.underlying158 hd1
  have c1 : Tryd.prog.cellsOf 5 = 1 := by kernel_rfl
  rw [c1] at hel
  rw [laid_deB] at hx1
  simp only [Prod.mk.injEq, DataW.agg.injEq] at hx1
  obtain ⟨cs⟩ := cs1
  have key : ∀ (i v : Nat), deB[i]? = some v → W.cell? ⟨0, i, none⟩ = some (.int .u8 v) := fun i v hi => by
    have hi64 : i < 64 := (List.getElem?_eq_some_iff.1 hi).1
    have h0 := hel i hi64
    have hm : (xs.map (·.1))[i]? = some (.lit (.int .u8 (v : Int))) := by rw [← hx1.1, List.getElem?_map, hi]; rfl
    rw [List.getElem?_map] at hm
    obtain ⟨x, hx, hx2⟩ := Option.map_eq_some_iff.1 hm
    rw [hx] at h0
    obtain ⟨k, e1, e2, _⟩ := DataW.trod_int Tryd.underlying5 h0
    rw [e2] at hx2
    have hk : k = (v : Int) := by simpa using hx2
    subst hk
    rw [World.var?_cell hg1 hv1 i]
    have : (cs.drop (i * 1))[0]? = some (.int .u8 (v : Int)) := by
      have e3 : ((cs.drop (i * 1)).take 1)[0]? = some (.int .u8 (v : Int)) := by rw [e1]; rfl
      rwa [List.getElem?_take_of_lt (by decide)] at e3
    rw [List.getElem?_drop] at this
    simpa using this
  refine ⟨?_, key⟩
  have h0 := key 0 0 rfl
  unfold World.cell? at h0
  split at h0
  · rename_i hh
    exact (Array.getElem?_eq_some_iff.1 hh).1
  · cases h0
end Go.Proofs.YtjjacchnalemaaaDoor
