/- More laws of operations. -/
import Derived.Test.YtgahjjihfibbnaaHb
namespace Go.Hw
section
variable {P : Program} {ops : Array Oper} {e : Env} {w : World} {d : Option Nat} {ty : TypeId} {pos : String} {af : Array Edge} {g : Option (Nat × Bool)}
theorem q_is {o : Oper} {v v' : Value} (h : Qv P e o w v) (hv : v = v') : Qv P e o w v' := hv ▸ h
theorem q_neqs {t t2 : TypeId} {x y : Operand} {k : IntKind} {a : Int} (hx : ev e x = .int k a) (hy : ev e y = .int k a) : Qv P e ⟨d, .binOp .neq t x y t2, ty, pos, af, g⟩ w (.bool false) :=
  q_is (q_neq hx hy) (by simp)
theorem flt_u {op : Op} {j : Nat} {want : Bool} (hg : gv ops e j = none) : Flt P ops ⟨d, op, ty, pos, af, some (j, want)⟩ e w undef := by
  unfold Flt
  exact ⟨fun h => by simp [Region.wanted, hg] at h, fun _ => rfl⟩
end
end Go.Hw
