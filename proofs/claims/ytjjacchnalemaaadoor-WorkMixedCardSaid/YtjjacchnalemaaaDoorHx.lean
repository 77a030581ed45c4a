/- More laws of operations. -/
import Derived.Test.YtjjacchnalemaaaDoorHb
import Derived.Laws.Strings2
namespace Go.Hw
section
variable {P : Program} {ops : Array Oper} {e : Env} {w : World} {d : Option Nat} {ty : TypeId} {pos : String} {af : Array Edge} {g : Option (Nat × Bool)}
theorem q_is {o : Oper} {v v' : Value} (h : Qv P e o w v) (hv : v = v') : Qv P e o w v' := hv ▸ h
theorem q_neqs {t t2 : TypeId} {x y : Operand} {k : IntKind} {a : Int} (hx : ev e x = .int k a) (hy : ev e y = .int k a) : Qv P e ⟨d, .binOp .neq t x y t2, ty, pos, af, g⟩ w (.bool false) :=
  q_is (q_neq hx hy) (by simp)
theorem flt_u {op : Op} {j : Nat} {want : Bool} (hg : gv ops e j = none) : Flt P ops ⟨d, op, ty, pos, af, some (j, want)⟩ e w undef := by
  unfold Flt
  exact ⟨fun h => by simp [Region.wanted, hg] at h, fun _ => rfl⟩
/-- A piece of a text. -/
theorem q_substr {t : TypeId} [ht : Und P t .string] {x lo hi : Operand} {s s' : ByteArray} {k k' : IntKind} {i j : Int} (hx : ev e x = .string s) (hlo : ev e lo = .int k i) (hhi : ev e hi = .int k' j) (h0 : 0 ≤ i) (h1 : i ≤ j) (h2 : j ≤ s.size) (hs : s.extract i.toNat j.toNat = s') :
    Qv P e ⟨d, .slice t x (some lo) (some hi) none, ty, pos, af, g⟩ w (.string s') := by
  subst hs
  unfold Qv
  have h3 := run_slice_string (P := P) w t s k k' i j ht.h h0 h1 h2
  simp [execOp, hx, hlo, hhi, Instr.sliceAt, run_underlying ht.h, h3]
theorem q_cat {t t2 : TypeId} {x y : Operand} {a b : ByteArray} (hx : ev e x = .string a) (hy : ev e y = .string b) (hn : a.size + b.size ≤ 9223372036854775807) : Qv P e ⟨d, .binOp .add t x y t2, ty, pos, af, g⟩ w (.string (a ++ b)) := by
  unfold Qv
  simp [execOp, hx, hy, eqGuard, binOp, Op.stringOp]
  omega
end
end Go.Hw
