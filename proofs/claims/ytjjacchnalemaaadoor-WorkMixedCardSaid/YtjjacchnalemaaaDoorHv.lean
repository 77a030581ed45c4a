/- A struct's part. -/
import Derived.Test.YtjjacchnalemaaaDoorHu
namespace Go.Hw
theorem r_bool {P : Program} {n : Nat} {ops : Array Oper} {Q : Post} {rest : List Oper} {e : Env} {w : World} {c : Nat} {b : Bool} (h : ∀ b' : Bool, b' = b → Rn P n ops Q rest (upd e c (.bool b')) w) : Rn P n ops Q rest (upd e c (.bool b)) w := h b rfl
theorem r_int {P : Program} {n : Nat} {ops : Array Oper} {Q : Post} {rest : List Oper} {e : Env} {w : World} {c : Nat} {k : IntKind} {b : Int} (h : ∀ b' : Int, b' = b → Rn P n ops Q rest (upd e c (.int k b')) w) : Rn P n ops Q rest (upd e c (.int k b)) w := h b rfl
section
variable {P : Program} {e : Env} {w : World} {d : Option Nat} {ty : TypeId} {pos : String} {af : Array Edge} {g : Option (Nat × Bool)}
theorem q_field {t ft o f : Nat} {fields : Array Field} {z : List Value} {bytes : Nat} [hi : Inf P ft z false bytes] {x : Operand} {vs : List Value} {v : Value}
    (hu : P.underlying t = some (.struct fields)) (hf : (fields[f]?).map (fun fl => (fl.type, fl.offset)) = some (ft, o)) (hx : ev e x = .agg vs.toArray) (hv : vs[o]? = some v) : Qv P e ⟨d, .field t x f, ty, pos, af, g⟩ w v := by
  obtain ⟨fl, h1, h2⟩ := Option.map_eq_some_iff.1 hf
  simp only [Prod.mk.injEq] at h2
  obtain ⟨rfl, rfl⟩ := h2
  unfold Qv
  have h3 := hi.isAgg w
  simp [execOp, hx, Instr.field, run_underlying hu, h1, part, h3, asAgg, hv]
end
end Go.Hw
