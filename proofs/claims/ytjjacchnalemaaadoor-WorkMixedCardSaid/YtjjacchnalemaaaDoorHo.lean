/- The operations, one law each. -/
import Derived.Test.YtjjacchnalemaaaDoorHd
namespace Go.Hw

/-- What the program's tables say of a type. -/
class Und (P : Program) (t : TypeId) (d : outParam TypeDesc) : Prop where
  h : P.underlying t = some d
class Inf (P : Program) (t : TypeId) (z : outParam (List Value)) (agg : outParam Bool) (bytes : outParam Nat) : Prop where
  h : (P.info? t).map (fun i => (i.zero, i.size, i.bytes)) = some (some (if agg then .agg z.toArray else z.getD 0 undef), z.length, bytes)
  one : agg = false → z.length = 1
  u : ∃ d, P.underlying t = some d ∧ (match d with | .struct _ | .array _ _ => true | _ => false) = agg
  ones : ∀ v ∈ z, v.oneCell' = true
class FnB (P : Program) (f : FuncId) : Prop where
  h : ∃ fn, P.funcs[f]? = some fn ∧ (fn.name == "runtime.NumGoroutine") = false ∧ fn.body.isNone = false
/-- The f-th field's first cell. -/
class FA (P : Program) (s f : Nat) (k : outParam Nat) : Prop where
  h : ∀ b o w, (Instr.fieldAt s (.pointer (some ⟨b, o, none⟩)) f).run P w = .ok (.pointer (some ⟨b, o + k, none⟩)) w

theorem Inf.get {P : Program} {t : TypeId} {z : List Value} {agg : Bool} {bytes : Nat} (h : Inf P t z agg bytes) : ∃ i, P.info? t = some i ∧ i.zero = some (if agg then .agg z.toArray else z.getD 0 undef) ∧ i.size = z.length ∧ i.bytes = bytes := by
  obtain ⟨i, hi, he⟩ := Option.map_eq_some_iff.1 h.h
  simp only [Prod.mk.injEq] at he
  exact ⟨i, hi, he.1, he.2.1, he.2.2⟩
theorem Inf.sizeOf {P : Program} {t : TypeId} {z : List Value} {agg : Bool} {bytes : Nat} (h : Inf P t z agg bytes) (w : World) : (sizeOf t).run P w = .ok z.length w := by
  obtain ⟨i, hi, _, hs, _⟩ := h.get
  simp [Go.sizeOf, typeInfo, hi, hs]
theorem Inf.isAgg {P : Program} {t : TypeId} {z : List Value} {agg : Bool} {bytes : Nat} (h : Inf P t z agg bytes) (w : World) : (isAgg t).run P w = .ok agg w := by
  obtain ⟨d, hu, hd⟩ := h.u
  unfold Go.isAgg
  rw [Sem.run_bind, run_underlying hu w]
  cases d <;> simp_all
theorem Inf.zeroValue {P : Program} {t : TypeId} {z : List Value} {agg : Bool} {bytes : Nat} (h : Inf P t z agg bytes) (w : World) : (zeroValue t).run P w = .ok (if agg then .agg z.toArray else z.getD 0 undef) w := by
  obtain ⟨i, hi, hz, _, _⟩ := h.get
  simp [Go.zeroValue, typeInfo, hi, hz]
theorem Inf.cells {P : Program} {t : TypeId} {z : List Value} {agg : Bool} {bytes : Nat} (h : Inf P t z agg bytes) : (if agg then Value.agg z.toArray else z.getD 0 undef).cells = z.toArray := by
  cases agg with
  | true => rfl
  | false =>
    have h1 := h.one rfl
    match z, h1 with
    | [v], _ =>
      have := h.ones v (by simp)
      cases v <;> first | rfl | (simp [Value.oneCell'] at this)

theorem FA.mk' {P : Program} {s f ft k : Nat} {fields : Array Field} {z : List Value} {agg : Bool} {bytes : Nat} (hu : P.underlying s = some (.struct fields)) (hf : (fields[f]?).map (fun fl => (fl.type, fl.offset)) = some (ft, k)) (hi : Inf P ft z agg bytes) (hz : z ≠ []) : FA P s f k := by
  refine ⟨fun b o w => ?_⟩
  obtain ⟨fl, h1, h2⟩ := Option.map_eq_some_iff.1 hf
  simp only [Prod.mk.injEq] at h2
  obtain ⟨rfl, rfl⟩ := h2
  have hs := hi.sizeOf w
  have : z.length ≠ 0 := by simpa using hz
  simp [Instr.fieldAt, run_underlying hu, h1, Instr.sureAddr, fieldPlace, hs, this, Addr.add_mid]

/-- An operation that gives a value, and leaves the world. -/
def Qv (P : Program) (e : Env) (o : Oper) (w : World) (v : Value) : Prop := (execOp (ev e) o).run P w = .ok (.value v) w

section
variable {P : Program} {n : Nat} {ops : Array Oper} {Q : Post} {rest : List Oper} {e : Env} {w : World} {K : Env → World → Prop}
variable {d : Option Nat} {ty : TypeId} {pos : String} {af : Array Edge} {g : Option (Nat × Bool)}

/-- A value operation, in a list of operations; in a region whose order is open. -/
theorem x_v {op : Op} {v : Value} (hq : Qv P e ⟨d, op, ty, pos, af, g⟩ w v) (h : K (updO e d v) w) : Ex P ⟨d, op, ty, pos, af, g⟩ e w K := by
  unfold Qv at hq; unfold Ex; rw [hq]; exact h
theorem x_w {op : Op} {v : Value} {w' : World} (hq : (execOp (ev e) ⟨d, op, ty, pos, af, g⟩).run P w = .ok (.value v) w') (h : K (updO e d v) w') : Ex P ⟨d, op, ty, pos, af, g⟩ e w K := by
  unfold Ex; rw [hq]; exact h
theorem x_skip {op : Op} {w' : World} (hq : (execOp (ev e) ⟨d, op, ty, pos, af, g⟩).run P w = .ok .skip w') (h : K (updO e d undef) w') : Ex P ⟨d, op, ty, pos, af, g⟩ e w K := by
  unfold Ex; rw [hq]; exact h
theorem r_v {op : Op} {c : Nat} {v : Value} (hq : Qv P e ⟨some c, op, ty, pos, af, none⟩ w v) (hd : Nat.blt c n = true) (h : Rn P n ops Q rest (upd e c v) w) :
    Rn P n ops Q (⟨some c, op, ty, pos, af, none⟩ :: rest) e w := r_c hd (x_v hq h)
theorem r_gv {op : Op} {c : Nat} {v : Value} {j : Nat} {want : Bool} (hg : gv ops e j = some want) (hq : Qv P e ⟨some c, op, ty, pos, af, some (j, want)⟩ w v) (hd : Nat.blt c n = true) (h : Rn P n ops Q rest (upd e c v) w) :
    Rn P n ops Q (⟨some c, op, ty, pos, af, some (j, want)⟩ :: rest) e w := r_g1 hd hg (x_v hq h)
theorem flt_v {op : Op} {v : Value} (hg : g = none) (hq : Qv P e ⟨d, op, ty, pos, af, g⟩ w v) : Flt P ops ⟨d, op, ty, pos, af, g⟩ e w v := by
  subst hg
  unfold Qv at hq
  unfold Flt
  exact ⟨fun _ => hq, fun h => by simp [Region.wanted] at h⟩
theorem flt_g {op : Op} {v : Value} {j : Nat} {want b : Bool} (hg : gv ops e j = some b) (hb : b = want) (hq : Qv P e ⟨d, op, ty, pos, af, some (j, want)⟩ w v) : Flt P ops ⟨d, op, ty, pos, af, some (j, want)⟩ e w v := by
  unfold Qv at hq
  unfold Flt
  subst hb
  exact ⟨fun _ => hq, fun h => by simp [Region.wanted, hg] at h⟩
theorem flt_n {op : Op} {j : Nat} {want b : Bool} (hg : gv ops e j = some b) (hb : b = !want) : Flt P ops ⟨d, op, ty, pos, af, some (j, want)⟩ e w undef := by
  unfold Flt
  subst hb
  exact ⟨fun h => by cases want <;> simp [Region.wanted, hg] at h, fun _ => rfl⟩

theorem q_moveI {x : Operand} {k : IntKind} {a : Int} (hx : ev e x = .int k a) : Qv P e ⟨d, .move x, ty, pos, af, g⟩ w (.int k a) := by
  unfold Qv
  simp [execOp, hx]
theorem q_assignI {x : Operand} {k : IntKind} {a : Int} (hx : ev e x = .int k a) : Qv P e ⟨d, .assign x, ty, pos, af, g⟩ w (.int k a) := by
  unfold Qv
  simp [execOp, hx]
theorem q_moveB {x : Operand} {b : Bool} (hx : ev e x = .bool b) : Qv P e ⟨d, .move x, ty, pos, af, g⟩ w (.bool b) := by
  unfold Qv
  simp [execOp, hx]
theorem q_assignB {x : Operand} {b : Bool} (hx : ev e x = .bool b) : Qv P e ⟨d, .assign x, ty, pos, af, g⟩ w (.bool b) := by
  unfold Qv
  simp [execOp, hx]
theorem q_moveP {x : Operand} {a : Option Addr} (hx : ev e x = .pointer a) : Qv P e ⟨d, .move x, ty, pos, af, g⟩ w (.pointer a) := by
  unfold Qv
  simp [execOp, hx]
theorem q_assignP {x : Operand} {a : Option Addr} (hx : ev e x = .pointer a) : Qv P e ⟨d, .assign x, ty, pos, af, g⟩ w (.pointer a) := by
  unfold Qv
  simp [execOp, hx]
theorem q_moveS {x : Operand} {a : Option Addr} {m c : Nat} (hx : ev e x = .slice a m c) : Qv P e ⟨d, .move x, ty, pos, af, g⟩ w (.slice a m c) := by
  unfold Qv
  simp [execOp, hx]
theorem q_assignS {x : Operand} {a : Option Addr} {m c : Nat} (hx : ev e x = .slice a m c) : Qv P e ⟨d, .assign x, ty, pos, af, g⟩ w (.slice a m c) := by
  unfold Qv
  simp [execOp, hx]
theorem q_moveM {x : Operand} {r : Option Nat} (hx : ev e x = .map r) : Qv P e ⟨d, .move x, ty, pos, af, g⟩ w (.map r) := by
  unfold Qv
  simp [execOp, hx]
theorem q_assignM {x : Operand} {r : Option Nat} (hx : ev e x = .map r) : Qv P e ⟨d, .assign x, ty, pos, af, g⟩ w (.map r) := by
  unfold Qv
  simp [execOp, hx]
theorem q_moveT {x : Operand} {vs : List Value} (hx : ev e x = .tuple vs.toArray) : Qv P e ⟨d, .move x, ty, pos, af, g⟩ w (.tuple vs.toArray) := by
  unfold Qv
  simp [execOp, hx]
theorem q_assignT {x : Operand} {vs : List Value} (hx : ev e x = .tuple vs.toArray) : Qv P e ⟨d, .assign x, ty, pos, af, g⟩ w (.tuple vs.toArray) := by
  unfold Qv
  simp [execOp, hx]
theorem q_moveA {x : Operand} {vs : List Value} (hx : ev e x = .agg vs.toArray) : Qv P e ⟨d, .move x, ty, pos, af, g⟩ w (.agg vs.toArray) := by
  unfold Qv
  simp [execOp, hx]
theorem q_assignA {x : Operand} {vs : List Value} (hx : ev e x = .agg vs.toArray) : Qv P e ⟨d, .assign x, ty, pos, af, g⟩ w (.agg vs.toArray) := by
  unfold Qv
  simp [execOp, hx]
theorem q_moveZ {x : Operand} {t : ByteArray} (hx : ev e x = .string t) : Qv P e ⟨d, .move x, ty, pos, af, g⟩ w (.string t) := by
  unfold Qv
  simp [execOp, hx]
theorem q_assignZ {x : Operand} {t : ByteArray} (hx : ev e x = .string t) : Qv P e ⟨d, .assign x, ty, pos, af, g⟩ w (.string t) := by
  unfold Qv
  simp [execOp, hx]
theorem q_pick1 {c x y : Operand} {b k : Bool} (hc : ev e c = .bool k) (hk : k = true) (hx : ev e x = .bool b) : Qv P e ⟨d, .pick c x y, ty, pos, af, g⟩ w (.bool b) := by
  unfold Qv
  subst hk
  simp [execOp, hc, hx, asBool]
theorem q_pick0 {c x y : Operand} {b k : Bool} (hc : ev e c = .bool k) (hk : k = false) (hy : ev e y = .bool b) : Qv P e ⟨d, .pick c x y, ty, pos, af, g⟩ w (.bool b) := by
  unfold Qv
  subst hk
  simp [execOp, hc, hy, asBool]
theorem q_pickB {c x y : Operand} {b a a' : Bool} (hc : ev e c = .bool b) (hx : ev e x = .bool a) (hy : ev e y = .bool a') : Qv P e ⟨d, .pick c x y, ty, pos, af, g⟩ w (.bool (bif b then a else a')) := by
  unfold Qv
  cases b <;> simp [execOp, hc, hx, hy, asBool]
theorem q_nil {x : Operand} {a : Addr} (hx : ev e x = .pointer (some a)) : Qv P e ⟨d, .nilCheck x, ty, pos, af, g⟩ w (.pointer (some a)) := by
  unfold Qv
  simp [execOp, hx]
theorem q_fa {s f k : Nat} [FA P s f k] {x : Operand} {b o : Nat} (hx : ev e x = .pointer (some ⟨b, o, none⟩)) : Qv P e ⟨d, .fieldAddr s x f, ty, pos, af, g⟩ w (.pointer (some ⟨b, o + k, none⟩)) := by
  unfold Qv
  simp [execOp, hx, FA.h (P := P) (s := s) (f := f)]
theorem run_load1 {t : TypeId} {z : List Value} {bytes : Nat} [hi : Inf P t z false bytes] {b o : Nat} {v : Value} (hv : w.cell? ⟨b, o, none⟩ = some v) : (Instr.loadAt t (.pointer (some ⟨b, o, none⟩))).run P w = .ok v w := by
  simp [Instr.loadAt, Instr.sureAddr, loadVar, hi.isAgg, load, Sem.run, hv]
theorem cell_of {b o : Nat} {l : List Value} {T : TypeId} {fr : Nat × Nat} {v : Value} (hb : w.heap[b]? = some (.cells l.toArray T fr)) (hv : l[o]? = some v) : w.cell? ⟨b, o, none⟩ = some v := by
  simp [World.cell?, hb, hv]
theorem q_loadc {t : TypeId} {z : List Value} {bytes : Nat} [Inf P t z false bytes] {x : Operand} {b o : Nat} {v : Value} (hx : ev e x = .pointer (some ⟨b, o, none⟩)) (hv : w.cell? ⟨b, o, none⟩ = some v) :
    Qv P e ⟨d, .load t x, ty, pos, af, g⟩ w v := by
  unfold Qv
  simp [execOp, hx, run_load1 (t := t) hv]
theorem q_load {t : TypeId} {z : List Value} {bytes : Nat} [Inf P t z false bytes] {x : Operand} {b o : Nat} {l : List Value} {T : TypeId} {fr : Nat × Nat} {v : Value} (hx : ev e x = .pointer (some ⟨b, o, none⟩)) (hb : w.heap[b]? = some (.cells l.toArray T fr)) (hv : l[o]? = some v) :
    Qv P e ⟨d, .load t x, ty, pos, af, g⟩ w v := q_loadc hx (cell_of hb hv)
/-- These cells stand from the place o of the block b on. -/
def At (w : World) (b o : Nat) (l : List Value) : Prop := ∀ j v, l[j]? = some v → w.cell? ⟨b, o + j, none⟩ = some v
theorem at_of {b o : Nat} {l m : List Value} {T : TypeId} {fr : Nat × Nat} (hb : w.heap[b]? = some (.cells l.toArray T fr)) (hm : (l.drop o).take m.length = m) : At w b o m := by
  intro j v hj
  refine cell_of hb ?_
  rw [← hm, List.getElem?_take] at hj
  split at hj
  · simpa using hj
  · cases hj
theorem run_loadS {t : TypeId} {z : List Value} {bytes : Nat} [hi : Inf P t z true bytes] {b o : Nat} {l : List Value} (hz : z.length = l.length) (hl : At w b o l) : (Instr.loadAt t (.pointer (some ⟨b, o, none⟩))).run P w = .ok (.agg l.toArray) w := by
  obtain ⟨i, h1, _, h3, _⟩ := hi.get
  obtain ⟨dd, hu, hd⟩ := hi.u
  refine run_loadAt_mid w b o t l dd (fun j v hv => hl j v hv) hu ?_ (by simp [h1, h3, hz])
  cases dd <;> simp_all
theorem q_loadS {t : TypeId} {z : List Value} {bytes : Nat} [Inf P t z true bytes] {x : Operand} {b o : Nat} {l : List Value} (hx : ev e x = .pointer (some ⟨b, o, none⟩)) (hz : Nat.beq z.length l.length = true) (hl : At w b o l) :
    Qv P e ⟨d, .load t x, ty, pos, af, g⟩ w (.agg l.toArray) := by
  unfold Qv
  simp [execOp, hx, run_loadS (t := t) (Nat.eq_of_beq_eq_true hz) hl]

theorem q_bin {op : BinOp} {t t2 : TypeId} {x y : Operand} {v : Value} (hv : ∀ a b, ev e x = a → ev e y = b → (do eqGuard op t x y a b; binOp op t a b : Sem Value).run P w = .ok v w) :
    Qv P e ⟨d, .binOp op t x y t2, ty, pos, af, g⟩ w v := by
  unfold Qv
  have := hv _ _ rfl rfl
  simp only [execOp, Sem.run_bind] at this ⊢
  rw [this]
  simp
section
variable {k : IntKind} {a b : Int} {t t2 : TypeId} {x y : Operand}
theorem q_add (hx : ev e x = .int k a) (hy : ev e y = .int k b) : Qv P e ⟨d, .binOp .add t x y t2, ty, pos, af, g⟩ w (.int k (k.wrap (a + b))) := by
  unfold Qv
  simp [execOp, hx, hy, eqGuard, binOp, Op.intArith]
theorem q_sub (hx : ev e x = .int k a) (hy : ev e y = .int k b) : Qv P e ⟨d, .binOp .sub t x y t2, ty, pos, af, g⟩ w (.int k (k.wrap (a - b))) := by
  unfold Qv
  simp [execOp, hx, hy, eqGuard, binOp, Op.intArith]
theorem q_mul (hx : ev e x = .int k a) (hy : ev e y = .int k b) : Qv P e ⟨d, .binOp .mul t x y t2, ty, pos, af, g⟩ w (.int k (k.wrap (a * b))) := by
  unfold Qv
  simp [execOp, hx, hy, eqGuard, binOp, Op.intArith]
theorem q_lss (hx : ev e x = .int k a) (hy : ev e y = .int k b) : Qv P e ⟨d, .binOp .lss t x y t2, ty, pos, af, g⟩ w (.bool (decide (a < b))) := by
  unfold Qv
  simp [execOp, hx, hy, eqGuard, binOp, Op.intCmp]
theorem q_leq (hx : ev e x = .int k a) (hy : ev e y = .int k b) : Qv P e ⟨d, .binOp .leq t x y t2, ty, pos, af, g⟩ w (.bool (decide (a ≤ b))) := by
  unfold Qv
  simp [execOp, hx, hy, eqGuard, binOp, Op.intCmp]
theorem q_gtr (hx : ev e x = .int k a) (hy : ev e y = .int k b) : Qv P e ⟨d, .binOp .gtr t x y t2, ty, pos, af, g⟩ w (.bool (decide (a > b))) := by
  unfold Qv
  simp [execOp, hx, hy, eqGuard, binOp, Op.intCmp]
theorem q_geq (hx : ev e x = .int k a) (hy : ev e y = .int k b) : Qv P e ⟨d, .binOp .geq t x y t2, ty, pos, af, g⟩ w (.bool (decide (a ≥ b))) := by
  unfold Qv
  simp [execOp, hx, hy, eqGuard, binOp, Op.intCmp]
theorem q_eql (hx : ev e x = .int k a) (hy : ev e y = .int k b) : Qv P e ⟨d, .binOp .eql t x y t2, ty, pos, af, g⟩ w (.bool (a == b)) := by
  unfold Qv
  simp [execOp, hx, hy, eqGuard, binOp, Op.intCmp]
theorem q_neq (hx : ev e x = .int k a) (hy : ev e y = .int k b) : Qv P e ⟨d, .binOp .neq t x y t2, ty, pos, af, g⟩ w (.bool (a != b)) := by
  unfold Qv
  simp [execOp, hx, hy, eqGuard, binOp, Op.intCmp]
def bitOp (op : BinOp) (k : IntKind) (a b : Int) : Int :=
  let x := BitVec.ofInt k.bits a
  let y := BitVec.ofInt k.bits b
  k.wrap (match op with
    | .and => x &&& y
    | .or => x ||| y
    | .xor => x ^^^ y
    | _ => x &&& ~~~y).toNat
theorem q_and (hx : ev e x = .int k a) (hy : ev e y = .int k b) : Qv P e ⟨d, .binOp .and t x y t2, ty, pos, af, g⟩ w (.int k (bitOp .and k a b)) := by
  unfold Qv
  simp [execOp, hx, hy, eqGuard, binOp, Op.intBits, bitOp]
theorem q_or (hx : ev e x = .int k a) (hy : ev e y = .int k b) : Qv P e ⟨d, .binOp .or t x y t2, ty, pos, af, g⟩ w (.int k (bitOp .or k a b)) := by
  unfold Qv
  simp [execOp, hx, hy, eqGuard, binOp, Op.intBits, bitOp]
theorem q_xor (hx : ev e x = .int k a) (hy : ev e y = .int k b) : Qv P e ⟨d, .binOp .xor t x y t2, ty, pos, af, g⟩ w (.int k (bitOp .xor k a b)) := by
  unfold Qv
  simp [execOp, hx, hy, eqGuard, binOp, Op.intBits, bitOp]
theorem q_quo (hx : ev e x = .int k a) (hy : ev e y = .int k b) (hb : b ≠ 0) : Qv P e ⟨d, .binOp .quo t x y t2, ty, pos, af, g⟩ w (.int k (k.wrap (a.tdiv b))) := by
  unfold Qv
  simp [execOp, hx, hy, eqGuard, binOp, Op.intDiv, hb]
theorem q_rem (hx : ev e x = .int k a) (hy : ev e y = .int k b) (hb : b ≠ 0) : Qv P e ⟨d, .binOp .rem t x y t2, ty, pos, af, g⟩ w (.int k (a.tmod b)) := by
  unfold Qv
  simp [execOp, hx, hy, eqGuard, binOp, Op.intDiv, hb]
theorem q_shl {k2 : IntKind} (hx : ev e x = .int k a) (hy : ev e y = .int k2 b) (hb : 0 ≤ b) : Qv P e ⟨d, .binOp .shl t x y t2, ty, pos, af, g⟩ w (.int k (k.wrap (a * 2 ^ (min b.toNat k.bits)))) := by
  unfold Qv
  simp [execOp, hx, hy, eqGuard, binOp, Op.shift, show ¬ b < 0 by omega]
theorem q_shr {k2 : IntKind} (hx : ev e x = .int k a) (hy : ev e y = .int k2 b) (hb : 0 ≤ b) : Qv P e ⟨d, .binOp .shr t x y t2, ty, pos, af, g⟩ w (.int k (a.fdiv (2 ^ (min b.toNat k.bits)))) := by
  unfold Qv
  simp [execOp, hx, hy, eqGuard, binOp, Op.shift, show ¬ b < 0 by omega]
end
end
attribute [irreducible] Qv
end Go.Hw
