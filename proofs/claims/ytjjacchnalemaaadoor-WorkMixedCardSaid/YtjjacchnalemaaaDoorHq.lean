/- More operations: comparisons, builtins, variables, structs, maps, calls. -/
import Derived.Test.YtjjacchnalemaaaDoorHp
namespace Go.Hw

section
variable {P : Program} {n : Nat} {ops : Array Oper} {Q : Post} {rest : List Oper} {e : Env} {w w0 : World} {K : Env → World → Prop} {l : List HProp}
variable {d : Option Nat} {ty : TypeId} {pos : String} {af : Array Edge} {g : Option (Nat × Bool)}

theorem run_equal {t : TypeId} {x y : Value} {b : Bool} (h : ∀ k, (Op.equalIn (k + 1) t x y).run P w = .ok b w) : (Op.equal t x y).run P w = .ok b w := h 9999
theorem q_eq_of {t t2 : TypeId} {x y : Operand} {a c : Value} {b : Bool} (hx : ev e x = a) (hy : ev e y = c) (h : ∀ k, (Op.equalIn (k + 1) t a c).run P w = .ok b w) (hb : binOp .eql t a c = (do pure (.bool (← Op.equal t a c)))) (hg : ∀ p q, eqGuard .eql t p q a c = pure ()) :
    Qv P e ⟨d, .binOp .eql t x y t2, ty, pos, af, g⟩ w (.bool b) := by
  unfold Qv
  have := run_equal h
  simp only [execOp, hx, hy, hb, hg, Sem.run_bind, Sem.run_pure, Result.andThen_ok, this]
theorem q_ne_of {t t2 : TypeId} {x y : Operand} {a c : Value} {b : Bool} (hx : ev e x = a) (hy : ev e y = c) (h : ∀ k, (Op.equalIn (k + 1) t a c).run P w = .ok b w) (hb : binOp .neq t a c = (do pure (.bool (!(← Op.equal t a c))))) (hg : ∀ p q, eqGuard .neq t p q a c = pure ()) :
    Qv P e ⟨d, .binOp .neq t x y t2, ty, pos, af, g⟩ w (.bool (!b)) := by
  unfold Qv
  have := run_equal h
  simp only [execOp, hx, hy, hb, hg, Sem.run_bind, Sem.run_pure, Result.andThen_ok, this]
theorem eqIn_ptr {t el : TypeId} (hu : P.underlying t = some (.pointer el)) (a : Option Addr) (k : Nat) : (Op.equalIn (k + 1) t (.pointer a) (.pointer none)).run P w = .ok a.isNone w := by
  cases a <;> (unfold Op.equalIn; rw [Sem.run_bind, run_underlying hu]; rfl)
theorem eqIn_slice {t el : TypeId} (hu : P.underlying t = some (.slice el)) (a : Option Addr) (m c k : Nat) : (Op.equalIn (k + 1) t (.slice a m c) (.slice none 0 0)).run P w = .ok a.isNone w := by
  cases a <;> (unfold Op.equalIn; rw [Sem.run_bind, run_underlying hu]; rfl)
theorem eqIn_bool {t : TypeId} (hu : P.underlying t = some .bool) (a b : Bool) (k : Nat) : (Op.equalIn (k + 1) t (.bool a) (.bool b)).run P w = .ok (a == b) w := by
  unfold Op.equalIn; rw [Sem.run_bind, run_underlying hu]; rfl
theorem q_eqnil {t t2 el : TypeId} [hu : Und P t (.pointer el)] {x y : Operand} {a : Option Addr} (hx : ev e x = .pointer a) (hy : ev e y = .pointer none) :
    Qv P e ⟨d, .binOp .eql t x y t2, ty, pos, af, g⟩ w (.bool a.isNone) :=
  q_eq_of hx hy (eqIn_ptr hu.h a) (by cases a <;> rfl) (fun _ _ => rfl)
theorem q_nenil {t t2 el : TypeId} [hu : Und P t (.pointer el)] {x y : Operand} {a : Option Addr} (hx : ev e x = .pointer a) (hy : ev e y = .pointer none) :
    Qv P e ⟨d, .binOp .neq t x y t2, ty, pos, af, g⟩ w (.bool (!a.isNone)) :=
  q_ne_of hx hy (eqIn_ptr hu.h a) (by cases a <;> rfl) (fun _ _ => rfl)
theorem q_seqnil {t t2 el : TypeId} [hu : Und P t (.slice el)] {x y : Operand} {a : Option Addr} {m c : Nat} (hx : ev e x = .slice a m c) (hy : ev e y = .slice none 0 0) :
    Qv P e ⟨d, .binOp .eql t x y t2, ty, pos, af, g⟩ w (.bool a.isNone) :=
  q_eq_of hx hy (eqIn_slice hu.h a m c) rfl (fun _ _ => rfl)
theorem q_eqb {t t2 : TypeId} [hu : Und P t .bool] {x y : Operand} {a b : Bool} (hx : ev e x = .bool a) (hy : ev e y = .bool b) :
    Qv P e ⟨d, .binOp .eql t x y t2, ty, pos, af, g⟩ w (.bool (a == b)) :=
  q_eq_of hx hy (eqIn_bool hu.h a b) rfl (fun _ _ => rfl)
theorem q_neb {t t2 : TypeId} [hu : Und P t .bool] {x y : Operand} {a b : Bool} (hx : ev e x = .bool a) (hy : ev e y = .bool b) :
    Qv P e ⟨d, .binOp .neq t x y t2, ty, pos, af, g⟩ w (.bool (!(a == b))) :=
  q_ne_of hx hy (eqIn_bool hu.h a b) rfl (fun _ _ => rfl)
theorem toList_loop (a : ByteArray) : ∀ (k i : Nat) (r : List UInt8), a.size - i = k → ByteArray.toList.loop a i r = r.reverse ++ a.data.toList.drop i := by
  intro k
  induction k with
  | zero =>
    intro i r h
    unfold ByteArray.toList.loop
    have hs : a.size = a.data.size := rfl
    rw [if_neg (by omega), List.drop_eq_nil_of_le (by simp; omega)]
    simp
  | succ k ih =>
    intro i r h
    unfold ByteArray.toList.loop
    have hs : a.size = a.data.size := rfl
    rw [if_pos (by omega), ih (i + 1) _ (by omega)]
    have hi : i < a.data.toList.length := by simp; omega
    rw [List.drop_eq_getElem_cons hi]
    have : a.get! i = a.data.toList[i] := by
      show a.data[i]! = _
      rw [getElem!_pos a.data i (by omega)]
      simp
    rw [this]
    simp
theorem toList_data (a : ByteArray) : a.toList = a.data.toList := by
  unfold ByteArray.toList
  rw [toList_loop _ _ _ _ rfl]
  simp
theorem q_streq {t t2 : TypeId} {x y : Operand} {a b : ByteArray} (hx : ev e x = .string a) (hy : ev e y = .string b) :
    Qv P e ⟨d, .binOp .eql t x y t2, ty, pos, af, g⟩ w (.bool (a.data.toList == b.data.toList)) := by
  unfold Qv
  simp [execOp, hx, hy, eqGuard, binOp, Op.stringOp, toList_data]
theorem q_strne {t t2 : TypeId} {x y : Operand} {a b : ByteArray} (hx : ev e x = .string a) (hy : ev e y = .string b) :
    Qv P e ⟨d, .binOp .neq t x y t2, ty, pos, af, g⟩ w (.bool (!(a.data.toList == b.data.toList))) := by
  unfold Qv
  simp [execOp, hx, hy, eqGuard, binOp, Op.stringOp, toList_data]
theorem q_not {t : TypeId} {x : Operand} {a : Bool} (hx : ev e x = .bool a) : Qv P e ⟨d, .unOp .not t x, ty, pos, af, g⟩ w (.bool (!a)) := by
  unfold Qv
  simp [execOp, hx, Op.unary]
theorem q_neg {t : TypeId} {x : Operand} {k : IntKind} {a : Int} (hx : ev e x = .int k a) : Qv P e ⟨d, .unOp .neg t x, ty, pos, af, g⟩ w (.int k (k.wrap (0 - a))) := by
  unfold Qv
  simp [execOp, hx, Op.unary, Op.intArith]
theorem q_conv {s t : TypeId} {k j : IntKind} {dd : TypeDesc} [hs : Und P s dd] [ht : Und P t (.int k)] {x : Operand} {a : Int} (hx : ev e x = .int j a) : Qv P e ⟨d, .convert s t x, ty, pos, af, g⟩ w (.int k (k.wrap a)) := by
  unfold Qv
  simp [execOp, hx, convert, run_underlying hs.h, run_underlying ht.h, Conv.intToInt]
theorem q_ext {x : Operand} {i : Nat} {vs : List Value} {v : Value} (hx : ev e x = .tuple vs.toArray) (hv : vs[i]? = some v) : Qv P e ⟨d, .extract x i, ty, pos, af, g⟩ w v := by
  unfold Qv
  simp [execOp, hx, Instr.extract, hv]
theorem q_len {t el : TypeId} {tys : List TypeId} [hu : Und P t (.slice el)] {x : Operand} {a : Option Addr} {m c : Nat} (hx : ev e x = .slice a m c) :
    Qv P e ⟨d, .call ⟨.builtin .len, [x].toArray, (t :: tys).toArray⟩, ty, pos, af, g⟩ w (.int .i64 m) := by
  unfold Qv
  simp [execOp, resolve, hx, invoke, builtin, Builtin.len_, run_underlying hu.h, goInt]
theorem q_lenstr {t : TypeId} {tys : List TypeId} [hu : Und P t .string] {x : Operand} {s : ByteArray} (hx : ev e x = .string s) :
    Qv P e ⟨d, .call ⟨.builtin .len, [x].toArray, (t :: tys).toArray⟩, ty, pos, af, g⟩ w (.int .i64 s.size) := by
  unfold Qv
  simp [execOp, resolve, hx, invoke, builtin, Builtin.len_, run_underlying hu.h, goInt]
theorem q_lenmap {t kt et : TypeId} {tys : List TypeId} [hu : Und P t (.map kt et)] {x : Operand} {r clock : Nat} {es : Array MapEntry} (hx : ev e x = .map (some r)) (hb : w.heap[r]? = some (.map es clock)) :
    Qv P e ⟨d, .call ⟨.builtin .len, [x].toArray, (t :: tys).toArray⟩, ty, pos, af, g⟩ w (.int .i64 es.size) := by
  unfold Qv
  simp [execOp, resolve, hx, invoke, builtin, Builtin.len_, run_underlying hu.h, goInt, getObj, Sem.run, hb]
theorem q_max {tys : Array TypeId} {x y : Operand} {k j : IntKind} {a b : Int} (hx : ev e x = .int k a) (hy : ev e y = .int j b) :
    Qv P e ⟨d, .call ⟨.builtin .max, [x, y].toArray, tys⟩, ty, pos, af, g⟩ w (.int k (max a b)) := by
  unfold Qv
  have : max a b = if b > a then b else a := by rw [Int.max_def]; split <;> split <;> omega
  simp [execOp, resolve, hx, hy, invoke, builtin, Builtin.max_, Builtin.max2, this]
theorem q_min {tys : Array TypeId} {x y : Operand} {k j : IntKind} {a b : Int} (hx : ev e x = .int k a) (hy : ev e y = .int j b) :
    Qv P e ⟨d, .call ⟨.builtin .min, [x, y].toArray, tys⟩, ty, pos, af, g⟩ w (.int k (min a b)) := by
  unfold Qv
  have : min a b = if b < a then b else a := by rw [Int.min_def]; split <;> split <;> omega
  simp [execOp, resolve, hx, hy, invoke, builtin, Builtin.min_, Builtin.min2, this]
theorem q_min3 {tys : Array TypeId} {x y z : Operand} {k j i : IntKind} {a b c : Int} (hx : ev e x = .int k a) (hy : ev e y = .int j b) (hz : ev e z = .int i c) :
    Qv P e ⟨d, .call ⟨.builtin .min, [x, y, z].toArray, tys⟩, ty, pos, af, g⟩ w (.int k (min (min a b) c)) := by
  unfold Qv
  have h1 : min a b = if b < a then b else a := by rw [Int.min_def]; split <;> split <;> omega
  have h2 : min (min a b) c = if c < (if b < a then b else a) then c else (if b < a then b else a) := by rw [← h1, Int.min_def]; split <;> split <;> omega
  simp [execOp, resolve, hx, hy, hz, invoke, builtin, Builtin.min_, Builtin.min2, h2]

/-- The cells of a value. -/
def vcells : Value → List Value
  | .agg cs => cs.toList
  | v => [v]
theorem vcells_eq (v : Value) : v.cells = (vcells v).toArray := by cases v <;> simp [vcells, Value.cells]
/-- The fields of a struct that are given, laid into the zero value. -/
def laid (zero : List Value) (places : List (Nat × Nat)) : List (Nat × Value) → Option (List Value)
  | [] => some zero
  | (i, v) :: r => match places[i]? with
    | none => none
    | some (off, size) =>
      bif Nat.beq (vcells v).length size && Nat.ble (off + size) zero.length then laid (zero.take off ++ vcells v ++ zero.drop (off + size)) places r else none

theorem foldl_lay (c : List Value) : ∀ (off k : Nat) (cells : List Value), off + k + c.length ≤ cells.length →
    (c.zipIdx k).foldl (fun cs (x, j) => cs.setIfInBounds (off + j) x) cells.toArray = (cells.take (off + k) ++ c ++ cells.drop (off + k + c.length)).toArray := by
  induction c with
  | nil => intro off k cells h; simp
  | cons v c ih =>
    intro off k cells h
    simp only [List.length_cons] at h
    simp only [List.zipIdx_cons, List.foldl_cons, List.setIfInBounds_toArray]
    rw [ih off (k + 1) (cells.set (off + k) v) (by simp; omega)]
    congr 1
    have e1 : off + (k + 1) = off + k + 1 := by omega
    have e2 : (cells.set (off + k) v).take (off + k + 1) = cells.take (off + k) ++ [v] := by
      rw [List.take_succ_eq_append_getElem (by simp; omega)]
      simp [List.take_set_of_le]
    rw [e1, e2, List.drop_set_of_lt (by omega)]
    simp [Nat.add_assoc, Nat.add_comm, Nat.add_left_comm]
theorem fill_laid (places : List (Nat × Nat)) : ∀ (ps : List (Nat × Value)) (zero : List Value), (∀ r, laid zero places ps = some r → Instr.fill (places.toArray[·]?) zero.toArray ps = some r.toArray)
  | [], zero, r, h => by simp only [laid, Option.some.injEq] at h; subst h; rfl
  | (i, v) :: ps, zero, r, h => by
    simp only [laid] at h
    cases hp : places[i]? with
    | none => rw [hp] at h; cases h
    | some os =>
      obtain ⟨off, size⟩ := os
      rw [hp] at h
      simp only at h
      cases hc : (Nat.beq (vcells v).length size && Nat.ble (off + size) zero.length) with
      | false => rw [hc] at h; cases h
      | true =>
        rw [hc] at h
        simp only [Bool.and_eq_true] at hc
        have h1 : (vcells v).length = size := Nat.eq_of_beq_eq_true hc.1
        have h2 : off + size ≤ zero.length := Nat.le_of_ble_eq_true hc.2
        have hr := fill_laid places ps _ r h
        unfold Instr.fill
        simp only [List.getElem?_toArray, hp, vcells_eq, List.size_toArray]
        rw [if_neg (by simp [h1]; omega)]
        have := foldl_lay (vcells v) off 0 zero (by omega)
        simp only [Nat.add_zero] at this
        have hz : (vcells v).toArray.zipIdx = ((vcells v).zipIdx).toArray := by simp
        rw [hz, List.foldl_toArray, this, h1]
        simpa using hr

/-- A struct's fields: their places. -/
class Pl (P : Program) (t : TypeId) (z : outParam (List Value)) (places : outParam (List (Nat × Nat))) : Prop where
  u : ∃ fs, P.underlying t = some (.struct fs) ∧ ∀ w, (fs.mapM fun f => do pure (f.offset, ← sizeOf f.type) : Sem (Array (Nat × Nat))).run P w = .ok places.toArray w
  z : ∀ w, (zeroValue t).run P w = .ok (.agg z.toArray) w
theorem Pl.mk' {P : Program} {t : TypeId} {fl : List Field} {z : List Value} {places : List (Nat × Nat)} {bytes : Nat} (hu : P.underlying t = some (.struct fl.toArray)) (hi : Inf P t z true bytes)
    (hs : fl.map (fun f => (f.offset, (P.info? f.type).map (·.size))) = places.map (fun p => (p.1, some p.2))) : Pl P t z places where
  u := by
    refine ⟨_, hu, fun w => ?_⟩
    rw [List.mapM_toArray]
    have key : ∀ (fl : List Field) (places : List (Nat × Nat)), fl.map (fun f => (f.offset, (P.info? f.type).map (·.size))) = places.map (fun p => (p.1, some p.2)) →
        (fl.mapM fun f => do pure (f.offset, ← sizeOf f.type) : Sem (List (Nat × Nat))).run P w = .ok places w := by
      intro fl
      induction fl with
      | nil => intro places h; cases places with | nil => simp | cons a b => simp at h
      | cons f fl ih =>
        intro places h
        cases places with
        | nil => simp at h
        | cons a b =>
          simp only [List.map_cons, List.cons.injEq, Prod.mk.injEq] at h
          obtain ⟨i, hi, hsz⟩ := Option.map_eq_some_iff.1 h.1.2
          have hsz' : (sizeOf f.type).run P w = .ok a.2 w := by simp [sizeOf, typeInfo, hi, hsz]
          rw [List.mapM_cons, Sem.run_bind, Sem.run_bind, hsz']
          simp only [Result.andThen_ok, Sem.run_pure, Sem.run_bind, ih b h.2]
          rw [h.1.1]
    have hk := key fl places hs
    simp at hk
    simp [hk]
  z := fun w => hi.zeroValue w
theorem q_build {t : TypeId} {z : List Value} {places : List (Nat × Nat)} [hp : Pl P t z places] {parts : List (Nat × Operand)} {r : List Value} (hl : laid z places (parts.map fun (i, x) => (i, ev e x)) = some r) :
    Qv P e ⟨d, .build t parts.toArray, ty, pos, af, g⟩ w (.agg r.toArray) := by
  unfold Qv
  obtain ⟨fs, hu, h1⟩ := hp.u
  have h2 := hp.z w
  have hf := fill_laid places _ _ _ hl
  simp only [execOp, Instr.build, Sem.run_bind, h2, run_underlying hu, Result.andThen_ok, h1, Value.cells, List.map_toArray]
  simp only at hf
  rw [hf]
  rfl

/-- A new variable. -/
theorem x_box {c : Nat} {t : TypeId} {x : Operand} {v : Value} (h : St w0 l w) (hx : ev e x = v) (k : ∀ b w', St w0 (pt b (.cells (vcells v).toArray t (0, 0)) :: l) w' → K (upd e c (.pointer (some ⟨b, 0, none⟩))) w') :
    Ex P ⟨some c, .box t x, ty, pos, af, g⟩ e w K := by
  refine x_w (v := .pointer (some ⟨w.heap.size, 0, none⟩)) (w' := w.alloc (.cells (vcells v).toArray t (0, 0))) ?_ (k _ _ (h.alloc _))
  simp [execOp, hx, Instr.box, newVar, newRow, vcells_eq]
theorem x_alloc {c : Nat} {t : TypeId} {z : List Value} {agg : Bool} {bytes : Nat} [hi : Inf P t z agg bytes] (h : St w0 l w) (k : ∀ b w', St w0 (pt b (.cells z.toArray t (0, 0)) :: l) w' → K (upd e c (.pointer (some ⟨b, 0, none⟩))) w') :
    Ex P ⟨some c, .alloc t, ty, pos, af, g⟩ e w K := by
  refine x_w (v := .pointer (some ⟨w.heap.size, 0, none⟩)) (w' := w.alloc (.cells z.toArray t (0, 0))) ?_ (k _ _ (h.alloc _))
  have hz := hi.zeroValue w
  have hc := hi.cells
  generalize (if agg then Value.agg z.toArray else z.getD 0 undef) = zz at hz hc
  simp [execOp, Instr.alloc, hz, newVar, newRow, hc]

theorem run_store {t : TypeId} {z : List Value} {agg : Bool} {bytes : Nat} [hi : Inf P t z agg bytes] {b o : Nat} {cs : List Value} {T : TypeId} {fr : Nat × Nat} {v : Value} (k : Nat) (h : St w0 l w)
    (hk : l[k]? = some (pt b (.cells cs.toArray T fr))) (hs : (vcells v).length = z.length) (ho : o + (vcells v).length ≤ cs.length) (hfr : fr.2 ≤ o) (h1 : (vcells v).all (·.oneCell') = true) :
    ∃ w', (Instr.storeAt t (.pointer (some ⟨b, o, none⟩)) v).run P w = .ok () w' ∧ St w0 (l.set k (pt b (.cells (cs.take o ++ vcells v ++ cs.drop (o + (vcells v).length)).toArray T fr))) w' := by
  have hb := h.b k hk
  have hst := run_storeCells_atF P b o T fr (vcells v) 0 cs.toArray w hb (by omega) (by simpa using ho) (by simpa using h1)
  simp only [Nat.add_zero] at hst
  refine ⟨w.setRow b (cs.take o ++ vcells v ++ cs.drop (o + (vcells v).length)).toArray, ?_, ?_⟩
  · have hz := hi.sizeOf w
    simp only [Instr.storeAt, Instr.sureAddr, storeVar, Sem.run_bind, Sem.run_pure, Result.andThen_ok, hz, vcells_eq]
    rw [if_neg (by simp [hs])]
    simp only [hst]
  · exact h.putk k hk rfl rfl rfl (by simp) (fun j hj => setRow_other w b j _ hj) (setRow_heap w b _ _ T fr hb)
/-- A store of one cell into the k-th. -/
theorem x_store {t : TypeId} {z : List Value} {bytes : Nat} [hi : Inf P t z false bytes] {x y : Operand} {b o : Nat} {cs : List Value} {T : TypeId} {fr : Nat × Nat} {v : Value} (k : Nat) (h : St w0 l w)
    (hx : ev e x = .pointer (some ⟨b, o, none⟩)) (hy : ev e y = v) (hk : l[k]? = some (pt b (.cells cs.toArray T fr))) (ho : Nat.blt o cs.length = true) (hfr : Nat.ble fr.2 o = true) (h1 : v.oneCell' = true)
    (kk : ∀ w', St w0 (l.set k (pt b (.cells (cs.set o v).toArray T fr))) w' → K e w') : Ex P ⟨none, .store t x y, ty, pos, af, g⟩ e w K := by
  have hz := hi.one rfl
  have hv : vcells v = [v] := by cases v <;> first | rfl | (simp [Value.oneCell'] at h1)
  have ho' : o < cs.length := by simpa [Nat.blt_eq] using ho
  obtain ⟨w', h2, h3⟩ := run_store (P := P) (t := t) (o := o) (v := v) k h hk (by rw [hv, hz]; rfl) (by rw [hv]; simp; omega) (Nat.le_of_ble_eq_true hfr) (by rw [hv]; simp [h1])
  refine x_skip (w' := w') (by simp only [execOp, hx, hy, Sem.run_bind, h2, Result.andThen_ok]; rfl) (kk _ ?_)
  rw [hv] at h3
  have hset : cs.set o v = cs.take o ++ [v] ++ cs.drop (o + 1) := by rw [List.set_eq_take_append_cons_drop, if_pos ho']; simp
  rw [hset]
  exact h3
/-- A store of a struct into the k-th. -/
theorem x_storeA {t : TypeId} {z : List Value} {bytes : Nat} [hi : Inf P t z true bytes] {x y : Operand} {b o : Nat} {cs vs : List Value} {T : TypeId} {fr : Nat × Nat} (k : Nat) (h : St w0 l w)
    (hx : ev e x = .pointer (some ⟨b, o, none⟩)) (hy : ev e y = .agg vs.toArray) (hk : l[k]? = some (pt b (.cells cs.toArray T fr))) (hs : Nat.beq vs.length z.length = true) (ho : Nat.ble (o + vs.length) cs.length = true) (hfr : Nat.ble fr.2 o = true) (h1 : vs.all (·.oneCell') = true)
    (kk : ∀ w', St w0 (l.set k (pt b (.cells (cs.take o ++ vs ++ cs.drop (o + vs.length)).toArray T fr))) w' → K e w') : Ex P ⟨none, .store t x y, ty, pos, af, g⟩ e w K := by
  obtain ⟨w', h2, h3⟩ := run_store (P := P) (t := t) (o := o) (v := .agg vs.toArray) k h hk (Nat.eq_of_beq_eq_true hs) (Nat.le_of_ble_eq_true ho) (Nat.le_of_ble_eq_true hfr) h1
  exact x_skip (w' := w') (by simp only [execOp, hx, hy, Sem.run_bind, h2, Result.andThen_ok]; rfl) (kk _ h3)

/-- A call of a Go function. -/
theorem x_call {c : Option Nat} {f : FuncId} {xs : List Operand} {tys : Array TypeId} {vs : List Value} {φ : Value → World → Prop} [hf : FnB P f] (hv : xs.map (ev e) = vs) (h : Ret P f vs w φ) (k : ∀ v w', φ v w' → K (updO e c v) w') :
    Ex P ⟨c, .call ⟨.value (.func f), xs.toArray, tys⟩, ty, pos, af, g⟩ e w K := by
  obtain ⟨fn, h1, h2, h3⟩ := hf.h
  have hb : fn.body.isNone = false := h3
  have hrun : (execOp (ev e) ⟨c, .call ⟨.value (.func f), xs.toArray, tys⟩, ty, pos, af, g⟩).run P w = .ok (.enter f vs.toArray) w := by
    have hp : ∀ w, (program).run P w = .ok P w := fun _ => rfl
    simp only [execOp, resolve, ev, Deferred.ofValue, invoke, callFunc, Sem.run_bind, Sem.run_pure, Result.andThen_ok, hp, h1, h2, hb, List.map_toArray, hv]
    simp
  unfold Ret at h
  unfold Ex
  rw [hrun]
  exact Calls.mono h fun _ _ ⟨v, a, b⟩ => ⟨v, a, k _ _ b⟩

/-- 'append' onto a row of its own: the first assertion is the row's. -/
theorem x_append {c : Nat} {t T : TypeId} [ht : Und P t (.slice T)] {z : List Value} {agg : Bool} {bytes : Nat} [hi : Inf P T z agg bytes] {x y : Operand} {a a2 : Option Addr} {m m2 c1 c2 sz : Nat} {xs ys : List Value}
    (h : St w0 (Own T sz a m c1 xs :: l) w) (hx : ev e x = .slice a m c1) (hy : ev e y = .slice a2 m2 c2) (hr : Rd w sz a2 m2 ys) (h1 : ∀ u ∈ ys, u.oneCell' = true) (hb : (m + m2) * bytes ≤ 140737488355328) (h63 : m + m2 ≤ 9223372036854775807) (hz : z.length = sz)
    (k : ∀ a' c' w', (a' = none → a = none) → St w0 (Own T sz a' (m + m2) c' (xs ++ ys) :: l) w' → K (upd e c (.slice a' (m + m2) c')) w') :
    Ex P ⟨some c, .call ⟨.builtin .append, [x, y].toArray, [t, t].toArray⟩, ty, pos, af, g⟩ e w K := by
  subst hz
  obtain ⟨a', c', w', hrun, hnn, hst⟩ := h.append (ty := ty) (c2 := c2) ht.h hi hr h1 hb h63
  refine x_w (v := .slice a' (m + m2) c') (w' := w') ?_ (k _ _ _ hnn hst)
  simp [execOp, resolve, hx, hy, invoke, builtin, hrun]

/-- A slice literal. -/
def laidS (sz : Nat) (zero : List Value) : List (Nat × Value) → Option (List Value)
  | [] => some zero
  | (i, v) :: r =>
      bif Nat.beq (vcells v).length sz && Nat.ble (i * sz + sz) zero.length then laidS sz (zero.take (i * sz) ++ vcells v ++ zero.drop (i * sz + sz)) r else none
theorem fill_laidS (sz : Nat) : ∀ (ps : List (Nat × Value)) (zero r : List Value), laidS sz zero ps = some r → Instr.fill (fun i => some (i * sz, sz)) zero.toArray ps = some r.toArray
  | [], zero, r, h => by simp only [laidS, Option.some.injEq] at h; subst h; rfl
  | (i, v) :: ps, zero, r, h => by
    simp only [laidS] at h
    cases hc : (Nat.beq (vcells v).length sz && Nat.ble (i * sz + sz) zero.length) with
    | false => rw [hc] at h; cases h
    | true =>
      rw [hc] at h
      simp only [Bool.and_eq_true] at hc
      have h1 : (vcells v).length = sz := Nat.eq_of_beq_eq_true hc.1
      have h2 : i * sz + sz ≤ zero.length := Nat.le_of_ble_eq_true hc.2
      have hr := fill_laidS sz ps _ r h
      unfold Instr.fill
      simp only [vcells_eq, List.size_toArray]
      rw [if_neg (by simp [h1]; omega)]
      have := foldl_lay (vcells v) (i * sz) 0 zero (by omega)
      simp only [Nat.add_zero] at this
      have hz : (vcells v).toArray.zipIdx = ((vcells v).zipIdx).toArray := by simp
      rw [hz, List.foldl_toArray, this, h1]
      exact hr
def zrow (z : List Value) : Nat → List Value
  | 0 => []
  | k + 1 => z ++ zrow z k
theorem zrow_get (z : List Value) (hz : z ≠ []) : ∀ (k j : Nat), j < k * z.length → (zrow z k)[j]? = some (z.toArray[j % z.length]!)
  | 0, j, h => by omega
  | k + 1, j, h => by
    have hpos : 0 < z.length := List.length_pos_iff.2 hz
    unfold zrow
    by_cases hj : j < z.length
    · rw [List.getElem?_append_left hj, Nat.mod_eq_of_lt hj]; simp [hj]
    · rw [List.getElem?_append_right (by omega), zrow_get z hz k (j - z.length) (by rw [Nat.add_mul] at h; omega)]
      congr 2
      rw [← Nat.mod_eq_sub_mod (by omega)]
theorem zrow_len (z : List Value) : ∀ k, (zrow z k).length = k * z.length
  | 0 => by simp [zrow]
  | k + 1 => by simp [zrow, zrow_len z k, Nat.add_mul, Nat.add_comm]
theorem zrow_eq (z : List Value) (hz : z ≠ []) (k : Nat) : (Array.range (k * z.length)).map (fun i => z.toArray[i % z.toArray.size]!) = (zrow z k).toArray := by
  apply Array.ext_getElem?
  intro j
  by_cases hj : j < k * z.length
  · simp [hj, zrow_get z hz k j hj]
  · simp [hj, List.getElem?_eq_none, zrow_len, Nat.le_of_not_lt hj]
theorem x_bslice {c : Nat} {t T : TypeId} [ht : Und P t (.slice T)] {z : List Value} {agg : Bool} {bytes : Nat} [hi : Inf P T z agg bytes] {len : Nat} {parts : List (Nat × Operand)} {r : List Value} (h : St w0 l w)
    (hl : laidS z.length (zrow z len) (parts.map fun (i, x) => (i, ev e x)) = some r) (hs : Nat.ble (len * z.length) 16777216 = true) (hz : Nat.ble 1 z.length = true)
    (k : ∀ b w', St w0 (pt b (.cells r.toArray T (0, 0)) :: l) w' → K (upd e c (.slice (some ⟨b, 0, none⟩) len len)) w') :
    Ex P ⟨some c, .buildSlice t len parts.toArray, ty, pos, af, g⟩ e w K := by
  refine x_w (v := .slice (some ⟨w.heap.size, 0, none⟩) len len) (w' := w.alloc (.cells r.toArray T (0, 0))) ?_ (k _ _ (h.alloc _))
  have hf := fill_laidS _ _ _ _ hl
  have h1 := hi.sizeOf w
  have h2 := hi.zeroValue w
  have h3 := hi.cells
  have hpos : 1 ≤ z.length := Nat.le_of_ble_eq_true hz
  have hne : z ≠ [] := by rintro rfl; simp at hpos
  have hsm : ¬ (2 ^ 24 < len * z.length) := by have := Nat.le_of_ble_eq_true hs; omega
  generalize (if agg then Value.agg z.toArray else z.getD 0 undef) = zz at h2 h3
  simp only at hf
  by_cases h0 : len * z.length = 0
  · have hcells : (Array.range (len * z.length)).map (fun i => (#[] : Array Value)[i % (#[] : Array Value).size]!) = (zrow z len).toArray := by
      have : (zrow z len) = [] := List.eq_nil_of_length_eq_zero (by rw [zrow_len]; exact h0)
      rw [this, h0]; simp
    simp only [execOp, Instr.buildSlice, Sem.run_bind, run_underlying ht.h, Result.andThen_ok, h1]
    rw [if_neg hsm, if_pos h0]
    simp only [Sem.run_bind, Sem.run_pure, Result.andThen_ok, hcells, List.map_toArray]
    rw [hf]
    simp [newRow]
  · have hcells := zrow_eq z hne len
    simp only [execOp, Instr.buildSlice, Sem.run_bind, run_underlying ht.h, Result.andThen_ok, h1]
    rw [if_neg hsm, if_neg h0]
    simp only [Sem.run_bind, Sem.run_pure, Result.andThen_ok, h2, h3, hcells, List.map_toArray]
    rw [hf]
    simp [newRow]
end
end Go.Hw
