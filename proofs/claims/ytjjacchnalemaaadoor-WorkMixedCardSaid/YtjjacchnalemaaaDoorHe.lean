/- Structs of numbers: compared, read as elements. -/
import Derived.Test.YtjjacchnalemaaaDoorHb
import Derived.Laws.StructEq
import Derived.Deep.Slices
namespace Go.Hw

/-- A struct of numbers only, one cell each. -/
class EqI (P : Program) (t : TypeId) (ks : outParam (List IntKind)) : Prop where
  u : ∃ fl : List Field, P.underlying t = some (.struct fl.toArray) ∧ fl.map (fun f => (f.name == "_", f.offset, P.underlying f.type)) = ks.zipIdx.map (fun p => (false, p.2, some (.int p.1)))
  s : P.stoodInHeld t = false
  g : P.eqGuardType P.depth t = false
def ints (ks : List IntKind) (as : List Int) : List Value := List.zipWith Value.int ks as
theorem ints_get : ∀ (ks : List IntKind) (as : List Int) (j : Nat), (ints ks as)[j]? = (ks[j]?).bind fun k => (as[j]?).map (Value.int k) := by
  intro ks as j
  simp only [ints, List.getElem?_zipWith]
  cases ks[j]? <;> cases as[j]? <;> rfl
theorem run_part_int {P : Program} {w : World} {t : TypeId} {k : IntKind} (ht : P.underlying t = some (.int k)) {cs : List Value} {off : Nat} {v : Value} (hv : cs[off]? = some v) : (part t cs.toArray off).run P w = .ok v w := by
  have : (isAgg t).run P w = .ok false w := by
    unfold Go.isAgg
    rw [Sem.run_bind, run_underlying ht w]
    rfl
  simp [part, this, hv]
theorem run_eqFields {P : Program} {w : World} (d : Nat) : ∀ (fl : List Field) (ks : List IntKind) (as bs : List Int) (p q : List Value), p.length = q.length → as.length = ks.length → bs.length = ks.length →
    fl.map (fun f => (f.name == "_", f.offset, P.underlying f.type)) = (ks.zipIdx p.length).map (fun p => (false, p.2, some (.int p.1))) →
    (Op.eqFields (d + 1) (p ++ ints ks as).toArray (q ++ ints ks bs).toArray fl).run P w = .ok (as == bs) w
  | [], [], [], [], _, _, _, _, _, _ => by simp [Op.eqFields]
  | [], k :: ks, _, _, _, _, _, _, _, h => by simp at h
  | f :: fl, [], _, _, _, _, _, _, _, h => by simp at h
  | f :: fl, k :: ks, [], _, _, _, _, h, _, _ => by simp at h
  | f :: fl, k :: ks, a :: as, [], _, _, _, _, h, _ => by simp at h
  | f :: fl, k :: ks, a :: as, b :: bs, p, q, hpq, ha, hb, h => by
    simp only [List.map_cons, List.zipIdx_cons, List.cons.injEq, Prod.mk.injEq] at h
    obtain ⟨⟨h1, h2, h3⟩, h4⟩ := h
    have hn : f.name ≠ "_" := by simpa using h1
    have e1 : (p ++ ints (k :: ks) (a :: as))[f.offset]? = some (.int k a) := by rw [h2]; simp [ints]
    have e2 : (q ++ ints (k :: ks) (b :: bs))[f.offset]? = some (.int k b) := by rw [h2, hpq]; simp [ints]
    unfold Op.eqFields
    rw [if_pos hn]
    simp only [Sem.run_bind, run_part_int h3 e1, run_part_int h3 e2, Result.andThen_ok, run_equalIn_int w d f.type k k a b h3]
    by_cases hab : a = b
    · subst hab
      have ih := run_eqFields (P := P) (w := w) d fl ks as bs (p ++ [.int k a]) (q ++ [.int k a]) (by simp [hpq]) (by simpa using ha) (by simpa using hb) (by simpa using h4)
      simp only [List.append_assoc, List.singleton_append] at ih
      have hi : ints (k :: ks) (a :: as) = .int k a :: ints ks as := rfl
      have hi2 : ints (k :: ks) (a :: bs) = .int k a :: ints ks bs := rfl
      rw [hi, hi2]
      simp [ih]
    · have : (a == b) = false := by simp [hab]
      simp [this]
theorem run_eqI {P : Program} {w : World} {t : TypeId} {ks : List IntKind} (h : EqI P t ks) {as bs : List Int} (ha : as.length = ks.length) (hb : bs.length = ks.length) (d : Nat) :
    (Op.equalIn (d + 2) t (.agg (ints ks as).toArray) (.agg (ints ks bs).toArray)).run P w = .ok (as == bs) w := by
  obtain ⟨fl, hu, hf⟩ := h.u
  have hfo : P.fieldsOf t = fl.toArray := by unfold Program.fieldsOf; rw [hu]
  rw [run_equalIn_struct w (d + 1) t _ _ (by rw [hfo]; exact hu) h.s, hfo]
  have := run_eqFields (P := P) (w := w) d fl ks as bs [] [] rfl ha hb (by simpa using hf)
  simpa using this

section
variable {P : Program} {e : Env} {w : World} {d : Option Nat} {ty : TypeId} {pos : String} {af : Array Edge} {g : Option (Nat × Bool)}
theorem q_eqI {t t2 : TypeId} {ks : List IntKind} [h : EqI P t ks] {x y : Operand} (as bs : List Int) (hx : ev e x = .agg (ints ks as).toArray) (hy : ev e y = .agg (ints ks bs).toArray) (ha : as.length = ks.length) (hb : bs.length = ks.length) :
    Qv P e ⟨d, .binOp .eql t x y t2, ty, pos, af, g⟩ w (.bool (as == bs)) := by
  unfold Qv
  have h1 := run_eqGuard_agg (P := P) w .eql t x y (ints ks as).toArray (ints ks bs).toArray h.g
  have h2 := run_eql_struct (P := P) w t (ints ks as).toArray (ints ks bs).toArray
  rw [run_eqI h ha hb 9998] at h2
  simp only [execOp, hx, hy, Sem.run_bind, h1, Result.andThen_ok, h2, Result.andThen]
  rfl
theorem q_neI {t t2 : TypeId} {ks : List IntKind} [h : EqI P t ks] {x y : Operand} (as bs : List Int) (hx : ev e x = .agg (ints ks as).toArray) (hy : ev e y = .agg (ints ks bs).toArray) (ha : as.length = ks.length) (hb : bs.length = ks.length) :
    Qv P e ⟨d, .binOp .neq t x y t2, ty, pos, af, g⟩ w (.bool (!(as == bs))) := by
  unfold Qv
  have h1 := run_eqGuard_agg (P := P) w .neq t x y (ints ks as).toArray (ints ks bs).toArray h.g
  have h2 := run_neq_struct (P := P) w t (ints ks as).toArray (ints ks bs).toArray
  rw [run_eqI h ha hb 9998] at h2
  simp only [execOp, hx, hy, Sem.run_bind, h1, Result.andThen_ok, h2, Result.andThen]
  rfl
end

/-- Elements of a row, each of them 'sz' cells. -/
theorem flat_get {α : Type} {f : α → List Value} {sz : Nat} (hf : ∀ x, (f x).length = sz) : ∀ (L : List α) (k : Nat) (x : α), L[k]? = some x → ∀ j v, (f x)[j]? = some v → (L.flatMap f)[k * sz + j]? = some v
  | [], k, x, h, _, _, _ => by simp at h
  | a :: L, 0, x, h, j, v, hj => by
    simp only [List.getElem?_cons_zero, Option.some.injEq] at h
    subst h
    rw [List.flatMap_cons, Nat.zero_mul, Nat.zero_add, List.getElem?_append_left (List.getElem?_eq_some_iff.1 hj).1]
    exact hj
  | a :: L, k + 1, x, h, j, v, hj => by
    have ih := flat_get hf L k x (by simpa using h) j v hj
    rw [List.flatMap_cons, List.getElem?_append_right (by rw [hf, Nat.add_mul]; omega), hf]
    rw [show (k + 1) * sz + j - sz = k * sz + j by rw [Nat.add_mul]; omega]
    exact ih
theorem flat_len {α : Type} {f : α → List Value} {sz : Nat} (hf : ∀ x, (f x).length = sz) : ∀ (L : List α), (L.flatMap f).length = L.length * sz
  | [] => by simp
  | a :: L => by rw [List.flatMap_cons, List.length_append, hf, flat_len hf L, List.length_cons, Nat.add_mul]; omega
theorem flat_set {α : Type} {f : α → List Value} {sz : Nat} (hf : ∀ x, (f x).length = sz) : ∀ (L : List α) (k : Nat) (x y : α) (j : Nat) (v : Value), L[k]? = some x → j < sz → f y = (f x).set j v → (L.flatMap f).set (k * sz + j) v = (L.set k y).flatMap f
  | [], k, x, y, j, v, h, _, _ => by simp at h
  | a :: L, 0, x, y, j, v, h, hj, hy => by
    simp only [List.getElem?_cons_zero, Option.some.injEq] at h
    subst h
    rw [List.flatMap_cons, Nat.zero_mul, Nat.zero_add, List.set_cons_zero, List.flatMap_cons, hy, List.set_append, if_pos (by rw [hf]; exact hj)]
  | a :: L, k + 1, x, y, j, v, h, hj, hy => by
    have ih := flat_set hf L k x y j v (by simpa using h) hj hy
    rw [List.flatMap_cons, List.set_cons_succ, List.flatMap_cons, List.set_append, if_neg (by rw [hf, Nat.add_mul]; omega), hf]
    rw [show (k + 1) * sz + j - sz = k * sz + j by rw [Nat.add_mul]; omega, ih]
theorem Rd.elem {w : World} {sz n b o : Nat} {α : Type} {f : α → List Value} {L : List α} (h : Rd w sz (Option.some ⟨b, o, none⟩) n (L.flatMap f)) (hf : ∀ x, (f x).length = sz) {k : Nat} {x : α} (hk : L[k]? = Option.some x) : At w b (o + k * sz) (f x) := by
  intro j v hj
  have := h.cell (flat_get hf L k x hk j v hj)
  rwa [← Nat.add_assoc] at this
theorem Rd.count {w : World} {sz n : Nat} {a : Option Addr} {α : Type} {f : α → List Value} {L : List α} (h : Rd w sz a n (L.flatMap f)) (hf : ∀ x, (f x).length = sz) (hs : 0 < sz) : L.length = n := by
  have := h.1
  rw [flat_len hf] at this
  exact Nat.eq_of_mul_eq_mul_right hs this
structure Smp where
  T : Int
  V : Int
  deriving DecidableEq
def Smp.cells (s : Smp) : List Value := [.int .i64 s.T, .int .u64 s.V]
abbrev smpsV (L : List Smp) : List Value := L.flatMap Smp.cells
theorem smp_len (s : Smp) : s.cells.length = 2 := rfl
theorem smps_one (L : List Smp) : ∀ u ∈ smpsV L, u.oneCell' = true := by
  intro u hu
  simp only [List.mem_flatMap, Smp.cells, List.mem_cons, List.not_mem_nil, or_false] at hu
  obtain ⟨s, _, rfl | rfl⟩ := hu <;> rfl
structure Prt where
  blob : Int
  tag : Int
  count : Int
  frm : Int
  upto : Int
  deriving DecidableEq
def Prt.cells (p : Prt) : List Value := [.int .i64 p.blob, .int .i64 p.tag, .int .i64 p.count, .int .i64 p.frm, .int .i64 p.upto]
abbrev prtsV (L : List Prt) : List Value := L.flatMap Prt.cells
theorem prt_len (s : Prt) : s.cells.length = 5 := rfl
theorem prts_one (L : List Prt) : ∀ u ∈ prtsV L, u.oneCell' = true := by
  intro u hu
  simp only [List.mem_flatMap, Prt.cells, List.mem_cons, List.not_mem_nil, or_false] at hu
  obtain ⟨s, _, rfl | rfl | rfl | rfl | rfl⟩ := hu <;> rfl
end Go.Hw
