/- More on slices: elements, made ones, bytes and texts. -/
import Derived.Test.YtjjacchnalemaaaDoorHm
import Derived.Laws.IdiomStrings
import Derived.Laws.MakeOwn
namespace Go.Hw

def bytesV (bs : List UInt8) : List Value := bs.map fun b => .int .u8 b.toNat
theorem bytesV_len (bs : List UInt8) : (bytesV bs).length = bs.length := by simp [bytesV]
theorem bytesV_one (bs : List UInt8) : ∀ u ∈ bytesV bs, u.oneCell' = true := by
  intro u hu
  simp only [bytesV, List.mem_map] at hu
  obtain ⟨b, _, rfl⟩ := hu
  rfl
theorem bytesV_get {bs : List UInt8} {j : Nat} {b : UInt8} (h : bs[j]? = some b) : (bytesV bs)[j]? = some (.int .u8 b.toNat) := by simp [bytesV, h]
theorem bytesV_set (bs : List UInt8) (j : Nat) (b : UInt8) : (bytesV bs).set j (.int .u8 b.toNat) = bytesV (bs.set j b) := by simp [bytesV, List.map_set]
/-- The bytes in order. -/
def strB (bs : List UInt8) : ByteArray := ⟨bs.toArray⟩
section
variable {P : Program} {n : Nat} {ops : Array Oper} {Q : Post} {rest : List Oper} {e : Env} {w w0 : World} {K : Env → World → Prop} {l : List HProp}
variable {d : Option Nat} {ty : TypeId} {pos : String} {af : Array Edge} {g : Option (Nat × Bool)}

/-- What was just computed is v'. -/
theorem r_is {c : Nat} {v : Value} (v' : Value) (hv : v = v') (h : Rn P n ops Q rest (upd e c v') w) : Rn P n ops Q rest (upd e c v) w := hv ▸ h

/-- The address of an element. -/
theorem q_idx {t T : TypeId} [ht : Und P t (.slice T)] {z : List Value} {agg : Bool} {bytes : Nat} [hi : Inf P T z agg bytes] {x y : Operand} {b o o' m c j : Nat} {k : IntKind} {i : Int}
    (hx : ev e x = .slice (some ⟨b, o, none⟩) m c) (hy : ev e y = .int k i) (hij : i = (j : Int)) (hj : j < m) (ho : o + j * z.length = o') : Qv P e ⟨d, .indexAddr t x y, ty, pos, af, g⟩ w (.pointer (some ⟨b, o', none⟩)) := by
  unfold Qv
  subst hij ho
  have h1 := hi.sizeOf w
  have h2 : (0 : Int) ≤ (j : Int) ∧ (j : Int) < (m : Int) := by omega
  have h3 : ((j : Int) < (m : Int)) := h2.2
  simp [execOp, hx, hy, Instr.indexAt, asIntOf, run_underlying ht.h, h1, Addr.add_mid, hj]
theorem Rd.cell {sz m b o : Nat} {xs : List Value} {j : Nat} {v : Value} (h : Rd w sz (some ⟨b, o, none⟩) m xs) (hv : xs[j]? = some v) : w.cell? ⟨b, o + j, none⟩ = some v := by
  rcases h.2 with h0 | ⟨b', o', h1, h2⟩
  · have := h.1
    have h3 := (List.getElem?_eq_some_iff.1 hv).1
    rw [this, h0, Nat.zero_mul] at h3
    omega
  · cases h1; exact h2 j v hv
theorem Rd.some {sz m : Nat} {a : Option Addr} {xs : List Value} (h : Rd w sz a m xs) (hm : 0 < m) : ∃ b o, a = some ⟨b, o, none⟩ := by
  rcases h.2 with h | ⟨b, o, h, _⟩
  · omega
  · exact ⟨b, o, h⟩
theorem St.own_some {T sz m c : Nat} {a : Option Addr} {xs : List Value} (h : St w0 (Own T sz a m c xs :: l) w) (hm : 0 < m) : ∃ g, a = some ⟨g, 0, none⟩ := by
  obtain ⟨_, _, ⟨_, _, h, _⟩ | ⟨g, _, h, _⟩⟩ := h.own_cases
  · omega
  · exact ⟨g, h⟩
/-- A store into a cell of a row of its own. -/
theorem x_ownset {t T : TypeId} {z : List Value} {bytes : Nat} [hi : Inf P t z false bytes] {x y : Operand} {sz m c b o : Nat} {xs : List Value} {v : Value}
    (h : St w0 (Own T sz (some ⟨b, 0, none⟩) m c xs :: l) w) (hx : ev e x = .pointer (some ⟨b, o, none⟩)) (hy : ev e y = v) (ho : o < m * sz) (h1 : v.oneCell' = true)
    (k : ∀ w', St w0 (Own T sz (some ⟨b, 0, none⟩) m c (xs.set o v) :: l) w' → K e w') : Ex P ⟨none, .store t x y, ty, pos, af, g⟩ e w K := by
  obtain ⟨h2, h3, ⟨h4, _⟩ | ⟨g, cur, h4, h5, h6, h7⟩⟩ := h.own_cases
  · cases h4
  · cases h4
    have hle : m * sz ≤ c * sz := Nat.mul_le_mul_right _ h3
    refine x_store 0 h7 hx hy rfl (by rw [Nat.blt_eq]; omega) rfl h1 fun w' h => k w' ?_
    simp only [List.set_cons_zero] at h
    exact St.own_mk' h (by simpa using h5) (by rw [List.take_set, h6]) h3

/-- A made slice. -/
theorem madeCells_zrow (z : List Value) (hz : z ≠ []) (k : Nat) : madeCells z.toArray (k * z.length) = (zrow z k).toArray := zrow_eq z hz k
theorem x_make {c : Nat} {t T : TypeId} [ht : Und P t (.slice T)] {z : List Value} {agg : Bool} {bytes : Nat} [hi : Inf P T z agg bytes] {x y : Operand} {kx ky : IntKind} {m m' : Nat} (h : St w0 l w)
    (hx : ev e x = .int kx (m : Int)) (hy : ev e y = .int ky (m' : Int)) (hm : m ≤ m') (hb : bytes * m' ≤ 281474976710656) (h63 : m' ≤ 9223372036854775807) (hz : Nat.ble 1 z.length = true)
    (k : ∀ b w', St w0 (Own T z.length (some ⟨b, 0, none⟩) m m' (zrow z m) :: l) w' → K (upd e c (.slice (some ⟨b, 0, none⟩) m m')) w') :
    Ex P ⟨some c, .makeSlice t x y, ty, pos, af, g⟩ e w K := by
  obtain ⟨i, h1, h2, h3, h4⟩ := hi.get
  have hne : z ≠ [] := by rintro rfl; simp at hz
  have hr := run_make (P := P) w t T i _ ht.h h1 h2 kx ky (m : Int) (m' : Int) (by omega) (by omega) (by have h5 := Int.ofNat_le.2 hb; rw [Int.natCast_mul] at h5; rw [h4]; omega) (by omega)
  have hc := hi.cells
  rw [hc, h3, Int.toNat_natCast, Int.toNat_natCast, madeCells_zrow z hne] at hr
  refine x_w (v := .slice (some ⟨w.heap.size, 0, none⟩) m m') (w' := w.alloc (.cells (zrow z m').toArray T (0, 0))) ?_ (k _ _ ?_)
  · simp only [execOp, hx, hy, Sem.run_bind, hr, Result.andThen_ok]; rfl
  · refine St.own_mk (h.alloc _) (zrow_len z m') ?_ hm
    obtain ⟨r, rfl⟩ := Nat.exists_eq_add_of_le hm
    have : ∀ m r, zrow z (m + r) = zrow z m ++ zrow z r := by
      intro m r
      induction m with
      | zero => simp [zrow]
      | succ m ih => rw [Nat.add_right_comm]; simp only [zrow, ih, List.append_assoc]
    rw [this]
    exact List.take_left' (zrow_len z m)
theorem zrow_bytes (m : Nat) : zrow [.int .u8 0] m = bytesV (List.replicate m 0) := by
  induction m with
  | zero => rfl
  | succ m ih => simp only [zrow, ih, List.replicate_succ, bytesV, List.map_cons]; rfl

theorem x_append' {c : Nat} {t T : TypeId} [ht : Und P t (.slice T)] {z : List Value} {agg : Bool} {bytes : Nat} [hi : Inf P T z agg bytes] {x y : Operand} {a a2 : Option Addr} {m m2 m3 c1 c2 sz : Nat} {xs ys zs : List Value}
    (h : St w0 (Own T sz a m c1 xs :: l) w) (hx : ev e x = .slice a m c1) (hy : ev e y = .slice a2 m2 c2) (hr : Rd w sz a2 m2 ys) (h1 : ∀ u ∈ ys, u.oneCell' = true) (hm : m + m2 = m3) (hzs : xs ++ ys = zs) (hb : m3 * bytes ≤ 140737488355328) (h63 : m3 ≤ 9223372036854775807) (hz : z.length = sz)
    (k : ∀ a' c' w', (a' = none → a = none) → St w0 (Own T sz a' m3 c' zs :: l) w' → K (upd e c (.slice a' m3 c')) w') :
    Ex P ⟨some c, .call ⟨.builtin .append, [x, y].toArray, [t, t].toArray⟩, ty, pos, af, g⟩ e w K := by
  subst hm hzs
  exact x_append h hx hy hr h1 hb h63 hz k

/-- A slice of a slice: from its head to h, with the capacity m. -/
theorem q_clip {t T : TypeId} [ht : Und P t (.slice T)] {z : List Value} {agg : Bool} {bytes : Nat} [hi : Inf P T z agg bytes] {x y y' : Operand} {a : Option Addr} {m c h h' : Nat} {k k' : IntKind}
    (hx : ev e x = .slice a m c) (hy : ev e y = .int k (h : Int)) (hy' : ev e y' = .int k' (h' : Int)) (h1 : h ≤ h') (h2 : h' ≤ c) : Qv P e ⟨d, .slice t x none (some y) (some y'), ty, pos, af, g⟩ w (.slice a h h') := by
  unfold Qv
  have hz := hi.sizeOf w
  have e1 : (Instr.sliceBound (.int k' (h' : Int)) c .slice3Acap).run P w = .ok h' w := by
    simp [Instr.sliceBound, asIntOf, h2]
  have e2 : (Instr.sliceBound (.int k (h : Int)) h' .slice3B).run P w = .ok h w := by
    simp [Instr.sliceBound, asIntOf, h1]
  have e3 : (Instr.sliceBounds true m c none (some (.int k (h : Int))) (some (.int k' (h' : Int)))).run P w = .ok (0, h, h') w := by
    simp [Instr.sliceBounds, e1, e2]
  have key : (Instr.sliceAt t (.slice a m c) none (some (.int k (h : Int))) (some (.int k' (h' : Int)))).run P w = .ok (.slice a h h') w := by
    simp [Instr.sliceAt, Instr.slice, run_underlying ht.h, e3, hz]
    rintro -
    cases a with
    | none => rfl
    | some ad => simp [Addr.add]
  simp only [execOp, hx, hy, hy', Option.map_none, Option.map_some, Sem.run_bind, key, Result.andThen_ok]; rfl
/-- .. from its head to h. -/
theorem q_head {t T : TypeId} [ht : Und P t (.slice T)] {z : List Value} {agg : Bool} {bytes : Nat} [hi : Inf P T z agg bytes] {x y : Operand} {a : Option Addr} {m c h : Nat} {k : IntKind}
    (hx : ev e x = .slice a m c) (hy : ev e y = .int k (h : Int)) (h2 : h ≤ c) : Qv P e ⟨d, .slice t x none (some y) none, ty, pos, af, g⟩ w (.slice a h c) := by
  unfold Qv
  have hz := hi.sizeOf w
  have e2 : (Instr.sliceBound (.int k (h : Int)) c .sliceAcap).run P w = .ok h w := by
    simp [Instr.sliceBound, asIntOf, h2]
  have e3 : (Instr.sliceBounds true m c none (some (.int k (h : Int))) none).run P w = .ok (0, h, c) w := by
    simp [Instr.sliceBounds, e2]
  have key : (Instr.sliceAt t (.slice a m c) none (some (.int k (h : Int))) none).run P w = .ok (.slice a h c) w := by
    simp [Instr.sliceAt, Instr.slice, run_underlying ht.h, e3, hz]
    rintro -
    cases a with
    | none => rfl
    | some ad => simp [Addr.add]
  simp only [execOp, hx, hy, Option.map_none, Option.map_some, Sem.run_bind, key, Result.andThen_ok]; rfl

/-- Bytes, as a text. -/
theorem q_btos {s t T : TypeId} [hs : Und P s (.slice T)] [hT : Und P T (.int .u8)] [ht : Und P t .string] {x : Operand} {a : Option Addr} {m c : Nat} {bs : List UInt8} (hx : ev e x = .slice a m c) (hr : Rd w 1 a m (bytesV bs)) :
    Qv P e ⟨d, .convert s t x, ty, pos, af, g⟩ w (.string (strB bs)) := by
  unfold Qv
  have hlen : bs.length = m := by have := hr.1; rw [bytesV_len] at this; omega
  subst hlen
  have key : (convert s t (.slice a bs.length c)).run P w = .ok (.string (strB bs)) w := by
    rcases hr.2 with h0 | ⟨b, o, rfl, hat⟩
    · obtain rfl := List.eq_nil_of_length_eq_zero h0
      cases a with
      | none =>
        rw [run_convert_bytes_string w s t T none _ c hs.h hT.h ht.h]
        simp [Conv.bytesToString, strB, ByteArray.empty, ByteArray.emptyWithCapacity]; rfl
      | some ad => exact run_convert_bytes_back w s t T ad c [] hs.h hT.h ht.h fun j hj => by cases hj
    · refine run_convert_bytes_back w s t T _ c bs hs.h hT.h ht.h fun j hj => ?_
      rw [Addr.add_mid]
      exact hat j _ (bytesV_get (List.getElem?_eq_getElem hj))
  simp only [execOp, hx, Sem.run_bind, key, Result.andThen_ok]; rfl

/-- A constant text's bytes: the row is marked. -/
theorem x_mark (k : Nat) {c : Nat} {t T : TypeId} [ht : Und P t (.slice T)] [hT : Und P T (.int .u8)] {x : Operand} {b m cc : Nat} {cs : List Value} (h : St w0 l w) (hk : l[k]? = some (pt b (.cells cs.toArray T (0, 0)))) (hx : ev e x = .slice (some ⟨b, 0, none⟩) m cc)
    (kk : ∀ w', St w0 (l.set k (pt b (.cells cs.toArray T (cs.length, cs.length + 1)))) w' → K (upd e c (.slice (some ⟨b, 0, none⟩) m cc)) w') :
    Ex P ⟨some c, .convert t t x, ty, pos, af, g⟩ e w K := by
  have hb := h.b k hk
  have hsh : w.shape? b = some (T, cs.length) := by simp [World.shape?, hb]
  refine x_w (v := .slice (some ⟨b, 0, none⟩) m cc) (w' := w.freeze ⟨b, cs.length, none⟩ 1) ?_ (kk _ ?_)
  · have : (convert t t (.slice (some ⟨b, 0, none⟩) m cc)).run P w = .ok (.slice (some ⟨b, 0, none⟩) m cc) (w.freeze ⟨b, cs.length, none⟩ 1) := by
      simp [convert, run_underlying ht.h, run_underlying hT.h, markStringish, hsh]
    simp only [execOp, hx, Sem.run_bind, this, Result.andThen_ok]; rfl
  · have hlt : b < w.heap.size := by
      rcases Nat.lt_or_ge b w.heap.size with h' | h'
      · exact h'
      · rw [Array.getElem?_eq_none h'] at hb; cases hb
    refine h.putk k hk rfl rfl rfl ?_ ?_ ?_
    · simp [World.freeze]
    · intro j hj
      simp only [World.freeze]
      rw [if_neg (by decide)]
      simp only [Array.getElem?_modify]
      rw [if_neg (by omega)]
    · simp only [World.freeze]
      rw [if_neg (by decide)]
      simp only [Array.getElem?_modify, if_true, hb, Option.map_some]
      simp
end

section
variable {P : Program} {e : Env} {w : World} {φ : Value → World → Prop}
theorem run_loadVarS {t : TypeId} {z : List Value} {bytes : Nat} [hi : Inf P t z true bytes] {a : Tmp} {b o : Nat} {l : List Value} (hx : e a = .pointer (some ⟨b, o, none⟩)) (hz : z.length = l.length) (hl : At w b o l) :
    (do loadVar t (← asAddr (e a)) : Sem Value).run P w = .ok (.agg l.toArray) w := by
  have := run_loadS (P := P) (t := t) hz hl
  rw [hx]
  simpa [Instr.loadAt, Instr.sureAddr, asAddr] using this
theorem bqS1 {a : Tmp} {t : TypeId} {z : List Value} {bytes : Nat} [hi : Inf P t z true bytes] {b o : Nat} {l : List Value} (hx : e a = .pointer (some ⟨b, o, none⟩)) (hz : Nat.beq z.length l.length = true) (hl : At w b o l) (h : φ (.agg l.toArray) w) :
    bq P [.cell a t] φ .ret e w := ⟨_, run_loadVarS hx (Nat.eq_of_beq_eq_true hz) hl, h⟩
theorem bqS2 {a c : Tmp} {t : TypeId} {z : List Value} {bytes : Nat} [hi : Inf P t z true bytes] {b o : Nat} {l : List Value} (hx : e a = .pointer (some ⟨b, o, none⟩)) (hz : Nat.beq z.length l.length = true) (hl : At w b o l) (h : φ (.tuple [.agg l.toArray, e c].toArray) w) :
    bq P [.cell a t, .tmp c] φ .ret e w := ⟨_, run_loadVarS hx (Nat.eq_of_beq_eq_true hz) hl, h⟩
theorem bqS4 {a c d f : Tmp} {t : TypeId} {z : List Value} {bytes : Nat} [hi : Inf P t z true bytes] {b o : Nat} {l : List Value} (hx : e a = .pointer (some ⟨b, o, none⟩)) (hz : Nat.beq z.length l.length = true) (hl : At w b o l) (h : φ (.tuple [e d, .agg l.toArray, e c, e f].toArray) w) :
    bq P [.tmp d, .cell a t, .tmp c, .tmp f] φ .ret e w := ⟨_, run_loadVarS hx (Nat.eq_of_beq_eq_true hz) hl, h⟩
end
end Go.Hw
