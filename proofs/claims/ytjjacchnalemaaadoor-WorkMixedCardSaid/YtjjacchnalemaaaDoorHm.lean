/- Maps that a call makes: what is asked of them, and what they hold behind a store or a delete. -/
import Derived.Test.YtjjacchnalemaaaDoorHq
namespace Go.Hw

set_option linter.unusedSectionVars false
section
variable {κ β : Type} [DecidableEq κ]
def mfind (k : κ) : List (κ × β) → Nat → Option (Nat × β)
  | [], _ => none
  | (j, v) :: r, i => if j = k then some (i, v) else mfind k r (i + 1)
def mget (k : κ) : List (κ × β) → Option β
  | [] => none
  | (j, v) :: r => if j = k then some v else mget k r
def mset (k : κ) (v : β) : List (κ × β) → List (κ × β)
  | [] => [(k, v)]
  | (j, u) :: r => if j = k then (k, v) :: r else (j, u) :: mset k v r
def mdel (k : κ) : List (κ × β) → List (κ × β)
  | [] => []
  | (j, u) :: r => if j = k then r else (j, u) :: mdel k r
theorem mget_mset (k k' : κ) (v : β) : ∀ m, mget k' (mset k v m) = if k' = k then some v else mget k' m
  | [] => by simp [mget, mset, eq_comm]
  | (j, u) :: r => by
    by_cases h : j = k
    · subst h
      by_cases h' : k' = j
      · subst h'; simp [mget, mset]
      · simp [mget, mset, h', Ne.symm h']
    · by_cases h' : j = k'
      · subst h'; simp [mget, mset, h]
      · simp [mget, mset, h, h', mget_mset k k' v r]
theorem mfind_some (k : κ) : ∀ (m : List (κ × β)) (n : Nat), (mfind k m n).map (·.2) = mget k m
  | [], _ => rfl
  | (j, v) :: r, n => by
    by_cases h : j = k
    · simp [mfind, mget, h]
    · simp [mfind, mget, h, mfind_some k r (n + 1)]
def keys (m : List (κ × β)) : List κ := m.map (·.1)
theorem mget_none {k : κ} : ∀ {m : List (κ × β)}, mget k m = none ↔ k ∉ keys m
  | [] => by simp [mget, keys]
  | (j, v) :: r => by
    have ih := mget_none (k := k) (m := r)
    unfold keys at ih ⊢
    by_cases h : j = k
    · simp [mget, h]
    · simp [mget, h, Ne.symm h, ih]
theorem keys_mset (k : κ) (v : β) : ∀ m, keys (mset k v m) = if k ∈ keys m then keys m else keys m ++ [k]
  | [] => by simp [keys, mset]
  | (j, u) :: r => by
    have ih := keys_mset k v r
    unfold keys at ih ⊢
    by_cases h : j = k
    · subst h; simp [mset]
    · simp only [mset, h, if_false, List.map_cons, ih, List.mem_cons, Ne.symm h, false_or]
      split <;> simp
theorem keys_mdel (k : κ) : ∀ m : List (κ × β), keys (mdel k m) = (keys m).erase k
  | [] => by simp [keys, mdel]
  | (j, u) :: r => by
    have ih := keys_mdel k r
    unfold keys at ih ⊢
    by_cases h : j = k
    · subst h; simp [mdel]
    · rw [List.map_cons, List.erase_cons_tail (by simpa using h), mdel, if_neg h, List.map_cons, ih]
theorem mget_mdel (k k' : κ) : ∀ m : List (κ × β), (keys m).Nodup → mget k' (mdel k m) = if k' = k then none else mget k' m
  | [], _ => by simp [mget, mdel]
  | (j, u) :: r, h => by
    have h' : j ∉ keys r ∧ (keys r).Nodup := by simpa [keys] using h
    by_cases e : j = k
    · subst e
      by_cases e' : k' = j
      · subst e'
        simp only [mdel, if_true]
        exact mget_none.2 h'.1
      · simp [mdel, mget, e', Ne.symm e']
    · by_cases e' : j = k'
      · subst e'; simp [mdel, mget, e]
      · simp [mdel, mget, e, e', mget_mdel k k' r h'.2]
theorem mset_self {k : κ} {v : β} : ∀ {m : List (κ × β)}, mget k m = some v → mset k v m = m
  | [], h => by simp [mget] at h
  | (j, u) :: r, h => by
    by_cases e : j = k
    · simp only [mget, e, if_true, Option.some.injEq] at h; simp [mset, e, h]
    · simp only [mget, e, if_false] at h; simp [mset, e, mset_self h]
theorem len_mset (k : κ) (v : β) : ∀ m : List (κ × β), (mset k v m).length = if mget k m = none then m.length + 1 else m.length
  | [] => by simp [mset, mget]
  | (j, u) :: r => by
    by_cases h : j = k
    · simp [mset, mget, h]
    · simp only [mset, mget, h, if_false, List.length_cons, len_mset k v r]
      split <;> rfl
theorem len_mdel (k : κ) : ∀ m : List (κ × β), mget k m ≠ none → (mdel k m).length + 1 = m.length
  | [], h => by simp [mget] at h
  | (j, u) :: r, h => by
    by_cases e : j = k
    · simp [mdel, e]
    · simp only [mget, e, if_false] at h
      simp only [mdel, e, if_false, List.length_cons, len_mdel k r h]
theorem mdel_none (k : κ) : ∀ m : List (κ × β), mget k m = none → mdel k m = m
  | [], _ => rfl
  | (j, u) :: r, h => by
    by_cases e : j = k
    · simp [mget, e] at h
    · simp only [mget, e, if_false] at h
      simp only [mdel, e, if_false, mdel_none k r h]
theorem mset_nodup {k : κ} {v : β} {m : List (κ × β)} (h : (keys m).Nodup) : (keys (mset k v m)).Nodup := by
  rw [keys_mset]
  split
  · exact h
  · rename_i hk
    exact List.nodup_append.2 ⟨h, by simp, fun a ha b hb => by simp at hb; subst hb; rintro rfl; exact hk ha⟩
theorem mdel_nodup {k : κ} {m : List (κ × β)} (h : (keys m).Nodup) : (keys (mdel k m)).Nodup := by
  rw [keys_mdel]; exact h.erase k

theorem mget_map {γ : Type} (f : β → γ) (k : κ) : ∀ m : List (κ × β), mget k (m.map fun p => (p.1, f p.2)) = (mget k m).map f
  | [] => rfl
  | (j, v) :: r => by by_cases h : j = k <;> simp [mget, h, mget_map f k r]
theorem mset_map {γ : Type} (f : β → γ) (k : κ) (v : β) : ∀ m : List (κ × β), mset k (f v) (m.map fun p => (p.1, f p.2)) = (mset k v m).map fun p => (p.1, f p.2)
  | [] => rfl
  | (j, u) :: r => by by_cases h : j = k <;> simp [mset, h, mset_map f k v r]
theorem mdel_map {γ : Type} (f : β → γ) (k : κ) : ∀ m : List (κ × β), mdel k (m.map fun p => (p.1, f p.2)) = (mdel k m).map fun p => (p.1, f p.2)
  | [] => rfl
  | (j, u) :: r => by by_cases h : j = k <;> simp [mdel, h, mdel_map f k r]
theorem keys_map {γ : Type} (f : β → γ) (m : List (κ × β)) : keys (m.map fun p => (p.1, f p.2)) = keys m := by simp [keys, Function.comp_def]
theorem mdel_mset (k : κ) (v : β) : ∀ m : List (κ × β), mdel k (mset k v m) = mdel k m
  | [] => by simp [mdel, mset]
  | (j, u) :: r => by by_cases h : j = k <;> simp [mdel, mset, h, mdel_mset k v r]
/-- A heap for each. -/
def big (f : κ × β → HProp) : List (κ × β) → HProp
  | [] => emp
  | p :: r => star (f p) (big f r)
theorem big_get (f : κ × β → HProp) (k : κ) (y : β) : ∀ m : List (κ × β), mget k m = some y → big f m = star (f (k, y)) (big f (mdel k m))
  | [], h => by simp [mget] at h
  | (j, u) :: r, h => by
    by_cases e : j = k
    · subst e
      simp only [mget, if_true, Option.some.injEq] at h
      subst h
      simp [big, mdel]
    · simp only [mget, e, if_false] at h
      simp only [big, mdel, e, if_false]
      rw [big_get f k y r h, star_left]
theorem big_set (f : κ × β → HProp) (k : κ) (y : β) (m : List (κ × β)) : big f (mset k y m) = star (f (k, y)) (big f (mdel k m)) := by
  rw [big_get f k y (mset k y m) (by rw [mget_mset]; simp), mdel_mset]

/-- The entries of a map read so. -/
def Ents (kv : κ → Value) (es : List MapEntry) (m : List (κ × Value)) : Prop := es.map (fun e => (e.key, e.val)) = m.map (fun p => (kv p.1, p.2))
/-- Keys that the model's maps can tell from each other. -/
class MK (P : Program) (kt : TypeId) (κ : Type) [DecidableEq κ] (kv : outParam (κ → Value)) : Prop where
  check : ∀ e w k, (Instr.checkKey e 10000 kt (kv k)).run P w = .ok () w
  find : ∀ w k es m, Ents kv es m → (Instr.findKey kt (kv k) es).run P w = .ok (mfind k m 0) w
  same : ∀ k, Instr.sameBits 10000 (kv k) (kv k) = true
  inj : ∀ a b, kv a = kv b → a = b
def MapOf (kv : κ → Value) (b : Nat) (m : List (κ × Value)) : HProp := fun h => ∃ es clock, Ents kv es m ∧ pt b (.map es.toArray clock) h

theorem ents_len {kv : κ → Value} {es : List MapEntry} {m : List (κ × Value)} (h : Ents kv es m) : es.length = m.length := by
  have := congrArg List.length h; simpa using this
theorem ents_set {kv : κ → Value} (k : κ) (v : Value) : ∀ (m : List (κ × Value)) (es : List MapEntry) (n i : Nat) (u : Value), Ents kv es m → mfind k m n = some (i, u) → n ≤ i ∧ (es[i - n]?).map (·.key) = some (kv k) ∧
    Ents kv (es.modify (i - n) fun e => { e with key := kv k, val := v }) (mset k v m) ∧ Ents kv (es.eraseIdx (i - n)) (mdel k m)
  | [], _, _, _, _, _, h => by cases h
  | (j, u0) :: r, [], n, i, u, he, h => by simp [Ents] at he
  | (j, u0) :: r, e :: es, n, i, u, he, h => by
    have he' : (e.key, e.val) = (kv j, u0) ∧ Ents kv es r := by simpa [Ents] using he
    have hk : e.key = kv j := congrArg Prod.fst he'.1
    have hv : e.val = u0 := congrArg Prod.snd he'.1
    by_cases hj : j = k
    · subst hj
      simp only [mfind, if_true, Option.some.injEq, Prod.mk.injEq] at h
      obtain ⟨rfl, rfl⟩ := h
      refine ⟨Nat.le_refl _, by simp [hk], ?_, ?_⟩
      · simp only [Nat.sub_self, List.modify_zero_cons, mset, if_true]
        simp only [Ents, List.map_cons]
        rw [he'.2]
      · simp only [Nat.sub_self, List.eraseIdx_cons_zero, mdel, if_true]
        exact he'.2
    · simp only [mfind, hj, if_false] at h
      obtain ⟨h1, h2, h3, h4⟩ := ents_set k v r es (n + 1) i u he'.2 h
      have e1 : i - n = (i - (n + 1)) + 1 := by omega
      rw [e1]
      refine ⟨by omega, by simpa using h2, ?_, ?_⟩
      · simp only [List.modify_succ_cons, mset, hj, if_false]
        simp only [Ents, List.map_cons] at h3 ⊢
        rw [h3, hk, hv]
      · simp only [List.eraseIdx_cons_succ, mdel, hj, if_false]
        simp only [Ents, List.map_cons] at h4 ⊢
        rw [h4, hk, hv]
theorem mset_new {k : κ} {v : Value} : ∀ {m : List (κ × Value)} {n : Nat}, mfind k m n = none → mset k v m = m ++ [(k, v)]
  | [], _, _ => rfl
  | (j, u) :: r, n, h => by
    by_cases hj : j = k
    · simp [mfind, hj] at h
    · simp only [mfind, hj, if_false] at h
      simp [mset, hj, mset_new h]
theorem mdel_new {k : κ} : ∀ {m : List (κ × Value)} {n : Nat}, mfind k m n = none → mdel k m = m
  | [], _, _ => rfl
  | (j, u) :: r, n, h => by
    by_cases hj : j = k
    · simp [mfind, hj] at h
    · simp only [mfind, hj, if_false] at h
      simp [mdel, hj, mdel_new h]
end

section
variable {P : Program} {κ : Type} [DecidableEq κ] {kv : κ → Value} {e : Env} {w w0 : World} {K : Env → World → Prop} {l : List HProp}
variable {d : Option Nat} {ty : TypeId} {pos : String} {af : Array Edge} {g : Option (Nat × Bool)}

theorem heap_set {r : Nat} {o o' : Obj} (hb : w.heap[r]? = some o) : (w.heap.setIfInBounds r o')[r]? = some o' ∧ ∀ r', r' ≠ r → (w.heap.setIfInBounds r o')[r']? = w.heap[r']? := by
  have hlt : r < w.heap.size := (Array.getElem?_eq_some_iff.1 hb).1
  exact ⟨by simp [hlt], fun r' hne => by simp [Ne.symm hne]⟩
theorem getObj_map {b : Nat} {es : Array MapEntry} {clock : Nat} (hb : w.heap[b]? = some (.map es clock)) : (getObj b).run P w = .ok (.map es clock) w := by
  simp [getObj, Sem.run, hb]
theorem setObj_map {b : Nat} {es : Array MapEntry} {clock : Nat} {o : Obj} (hb : w.heap[b]? = some (.map es clock)) : (setObj b o).run P w = .ok () { w with heap := w.heap.setIfInBounds b o } := by
  simp [setObj, Sem.run, hb]
theorem St.map_pt {b : Nat} {m : List (κ × Value)} (h : St w0 (MapOf kv b m :: l) w) : ∃ es clock, Ents kv es m ∧ St w0 (pt b (.map es.toArray clock) :: l) w := by
  obtain ⟨p, hp, x, y, hd, he, ⟨es, clock, h1, h2⟩, hl⟩ := h.own
  exact ⟨es, clock, h1, h.os, h.tape, h.output, h.size, h.old, p, hp, x, y, hd, he, h2, hl⟩
theorem St.pt_map {b : Nat} {m : List (κ × Value)} {es : List MapEntry} {clock : Nat} (he : Ents kv es m) (h : St w0 (pt b (.map es.toArray clock) :: l) w) : St w0 (MapOf kv b m :: l) w :=
  h.mono fun _ hp => ⟨es, clock, he, hp⟩

/-- What is known of a map's block. -/
def IsMap (kv : κ → Value) (w : World) (b : Nat) (m : List (κ × Value)) : Prop := ∃ es clock, Ents kv es m ∧ w.heap[b]? = some (.map es.toArray clock)
theorem St.isMap {b : Nat} {m : List (κ × Value)} (h : St w0 (MapOf kv b m :: l) w) : IsMap kv w b m := by
  obtain ⟨es, clock, h1, h2⟩ := h.map_pt
  exact ⟨es, clock, h1, h2.hd.1⟩
theorem IsMap.size {b : Nat} {m : List (κ × Value)} (h : IsMap kv w b m) : ∃ es clock, w.heap[b]? = some (.map es clock) ∧ es.size = m.length := by
  obtain ⟨es, clock, h1, h2⟩ := h
  exact ⟨_, clock, h2, by simpa using ents_len h1⟩

theorem run_lookup {t kt et : TypeId} (ht : P.underlying t = some (.map kt et)) [hm : MK P kt κ kv] {z : List Value} {agg : Bool} {bytes : Nat} (hi : Inf P et z agg bytes) {b : Nat} {m : List (κ × Value)} (h : IsMap kv w b m) (k : κ) (ok : Bool) :
    (Instr.lookup t (.map (some b)) (kv k) ok).run P w = .ok (if ok then .tuple #[(mget k m).getD (if agg then .agg z.toArray else z.getD 0 undef), .bool (mget k m).isSome] else (mget k m).getD (if agg then .agg z.toArray else z.getD 0 undef)) w := by
  obtain ⟨es, clock, h1, h2⟩ := h
  have hf := hm.find w k es m h1
  have hg := mfind_some k m 0
  have hz := hi.zeroValue w
  simp only [Instr.lookup, Sem.run_bind, run_underlying ht, Result.andThen_ok, getObj_map h2, Sem.run_pure, hm.check, hf]
  cases hm' : mfind k m 0 with
  | none =>
    rw [hm'] at hg; rw [← hg]
    simp only [Sem.run_bind, Result.andThen_ok, Sem.run_pure, hz]
    cases ok <;> rfl
  | some iv =>
    rw [hm'] at hg; rw [← hg]
    simp only [Sem.run_bind, Result.andThen_ok, Sem.run_pure]
    cases ok <;> rfl
theorem q_lookup {t kt et : TypeId} [ht : Und P t (.map kt et)] [hm : MK P kt κ kv] {z : List Value} {bytes : Nat} [hi : Inf P et z false bytes] {x y : Operand} {b : Nat} {m : List (κ × Value)} {k : κ} (hx : ev e x = .map (some b)) (hy : ev e y = kv k) (h : IsMap kv w b m) :
    Qv P e ⟨d, .lookup t x y true, ty, pos, af, g⟩ w (.tuple [(mget k m).getD (z.getD 0 undef), .bool (mget k m).isSome].toArray) := by
  unfold Qv
  have := run_lookup (P := P) (w := w) ht.h hi h k true
  simp only [execOp, hx, hy, Sem.run_bind, this]
  rfl
theorem q_lookup1 {t kt et : TypeId} [ht : Und P t (.map kt et)] [hm : MK P kt κ kv] {z : List Value} {bytes : Nat} [hi : Inf P et z false bytes] {x y : Operand} {b : Nat} {m : List (κ × Value)} {k : κ} (hx : ev e x = .map (some b)) (hy : ev e y = kv k) (h : IsMap kv w b m) :
    Qv P e ⟨d, .lookup t x y false, ty, pos, af, g⟩ w ((mget k m).getD (z.getD 0 undef)) := by
  unfold Qv
  have := run_lookup (P := P) (w := w) ht.h hi h k false
  simp only [execOp, hx, hy, Sem.run_bind, this]
  rfl
theorem q_lookupS {t kt et : TypeId} [ht : Und P t (.map kt et)] [hm : MK P kt κ kv] {z : List Value} {bytes : Nat} [hi : Inf P et z true bytes] {x y : Operand} {b : Nat} {m : List (κ × Value)} {k : κ} (hx : ev e x = .map (some b)) (hy : ev e y = kv k) (h : IsMap kv w b m) :
    Qv P e ⟨d, .lookup t x y true, ty, pos, af, g⟩ w (.tuple [(mget k m).getD (.agg z.toArray), .bool (mget k m).isSome].toArray) := by
  unfold Qv
  have := run_lookup (P := P) (w := w) ht.h hi h k true
  simp only [execOp, hx, hy, Sem.run_bind, this]
  rfl
theorem q_lookupS1 {t kt et : TypeId} [ht : Und P t (.map kt et)] [hm : MK P kt κ kv] {z : List Value} {bytes : Nat} [hi : Inf P et z true bytes] {x y : Operand} {b : Nat} {m : List (κ × Value)} {k : κ} (hx : ev e x = .map (some b)) (hy : ev e y = kv k) (h : IsMap kv w b m) :
    Qv P e ⟨d, .lookup t x y false, ty, pos, af, g⟩ w ((mget k m).getD (.agg z.toArray)) := by
  unfold Qv
  have := run_lookup (P := P) (w := w) ht.h hi h k false
  simp only [execOp, hx, hy, Sem.run_bind, this]
  rfl
theorem q_lenm {t kt et : TypeId} {tys : List TypeId} [hu : Und P t (.map kt et)] {x : Operand} {b : Nat} {m : List (κ × Value)} (hx : ev e x = .map (some b)) (h : IsMap kv w b m) :
    Qv P e ⟨d, .call ⟨.builtin .len, [x].toArray, (t :: tys).toArray⟩, ty, pos, af, g⟩ w (.int .i64 m.length) := by
  obtain ⟨es, clock, h1, h2⟩ := h.size
  rw [← h2]
  exact q_lenmap hx h1

theorem x_mkmap {c : Nat} {t : TypeId} (kv : κ → Value) (h : St w0 l w) (k : ∀ b w', St w0 (MapOf kv b [] :: l) w' → K (upd e c (.map (some b))) w') : Ex P ⟨some c, .makeMap t none, ty, pos, af, g⟩ e w K := by
  refine x_w (v := .map (some w.heap.size)) (w' := w.alloc (.map #[] 0)) ?_ (k _ _ ?_)
  · simp [execOp, Instr.makeMap]
  · exact St.pt_map (es := []) (clock := 0) rfl (h.alloc _)

theorem run_mapUpdate {t kt et : TypeId} (ht : P.underlying t = some (.map kt et)) [hm : MK P kt κ kv] {b : Nat} {m : List (κ × Value)} (h : St w0 (MapOf kv b m :: l) w) (k : κ) (v : Value) :
    ∃ w', (Instr.mapUpdate t (.map (some b)) (kv k) v).run P w = .ok () w' ∧ St w0 (MapOf kv b (mset k v m) :: l) w' := by
  obtain ⟨es, clock, h1, h2⟩ := h.map_pt
  have hb := h2.hd.1
  have hf := hm.find w k es m h1
  have hc := hm.check es.toArray.isEmpty w k
  have hc' := hm.check false w k
  cases hm' : mfind k m 0 with
  | none =>
    rw [hm'] at hf
    refine ⟨{ w with heap := w.heap.setIfInBounds b (.map (es.toArray.push { key := kv k, val := v, born := clock }) (clock + 1)) }, ?_, ?_⟩
    · simp only [Instr.mapUpdate, Sem.run_bind, run_underlying ht, Result.andThen_ok, getObj_map hb, hc', hf, setObj_map hb]
    · refine St.pt_map (es := es ++ [{ key := kv k, val := v, born := clock }]) (clock := clock + 1) ?_ (h2.put rfl rfl rfl (by simp) (fun j hj => (heap_set hb).2 j hj) ?_)
      · rw [mset_new hm']
        unfold Ents at h1 ⊢
        simp [h1]
      · have := (heap_set (o' := Obj.map (es.toArray.push { key := kv k, val := v, born := clock }) (clock + 1)) hb).1
        simpa using this
  | some iu =>
    obtain ⟨i, u⟩ := iu
    rw [hm'] at hf
    obtain ⟨g1, g2, g3, g4⟩ := ents_set k v m es 0 i u h1 hm'
    simp only [Nat.sub_zero] at g2 g3
    have hkey : ((es.toArray[i]?).map (·.key)).getD (kv k) = kv k := by simp [g2]
    refine ⟨{ w with heap := w.heap.setIfInBounds b (.map (es.toArray.modify i fun e => { e with key := kv k, val := v }) clock) }, ?_, ?_⟩
    · simp only [Instr.mapUpdate, Sem.run_bind, run_underlying ht, Result.andThen_ok, getObj_map hb, hc', hf, hkey, Instr.keyThatStays, hm.same, if_true, Sem.run_pure, setObj_map hb]
    · refine St.pt_map (es := es.modify i fun e => { e with key := kv k, val := v }) (clock := clock) g3 (h2.put rfl rfl rfl (by simp) (fun j hj => (heap_set hb).2 j hj) ?_)
      have := (heap_set (o' := Obj.map (es.toArray.modify i fun e => { e with key := kv k, val := v }) clock) hb).1
      simpa using this
theorem x_mapset {t kt et : TypeId} [ht : Und P t (.map kt et)] [hm : MK P kt κ kv] {x y z : Operand} {b : Nat} {m : List (κ × Value)} {k : κ} {v : Value} (h : St w0 (MapOf kv b m :: l) w) (hx : ev e x = .map (some b)) (hy : ev e y = kv k) (hz : ev e z = v)
    (kk : ∀ w', St w0 (MapOf kv b (mset k v m) :: l) w' → K e w') : Ex P ⟨none, .mapUpdate t x y z, ty, pos, af, g⟩ e w K := by
  obtain ⟨w', hrun, hst⟩ := run_mapUpdate (P := P) ht.h h k v
  refine x_skip (w' := w') ?_ (kk _ hst)
  simp [execOp, hx, hy, hz, hrun]
theorem run_delete_tys {t ty : TypeId} {tys : List TypeId} {args : Array Value} : Builtin.delete_ (t :: tys).toArray ty args = Builtin.delete_ #[t] ty args := by
  unfold Builtin.delete_
  rfl
theorem run_delete {t kt et : TypeId} (ty : TypeId) (ht : P.underlying t = some (.map kt et)) [hm : MK P kt κ kv] {b : Nat} {m : List (κ × Value)} (h : St w0 (MapOf kv b m :: l) w) (k : κ) :
    ∃ w', (Builtin.delete_ #[t] ty #[.map (some b), kv k]).run P w = .ok (.tuple #[]) w' ∧ St w0 (MapOf kv b (mdel k m) :: l) w' := by
  obtain ⟨es, clock, h1, h2⟩ := h.map_pt
  have hb := h2.hd.1
  have hf := hm.find w k es m h1
  have hc := hm.check es.toArray.isEmpty w k
  have e1 : (#[t] : Array TypeId)[0]? = some t := rfl
  have e2 : (#[Value.map (some b), kv k] : Array Value)[0]? = some (Value.map (some b)) := rfl
  have e3 : (#[Value.map (some b), kv k] : Array Value)[1]? = some (kv k) := rfl
  cases hm' : mfind k m 0 with
  | none =>
    rw [hm'] at hf
    refine ⟨{ w with heap := w.heap.setIfInBounds b (.map es.toArray clock) }, ?_, ?_⟩
    · unfold Builtin.delete_
      simp only [e1, e2, e3, Sem.run_bind, run_underlying ht, Result.andThen_ok, getObj_map hb, hc, hf, setObj_map hb, Sem.run_pure]
    · rw [mdel_new hm']
      exact St.pt_map h1 (h2.put rfl rfl rfl (by simp) (fun j hj => (heap_set hb).2 j hj) (heap_set hb).1)
  | some iu =>
    obtain ⟨i, u⟩ := iu
    rw [hm'] at hf
    obtain ⟨g1, g2, g3, g4⟩ := ents_set k u m es 0 i u h1 hm'
    simp only [Nat.sub_zero] at g4
    refine ⟨{ w with heap := w.heap.setIfInBounds b (.map (es.toArray.eraseIdxIfInBounds i) clock) }, ?_, ?_⟩
    · unfold Builtin.delete_
      simp only [e1, e2, e3, Sem.run_bind, run_underlying ht, Result.andThen_ok, getObj_map hb, hc, hf, setObj_map hb, Sem.run_pure]
    · refine St.pt_map (es := es.eraseIdx i) (clock := clock) g4 (h2.put rfl rfl rfl (by simp) (fun j hj => (heap_set hb).2 j hj) ?_)
      have := (heap_set (o' := Obj.map (es.toArray.eraseIdxIfInBounds i) clock) hb).1
      simpa using this
theorem x_delete {t kt et : TypeId} {tys : List TypeId} [ht : Und P t (.map kt et)] [hm : MK P kt κ kv] {x y : Operand} {b : Nat} {m : List (κ × Value)} {k : κ} (h : St w0 (MapOf kv b m :: l) w) (hx : ev e x = .map (some b)) (hy : ev e y = kv k)
    (kk : ∀ w', St w0 (MapOf kv b (mdel k m) :: l) w' → K (updO e d (.tuple #[])) w') : Ex P ⟨d, .call ⟨.builtin .delete, [x, y].toArray, (t :: tys).toArray⟩, ty, pos, af, g⟩ e w K := by
  obtain ⟨w', hrun, hst⟩ := run_delete (P := P) ty ht.h h k
  refine x_w (v := .tuple #[]) (w' := w') ?_ (kk _ hst)
  simp only [execOp, resolve, List.map_toArray, List.map_cons, List.map_nil, hx, hy, invoke, builtin, Sem.run_bind, Sem.run_pure, Result.andThen_ok]
  rw [run_delete_tys, hrun]
  rfl

/-! Maps whose elements are pointers to things of their own. -/
section
variable {α : Type} {R : Nat → α → HProp}
abbrev ptrOf (p : Nat × α) : Value := .pointer (some ⟨p.1, 0, none⟩)
/-- The map b holds, behind a pointer each, the things m. -/
def PMap (kv : κ → Value) (b : Nat) (R : Nat → α → HProp) (m : List (κ × α)) : HProp := ex fun mm : List (κ × (Nat × α)) =>
  all [lift (mm.map (fun p => (p.1, p.2.2)) = m), MapOf kv b (mm.map fun p => (p.1, ptrOf p.2)), big (fun p => R p.2.1 p.2.2) mm]
/-- .. but for what stands at k: that is elsewhere, at e. -/
def PHole (kv : κ → Value) (b : Nat) (R : Nat → α → HProp) (k : κ) (e : Nat) (m : List (κ × α)) : HProp := ex fun mm : List (κ × (Nat × α)) =>
  all [lift (mm.map (fun p => (p.1, p.2.2)) = m ∧ (mget k mm).map (·.1) = some e), MapOf kv b (mm.map fun p => (p.1, ptrOf p.2)), big (fun p => R p.2.1 p.2.2) (mdel k mm)]
theorem all_star (P : HProp) (l : List HProp) : all (P :: l) = star P (all l) := rfl
theorem St.pmap {b : Nat} {m : List (κ × α)} : St w0 (PMap kv b R m :: l) w ↔ ∃ mm : List (κ × (Nat × α)), mm.map (fun p => (p.1, p.2.2)) = m ∧ St w0 (MapOf kv b (mm.map fun p => (p.1, ptrOf p.2)) :: big (fun p => R p.2.1 p.2.2) mm :: l) w := by
  unfold PMap
  rw [St.ex]
  constructor
  · rintro ⟨mm, h⟩
    have := h.join
    exact ⟨mm, St.lift.1 this⟩
  · rintro ⟨mm, h1, h2⟩
    exact ⟨mm, St.fold _ (St.lift.2 ⟨h1, h2⟩)⟩
theorem St.phole {b k' : Nat} {k : κ} {m : List (κ × α)} : St w0 (PHole kv b R k k' m :: l) w ↔ ∃ mm : List (κ × (Nat × α)), (mm.map (fun p => (p.1, p.2.2)) = m ∧ (mget k mm).map (·.1) = some k') ∧ St w0 (MapOf kv b (mm.map fun p => (p.1, ptrOf p.2)) :: big (fun p => R p.2.1 p.2.2) (mdel k mm) :: l) w := by
  unfold PHole
  rw [St.ex]
  constructor
  · rintro ⟨mm, h⟩
    have := h.join
    exact ⟨mm, St.lift.1 this⟩
  · rintro ⟨mm, h1, h2⟩
    exact ⟨mm, St.fold _ (St.lift.2 ⟨h1, h2⟩)⟩
theorem St.popen {b : Nat} {m : List (κ × α)} {k : κ} {x : α} (h : St w0 (PMap kv b R m :: l) w) (hk : mget k m = some x) : ∃ e, St w0 (R e x :: PHole kv b R k e m :: l) w := by
  obtain ⟨mm, hmm, h0⟩ := St.pmap.1 h
  subst hmm
  have hk' := (mget_map (fun p : Nat × α => p.2) k mm).symm.trans hk
  obtain ⟨⟨e, y⟩, h1, h2⟩ := Option.map_eq_some_iff.1 hk'
  simp only at h2
  subst h2
  refine ⟨e, ?_⟩
  have h3 := h0.f 1
  simp only [bring] at h3
  have h4 : St w0 (R e y :: big (fun p => R p.2.1 p.2.2) (mdel k mm) :: MapOf kv b (mm.map fun p => (p.1, ptrOf p.2)) :: l) w :=
    h3.of_all (by simp only [all_star]; rw [big_get _ k (e, y) mm h1]; simp only [star_assoc])
  have h5 := ((h4.f 1).f 2)
  simp only [bring] at h5
  have h6 := St.phole.2 ⟨mm, ⟨rfl, by rw [h1]; rfl⟩, (show St w0 (MapOf kv b (mm.map fun p => (p.1, ptrOf p.2)) :: big (fun p => R p.2.1 p.2.2) (mdel k mm) :: R e y :: l) w from h5)⟩
  exact h6.f 1
theorem St.pclose {b e : Nat} {m : List (κ × α)} {k : κ} {x : α} (h : St w0 (R e x :: PHole kv b R k e m :: l) w) : St w0 (PMap kv b R (mset k x m) :: l) w := by
  have h1 := h.f 1
  simp only [bring] at h1
  obtain ⟨mm, ⟨rfl, h2⟩, h3⟩ := St.phole.1 h1
  obtain ⟨⟨e', y⟩, h4, h5⟩ := Option.map_eq_some_iff.1 h2
  simp only at h5
  subst h5
  refine St.pmap.2 ⟨mset k (e', x) mm, (mset_map (fun p : Nat × α => p.2) k (e', x) mm).symm, ?_⟩
  have hp : (mset k (e', x) mm).map (fun p => (p.1, ptrOf p.2)) = mm.map (fun p => (p.1, ptrOf p.2)) := by
    rw [← mset_map (fun p : Nat × α => ptrOf p) k (e', x) mm]
    exact mset_self (by rw [mget_map, h4]; rfl)
  rw [hp]
  refine h3.of_all ?_
  simp only [all_star]
  rw [big_set, star_left (big _ _) (R e' x), ← star_assoc (R e' x)]
theorem St.psame {b e : Nat} {m : List (κ × α)} {k : κ} {x : α} (hk : mget k m = some x) (h : St w0 (R e x :: PHole kv b R k e m :: l) w) : St w0 (PMap kv b R m :: l) w := by
  have := h.pclose
  rwa [mset_self hk] at this
theorem St.pnone {b : Nat} {m : List (κ × α)} (h : St w0 (PMap kv b R m :: l) w) : ∃ ps, IsMap kv w b ps ∧ keys ps = keys m ∧ ps.length = m.length := by
  obtain ⟨mm, hmm, h0⟩ := St.pmap.1 h
  subst hmm
  exact ⟨_, h0.isMap, by rw [keys_map (fun p : Nat × α => ptrOf p), keys_map (fun p : Nat × α => p.2)], by simp⟩
theorem St.pget {b k' : Nat} {k : κ} {m : List (κ × α)} (h : St w0 (PHole kv b R k k' m :: l) w) : ∃ ps, IsMap kv w b ps ∧ mget k ps = some (.pointer (some ⟨k', 0, none⟩)) := by
  obtain ⟨mm, ⟨rfl, h2⟩, h3⟩ := St.phole.1 h
  refine ⟨_, h3.isMap, ?_⟩
  rw [mget_map (fun p : Nat × α => ptrOf p) k mm]
  obtain ⟨⟨e', y⟩, h4, h5⟩ := Option.map_eq_some_iff.1 h2
  simp only at h5
  subst h5
  rw [h4]; rfl
theorem q_plookup0 {t kt et : TypeId} [ht : Und P t (.map kt et)] [hm : MK P kt κ kv] {z : List Value} {bytes : Nat} [hi : Inf P et z false bytes] {x y : Operand} {b : Nat} {m : List (κ × α)} {k : κ} (h : St w0 (PMap kv b R m :: l) w) (hx : ev e x = .map (some b)) (hy : ev e y = kv k) (hk : mget k m = none) :
    Qv P e ⟨d, .lookup t x y true, ty, pos, af, g⟩ w (.tuple [z.getD 0 undef, .bool false].toArray) := by
  obtain ⟨ps, h1, h2, _⟩ := h.pnone
  have := q_lookup (P := P) (t := t) (ty := ty) (d := d) (pos := pos) (af := af) (g := g) hx hy h1
  rw [mget_none.2 (by rw [h2]; exact mget_none.1 hk)] at this
  exact this
theorem q_plookup1 {t kt et : TypeId} [ht : Und P t (.map kt et)] [hm : MK P kt κ kv] {z : List Value} {bytes : Nat} [hi : Inf P et z false bytes] {x y : Operand} {b k' : Nat} {m : List (κ × α)} {k : κ} (h : St w0 (PHole kv b R k k' m :: l) w) (hx : ev e x = .map (some b)) (hy : ev e y = kv k) :
    Qv P e ⟨d, .lookup t x y true, ty, pos, af, g⟩ w (.tuple [.pointer (some ⟨k', 0, none⟩), .bool true].toArray) := by
  obtain ⟨ps, h1, h2⟩ := h.pget
  have := q_lookup (P := P) (t := t) (ty := ty) (d := d) (pos := pos) (af := af) (g := g) hx hy h1
  rw [h2] at this
  exact this
theorem q_plen {t kt et : TypeId} {tys : List TypeId} [hu : Und P t (.map kt et)] {x : Operand} {b : Nat} {m : List (κ × α)} (h : St w0 (PMap kv b R m :: l) w) (hx : ev e x = .map (some b)) :
    Qv P e ⟨d, .call ⟨.builtin .len, [x].toArray, (t :: tys).toArray⟩, ty, pos, af, g⟩ w (.int .i64 m.length) := by
  obtain ⟨ps, h1, _, h2⟩ := h.pnone
  rw [← h2]
  exact q_lenm hx h1
/-- A new one comes in. -/
theorem x_pset {t kt et : TypeId} [ht : Und P t (.map kt et)] [hm : MK P kt κ kv] {x y z : Operand} {b e' : Nat} {m : List (κ × α)} {k : κ} {v : α} (h : St w0 (R e' v :: PMap kv b R m :: l) w) (hk : mget k m = none) (hx : ev e x = .map (some b)) (hy : ev e y = kv k) (hz : ev e z = .pointer (some ⟨e', 0, none⟩))
    (kk : ∀ w', St w0 (PMap kv b R (mset k v m) :: l) w' → K e w') : Ex P ⟨none, .mapUpdate t x y z, ty, pos, af, g⟩ e w K := by
  have h1 := h.f 1
  simp only [bring] at h1
  obtain ⟨mm, rfl, h2⟩ := St.pmap.1 h1
  refine x_mapset h2 hx hy hz fun w' h3 => kk w' (St.pmap.2 ⟨mset k (e', v) mm, (mset_map (fun p : Nat × α => p.2) k (e', v) mm).symm, ?_⟩)
  rw [← mset_map (fun p : Nat × α => ptrOf p) k (e', v) mm]
  refine h3.of_all ?_
  simp only [all_star]
  have hk' : mget k mm = none := by
    have := (mget_map (fun p : Nat × α => p.2) k mm).symm.trans hk
    simpa using this
  rw [big_set, mdel_none k mm hk', star_left (big _ _) (R e' v), ← star_assoc (R e' v)]
/-- One goes. -/
theorem x_pdel {t kt et : TypeId} {tys : List TypeId} [ht : Und P t (.map kt et)] [hm : MK P kt κ kv] {x y : Operand} {b k' : Nat} {m : List (κ × α)} {k : κ} (h : St w0 (PHole kv b R k k' m :: l) w) (hx : ev e x = .map (some b)) (hy : ev e y = kv k)
    (kk : ∀ w', St w0 (PMap kv b R (mdel k m) :: l) w' → K (updO e d (.tuple #[])) w') : Ex P ⟨d, .call ⟨.builtin .delete, [x, y].toArray, (t :: tys).toArray⟩, ty, pos, af, g⟩ e w K := by
  obtain ⟨mm, ⟨rfl, h2⟩, h3⟩ := St.phole.1 h
  refine x_delete h3 hx hy fun w' h4 => kk w' (St.pmap.2 ⟨mdel k mm, (mdel_map (fun p : Nat × α => p.2) k mm).symm, ?_⟩)
  rw [← mdel_map (fun p : Nat × α => ptrOf p) k mm]
  exact h4
theorem x_pmake {c : Nat} {t : TypeId} (kv : κ → Value) (R : Nat → α → HProp) (h : St w0 l w) (k : ∀ b w', St w0 (PMap kv b R [] :: l) w' → K (upd e c (.map (some b))) w') : Ex P ⟨some c, .makeMap t none, ty, pos, af, g⟩ e w K := by
  refine x_mkmap kv h fun b w' h' => k b w' (St.pmap.2 ⟨[], rfl, h'.of_all ?_⟩)
  simp only [all_star, List.map_nil]
  show _ = star _ (star emp _)
  rw [emp_star]
end

/-- Keys of the kind int. -/
theorem find_int {P : Program} {w : World} {kt : TypeId} {ik : IntKind} (hu : P.underlying kt = some (.int ik)) (k : Int) : ∀ (es : List MapEntry) (m : List (Int × Value)), Ents (Value.int ik) es m → (Instr.findKey kt (.int ik k) es).run P w = .ok (mfind k m 0) w := by
  have key : ∀ (es : List MapEntry) (m : List (Int × Value)) (i : Nat), Ents (Value.int ik) es m → Instr.findNow (.int ik) (.int ik k) es i = some (mfind k m i) := by
    intro es
    induction es with
    | nil => intro m i h; cases m with | nil => rfl | cons a m => simp [Ents] at h
    | cons e es ih =>
      intro m i h
      cases m with
      | nil => simp [Ents] at h
      | cons a m =>
        obtain ⟨j, u⟩ := a
        have h' : (e.key, e.val) = (Value.int ik j, u) ∧ Ents (Value.int ik) es m := by simpa [Ents] using h
        have hk : e.key = .int ik j := congrArg Prod.fst h'.1
        have hv : e.val = u := congrArg Prod.snd h'.1
        by_cases hj : j = k
        · subst hj
          simp [Instr.findNow, hk, hv, Instr.sameNow, mfind]
        · have : (k == j) = false := by simpa using Ne.symm hj
          simp [Instr.findNow, hk, Instr.sameNow, mfind, this, hj, ih m (i + 1) h'.2]
  intro es m h
  have := key es m 0 h
  simp [Instr.findKey, run_underlying hu, this]
theorem MK.int {P : Program} {kt : TypeId} {ik : IntKind} (hu : P.underlying kt = some (.int ik)) : MK P kt Int (Value.int ik) where
  check := fun e w k => by
    show (Instr.checkKey e (9999 + 1) kt (.int ik k)).run P w = _
    unfold Instr.checkKey
    rw [Sem.run_bind, run_underlying hu]
    rfl
  find := fun w k es m h => find_int hu k es m h
  same := fun k => by unfold Instr.sameBits; simp
  inj := fun a b h => by injection h
end
end Go.Hw
