/- What the proof of ProgBusy needs, part 2: plain lemmas, and what each function does. -/
import Derived.Test.YtngdfdangkdgcaaGreatDoorQProgBusya
import Derived.Laws.StructEq
import Derived.Deep.Slices
import Derived.Laws.Strings
import Derived.Test.YtngdfdangkdgcaaGreatDoorRows
import Derived.ProofKit
import Derived.LaidMore
import Derived.OpenShut
import Derived.Stop.Joined
import Derived.KernelRfl
import Derived.Lib.Overlaps
set_option linter.unusedVariables false
set_option linter.unusedSimpArgs false
set_option linter.unnecessarySimpa false
set_option maxRecDepth 100000
set_option maxHeartbeats 4000000
namespace Go.Hw
section
class EqI (P : Program) (t : TypeId) (ks : outParam (List IntKind)) : Prop where
 u : ∃ fl : List Field, P.underlying t = some (.struct fl.toArray) ∧ fl.map (fun f => (f.name == "_", f.offset, P.underlying f.type)) = ks.zipIdx.map (fun p => (false, p.2, some (.int p.1)))
 s : P.stoodInHeld t = false
 g : P.eqGuardType P.depth t = false
def ints (ks : List IntKind) (aL : List Int) : List Value := List.zipWith Value.int ks aL
theorem run_part_int {P : Program} {w : World} {t : TypeId} {k : IntKind} (ht : P.underlying t = some (.int k)) {cs : List Value} {off : Nat} {v : Value} (hv : cs[off]? = some v) : (part t cs.toArray off).run P w = .ok v w := by
 have : (isAgg t).run P w = .ok false w := by
  unfold Go.isAgg
  rw [Sem.run_bind, run_underlying ht w]
  rfl
 simp [part, this, hv]
theorem km {P : Program} {w : World} (d : Nat) : ∀ (fl : List Field) (ks : List IntKind) (aL bs : List Int) (p q : List Value), p.length = q.length -> aL.length = ks.length -> bs.length = ks.length ->
  fl.map (fun f => (f.name == "_", f.offset, P.underlying f.type)) = (ks.zipIdx p.length).map (fun p => (false, p.2, some (.int p.1))) ->
  (Op.eqFields (d + 1) (p ++ ints ks aL).toArray (q ++ ints ks bs).toArray fl).run P w = .ok (aL == bs) w
 | [], [], [], [], _, _, _, _, _, _ => by simp [Op.eqFields]
 | [], k :: ks, _, _, _, _, _, _, _, h => by simp at h
 | f :: fl, [], _, _, _, _, _, _, _, h => by simp at h
 | f :: fl, k :: ks, [], _, _, _, _, h, _, _ => by simp at h
 | f :: fl, k :: ks, a :: aL, [], _, _, _, _, h, _ => by simp at h
 | f :: fl, k :: ks, a :: aL, b :: bs, p, q, hpq, ha, hb, h => by
  simp only [Ux, List.zipIdx_cons, List.cons.injEq, Prod.mk.injEq] at h
  obtain ⟨⟨h1, h2, h3⟩, h4⟩ := h
  have hn : f.name ≠ "_" := by simpa using h1
  have e1 : (p ++ ints (k :: ks) (a :: aL))[f.offset]? = some (.int k a) := by rw [h2]; simp [ints]
  have e2 : (q ++ ints (k :: ks) (b :: bs))[f.offset]? = some (.int k b) := by rw [h2, hpq]; simp [ints]
  unfold Op.eqFields
  rw [if_pos hn]
  simp only [Sem.run_bind, run_part_int h3 e1, run_part_int h3 e2, Result.andThen_ok, run_equalIn_int w d f.type k k a b h3]
  by_cases hab : a = b
  ·subst hab
   have ih := km (P := P) (w := w) d fl ks aL bs (p ++ [.int k a]) (q ++ [.int k a]) (by simp [hpq]) (by simpa using ha) (by simpa using hb) (by simpa using h4)
   simp only [Um, List.singleton_append] at ih
   have hi : ints (k :: ks) (a :: aL) = .int k a :: ints ks aL := rfl
   have hi2 : ints (k :: ks) (a :: bs) = .int k a :: ints ks bs := rfl
   rw [hi, hi2]
   simp [ih]
  ·have : (a == b) = false := by simp [hab]
   simp [this]
theorem nj {P : Program} {w : World} {t : TypeId} {ks : List IntKind} (h : EqI P t ks) {aL bs : List Int} (ha : aL.length = ks.length) (hb : bs.length = ks.length) (d : Nat) :
  (Op.equalIn (d + 2) t (.agg (ints ks aL).toArray) (.agg (ints ks bs).toArray)).run P w = .ok (aL == bs) w := by
 obtain ⟨fl, hu, hf⟩ := h.u
 have hfo : P.fieldsOf t = fl.toArray := by unfold Program.fieldsOf; rw [hu]
 rw [run_equalIn_struct w (d + 1) t _ _ (by rw [hfo]; exact hu) h.s, hfo]
 have := km (P := P) (w := w) d fl ks aL bs [] [] rfl ha hb (by simpa using hf)
 simpa using this
section
variable {P : Program} {e : Env} {w : World} {d : Option Nat} {ty : TypeId} {pos : String} {af : Array Edge} {g : Option (Nat × Bool)}
theorem q_eqI {t t2 : TypeId} {ks : List IntKind} [h : EqI P t ks] {x y : Operand} (aL bs : List Int) (hx : ev e x = .agg (ints ks aL).toArray) (hy : ev e y = .agg (ints ks bs).toArray) (ha : aL.length = ks.length) (hb : bs.length = ks.length) :
  Qv P e ⟨d, .binOp .eql t x y t2, ty, pos, af, g⟩ w (.bool (aL == bs)) := by
 unfold Qv
 have h1 := run_eqGuard_agg (P := P) w .eql t x y (ints ks aL).toArray (ints ks bs).toArray h.g
 have h2 := run_eql_struct (P := P) w t (ints ks aL).toArray (ints ks bs).toArray
 rw [nj h ha hb 9998] at h2
 simp only [execOp, hx, hy, Sem.run_bind, h1, Result.andThen_ok, h2, Result.andThen]
 rfl
theorem q_neI {t t2 : TypeId} {ks : List IntKind} [h : EqI P t ks] {x y : Operand} (aL bs : List Int) (hx : ev e x = .agg (ints ks aL).toArray) (hy : ev e y = .agg (ints ks bs).toArray) (ha : aL.length = ks.length) (hb : bs.length = ks.length) :
  Qv P e ⟨d, .binOp .neq t x y t2, ty, pos, af, g⟩ w (.bool (!(aL == bs))) := by
 unfold Qv
 have h1 := run_eqGuard_agg (P := P) w .neq t x y (ints ks aL).toArray (ints ks bs).toArray h.g
 have h2 := run_neq_struct (P := P) w t (ints ks aL).toArray (ints ks bs).toArray
 rw [nj h ha hb 9998] at h2
 simp only [execOp, hx, hy, Sem.run_bind, h1, Result.andThen_ok, h2, Result.andThen]
 rfl
end
theorem zp {α : Type} {f : α -> List Value} {sz : Nat} (hf : ∀ x, (f x).length = sz) : ∀ (L : List α) (k : Nat) (x : α), L[k]? = some x -> ∀ j v, (f x)[j]? = some v -> (L.flatMap f)[k * sz + j]? = some v
 | [], k, x, h, _, _, _ => by simp at h
 | a :: L, 0, x, h, j, v, hj => by
  simp only [Xd, Vq] at h
  subst h
  rw [Uh, Nat.zero_mul, Uz, Wa (Uf.1 hj).1]
  exact hj
 | a :: L, k + 1, x, h, j, v, hj => by
  have ih := zp hf L k x O15 j v hj
  rw [Uh, Xj (by rw [hf, Vi]; omega), hf]
  rw [show (k + 1) * sz + j - sz = k * sz + j by rw [Vi]; omega]
  exact ih
theorem flat_len {α : Type} {f : α -> List Value} {sz : Nat} (hf : ∀ x, (f x).length = sz) : ∀ (L : List α), (L.flatMap f).length = L.length * sz
 | [] => by simp
 | a :: L => by rw [Uh, Ua, hf, flat_len hf L, Ui, Vi]; omega
theorem ka {α : Type} {f : α -> List Value} {sz : Nat} (hf : ∀ x, (f x).length = sz) : ∀ (L : List α) (k : Nat) (x y : α) (j : Nat) (v : Value), L[k]? = some x -> j < sz -> f y = (f x).set j v -> (L.flatMap f).set (k * sz + j) v = (L.set k y).flatMap f
 | [], k, x, y, j, v, h, _, _ => by simp at h
 | a :: L, 0, x, y, j, v, h, hj, hy => by
  simp only [Xd, Vq] at h
  subst h
  rw [Uh, Nat.zero_mul, Uz, Vf, Uh, hy, List.set_append, if_pos (by rw [hf]; exact hj)]
 | a :: L, k + 1, x, y, j, v, h, hj, hy => by
  have ih := ka hf L k x y j v O15 hj hy
  rw [Uh, Vm, Uh, List.set_append, if_neg (by rw [hf, Vi]; omega), hf]
  rw [show (k + 1) * sz + j - sz = k * sz + j by rw [Vi]; omega, ih]
theorem Rd.elem {w : World} {sz n b o : Nat} {α : Type} {f : α -> List Value} {L : List α} (h : Rd w sz (Option.some ⟨b, o, none⟩) n (L.flatMap f)) (hf : ∀ x, (f x).length = sz) {k : Nat} {x : α} (hk : L[k]? = Option.some x) : At w b (o + k * sz) (f x) := by
 intro j v hj
 have := h.cell (zp hf L k x hk j v hj)
 rwa [<- Kf] at this
theorem Rd.count {w : World} {sz n : Nat} {a : Option Addr} {α : Type} {f : α -> List Value} {L : List α} (h : Rd w sz a n (L.flatMap f)) (hf : ∀ x, (f x).length = sz) (hs : 0 < sz) : L.length = n := by
 have := h.1
 rw [flat_len hf] at this
 exact Nat.eq_of_mul_eq_mul_right hs this
structure Smp where
 T : Int
 V : Int
 deriving DecidableEq
def Smp.cells (s : Smp) : List Value := [.iz s.T, .int .u64 s.V]
abbrev smpsV (L : List Smp) : List Value := L.flatMap Smp.cells
theorem j5 (s : Smp) : s.cells.length = 2 := rfl
theorem jt (L : List Smp) : ∀ u ∈ smpsV L, u.oneCell' = true := by
 intro u hu
 simp only [Xf, Smp.cells, Uo, Ka, or_false] at hu
 obtain ⟨s, _, rfl | rfl⟩ := hu <;> rfl
structure Prt where
 blob : Int
 tag : Int
 count : Int
 frm : Int
 upto : Int
 deriving DecidableEq
def Prt.cells (p : Prt) : List Value := [.iz p.blob, .iz p.tag, .iz p.count, .iz p.frm, .iz p.upto]
abbrev prtsV (L : List Prt) : List Value := L.flatMap Prt.cells
theorem v4 (s : Prt) : s.cells.length = 5 := rfl
theorem v9 (L : List Prt) : ∀ u ∈ prtsV L, u.oneCell' = true := by
 intro u hu
 simp only [Xf, Prt.cells, Uo, Ka, or_false] at hu
 obtain ⟨s, _, rfl | rfl | rfl | rfl | rfl⟩ := hu <;> rfl
end
section
def runsA (x k : Nat) : List Nat -> List UInt8
 | [] => vput k ++ vput x
 | y :: r => if y = x then runsA x (k + 1) r else vput k ++ (vput x ++ runsA y 1 r)
def runsEnc : List Nat -> List UInt8
 | [] => []
 | x :: r => runsA x 1 r
def lead (x : Nat) : List Nat -> Nat
 | [] => 0
 | y :: r => if y = x then lead x r + 1 else 0
theorem ib (x : Nat) : ∀ l : List Nat, lead x l <= l.length
 | [] => Ug _
 | y :: r => by
  rw [lead]; split
  ·have := ib x r; rw [Ui]; omega
  ·exact Ud _
theorem runsA_eq (x : Nat) : ∀ (l : List Nat) (k : Nat), runsA x k l = vput (k + lead x l) ++ (vput x ++ runsEnc (l.drop (lead x l)))
 | [], k => by simp [runsA, lead, runsEnc]
 | y :: r, k => by
  rw [runsA, lead]
  split
  ·rename_i h
   rw [runsA_eq x r (k + 1), Wc]
   congr 2
   omega
  ·rfl
theorem runsEnc_cons (x : Nat) (r : List Nat) : runsEnc (x :: r) = vput (1 + lead x r) ++ (vput x ++ runsEnc (r.drop (lead x r))) := runsA_eq x r 1
theorem dq (x : Nat) : ∀ l : List Nat, List.replicate (lead x l) x ++ l.drop (lead x l) = l
 | [] => rfl
 | y :: r => by
  rw [lead]; split
  ·rename_i h; rw [Zf, Wc, We, dq x r, h]
  ·rfl
theorem sp (x : Nat) : ∀ l : List Nat, (l.drop (lead x l)).head? ≠ some x
 | [] => by simp [lead]
 | y :: r => by
  rw [lead]; split
  ·rw [Wc]; exact sp x r
  ·rename_i h; simpa using h
def runsDecA : Nat -> List UInt8 -> Nat -> Option Nat -> Option (List Nat)
 | _, [], room, _ => if room = 0 then some [] else none
 | 0, _ :: _, _, _ => none
 | f + 1, c :: b, room, last =>
  if (vget (c :: b)).2 = 0 ∨ (vget ((c :: b).drop (vget (c :: b)).2)).2 = 0 ∨ (vget (c :: b)).1 = 0 ∨ room < (vget (c :: b)).1 ∨ last = some (vget ((c :: b).drop (vget (c :: b)).2)).1 then none
  else (runsDecA f ((c :: b).drop ((vget (c :: b)).2 + (vget ((c :: b).drop (vget (c :: b)).2)).2)) (room - (vget (c :: b)).1) (some (vget ((c :: b).drop (vget (c :: b)).2)).1)).map fun r => List.replicate (vget (c :: b)).1 (vget ((c :: b).drop (vget (c :: b)).2)).1 ++ r
def runsDec (b : List UInt8) (n : Nat) : Option (List Nat) := runsDecA b.length b n none
theorem runsDecA_told : ∀ (m : Nat) (v : List Nat) (last : Option Nat), v.length <= m -> v.length < 18446744073709551616 -> (∀ x ∈ v, x < 18446744073709551616) -> (v.head? ≠ last ∨ last = none) -> ∀ f, (runsEnc v).length <= f -> runsDecA f (runsEnc v) v.length last = some v
 | m, [], last, _, _, _, _, f, _ => by cases f <;> rfl
 | 0, _ :: _, _, h, _, _, _, _, _ => by simp at h
 | m + 1, x :: r, last, hm, hl, hv, hh, f, hf => by
  have hx := hv x (Ub ..)
  have hle := ib x r
  rw [Ui] at hl hm
  have hk : 1 + lead x r < 18446744073709551616 := by omega
  have e := runsEnc_cons x r
  have h1 : vget (runsEnc (x :: r)) = (1 + lead x r, (vput (1 + lead x r)).length) := by rw [e]; exact vv hk _
  have h2 : (runsEnc (x :: r)).drop (vput (1 + lead x r)).length = vput x ++ runsEnc (r.drop (lead x r)) := by rw [e]; simp
  have h3 : vget (vput x ++ runsEnc (r.drop (lead x r))) = (x, (vput x).length) := vv hx _
  have h4 : (runsEnc (x :: r)).drop ((vput (1 + lead x r)).length + (vput x).length) = runsEnc (r.drop (lead x r)) := by rw [<- List.drop_drop, h2]; simp
  have p1 := jd (1 + lead x r)
  have p2 := jd x
  have hlen : (runsEnc (x :: r)).length = (vput (1 + lead x r)).length + ((vput x).length + (runsEnc (r.drop (lead x r))).length) := by rw [e]; simp
  generalize hE : runsEnc (x :: r) = E at *
  cases f with
  | zero => omega
  | succ f =>
   cases E with
   | nil => simp at hlen; omega
   | cons c b =>
    rw [runsDecA, h1]
    dsimp only
    rw [h2, h3]
    dsimp only
    rw [if_neg, h4, Ui, show r.length + 1 - (1 + lead x r) = (r.drop (lead x r)).length by rw [Uq]; omega,
     runsDecA_told m (r.drop (lead x r)) (some x) O22 O22 (fun y hy => hv y (Ue _ (List.mem_of_mem_drop hy))) (.inl (sp x r)) f O0]
    ·show some (List.replicate (1 + lead x r) x ++ _) = _
     rw [Wt, Zf, We, dq]
    ·rintro (h | h | h | h | h)
     ·omega
     ·omega
     ·omega
     ·rw [Ui] at h; omega
     ·rcases hh with hh | hh
      ·exact hh (by rw [h]; rfl)
      ·rw [hh] at h; cases h
theorem runsDec_told {v : List Nat} (hl : v.length < 18446744073709551616) (hv : ∀ x ∈ v, x < 18446744073709551616) : runsDec (runsEnc v) v.length = some v :=
 runsDecA_told _ v none (Ug _) hl hv (.inr rfl) _ (Ug _)
def getAll : Nat -> Nat -> RS -> Option (List Nat)
 | 0, _, _ => some []
 | k + 1, wide, s => if (s.get wide).2.bad = true then none else (getAll k wide (s.get wide).2).map fun r => (s.get wide).1 :: r
theorem getAll_told (wide : Nat) (r : List Bool) : ∀ vs : List Nat, (∀ v ∈ vs, v < 2 ^ wide) -> getAll vs.length wide ⟨vs.flatMap (fun x => bitsOf x wide) ++ r, false⟩ = some vs
 | [], _ => rfl
 | v :: vs, h => by
  rw [Uh, Um, Ui, getAll, RS.get_put, Ul (h v (Ub ..))]
  dsimp only
  rw [getAll_told wide r vs fun x hx => h x (Ue _ hx)]
  rfl
def leastA (m : Nat) : List Nat -> Nat
 | [] => m
 | x :: r => leastA (min m x) r
def greatA (m : Nat) : List Nat -> Nat
 | [] => m
 | x :: r => greatA (max m x) r
theorem leastA_le : ∀ (l : List Nat) (m : Nat), leastA m l <= m ∧ ∀ x ∈ l, leastA m l <= x
 | [], m => ⟨Ug _, fun _ h => by cases h⟩
 | y :: r, m => by
  obtain ⟨h1, h2⟩ := leastA_le r (min m y)
  refine ⟨by rw [leastA]; omega, fun x hx => ?_⟩
  rw [leastA]
  rcases Uo.1 hx with rfl | hx
  ·omega
  ·exact h2 x hx
theorem greatA_ge : ∀ (l : List Nat) (m : Nat), m <= greatA m l ∧ ∀ x ∈ l, x <= greatA m l
 | [], m => ⟨Ug _, fun _ h => by cases h⟩
 | y :: r, m => by
  obtain ⟨h1, h2⟩ := greatA_ge r (max m y)
  refine ⟨by rw [greatA]; omega, fun x hx => ?_⟩
  rw [greatA]
  rcases Uo.1 hx with rfl | hx
  ·omega
  ·exact h2 x hx
theorem leastA_lt : ∀ (l : List Nat) (m : Nat), m < 18446744073709551616 -> leastA m l < 18446744073709551616
 | l, m, h => Xb (leastA_le l m).1 h
theorem greatA_lt : ∀ (l : List Nat) (m : Nat), m < 18446744073709551616 -> (∀ x ∈ l, x < 18446744073709551616) -> greatA m l < 18446744073709551616
 | [], m, h, _ => h
 | y :: r, m, h, hl => by
  rw [greatA]
  have := hl y (Ub ..)
  exact greatA_lt r _ O0 fun x hx => hl x (Ue _ hx)
def frameEnc : List Nat -> List UInt8
 | [] => []
 | x :: r => vput (leastA x r) ++ (UInt8.ofNat (len64 (greatA x r - leastA x r)) :: pack ((x :: r).flatMap fun y => bitsOf (y - leastA x r) (len64 (greatA x r - leastA x r))))
def frameDec (b : List UInt8) (n : Nat) : Option (List Nat) :=
 if n = 0 then (if b = [] then some [] else none)
 else if (vget b).2 = 0 then none else match b[(vget b).2]? with
  | none => none
  | some c => if 64 < c.toNat then none else
   match getAll n c.toNat ⟨bitsB (b.drop ((vget b).2 + 1)), false⟩ with
   | none => none
   | some l => if frameEnc (l.map fun x => summ (vget b).1 x) = b then some (l.map fun x => summ (vget b).1 x) else none
theorem frameDec_told {v : List Nat} (hv : ∀ x ∈ v, x < 18446744073709551616) : frameDec (frameEnc v) v.length = some v := by
 cases v with
 | nil => rfl
 | cons x r =>
  have hx := hv x (Ub ..)
  have hl := leastA_lt r x hx
  have hg := greatA_lt r x hx fun y hy => hv y (Ue _ hy)
  have hw : len64 (greatA x r - leastA x r) <= 64 := len64_64 O0
  have hmem : ∀ y ∈ x :: r, leastA x r <= y ∧ y <= greatA x r := by
   intro y hy
   rcases Uo.1 hy with rfl | hy
   ·exact ⟨(leastA_le r y).1, (greatA_ge r y).1⟩
   ·exact ⟨(leastA_le r x).2 y hy, (greatA_ge r x).2 y hy⟩
  have hget := vv hl (UInt8.ofNat (len64 (greatA x r - leastA x r)) :: pack ((x :: r).flatMap fun y => bitsOf (y - leastA x r) (len64 (greatA x r - leastA x r))))
  have hp := jd (leastA x r)
  have hE : frameEnc (x :: r) = vput (leastA x r) ++ (UInt8.ofNat (len64 (greatA x r - leastA x r)) :: pack ((x :: r).flatMap fun y => bitsOf (y - leastA x r) (len64 (greatA x r - leastA x r)))) := rfl
  rw [<- hE] at hget
  have h1 : (frameEnc (x :: r))[(vput (leastA x r)).length]? = some (UInt8.ofNat (len64 (greatA x r - leastA x r))) := by rw [hE, Xj (Ug _)]; simp
  have h2 : (frameEnc (x :: r)).drop ((vput (leastA x r)).length + 1) = pack ((x :: r).flatMap fun y => bitsOf (y - leastA x r) (len64 (greatA x r - leastA x r))) := by
   rw [hE, <- List.drop_drop, Zu]; rfl
  have hc : (UInt8.ofNat (len64 (greatA x r - leastA x r))).toNat = len64 (greatA x r - leastA x r) := by rw [UInt8.toNat_ofNat', Ul O0]
  unfold frameDec
  rw [if_neg O8, hget]
  dsimp only
  rw [if_neg O0, h1]
  dsimp only
  rw [hc, if_neg O0, h2, bitsB_pack]
  have hga : getAll (x :: r).length (len64 (greatA x r - leastA x r)) ⟨((x :: r).flatMap fun y => bitsOf (y - leastA x r) (len64 (greatA x r - leastA x r))) ++ List.replicate (8 * ((((x :: r).flatMap fun y => bitsOf (y - leastA x r) (len64 (greatA x r - leastA x r))).length + 7) / 8) - ((x :: r).flatMap fun y => bitsOf (y - leastA x r) (len64 (greatA x r - leastA x r))).length) false, false⟩ = some ((x :: r).map fun y => y - leastA x r) := by
   have := getAll_told (len64 (greatA x r - leastA x r)) (List.replicate (8 * ((((x :: r).flatMap fun y => bitsOf (y - leastA x r) (len64 (greatA x r - leastA x r))).length + 7) / 8) - ((x :: r).flatMap fun y => bitsOf (y - leastA x r) (len64 (greatA x r - leastA x r))).length) false) ((x :: r).map fun y => y - leastA x r) (by
    intro z hz
    obtain ⟨y, hy, rfl⟩ := Vb.1 hz
    obtain ⟨m1, m2⟩ := hmem y hy
    exact Xb (by omega : y - leastA x r <= greatA x r - leastA x r) (len64_lt _))
   rw [List.flatMap_map, Ve] at this
   exact this
  rw [hga]
  dsimp only
  have hback : ((x :: r).map fun y => y - leastA x r).map (fun z => summ (leastA x r) z) = x :: r := by
   rw [List.map_map]
   conv => rhs; rw [<- List.map_id (x :: r)]
   apply List.map_congr_left
   intro y hy
   obtain ⟨m1, m2⟩ := hmem y hy
   show summ (leastA x r) (y - leastA x r) = y
   unfold summ
   omega
  rw [hback, if_pos rfl]
def unlikeA (l : List Nat) : List Nat -> Option (List Nat)
 | [] => some l
 | x :: r => if x ∈ l then unlikeA l r else if l.length = 256 then none else unlikeA (l ++ [x]) r
theorem unlikeA_some : ∀ (v l m : List Nat), unlikeA l v = some m -> l.length <= 256 -> (∃ t, m = l ++ t) ∧ (∀ x ∈ v, x ∈ m) ∧ m.length <= 256 ∧ (∀ x ∈ m, x ∈ l ∨ x ∈ v)
 | [], l, m, h, hl => by cases h; exact ⟨⟨[], by simp⟩, (fun _ h => by cases h), hl, fun _ h => .inl h⟩
 | y :: r, l, m, h, hl => by
  rw [unlikeA] at h
  split at h
  ·rename_i hy
   obtain ⟨⟨t, h1⟩, h2, h3, h4⟩ := unlikeA_some r l m h hl
   refine ⟨⟨t, h1⟩, fun x hx => ?_, h3, fun x hx => (h4 x hx).imp id (Ue _)⟩
   rcases Uo.1 hx with rfl | hx
   ·rw [h1]; exact List.mem_append_left _ hy
   ·exact h2 x hx
  ·split at h
   ·cases h
   ·obtain ⟨⟨t, h1⟩, h2, h3, h4⟩ := unlikeA_some r (l ++ [y]) m h O6
    refine ⟨⟨y :: t, by rw [h1]; simp⟩, fun x hx => ?_, h3, fun x hx => ?_⟩
    ·rcases Uo.1 hx with rfl | hx
     ·rw [h1]; simp
     ·exact h2 x hx
    ·rcases h4 x hx with h | h
     ·rcases Ws.1 h with h | h
      ·exact .inl h
      ·simp at h; subst h; exact .inr (Ub ..)
     ·exact .inr (Ue _ h)
def dictBytes (l v : List Nat) : List UInt8 := vput l.length ++ (l.flatMap vput ++ pack (v.flatMap fun x => bitsOf (l.idxOf x) (len64 (l.length - 1))))
def dictEnc (v : List Nat) : Option (List UInt8) := match unlikeA [] v with
 | none => none
 | some l => if v = [] then some [] else some (dictBytes l v)
def getVs : Nat -> List UInt8 -> Option (List Nat × List UInt8)
 | 0, b => some ([], b)
 | k + 1, b => if (vget b).2 = 0 then none else (getVs k (b.drop (vget b).2)).map fun r => ((vget b).1 :: r.1, r.2)
theorem getVs_told (r : List UInt8) : ∀ l : List Nat, (∀ x ∈ l, x < 18446744073709551616) -> getVs l.length (l.flatMap vput ++ r) = some (l, r)
 | [], _ => rfl
 | x :: l, h => by
  have hg := vv (h x (Ub ..)) (l.flatMap vput ++ r)
  have hp := jd x
  rw [Uh, Um, Ui, getVs, hg]
  dsimp only
  rw [if_neg O0, Zu, getVs_told r l fun y hy => h y (Ue _ hy)]
  rfl
def pickAll (l : List Nat) : List Nat -> Option (List Nat)
 | [] => some []
 | a :: r => match l[a]? with
  | none => none
  | some x => (pickAll l r).map fun y => x :: y
def dictDec (b : List UInt8) (n : Nat) : Option (List Nat) :=
 if n = 0 then (if b = [] then some [] else none)
 else if (vget b).2 = 0 ∨ (vget b).1 = 0 ∨ 256 < (vget b).1 then none
 else match getVs (vget b).1 (b.drop (vget b).2) with
  | none => none
  | some (l, rest) => match getAll n (len64 (l.length - 1)) ⟨bitsB rest, false⟩ with
   | none => none
   | some at_ => match pickAll l at_ with
    | none => none
    | some out => if dictEnc out = some b then some out else none
theorem pickAll_told {l : List Nat} : ∀ v : List Nat, (∀ x ∈ v, x ∈ l) -> pickAll l (v.map fun x => l.idxOf x) = some v
 | [], _ => rfl
 | x :: v, h => by
  have hx := h x (Ub ..)
  have h1 : l[l.idxOf x]? = some x := by
   rw [Uc (List.idxOf_lt_length_iff.2 hx), List.getElem_idxOf]
  rw [Ux, pickAll, h1]
  dsimp only
  rw [pickAll_told v fun y hy => h y (Ue _ hy)]
  rfl
theorem dictDec_told {v : List Nat} {b : List UInt8} (hv : ∀ x ∈ v, x < 18446744073709551616) (h : dictEnc v = some b) : dictDec b v.length = some v := by
 have h0 := h
 unfold dictEnc at h
 cases hu : unlikeA [] v with
 | none => rw [hu] at h; cases h
 | some l =>
  rw [hu] at h
  dsimp only at h
  by_cases hn : v = []
  ·rw [if_pos hn] at h; cases h; subst hn; rfl
  ·rw [if_neg hn] at h
   cases h
   obtain ⟨_, h2, h3, h4⟩ := unlikeA_some v [] l hu O8
   have hl : ∀ x ∈ l, x < 18446744073709551616 := fun x hx => by
    rcases h4 x hx with h | h
    ·cases h
    ·exact hv x h
   have hpos : 0 < v.length := Vt.2 hn
   have hlp : 0 < l.length := by
    cases v with
    | nil => exact absurd rfl hn
    | cons x r => exact List.length_pos_of_mem (h2 x (Ub ..))
   have hg := vv (show l.length < 18446744073709551616 by omega) (l.flatMap vput ++ pack (v.flatMap fun x => bitsOf (l.idxOf x) (len64 (l.length - 1))))
   have hp := jd l.length
   unfold dictDec
   rw [if_neg O0, show vget (dictBytes l v) = _ from hg]
   dsimp only
   rw [if_neg O0, show (dictBytes l v).drop (vput l.length).length = _ from Zu, getVs_told _ l hl]
   dsimp only
   rw [bitsB_pack]
   have hga := getAll_told (len64 (l.length - 1)) (List.replicate (8 * (((v.flatMap fun x => bitsOf (l.idxOf x) (len64 (l.length - 1))).length + 7) / 8) - (v.flatMap fun x => bitsOf (l.idxOf x) (len64 (l.length - 1))).length) false) (v.map fun x => l.idxOf x) (by
    intro z hz
    obtain ⟨y, hy, rfl⟩ := Vb.1 hz
    have := List.idxOf_lt_length_iff.2 (h2 y hy)
    exact Xb (by omega : l.idxOf y <= l.length - 1) (len64_lt _))
   rw [List.flatMap_map, Ve] at hga
   rw [hga]
   dsimp only
   rw [pickAll_told v h2]
   dsimp only
   rw [if_pos h0]
end
section
def zigU (u : Nat) : Nat := if u < 9223372036854775808 then 2 * u else 36893488147419103231 - 2 * u
def zagU (u : Nat) : Nat := if u % 2 = 0 then u / 2 else 18446744073709551615 - u / 2
theorem zigU_lt {u : Nat} (h : u < 18446744073709551616) : zigU u < 18446744073709551616 := by unfold zigU; split <;> omega
theorem im {u : Nat} (h : u < 18446744073709551616) : zagU (zigU u) = u := by
 unfold zigU
 split
 ·unfold zagU; rw [if_pos O0]; omega
 ·unfold zagU; rw [if_neg O0]; omega
def stepsL (was : Nat) : List Nat -> List Nat
 | [] => []
 | x :: r => zigU (diff x was) :: stepsL x r
def sumsL (was : Nat) : List Nat -> List Nat
 | [] => []
 | x :: r => summ was (zagU x) :: sumsL (summ was (zagU x)) r
theorem dj : ∀ (v : List Nat) (was : Nat), was < 18446744073709551616 -> (∀ x ∈ v, x < 18446744073709551616) -> sumsL was (stepsL was v) = v
 | [], _, _, _ => rfl
 | x :: r, was, hw, h => by
  have hx := h x (Ub ..)
  have e : summ was (zagU (zigU (diff x was))) = x := by
   rw [im (Vr _ O2)]; unfold summ; omega
  rw [stepsL, sumsL, e, dj r x hx fun y hy => h y (Ue _ hy)]
theorem stepsL_len : ∀ (v : List Nat) (was : Nat), (stepsL was v).length = v.length
 | [], _ => rfl
 | x :: r, was => by simp [stepsL, stepsL_len r x]
def be8 (x : Nat) : List UInt8 := [UInt8.ofNat (x / 2 ^ 56), UInt8.ofNat (x / 2 ^ 48), UInt8.ofNat (x / 2 ^ 40), UInt8.ofNat (x / 2 ^ 32), UInt8.ofNat (x / 2 ^ 24), UInt8.ofNat (x / 2 ^ 16), UInt8.ofNat (x / 2 ^ 8), UInt8.ofNat x]
def bigL (w : List Nat) : List UInt8 := w.flatMap be8
def wordsA (x k : Nat) : List UInt8 -> List Nat
 | [] => if k = 0 then [] else [x]
 | c :: r => if k = 8 then x :: wordsA c.toNat 1 r else wordsA ((x * 256 + c.toNat) % 18446744073709551616) (k + 1) r
def wordsL : List UInt8 -> List Nat
 | [] => []
 | c :: r => wordsA c.toNat 1 r
theorem wordsL_bigL : ∀ w : List Nat, (∀ x ∈ w, x < 18446744073709551616) -> wordsL (bigL w) = w ∧ ∀ x, wordsA x 8 (bigL w) = x :: w
 | [], _ => ⟨rfl, fun _ => rfl⟩
 | x :: w, h => by
  have hx := h x (Ub ..)
  obtain ⟨_, ih⟩ := wordsL_bigL w fun y hy => h y (Ue _ hy)
  have e : bigL (x :: w) = be8 x ++ bigL w := rfl
  have key : wordsA (UInt8.ofNat (x / 2 ^ 56)).toNat 1 (UInt8.ofNat (x / 2 ^ 48) :: UInt8.ofNat (x / 2 ^ 40) :: UInt8.ofNat (x / 2 ^ 32) :: UInt8.ofNat (x / 2 ^ 24) :: UInt8.ofNat (x / 2 ^ 16) :: UInt8.ofNat (x / 2 ^ 8) :: UInt8.ofNat x :: bigL w) = x :: w := by
   rw [wordsA, if_neg O2, wordsA, if_neg O2, wordsA, if_neg O2, wordsA, if_neg O2, wordsA, if_neg O2, wordsA, if_neg O2, wordsA, if_neg O2]
   rw [UInt8.toNat_ofNat', UInt8.toNat_ofNat', UInt8.toNat_ofNat', UInt8.toNat_ofNat', UInt8.toNat_ofNat', UInt8.toNat_ofNat', UInt8.toNat_ofNat', UInt8.toNat_ofNat']
   have e2 : (((((((x / 2 ^ 56 % 2 ^ 8 * 256 + x / 2 ^ 48 % 2 ^ 8) % 18446744073709551616 * 256 + x / 2 ^ 40 % 2 ^ 8) % 18446744073709551616 * 256 + x / 2 ^ 32 % 2 ^ 8) % 18446744073709551616 * 256 + x / 2 ^ 24 % 2 ^ 8) % 18446744073709551616 * 256 + x / 2 ^ 16 % 2 ^ 8) % 18446744073709551616 * 256 + x / 2 ^ 8 % 2 ^ 8) % 18446744073709551616 * 256 + x % 2 ^ 8) % 18446744073709551616 = x := by
    simp only [Nat.reducePow]
    omega
   rw [e2]
   exact ih x
  refine ⟨?_, fun y => ?_⟩
  ·rw [e]; exact key
  ·rw [e]
   show wordsA y 8 (UInt8.ofNat (x / 2 ^ 56) :: _) = _
   rw [wordsA, if_pos rfl]
   congr 1
theorem bigL_len (w : List Nat) : (bigL w).length = 8 * w.length := by
 induction w with
 | nil => rfl
 | cons x w ih =>
  show (be8 x ++ bigL w).length = _
  rw [Ua, ih, Ui]
  show 8 + _ = _
  omega
def sameEnc : List Nat -> Option (List UInt8)
 | [] => some []
 | x :: r => if r.all (fun y => decide (y = x)) = true then some (vput x) else none
def valuesEnc (tag : Int) (v : List Nat) : Option (List UInt8) :=
 if tag = 1 then some (pack (xorBits v)) else if tag = 2 then (simpEnc (stepsL 0 v)).map bigL else if tag = 3 then some (runsEnc v) else if tag = 4 then some (frameEnc v)
 else if tag = 5 then dictEnc v else if tag = 6 then sameEnc v else none
def valuesDec (tag : Int) (b : List UInt8) (n : Nat) : Option (List Nat) :=
 if tag = 1 then xorDec n ⟨bitsB b, false⟩ else if tag = 2 then (if b.length % 8 = 0 then (simpDec (wordsL b) n).map (sumsL 0) else none) else if tag = 3 then runsDec b n else if tag = 4 then frameDec b n
 else if tag = 5 then dictDec b n else if tag = 6 then some (List.replicate n (vget b).1) else none
def timesOf (l : List Smp) : List Int := l.map Smp.T
def valsOf (l : List Smp) : List Nat := l.map fun s => s.V.toNat
def Smp.Wf (s : Smp) : Prop := I64 s.T ∧ 0 <= s.V ∧ s.V < 18446744073709551616
def risesA (t : Int) : List Smp -> Bool
 | [] => true
 | s :: r => decide (t < s.T) && risesA s.T r
def rises : List Smp -> Bool
 | [] => true
 | s :: r => risesA s.T r
def rising (l : List Smp) : Bool := rises l && decide (l.length <= 65535)
def suitBytes (l : List Smp) (b : List UInt8) : List UInt8 := vput (pack (timesBits (timesOf l))).length ++ (pack (timesBits (timesOf l)) ++ b)
def suitEnc (tag : Int) (l : List Smp) : Option (List UInt8) := if rising l = true then (valuesEnc tag (valsOf l)).map (suitBytes l) else none
def zipS : List Int -> List Nat -> List Smp
 | t :: ts, v :: vs => ⟨t, v⟩ :: zipS ts vs
 | _, _ => []
def suitDec (tag : Int) (b : List UInt8) (n : Int) : Option (List Smp) :=
 if (vget b).2 = 0 ∨ n < 0 ∨ 65535 < n ∨ b.length - (vget b).2 < (vget b).1 then none
 else match timesDec n.toNat ⟨bitsB ((b.drop (vget b).2).take (vget b).1), false⟩, valuesDec tag (b.drop ((vget b).2 + (vget b).1)) n.toNat with
  | some x, some v => if suitEnc tag (zipS x.1 v) = some b then some (zipS x.1 v) else none
  | _, _ => none
theorem zipS_of : ∀ l : List Smp, (∀ s ∈ l, s.Wf) -> zipS (timesOf l) (valsOf l) = l
 | [], _ => rfl
 | s :: l, h => by
  obtain ⟨_, h1, _⟩ := h s (Ub ..)
  have ih := zipS_of l fun x hx => h x (Ue _ hx)
  show (⟨s.T, (s.V.toNat : Int)⟩ : Smp) :: zipS (timesOf l) (valsOf l) = _
  rw [ih, Int.toNat_of_nonneg h1]
theorem valuesDec_told {tag : Int} {v : List Nat} {b : List UInt8} (hl : v.length < 18446744073709551616) (hv : ∀ x ∈ v, x < 18446744073709551616) (h : valuesEnc tag v = some b) : valuesDec tag b v.length = some v := by
 unfold valuesEnc at h
 unfold valuesDec
 repeat' split at h
 ·cases h; rw [if_pos ‹_›, bitsB_pack]; exact xorDec_told v hv _
 ·rw [if_neg ‹_›, if_pos ‹_›]
  obtain ⟨ws, h1, rfl⟩ := Va.1 h
  obtain ⟨_, h3⟩ := simpDecA_told _ _ ws (Ug _) h1
  rw [if_pos (by rw [bigL_len]; omega), (wordsL_bigL ws h3).1]
  have h4 := simpDec_told h1
  rw [stepsL_len] at h4
  rw [h4, Xa, dj v 0 O2 hv]
 ·cases h; rw [if_neg ‹_›, if_neg ‹_›, if_pos ‹_›]; exact runsDec_told hl hv
 ·cases h; rw [if_neg ‹_›, if_neg ‹_›, if_neg ‹_›, if_pos ‹_›]; exact frameDec_told hv
 ·rw [if_neg ‹_›, if_neg ‹_›, if_neg ‹_›, if_neg ‹_›, if_pos ‹_›]; exact dictDec_told hv h
 ·rw [if_neg ‹_›, if_neg ‹_›, if_neg ‹_›, if_neg ‹_›, if_neg ‹_›, if_pos ‹_›]
  cases v with
  | nil => rfl
  | cons x r =>
   rw [sameEnc] at h
   split at h
   ·rename_i hall
    cases h
    have := vv (hv x (Ub ..)) []
    rw [Uw] at this
    rw [this]
    congr 1
    apply List.ext_getElem O8
    intro i h1 h2
    rw [List.getElem_replicate]
    cases i with
    | zero => rfl
    | succ i =>
     rw [List.getElem_cons_succ]
     have := Xe.1 hall (r[i]'(by simpa using h2)) (Zz _)
     exact (by simpa using this : r[i]'(by simpa using h2) = x).symm
   ·cases h
 ·cases h
theorem suitDec_told {tag : Int} {l : List Smp} {b : List UInt8} (hw : ∀ s ∈ l, s.Wf) (hb : b.length < 18446744073709551616) (h : suitEnc tag l = some b) : suitDec tag b l.length = some l := by
 have h0 := h
 unfold suitEnc at h
 split at h
 ·rename_i hr
  obtain ⟨x, h1, rfl⟩ := Va.1 h
  have hlen : l.length <= 65535 := by
   unfold rising at hr
   simp only [Ur, decide_eq_true_eq] at hr
   exact hr.2
  have ht : ∀ t ∈ timesOf l, I64 t := by
   intro t ht
   obtain ⟨s, hs, rfl⟩ := Vb.1 ht
   exact (hw s hs).1
  have hv : ∀ v ∈ valsOf l, v < 18446744073709551616 := by
   intro t ht
   obtain ⟨s, hs, rfl⟩ := Vb.1 ht
   obtain ⟨_, h2, h3⟩ := hw s hs
   omega
  have hvl : (valsOf l).length = l.length := by simp [valsOf]
  have htl : (timesOf l).length = l.length := by simp [timesOf]
  have hpl : (suitBytes l x).length = (vput (pack (timesBits (timesOf l))).length).length + ((pack (timesBits (timesOf l))).length + x.length) := by simp [suitBytes]
  have hg : vget (suitBytes l x) = _ := vv (show (pack (timesBits (timesOf l))).length < 18446744073709551616 by omega) (pack (timesBits (timesOf l)) ++ x)
  have hp := jd (pack (timesBits (timesOf l))).length
  have hdr : (suitBytes l x).drop (vput (pack (timesBits (timesOf l))).length).length = pack (timesBits (timesOf l)) ++ x := Zu
  have hd2 : (suitBytes l x).drop ((vput (pack (timesBits (timesOf l))).length).length + (pack (timesBits (timesOf l))).length) = x := by rw [<- List.drop_drop, hdr, Zu]
  unfold suitDec
  rw [hg]
  dsimp only
  rw [if_neg O0, hdr, Zv, hd2, Zo, bitsB_pack]
  have e1 := timesDec_told (timesOf l) ht (List.replicate (8 * (((timesBits (timesOf l)).length + 7) / 8) - (timesBits (timesOf l)).length) false)
  rw [htl] at e1
  have e2 := valuesDec_told (by rw [hvl]; omega) hv h1
  rw [hvl] at e2
  rw [e1, e2]
  dsimp only
  rw [zipS_of l hw, if_pos h0]
 ·cases h
end
end Go.Hw
namespace Go.Proofs.YtngdfdangkdgcaaGreatDoor
open Go.Hw _root_.Go.Proofs.Tryz
section
abbrev OwnB (a : Option Addr) (c : Nat) (bs : List UInt8) : HProp := Own 5 1 a bs.length c (bytesV bs)
section
variable {w0 w : World} {l : List HProp}
theorem uh {sl : Option Addr} {c : Nat} {bs : List UInt8} (h : St w0 l w) (hr : ∀ w', St w0 l w' -> Rd w' 1 sl bs.length (bytesV bs)) (hn : bs.length <= 140737488355328) : Ret prog 149 [.slice sl bs.length c] w fun v w' => ∃ a c', v = .slice a bs.length c' ∧ St w0 (OwnB a c' bs :: l) w' := by
 refine en func149 results149 ntmps149 ?_
 refine Y2b ?_; refine Ye ?_
 refine r_v (ui rfl rfl) rfl ?_
 refine qv (qi sl.isNone rfl (fun hs => ?_) (fun hs => ?_))
 ·refine Y1b ?_
  obtain rfl : sl = none := by simpa using hs
  have h2 := hr w h
  obtain ⟨h3, h4⟩ := h2
  have h5 : bs.length = 0 := by rcases h4 with h | ⟨b, o, h, _⟩; exact h; cases h
  obtain rfl : bs = [] := Un h5
  exact qv (qk (bq1 ⟨none, 0, rfl, St.ownNil _ _ h⟩))
 ·refine Yl ?_; refine Y1 ?_
  refine r_c rfl (jg (r := []) h rfl rfl rfl fun b w h => ?_)
  refine Yj ?_
  have h1 : St w0 (Own 5 1 (sQ b) 0 0 [] :: l) w := St.own_mk (cur := []) h rfl rfl (Ug _)
  refine r_c rfl (q9 (zs := bytesV bs) (m3 := bs.length) h1 rfl rfl (hr w h1.drop) (bytesV_one _) O0 (Up _) O0 O0 rfl fun a c' w hn h => ?_)
  refine Yo ?_
  exact qv (qk (bq1 ⟨a, c', rfl, h⟩))
theorem fc {a : Option Addr} {c n : Nat} {xs : List Value} (h : St w0 (Own 5 1 a n c xs :: l) w) : Ret prog 180 [.slice a n c] w fun v w' => v = .slice a n n ∧ St w0 (Own 5 1 a n n xs :: l) w' := by
 have hc := h.own_cases.2.1
 refine en func180 results180 ntmps180 ?_
 refine Y2c ?_; refine Ye ?_; refine Y17 ?_; refine Y17 ?_
 refine r_v (xv rfl rfl rfl (Ug _) hc) rfl ?_
 refine Yw ?_
 exact qk (bq1 ⟨rfl, h.own_clip⟩)
theorem dg {p : Nat} {bs : List Bool} (h : St w0 (IsBW p bs :: l) w) (hn : bs.length <= 70368744177664) : Ret prog 179 [.pz p] w fun v w' => ∃ a c, v = .slice a (pack bs).length c ∧ St w0 (OwnB a c (pack bs) :: IsBW p bs :: l) w' := by
 obtain ⟨a, c, h⟩ := St.bw.1 h
 rw [<- j6] at h
 refine en func179 results179 ntmps179 ?_
 refine Y2c ?_; refine Y5 ?_; refine r_v (qq rfl (h.b 0) rfl) rfl ?_
 refine r_c rfl (qg rfl (uh (bs := pack bs) h (fun w' h' => (h'.f 1).own_rd) (by rw [j6]; omega)) ?_)
 rintro _ w ⟨a', c', rfl, h⟩
 refine Yw ?_
 refine qk (bq1 ⟨a', c', rfl, ?_⟩)
 rw [j6] at h
 exact ((St.bw.2 ⟨a, c, (h.f 2).f 2⟩).f 1)
theorem qj1 : ∀ x : Nat, x < 256 -> x ||| 128 = x % 128 + 128 := by decide
theorem zf {sl : Option Addr} {c : Nat} {bs : List UInt8} (u : Nat) (hu : u < 18446744073709551616) (h : St w0 l w) (hr : ∀ w', St w0 l w' -> Rd w' 1 sl bs.length (bytesV bs)) (hn : bs.length <= 70368744177664) :
  Ret prog 161 [.slice sl bs.length c, .int .u64 u] w fun v w' => ∃ a c', v = .slice a (bs ++ vput u).length c' ∧ St w0 (OwnB a c' (bs ++ vput u) :: l) w' := by
 refine en func161 results161 ntmps161 ?_
 refine Y2c ?_; refine Ye ?_
 refine r_c rfl (qg rfl (uh h hr O0) ?_)
 rintro _ w ⟨a, c1, rfl, h⟩
 refine r_c rfl (qg rfl (fc h) ?_)
 rintro _ w ⟨rfl, h⟩
 refine Yw ?_
 refine qt (Γ := Nat × List UInt8 × Option Addr × Nat) (fun k => [(1, .int .u64 k.1), (5, .slice k.2.2.1 k.2.1.length k.2.2.2)])
  (fun k w => k.1 < 128 ∧ k.2.1 ++ vput k.1 = bs ++ vput u ∧ St w0 (OwnB k.2.2.1 k.2.2.2 k.2.1 :: l) w) ?_ ?_
 ·refine Yh ?_
  refine jx (Γ := Nat × List UInt8 × Option Addr × Nat) (fun k => [(1, .int .u64 k.1), (5, .slice k.2.2.1 k.2.1.length k.2.2.2)])
   (fun k w => k.1 < 18446744073709551616 ∧ k.2.1 ++ vput k.1 = bs ++ vput u ∧ St w0 (OwnB k.2.2.1 k.2.2.2 k.2.1 :: l) w) (fun k => k.1) (u, bs, a, bs.length) zz2 ⟨hu, rfl, h⟩ ?_
  clear h hu
  rintro ⟨u', out, a, c⟩ w e ⟨hu, he, h⟩
  dsimp only at hu he h ⊢
  have hlen : out.length <= bs.length + 10 := by
   have h1 := congrArg List.length he
   have h2 := jd u
   have h3 := jd u'
   simp only [Ua] at h1
   omega
  refine Y1w ?_; refine Y1m ?_
  refine qv (qi (decide ((u' : Int) ≥ 128)) rfl (fun hc => ?_) (fun hc => ?_))
  ·
   have hge : 128 <= u' := by simp at hc; omega
   refine Y1z ?_; refine Y3x ?_; refine Yy ?_
   refine qz (.int .u8 ((u' % 256 : Nat) : Int)) (by rw [uw]) ?_
   refine r_v (q_or rfl rfl) rfl ?_
   refine qz (.int .u8 ((UInt8.ofNat (u' % 128 + 128)).toNat : Int)) (by
    rw [show bitOp .or .u8 ((u' % 256 : Nat) : Int) 128 = ((u' % 256 ||| 128 : Nat) : Int) from (w8 (Vr _ O2) O2).2.1, qj1 _ (Vr _ O2), UInt8.toNat_ofNat', show u' % 256 % 128 + 128 = (u' % 128 + 128) % 2 ^ 8 by simp only [Nat.reducePow]; omega]) ?_
   refine r_c rfl (jg (r := bytesV [UInt8.ofNat (u' % 128 + 128)]) h rfl rfl rfl fun b w h => ?_)
   refine r_c rfl (q9 (ys := bytesV [UInt8.ofNat (u' % 128 + 128)]) (zs := bytesV (out ++ [UInt8.ofNat (u' % 128 + 128)])) (m3 := (out ++ [UInt8.ofNat (u' % 128 + 128)]).length) (h.f 1) rfl rfl ⟨rfl, .inr ⟨b, 0, rfl, qw (h.b 0 rfl) rfl⟩⟩ (bytesV_one _) O8 (by simp [bytesV]) O6 O6 rfl fun a' c' w _ h => ?_)
   refine Yw ?_; refine Y2a ?_
   refine r_v (qr (v' := .int .u64 ((u' / 128 : Nat) : Int)) (vl rfl rfl O0) (congrArg (Value.int .u64) (j0 u' 7 64 O2))) rfl ?_
   refine Y6 ?_
   refine qv ⟨(u' / 128, out ++ [UInt8.ofNat (u' % 128 + 128)], a', c'), zz2, ⟨O_d, ?_, (h.f 1).drop⟩, O_d⟩
   rw [<- he, iy O0 hu, Um]; rfl
  exact ju ⟨(u', out, a, c), zz2, by simp at hc; dsimp only; omega, he, h⟩
 clear h hu
 rintro ⟨u', out, a, c⟩ w e ⟨hu, he, h⟩
 dsimp only at hu he h ⊢
 rw [ig hu] at he
 have hlen : out.length <= bs.length + 10 := by
  have h1 := congrArg List.length he
  have h2 := jd u
  simp only [Ua, List.length_singleton] at h1
  omega
 refine Y21 ?_; refine Yy ?_
 refine qz (.int .u8 ((UInt8.ofNat u').toNat : Int)) O23 ?_
 refine r_c rfl (jg (r := bytesV [UInt8.ofNat u']) h rfl rfl rfl fun b w h => ?_)
 refine r_c rfl (q9 (ys := bytesV [UInt8.ofNat u']) (zs := bytesV (bs ++ vput u)) (m3 := (bs ++ vput u).length) (h.f 1) rfl rfl ⟨rfl, .inr ⟨b, 0, rfl, qw (h.b 0 rfl) rfl⟩⟩ (bytesV_one _) (by rw [<- he]; simp) (by rw [<- he]; simp [bytesV]) (by rw [<- he]; simp; omega) (by rw [<- he]; simp; omega) rfl fun a' c' w _ h => ?_)
 refine Yw ?_
 exact qk (bq1 ⟨a', c', rfl, (h.f 1).drop⟩)
theorem pw {sl : Option Addr} {c : Nat} {bs : List UInt8} (h : St w0 l w) (hr : ∀ w', St w0 l w' -> Rd w' 1 sl bs.length (bytesV bs)) (hn : bs.length <= 140737488355328) :
  Ret prog 155 [.slice sl bs.length c] w fun v w' => v = .tuple [.int .u64 ((vget bs).1 : Nat), .iz ((vget bs).2 : Nat)].toArray ∧ St w0 l w' := by
 refine en func155 results155 ntmps155 ?_
 refine Y13 ?_; refine Y4 ?_; refine Yr ?_; refine Y25 ?_; refine Y20 ?_
 refine jx (Γ := Nat × Nat) (fun k => [(4, .int .u64 k.2), (7, .slice sl bs.length c), (8, .iz bs.length), (9, .iz k.1)])
  (fun k w => k.1 <= bs.length ∧ k.1 <= 10 ∧ k.2 < 2 ^ (7 * k.1) ∧ vgetA (bs.drop k.1) k.1 k.2 = vget bs ∧ St w0 l w) (fun k => bs.length - k.1) (0, 0) zz4 ⟨Ud _, O_c, O_c, rfl, h⟩ ?_
 clear h
 rintro ⟨i, u⟩ w e ⟨hi, hi10, hu, hv, h⟩
 dsimp only at hi hi10 hu hv ⊢
 refine Y14 ?_
 refine qf (qi (decide ((i : Int) < (bs.length : Int))) rfl (fun hc => ?_) (fun hc => ?_))
 ·
  have hin : i < bs.length := by simp at hc; omega
  have hg := Uc hin
  have hdr := Vz hin
  generalize bs[i] = x at hg hdr
  rw [hdr, vgetA] at hv
  obtain ⟨b, o, hsl⟩ := (hr w h).some O0
  have hx := x.toNat_lt
  refine Y1z ?_; refine Y8 ?_
  refine r_v (jb (b := b) (o := o) (m := bs.length) (c := c) (o' := o + i) O16 rfl rfl hin O8) rfl ?_
  refine r_v (jj (v := .int .u8 x.toNat) rfl ((hsl ▸ hr w h).cell (bytesV_get hg))) rfl ?_
  refine Y3q ?_
  refine qt (Γ := Unit) (fun k => [(4, .int .u64 u), (5, .iz i), (6, .int .u8 x.toNat), (7, .slice sl bs.length c), (8, .iz bs.length), (9, .iz i)])
   (fun k w => i <= 9 ∧ (i = 9 -> x.toNat <= 1) ∧ vgetA (bs.drop (i + 1)) (i + 1) (u + x.toNat % 128 * 2 ^ (7 * i)) = vget bs ∧ St w0 l w) ?_ ?_
  ·refine Yh ?_
   refine qt (Γ := Bool) (fun k => [(4, .int .u64 u), (5, .iz i), (6, .int .u8 x.toNat), (7, .slice sl bs.length c), (8, .iz bs.length), (9, .iz i), (14, .bool k)])
    (fun k w => (k = true ↔ (i = 10 ∨ (i = 9 ∧ 1 < x.toNat) ∨ (0 < i ∧ x.toNat = 0))) ∧ St w0 l w) ?_ ?_
   ·refine Y2a ?_; refine Yp ?_
    by_cases h10 : i = 10
    ·refine qz (.bool true) O6 ?_
     refine Y2f ?_; refine Y2g ?_; refine Y2d ?_; refine Yf ?_; refine Y2f ?_; refine Y2g ?_; refine Y2d ?_; refine Y2m ?_
     exact qv ⟨true, zz7, ⟨fun _ => .inl h10, fun _ => rfl⟩, h⟩
    ·refine qz (.bool false) O6 ?_
     refine Y46 ?_
     by_cases h9 : i = 9
     ·refine qz (.bool true) O6 ?_
      refine Yc ?_; refine Y23 ?_; refine Y2j ?_
      by_cases h1 : 1 < x.toNat
      ·refine qz (.bool true) O6 ?_
       refine Yc ?_; refine Yf ?_; refine Y9 ?_; refine Y2f ?_; refine Y2g ?_; refine Y2d ?_; refine Y2m ?_
       exact qv ⟨true, zz7, ⟨fun _ => .inr (.inl ⟨h9, h1⟩), fun _ => rfl⟩, h⟩
      ·refine qz (.bool false) O6 ?_
       refine Yc ?_; refine Yf ?_; refine Y9 ?_; refine Y23 ?_; refine Y2j ?_
       refine qz (.bool true) O6 ?_
       refine Yc ?_; refine Y46 ?_
       by_cases h0 : x.toNat = 0
       ·refine qz (.bool true) (by rw [h0]; rfl) ?_
        refine Yc ?_; refine Yf ?_; refine Y2h ?_
        exact qv ⟨true, zz7, ⟨fun _ => .inr (.inr ⟨O_o, h0⟩), fun _ => rfl⟩, h⟩
       ·refine qz (.bool false) O5 ?_
        refine Yc ?_; refine Yf ?_; refine Y2h ?_
        exact qv ⟨false, zz7, ⟨(fun h => by cases h), (fun h => by omega)⟩, h⟩
     ·refine qz (.bool false) O6 ?_
      refine Yc ?_; refine Y1v ?_; refine Yc ?_; refine Y9 ?_; refine Y9 ?_; refine Y23 ?_; refine Y2j ?_
      by_cases hp : 0 < i
      ·refine qz (.bool true) O6 ?_
       refine Yc ?_; refine Y46 ?_
       by_cases h0 : x.toNat = 0
       ·refine qz (.bool true) (by rw [h0]; rfl) ?_
        refine Yc ?_; refine Yf ?_; refine Y2h ?_
        exact qv ⟨true, zz7, ⟨fun _ => .inr (.inr ⟨O_o, h0⟩), fun _ => rfl⟩, h⟩
       ·refine qz (.bool false) O5 ?_
        refine Yc ?_; refine Yf ?_; refine Y2h ?_
        exact qv ⟨false, zz7, ⟨(fun h => by cases h), (fun h => by omega)⟩, h⟩
      ·refine qz (.bool false) O6 ?_
       refine Yc ?_; refine Y1v ?_; refine Yc ?_; refine Y9 ?_; refine Y2h ?_
       exact qv ⟨false, zz7, ⟨(fun h => by cases h), (fun h => by omega)⟩, h⟩
   clear h
   rintro k w e ⟨hk, h⟩
   refine qi k rfl (fun hc => ?_) (fun hc => ?_)
   ·
    rw [if_pos (hk.1 hc)] at hv
    refine Y13 ?_; refine Y4 ?_
    exact qk (bq2 ⟨by rw [<- hv]; rfl, h⟩)
   ·
    have hnb : ¬ (i = 10 ∨ (i = 9 ∧ 1 < x.toNat) ∨ (0 < i ∧ x.toNat = 0)) := fun hb => by rw [hk.2 hb] at hc; cases hc
    rw [if_neg hnb] at hv
    have hi9 : i <= 9 := by omega
    have hb : x.toNat * 2 ^ (7 * i) < 18446744073709551616 := by
     rcases Xt i 9 with h2 | h2
     ·have h3 : (2 : Nat) ^ (7 * i) <= 2 ^ 56 := Vg O2 O0
      have h4 : x.toNat * 2 ^ (7 * i) <= 255 * 2 ^ 56 := Zt O0 h3
      omega
     ·obtain rfl : i = 9 := by omega
      have h4 : x.toNat * 2 ^ (7 * 9) <= 1 * 2 ^ (7 * 9) := Ut _ O0
      have h5 : (2 : Nat) ^ (7 * 9) = 9223372036854775808 := by decide
      omega
    have hu64 : u < 18446744073709551616 := Xp hu (by
     have : (2 : Nat) ^ (7 * i) <= 2 ^ 64 := Vg O2 O0
     exact this)
    refine Y8 ?_; refine Y1u ?_; refine Ya ?_
    refine qi (decide ((x.toNat : Int) < 128)) rfl (fun hc => ?_) (fun hc => ?_)
    ·
     rw [if_pos (by simp at hc; omega)] at hv
     refine Y35 ?_; refine Yy ?_
     refine qz (.int .u64 (x.toNat : Int)) O18 ?_
     refine Y0 ?_; refine Y4n ?_
     refine qz (.iz ((7 * i : Nat) : Int)) O7 ?_
     refine r_v (qr (v' := .int .u64 ((x.toNat * 2 ^ (7 * i) : Nat) : Int)) (xl rfl rfl O0) (by rw [kh _ _ O0, Ul hb])) rfl ?_
     refine r_v (q_or rfl rfl) rfl ?_
     refine qz (.int .u64 ((u + x.toNat * 2 ^ (7 * i) : Nat) : Int)) (by rw [(vr hu64 hb).2.1, px hu]) ?_
     refine Y0 ?_; refine Y1f ?_
     refine qz (.iz ((i + 1 : Nat) : Int)) O7 ?_
     refine Y3q ?_
     exact qk (bq2 ⟨by rw [<- hv]; rfl, h⟩)
    ·
     rw [if_neg (by simp at hc; omega)] at hv
     exact qa ⟨(), zz6, hi9, O_o, hv, h⟩
  clear h hv
  rintro ⟨⟩ w e ⟨hi9, hx1, hv, h⟩
  have hm : x.toNat % 128 * 2 ^ (7 * i) <= 127 * 2 ^ (7 * i) := Ut _ O0
  have h63 : (2 : Nat) ^ (7 * i) <= 2 ^ 63 := Vg O2 O0
  have hu64 : u < 18446744073709551616 := by omega
  have hb : x.toNat % 128 * 2 ^ (7 * i) < 18446744073709551616 := by
   rcases Xt i 9 with h2 | h2
   ·have h3 : (2 : Nat) ^ (7 * i) <= 2 ^ 56 := Vg O2 O0
    omega
   ·obtain rfl : i = 9 := by omega
    have h4 : x.toNat % 128 * 2 ^ (7 * 9) <= 1 * 2 ^ (7 * 9) := Ut _ (by have := hx1 rfl; omega)
    have h5 : (2 : Nat) ^ (7 * 9) = 9223372036854775808 := by decide
    omega
  refine Y2a ?_; refine Y0 ?_; refine r_v (zb rfl rfl) rfl ?_
  refine qz (.int .u8 ((x.toNat % 128 : Nat) : Int)) (by rw [show bitOp .and .u8 (x.toNat : Int) 127 = ((x.toNat &&& 127 : Nat) : Int) from (w8 hx O2).1, show x.toNat &&& 127 = x.toNat % 128 from qje x.toNat 7]) ?_
  refine Yy ?_
  refine qz (.int .u64 ((x.toNat % 128 : Nat) : Int)) O18 ?_
  refine Y0 ?_; refine Y4n ?_
  refine qz (.iz ((7 * i : Nat) : Int)) O7 ?_
  refine r_v (qr (v' := .int .u64 ((x.toNat % 128 * 2 ^ (7 * i) : Nat) : Int)) (xl rfl rfl O0) (by rw [kh _ _ O0, Ul hb])) rfl ?_
  refine r_v (q_or rfl rfl) rfl ?_
  refine qz (.int .u64 ((u + x.toNat % 128 * 2 ^ (7 * i) : Nat) : Int)) (by rw [(vr hu64 hb).2.1, px hu]) ?_
  refine Y4 ?_; refine Yt ?_
  refine qz (.iz ((i + 1 : Nat) : Int)) O7 ?_
  refine Y0 ?_
  refine qv ⟨(i + 1, u + x.toNat % 128 * 2 ^ (7 * i)), zz4, ⟨O_d, O_d, ?_, hv, h⟩, O_d⟩
  have hp : (2 : Nat) ^ (7 * (i + 1)) = 128 * 2 ^ (7 * i) := by rw [Nat.mul_add, Xu, Wh]
  dsimp only
  rw [hp]
  omega
 have hin : i = bs.length := by simp at hc; omega
 rw [hin, Kb, vgetA] at hv
 refine ju ?_
 refine Y13 ?_; refine Y4 ?_
 exact qk (bq2 ⟨by rw [<- hv]; rfl, h⟩)
end
end
section
section
variable {w0 w : World} {l : List HProp}
theorem pd {t : Int} (ht : I64 t) (h : St w0 l w) : Ret prog 162 [.iz t] w fun v w' => v = .int .u64 (zigU (us t) : Nat) ∧ St w0 l w' := by
 have hlt := kl t
 refine en func162 results162 ntmps162 ?_
 refine Yr ?_; refine Y8 ?_; refine Yy ?_
 refine qz (.int .u64 (us t : Nat)) (by rw [kb]) ?_
 refine r_v (qr (v' := .int .u64 ((us t * 2 % 18446744073709551616 : Nat) : Int)) (xl rfl rfl O0) (congrArg (Value.int .u64) (kh (us t) 1 O2))) rfl ?_
 refine Y0 ?_
 refine r_v (qr (v' := .iz (if us t < 9223372036854775808 then 0 else -1)) (vl rfl rfl O0) (by
  congr 1
  rw [show (2 : Int) ^ (min (63 : Int).toNat IntKind.i64.bits) = 9223372036854775808 by decide, Zr _ O2]
  obtain ⟨h1, h2⟩ := ht
  unfold us
  split <;> omega)) rfl ?_
 refine Yy ?_
 refine qz (.int .u64 ((if us t < 9223372036854775808 then 0 else 18446744073709551615 : Nat) : Int)) (by
  rw [kb]; congr 2; split <;> rfl) ?_
 refine Y4k ?_
 refine qz (.int .u64 (zigU (us t) : Nat)) (by
  rw [(vr (Vr _ O2) (by split <;> decide)).2.2]
  congr 2
  unfold zigU
  split
  ·rw [Nat.xor_zero, Ul O0, Wh]
  ·rw [pz (Vr _ O2)]; omega) ?_
 refine Y4 ?_
 exact qk (bq1 ⟨rfl, h⟩)
theorem kr {u : Nat} (hu : u < 18446744073709551616) (h : St w0 l w) : Ret prog 156 [.int .u64 u] w fun v w' => v = .iz (sg (zagU u)) ∧ St w0 l w' := by
 refine en func156 results156 ntmps156 ?_
 refine Yr ?_; refine Y8 ?_
 refine r_v (qr (v' := .int .u64 ((u / 2 : Nat) : Int)) (vl rfl rfl O0) (congrArg (Value.int .u64) (j0 u 1 64 O2))) rfl ?_
 refine Yy ?_
 refine qz (.iz ((u / 2 : Nat) : Int)) O11 ?_
 refine Y0 ?_; refine r_v (zb rfl rfl) rfl ?_
 refine qz (.int .u64 ((u % 2 : Nat) : Int)) (by rw [show bitOp .and .u64 (u : Int) 1 = ((u &&& 1 : Nat) : Int) from (vr hu O2).1, Kk]) ?_
 refine Yy ?_
 refine qz (.iz ((u % 2 : Nat) : Int)) O11 ?_
 refine r_v (sx rfl) rfl ?_
 refine qz (.iz (0 - ((u % 2 : Nat) : Int))) O11 ?_
 refine Y4k ?_
 refine qz (.iz (sg (zagU u))) (by
  rw [(qjl _ _).2.2]
  congr 2
  have h1 : us ((u / 2 : Nat) : Int) = u / 2 := by unfold us; omega
  rw [h1]
  unfold zagU
  split
  ·rename_i h0
   rw [h0]
   exact Nat.xor_zero _
  ·rename_i h0
   have h2 : u % 2 = 1 := by omega
   rw [h2]
   exact pz O0) ?_
 refine Y4 ?_
 exact qk (bq1 ⟨rfl, h⟩)
abbrev BrPt (p : Nat) (a : Option Addr) (m c at_ : Nat) (bad : Bool) : HProp := pt p (.cells [.slice a m c, .iz at_, .bool bad].toArray 261 (0, 0))
def IsBR (p : Nat) (s : RS) : HProp := ex fun q : Option Addr × Nat × List UInt8 × Nat => all [BrPt p q.1 q.2.2.1.length q.2.1 q.2.2.2 s.bad, OwnB q.1 q.2.1 q.2.2.1, lift (s.rest = (bitsB q.2.2.1).drop q.2.2.2 ∧ q.2.2.2 <= 8 * q.2.2.1.length ∧ q.2.2.1.length <= 140737488355328)]
theorem St.br {p : Nat} {s : RS} : St w0 (IsBR p s :: l) w ↔ ∃ a c B at_, (s.rest = (bitsB B).drop at_ ∧ at_ <= 8 * B.length ∧ B.length <= 140737488355328) ∧ St w0 (BrPt p a B.length c at_ s.bad :: OwnB a c B :: l) w := by
 unfold IsBR
 rw [St.ex]
 constructor
 ·rintro ⟨⟨a, c, B, at_⟩, h⟩
  obtain ⟨h1, h2⟩ := St.lift.1 (h.join.f 2)
  exact ⟨a, c, B, at_, h1, h2⟩
 ·rintro ⟨a, c, B, at_, h1, h⟩
  refine ⟨(a, c, B, at_), St.fold [_, _, _] ?_⟩
  have h2 := St.lift.2 ⟨h1, h⟩
  exact h2.of_all (by simp only [We, Up, jn]; ac_rfl)
theorem k8 {sl : Option Addr} {c : Nat} {bs : List UInt8} (h : St w0 l w) (hr : ∀ w', St w0 l w' -> Rd w' 1 sl bs.length (bytesV bs)) (hn : bs.length <= 140737488355328) : Ret prog 158 [.slice sl bs.length c] w fun v w' => ∃ p, v = .pz p ∧ St w0 (IsBR p ⟨bitsB bs, false⟩ :: l) w' := by
 refine en func158 results158 ntmps158 ?_
 refine Y3k ?_; refine Ye ?_
 refine r_c rfl (qg rfl (uh h hr hn) ?_)
 rintro _ w ⟨a, c1, rfl, h⟩
 refine r_v (qc (r := [.slice a bs.length c1, .iz 0, .bool false]) rfl) rfl ?_
 refine r_c rfl (jv h (show _ = Value.agg [.slice a bs.length c1, .iz 0, .bool false].toArray from rfl) fun p w h => ?_)
 refine Y3g ?_
 exact qk (bq1 ⟨p, rfl, St.br.2 ⟨a, c1, bs, 0, ⟨rfl, Ud _, hn⟩, h⟩⟩)
theorem wz {p : Nat} {s : RS} (h : St w0 (IsBR p s :: l) w) : Ret prog 167 [.pz p] w fun v w' => v = .bool (!s.bad) ∧ St w0 (IsBR p s :: l) w' := by
 obtain ⟨a, c, B, at_, h1, h⟩ := St.br.1 h
 refine en func167 results167 ntmps167 ?_
 refine Y12 ?_; refine Y5 ?_; refine r_v (qq rfl (h.b 0) rfl) rfl ?_; refine Yx ?_; refine Ya ?_
 exact qk (bq1 ⟨rfl, St.br.2 ⟨a, c, B, at_, h1, h⟩⟩)
theorem lv {p : Nat} {a : Option Addr} {c at_ : Nat} {bad : Bool} {B : List UInt8} (hat : at_ <= 8 * B.length) (hB : B.length <= 140737488355328) (h : St w0 (BrPt p a B.length c at_ bad :: OwnB a c B :: l) w) :
  Ret prog 182 [.pz p] w fun v w' => v = .iz (if bad = true then 0 else (8 * B.length - at_ : Nat) : Nat) ∧ St w0 (BrPt p a B.length c at_ bad :: OwnB a c B :: l) w' := by
 refine en func182 results182 ntmps182 ?_
 refine Yr ?_; refine Y2n ?_; refine r_v (qq rfl (h.b 0) rfl) rfl ?_
 refine qv (qi bad rfl (fun hc => ?_) (fun hc => ?_))
 ·
  refine Yr ?_
  exact qk (bq1 ⟨by rw [if_pos hc]; rfl, h⟩)
 refine Yl ?_
 refine qf (jh none (fun w => St w0 _ w) O1 O1 h.drew fun w h => ?_)
 refine Y3 ?_; refine qj rfl rfl rfl rfl h (fun _ h => qh rfl (qq rfl (h.b 0) rfl)) ?_; refine Y2x ?_
 refine cpv rfl rfl rfl rfl h rfl (qr (v' := .iz ((8 * B.length : Nat) : Int)) (q_mul rfl rfl) O7) ?_
 refine Y3 ?_
 refine qj rfl rfl rfl rfl h (fun _ h => qh rfl (qq (v := .iz at_) rfl (h.b 0 rfl) rfl)) ?_
 refine cpv rfl rfl rfl rfl h rfl (qr (v' := .iz ((8 * B.length - at_ : Nat) : Int)) (vi rfl rfl) O9) ?_
 refine Y2s ?_
 refine qn ?_
 exact qk (bq1 ⟨by rw [if_neg (by rw [hc]; decide)]; rfl, h⟩)
theorem take_succ_num {s : List Bool} {k : Nat} {b : Bool} (h : s[k]? = some b) : num (s.take (k + 1)) = 2 * num (s.take k) + b.toNat := by
 rw [Vl, h]
 exact qqg _ _
theorem heldN_nat {n : Nat} (h : n <= 64) : heldN (n : Int) = n := by unfold heldN; omega
theorem gb {p : Nat} {s : RS} (n : Int) (h : St w0 (IsBR p s :: l) w) : Ret prog 165 [.pz p, .iz n] w fun v w' => v = .int .u64 ((s.get (heldN n)).1 : Nat) ∧ St w0 (IsBR p (s.get (heldN n)).2 :: l) w' := by
 obtain ⟨a, c, B, at_, ⟨hrest, hat, hB⟩, h⟩ := St.br.1 h
 obtain ⟨rest, bad⟩ := s
 dsimp only at hrest h
 have hm := heldN_le n
 have hrl : rest.length = 8 * B.length - at_ := by rw [hrest, Uq, bitsB_len]
 refine en func165 results165 ntmps165 ?_
 refine Yr ?_; refine Y8 ?_
 refine r_c rfl (qg rfl (sn n h) ?_)
 rintro _ w ⟨rfl, h⟩
 generalize heldN n = m at hm ⊢
 refine Y4 ?_
 refine qt (Γ := Bool) (fun _ => [(0, .pz p), (1, .iz m)])
  (fun k w => (k = true ↔ (bad = true ∨ rest.length < m)) ∧ St w0 (BrPt p a B.length c at_ k :: OwnB a c B :: l) w) ?_ ?_
 ·refine Y8 ?_; refine Y22 ?_
  refine r_c rfl (qg rfl (lv hat hB h) ?_)
  rintro _ w ⟨rfl, h⟩
  refine Y2j ?_; refine Y2 ?_
  refine qi (decide ((m : Int) > ((if bad = true then 0 else (8 * B.length - at_ : Nat) : Nat) : Int))) rfl (fun hc => ?_) (fun hc => ?_)
  ·refine Y2l ?_
   refine r_c rfl (qb 0 h rfl (show _ = Value.bool true from rfl) rfl rfl rfl rfl fun w h => ?_)
   refine qv ⟨true, zz2, ⟨fun _ => ?_, fun _ => rfl⟩, h⟩
   rw [decide_eq_true_eq] at hc
   split at hc
   ·exact .inl ‹_›
   ·exact .inr O0
  ·refine qa ⟨bad, zz2, ⟨fun hb => .inl hb, fun hb => ?_⟩, h⟩
   rw [decide_eq_false_iff_not] at hc
   rcases hb with hb | hb
   ·exact hb
   ·split at hc
    ·assumption
    ·omega
 clear h
 rintro k w e ⟨hk, h⟩
 refine Y2n ?_; refine r_v (qq rfl (h.b 0) rfl) rfl ?_
 refine qv (qi k rfl (fun hc => ?_) (fun hc => ?_))
 ·
  subst hc
  have hbad := hk.1 rfl
  refine Yr ?_
  refine qk (bq1 ?_)
  have e1 : RS.get ⟨rest, bad⟩ m = (0, ⟨rest, true⟩) := by unfold RS.get; rw [if_pos hbad]
  rw [e1]
  exact ⟨rfl, St.br.2 ⟨a, c, B, at_, ⟨hrest, hat, hB⟩, h⟩⟩
 subst hc
 have hok : ¬ (bad = true ∨ rest.length < m) := fun hb => by cases hk.2 hb
 refine Yl ?_; refine Yr ?_; refine Y1w ?_; refine Y20 ?_
 refine jx (Γ := Nat) (fun k => [(0, .pz p), (5, .int .u64 (num (rest.take k))), (19, .iz m), (20, .iz k)]) (fun k w => k <= m ∧ St w0 (BrPt p a B.length c (at_ + k) false :: OwnB a c B :: l) w) (fun k => m - k) 0 zz4 ⟨Ud _, h⟩ ?_
 clear h
 rintro k w e ⟨hkm, h⟩
 refine Y14 ?_
 refine qf (qi (decide ((k : Int) < (m : Int))) rfl (fun hc => ?_) (fun hc => ?_))
 ·
  have hlt : k < m := by simp at hc; omega
  have hkr : k < rest.length := by omega
  have hbyte : (at_ + k) / 8 < B.length := by omega
  have hgB := Uc hbyte
  generalize B[(at_ + k) / 8] = x at hgB
  have hbit : rest[k]? = some (x.toNat.testBit (7 - (at_ + k) % 8)) := by rw [hrest, List.getElem?_drop, bitsB_get _ _ _ hgB]
  have hnum := take_succ_num hbit
  generalize hb : x.toNat.testBit (7 - (at_ + k) % 8) = b at hnum hbit
  have hn1 := fp (rest.take k)
  rw [Us, Vs O0] at hn1
  have hn2 : (2 : Nat) ^ k <= 2 ^ 63 := Vg O2 O0
  have hn3 : num (rest.take k) < 9223372036854775808 := by omega
  generalize num (rest.take k) = N at *
  have hb2 : b.toNat <= 1 := by cases b <;> decide
  have hx := x.toNat_lt
  obtain ⟨g, rfl⟩ := (h.f 1).own_some O0
  refine Y1z ?_
  refine qf (jh none (fun w => St w0 _ w) O1 O1 h.drew fun w h => ?_)
  refine Y18 ?_
  refine cpv rfl rfl rfl rfl h rfl (qr (v' := .int .u64 ((2 ^ 1 * N : Nat) : Int)) (xl rfl rfl O0) (by rw [show IntKind.u64.wrap ((N : Int) * 2 ^ (min (1 : Int).toNat IntKind.u64.bits)) = ((N * 2 ^ 1 % 18446744073709551616 : Nat) : Int) from kh N 1 O2, Ul O0, Wh])) ?_
  refine Y3 ?_; refine qj rfl rfl rfl rfl h (fun _ h => qh rfl (qq rfl (h.b 0) rfl)) ?_; refine Y3 ?_
  refine qj rfl rfl rfl rfl h (fun _ h => qh rfl (qq (v := .iz ((at_ + k : Nat) : Int)) rfl (h.b 0 rfl) rfl)) ?_
  refine cpv rfl rfl rfl rfl h rfl (qr (v' := .iz (((at_ + k) / 8 : Nat) : Int)) (q_quo rfl rfl O2) (by rw [show ((at_ + k : Nat) : Int).tdiv 8 = (((at_ + k) / 8 : Nat) : Int) from py _ 8, wrap64 O0 O0])) ?_
  refine cpv rfl rfl rfl rfl h rfl (jb (o' := (at_ + k) / 8) rfl rfl rfl hbyte O8) ?_
  refine qj rfl rfl rfl rfl h (fun w h => qh rfl (jj (v := .int .u8 x.toNat) rfl (by have := (h.f 1).own_rd.cell (bytesV_get hgB); simpa using this))) ?_
  refine Y3 ?_
  refine qj rfl rfl rfl rfl h (fun _ h => qh rfl (qq (v := .iz ((at_ + k : Nat) : Int)) rfl (h.b 0 rfl) rfl)) ?_
  refine cpv rfl rfl rfl rfl h rfl (qr (v' := .iz (((at_ + k) % 8 : Nat) : Int)) (nl rfl rfl O2) (congrArg Value.iz (zn _ 8))) ?_
  refine cpv rfl rfl rfl rfl h rfl (qr (v' := .iz ((7 - (at_ + k) % 8 : Nat) : Int)) (vi rfl rfl) O9) ?_
  refine cpv rfl rfl rfl rfl h rfl (qr (v' := .int .u8 ((x.toNat / 2 ^ (7 - (at_ + k) % 8) : Nat) : Int)) (vl rfl rfl O0) (congrArg (Value.int .u8) (j0 x.toNat _ 8 O0))) ?_
  refine cpv rfl rfl rfl rfl h rfl (qr (v' := .int .u8 ((b.toNat : Nat) : Int)) (zb rfl rfl) (by
   rw [show bitOp .and .u8 ((x.toNat / 2 ^ (7 - (at_ + k) % 8) : Nat) : Int) 1 = ((x.toNat / 2 ^ (7 - (at_ + k) % 8) &&& 1 : Nat) : Int) from (w8 (Xb (Nat.div_le_self _ _) hx) O2).1, Kk, testBit_toNat, hb])) ?_
  refine cpv rfl rfl rfl rfl h rfl (qr (v' := .int .u64 ((b.toNat : Nat) : Int)) (xj rfl) O18) ?_
  refine cpv rfl rfl rfl rfl h rfl (qr (v' := .int .u64 (num (rest.take (k + 1)) : Nat)) (q_or rfl rfl) (by
   rw [(vr O0 O0).2.1, hnum, <- Nat.two_pow_add_eq_or_of_lt (show b.toNat < 2 ^ 1 by omega)])) ?_
  refine Y2s ?_
  refine qn ?_
  refine Y2l ?_
  refine r_v (qq (v := .iz ((at_ + k : Nat) : Int)) rfl (h.b 0 rfl) rfl) rfl ?_
  refine Y1f ?_
  refine qz (.iz ((at_ + (k + 1) : Nat) : Int)) O17 ?_
  refine Yi ?_
  refine r_c rfl (qb 0 h rfl (show _ = Value.int _ _ from rfl) rfl rfl rfl rfl fun w h => ?_)
  refine Y3h ?_
  refine qz (.iz ((k + 1 : Nat) : Int)) O7 ?_
  refine Y0 ?_
  exact qv ⟨k + 1, zz4, ⟨O_o, h⟩, O_o⟩
 obtain rfl : k = m := by simp at hc; omega
 refine ju ?_
 refine Y3i ?_
 refine qk (bq1 ?_)
 have e1 : RS.get ⟨rest, bad⟩ k = (num (rest.take k), ⟨rest.drop k, false⟩) := by unfold RS.get; rw [if_neg hok]
 rw [e1]
 exact ⟨rfl, St.br.2 ⟨a, c, B, at_ + k, ⟨by rw [hrest, List.drop_drop], O_o, hB⟩, h⟩⟩
end
end
end Go.Proofs.YtngdfdangkdgcaaGreatDoor
namespace Go.Hw
section
section
variable {P : Program} {e : Env} {w : World} {d : Option Nat} {ty : TypeId} {pos : String} {af : Array Edge} {g : Option (Nat × Bool)}
theorem q_sidx {t : TypeId} [ht : Und P t .string] {x y : Operand} {s : ByteArray} {k : IntKind} {i : Nat} {b : UInt8} (hx : ev e x = .string s) (hy : ev e y = .int k (i : Int)) (hb : s.data.toList[i]? = some b) : Qv P e ⟨d, .index t x y, ty, pos, af, g⟩ w (.int .u8 b.toNat) := by
 unfold Qv
 obtain ⟨h1, h2⟩ := Uf.1 hb
 have h3 : i < s.size := by simpa using h1
 have h4 := run_index_string (P := P) (w := w) t s k (i : Int) ht.h
 rw [dif_pos ⟨O_o, O_o⟩] at h4
 simp only [execOp, hx, hy, Sem.run_bind, h4, Result.andThen_ok]
 have h5 : (s[(i : Int).toNat]'O0) = b := by rw [<- h2]; simp; rfl
 rw [h5]; rfl
theorem k9 {t T m : Nat} [ht : Und P t (.array m T)] {z : List Value} {agg : Bool} {bytes : Nat} [hi : Inf P T z agg bytes] {x y : Operand} {b o o' j : Nat} {k : IntKind} {i : Int}
  (hx : ev e x = .pointer (some ⟨b, o, none⟩)) (hy : ev e y = .int k i) (hij : i = (j : Int)) (hj : j < m) (ho : o + j * z.length = o') : Qv P e ⟨d, .indexAddr t x y, ty, pos, af, g⟩ w (.pointer (some ⟨b, o', none⟩)) := by
 unfold Qv
 subst hij ho
 have h1 := hi.sizeOf w
 simp [execOp, hx, hy, Instr.indexAt, asIntOf, Instr.sureAddr, run_underlying ht.h, h1, Addr.add_mid, hj]
end
theorem len64_shift {x k : Nat} (h : 2 ^ k <= x) : len64 (x / 2 ^ k) + k = len64 x := by
 have key : ∀ m, len64 (x / 2 ^ k) + k <= m ↔ len64 x <= m := by
  intro m
  rw [len64_le]
  constructor
  ·intro h1
   have h2 : len64 (x / 2 ^ k) <= m - k := by omega
   rw [len64_le, Nat.div_lt_iff_lt_mul (Wj k), <- Xu] at h2
   rwa [show m - k + k = m by omega] at h2
  ·intro h1
   have h2 : k < m := by
    rcases Xt k m with h3 | h3
    ·exact h3
    ·have : 2 ^ m <= 2 ^ k := Vg O2 h3
     omega
   have h3 : len64 (x / 2 ^ k) <= m - k := by
    rw [len64_le, Nat.div_lt_iff_lt_mul (Wj k), <- Xu]
    rwa [show m - k + k = m by omega]
   omega
 exact Nat.le_antisymm ((key _).2 (Ug _)) ((key _).1 (Ug _))
def lenTab : ByteArray := ⟨((List.range 256).map fun x => UInt8.ofNat (len64 x)).toArray⟩
theorem lenTab_get {x : Nat} (h : x < 256) : lenTab.data.toList[x]? = some (UInt8.ofNat (len64 x)) := by
 show ((List.range 256).map fun x => UInt8.ofNat (len64 x))[x]? = _
 rw [Wp, Ze h]; rfl
theorem tzA_odd : ∀ (k x : Nat), x ≠ 0 -> x < 2 ^ k -> x / 2 ^ tzA k x % 2 = 1 ∧ tzA k x < k
 | 0, x, h0, h => by simp at h; omega
 | k + 1, x, h0, h => by
  rw [tzA]
  split
  ·rename_i h1; simpa using h1
  ·rename_i h1
   obtain ⟨h2, h3⟩ := tzA_odd k (x / 2) O0 (by rw [Nat.pow_succ] at h; omega)
   rw [Nat.pow_succ, Wh, <- Nat.div_div_eq_div_mul]
   exact ⟨h2, O_o⟩
theorem qj2 {x : Nat} (h0 : x ≠ 0) (h : x < 18446744073709551616) : x &&& (18446744073709551616 - x) = 2 ^ tz x := by
 obtain ⟨h1, h2⟩ := tzA_odd 64 x h0 h
 have h3 := tzA_dvd 64 x
 have ht : tzA 64 x = tz x := rfl
 rw [ht] at h1 h2 h3
 generalize tz x = t at *
 generalize hm : x / 2 ^ t = m at *
 have hp := Wj t
 have hx1 : (x - 1) / 2 ^ t = m - 1 := by
  have e : x - 1 = (m - 1) * 2 ^ t + (2 ^ t - 1) := by
   rw [Nat.sub_mul, Nat.one_mul, h3]
   have : 2 ^ t <= x := by rw [<- h3]; exact Nat.le_mul_of_pos_left _ O0
   omega
  rw [e, Wt, Nat.add_mul_div_right _ _ hp, Nat.div_eq_of_lt O0, Uz]
 apply Nat.eq_of_testBit_eq
 intro i
 rw [Nat.testBit_and, Nat.testBit_two_pow]
 have hs : (18446744073709551616 - x).testBit i = (decide (i < 64) && !(x - 1).testBit i) := by
  have := Nat.testBit_two_pow_sub_succ (n := 64) (x := x - 1) O0 i
  rw [show x - 1 + 1 = x by omega] at this
  exact this
 rw [hs]
 have hx : x.testBit i = (decide (i ≥ t) && m.testBit (i - t)) := by rw [<- Nat.testBit_two_pow_mul, Wh, h3]
 by_cases hit : i < t
 ·rw [hx]; simp [show ¬ t <= i by omega, show ¬ t = i by omega]
 ·have hj : (x - 1).testBit i = (m - 1).testBit (i - t) := by rw [<- hx1, Nat.testBit_div_two_pow]; congr 1; omega
  rw [hx, hj]
  cases hd : i - t with
  | zero =>
   have : i = t := by omega
   subst this
   simp [Nat.testBit_zero, h1, h2, show ¬ (m - 1) % 2 = 1 by omega]
  | succ j =>
   rw [Nat.testBit_succ, Nat.testBit_succ, show (m - 1) / 2 = m / 2 by omega]
   simp [show ¬ t = i by omega]
   intro _ h5 _
   exact h5
def deB : List Nat := [0, 1, 56, 2, 57, 49, 28, 3, 61, 58, 42, 50, 38, 29, 17, 4, 62, 47, 59, 36, 45, 43, 51, 22, 53, 39, 33, 30, 24, 18, 12, 5, 63, 55, 48, 27, 60, 41, 37, 16, 46, 35, 44, 21, 52, 32, 23, 11, 54, 26, 40, 15, 34, 20, 31, 10, 25, 14, 19, 9, 13, 8, 7, 6]
theorem deB_get : ∀ t, t < 64 -> 2 ^ t * 285870213051353865 % 18446744073709551616 / 2 ^ 58 < 64 ∧ deB[2 ^ t * 285870213051353865 % 18446744073709551616 / 2 ^ 58]? = some t := by decide
end
end Go.Hw
namespace Go.Proofs.YtngdfdangkdgcaaGreatDoor
open Go.Hw _root_.Go.Proofs.Tryz
section
structure Tz (W : World) : Prop where
 size : 0 < W.heap.size
 cell : ∀ (i v : Nat), deB[i]? = some v -> W.cell? ⟨0, i, none⟩ = some (.int .u8 v)
section
variable {w0 w : World} {l : List HProp}
theorem qqy {x : Nat} (hx : x < 18446744073709551616) (h : St w0 l w) : Ret prog 204 [.int .u64 x] w fun v w' => v = .iz (len64 x) ∧ St w0 l w' := by
 have hl64 := len64_64 hx
 refine en func204 results204 ntmps204 ?_
 refine Yr ?_
 refine qt (Γ := Nat × Nat) (fun k => [(0, .int .u64 k.1), (2, .iz k.2)]) (fun k w => k.1 < 4294967296 ∧ len64 k.1 + k.2 = len64 x ∧ St w0 l w) ?_ ?_
 ·refine Y8 ?_; refine Y1m ?_
  refine qv (qi (decide ((x : Int) ≥ 4294967296)) rfl (fun hc => ?_) (fun hc => ?_))
  ·have hge : 4294967296 <= x := by simp at hc; omega
   refine Y8 ?_
   refine r_v (qr (v' := .int .u64 ((x / 2 ^ 32 : Nat) : Int)) (vl rfl rfl O0) (congrArg (Value.int .u64) (j0 x 32 64 O2))) rfl ?_
   refine Y4 ?_; refine j2 ?_; refine Y6 ?_
   exact qv ⟨(x / 2 ^ 32, 32), zz2, O_d, len64_shift hge, h⟩
  ·exact qa ⟨(x, 0), zz2, by simp at hc; dsimp only; omega, rfl, h⟩
 clear h
 rintro ⟨x1, n1⟩ w e ⟨hx1, hl1, h⟩
 dsimp only at hx1 hl1 ⊢
 refine qt (Γ := Nat × Nat) (fun k => [(0, .int .u64 k.1), (2, .iz k.2)]) (fun k w => k.1 < 65536 ∧ len64 k.1 + k.2 = len64 x ∧ St w0 l w) ?_ ?_
 ·refine Y8 ?_; refine Y1m ?_
  refine qv (qi (decide ((x1 : Int) ≥ 65536)) rfl (fun hc => ?_) (fun hc => ?_))
  ·have hge : 65536 <= x1 := by simp at hc; omega
   have hsh := len64_shift (k := 16) (x := x1) hge
   refine Y8 ?_
   refine r_v (qr (v' := .int .u64 ((x1 / 2 ^ 16 : Nat) : Int)) (vl rfl rfl O0) (congrArg (Value.int .u64) (j0 x1 16 64 O2))) rfl ?_
   refine Y4 ?_; refine Y2z ?_
   refine qz (.iz ((n1 + 16 : Nat) : Int)) O7 ?_
   refine Y6 ?_
   exact qv ⟨(x1 / 2 ^ 16, n1 + 16), zz2, O_d, O_d, h⟩
  ·exact qa ⟨(x1, n1), zz2, by simp at hc; dsimp only; omega, hl1, h⟩
 clear h
 rintro ⟨x2, n2⟩ w e ⟨hx2, hl2, h⟩
 dsimp only at hx2 hl2 ⊢
 refine qt (Γ := Nat × Nat) (fun k => [(0, .int .u64 k.1), (2, .iz k.2)]) (fun k w => k.1 < 256 ∧ len64 k.1 + k.2 = len64 x ∧ St w0 l w) ?_ ?_
 ·refine Y8 ?_; refine Y1m ?_
  refine qv (qi (decide ((x2 : Int) ≥ 256)) rfl (fun hc => ?_) (fun hc => ?_))
  ·have hge : 256 <= x2 := by simp at hc; omega
   have hsh := len64_shift (k := 8) (x := x2) hge
   refine Y8 ?_
   refine r_v (qr (v' := .int .u64 ((x2 / 2 ^ 8 : Nat) : Int)) (vl rfl rfl O0) (congrArg (Value.int .u64) (j0 x2 8 64 O2))) rfl ?_
   refine Y4 ?_; refine Y2z ?_
   refine qz (.iz ((n2 + 8 : Nat) : Int)) O7 ?_
   refine Y6 ?_
   exact qv ⟨(x2 / 2 ^ 8, n2 + 8), zz2, O_d, O_d, h⟩
  ·exact qa ⟨(x2, n2), zz2, by simp at hc; dsimp only; omega, hl2, h⟩
 clear h
 rintro ⟨x3, n3⟩ w e ⟨hx3, hl3, h⟩
 dsimp only at hx3 hl3 ⊢
 have hl8 : len64 x3 <= 8 := len64_le.2 hx3
 refine Y35 ?_; refine Yy ?_
 refine qz (.int .u8 (x3 : Int)) (by rw [uw, Ul hx3]) ?_
 refine r_v (q_sidx (s := lenTab) O1 rfl (lenTab_get hx3)) rfl ?_
 refine qz (.int .u8 (len64 x3)) (by rw [UInt8.toNat_ofNat', Ul O0]) ?_
 refine Yy ?_
 refine qz (.iz (len64 x3)) O11 ?_
 refine Y1f ?_
 refine qz (.iz (len64 x)) O9 ?_
 refine Y4 ?_
 exact qk (bq1 ⟨rfl, h⟩)
theorem zo {x : Nat} (hx : x < 18446744073709551616) (h : St w0 l w) : Ret prog 209 [.int .u64 x] w fun v w' => v = .iz (64 - len64 x : Nat) ∧ St w0 l w' := by
 have hl64 := len64_64 hx
 refine en func209 results209 ntmps209 ?_
 refine Yr ?_; refine Y8 ?_
 refine r_c rfl (qg rfl (qqy hx h) ?_)
 rintro _ w ⟨rfl, h⟩
 refine Y1l ?_
 refine qz (.iz (64 - len64 x : Nat)) O9 ?_
 refine Y4 ?_
 exact qk (bq1 ⟨rfl, h⟩)
instance undDeB : Und prog 309 (.array 64 5) := ⟨underlying309⟩
theorem zg (hT : Tz w0) {x : Nat} (hx : x < 18446744073709551616) (h : St w0 l w) : Ret prog 210 [.int .u64 x] w fun v w' => v = .iz (tz x) ∧ St w0 l w' := by
 refine en func210 results210 ntmps210 ?_
 refine Yr ?_; refine Y3y ?_
 by_cases h0 : x = 0
 ·refine qz (.bool true) (by subst h0; rfl) ?_
  refine Yd ?_; refine Yr ?_
  exact qk (bq1 ⟨by subst h0; rfl, h⟩)
 refine qz (.bool false) O5 ?_
 refine Yb ?_
 have ht : tz x < 64 := (tzA_odd 64 x h0 hx).2
 obtain ⟨hd1, hd2⟩ := deB_get (tz x) ht
 have hc := hT.cell _ _ hd2
 refine Y35 ?_; refine r_v (sx rfl) rfl ?_
 refine qz (.int .u64 ((18446744073709551616 - x : Nat) : Int)) (by rw [kb]; unfold us; congr 1; omega) ?_
 refine r_v (zb rfl rfl) rfl ?_
 refine qz (.int .u64 ((2 ^ tz x : Nat) : Int)) (by rw [(vr hx O0).1, qj2 h0 hx]) ?_
 refine Y4n ?_
 refine qz (.int .u64 ((2 ^ tz x * 285870213051353865 % 18446744073709551616 : Nat) : Int)) (by rw [<- zd]; rfl) ?_
 refine r_v (qr (v' := .int .u64 ((2 ^ tz x * 285870213051353865 % 18446744073709551616 / 2 ^ 58 : Nat) : Int)) (vl rfl rfl O0) (congrArg (Value.int .u64) (j0 _ 58 64 O2))) rfl ?_
 generalize 2 ^ tz x * 285870213051353865 % 18446744073709551616 / 2 ^ 58 = j at hd1 hd2 hc ⊢
 refine r_v (k9 (j := j) (o' := j) rfl rfl rfl hd1 O8) rfl ?_
 refine r_v (jj (v := .int .u8 (tz x)) rfl ((h.cell_old hT.size).trans hc)) rfl ?_
 refine Yy ?_
 refine qz (.iz (tz x)) O11 ?_
 refine Y4 ?_
 exact qk (bq1 ⟨rfl, h⟩)
end
end
end Go.Proofs.YtngdfdangkdgcaaGreatDoor
namespace Go.Hw
section
end
end Go.Hw
namespace Go.Proofs.YtngdfdangkdgcaaGreatDoor
open Go.Hw _root_.Go.Proofs.Tryz
section
section
variable {w0 w : World} {l : List HProp}
end
end
section
section
variable {w0 w : World} {l : List HProp}
abbrev frmC (f : Frm) : List Value := [.int .u64 f.ahead, .iz f.long, .iz f.bits]
theorem dv (d : Int) (h : St w0 l w) : Ret prog 184 [.iz d] w fun v w' => v = .agg (frmC (which d)).toArray ∧ St w0 l w' := by
 refine en func184 results184 ntmps184 ?_
 refine Y1 ?_
 refine r_c rfl (qp h fun b w h => ?_)
 refine Y2 ?_
 refine qt (Γ := Unit) (fun _ => [(2, .pz b)]) (fun _ w => which d = ⟨15, 4, 64⟩ ∧ St w0 (pt b (.cells (frmC ⟨0, 0, 0⟩).toArray 276 (0, 0)) :: l) w) ?_ ?_
 ·refine Yh ?_; refine Y8 ?_; refine Yp ?_; refine Ya ?_
  refine qi (d == 0) rfl (fun hc => ?_) (fun h0 => ?_)
  ·
   have hw : which d = ⟨0, 1, 0⟩ := by unfold which; rw [if_pos (by simpa using hc)]
   refine Y1 ?_
   refine r_v (qc (r := frmC ⟨0, 1, 0⟩) rfl) rfl ?_
   refine r_c rfl (qy (vs := frmC ⟨0, 1, 0⟩) 0 h rfl rfl rfl rfl rfl rfl rfl fun w h => ?_)
   refine Y2 ?_
   rw [hw]
   exact qk (bqS1 (l := frmC ⟨0, 1, 0⟩) rfl rfl (qw (h.b 0 rfl) rfl) ⟨rfl, h.drop⟩)
  have h0 : ¬ d = 0 := by simpa using h0
  refine qt (Γ := Bool) (fun k => [(0, .iz d), (2, .pz b), (7, .bool k)]) (fun k w => (k = true ↔ -64 <= d ∧ d <= 63) ∧ St w0 (pt b (.cells (frmC ⟨0, 0, 0⟩).toArray 276 (0, 0)) :: l) w) ?_ ?_
  ·refine Y2a ?_; refine Y1m ?_
   by_cases h1 : -64 <= d
   ·refine qz (.bool true) (congrArg Value.bool (decide_eq_true h1)) ?_
    refine Y23 ?_; refine Y3v ?_; refine Y2m ?_
    exact qv ⟨decide (d <= 63), zz3, by rw [decide_eq_true_eq]; exact ⟨fun h => ⟨h1, h⟩, fun h => h.2⟩, h⟩
   ·refine qz (.bool false) (congrArg Value.bool (decide_eq_false h1)) ?_
    refine Y1v ?_; refine Y2h ?_
    exact qv ⟨false, zz3, ⟨(fun h => by cases h), fun h => absurd h.1 h1⟩, h⟩
  clear h
  rintro k w e ⟨hk1, h⟩
  refine qi k rfl (fun hc => ?_) (fun hc1 => ?_)
  ·
   have hw : which d = ⟨2, 2, 7⟩ := by unfold which; rw [if_neg h0, if_pos (hk1.1 hc)]
   refine Y1 ?_
   refine r_v (qc (r := frmC ⟨2, 2, 7⟩) rfl) rfl ?_
   refine r_c rfl (qy (vs := frmC ⟨2, 2, 7⟩) 0 h rfl rfl rfl rfl rfl rfl rfl fun w h => ?_)
   refine Y2 ?_
   rw [hw]
   exact qk (bqS1 (l := frmC ⟨2, 2, 7⟩) rfl rfl (qw (h.b 0 rfl) rfl) ⟨rfl, h.drop⟩)
  refine qt (Γ := Bool) (fun k => [(0, .iz d), (2, .pz b), (15, .bool k)]) (fun k w => (k = true ↔ -256 <= d ∧ d <= 255) ∧ St w0 (pt b (.cells (frmC ⟨0, 0, 0⟩).toArray 276 (0, 0)) :: l) w) ?_ ?_
  ·refine Y2a ?_; refine Y1m ?_
   by_cases h1 : -256 <= d
   ·refine qz (.bool true) (congrArg Value.bool (decide_eq_true h1)) ?_
    refine Y23 ?_; refine Y3v ?_; refine Y2m ?_
    exact qv ⟨decide (d <= 255), zz3, by rw [decide_eq_true_eq]; exact ⟨fun h => ⟨h1, h⟩, fun h => h.2⟩, h⟩
   ·refine qz (.bool false) (congrArg Value.bool (decide_eq_false h1)) ?_
    refine Y1v ?_; refine Y2h ?_
    exact qv ⟨false, zz3, ⟨(fun h => by cases h), fun h => absurd h.1 h1⟩, h⟩
  clear h
  rintro k2 w e ⟨hk2, h⟩
  have n1 : ¬ (-64 <= d ∧ d <= 63) := fun hh => by rw [hk1.2 hh] at hc1; cases hc1
  refine qi k2 rfl (fun hc => ?_) (fun hc2 => ?_)
  ·
   have hw : which d = ⟨6, 3, 9⟩ := by unfold which; rw [if_neg h0, if_neg n1, if_pos (hk2.1 hc)]
   refine Y1 ?_
   refine r_v (qc (r := frmC ⟨6, 3, 9⟩) rfl) rfl ?_
   refine r_c rfl (qy (vs := frmC ⟨6, 3, 9⟩) 0 h rfl rfl rfl rfl rfl rfl rfl fun w h => ?_)
   refine Y2 ?_
   rw [hw]
   exact qk (bqS1 (l := frmC ⟨6, 3, 9⟩) rfl rfl (qw (h.b 0 rfl) rfl) ⟨rfl, h.drop⟩)
  refine qt (Γ := Bool) (fun k => [(0, .iz d), (2, .pz b), (23, .bool k)]) (fun k w => (k = true ↔ -2048 <= d ∧ d <= 2047) ∧ St w0 (pt b (.cells (frmC ⟨0, 0, 0⟩).toArray 276 (0, 0)) :: l) w) ?_ ?_
  ·refine Y2a ?_; refine Y1m ?_
   by_cases h1 : -2048 <= d
   ·refine qz (.bool true) (congrArg Value.bool (decide_eq_true h1)) ?_
    refine Y23 ?_; refine Y3v ?_; refine Y2m ?_
    exact qv ⟨decide (d <= 2047), zz3, by rw [decide_eq_true_eq]; exact ⟨fun h => ⟨h1, h⟩, fun h => h.2⟩, h⟩
   ·refine qz (.bool false) (congrArg Value.bool (decide_eq_false h1)) ?_
    refine Y1v ?_; refine Y2h ?_
    exact qv ⟨false, zz3, ⟨(fun h => by cases h), fun h => absurd h.1 h1⟩, h⟩
  clear h
  rintro k3 w e ⟨hk3, h⟩
  have n2 : ¬ (-256 <= d ∧ d <= 255) := fun hh => by rw [hk2.2 hh] at hc2; cases hc2
  refine qi k3 rfl (fun hc => ?_) (fun hc3 => ?_)
  ·
   have hw : which d = ⟨14, 4, 12⟩ := by unfold which; rw [if_neg h0, if_neg n1, if_neg n2, if_pos (hk3.1 hc)]
   refine Y1 ?_
   refine r_v (qc (r := frmC ⟨14, 4, 12⟩) rfl) rfl ?_
   refine r_c rfl (qy (vs := frmC ⟨14, 4, 12⟩) 0 h rfl rfl rfl rfl rfl rfl rfl fun w h => ?_)
   refine Y2 ?_
   rw [hw]
   exact qk (bqS1 (l := frmC ⟨14, 4, 12⟩) rfl rfl (qw (h.b 0 rfl) rfl) ⟨rfl, h.drop⟩)
  have n3 : ¬ (-2048 <= d ∧ d <= 2047) := fun hh => by rw [hk3.2 hh] at hc3; cases hc3
  exact qa ⟨(), ⟨rfl, trivial⟩, by unfold which; rw [if_neg h0, if_neg n1, if_neg n2, if_neg n3], h⟩
 clear h
 rintro ⟨⟩ w e ⟨hw, h⟩
 refine Y1 ?_
 refine r_v (qc (r := frmC ⟨15, 4, 64⟩) rfl) rfl ?_
 refine r_c rfl (qy (vs := frmC ⟨15, 4, 64⟩) 0 h rfl rfl rfl rfl rfl rfl rfl fun w h => ?_)
 refine Y2 ?_
 rw [hw]
 exact qk (bqS1 (l := frmC ⟨15, 4, 64⟩) rfl rfl (qw (h.b 0 rfl) rfl) ⟨rfl, h.drop⟩)
theorem pb (d : Int) : (which d).ahead <= 15 ∧ (which d).long <= 4 ∧ (which d).bits <= 64 := by
 rcases xe d with ⟨h, _⟩ | ⟨h, _⟩ | ⟨h, _⟩ | ⟨h, _⟩ | h <;> rw [h] <;> decide
theorem timesRest_len : ∀ (ts : List Int) (was step : Nat), (timesRest was step ts).length <= 68 * ts.length
 | [], _, _ => Ug _
 | t :: ts, was, step => by
  have h1 := timesRest_len ts (us t) (diff (us t) was)
  obtain ⟨_, h2, h3⟩ := pb (sg (diff (diff (us t) was) step))
  rw [timesRest, Ua, Ua, bitsOf_len, bitsOf_len, Ui]
  omega
theorem timesBits_len (ts : List Int) : (timesBits ts).length <= 68 * ts.length := by
 cases ts with
 | nil => exact Ug _
 | cons t ts =>
  have := timesRest_len ts (us t) 0
  rw [timesBits, Ua, bitsOf_len, Ui]
  omega
theorem xu {a b : Nat} (hb : b < 18446744073709551616) : IntKind.u64.wrap ((a : Int) - (b : Int)) = ((diff a b : Nat) : Int) := by
 rw [kb]; unfold us diff; omega
theorem sc (a b : Nat) : IntKind.u64.wrap ((a : Int) + (b : Int)) = ((summ a b : Nat) : Int) := by
 rw [kb]; unfold us summ; omega
theorem pm {p : Nat} {bs : List Bool} {sl : Option Addr} {c : Nat} {ts : List Int} (hi : ∀ t ∈ ts, I64 t) (hn : ts.length <= 65535) (hb : bs.length <= 1073741824) (h : St w0 (IsBW p bs :: l) w) (hr : ∀ bs' w', St w0 (IsBW p bs' :: l) w' -> Rd w' 1 sl ts.length (i64V ts)) :
  Ret prog 178 [.pz p, .slice sl ts.length c] w fun v w' => v = .tuple #[] ∧ St w0 (IsBW p (bs ++ timesBits ts) :: l) w' := by
 refine en func178 results178 ntmps178 ?_
 have htl := timesBits_len ts
 refine Y13 ?_; refine Y4 ?_; refine Y3l ?_
 refine jx (Γ := Nat × Nat × Nat × List Bool) (fun k => [(0, .pz p), (4, .int .u64 k.2.1), (5, .int .u64 k.2.2.1), (11, .slice sl ts.length c), (12, .iz ts.length), (13, .iz k.1)])
  (fun k w => k.1 <= ts.length ∧ k.2.1 < 18446744073709551616 ∧ k.2.2.1 < 18446744073709551616 ∧ (k.1 = 0 -> k.2.2.1 = 0 ∧ k.2.2.2 = bs) ∧ (0 < k.1 -> k.2.2.2 ++ timesRest k.2.1 k.2.2.1 (ts.drop k.1) = bs ++ timesBits ts) ∧ k.2.2.2.length <= bs.length + (timesBits ts).length ∧ St w0 (IsBW p k.2.2.2 :: l) w)
  (fun k => ts.length - k.1) (0, 0, 0, bs) zz6 ⟨Ud _, (by decide : (0 : Nat) < 18446744073709551616), (by decide : (0 : Nat) < 18446744073709551616), fun _ => ⟨rfl, rfl⟩, (fun h => absurd h (by decide : ¬ (0 : Nat) < 0)), Nat.le_add_right _ _, h⟩ ?_
 clear h
 rintro ⟨i, was, step, out⟩ w e ⟨hin, hwas, hstep, h00, hnz, hol, h⟩
 dsimp only at hin hwas hstep h00 hnz hol h ⊢
 refine Y14 ?_
 refine qf (qi (decide ((i : Int) < (ts.length : Int))) rfl (fun hc => ?_) (fun hc => ?_))
 ·
  have hlt : i < ts.length := by simp at hc; omega
  have hg := Uc hlt
  have hdr := Vz hlt
  generalize ts[i] = t at hg hdr
  have ht := hi t (Uj hg)
  have hut := kl t
  obtain ⟨b, o, hsl⟩ := (hr _ w h).some O0
  refine Yl ?_
  refine qt (Γ := Nat × List Bool) (fun k => [(0, .pz p), (4, .int .u64 (us t)), (5, .int .u64 k.1), (11, .slice sl ts.length c), (12, .iz ts.length), (13, .iz i)])
   (fun k w => k.1 < 18446744073709551616 ∧ k.2 ++ timesRest (us t) k.1 (ts.drop (i + 1)) = bs ++ timesBits ts ∧ St w0 (IsBW p k.2 :: l) w) ?_ ?_
  ·refine Yh ?_; refine Y8 ?_
   refine r_v (jb (b := b) (o := o) (m := ts.length) (c := c) (o' := o + i) O16 rfl rfl hlt O8) rfl ?_
   refine r_v (jj (v := .iz t) rfl ((hsl ▸ hr _ w h).cell (i64V_get hg))) rfl ?_
   refine Y3q ?_; refine Y8 ?_; refine Yy ?_
   refine qz (.int .u64 (us t : Nat)) (by rw [kb]) ?_
   refine Y4 ?_; refine Y3y ?_
   by_cases hi0 : i = 0
   ·refine qz (.bool true) (by subst hi0; rfl) ?_
    refine Yd ?_
    obtain ⟨hs0, ho0⟩ := h00 hi0
    refine Y40 ?_
    refine r_c rfl (qg rfl (gd (us t) 64 hut O0 h) ?_)
    rintro _ w ⟨rfl, h⟩
    refine Y2 ?_; refine Y3i ?_
    refine ju ⟨(step, out ++ bitsOf (us t) (heldN 64)), zz6, hstep, ?_, h⟩
    rw [hi0, Wz] at hdr
    rw [hdr, ho0, hs0, hi0, timesBits, Um]
    rfl
   refine qz (.bool false) O6 ?_
   refine Yb ?_
   have he := hnz O0
   rw [hdr, timesRest] at he
   refine Y35 ?_; refine Y1l ?_
   refine qz (.int .u64 (diff (us t) was : Nat)) (by rw [xu hwas]) ?_
   refine Y0 ?_; refine Y1l ?_
   refine qz (.int .u64 (diff (diff (us t) was) step : Nat)) (by rw [xu hstep]) ?_
   have hd : diff (diff (us t) was) step < 18446744073709551616 := Vr _ O2
   have hd1 : diff (us t) was < 18446744073709551616 := Vr _ O2
   generalize hde : diff (diff (us t) was) step = d at *
   obtain ⟨hf1, hf2, hf3⟩ := pb (sg d)
   have hlen := congrArg List.length he
   simp only [Ua, bitsOf_len] at hlen
   refine Y3t ?_; refine Yy ?_
   refine qz (.iz (sg d)) (by rw [ym hd]) ?_
   refine r_c rfl (qg rfl (dv (sg d) h) ?_)
   rintro _ w ⟨rfl, h⟩
   refine r_c rfl (qp h fun b2 w h => ?_)
   refine r_c rfl (qy (vs := frmC (which (sg d))) 0 h rfl rfl rfl rfl rfl rfl rfl fun w h => ?_)
   replace h : St w0 (pt b2 (.cells (frmC (which (sg d))).toArray 276 (0, 0)) :: IsBW p out :: l) w := h
   refine Y1a ?_; refine Yk ?_; refine r_v (qq rfl (h.b 0) rfl) rfl ?_; refine Yk ?_; refine r_v (qq rfl (h.b 0) rfl) rfl ?_
   refine r_c rfl (qg rfl (gd (which (sg d)).ahead (which (sg d)).long O0 O0 (h.f 1)) ?_)
   rintro _ w ⟨rfl, h⟩
   refine Y1a ?_; refine Y0 ?_; refine Yk ?_; refine r_v (qq rfl (h.b 1) rfl) rfl ?_
   refine r_c rfl (qg rfl (gd d (which (sg d)).bits hd (by rw [heldN_nat O0, Ua, bitsOf_len]; omega) h) ?_)
   rintro _ w ⟨rfl, h⟩
   refine Y2 ?_; refine Y2a ?_; refine Y30 ?_; refine Y1l ?_
   refine qz (.int .u64 (diff (us t) was : Nat)) (by rw [xu hwas]) ?_
   refine Y6 ?_; refine Y6 ?_
   refine qv ⟨(diff (us t) was, _), zz6, hd1, ?_, (h.f 1).drop⟩
   rw [heldN_nat O0, heldN_nat O0, Um, Um, <- he]
  clear h
  rintro ⟨step', out'⟩ w e ⟨hs', he', h⟩
  dsimp only at hs' he' h ⊢
  refine Yt ?_
  refine qz (.iz ((i + 1 : Nat) : Int)) O7 ?_
  refine Y0 ?_
  refine qv ⟨(i + 1, us t, step', out'), zz6, ⟨hlt, hut, hs', (fun h => by cases h), fun _ => he', ?_, h⟩, O_d⟩
  have := congrArg List.length he'
  simp only [Ua] at this
  dsimp only
  omega
 have hin' : i = ts.length := by simp at hc; omega
 refine ju ?_
 have : out = bs ++ timesBits ts := by
  rcases Wq i with h0 | h0
  ·rw [(h00 h0).2]
   have : ts = [] := Un O0
   rw [this]; simp [timesBits]
  ·have := hnz h0
   rw [hin', Kb, timesRest, Uw] at this
   exact this
 rw [<- this]
 exact (show (packv [] : Value) = .tuple #[] ∧ _ from ⟨rfl, h⟩)
end
end
section
abbrev winC (w : Win) : List Value := [.bool w.is, .iz w.lead, .iz w.trail]
def WinOk (w : Win) : Prop := w.lead + w.trail <= 63
theorem winOk_of {x : Nat} (h0 : x ≠ 0) (h : x < 18446744073709551616) : WinOk (winOf x) := by
 obtain ⟨h1, h2, _, _⟩ := winOf_long h0 h
 unfold WinOk; omega
theorem win_long_le (w : Win) : w.long <= 64 := by unfold Win.long; omega
section
variable {w0 w : World} {l : List HProp}
abbrev WinPt (b : Nat) (win : Win) : HProp := pt b (.cells (winC win).toArray 279 (0, 0))
theorem wx (hT : Tz w0) {x : Nat} (hx : x < 18446744073709551616) (h : St w0 l w) : Ret prog 200 [.int .u64 x] w fun v w' => v = .agg (winC (winOf x)).toArray ∧ St w0 l w' := by
 refine en func200 results200 ntmps200 ?_
 refine Y1 ?_
 refine r_c rfl (qp h fun b w h => ?_)
 refine Y2 ?_; refine Y8 ?_
 refine r_c rfl (qg rfl (zo hx h) ?_)
 rintro _ w ⟨rfl, h⟩
 refine Y4j ?_
 refine qz (.iz (winOf x).lead) (by unfold winOf; congr 1; dsimp only; omega) ?_
 refine Y0 ?_
 refine r_c rfl (qg rfl (zg hT hx h) ?_)
 rintro _ w ⟨rfl, h⟩
 refine r_v (qc (r := winC (winOf x)) rfl) rfl ?_
 refine r_c rfl (qy (vs := winC (winOf x)) 0 h rfl rfl rfl rfl rfl rfl rfl fun w h => ?_)
 refine Y2 ?_
 exact qk (bqS1 (l := winC (winOf x)) rfl rfl (qw (h.b 0 rfl) rfl) ⟨rfl, h.drop⟩)
theorem xk {win : Win} (ho : WinOk win) (h : St w0 l w) : Ret prog 199 [.agg (winC win).toArray] w fun v w' => v = .iz win.long ∧ St w0 l w' := by
 unfold WinOk at ho
 refine en func199 results199 ntmps199 ?_
 refine Y1 ?_
 refine r_c rfl (jv h (show _ = Value.agg (winC win).toArray from rfl) fun b w h => ?_)
 refine Y4 ?_; refine Y26 ?_; refine r_v (qq rfl (h.b 0) rfl) rfl ?_; refine Y1l ?_
 refine qz (.iz ((64 - win.lead : Nat) : Int)) O9 ?_
 refine Yk ?_; refine r_v (qq rfl (h.b 0) rfl) rfl ?_; refine Y1l ?_
 refine qz (.iz win.long) (by rw [wrap64 O0 O0]; unfold Win.long; congr 1; omega) ?_
 refine Y4 ?_
 exact qk (bq1 ⟨rfl, h.drop⟩)
theorem sf (hT : Tz w0) {win : Win} {x : Nat} (hx : x < 18446744073709551616) (h : St w0 l w) : Ret prog 201 [.agg (winC win).toArray, .int .u64 x] w fun v w' => v = .bool (win.fits x) ∧ St w0 l w' := by
 refine en func201 results201 ntmps201 ?_
 refine Y1 ?_
 refine r_c rfl (jv h (show _ = Value.agg (winC win).toArray from rfl) fun b w h => ?_)
 replace h : St w0 (WinPt b win :: l) w := h
 refine Ya ?_; refine Y8 ?_
 refine r_c rfl (qg rfl (wx hT hx h) ?_)
 rintro _ w ⟨rfl, h⟩
 refine r_c rfl (qp h fun b5 w h => ?_)
 refine r_c rfl (qy (vs := winC (winOf x)) 0 h rfl rfl rfl rfl rfl rfl rfl fun w h => ?_)
 replace h : St w0 (WinPt b5 (winOf x) :: WinPt b win :: l) w := h
 refine Y2 ?_
 have hfit : win.fits x = (win.is && decide (win.lead <= (winOf x).lead) && decide (win.trail <= (winOf x).trail)) := rfl
 refine Y26 ?_
 refine r_v (qq (v := .bool win.is) rfl (h.b 1 rfl) rfl) rfl ?_
 cases hi : win.is with
 | false =>
  refine Y19 ?_; refine Y2d ?_; refine Y9 ?_; refine Y19 ?_; refine Y2d ?_; refine Y9 ?_; refine Ya ?_
  refine qk (bq1 ⟨?_, h.drop.drop⟩)
  rw [hfit, hi]; rfl
 | true =>
  refine Y1e ?_
  refine r_v (qq (v := .iz (winOf x).lead) rfl (h.b 0 rfl) rfl) rfl ?_
  refine Y4m ?_
  refine r_v (qq (v := .iz win.lead) rfl (h.b 1 rfl) rfl) rfl ?_
  refine Yc ?_; refine Y1m ?_
  by_cases h1 : win.lead <= (winOf x).lead
  ·refine qz (.bool true) O6 ?_
   refine Yf ?_; refine Y1e ?_
   refine r_v (qq (v := .iz (winOf x).trail) rfl (h.b 0 rfl) rfl) rfl ?_
   refine Y4m ?_
   refine r_v (qq (v := .iz win.trail) rfl (h.b 1 rfl) rfl) rfl ?_
   refine Yc ?_; refine Y1m ?_; refine Yf ?_; refine Ya ?_
   refine qk (bq1 ⟨?_, h.drop.drop⟩)
   rw [hfit, hi, decide_eq_true h1]
   show Value.bool (decide _) = _
   congr 1
   simp only [Bool.true_and, decide_eq_decide]
   omega
  ·refine qz (.bool false) O6 ?_
   refine Yf ?_; refine Y19 ?_; refine Y2d ?_; refine Y9 ?_; refine Ya ?_
   refine qk (bq1 ⟨?_, h.drop.drop⟩)
   rw [hfit, hi, decide_eq_false h1]; rfl
theorem xorRest_len : ∀ (vs : List Nat) (win : Win) (was : Nat), (xorRest win was vs).length <= 77 * vs.length
 | [], _, _ => Ug _
 | v :: vs, win, was => by
  have h1 := xorRest_len vs win v
  have h2 := xorRest_len vs (winOf (v ^^^ was)) v
  have h3 := win_long_le win
  have h4 := win_long_le (winOf (v ^^^ was))
  rw [xorRest, Ui]
  split
  ·rw [Ua, bitsOf_len]; omega
  ·split
   ·rw [Ua, Ua, bitsOf_len, bitsOf_len]; omega
   ·rw [Ua, Ua, Ua, Ua, bitsOf_len, bitsOf_len, bitsOf_len, bitsOf_len]; omega
theorem xorBits_len (vs : List Nat) : (xorBits vs).length <= 77 * vs.length := by
 cases vs with
 | nil => exact Ug _
 | cons v vs =>
  have := xorRest_len vs ⟨false, 0, 0⟩ v
  rw [xorBits, Ua, bitsOf_len, Ui]; omega
theorem pp (hT : Tz w0) {p : Nat} {bs : List Bool} {sl : Option Addr} {c : Nat} {vs : List Nat} (hv : ∀ v ∈ vs, v < 18446744073709551616) (hn : vs.length <= 65535) (hb : bs.length <= 1073741824) (h : St w0 (IsBW p bs :: l) w) (hr : Reads w0 l 1 sl vs.length (u64V vs)) :
  Ret prog 193 [.pz p, .slice sl vs.length c] w fun v w' => v = .tuple #[] ∧ St w0 (IsBW p (bs ++ xorBits vs) :: l) w' := by
 have htl := xorBits_len vs
 have hrd : ∀ {Q R : HProp} {w' : World}, St w0 (Q :: R :: l) w' -> Rd w' 1 sl vs.length (u64V vs) := fun {Q R w'} h' => hr [Q, R] w' h'
 refine en func193 results193 ntmps193 ?_
 refine Y1 ?_
 refine r_c rfl (qp h fun b w h => ?_)
 replace h : St w0 (WinPt b ⟨false, 0, 0⟩ :: IsBW p bs :: l) w := h
 refine Y2 ?_; refine Y3l ?_
 refine jx (Γ := Nat × Win × List Bool) (fun k => [(0, .pz p), (1, .slice sl vs.length c), (4, .pz b), (8, .slice sl vs.length c), (9, .iz vs.length), (10, .iz k.1)])
  (fun k w => k.1 <= vs.length ∧ WinOk k.2.1 ∧ (k.1 = 0 -> k.2.1 = ⟨false, 0, 0⟩ ∧ k.2.2 = bs) ∧ (0 < k.1 -> k.2.2 ++ xorRest k.2.1 (vs.getD (k.1 - 1) 0) (vs.drop k.1) = bs ++ xorBits vs) ∧ St w0 (WinPt b k.2.1 :: IsBW p k.2.2 :: l) w)
  (fun k => vs.length - k.1) (0, ⟨false, 0, 0⟩, bs) zz6 ⟨Ud _, (show (0 : Nat) + 0 <= 63 by decide), fun _ => ⟨rfl, rfl⟩, (fun h => absurd h (by decide : ¬ (0 : Nat) < 0)), h⟩ ?_
 clear h
 rintro ⟨i, win, out⟩ w e ⟨hin, hwo, h00, hnz, h⟩
 dsimp only at hin hwo h00 hnz h ⊢
 refine Y14 ?_
 refine qf (qi (decide ((i : Int) < (vs.length : Int))) rfl (fun hc => ?_) (fun hc => ?_))
 ·
  have hlt : i < vs.length := by simp at hc; omega
  have hg := Uc hlt
  have hdr := Vz hlt
  generalize vs[i] = now at hg hdr
  have hnow := hv now (Uj hg)
  obtain ⟨bs_, o, hsl⟩ := (hrd h).some O0
  have hol : out.length <= bs.length + (xorBits vs).length := by
   rcases Wq i with h0 | h0
   ·rw [(h00 h0).2]; omega
   ·have := congrArg List.length (hnz h0)
    simp only [Ua] at this
    omega
  refine Yl ?_
  refine qt (Γ := Win × List Bool) (fun _ => [(0, .pz p), (1, .slice sl vs.length c), (4, .pz b), (8, .slice sl vs.length c), (9, .iz vs.length), (10, .iz i)])
   (fun k w => WinOk k.1 ∧ k.2 ++ xorRest k.1 now (vs.drop (i + 1)) = bs ++ xorBits vs ∧ St w0 (WinPt b k.1 :: IsBW p k.2 :: l) w) ?_ ?_
  ·refine Yh ?_; refine Y8 ?_
   refine r_v (jb (b := bs_) (o := o) (m := vs.length) (c := c) (o' := o + i) O16 rfl rfl hlt O8) rfl ?_
   refine r_v (jj (v := .int .u64 now) rfl ((hsl ▸ hrd h).cell (u64V_get hg))) rfl ?_
   refine Y3q ?_; refine Y3y ?_
   by_cases hi0 : i = 0
   ·refine qz (.bool true) (by subst hi0; rfl) ?_
    refine Yd ?_
    obtain ⟨hw0, ho0⟩ := h00 hi0
    refine Y40 ?_
    refine r_c rfl (qg rfl (gd now 64 hnow O0 (h.f 1)) ?_)
    rintro _ w ⟨rfl, h⟩
    refine Y2 ?_
    refine ju ⟨(win, out ++ bitsOf now (heldN 64)), zz6, hwo, ?_, h.f 1⟩
    rw [hi0, Wz] at hdr
    rw [ho0, hw0, hi0, Um]
    conv => rhs; rw [hdr, xorBits]
    rfl
   refine qz (.bool false) O6 ?_
   refine Yb ?_
   have he := hnz O0
   have hg1 : vs[i - 1]? = some (vs.getD (i - 1) 0) := by
    rw [List.getD, Uc (show i - 1 < vs.length by omega)]; rfl
   generalize vs.getD (i - 1) 0 = was at hg1 he
   have hwas := hv was (Uj hg1)
   have hx : now ^^^ was < 18446744073709551616 := Wr (n := 64) hnow hwas
   rw [hdr, xorRest] at he
   refine Y8 ?_; refine Yj ?_; refine Y0 ?_; refine Y1l ?_
   refine qz (.iz ((i - 1 : Nat) : Int)) O9 ?_
   refine r_v (jb (b := bs_) (o := o) (m := vs.length) (c := c) (o' := o + (i - 1)) O16 rfl rfl O0 O8) rfl ?_
   refine r_v (jj (v := .int .u64 was) rfl ((hsl ▸ hrd h).cell (u64V_get hg1))) rfl ?_
   refine Y4k ?_
   refine qz (.int .u64 ((now ^^^ was : Nat) : Int)) (by rw [(vr hnow hwas).2.2]) ?_
   generalize now ^^^ was = x at hx he
   refine Y4 ?_
   refine qt (Γ := Win × List Bool) (fun _ => [(0, .pz p), (1, .slice sl vs.length c), (4, .pz b), (7, .int .u64 x), (8, .slice sl vs.length c), (9, .iz vs.length), (10, .iz i)])
    (fun k w => WinOk k.1 ∧ k.2 ++ (bitsOf (x / 2 ^ k.1.trail) k.1.long ++ xorRest k.1 now (vs.drop (i + 1))) = bs ++ xorBits vs ∧ St w0 (WinPt b k.1 :: IsBW p k.2 :: l) w) ?_ ?_
   ·refine Yh ?_; refine Y8 ?_; refine Yp ?_; refine Ya ?_
    refine qi ((x : Int) == 0) rfl (fun hc => ?_) (fun hc => ?_)
    ·
     have hx0 : x = 0 := by rw [beq_iff_eq] at hc; omega
     rw [if_pos hx0] at he
     refine Ym ?_
     refine r_c rfl (qg rfl (gd 0 1 O2 O0 (h.f 1)) ?_)
     rintro _ w ⟨rfl, h⟩
     refine Y2 ?_
     refine ju ⟨(win, out ++ bitsOf 0 (heldN 1)), zz6, hwo, ?_, h.f 1⟩
     rw [<- he, Um]; rfl
    have hx0 : x ≠ 0 := by rw [beq_eq_false_iff_ne] at hc; omega
    rw [if_neg hx0] at he
    refine Y1 ?_
    refine r_v (qx (l := winC win) rfl rfl (qw (h.b 0 rfl) rfl)) rfl ?_
    refine Y0 ?_
    refine r_c rfl (qg rfl (sf hT hx h) ?_)
    rintro _ w ⟨rfl, h⟩
    refine Ya ?_
    refine qi (win.fits x) rfl (fun hc => ?_) (fun hc => ?_)
    ·
     rw [if_pos hc] at he
     refine Y2u ?_
     refine r_c rfl (qg rfl (gd 2 2 O2 O0 (h.f 1)) ?_)
     rintro _ w ⟨rfl, h⟩
     refine qv ⟨(win, out ++ bitsOf 2 (heldN 2)), zz7, hwo, ?_, h.f 1⟩
     rw [<- he, Um]; rfl
    ·
     rw [if_neg (by rw [hc]; simp)] at he
     obtain ⟨l1, l2, l3, l4⟩ := winOf_long hx0 hx
     have hlen := congrArg List.length he
     simp only [Ua, bitsOf_len] at hlen
     refine Y8 ?_
     refine r_c rfl (qg rfl (wx hT hx h) ?_)
     rintro _ w ⟨rfl, h⟩
     refine r_c rfl (qy (vs := winC (winOf x)) 0 h rfl rfl rfl rfl rfl rfl rfl fun w h => ?_)
     replace h : St w0 (WinPt b (winOf x) :: IsBW p out :: l) w := h
     refine Y1a ?_
     refine r_c rfl (qg rfl (gd 3 2 O2 O0 (h.f 1)) ?_)
     rintro _ w ⟨rfl, h⟩
     refine Y1a ?_; refine Yk ?_
     refine r_v (qq (v := .iz (winOf x).lead) rfl (h.b 1 rfl) rfl) rfl ?_
     refine Yy ?_
     refine qz (.int .u64 ((winOf x).lead : Int)) O18 ?_
     refine r_c rfl (qg rfl (gd (winOf x).lead 5 O0 (by rw [Ua, bitsOf_len, show heldN 2 = 2 from rfl]; omega) h) ?_)
     rintro _ w ⟨rfl, h⟩
     refine Y49 ?_
     refine r_v (qx (l := winC (winOf x)) rfl rfl (qw (h.b 1 rfl) rfl)) rfl ?_
     refine r_c rfl (qg rfl (xk (winOk_of hx0 hx) h) ?_)
     rintro _ w ⟨rfl, h⟩
     refine Y1l ?_
     refine qz (.iz (((winOf x).long - 1 : Nat) : Int)) O9 ?_
     refine Yy ?_
     refine qz (.int .u64 (((winOf x).long - 1 : Nat) : Int)) O18 ?_
     refine r_c rfl (qg rfl (gd ((winOf x).long - 1) 6 O0 (by rw [Ua, Ua, bitsOf_len, bitsOf_len, show heldN 2 = 2 from rfl, show heldN 5 = 5 from rfl]; omega) h) ?_)
     rintro _ w ⟨rfl, h⟩
     refine qv ⟨(winOf x, _), zz7, winOk_of hx0 hx, ?_, h.f 1⟩
     dsimp only
     rw [<- he, Um, Um, Um]; rfl
   clear h he hwo h00 hnz hol
   rintro ⟨win, out⟩ w e ⟨hwo, he, h⟩
   dsimp only at hwo he h ⊢
   have hlen := congrArg List.length he
   simp only [Ua, bitsOf_len] at hlen
   have hll := win_long_le win
   refine jm [0, 1, 2, 3, 4, 5, 6, 7] none (fun w => w.heap[b]? = some (.cells (winC win).toArray 279 (0, 0))) O1 O1 ?_
   replace h := h.drew
   generalize w.drew = w at h
   have hs := h
   replace h := hs.b 0 rfl
   refine Y1j ?_; refine Y18 ?_; refine Yv ?_
   refine qj rfl rfl rfl rfl h (fun _ h => qh rfl (qq (v := .iz win.trail) rfl h rfl)) ?_
   refine cpv rfl rfl rfl rfl h rfl (qr (v' := .int .u64 ((x / 2 ^ win.trail : Nat) : Int)) (vl rfl rfl O0) (congrArg (Value.int .u64) (j0 x win.trail 64 (by unfold WinOk at hwo; omega)))) ?_
   refine qj rfl rfl rfl rfl h (fun w h => qh rfl (qx (l := winC win) rfl rfl (qw h rfl))) ?_
   refine Yq ?_
   refine qd 6 rfl rfl rfl rfl ?_
   refine (qg rfl (xk hwo hs) ?_)
   rintro _ w ⟨rfl, hs⟩
   replace h := hs.b 0 rfl
   refine ⟨fun _ => h, ?_⟩
   refine Yg ?_
   refine qd 7 rfl rfl rfl rfl ?_
   refine (qg rfl (gd (x / 2 ^ win.trail) win.long (Xb (Nat.div_le_self _ _) hx) O0 (hs.f 1)) ?_)
   rintro _ w ⟨rfl, hs⟩
   replace h := hs.b 1 rfl
   refine ⟨fun _ => h, ?_⟩
   refine qn ⟨(win, out ++ bitsOf (x / 2 ^ win.trail) (heldN win.long)), zz6, hwo, ?_, hs.f 1⟩
   rw [heldN_nat hll, Um]; exact he
  clear h
  rintro ⟨win, out⟩ w e ⟨hwo, he, h⟩
  dsimp only at hwo he h ⊢
  refine Yt ?_
  refine qz (.iz ((i + 1 : Nat) : Int)) O7 ?_
  refine Y0 ?_
  refine qv ⟨(i + 1, win, out), zz6, ⟨hlt, hwo, (fun h => by cases h), fun _ => ?_, h⟩, O_d⟩
  dsimp only
  rw [Nat.add_sub_cancel, show vs.getD i 0 = now by rw [List.getD, hg]; rfl]
  exact he
 have hin' : i = vs.length := by simp at hc; omega
 refine ju ?_
 have : out = bs ++ xorBits vs := by
  rcases Wq i with h0 | h0
  ·rw [(h00 h0).2]
   have : vs = [] := Un O0
   rw [this]; simp [xorBits]
  ·have := hnz h0
   rw [hin', Kb, xorRest, Uw] at this
   exact this
 rw [<- this]
 exact (show (packv [] : Value) = .tuple #[] ∧ _ from ⟨rfl, h.drop⟩)
end
end
end Go.Proofs.YtngdfdangkdgcaaGreatDoor
namespace Go.Hw
section
theorem runsA_len : ∀ (l : List Nat) (x k : Nat), (runsA x k l).length <= 20 * (l.length + 1)
 | [], x, k => by
  have h1 := jd k; have h2 := jd x
  simp [runsA]; omega
 | y :: r, x, k => by
  have h1 := jd k; have h2 := jd x
  rw [runsA, Ui]
  split
  ·have := runsA_len r x (k + 1); omega
  ·have := runsA_len r y 1
   rw [Ua, Ua]; omega
theorem runsEnc_len (l : List Nat) : (runsEnc l).length <= 20 * l.length := by
 cases l with
 | nil => exact Ug _
 | cons x r => exact runsA_len r x 1
end
end Go.Hw
namespace Go.Proofs.YtngdfdangkdgcaaGreatDoor
open Go.Hw _root_.Go.Proofs.Tryz
section
abbrev OwnU (a : Option Addr) (c : Nat) (l : List Nat) : HProp := Own 31 1 a l.length c (u64V l)
section
variable {w0 w : World} {l : List HProp}
end
end
end Go.Proofs.YtngdfdangkdgcaaGreatDoor
namespace Go.Hw
section
end
end Go.Hw
namespace Go.Proofs.YtngdfdangkdgcaaGreatDoor
open Go.Hw _root_.Go.Proofs.Tryz
section
section
variable {w0 w : World} {l : List HProp}
theorem so : ∀ m : List Nat, (m.flatMap vput).length <= 10 * m.length
 | [] => Ug _
 | x :: m => by
  have h1 := jd x
  have h2 := so m
  rw [Uh, Ua, Ui]; omega
end
end
end Go.Proofs.YtngdfdangkdgcaaGreatDoor
namespace Go.Hw
section
theorem qqz (o : Option (List Nat)) : (o.map bigL).getD [] = bigL (o.getD []) ∧ (o.map bigL).isSome = o.isSome := by cases o <;> exact ⟨rfl, rfl⟩
theorem simpEncF_len : ∀ (k : Nat) (u ws : List Nat), simpEncF k u = some ws -> ws.length <= u.length ∧ ∀ w ∈ ws, w < 18446744073709551616
 | _, [], ws, h => by rw [simpEncF] at h; cases h; exact ⟨Ug _, fun _ h => by cases h⟩
 | 0, _ :: _, _, h => by rw [simpEncF] at h; cases h
 | k + 1, a :: r, ws, h => by
  rw [simpEncF] at h
  cases hw : wordA 0 kindsL (a :: r) with
  | none => rw [hw] at h; cases h
  | some wn =>
   obtain ⟨w, n⟩ := wn
   rw [hw] at h
   obtain ⟨y, h1, rfl⟩ := Va.1 h
   have hp := wordA_pos O8 hw
   obtain ⟨h2, h3⟩ := simpEncF_len k _ y h1
   rw [Uq] at h2
   obtain ⟨j, kk, g1, g2, g3⟩ := wordA_some hw
   obtain ⟨f1, f2, f3⟩ := fitsK_some g2
   obtain ⟨k1, k2, k3, k4⟩ := kindsL_ok j kk g1
   have hlt : packW kk.2 ((a :: r).take n) < 1152921504606846976 := by
    refine Xp (packW_lt f2) ?_
    have : kk.2 * ((a :: r).take n).length <= 60 := by
     rw [Us]
     exact Uy (Nat.mul_le_mul_left _ O0) k4
    exact Vg O2 this
   refine ⟨by rw [Ui]; omega, fun z hz => ?_⟩
   rcases Uo.1 hz with rfl | hz
   ·omega
   ·exact h3 z hz
theorem simpEnc_len {u : List Nat} : ((simpEnc u).getD []).length <= u.length ∧ ∀ w ∈ (simpEnc u).getD [], w < 18446744073709551616 := by
 cases h : simpEnc u with
 | none => exact ⟨Ud _, fun _ h => by cases h⟩
 | some ws => exact simpEncF_len _ u ws h
theorem valsOf_lt {L : List Smp} (hw : ∀ s ∈ L, s.Wf) : ∀ v ∈ valsOf L, v < 18446744073709551616 := by
 intro v hv
 obtain ⟨s, hs, rfl⟩ := Vb.1 hv
 obtain ⟨_, h2, h3⟩ := hw s hs
 omega
theorem timesOf_wf {L : List Smp} (hw : ∀ s ∈ L, s.Wf) : ∀ t ∈ timesOf L, I64 t := by
 intro t ht
 obtain ⟨s, hs, rfl⟩ := Vb.1 ht
 exact (hw s hs).1
theorem flat_len_le (f : Nat -> Nat) (wide : Nat) (v : List Nat) : (v.flatMap fun y => bitsOf (f y) wide).length = wide * v.length := by
 induction v with
 | nil => rfl
 | cons x v ih => rw [Uh, Ua, bitsOf_len, ih, Ui, Nat.mul_add]; omega
end
end Go.Hw
namespace Go.Proofs.YtngdfdangkdgcaaGreatDoor
open Go.Hw _root_.Go.Proofs.Tryz
section
section
variable {w0 w : World} {l : List HProp}
theorem frameEnc_len {u : List Nat} (hn : u.length <= 65535) (hu : ∀ x ∈ u, x < 18446744073709551616) : (frameEnc u).length <= 600000 := by
 cases u with
 | nil => exact Ud _
 | cons x r =>
  have h1 := jd (leastA x r)
  have hg := greatA_lt r x (hu x (Ub ..)) fun y hy => hu y (Ue _ hy)
  have hw : len64 (greatA x r - leastA x r) <= 64 := len64_64 O0
  have h2 := flat_len_le (fun y => y - leastA x r) (len64 (greatA x r - leastA x r)) (x :: r)
  have h3 := j6 ((x :: r).flatMap fun y => bitsOf (y - leastA x r) (len64 (greatA x r - leastA x r)))
  have h4 : len64 (greatA x r - leastA x r) * (x :: r).length <= 64 * 65535 := Zt hw hn
  rw [frameEnc, Ua, Ui, h3]
  omega
theorem dictEnc_len {u : List Nat} (hn : u.length <= 65535) : ((dictEnc u).getD []).length <= 600000 := by
 unfold dictEnc
 cases hm : unlikeA [] u with
 | none => exact Ud _
 | some m =>
  dsimp only
  split
  ·exact Ud _
  ·obtain ⟨_, _, hm2, _⟩ := unlikeA_some u [] m hm O8
   have h1 := jd m.length
   have hw : len64 (m.length - 1) <= 64 := len64_64 O0
   have h2 := flat_len_le (fun y => m.idxOf y) (len64 (m.length - 1)) u
   have h3 := j6 (u.flatMap fun x => bitsOf (m.idxOf x) (len64 (m.length - 1)))
   have h4 : len64 (m.length - 1) * u.length <= 64 * 65535 := Zt hw hn
   have h5 := so m
   show (dictBytes m u).length <= _
   unfold dictBytes
   rw [Ua, Ua, h3]
   omega
theorem valuesEnc_len {tag : Int} {u : List Nat} (hn : u.length <= 65535) (hu : ∀ x ∈ u, x < 18446744073709551616) : ((valuesEnc tag u).getD []).length <= 2000000 := by
 unfold valuesEnc
 repeat' split
 ·have h1 := xorBits_len u
  have h2 := j6 (xorBits u)
  show (pack (xorBits u)).length <= _
  omega
 ·rw [(qqz _).1, bigL_len]
  have := (simpEnc_len (u := stepsL 0 u)).1
  rw [stepsL_len] at this
  omega
 ·have := runsEnc_len u; show (runsEnc u).length <= _; omega
 ·have := frameEnc_len hn hu; show (frameEnc u).length <= _; omega
 ·have := dictEnc_len (u := u) hn; omega
 ·cases u with
  | nil => exact Ud _
  | cons x r =>
   have := jd x
   rw [sameEnc]; split
   ·show (vput x).length <= _; omega
   ·exact Ud _
 ·exact Ud _
def ValOk (tag : Int) : Prop := (∀ {u : List Nat}, u.length <= 65535 -> (∀ x ∈ u, x < 18446744073709551616) -> ((valuesEnc tag u).getD []).length <= 2000000) ∧
 ∀ {w0 w : World} {l : List HProp} {sl : Option Addr} {c : Nat} {u : List Nat}, Tz w0 -> (∀ x ∈ u, x < 18446744073709551616) -> u.length <= 65535 -> u.length <= c -> Reads w0 l 1 sl u.length (u64V u) -> St w0 l w ->
  Ret prog 176 [.iz tag, .slice sl u.length c] w fun v w' => ∃ a c', v = .tuple [.slice a ((valuesEnc tag u).getD []).length c', .bool (valuesEnc tag u).isSome].toArray ∧ St w0 (OwnB a c' ((valuesEnc tag u).getD []) :: l) w'
theorem val_1 : ValOk 1 := by
 refine ⟨fun {u} hn hu => ?_, fun {w0 w l sl c u} hT hu hn hc hr h => ?_⟩
 ·have e1 : valuesEnc 1 u = some (pack (xorBits u)) := by unfold valuesEnc; rw [if_pos rfl]
  rw [e1]
  have h1 := xorBits_len u
  have h2 := j6 (xorBits u)
  show (pack (xorBits u)).length <= _
  omega
 refine en func176 results176 ntmps176 ?_
 refine Yu ?_; refine Y1w ?_; refine Y4e ?_; refine Y2k ?_
 have e1 : valuesEnc 1 u = some (pack (xorBits u)) := by unfold valuesEnc; rw [if_pos rfl]
 rw [e1]
 have hxl := xorBits_len u
 refine Y1 ?_
 refine r_c rfl (qg rfl (ke h) ?_)
 rintro _ w ⟨p, rfl, h⟩
 refine Y1i ?_; refine Y1a ?_; refine Yj ?_
 refine r_c rfl (qg rfl (pp hT hu hn O8 h hr) ?_)
 rintro _ w ⟨rfl, h⟩
 rw [Up] at h
 refine Y1a ?_
 refine r_c rfl (qg rfl (dg h O0) ?_)
 rintro _ w ⟨a, c1, rfl, h⟩
 refine Ys ?_
 exact qk (bq2 ⟨a, c1, rfl, (h.f 1).drop⟩)
theorem pf {sl : Option Addr} {c : Nat} {L : List Smp} (hn : L.length <= 1073741824) (hr : Reads w0 l 2 sl L.length (smpsV L)) (h : St w0 l w) :
  Ret prog 175 [.slice sl L.length c] w fun v w' => v = .bool (rising L) ∧ St w0 l w' := by
 refine en func175 results175 ntmps175 ?_
 refine Y12 ?_; refine qf ?_; refine Y4d ?_
 refine jx (Γ := Nat) (fun k => [(0, .slice sl L.length c), (3, .iz ((k + 1 : Nat) : Int))]) (fun k w => (L = [] ∨ (k < L.length ∧ ∀ s, L[k]? = some s -> rises L = risesA s.T (L.drop (k + 1)))) ∧ St w0 l w) (fun k => L.length - k) 0 zz2 ⟨by
  cases L with
  | nil => exact .inl rfl
  | cons s r => exact .inr ⟨by simp, fun x hx => by simp at hx; subst hx; rfl⟩, h⟩ ?_
 clear h
 rintro k w e ⟨inv, h⟩
 refine Y1w ?_; refine Y17 ?_; refine Y1u ?_
 by_cases hlt : k + 1 < L.length
 ·refine qz (.bool true) O6 ?_
  refine Yd ?_; refine Yl ?_
  rcases inv with inv | ⟨hk, inv⟩
  ·rw [inv] at hlt; simp at hlt
  have hg0 := Uc hk
  have hg := Uc hlt
  have hdr := Vz hlt
  generalize L[k + 1] = s1 at hg hdr
  have he := inv _ hg0
  generalize L[k] = s0 at hg0 he
  rw [hdr, risesA] at he
  obtain ⟨b, o, hsl⟩ := (hr.at_ h).some O0
  have hat1 : ∀ {w'}, St w0 l w' -> w'.cell? ⟨b, o + (k + 1) * 2 + 0, none⟩ = some (.iz s1.T) := fun h' => (hsl ▸ hr.at_ h').elem j5 hg 0 _ rfl
  have hat0 : ∀ {w'}, St w0 l w' -> w'.cell? ⟨b, o + k * 2 + 0, none⟩ = some (.iz s0.T) := fun h' => (hsl ▸ hr.at_ h').elem j5 hg0 0 _ rfl
  refine Y38 ?_
  refine qf (jh none (fun w => St w0 _ w) O1 O1 h.drew fun w h => ?_)
  refine Y2i ?_
  refine cpv rfl rfl rfl rfl h rfl (jb (b := b) (o := o) (m := L.length) (c := c) (o' := o + (k + 1) * 2) O16 rfl rfl hlt rfl) ?_
  refine Yv ?_
  refine qj rfl rfl rfl rfl h (fun w h => qh rfl (jj (v := .iz s1.T) rfl (hat1 h))) ?_
  refine Y2i ?_
  refine cpv rfl rfl rfl rfl h rfl (qr (v' := .iz (k : Int)) (vi rfl rfl) O9) ?_
  refine cpv rfl rfl rfl rfl h rfl (jb (b := b) (o := o) (m := L.length) (c := c) (o' := o + k * 2) O16 rfl rfl hk rfl) ?_
  refine Yv ?_
  refine qj rfl rfl rfl rfl h (fun w h => qh rfl (jj (v := .iz s0.T) rfl (hat0 h))) ?_
  refine cpv rfl rfl rfl rfl h rfl (ni rfl rfl) ?_
  refine qn ?_
  refine qi (decide (s1.T <= s0.T)) rfl (fun hc => ?_) (fun hc => ?_)
  ·
   refine Y12 ?_
   refine qk (bq1 ⟨?_, h⟩)
   have : rising L = false := by
    unfold rising
    rw [he, show decide (s0.T < s1.T) = false by rw [decide_eq_true_eq] at hc; rw [decide_eq_false_iff_not]; omega]
    rfl
   rw [this]; rfl
  ·rw [show decide (s0.T < s1.T) = true by rw [decide_eq_false_iff_not] at hc; rw [decide_eq_true_eq]; omega, Bool.true_and] at he
   refine Yl ?_; refine Y2z ?_
   refine qz (.iz ((k + 1 + 1 : Nat) : Int)) O7 ?_
   refine Y6 ?_
   refine qv ⟨k + 1, zz2, ⟨.inr ⟨hlt, fun s hs => ?_⟩, h⟩, O_o⟩
   rw [hg] at hs; cases hs
   exact he
 refine qz (.bool false) O6 ?_
 refine Y24 ?_
 have hrise : rises L = true := by
  rcases inv with inv | ⟨hk, inv⟩
  ·rw [inv]; rfl
  ·have := inv _ (Uc hk)
   rw [this, show k + 1 = L.length by omega, Kb]; rfl
 refine ju ?_
 refine Y34 ?_; refine Y3v ?_; refine Ya ?_
 refine qk (bq1 ⟨?_, h⟩)
 show Value.bool (decide ((L.length : Int) <= 65535)) = _
 unfold rising
 rw [hrise, Bool.true_and]
 congr 1
 rw [decide_eq_decide]
 omega
theorem zt (hT : Tz w0) {tag : Int} (hV : ValOk tag) {sl : Option Addr} {c : Nat} {L : List Smp} (hw : ∀ s ∈ L, s.Wf) (hn : L.length <= 1073741824) (hr : Reads w0 l 2 sl L.length (smpsV L)) (h : St w0 l w) :
  Ret prog 160 [.iz tag, .slice sl L.length c] w fun v w' => ∃ a c', v = .tuple [.slice a ((suitEnc tag L).getD []).length c', .bool (suitEnc tag L).isSome].toArray ∧ St w0 (OwnB a c' ((suitEnc tag L).getD []) :: l) w' := by
 refine en func160 results160 ntmps160 ?_
 refine Yu ?_; refine qf ?_; refine Ye ?_
 refine r_c rfl (qg rfl (pf hn hr h) ?_)
 rintro _ w ⟨rfl, h⟩
 refine Yx ?_; refine Y2 ?_
 cases hrise : rising L with
 | false =>
  refine Y1k ?_; refine Yu ?_
  have e1 : suitEnc tag L = none := by unfold suitEnc; rw [hrise]; rfl
  rw [e1]
  exact qk (bq2 ⟨none, 0, rfl, St.ownNil _ _ h⟩)
 | true =>
 have hn16 : L.length <= 65535 := by
  unfold rising at hrise
  simp only [Ur, decide_eq_true_eq] at hrise
  exact hrise.2
 have e1 : suitEnc tag L = (valuesEnc tag (valsOf L)).map (suitBytes L) := by unfold suitEnc; rw [hrise, if_pos rfl]
 rw [e1]
 refine Y1r ?_; refine Y2c ?_; refine Y2b ?_; refine Y3l ?_
 refine jx (Γ := Nat × (Option Addr × Nat) × (Option Addr × Nat)) (fun k => [(0, .iz tag), (6, .slice k.2.1.1 (timesOf (L.take k.1)).length k.2.1.2), (7, .slice k.2.2.1 (valsOf (L.take k.1)).length k.2.2.2), (17, .slice sl L.length c), (18, .iz L.length), (19, .iz k.1)])
  (fun k w => k.1 <= L.length ∧ St w0 (Own 2 1 k.2.1.1 (timesOf (L.take k.1)).length k.2.1.2 (i64V (timesOf (L.take k.1))) :: OwnU k.2.2.1 k.2.2.2 (valsOf (L.take k.1)) :: l) w) (fun k => L.length - k.1) (0, (none, 0), (none, 0)) zz6 ⟨Ud _, St.ownNil _ _ (St.ownNil _ _ h)⟩ ?_
 clear h
 rintro ⟨k, ⟨ta, tc⟩, va, vc⟩ w e ⟨hk, h⟩
 dsimp only at hk h ⊢
 refine Y14 ?_
 refine qf (qi (decide ((k : Int) < (L.length : Int))) rfl (fun hc => ?_) (fun hc => ?_))
 ·
  have hlt : k < L.length := by simp at hc; omega
  have hg := Uc hlt
  have hmem : L[k] ∈ L := Zz _
  generalize L[k] = s at hg hmem
  obtain ⟨hs1, hs2, hs3⟩ := hw s hmem
  have ht1 : timesOf (L.take (k + 1)) = timesOf (L.take k) ++ [s.T] := by unfold timesOf; rw [Vl, hg, Wd]; rfl
  have hv1 : valsOf (L.take (k + 1)) = valsOf (L.take k) ++ [s.V.toNat] := by unfold valsOf; rw [Vl, hg, Wd]; rfl
  have htl : (timesOf (L.take k)).length = k := by simp [timesOf]; omega
  have hvl : (valsOf (L.take k)).length = k := by simp [valsOf]; omega
  have hsv : Value.int .u64 s.V = .int .u64 (s.V.toNat : Int) := by rw [Int.toNat_of_nonneg hs2]
  obtain ⟨b, o, hsl⟩ := ((hr.more [_, _]).at_ h).some O0
  refine Yl ?_
  refine qt (Γ := (Option Addr × Nat) × (Option Addr × Nat)) (fun q => [(0, .iz tag), (6, .slice q.1.1 (timesOf (L.take k) ++ [s.T]).length q.1.2), (7, .slice q.2.1 (valsOf (L.take k) ++ [s.V.toNat]).length q.2.2), (17, .slice sl L.length c), (18, .iz L.length), (19, .iz k)])
   (fun q w => St w0 (Own 2 1 q.1.1 (timesOf (L.take k) ++ [s.T]).length q.1.2 (i64V (timesOf (L.take k) ++ [s.T])) :: OwnU q.2.1 q.2.2 (valsOf (L.take k) ++ [s.V.toNat]) :: l) w) ?_ ?_
  ·refine Yh ?_; refine Y1 ?_
   refine r_v (jb (b := b) (o := o) (m := L.length) (c := c) (o' := o + k * 2) O16 rfl rfl hlt rfl) rfl ?_
   refine r_v (qx (l := s.cells) rfl rfl ((hsl ▸ (hr.more [_, _]).at_ h).elem j5 hg)) rfl ?_
   refine r_c rfl (qp h fun b9 w h => ?_)
   refine r_c rfl (qy (vs := s.cells) 0 h rfl rfl rfl rfl rfl rfl rfl fun w h => ?_)
   replace h : St w0 (pt b9 (.cells s.cells.toArray 57 (0, 0)) :: Own 2 1 ta (timesOf (L.take k)).length tc (i64V (timesOf (L.take k))) :: OwnU va vc (valsOf (L.take k)) :: l) w := h
   refine Y2 ?_
   refine jm [0, 1, 2, 3, 4, 5, 6, 7, 8, 9, 10, 11] none (fun w => w.heap[b9]? = some (.cells s.cells.toArray 57 (0, 0))) O1 O1 ?_
   replace h := h.drew
   generalize w.drew = w at h
   have hs := h
   replace h := hs.b 0 rfl
   refine Y1x ?_; refine Yv ?_
   refine qj rfl rfl rfl rfl h (fun _ h => qh rfl (qq (v := .iz s.T) rfl h rfl)) ?_
   refine Yq ?_; refine Y1x ?_; refine Yv ?_
   refine qj rfl rfl rfl rfl h (fun _ h => qh rfl (qr (qq (v := .int .u64 s.V) rfl h rfl) hsv)) ?_
   refine Y16 ?_
   refine j4 3 8 rfl rfl rfl rfl rfl rfl ?_ ?_
   ·refine jg (r := i64V [s.T]) hs rfl rfl rfl fun b1 w hs => ?_
    replace h := hs.b 1 rfl
    refine ⟨fun _ => h, ?_⟩
    refine Y3m ?_
    refine j4 4 8 rfl rfl rfl rfl rfl rfl ?_ ?_
    ·refine q9 (ys := i64V [s.T]) (zs := i64V (timesOf (L.take k) ++ [s.T])) (m3 := (timesOf (L.take k) ++ [s.T]).length) (hs.f 2) rfl rfl ⟨rfl, .inr ⟨b1, 0, rfl, qw (hs.b 0 rfl) rfl⟩⟩ (i64V_one _) O8 (by simp [i64V]) O6 O6 rfl fun ta' tc' w _ hs => ?_
     replace h := hs.b 2 rfl
     refine ⟨fun _ => h, ?_⟩
     refine Y16 ?_
     refine qd 8 rfl rfl rfl rfl ?_
     refine jg (r := u64V [s.V.toNat]) hs rfl rfl rfl fun b2 w hs => ?_
     replace h := hs.b 3 rfl
     refine ⟨fun _ => h, ?_⟩
     refine Y11 ?_
     refine qd 9 rfl rfl rfl rfl ?_
     refine q9 (ys := u64V [s.V.toNat]) (zs := u64V (valsOf (L.take k) ++ [s.V.toNat])) (m3 := (valsOf (L.take k) ++ [s.V.toNat]).length) (hs.f 4) rfl rfl ⟨rfl, .inr ⟨b2, 0, rfl, qw (hs.b 0 rfl) rfl⟩⟩ (u64V_one _) O8 (by simp [u64V]) O6 O6 rfl fun va' vc' w _ hs => ?_
     replace h := hs.b 4 rfl
     refine ⟨fun _ => h, ?_⟩
     refine Y1y ?_; refine Y1y ?_
     exact qn ⟨((ta', tc'), (va', vc')), zz6, ((((hs.f 2).f 2).drop.f 2).drop.f 2).drop⟩
    ·refine jg (r := u64V [s.V.toNat]) hs rfl rfl rfl fun b2 w hs => ?_
     replace h := hs.b 2 rfl
     refine ⟨fun _ => h, ?_⟩
     refine Y16 ?_
     refine qd 4 rfl rfl rfl rfl ?_
     refine q9 (ys := i64V [s.T]) (zs := i64V (timesOf (L.take k) ++ [s.T])) (m3 := (timesOf (L.take k) ++ [s.T]).length) (hs.f 3) rfl rfl ⟨rfl, .inr ⟨b1, 0, rfl, qw (hs.b 1 rfl) rfl⟩⟩ (i64V_one _) O8 (by simp [i64V]) O6 O6 rfl fun ta' tc' w _ hs => ?_
     replace h := hs.b 3 rfl
     refine ⟨fun _ => h, ?_⟩
     refine Y11 ?_
     refine qd 9 rfl rfl rfl rfl ?_
     refine q9 (ys := u64V [s.V.toNat]) (zs := u64V (valsOf (L.take k) ++ [s.V.toNat])) (m3 := (valsOf (L.take k) ++ [s.V.toNat]).length) (hs.f 4) rfl rfl ⟨rfl, .inr ⟨b2, 0, rfl, qw (hs.b 1 rfl) rfl⟩⟩ (u64V_one _) O8 (by simp [u64V]) O6 O6 rfl fun va' vc' w _ hs => ?_
     replace h := hs.b 4 rfl
     refine ⟨fun _ => h, ?_⟩
     refine Y1y ?_; refine Y1y ?_
     exact qn ⟨((ta', tc'), (va', vc')), zz6, ((((hs.f 1).f 2).drop.f 2).drop.f 2).drop⟩
   ·refine jg (r := u64V [s.V.toNat]) hs rfl rfl rfl fun b2 w hs => ?_
    replace h := hs.b 1 rfl
    refine ⟨fun _ => h, ?_⟩
    refine Y3m ?_
    refine qd 3 rfl rfl rfl rfl ?_
    refine jg (r := i64V [s.T]) hs rfl rfl rfl fun b1 w hs => ?_
    replace h := hs.b 2 rfl
    refine ⟨fun _ => h, ?_⟩
    refine Y16 ?_
    refine qd 4 rfl rfl rfl rfl ?_
    refine q9 (ys := i64V [s.T]) (zs := i64V (timesOf (L.take k) ++ [s.T])) (m3 := (timesOf (L.take k) ++ [s.T]).length) (hs.f 3) rfl rfl ⟨rfl, .inr ⟨b1, 0, rfl, qw (hs.b 0 rfl) rfl⟩⟩ (i64V_one _) O8 (by simp [i64V]) O6 O6 rfl fun ta' tc' w _ hs => ?_
    replace h := hs.b 3 rfl
    refine ⟨fun _ => h, ?_⟩
    refine Y11 ?_
    refine qd 9 rfl rfl rfl rfl ?_
    refine q9 (ys := u64V [s.V.toNat]) (zs := u64V (valsOf (L.take k) ++ [s.V.toNat])) (m3 := (valsOf (L.take k) ++ [s.V.toNat]).length) (hs.f 4) rfl rfl ⟨rfl, .inr ⟨b2, 0, rfl, qw (hs.b 2 rfl) rfl⟩⟩ (u64V_one _) O8 (by simp [u64V]) O6 O6 rfl fun va' vc' w _ hs => ?_
    replace h := hs.b 4 rfl
    refine ⟨fun _ => h, ?_⟩
    refine Y1y ?_; refine Y1y ?_
    exact qn ⟨((ta', tc'), (va', vc')), zz6, ((((hs.f 1).f 2).drop.f 2).drop.f 2).drop⟩
  clear h
  rintro ⟨⟨ta, tc⟩, va, vc⟩ w e h
  dsimp only at h ⊢
  refine Yt ?_
  refine qz (.iz ((k + 1 : Nat) : Int)) O7 ?_
  refine Y0 ?_
  refine qv ⟨(k + 1, (ta, tc), (va, vc)), ⟨rfl, ?_, ?_, rfl, rfl, rfl, trivial⟩, ⟨hlt, ?_⟩, O_d⟩
  ·show Value.slice _ _ _ = Value.slice _ _ _
   rw [ht1]
  ·show Value.slice _ _ _ = Value.slice _ _ _
   rw [hv1]
  ·dsimp only
   rw [ht1, hv1]
   exact h
 have hkn : k = L.length := by simp at hc; omega
 rw [hkn, Zj] at h ⊢
 refine ju ?_
 have hvl : (valsOf L).length = L.length := by simp [valsOf]
 have htl : (timesOf L).length = L.length := by simp [timesOf]
 have htb := timesBits_len (timesOf L)
 have hvel := hV.1 (u := valsOf L) O0 (valsOf_lt hw)
 refine Y8 ?_; refine Yj ?_
 refine r_c rfl (qg rfl (hV.2 hT (u := valsOf L) (valsOf_lt hw) O0 (h.f 1).own_cases.2.1 Reads.own.cons h) ?_)
 rintro _ w ⟨a1, c1, rfl, h⟩
 refine Y28 ?_; refine Y1h ?_; refine Y2 ?_
 cases hve : valuesEnc tag (valsOf L) with
 | none =>
  refine Y1k ?_; refine Yu ?_
  exact qk (bq2 ⟨none, 0, rfl, St.ownNil _ _ h.drop.drop.drop⟩)
 | some vb =>
 rw [hve] at h hvel
 dsimp only [Option.getD_some] at h hvel
 refine Y1r ?_; refine Y1 ?_
 refine r_c rfl (qg rfl (ke h) ?_)
 rintro _ w ⟨p, rfl, h⟩
 refine Y1i ?_; refine Y1a ?_; refine Yj ?_
 refine r_c rfl (qg rfl (pm (ts := timesOf L) (timesOf_wf hw) O0 O8 h (fun bs' w' h' => (h'.f 2).own_rd)) ?_)
 rintro _ w ⟨rfl, h⟩
 rw [Up] at h
 refine Y1a ?_
 refine r_c rfl (qg rfl (dg h O0) ?_)
 rintro _ w ⟨a2, c2, rfl, h⟩
 refine Yw ?_
 have hpl := j6 (timesBits (timesOf L))
 generalize hX : pack (timesBits (timesOf L)) = X at *
 have hvx := jd X.length
 have hsb : suitBytes L vb = vput X.length ++ (X ++ vb) := by unfold suitBytes; rw [hX]
 refine Y34 ?_; refine Yy ?_
 refine qz (.int .u64 (X.length : Int)) O18 ?_
 refine r_c rfl (qg rfl (zf (bs := []) X.length O0 h (fun w' h' => Reads.nil.at_ h') O8) ?_)
 rintro _ w ⟨a3, c3, rfl, h⟩
 rw [Up] at h ⊢
 refine Yj ?_
 refine r_c rfl (q9 (ys := bytesV X) (zs := bytesV (vput X.length ++ X)) (m3 := (vput X.length ++ X).length) h rfl rfl (h.f 1).own_rd (bytesV_one _) O8 (by simp [bytesV]) O25 O25 rfl fun a4 c4 w _ h => ?_)
 refine Yj ?_
 refine r_c rfl (q9 (ys := bytesV vb) (zs := bytesV (suitBytes L vb)) (m3 := (suitBytes L vb).length) h rfl rfl (h.f 3).own_rd (bytesV_one _) (by rw [hsb]; simp; omega) (by rw [hsb]; simp [bytesV]) (by rw [hsb, Ua, Ua]; omega) (by rw [hsb, Ua, Ua]; omega) rfl fun a5 c5 w _ h => ?_)
 refine Ys ?_
 refine qk (bq2 ⟨a5, c5, rfl, ?_⟩)
 exact (((((h.f 1).drop.f 1).drop.f 1).drop.f 1).drop.f 1).drop
end
end
end Go.Proofs.YtngdfdangkdgcaaGreatDoor
namespace Go.Hw
section
theorem risesA_iff : ∀ (l : List Smp) (t : Int), risesA t l = true ↔ (∀ s ∈ l, t < s.T) ∧ rises l = true
 | [], t => by simp [risesA, rises]
 | s :: r, t => by
  rw [risesA, Ur, decide_eq_true_eq]
  have ih := risesA_iff r s.T
  rw [rises, ih]
  constructor
  ·rintro ⟨h1, h2, h3⟩
   refine ⟨fun x hx => ?_, h2, h3⟩
   rcases Uo.1 hx with rfl | hx
   ·exact h1
   ·have := h2 x hx; omega
  ·rintro ⟨h1, h2, h3⟩
   exact ⟨h1 s (Ub ..), h2, h3⟩
theorem st : ∀ l : List Smp, rises l = true ↔ ∀ (i j : Nat) (x y : Smp), l[i]? = some x -> l[j]? = some y -> i < j -> x.T < y.T
 | [] => by simp [rises]
 | s :: r => by
  rw [rises, risesA_iff, st r]
  constructor
  ·rintro ⟨h1, h2⟩ i j x y hi hj hij
   cases j with
   | zero => omega
   | succ j =>
    rw [Zh] at hj
    cases i with
    | zero => simp at hi; subst hi; exact h1 y (Uj hj)
    | succ i => rw [Zh] at hi; exact h2 i j x y hi hj O0
  ·intro h
   refine ⟨fun x hx => ?_, fun i j x y hi hj hij => h (i + 1) (j + 1) x y (by simpa using hi) (by simpa using hj) O0⟩
   obtain ⟨k, hk⟩ := List.getElem?_of_mem hx
   exact h 0 (k + 1) s x rfl (by simpa using hk) O0
end
section
end
end Go.Hw
namespace Go.Proofs.YtngdfdangkdgcaaGreatDoor
open Go.Hw _root_.Go.Proofs.Tryz
section
section
variable {w0 w : World} {l : List HProp}
abbrev OwnT64 (a : Option Addr) (c : Nat) (ts : List Int) : HProp := Own 2 1 a ts.length c (i64V ts)
abbrev OwnS (a : Option Addr) (c : Nat) (L : List Smp) : HProp := Own 57 2 a L.length c (smpsV L)
end
end
end Go.Proofs.YtngdfdangkdgcaaGreatDoor
namespace Go.Hw
section
open Go.ChangeShapes Go.WideShapes Go.ChangeAt Go.RowKit
section
variable {P : Program} {W : World} {H : Type} {enc : TypeId × Value -> H} {r : Reach} {b0 : Nat}
end
end
end Go.Hw
namespace Go.Proofs.YtngdfdangkdgcaaGreatDoor
open Go.Hw _root_.Go.Proofs.Tryz
section
open Go.Hw Go.ChangeShapes Go.WideShapes Go.ChangeAt Go.RowKit
theorem qqx {H : Type} : (Rows.laid_math_bits_deBruijn64tab : DataW H) = .agg (deB.map fun (v : Nat) => .lit (.int .u8 (v : Int))) := rfl
theorem tz_of_laid {W : World} (h : laidMetH prog [("math/bits.deBruijn64tab", Rows.laid_math_bits_deBruijn64tab)] W) : Tz W := by
 rw [MakeChecks.laidMetH_plain _ _ _ O1] at h
 obtain ⟨ps, ⟨g1, t1, cs1, f1, p1, q1, hg1, ht1, hv1, hd1, _⟩, _⟩ := h
 obtain rfl := Uk ((show prog.globalNamed "math/bits.deBruijn64tab" = some 0 by kernel_rfl).symm.trans hg1)
 obtain rfl := Uk ((show (prog.globals[0]?).map (·.type) = some 309 by kernel_rfl).symm.trans ht1)
 obtain ⟨xs, m1, rfl, hx1, hlen, hn3, hel⟩ := DataW.trod_array underlying309 hd1
 have c1 : prog.cellsOf 5 = 1 := by kernel_rfl
 rw [c1] at hel
 rw [qqx] at hx1
 simp only [Prod.mk.injEq, DataW.agg.injEq] at hx1
 obtain ⟨cs⟩ := cs1
 have key : ∀ (i v : Nat), deB[i]? = some v -> W.cell? ⟨0, i, none⟩ = some (.int .u8 v) := fun i v hi => by
  have hi64 : i < 64 := (Uf.1 hi).1
  have h0 := hel i hi64
  have hm : (xs.map (·.1))[i]? = some (.lit (.int .u8 (v : Int))) := by rw [<- hx1.1, Wp, hi]; rfl
  rw [Wp] at hm
  obtain ⟨x, hx, hx2⟩ := Va.1 hm
  rw [hx] at h0
  obtain ⟨k, e1, e2, _⟩ := DataW.trod_int underlying5 h0
  rw [e2] at hx2
  have hk : k = (v : Int) := by simpa using hx2
  subst hk
  rw [World.var?_cell hg1 hv1 i]
  have : (cs.drop (i * 1))[0]? = some (.int .u8 (v : Int)) := by
   have e3 : ((cs.drop (i * 1)).take 1)[0]? = some (.int .u8 (v : Int)) := by rw [e1]; rfl
   rwa [List.getElem?_take_of_lt O2] at e3
  rw [List.getElem?_drop] at this
  simpa using this
 refine ⟨?_, key⟩
 have h0 := key 0 0 rfl
 unfold World.cell? at h0
 split at h0
 ·rename_i hh
  exact (Array.getElem?_eq_some_iff.1 hh).1
 ·cases h0
end
section
structure Kept where
 bs : List UInt8
 holds : Int
def IsKept (e : Nat) (x : Kept) : HProp := ex fun q : Option Addr × Nat => all [pt e (.cells [.slice q.1 x.bs.length q.2, .iz x.holds].toArray 207 (0, 0)), Own 5 1 q.1 x.bs.length q.2 (bytesV x.bs)]
structure Sto where
 budget : Int
 last : Int
 bytes : Int
 charged : Int
 l : List (Int × Kept)
abbrev stCells (S : Sto) (m : Nat) : List Value := [.iz S.budget, .iz S.last, .iz S.bytes, .iz S.charged, .map (some m)]
abbrev StoPt (p m : Nat) (S : Sto) : HProp := pt p (.cells (stCells S m).toArray 96 (0, 0))
def IsStore (p : Nat) (S : Sto) : HProp := ex fun m : Nat => all [StoPt p m S, PMap Value.iz m IsKept S.l]
theorem St.store {w0 w : World} {l : List HProp} {p : Nat} {S : Sto} : St w0 (IsStore p S :: l) w ↔ ∃ m, St w0 (StoPt p m S :: PMap Value.iz m IsKept S.l :: l) w := by
 unfold IsStore
 rw [St.ex]
 exact ⟨fun ⟨m, h⟩ => ⟨m, h.join⟩, fun ⟨m, h⟩ => ⟨m, St.fold [_, _] h⟩⟩
theorem St.kept {w0 w : World} {l : List HProp} {e : Nat} {x : Kept} : St w0 (IsKept e x :: l) w ↔ ∃ a c, St w0 (pt e (.cells [.slice a x.bs.length c, .iz x.holds].toArray 207 (0, 0)) :: Own 5 1 a x.bs.length c (bytesV x.bs) :: l) w := by
 unfold IsKept
 rw [St.ex]
 exact ⟨fun ⟨q, h⟩ => ⟨q.1, q.2, h.join⟩, fun ⟨a, c, h⟩ => ⟨(a, c), St.fold [_, _] h⟩⟩
section
variable {w0 w : World} {l : List HProp} {p m : Nat} {S : Sto}
theorem qqw (n : Int) (h : St w0 l w) : Ret prog 33 [.iz n] w fun v w' => ∃ p, v = .pz p ∧ St w0 (IsStore p ⟨min (max n 0) 1073741824, 0, 0, 0, []⟩ :: l) w' := by
 refine en func33 results33 ntmps33 ?_
 refine Y3k ?_; refine Y45 ?_
 refine r_c rfl (ij Value.iz IsKept h fun m w h => ?_)
 refine r_v (qc rfl) rfl ?_
 refine r_c rfl (jv h rfl fun p w h => ?_)
 refine Y1i ?_
 refine qv (qk (bq1 ⟨p, rfl, ?_⟩))
 exact St.store.2 ⟨m, h⟩
theorem xy (h : St w0 (StoPt p m S :: l) w) : Ret prog 18 [.pz p] w fun v w' => v = .iz (IntKind.i64.wrap (S.bytes + S.charged)) ∧ St w0 (StoPt p m S :: l) w' := by
 refine en func18 results18 ntmps18 ?_
 refine Y13 ?_
 refine qv (qf (jh none (fun w => St w0 (StoPt p m S :: l) w) O1 O1 h.drew fun w h => ?_))
 refine Y3 ?_; refine qj rfl rfl rfl rfl h (fun _ h => qh rfl (qq rfl (h.b 0) rfl)) ?_; refine Y3 ?_; refine qj rfl rfl rfl rfl h (fun _ h => qh rfl (qq rfl (h.b 0) rfl)) ?_; refine cpv rfl rfl rfl rfl h rfl (vt rfl rfl) ?_; refine Y2s ?_
 exact qn (qk (bq1 ⟨rfl, h⟩))
theorem fo (h : St w0 (IsStore p S :: l) w) : Ret prog 18 [.pz p] w fun v w' => v = .iz (IntKind.i64.wrap (S.bytes + S.charged)) ∧ St w0 (IsStore p S :: l) w' := by
 obtain ⟨m, h⟩ := St.store.1 h
 exact (xy h).mono fun _ _ h => ⟨h.1, St.store.2 ⟨m, h.2⟩⟩
theorem xr {sl : Option Addr} {n c : Nat} {xs : List Value} (h : St w0 l w) (hr : ∀ w', St w0 l w' -> Rd w' 1 sl n xs) (hx : ∀ u ∈ xs, u.oneCell' = true) (hn : n <= 140737488355328) : Ret prog 149 [.slice sl n c] w fun v w' => ∃ a c', v = .slice a n c' ∧ (a = none ↔ sl = none) ∧ St w0 (Own 5 1 a n c' xs :: l) w' := by
 refine en func149 results149 ntmps149 ?_
 refine Y2b ?_; refine Ye ?_
 refine r_v (ui rfl rfl) rfl ?_
 refine qv (qi sl.isNone rfl (fun hs => ?_) (fun hs => ?_))
 ·refine Y1b ?_
  obtain rfl : sl = none := by simpa using hs
  have h2 := hr w h
  obtain ⟨h3, h4⟩ := h2
  obtain rfl : n = 0 := by rcases h4 with h | ⟨b, o, h, _⟩; exact h; cases h
  obtain rfl : xs = [] := Un (by simpa using h3)
  refine qv (qk (bq1 ⟨none, 0, rfl, by simp, St.ownNil _ _ h⟩))
 ·refine Yl ?_; refine Y1 ?_
  refine r_c rfl (jg h rfl rfl rfl fun b w h => ?_)
  refine Yj ?_
  have h1 : St w0 (Own 5 1 (sQ b) 0 0 [] :: l) w := St.own_mk (cur := []) h rfl rfl (Ug _)
  refine r_c rfl (na (ys := xs) h1 rfl rfl (hr w h1.drop) hx O0 O0 rfl fun a c' w hn h => ?_)
  refine Yo ?_
  refine qv (qk (bq1 ⟨a, c', ?_, ?_, ?_⟩))
  ·exact congrArg (fun n => Value.slice a n c') (Uz n)
  ·exact ⟨(fun h => by cases hn h), (fun h => by rw [h] at hs; cases hs)⟩
  ·rw [Uz] at h; exact h
theorem jp {x : Int} (h1 : -9223372036854775808 <= x) (h2 : x < 9223372036854775808) : IntKind.i64.wrap x = x := by
 unfold IntKind.wrap
 simp [IntKind.signed, IntKind.bits]
 omega
def Sto.put (S : Sto) (id : Int) (x : Kept) : Sto := { S with l := mset id x S.l }
theorem fi (id : Int) (h : St w0 (IsStore p S :: l) w) (hg : mget id S.l = none) : Ret prog 97 [.pz p, .iz id] w fun v w' => v = .bool false ∧ St w0 (IsStore p S :: l) w' := by
 obtain ⟨m, h⟩ := St.store.1 h
 refine en func97 results97 ntmps97 ?_
 refine Y12 ?_; refine Y5 ?_; refine r_v (qq rfl (h.b 0) rfl) rfl ?_; refine Y0 ?_
 refine r_v (vg (h.f 1) rfl rfl hg) rfl ?_
 refine Y3c ?_; refine Y2v ?_; refine Y1p ?_; refine Yb ?_; refine Y31 ?_; refine Y7 ?_
 exact qv (qk (bq1 ⟨rfl, St.store.2 ⟨m, h⟩⟩))
theorem fe (id : Int) {x : Kept} (h : St w0 (IsStore p S :: l) w) (hg : mget id S.l = some x) : Ret prog 97 [.pz p, .iz id] w fun v w' => v = .bool true ∧ St w0 (IsStore p (S.put id ⟨x.bs, IntKind.i64.wrap (x.holds + 1)⟩) :: l) w' := by
 obtain ⟨m, h⟩ := St.store.1 h
 obtain ⟨e, h⟩ := St.popen (h.f 1) hg
 obtain ⟨a, c, h⟩ := St.kept.1 h
 refine en func97 results97 ntmps97 ?_
 refine Y12 ?_; refine Y5 ?_; refine r_v (qq rfl (h.b 3) rfl) rfl ?_; refine Y0 ?_
 refine r_v (gu (h.f 2) rfl rfl) rfl ?_
 refine Y3c ?_; refine Y2v ?_; refine Y1p ?_; refine Yd ?_; refine Y2l ?_; refine r_v (qq rfl (h.b 0) rfl) rfl ?_; refine Y1f ?_; refine Yi ?_
 refine r_c rfl (qb 0 h rfl (show _ = Value.int _ _ from rfl) rfl rfl rfl rfl fun w h => ?_); simp only [Vf, Vm, Nat.reduceAdd, Uz, Vu, Xk, Wc, Wz, We, Up, Uw, Ui, Xs] at h
 refine Yn ?_; refine Y1p ?_; refine Y7 ?_
 refine qv (qk (bq1 ⟨rfl, St.store.2 ⟨m, ?_⟩⟩))
 exact (St.pclose (x := ⟨x.bs, IntKind.i64.wrap (x.holds + 1)⟩) (St.kept.2 ⟨a, c, h⟩)).f 1
theorem lu (id : Int) (h : St w0 (IsStore p S :: l) w) (hg : mget id S.l = none) : Ret prog 139 [.pz p, .iz id] w fun v w' => v = .tuple [.slice none 0 0, .bool false].toArray ∧ St w0 (IsStore p S :: l) w' := by
 obtain ⟨m, h⟩ := St.store.1 h
 refine en func139 results139 ntmps139 ?_
 refine Yu ?_; refine Y5 ?_; refine r_v (qq rfl (h.b 0) rfl) rfl ?_; refine Y0 ?_
 refine r_v (vg (h.f 1) rfl rfl hg) rfl ?_
 refine Y3c ?_; refine Y1h ?_; refine Yd ?_; refine Y3r ?_
 exact qv (qk (bq2 ⟨rfl, St.store.2 ⟨m, h⟩⟩))
theorem lk (id : Int) {x : Kept} (h : St w0 (IsStore p S :: l) w) (hg : mget id S.l = some x) (hn : x.bs.length <= 140737488355328) : Ret prog 139 [.pz p, .iz id] w fun v w' =>
  ∃ a c, v = .tuple [.slice a x.bs.length c, .bool true].toArray ∧ St w0 (Own 5 1 a x.bs.length c (bytesV x.bs) :: IsStore p S :: l) w' := by
 obtain ⟨m, h⟩ := St.store.1 h
 obtain ⟨e, h⟩ := St.popen (h.f 1) hg
 obtain ⟨a, c, h⟩ := St.kept.1 h
 refine en func139 results139 ntmps139 ?_
 refine Yu ?_; refine Y5 ?_; refine r_v (qq rfl (h.b 3) rfl) rfl ?_; refine Y0 ?_
 refine r_v (gu (h.f 2) rfl rfl) rfl ?_
 refine Y3c ?_; refine Y1h ?_; refine Yb ?_; refine Y5 ?_; refine r_v (qq rfl (h.b 0) rfl) rfl ?_
 refine r_c rfl (qg rfl (xr h (fun w' h' => (h'.f 1).own_rd) (bytesV_one _) hn) ?_)
 rintro _ w ⟨a', c', rfl, _, h⟩
 refine Yo ?_; refine Y7 ?_
 refine qv (qk (bq2 ⟨a', c', rfl, ?_⟩))
 exact (St.store.2 ⟨m, (St.psame hg (((St.kept.2 ⟨a, c, ((h.f 1).f 2).f 1⟩).f 2).f 1)).f 2⟩).f 1
def Sto.left (S : Sto) (id : Int) (x : Kept) : Sto :=
 if IntKind.i64.wrap (x.holds - 1) = 0 then { S with bytes := IntKind.i64.wrap (S.bytes - x.bs.length), l := mdel id S.l } else S.put id ⟨x.bs, IntKind.i64.wrap (x.holds - 1)⟩
theorem po (id : Int) (h : St w0 (IsStore p S :: l) w) (hg : mget id S.l = none) : Ret prog 127 [.pz p, .iz id] w fun v w' => v = .bool false ∧ St w0 (IsStore p S :: l) w' := by
 obtain ⟨m, h⟩ := St.store.1 h
 refine en func127 results127 ntmps127 ?_
 refine Y12 ?_; refine Y5 ?_; refine r_v (qq rfl (h.b 0) rfl) rfl ?_; refine Y0 ?_
 refine r_v (vg (h.f 1) rfl rfl hg) rfl ?_
 refine Y3c ?_; refine Y1h ?_; refine Y27 ?_; refine Y7 ?_
 exact qv (qk (bq1 ⟨rfl, St.store.2 ⟨m, h⟩⟩))
theorem pi (id : Int) {x : Kept} (h : St w0 (IsStore p S :: l) w) (hg : mget id S.l = some x) : Ret prog 127 [.pz p, .iz id] w fun v w' =>
  v = .bool true ∧ St w0 (IsStore p (S.left id x) :: l) w' := by
 obtain ⟨m, h⟩ := St.store.1 h
 obtain ⟨e, h⟩ := St.popen (h.f 1) hg
 obtain ⟨a, c, h⟩ := St.kept.1 h
 refine en func127 results127 ntmps127 ?_
 refine Y12 ?_; refine Y5 ?_; refine r_v (qq rfl (h.b 3) rfl) rfl ?_; refine Y0 ?_
 refine r_v (gu (h.f 2) rfl rfl) rfl ?_
 refine Y3c ?_; refine Y1h ?_; refine Yb ?_; refine Y5 ?_; refine r_v (qq rfl (h.b 0) rfl) rfl ?_; refine Y1l ?_; refine Yi ?_
 refine r_c rfl (qb 0 h rfl (show _ = Value.int _ _ from rfl) rfl rfl rfl rfl fun w h => ?_); simp only [Vf, Vm, Nat.reduceAdd, Uz, Vu, Xk, Wc, Wz, We, Up, Uw, Ui, Xs] at h
 refine Y2e ?_; refine Y5 ?_; refine r_v (qq rfl (h.b 0) rfl) rfl ?_; refine Yp ?_
 refine qv (qi (IntKind.i64.wrap (x.holds - 1) == 0) rfl (fun hz => ?_) (fun hz => ?_))
 ·have hz' : IntKind.i64.wrap (x.holds - 1) = 0 := by simpa using hz
  refine qf (jh (some 12) (fun w => St w0 _ w) O1 O1 h.drew fun w h => ?_)
  refine Y3 ?_; refine qj rfl rfl rfl rfl h (fun _ h => qh rfl (qq rfl (h.b 3) rfl)) ?_; refine Y3 ?_; refine qj rfl rfl rfl rfl h (fun _ h => qh rfl (qq rfl (h.b 0) rfl)) ?_; refine Y2x ?_; refine cpv rfl rfl rfl rfl h rfl (vi rfl rfl) ?_; refine Y2y ?_; refine Yg ?_
  refine jk 12 rfl rfl rfl ?_
  refine qb 3 h rfl (show _ = Value.int _ _ from rfl) rfl rfl rfl rfl fun w h => ?_
  simp only [Vf, Vm] at h
  refine Y2l ?_; refine r_v (qq rfl (h.b 3) rfl) rfl ?_; refine Y0 ?_
  refine r_c rfl (re (h.f 2) rfl rfl fun w h => ?_)
  refine Yn ?_; refine Y7 ?_
  refine qv (qk (bq1 ⟨rfl, ?_⟩))
  rw [Sto.left, if_pos hz']
  exact St.store.2 ⟨m, (((h.f 1).drop.f 1).drop).f 1⟩
 ·have hz' : ¬ IntKind.i64.wrap (x.holds - 1) = 0 := by simpa using hz
  refine Yl ?_; refine Y4f ?_
  refine qv (qk (bq1 ⟨rfl, ?_⟩))
  rw [Sto.left, if_neg hz']
  exact St.store.2 ⟨m, (St.pclose (x := ⟨x.bs, IntKind.i64.wrap (x.holds - 1)⟩) (St.kept.2 ⟨a, c, h⟩)).f 1⟩
theorem qqh {sl : Option Addr} {n c : Nat} {bs : List UInt8} (h : St w0 (IsStore p S :: l) w) (hr : ∀ w', St w0 l w' -> Rd w' 1 sl n (bytesV bs)) (hn : n <= 140737488355328) (hfree : mget (IntKind.i64.wrap (S.last + 1)) S.l = none) :
  Ret prog 145 [.pz p, .slice sl n c] w fun v w' =>
  if IntKind.i64.wrap (S.budget - IntKind.i64.wrap (S.bytes + S.charged)) < n then v = .tuple [.iz 0, .bool false].toArray ∧ St w0 (IsStore p S :: l) w'
  else v = .tuple [.iz (IntKind.i64.wrap (S.last + 1)), .bool true].toArray ∧
   St w0 (IsStore p ⟨S.budget, IntKind.i64.wrap (S.last + 1), IntKind.i64.wrap (S.bytes + n), S.charged, mset (IntKind.i64.wrap (S.last + 1)) ⟨bs, 1⟩ S.l⟩ :: l) w' := by
 obtain ⟨m, h⟩ := St.store.1 h
 have hbs : bs.length = n := by
  have := (hr w (h.drop.drop)).1
  rw [bytesV_len] at this; omega
 refine en func145 results145 ntmps145 ?_
 refine Y3z ?_
 refine qf (qf (jh none (fun w => St w0 (StoPt p m S :: PMap Value.iz m IsKept S.l :: l) w) O1 O1 h.drew fun w h => ?_))
 refine Y1x ?_; refine Y2x ?_; refine Y3 ?_; refine qj rfl rfl rfl rfl h (fun _ h => qh rfl (qq rfl (h.b 0) rfl)) ?_; refine Y1j ?_; refine Y11 ?_
 refine qd 7 rfl rfl rfl rfl ?_
 refine qg rfl (xy h) ?_
 rintro _ w ⟨rfl, h⟩
 refine ⟨fun _ => h, ?_⟩
 refine cpv rfl rfl rfl rfl h rfl (vi rfl rfl) (cpv rfl rfl rfl rfl h rfl (ki rfl rfl) ?_)
 refine qn ?_
 refine qi _ rfl (fun hc => ?_) (fun hc => ?_)
 ·have hc' : IntKind.i64.wrap (S.budget - IntKind.i64.wrap (S.bytes + S.charged)) < n := by simpa using hc
  refine Y3z ?_
  refine qk (bq2 ?_)
  rw [if_pos hc']
  exact ⟨rfl, St.store.2 ⟨m, h⟩⟩
 have hc' : ¬ IntKind.i64.wrap (S.budget - IntKind.i64.wrap (S.bytes + S.charged)) < n := by simpa using hc
 refine Yl ?_; refine Y5 ?_; refine r_v (qq rfl (h.b 0) rfl) rfl ?_; refine Y1f ?_; refine Yi ?_
 refine r_c rfl (qb 0 h rfl (show _ = Value.int _ _ from rfl) rfl rfl rfl rfl fun w h => ?_); simp only [Vf, Vm, Nat.reduceAdd, Uz, Vu, Xk, Wc, Wz, We, Up, Uw, Ui, Xs] at h
 refine Y2 ?_
 refine qf (jh (some 12) (fun w => St w0 _ w) O1 O1 h.drew fun w h => ?_)
 refine Y3 ?_; refine qj rfl rfl rfl rfl h (fun _ h => qh rfl (qq rfl (h.b 0) rfl)) ?_; refine Y3 ?_; refine qj rfl rfl rfl rfl h (fun _ h => qh rfl (qq rfl (h.b 0) rfl)) ?_; refine Y1x ?_; refine Y16 ?_
 refine qd 9 rfl rfl rfl rfl ?_
 refine qg rfl (xr h (fun w' h' => hr w' (h'.drop.drop)) (bytesV_one _) hn) ?_
 rintro _ w ⟨a, c', rfl, _, h⟩
 refine ⟨fun _ => h.drop, ?_⟩
 have h0 := h
 replace h := h0.drop
 refine cpv rfl rfl rfl rfl h rfl (qc rfl) ?_; refine Yq ?_
 refine qd 11 rfl rfl rfl rfl ?_
 refine jv h0 (show _ = Value.agg [.slice a n c', .iz 1].toArray from rfl) fun e w h0 => ⟨fun _ => h0.drop.drop, ?_⟩
 have h := h0.drop.drop
 refine Yg ?_
 refine jk 12 rfl rfl rfl ?_
 have h1 := (St.kept (x := ⟨bs, 1⟩)).2 ⟨a, c', by rw [hbs]; exact h0⟩
 refine rl ((h1.f 2).f 1) hfree rfl rfl rfl fun w h => ?_
 replace h := h.f 1
 refine Y5 ?_; refine r_v (qq rfl (h.b 0) rfl) rfl ?_; refine Y17 ?_; refine Y1f ?_; refine Yi ?_
 refine r_c rfl (qb 0 h rfl (show _ = Value.int _ _ from rfl) rfl rfl rfl rfl fun w h => ?_); simp only [Vf, Vm, Nat.reduceAdd, Uz, Vu, Xk, Wc, Wz, We, Up, Uw, Ui, Xs] at h
 refine Y2 ?_; refine Y5 ?_; refine r_v (qq rfl (h.b 0) rfl) rfl ?_; refine Y1n ?_
 refine qk (bq2 ?_)
 rw [if_neg hc']
 exact ⟨rfl, St.store.2 ⟨m, h⟩⟩
def Sto.charge (S : Sto) (n : Int) : Sto :=
 let k := if n < IntKind.i64.wrap (0 - S.charged) then IntKind.i64.wrap (0 - S.charged) else n
 { S with charged := IntKind.i64.wrap (S.charged + k) }
theorem pe (n : Int) (h : St w0 (IsStore p S :: l) w) : Ret prog 129 [.pz p, .iz n] w fun v w' =>
  if n > 0 ∧ n > IntKind.i64.wrap (S.budget - IntKind.i64.wrap (S.bytes + S.charged)) then v = .bool false ∧ St w0 (IsStore p S :: l) w'
  else v = .bool true ∧ St w0 (IsStore p (S.charge n) :: l) w' := by
 obtain ⟨m, h⟩ := St.store.1 h
 refine en func129 results129 ntmps129 ?_
 refine Y12 ?_
 refine qt (Γ := Unit) (fun _ => [(0, .pz p), (1, .iz n)]) (fun _ w => ¬ (n > 0 ∧ n > IntKind.i64.wrap (S.budget - IntKind.i64.wrap (S.bytes + S.charged))) ∧ St w0 (StoPt p m S :: PMap Value.iz m IsKept S.l :: l) w) ?_ ?_
 ·refine qf (jh none (fun w => St w0 (StoPt p m S :: PMap Value.iz m IsKept S.l :: l) w) O1 O1 h.drew fun w h => ?_)
  by_cases hn : n > 0
  ·have hn1 : decide (n > 0) = true := by simpa using hn
   refine Y18 ?_; refine cpv rfl rfl rfl rfl h rfl (ki rfl rfl) ?_; refine Yz ?_; refine qu rfl rfl rfl rfl (fun _ => h) (fun _ => ql rfl O14 (ku rfl)) (qu rfl rfl rfl rfl (fun _ => h) (fun _ => ql rfl O14 (jr rfl)) (qu rfl rfl rfl rfl (fun _ => h) (fun _ => ql rfl O14 (v7 rfl)) (qu rfl rfl rfl rfl (fun _ => h) (fun _ => ql rfl O14 (vm rfl)) ?_))); refine qj rfl rfl rfl rfl h (fun _ h => ql rfl O14 (qq rfl (h.b 0) rfl)) ?_; refine qu rfl rfl rfl rfl (fun _ => h) (fun _ => ql rfl O14 (jr rfl)) ?_; refine Y16 ?_
   refine qd 9 rfl rfl rfl (vd rfl rfl hn1) ?_
   refine qg rfl (xy h) ?_
   rintro _ w ⟨rfl, h⟩
   refine ⟨fun _ => h, ?_⟩
   refine qu rfl rfl rfl rfl (fun _ => h) (fun _ => ql rfl O14 (vi rfl rfl)) (qu rfl rfl rfl rfl (fun _ => h) (fun _ => ql rfl O14 (ki rfl rfl)) (cpv rfl rfl rfl rfl h rfl (ji rfl O14 rfl) ?_))
   refine qn ?_
   refine qi _ rfl (fun hc => ?_) (fun hc => ?_)
   ·have hc' : n > 0 ∧ n > IntKind.i64.wrap (S.budget - IntKind.i64.wrap (S.bytes + S.charged)) := ⟨hn, by simpa using hc⟩
    refine Y12 ?_
    refine qk (bq1 ?_)
    rw [if_pos hc']
    exact ⟨rfl, St.store.2 ⟨m, h⟩⟩
   ·refine qa ⟨(), zz2, fun h => ?_, h⟩
    have := h.2
    simp at hc
    omega
  ·have hn1 : decide (n > 0) = false := by simpa using hn
   refine Y18 ?_; refine cpv rfl rfl rfl rfl h rfl (ki rfl rfl) ?_; refine Yz ?_; refine qu rfl rfl rfl rfl (fun _ => h) (fun _ => qo rfl O14) (qu rfl rfl rfl rfl (fun _ => h) (fun _ => qo rfl O14) (qu rfl rfl rfl rfl (fun _ => h) (fun _ => qo rfl O14) (qu rfl rfl rfl rfl (fun _ => h) (fun _ => qo rfl O14) (qu rfl rfl rfl rfl (fun _ => h) (fun _ => qo rfl O14) (qu rfl rfl rfl rfl (fun _ => h) (fun _ => qo rfl O14) ?_))))); refine qu rfl rfl rfl rfl (fun _ => h) (fun _ => qo rfl O14) (qu rfl rfl rfl rfl (fun _ => h) (fun _ => qo rfl O14) (qu rfl rfl rfl rfl (fun _ => h) (fun _ => qo rfl O14) (cpv rfl rfl rfl rfl h rfl (jl rfl O14 rfl) ?_)))
   refine qn ?_
   refine qe rfl ?_
   refine qa ⟨(), zz2, fun h => hn h.1, h⟩
 ·rintro - w e ⟨hc, h⟩
  refine qt (Γ := Int) (fun k => [(0, .pz p), (1, .iz k)]) (fun k w => k = (if n < IntKind.i64.wrap (0 - S.charged) then IntKind.i64.wrap (0 - S.charged) else n) ∧ St w0 (StoPt p m S :: PMap Value.iz m IsKept S.l :: l) w) ?_ ?_
  ·refine Y8 ?_; refine Y1t ?_; refine r_v (qq rfl (h.b 0) rfl) rfl (r_v (sx rfl) rfl ?_); refine Y1u ?_; refine Y2 ?_
   refine qi _ rfl (fun hc => ?_) (fun hc => ?_)
   ·refine Y2l ?_; refine r_v (qq rfl (h.b 0) rfl) rfl (r_v (sx rfl) rfl ?_); refine Y6 ?_
    exact qv ⟨_, zz2, by rw [if_pos (by simpa using hc)], h⟩
   ·exact qa ⟨_, zz2, by rw [if_neg (by simpa using hc)], h⟩
  ·rintro k w e ⟨hk, h⟩
   refine Y5 ?_; refine r_v (qq rfl (h.b 0) rfl) rfl ?_; refine Y0 ?_; refine Y1f ?_; refine Yi ?_
   refine r_c rfl (qb 0 h rfl (show _ = Value.int _ _ from rfl) rfl rfl rfl rfl fun w h => ?_); simp only [Vf, Vm, Nat.reduceAdd, Uz, Vu, Xk, Wc, Wz, We, Up, Uw, Ui, Xs] at h
   refine Yn ?_; refine Ya ?_
   refine qk (bq1 ?_)
   rw [if_neg hc]
   refine ⟨rfl, St.store.2 ⟨m, ?_⟩⟩
   simp only [Sto.charge, <- hk]
   exact h
end
end
section
theorem x8 {w0 w : World} {l : List HProp} {sl : Option Addr} {n c : Nat} {xs : List Value} (h : St w0 l w) (hr : ∀ w', St w0 l w' -> Rd w' 5 sl n xs) (hx : ∀ u ∈ xs, u.oneCell' = true) (hn : n * 40 <= 140737488355328) : Ret prog 126 [.slice sl n c] w fun v w' => ∃ a c', v = .slice a n c' ∧ (a = none ↔ sl = none) ∧ St w0 (Own 168 5 a n c' xs :: l) w' := by
 refine en func126 results126 ntmps126 ?_
 refine Y2b ?_; refine Ye ?_
 refine r_v (ui rfl rfl) rfl ?_
 refine qv (qi sl.isNone rfl (fun hs => ?_) (fun hs => ?_))
 ·refine Y1b ?_
  obtain rfl : sl = none := by simpa using hs
  have h2 := hr w h
  obtain ⟨h3, h4⟩ := h2
  obtain rfl : n = 0 := by rcases h4 with h | ⟨b, o, h, _⟩; exact h; cases h
  obtain rfl : xs = [] := Un (by simpa using h3)
  refine qv (qk (bq1 ⟨none, 0, rfl, by simp, St.ownNil _ _ h⟩))
 ·refine Yl ?_; refine Y1 ?_
  refine r_c rfl (jg (r := []) h rfl rfl rfl fun b w h => ?_)
  refine Yj ?_
  have h1 : St w0 (Own 168 5 (sQ b) 0 0 [] :: l) w := St.own_mk (cur := []) h rfl rfl (Ug _)
  refine r_c rfl (q9 h1 rfl rfl (hr w h1.drop) hx (Uz n) (Up _) hn O0 rfl fun a c' w hn h => ?_)
  refine Yo ?_
  refine qv (qk (bq1 ⟨a, c', rfl, ?_, h⟩))
  exact ⟨(fun h => by cases hn h), (fun h => by rw [h] at hs; cases hs)⟩
theorem uq {w0 w : World} {l : List HProp} {sl : Option Addr} {n c : Nat} {xs : List Value} (h : St w0 l w) (hr : ∀ w', St w0 l w' -> Rd w' 2 sl n xs) (hx : ∀ u ∈ xs, u.oneCell' = true) (hn : n * 16 <= 140737488355328) : Ret prog 43 [.slice sl n c] w fun v w' => ∃ a c', v = .slice a n c' ∧ (a = none ↔ sl = none) ∧ St w0 (Own 57 2 a n c' xs :: l) w' := by
 refine en func43 results43 ntmps43 ?_
 refine Y2b ?_; refine Ye ?_
 refine r_v (ui rfl rfl) rfl ?_
 refine qv (qi sl.isNone rfl (fun hs => ?_) (fun hs => ?_))
 ·refine Y1b ?_
  obtain rfl : sl = none := by simpa using hs
  have h2 := hr w h
  obtain ⟨h3, h4⟩ := h2
  obtain rfl : n = 0 := by rcases h4 with h | ⟨b, o, h, _⟩; exact h; cases h
  obtain rfl : xs = [] := Un (by simpa using h3)
  refine qv (qk (bq1 ⟨none, 0, rfl, by simp, St.ownNil _ _ h⟩))
 ·refine Yl ?_; refine Y1 ?_
  refine r_c rfl (jg (r := []) h rfl rfl rfl fun b w h => ?_)
  refine Yj ?_
  have h1 : St w0 (Own 57 2 (sQ b) 0 0 [] :: l) w := St.own_mk (cur := []) h rfl rfl (Ug _)
  refine r_c rfl (q9 h1 rfl rfl (hr w h1.drop) hx (Uz n) (Up _) hn O0 rfl fun a c' w hn h => ?_)
  refine Yo ?_
  refine qv (qk (bq1 ⟨a, c', rfl, ?_, h⟩))
  exact ⟨(fun h => by cases hn h), (fun h => by rw [h] at hs; cases hs)⟩
structure SnapV where
 life : Int
 ver : Int
 frm : Int
 upto : Int
 pn : Nat
 pc : List Value
 tn : Nat
 tc : List Value
abbrev SnapV.cells (x : SnapV) (a1 : Option Addr) (c1 : Nat) (a2 : Option Addr) (c2 : Nat) : List Value := [.iz x.life, .iz x.ver, .iz x.frm, .iz x.upto, .slice a1 x.pn c1, .slice a2 x.tn c2]
structure SnapV.Wf (x : SnapV) : Prop where
 p1 : ∀ u ∈ x.pc, u.oneCell' = true
 t1 : ∀ u ∈ x.tc, u.oneCell' = true
 pn : x.pn * 40 <= 140737488355328
 tn : x.tn * 16 <= 140737488355328
structure One where
 series : Int
 told : Int
 x : SnapV
 used : Bool
 who : Int
abbrev One.cells (o : One) (a1 : Option Addr) (c1 : Nat) (a2 : Option Addr) (c2 : Nat) : List Value := [.iz o.series, .iz o.told, .iz o.x.life, .iz o.x.ver, .iz o.x.frm, .iz o.x.upto, .slice a1 o.x.pn c1, .slice a2 o.x.tn c2, .bool o.used, .iz o.who]
abbrev OwnP (x : SnapV) (a1 : Option Addr) (c1 : Nat) : HProp := Own 168 5 a1 x.pn c1 x.pc
abbrev OwnT (x : SnapV) (a2 : Option Addr) (c2 : Nat) : HProp := Own 57 2 a2 x.tn c2 x.tc
def IsOne (e : Nat) (o : One) : HProp := ex fun q : Option Addr × Nat × Option Addr × Nat => all [pt e (.cells (o.cells q.1 q.2.1 q.2.2.1 q.2.2.2).toArray 181 (0, 0)), OwnP o.x q.1 q.2.1, OwnT o.x q.2.2.1 q.2.2.2, lift o.x.Wf]
theorem St.one {w0 w : World} {l : List HProp} {e : Nat} {o : One} : St w0 (IsOne e o :: l) w ↔ o.x.Wf ∧ ∃ a1 c1 a2 c2, St w0 (pt e (.cells (o.cells a1 c1 a2 c2).toArray 181 (0, 0)) :: OwnP o.x a1 c1 :: OwnT o.x a2 c2 :: l) w := by
 unfold IsOne
 rw [St.ex]
 constructor
 ·rintro ⟨⟨a1, c1, a2, c2⟩, h⟩
  have h1 := (h.join.f 3)
  obtain ⟨hw, h2⟩ := St.lift.1 h1
  exact ⟨hw, a1, c1, a2, c2, h2⟩
 ·rintro ⟨hw, a1, c1, a2, c2, h⟩
  have h1 := (St.lift.2 ⟨hw, h⟩)
  have h2 : St w0 ([pt e (.cells (o.cells a1 c1 a2 c2).toArray 181 (0, 0)), OwnP o.x a1 c1, OwnT o.x a2 c2, lift o.x.Wf] ++ l) w := h1.of_all (by simp only [We, Up, jn]; ac_rfl)
  exact ⟨(a1, c1, a2, c2), St.fold _ h2⟩
structure Tab where
 last : Int
 l : List (Int × One)
abbrev TabPt (p m : Nat) (T : Tab) : HProp := pt p (.cells [.iz T.last, .map (some m)].toArray 100 (0, 0))
def IsTab (p : Nat) (T : Tab) : HProp := ex fun m : Nat => all [TabPt p m T, PMap Value.iz m IsOne T.l]
theorem St.tab {w0 w : World} {l : List HProp} {p : Nat} {T : Tab} : St w0 (IsTab p T :: l) w ↔ ∃ m, St w0 (TabPt p m T :: PMap Value.iz m IsOne T.l :: l) w := by
 unfold IsTab
 rw [St.ex]
 exact ⟨fun ⟨m, h⟩ => ⟨m, h.join⟩, fun ⟨m, h⟩ => ⟨m, St.fold [_, _] h⟩⟩
section
variable {w0 w : World} {l : List HProp} {p m : Nat} {T : Tab}
theorem du {x : SnapV} (wf : x.Wf) {a1 a2 : Option Addr} {c1 c2 : Nat} (h : St w0 l w) (hr1 : ∀ w', St w0 l w' -> Rd w' 5 a1 x.pn x.pc) (hr2 : ∀ w', St w0 l w' -> Rd w' 2 a2 x.tn x.tc) :
  Ret prog 99 [.agg (x.cells a1 c1 a2 c2).toArray] w fun v w' => ∃ a1' c1' a2' c2', v = .agg (x.cells a1' c1' a2' c2').toArray ∧ St w0 (OwnP x a1' c1' :: OwnT x a2' c2' :: l) w' := by
 refine en func99 results99 ntmps99 ?_
 refine Y1 ?_
 refine r_c rfl (jv h (show _ = Value.agg (x.cells a1 c1 a2 c2).toArray from rfl) fun b w h => ?_)
 refine r_c rfl (qp h fun r w h => ?_)
 replace h : St w0 (pt r _ :: pt b (.cells (x.cells a1 c1 a2 c2).toArray 87 (0, 0)) :: l) w := h
 refine Y2 ?_
 refine qf (jh (some 7) (fun w => St w0 _ w) O1 O1 h.drew fun w h => ?_)
 refine Yv ?_; refine qj rfl rfl rfl rfl h (fun _ h => qh rfl (qq rfl (h.b 1) rfl)) ?_; refine Yg ?_; refine Yv ?_; refine qj rfl rfl rfl rfl h (fun _ h => qh rfl (qq rfl (h.b 1) rfl)) ?_; refine Y3m ?_
 refine qd 2 rfl rfl rfl rfl ?_
 refine (qg rfl (x8 h (fun w' h' => hr1 w' h'.drop.drop) wf.p1 wf.pn) ?_)
 rintro _ w ⟨a1', c1', rfl, _, h1⟩
 refine ⟨fun _ => h1.drop, ?_⟩
 replace h := h1.drop
 refine Yg ?_; refine Yv ?_; refine Y11 ?_
 refine qd 5 rfl rfl rfl rfl ?_
 refine (qg rfl (uq h1 (fun w' h' => hr2 w' h'.drop.drop.drop) wf.t1 wf.tn) ?_)
 rintro _ w ⟨a2', c2', rfl, _, h2⟩
 refine ⟨fun _ => h2.drop.drop, ?_⟩
 replace h := h2.drop.drop
 refine Y11 ?_
 refine jy 7 (some 9) rfl rfl rfl rfl ?_
 refine qb 3 h2 rfl (show _ = Value.slice _ _ _ from rfl) rfl rfl rfl rfl fun w h => ?_
 refine jz h ?_
 refine Yv ?_; refine Yg ?_
 refine jk 9 rfl rfl rfl ?_
 refine qb 3 h rfl (show _ = Value.slice _ _ _ from rfl) rfl rfl rfl rfl fun w h => ?_
 replace h : St w0 (OwnT x a2' c2' :: OwnP x a1' c1' :: pt r _ :: pt b (.cells (x.cells a1' c1' a2' c2').toArray 87 (0, 0)) :: l) w := h
 refine Y1 ?_
 refine r_v (qx (l := x.cells a1' c1' a2' c2') rfl rfl (qw (h.b 3 rfl) rfl)) rfl ?_
 refine r_c rfl (qy (vs := x.cells a1' c1' a2' c2') 2 h rfl rfl rfl rfl rfl rfl rfl fun w h => ?_)
 replace h : St w0 (OwnT x a2' c2' :: OwnP x a1' c1' :: pt r (.cells (x.cells a1' c1' a2' c2').toArray 87 (0, 0)) :: _ :: l) w := h
 refine Y2 ?_
 refine qk (bqS1 (l := x.cells a1' c1' a2' c2') rfl rfl (qw (h.b 2 rfl) rfl) ⟨_, _, _, _, rfl, ?_⟩)
 exact ((h.f 2).drop.f 2).drop.f 1
theorem qqd (h : St w0 l w) : Ret prog 34 [] w fun v w' => ∃ p, v = .pz p ∧ St w0 (IsTab p ⟨0, []⟩ :: l) w' := by
 refine en func34 results34 ntmps34 ?_
 refine Y1 ?_; refine Y1i ?_; refine Yn ?_
 refine r_c rfl (ij Value.iz IsOne h fun m w h => ?_)
 refine r_v (qc rfl) rfl ?_
 refine r_c rfl (jv h rfl fun p w h => ?_)
 refine Y1i ?_
 refine qv (qk (bq1 ⟨p, rfl, ?_⟩))
 exact St.tab.2 ⟨m, h⟩
theorem fa (h : St w0 (IsTab p T :: l) w) : Ret prog 21 [.pz p] w fun v w' => v = .iz T.l.length ∧ St w0 (IsTab p T :: l) w' := by
 obtain ⟨m, h⟩ := St.tab.1 h
 refine en func21 results21 ntmps21 ?_
 refine Yr ?_; refine Y5 ?_; refine r_v (qq rfl (h.b 0) rfl) rfl ?_
 refine r_v (ri (h.f 1) rfl) rfl ?_
 refine Y4 ?_
 exact qk (bq1 ⟨rfl, St.tab.2 ⟨m, h⟩⟩)
theorem f7 {x : SnapV} (wf : x.Wf) {a1 a2 : Option Addr} {c1 c2 : Nat} (series : Int) (h : St w0 (IsTab p T :: l) w) (h8 : T.l.length < 8) (hfree : mget (T.last + 1) T.l = none) (hl0 : 0 <= T.last) (hl1 : T.last < 4611686018427387904)
  (hr1 : ∀ w', St w0 l w' -> Rd w' 5 a1 x.pn x.pc) (hr2 : ∀ w', St w0 l w' -> Rd w' 2 a2 x.tn x.tc) :
  Ret prog 64 [.pz p, .iz series, .agg (x.cells a1 c1 a2 c2).toArray] w fun v w' =>
  v = .tuple [.iz (T.last + 1), .bool true].toArray ∧ St w0 (IsTab p ⟨T.last + 1, mset (T.last + 1) ⟨series, 0, x, false, 0⟩ T.l⟩ :: l) w' := by
 obtain ⟨m, h⟩ := St.tab.1 h
 refine en func64 results64 ntmps64 ?_
 refine Y1 ?_
 refine r_c rfl (jv h (show _ = Value.agg (x.cells a1 c1 a2 c2).toArray from rfl) fun b w h => ?_)
 refine Y1n ?_; refine Y2n ?_; refine r_v (qq rfl (h.b 1) rfl) rfl ?_
 refine r_v (ri (h.f 2) rfl) rfl ?_
 refine Y1m ?_
 refine qz (.bool false) O6 ?_
 refine Yb ?_; refine Y5 ?_; refine r_v (qq rfl (h.b 1) rfl) rfl ?_; refine Y1f ?_
 refine qz (.iz (T.last + 1)) O11 ?_
 refine Yi ?_
 refine r_c rfl (qb 1 h rfl (show _ = Value.iz (T.last + 1) from rfl) rfl rfl rfl rfl fun w h => ?_)
 replace h : St w0 (pt b (.cells (x.cells a1 c1 a2 c2).toArray 87 (0, 0)) :: TabPt p m ⟨T.last + 1, T.l⟩ :: PMap Value.iz m IsOne T.l :: l) w := h
 refine Y2 ?_
 refine qf (jh (some 13) (fun w => St w0 _ w) O1 O1 h.drew fun w h => ?_)
 refine Y3 ?_; refine qj rfl rfl rfl rfl h (fun _ h => qh rfl (qq rfl (h.b 1) rfl)) ?_; refine Y3 ?_; refine qj rfl rfl rfl rfl h (fun _ h => qh rfl (qq rfl (h.b 1) rfl)) ?_; refine Y18 ?_
 refine qj rfl rfl rfl rfl h (fun _ h => qh rfl (qx (l := x.cells a1 c1 a2 c2) rfl rfl (qw (h.b 0 rfl) rfl))) ?_
 refine Y16 ?_
 refine qd 10 rfl rfl rfl rfl ?_
 refine (qg rfl (du wf h (fun w' h' => hr1 w' h'.drop.drop.drop) (fun w' h' => hr2 w' h'.drop.drop.drop)) ?_)
 rintro _ w ⟨a1', c1', a2', c2', rfl, h1⟩
 refine ⟨fun _ => h1.drop.drop, ?_⟩
 replace h := h1.drop.drop
 refine cpv rfl rfl rfl rfl h rfl (qc (r := (One.mk series 0 x false 0).cells a1' c1' a2' c2') rfl) ?_
 refine Yq ?_
 refine qd 12 rfl rfl rfl rfl ?_
 refine (jv h1 (show _ = Value.agg ((One.mk series 0 x false 0).cells a1' c1' a2' c2').toArray from rfl) fun q w h1 => ?_)
 refine ⟨fun _ => h1.drop.drop.drop, ?_⟩
 replace h := h1.drop.drop.drop
 refine Yg ?_
 refine jk 13 rfl rfl rfl ?_
 have h2 := (St.one (o := ⟨series, 0, x, false, 0⟩)).2 ⟨wf, a1', c1', a2', c2', h1⟩
 refine rl ((h2.f 3).f 1) hfree rfl rfl rfl fun w h => ?_
 replace h := h.f 2
 refine Y5 ?_; refine r_v (qq rfl (h.b 0) rfl) rfl ?_; refine Y1n ?_
 exact qk (bq2 ⟨rfl, St.tab.2 ⟨m, ((h.f 1).f 2).drop.f 1⟩⟩)
theorem ly (id who : Int) (h : St w0 (IsTab p T :: l) w) (hg : mget id T.l = none) : Ret prog 100 [.pz p, .iz id, .iz who] w fun v w' => v = .iz 3 ∧ St w0 (IsTab p T :: l) w' := by
 obtain ⟨m, h⟩ := St.tab.1 h
 refine en func100 results100 ntmps100 ?_
 refine Yr ?_; refine Y5 ?_; refine r_v (qq rfl (h.b 0) rfl) rfl ?_; refine Y0 ?_
 refine r_v (vg (h.f 1) rfl rfl hg) rfl ?_
 refine Y3c ?_; refine Y38 ?_; refine Y1 ?_; refine Y1g ?_; refine Y2k ?_; refine Yr ?_
 exact qk (bq1 ⟨rfl, St.tab.2 ⟨m, h⟩⟩)
theorem lz (id who : Int) {o : One} (h : St w0 (IsTab p T :: l) w) (hg : mget id T.l = some o) (hu : o.used = true) (hw : o.who ≠ who) :
  Ret prog 100 [.pz p, .iz id, .iz who] w fun v w' => v = .iz 8 ∧ St w0 (IsTab p T :: l) w' := by
 obtain ⟨m, h⟩ := St.tab.1 h
 obtain ⟨e0, h⟩ := St.popen (h.f 1) hg
 obtain ⟨wf, a1, c1, a2, c2, h⟩ := St.one.1 h
 obtain ⟨series, told, x, used, who'⟩ := o
 dsimp only at hu hw wf
 subst hu
 refine en func100 results100 ntmps100 ?_
 refine Yr ?_; refine Y5 ?_; refine r_v (qq rfl (h.b 4) rfl) rfl ?_; refine Y0 ?_
 refine r_v (gu (h.f 3) rfl rfl) rfl ?_
 refine Y3c ?_; refine Y38 ?_; refine Y1 ?_; refine Y1g ?_; refine Y39 ?_; refine Y5 ?_; refine r_v (qq rfl (h.b 0) rfl) rfl ?_; refine Y32 ?_; refine r_v (qq rfl (h.b 0) rfl) rfl ?_; refine Y33 ?_; refine Y1q ?_
 refine qz (.bool true) (by simp [hw]) ?_
 refine Yf ?_; refine Y2k ?_; refine Yr ?_
 exact qk (bq1 ⟨rfl, St.tab.2 ⟨m, (St.psame hg (St.one.2 ⟨wf, a1, c1, a2, c2, h⟩)).f 1⟩⟩)
theorem lx (id who : Int) {o : One} (h : St w0 (IsTab p T :: l) w) (hg : mget id T.l = some o) (hu : o.used = true -> o.who = who) :
  Ret prog 100 [.pz p, .iz id, .iz who] w fun v w' => v = .iz 0 ∧ St w0 (IsTab p ⟨T.last, mset id { o with used := true, who := who } T.l⟩ :: l) w' := by
 obtain ⟨m, h⟩ := St.tab.1 h
 obtain ⟨e0, h⟩ := St.popen (h.f 1) hg
 obtain ⟨wf, a1, c1, a2, c2, h⟩ := St.one.1 h
 obtain ⟨series, told, x, used, who'⟩ := o
 dsimp only at hu wf
 refine en func100 results100 ntmps100 ?_
 refine Yr ?_; refine Y5 ?_; refine r_v (qq rfl (h.b 4) rfl) rfl ?_; refine Y0 ?_
 refine r_v (gu (h.f 3) rfl rfl) rfl ?_
 refine Y3c ?_
 refine qt (Γ := Unit) (fun _ => [(2, .iz who), (7, .pz e0)]) (fun _ w => St w0 (pt e0 (.cells ((One.mk series told x used who').cells a1 c1 a2 c2).toArray 181 (0, 0)) :: OwnP x a1 c1 :: OwnT x a2 c2 :: PHole Value.iz m IsOne id e0 T.l :: TabPt p m T :: l) w) ?_ ?_
 ·refine Yh ?_; refine Y1 ?_; refine Y1g ?_; refine Y39 ?_
  cases used with
  | true =>
   have hu := hu rfl
   subst hu
   refine Y5 ?_; refine r_v (qq rfl (h.b 0) rfl) rfl ?_; refine Y32 ?_; refine r_v (qq rfl (h.b 0) rfl) rfl ?_; refine Y33 ?_; refine Y1q ?_
   refine qz (.bool false) O8 ?_
   refine Yf ?_; refine Y39 ?_
   exact qa ⟨(), zz2, h⟩
  | false =>
   refine Y5 ?_; refine r_v (qq rfl (h.b 0) rfl) rfl ?_; refine Y37 ?_; refine Y9 ?_; refine Y39 ?_
   exact qa ⟨(), zz2, h⟩
 clear h
 rintro ⟨⟩ w e h
 refine Y10 ?_; refine Y0 ?_; refine Yi ?_
 refine r_c rfl (qb 0 h rfl (show _ = Value.bool true from rfl) rfl rfl rfl rfl fun w h => ?_)
 refine Yi ?_
 refine r_c rfl (qb 0 h rfl (show _ = Value.iz who from rfl) rfl rfl rfl rfl fun w h => ?_)
 refine Yn ?_; refine Y4 ?_
 exact qk (bq1 ⟨rfl, St.tab.2 ⟨m, (St.pclose ((St.one (o := ⟨series, told, x, true, who⟩)).2 ⟨wf, a1, c1, a2, c2, h⟩)).f 1⟩⟩)
def One.by (o : One) (who : Int) : Prop := o.used = true ∧ o.who = who
theorem p6 (id who : Int) (h : St w0 (TabPt p m T :: PMap Value.iz m IsOne T.l :: l) w) (hg : ∀ o, mget id T.l = some o -> ¬ o.by who) :
  Ret prog 104 [.pz p, .iz id, .iz who] w fun v w' => v = .pointer none ∧ St w0 (TabPt p m T :: PMap Value.iz m IsOne T.l :: l) w' := by
 refine en func104 results104 ntmps104 ?_
 refine Y3k ?_; refine Y5 ?_; refine r_v (qq rfl (h.b 0) rfl) rfl ?_; refine Y0 ?_
 cases hgg : mget id T.l with
 | none =>
  refine r_v (vg (h.f 1) rfl rfl hgg) rfl ?_
  refine Y3c ?_; refine Y1h ?_; refine Y19 ?_; refine Y2d ?_; refine Yf ?_; refine Y37 ?_; refine Y1s ?_; refine Y3k ?_
  exact qk (bq1 ⟨rfl, h⟩)
 | some o =>
  have hno := hg o hgg
  obtain ⟨e0, h⟩ := St.popen (h.f 1) hgg
  obtain ⟨wf, a1, c1, a2, c2, h⟩ := St.one.1 h
  obtain ⟨series, told, x, used, who'⟩ := o
  unfold One.by at hno
  dsimp only at hno wf
  refine r_v (gu (h.f 3) rfl rfl) rfl ?_
  refine Y3c ?_; refine Y2v ?_
  cases used with
  | true =>
   refine Y1g ?_; refine Y32 ?_; refine r_v (qq rfl (h.b 0) rfl) rfl ?_; refine Y3u ?_; refine Y32 ?_; refine r_v (qq rfl (h.b 0) rfl) rfl ?_; refine Y33 ?_; refine Y1q ?_
   refine qz (.bool true) (by simp at hno; simp [hno]) ?_
   refine Y9 ?_; refine Y27 ?_; refine Y3g ?_
   exact qk (bq1 ⟨rfl, (St.psame hgg (St.one.2 ⟨wf, a1, c1, a2, c2, h⟩)).f 1⟩)
  | false =>
   refine Y1g ?_; refine Y32 ?_; refine r_v (qq rfl (h.b 0) rfl) rfl ?_; refine Y3u ?_; refine Y37 ?_; refine Y1s ?_; refine Y3k ?_
   exact qk (bq1 ⟨rfl, (St.psame hgg (St.one.2 ⟨wf, a1, c1, a2, c2, h⟩)).f 1⟩)
theorem dk (id who : Int) {o : One} (h : St w0 (TabPt p m T :: PMap Value.iz m IsOne T.l :: l) w) (hg : mget id T.l = some o) (hu : o.by who) :
  Ret prog 104 [.pz p, .iz id, .iz who] w fun v w' => ∃ e, v = .pz e ∧ St w0 (IsOne e o :: PHole Value.iz m IsOne id e T.l :: TabPt p m T :: l) w' := by
 obtain ⟨e0, h⟩ := St.popen (h.f 1) hg
 obtain ⟨wf, a1, c1, a2, c2, h⟩ := St.one.1 h
 obtain ⟨series, told, x, used, who'⟩ := o
 obtain ⟨hu, hw⟩ := hu
 dsimp only at hu hw wf
 subst hu hw
 refine en func104 results104 ntmps104 ?_
 refine Y3k ?_; refine Y5 ?_; refine r_v (qq rfl (h.b 4) rfl) rfl ?_; refine Y0 ?_
 refine r_v (gu (h.f 3) rfl rfl) rfl ?_
 refine Y3c ?_; refine Y1h ?_; refine Y32 ?_; refine r_v (qq rfl (h.b 0) rfl) rfl ?_; refine Y3u ?_; refine Y32 ?_; refine r_v (qq rfl (h.b 0) rfl) rfl ?_; refine Y33 ?_; refine Y1q ?_
 refine qz (.bool false) O8 ?_
 refine Y9 ?_; refine Yb ?_; refine Ym ?_; refine Y3g ?_
 exact qk (bq1 ⟨e0, rfl, St.one.2 ⟨wf, a1, c1, a2, c2, h⟩⟩)
theorem f8 (id who : Int) (h : St w0 (IsTab p T :: l) w) (hg : ∀ o, mget id T.l = some o -> ¬ o.by who) :
  Ret prog 102 [.pz p, .iz id, .iz who] w fun v w' => v = .bool false ∧ St w0 (IsTab p T :: l) w' := by
 obtain ⟨m, h⟩ := St.tab.1 h
 refine en func102 results102 ntmps102 ?_
 refine Y12 ?_; refine Ym ?_; refine Y30 ?_
 refine r_c rfl (qg rfl (p6 id who h hg) ?_)
 rintro _ w ⟨rfl, h⟩
 refine Y3d ?_; refine Yd ?_; refine Y12 ?_
 exact qk (bq1 ⟨rfl, St.tab.2 ⟨m, h⟩⟩)
theorem f9 (id who : Int) {o : One} (h : St w0 (IsTab p T :: l) w) (hg : mget id T.l = some o) (hu : o.by who) :
  Ret prog 102 [.pz p, .iz id, .iz who] w fun v w' => v = .bool true ∧ St w0 (IsTab p ⟨T.last, mset id { o with used := false } T.l⟩ :: l) w' := by
 obtain ⟨m, h⟩ := St.tab.1 h
 refine en func102 results102 ntmps102 ?_
 refine Y12 ?_; refine Ym ?_; refine Y30 ?_
 refine r_c rfl (qg rfl (dk id who h hg hu) ?_)
 rintro _ w ⟨e0, rfl, h⟩
 refine Y3d ?_; refine Yb ?_
 obtain ⟨wf, a1, c1, a2, c2, h⟩ := St.one.1 h
 refine Y5 ?_
 refine r_c rfl (qb 0 h rfl (show _ = Value.bool false from rfl) rfl rfl rfl rfl fun w h => ?_)
 refine Yn ?_; refine Ya ?_
 exact qk (bq1 ⟨rfl, St.tab.2 ⟨m, (St.pclose ((St.one (o := { o with used := false })).2 ⟨wf, a1, c1, a2, c2, h⟩)).f 1⟩⟩)
theorem oq (id who n : Int) (h : St w0 (IsTab p T :: l) w) (hg : ∀ o, mget id T.l = some o -> ¬ o.by who) :
  Ret prog 101 [.pz p, .iz id, .iz who, .iz n] w fun v w' => v = .bool false ∧ St w0 (IsTab p T :: l) w' := by
 obtain ⟨m, h⟩ := St.tab.1 h
 refine en func101 results101 ntmps101 ?_
 refine Y12 ?_; refine Ym ?_; refine Y30 ?_
 refine r_c rfl (qg rfl (p6 id who h hg) ?_)
 rintro _ w ⟨rfl, h⟩
 refine Y3d ?_; refine Yd ?_; refine Y12 ?_
 exact qk (bq1 ⟨rfl, St.tab.2 ⟨m, h⟩⟩)
theorem og (id who n : Int) {o : One} (h : St w0 (IsTab p T :: l) w) (hg : mget id T.l = some o) (hu : o.by who) :
  Ret prog 101 [.pz p, .iz id, .iz who, .iz n] w fun v w' => v = .bool true ∧ St w0 (IsTab p ⟨T.last, mset id { o with told := IntKind.i64.wrap (o.told + max n 0) } T.l⟩ :: l) w' := by
 obtain ⟨m, h⟩ := St.tab.1 h
 refine en func101 results101 ntmps101 ?_
 refine Y12 ?_; refine Ym ?_; refine Y30 ?_
 refine r_c rfl (qg rfl (dk id who h hg hu) ?_)
 rintro _ w ⟨e0, rfl, h⟩
 refine Y3d ?_; refine Yb ?_
 obtain ⟨wf, a1, c1, a2, c2, h⟩ := St.one.1 h
 refine Y5 ?_; refine r_v (qq rfl (h.b 0) rfl) rfl ?_; refine Y0 ?_; refine r_v (sw rfl rfl) rfl ?_; refine Y1f ?_; refine Yi ?_
 refine r_c rfl (qb 0 h rfl (show _ = Value.iz _ from rfl) rfl rfl rfl rfl fun w h => ?_)
 refine Yn ?_; refine Ya ?_
 exact qk (bq1 ⟨rfl, St.tab.2 ⟨m, (St.pclose ((St.one (o := { o with told := IntKind.i64.wrap (o.told + max n 0) })).2 ⟨wf, a1, c1, a2, c2, h⟩)).f 1⟩⟩)
abbrev snap0 : List Value := [.iz 0, .iz 0, .iz 0, .iz 0, .slice none 0 0, .slice none 0 0]
theorem p7 (id who : Int) {o : One} (h : St w0 (IsTab p T :: l) w) (hg : mget id T.l = some o) (hu : o.by who) :
  Ret prog 72 [.pz p, .iz id, .iz who] w fun v w' => ∃ a1 c1 a2 c2, v = .tuple [.agg (o.x.cells a1 c1 a2 c2).toArray, .bool true].toArray ∧
   St w0 (OwnP o.x a1 c1 :: OwnT o.x a2 c2 :: IsTab p ⟨T.last, mdel id T.l⟩ :: l) w' := by
 obtain ⟨m, h⟩ := St.tab.1 h
 refine en func72 results72 ntmps72 ?_
 refine Y1 ?_
 refine r_c rfl (qp h fun r w h => ?_)
 refine Ya ?_; refine Ym ?_; refine Y30 ?_
 refine r_c rfl (qg rfl (dk id who ((h.f 1).f 2 |>.f 1) hg hu) ?_)
 rintro _ w ⟨e0, rfl, h⟩
 refine Y3d ?_; refine Yb ?_
 obtain ⟨wf, a1, c1, a2, c2, h⟩ := St.one.1 h
 refine Y5 ?_; refine r_v (qq rfl (h.b 4) rfl) rfl ?_; refine Y0 ?_
 refine r_c rfl (re (h.f 3) rfl rfl fun w h => ?_)
 refine Y2 ?_
 replace h : St w0 (PMap Value.iz m IsOne (mdel id T.l) :: pt e0 (.cells (o.cells a1 c1 a2 c2).toArray 181 (0, 0)) :: OwnP o.x a1 c1 :: OwnT o.x a2 c2 :: TabPt p m T :: pt r _ :: l) w := h
 refine Y5 ?_
 refine r_v (qx (l := o.x.cells a1 c1 a2 c2) rfl rfl (qw (h.b 1 rfl) rfl)) rfl ?_
 refine r_c rfl (qy (vs := o.x.cells a1 c1 a2 c2) 5 h rfl rfl rfl rfl rfl rfl rfl fun w h => ?_)
 replace h : St w0 (PMap Value.iz m IsOne (mdel id T.l) :: pt e0 (.cells (o.cells a1 c1 a2 c2).toArray 181 (0, 0)) :: OwnP o.x a1 c1 :: OwnT o.x a2 c2 :: TabPt p m T :: pt r (.cells (o.x.cells a1 c1 a2 c2).toArray 87 (0, 0)) :: l) w := h
 refine Ya ?_
 refine qk (bqS2 (l := o.x.cells a1 c1 a2 c2) rfl rfl (qw (h.b 5 rfl) rfl) ⟨a1, c1, a2, c2, rfl, ?_⟩)
 replace h := ((h.f 5).drop.f 1).drop
 replace h : St w0 (TabPt p m ⟨T.last, mdel id T.l⟩ :: PMap Value.iz m IsOne (mdel id T.l) :: OwnP o.x a1 c1 :: OwnT o.x a2 c2 :: l) w := h.f 3
 exact ((St.tab.2 ⟨m, h⟩).f 2).f 2
theorem qqb (id : Int) (h : St w0 (IsTab p T :: l) w) (hg : mget id T.l = none) :
  Ret prog 65 [.pz p, .iz id] w fun v w' => v = .tuple [.iz 0, .agg snap0.toArray, .iz 0, .bool false].toArray ∧ St w0 (IsTab p T :: l) w' := by
 obtain ⟨m, h⟩ := St.tab.1 h
 refine en func65 results65 ntmps65 ?_
 refine Y13 ?_
 refine r_c rfl (qp h fun r w h => ?_)
 refine Y1n ?_; refine Y5 ?_; refine r_v (qq rfl (h.b 1) rfl) rfl ?_; refine Y0 ?_
 refine r_v (vg (h.f 2) rfl rfl hg) rfl ?_
 refine Y3c ?_; refine Y1h ?_; refine Y27 ?_
 refine r_v (qc (r := snap0) rfl) rfl ?_
 refine Y6 ?_
 refine r_c rfl (qy (vs := snap0) 0 h rfl rfl rfl rfl rfl rfl rfl fun w h => ?_)
 replace h : St w0 (pt r (.cells snap0.toArray 87 (0, 0)) :: TabPt p m T :: PMap Value.iz m IsOne T.l :: l) w := h
 refine Y1n ?_
 exact qk (bqS4 (l := snap0) rfl rfl (qw (h.b 0 rfl) rfl) ⟨rfl, St.tab.2 ⟨m, h.drop⟩⟩)
theorem qqs (id : Int) {o : One} (h : St w0 (IsTab p T :: l) w) (hg : mget id T.l = some o) :
  Ret prog 65 [.pz p, .iz id] w fun v w' => ∃ a1 c1 a2 c2, v = .tuple [.iz o.series, .agg (o.x.cells a1 c1 a2 c2).toArray, .iz o.told, .bool true].toArray ∧
   St w0 (OwnP o.x a1 c1 :: OwnT o.x a2 c2 :: IsTab p T :: l) w' := by
 obtain ⟨m, h⟩ := St.tab.1 h
 refine en func65 results65 ntmps65 ?_
 refine Y13 ?_
 refine r_c rfl (qp h fun r w h => ?_)
 refine Y1n ?_
 obtain ⟨e0, h⟩ := St.popen (h.f 2) hg
 obtain ⟨wf, a1, c1, a2, c2, h⟩ := St.one.1 h
 refine Y5 ?_; refine r_v (qq rfl (h.b 5) rfl) rfl ?_; refine Y0 ?_
 refine r_v (gu (h.f 3) rfl rfl) rfl ?_
 refine Y3c ?_; refine Y1h ?_; refine Yb ?_
 refine qf (jm [0, 1, 2, 3, 4, 5, 6, 7, 8, 11, 12, 13, 14, 9, 10, 15, 16] none (fun w => w.heap[e0]? = some (.cells (o.cells a1 c1 a2 c2).toArray 181 (0, 0))) O1 O1 ?_)
 replace h := h.drew
 generalize w.drew = w at h
 have hs := h
 replace h := hs.b 0 rfl
 refine Y3 ?_
 refine qj rfl rfl rfl rfl h (fun _ h => qh rfl (qq rfl h rfl)) ?_
 refine Y3 ?_
 refine qj rfl rfl rfl rfl h (fun _ h => qh rfl (qx (l := o.x.cells a1 c1 a2 c2) rfl rfl (qw h rfl))) ?_
 refine Yg ?_; refine Y3 ?_
 refine qj rfl rfl rfl rfl h (fun _ h => qh rfl (qq rfl h rfl)) ?_
 refine Y16 ?_
 refine qd 8 rfl rfl rfl rfl ?_
 refine (qg rfl (du wf hs (fun w' h' => (h'.f 1).own_rd) (fun w' h' => (h'.f 2).own_rd)) ?_)
 rintro _ w ⟨a1', c1', a2', c2', rfl, hs⟩
 refine ⟨fun _ => hs.b 2 rfl, ?_⟩
 replace h := hs.b 2 rfl
 refine Y2s ?_; refine Y11 ?_
 refine qd 14 rfl rfl rfl rfl ?_
 refine qy (vs := o.x.cells a1' c1' a2' c2') 6 hs rfl rfl rfl rfl rfl rfl rfl fun w hs => ?_
 refine ⟨fun _ => hs.b 2 rfl, ?_⟩
 replace h := hs.b 2 rfl
 refine Y2s ?_; refine Y1d ?_
 refine qn ?_
 replace h : St w0 (OwnP o.x a1' c1' :: OwnT o.x a2' c2' :: pt e0 (.cells (o.cells a1 c1 a2 c2).toArray 181 (0, 0)) :: OwnP o.x a1 c1 :: OwnT o.x a2 c2 :: PHole Value.iz m IsOne id e0 T.l :: pt r (.cells (o.x.cells a1' c1' a2' c2').toArray 87 (0, 0)) :: TabPt p m T :: l) w := hs
 refine qk (bqS4 (l := o.x.cells a1' c1' a2' c2') rfl rfl (qw (h.b 6 rfl) rfl) ⟨a1', c1', a2', c2', rfl, ?_⟩)
 replace h := (h.f 6).drop
 have h2 : St w0 (pt e0 (.cells (o.cells a1 c1 a2 c2).toArray 181 (0, 0)) :: OwnP o.x a1 c1 :: OwnT o.x a2 c2 :: PHole Value.iz m IsOne id e0 T.l :: TabPt p m T :: OwnP o.x a1' c1' :: OwnT o.x a2' c2' :: l) w := h.of_all (by simp only [jn]; ac_rfl)
 have h3 := (St.psame hg (St.one.2 ⟨wf, a1, c1, a2, c2, h2⟩)).f 1
 exact ((St.tab.2 ⟨m, h3⟩).f 2).f 2
end
end
section
section
variable {w0 w : World} {l : List HProp}
theorem ou {a : Option Addr} {n c : Nat} (h : St w0 l w) (hc : n <= c) : Ret prog 95 [.slice a n c] w fun v w' => v = .slice a n n ∧ St w0 l w' := by
 refine en func95 results95 ntmps95 ?_
 refine Y2c ?_; refine Ye ?_; refine Y17 ?_; refine Y17 ?_
 refine r_v (xv rfl rfl rfl (Ug _) hc) rfl ?_
 refine Yw ?_
 exact qk (bq1 ⟨rfl, h⟩)
theorem lw {a : Option Addr} {n c : Nat} (h : St w0 l w) (hc : n <= c) : Ret prog 96 [.slice a n c] w fun v w' => v = .slice a n n ∧ St w0 l w' := by
 refine en func96 results96 ntmps96 ?_
 refine Y2c ?_; refine Ye ?_; refine Y17 ?_; refine Y17 ?_
 refine r_v (xv rfl rfl rfl (Ug _) hc) rfl ?_
 refine Yw ?_
 exact qk (bq1 ⟨rfl, h⟩)
theorem si {x : SnapV} (wf : x.Wf) {a1 a2 : Option Addr} {c1 c2 : Nat} (h : St w0 l w) (hr2 : ∀ w', St w0 l w' -> Rd w' 2 a2 x.tn x.tc) :
  Ret prog 71 [.agg (x.cells a1 c1 a2 c2).toArray] w fun v w' => ∃ a c, v = .slice a x.tn c ∧ St w0 (OwnT x a c :: l) w' := by
 refine en func71 results71 ntmps71 ?_
 refine Y1 ?_
 refine r_c rfl (jv h (show _ = Value.agg (x.cells a1 c1 a2 c2).toArray from rfl) fun b w h => ?_)
 refine Yo ?_; refine Y3n ?_; refine r_v (qq rfl (h.b 0) rfl) rfl ?_
 refine r_c rfl (qg rfl (uq h (fun w' h' => hr2 w' h'.drop) wf.t1 wf.tn) ?_)
 rintro _ w ⟨a, c, rfl, _, h⟩
 refine Yw ?_
 exact qk (bq1 ⟨a, c, rfl, (h.f 1).drop⟩)
def Sto.leave (S : Sto) : List Prt -> Sto
 | [] => S
 | p :: ps => Sto.leave (match mget p.blob S.l with | none => S | some x => S.left p.blob x) ps
theorem Sto.leave_append (ps qs : List Prt) : ∀ S : Sto, S.leave (ps ++ qs) = (S.leave ps).leave qs := by
 induction ps with
 | nil => intro S; rfl
 | cons p ps ih => intro S; exact ih _
theorem y9 {p : Nat} {S : Sto} (id : Int) (h : St w0 (IsStore p S :: l) w) : Ret prog 127 [.pz p, .iz id] w fun v w' =>
  St w0 (IsStore p (match mget id S.l with | none => S | some x => S.left id x) :: l) w' := by
 cases hg : mget id S.l with
 | none => exact (po id h hg).mono fun _ _ h => h.2
 | some x => exact (pi id h hg).mono fun _ _ h => h.2
theorem dy {p : Nat} {S : Sto} {a : Option Addr} {n c : Nat} {Ps : List Prt} (h : St w0 (IsStore p S :: l) w) (hr : ∀ w', St w0 l w' -> Rd w' 5 a n (prtsV Ps)) (hn : n < 9223372036854775807) :
  Ret prog 98 [.pz p, .slice a n c] w fun v w' => v = .tuple #[] ∧ St w0 (IsStore p (S.leave Ps) :: l) w' := by
 have hl : Ps.length = n := (hr w h.drop).count v4 O2
 refine en func98 results98 ntmps98 ?_
 refine Y3l ?_
 refine jx (Γ := Nat) (fun k => [(0, .pz p), (6, .slice a n c), (7, .iz n), (8, .iz k)]) (fun k w => k <= n ∧ St w0 (IsStore p (S.leave (Ps.take k)) :: l) w) (fun k => n - k) 0 zz4 ⟨Ud _, h⟩ ?_
 clear h
 rintro k w e ⟨hk, h⟩
 refine Y14 ?_
 refine qf (qi (decide ((k : Int) < (n : Int))) rfl (fun hc => ?_) (fun hc => ?_))
 ·
  have hkn : k < n := by simp at hc; omega
  obtain ⟨b, o, rfl⟩ := (hr w h.drop).some O0
  have hget := Uc (show k < Ps.length by omega)
  generalize Ps[k] = q at hget
  refine Y36 ?_
  refine r_v (jb rfl rfl rfl hkn rfl) rfl ?_
  refine r_v (qx (l := q.cells) rfl rfl ((hr w h.drop).elem v4 hget)) rfl ?_
  refine r_c rfl (qp h fun r w h => ?_)
  refine r_c rfl (qy (vs := q.cells) 0 h rfl rfl rfl rfl rfl rfl rfl fun w h => ?_)
  replace h : St w0 (pt r (.cells q.cells.toArray 168 (0, 0)) :: IsStore p (S.leave (Ps.take k)) :: l) w := h
  refine Y49 ?_; refine Yk ?_
  refine r_v (qq (v := .iz q.blob) rfl (h.b 0) rfl) rfl ?_
  refine r_c rfl (qg rfl (y9 q.blob (h.f 1)) ?_)
  intro _ w h
  refine Y3h ?_
  refine qz (.iz ((k + 1 : Nat) : Int)) O7 ?_
  refine Y0 ?_
  refine qv ⟨k + 1, zz4, ⟨O_o, ?_⟩, O_o⟩
  have e1 : S.leave (Ps.take (k + 1)) = (match mget q.blob (S.leave (Ps.take k)).l with | none => S.leave (Ps.take k) | some x => (S.leave (Ps.take k)).left q.blob x) := by
   rw [Vl, hget, Sto.leave_append]; rfl
  rw [e1]
  exact (h.f 1).drop
 have hkn : k = n := by simp at hc; omega
 subst hkn
 refine ju ?_
 rw [Uv O0] at h
 exact (show (packv [] : Value) = .tuple #[] ∧ St w0 (IsStore p (S.leave Ps) :: l) w from ⟨rfl, h⟩)
def Sto.hold (S : Sto) : List Prt -> List Prt -> Bool × Sto
 | _, [] => (true, S)
 | done, p :: ps => match mget p.blob S.l with
  | none => (false, S.leave done)
  | some x => Sto.hold (S.put p.blob ⟨x.bs, IntKind.i64.wrap (x.holds + 1)⟩) (done ++ [p]) ps
theorem qj3 {w : World} {a : Option Addr} {n k : Nat} {Ps : List Prt} (h : Rd w 5 a n (prtsV Ps)) (hk : k <= n) : Rd w 5 a k (prtsV (Ps.take k)) := by
 have hl := h.count v4 O2
 refine ⟨by rw [flat_len v4, Us, Vs O0], ?_⟩
 rcases h.2 with h0 | ⟨b, o, rfl, hat⟩
 ·exact .inl O0
 ·refine .inr ⟨b, o, rfl, fun j v hj => hat j v ?_⟩
  have e : prtsV Ps = prtsV (Ps.take k) ++ prtsV (Ps.drop k) := by rw [<- Xm, Zl]
  rw [e, Wa (Uf.1 hj).1]
  exact hj
theorem sa {p : Nat} {S : Sto} {x : SnapV} {Ps : List Prt} (hx : x.pc = prtsV Ps) (hn : x.pn < 9223372036854775807) {a1 a2 : Option Addr} {c1 c2 : Nat} (hc1 : x.pn <= c1) (h : St w0 (IsStore p S :: l) w) (hr : ∀ w', St w0 l w' -> Rd w' 5 a1 x.pn x.pc) :
  Ret prog 63 [.pz p, .agg (x.cells a1 c1 a2 c2).toArray] w fun v w' => v = .bool (S.hold [] Ps).1 ∧ St w0 (IsStore p (S.hold [] Ps).2 :: l) w' := by
 obtain ⟨life, ver, frm, upto, n, pc, tn, tc⟩ := x
 dsimp only at hx hn hr hc1
 subst hx
 have hl : Ps.length = n := (hr w h.drop).count v4 O2
 refine en func63 results63 ntmps63 ?_
 refine Y1 ?_
 refine r_c rfl (jv h (show _ = Value.agg ((SnapV.mk life ver frm upto n (prtsV Ps) tn tc).cells a1 c1 a2 c2).toArray from rfl) fun r3 w h => ?_)
 replace h : St w0 (pt r3 (.cells ((SnapV.mk life ver frm upto n (prtsV Ps) tn tc).cells a1 c1 a2 c2).toArray 87 (0, 0)) :: IsStore p S :: l) w := h
 refine Ya ?_; refine Y2v ?_; refine Yk ?_; refine r_v (qq rfl (h.b 0) rfl) rfl ?_; refine Y15 ?_; refine Y20 ?_
 refine jx (Γ := Nat × Sto) (fun k => [(0, .pz p), (3, .pz r3), (8, .slice a1 n c1), (9, .iz n), (10, .iz k.1)])
  (fun k w => k.1 <= n ∧ S.hold [] Ps = k.2.hold (Ps.take k.1) (Ps.drop k.1) ∧ St w0 (pt r3 (.cells ((SnapV.mk life ver frm upto n (prtsV Ps) tn tc).cells a1 c1 a2 c2).toArray 87 (0, 0)) :: IsStore p k.2 :: l) w) (fun k => n - k.1) (0, S) zz5 ⟨Ud _, rfl, h⟩ ?_
 clear h
 rintro ⟨k, S'⟩ w e ⟨hk, hS, h⟩
 dsimp only at hk hS h ⊢
 refine Y14 ?_
 refine qf (qi (decide ((k : Int) < (n : Int))) rfl (fun hc => ?_) (fun hc => ?_))
 ·
  have hkn : k < n := by simp at hc; omega
  obtain ⟨b, o, rfl⟩ := (hr w h.drop.drop).some O0
  have hget := Uc (show k < Ps.length by omega)
  have hdrop : Ps.drop k = Ps[k] :: Ps.drop (k + 1) := Vz O0
  generalize Ps[k] = q at hget hdrop
  rw [hdrop] at hS
  refine Y1z ?_; refine Y8 ?_
  refine r_v (jb rfl rfl rfl hkn rfl) rfl ?_
  refine r_v (qx (l := q.cells) rfl rfl ((hr w h.drop.drop).elem v4 hget)) rfl ?_
  refine r_c rfl (qp h fun r w h => ?_)
  refine Y6 ?_
  refine r_c rfl (qy (vs := q.cells) 0 h rfl rfl rfl rfl rfl rfl rfl fun w h => ?_)
  replace h : St w0 (pt r (.cells q.cells.toArray 168 (0, 0)) :: pt r3 (.cells ((SnapV.mk life ver frm upto n (prtsV Ps) tn tc).cells (some ⟨b, o, none⟩) c1 a2 c2).toArray 87 (0, 0)) :: IsStore p S' :: l) w := h
  refine Y1a ?_; refine Yk ?_
  refine r_v (qq (v := .iz q.blob) rfl (h.b 0) rfl) rfl ?_
  cases hg : mget q.blob S'.l with
  | none =>
   have hS2 : S.hold [] Ps = (false, S'.leave (Ps.take k)) := by rw [hS]; simp only [Sto.hold, hg]
   refine r_c rfl (qg rfl (fi q.blob (h.f 2) hg) ?_)
   rintro _ w ⟨rfl, h⟩
   refine Yx ?_; refine Yd ?_; refine Ym ?_; refine Yk ?_
   refine r_v (qq (v := .slice (some ⟨b, o, none⟩) n c1) rfl (h.b 2) rfl) rfl ?_
   refine Y0 ?_
   refine r_v (kz rfl rfl O0) rfl ?_
   refine r_c rfl (qg rfl (dy h (fun w' h' => qj3 (hr w' h'.drop.drop) hk) O0) ?_)
   rintro _ w ⟨rfl, h⟩
   refine Yn ?_; refine Ya ?_
   refine qk (bq1 ⟨?_, ?_⟩)
   ·rw [hS2]; rfl
   ·rw [hS2]; exact ((h.f 1).drop.f 1).drop
  | some x =>
   refine r_c rfl (qg rfl (fe q.blob (h.f 2) hg) ?_)
   rintro _ w ⟨rfl, h⟩
   refine Y41 ?_; refine Yt ?_
   refine qz (.iz ((k + 1 : Nat) : Int)) O7 ?_
   refine Y0 ?_
   refine qv ⟨(k + 1, S'.put q.blob ⟨x.bs, IntKind.i64.wrap (x.holds + 1)⟩), zz5, ⟨O_d, ?_, ?_⟩, O_d⟩
   ·rw [hS]
    simp only [Sto.hold, hg, Vl, hget, Option.toList_some]
   ·exact ((h.f 1).drop).f 1
 have hkn : k = n := by simp at hc; omega
 subst hkn
 refine ju ?_
 rw [Vo O0] at hS
 refine Y12 ?_
 refine qk (bq1 ⟨?_, ?_⟩)
 ·rw [hS]; rfl
 ·rw [hS]; exact h.drop
theorem dz {p : Nat} {S : Sto} {x : SnapV} {Ps : List Prt} (hx : x.pc = prtsV Ps) (hn : x.pn < 9223372036854775807) {a1 a2 : Option Addr} {c1 c2 : Nat} (h : St w0 (IsStore p S :: l) w) (hr : ∀ w', St w0 l w' -> Rd w' 5 a1 x.pn x.pc) :
  Ret prog 73 [.pz p, .agg (x.cells a1 c1 a2 c2).toArray] w fun v w' => v = .tuple #[] ∧ St w0 (IsStore p (S.leave Ps) :: l) w' := by
 refine en func73 results73 ntmps73 ?_
 refine Y1 ?_
 refine r_c rfl (jv h (show _ = Value.agg (x.cells a1 c1 a2 c2).toArray from rfl) fun b w h => ?_)
 refine Y49 ?_; refine Yk ?_; refine r_v (qq rfl (h.b 0) rfl) rfl ?_
 refine r_c rfl (qg rfl (dy (h.f 1) (fun w' h' => hx ▸ hr w' h'.drop) hn) ?_)
 rintro _ w ⟨rfl, h⟩
 exact qv (bq0n ⟨rfl, (h.f 1).drop⟩)
end
end
section
structure SlotV where
 there : Bool
 closed : Bool
 life : Int
 ver : Int
 any : Bool
 last : Int
 opn : List Smp
 chunks : List Prt
abbrev SlotV.cells (x : SlotV) (a4 : Option Addr) (c4 : Nat) (a5 : Option Addr) (c5 : Nat) : List Value :=
 [.bool x.there, .bool x.closed, .iz x.life, .iz x.ver, .bool x.any, .iz x.last, .slice a4 x.opn.length c4, .slice a5 x.chunks.length c5]
def partsIn (f t : Int) (Ps : List Prt) : List Prt := Ps.filter fun p => decide (max p.frm f <= min p.upto t)
def tailIn (f t : Int) (L : List Smp) : List Smp := L.filter fun o => decide (o.T ≥ f) && decide (o.T <= t)
theorem partsIn_step (f t : Int) {Ps : List Prt} {k : Nat} {q : Prt} (h : Ps[k]? = some q) : partsIn f t (Ps.take (k + 1)) = if max q.frm f <= min q.upto t then partsIn f t (Ps.take k) ++ [q] else partsIn f t (Ps.take k) := by
 unfold partsIn
 rw [Vl, h, Kl]
 by_cases hc : max q.frm f <= min q.upto t
 ·rw [if_pos hc]; simp [hc]
 ·rw [if_neg hc]; simp [hc]
theorem tailIn_step (f t : Int) {L : List Smp} {k : Nat} {q : Smp} (h : L[k]? = some q) : tailIn f t (L.take (k + 1)) = if q.T ≥ f ∧ q.T <= t then tailIn f t (L.take k) ++ [q] else tailIn f t (L.take k) := by
 unfold tailIn
 rw [Vl, h, Kl]
 by_cases hc : q.T ≥ f ∧ q.T <= t
 ·rw [if_pos hc]; simp [hc.1, hc.2]
 ·rw [if_neg hc]
  have : (decide (q.T ≥ f) && decide (q.T <= t)) = false := by
   rw [Bool.and_eq_false_iff]
   simp only [decide_eq_false_iff_not]
   omega
  simp [this]
theorem partsIn_le (f t : Int) (Ps : List Prt) : (partsIn f t Ps).length <= Ps.length := Wx _ _
theorem tailIn_le (f t : Int) (L : List Smp) : (tailIn f t L).length <= L.length := Wx _ _
abbrev ofX (s : SlotV) (f t : Int) (P : List Prt) (T : List Smp) : SnapV := ⟨s.life, s.ver, f, t, P.length, prtsV P, T.length, smpsV T⟩
section
variable {w0 w : World} {l : List HProp}
theorem ip {s : SlotV} (f t : Int) {a4 a5 : Option Addr} {c4 c5 : Nat} (h : St w0 l w) (hr4 : ∀ w', St w0 l w' -> Rd w' 2 a4 s.opn.length (smpsV s.opn)) (hr5 : ∀ w', St w0 l w' -> Rd w' 5 a5 s.chunks.length (prtsV s.chunks))
  (hn4 : (s.opn.length + 1) * 16 <= 140737488355328) (hn5 : (s.chunks.length + 1) * 40 <= 140737488355328) :
  Ret prog 62 [.agg (s.cells a4 c4 a5 c5).toArray, .iz f, .iz t] w fun v w' => ∃ a1 a2, v = .agg ((ofX s f t (partsIn f t s.chunks) (tailIn f t s.opn)).cells a1 (partsIn f t s.chunks).length a2 (tailIn f t s.opn).length).toArray ∧
   St w0 (OwnP (ofX s f t (partsIn f t s.chunks) (tailIn f t s.opn)) a1 (partsIn f t s.chunks).length :: OwnT (ofX s f t (partsIn f t s.chunks) (tailIn f t s.opn)) a2 (tailIn f t s.opn).length :: l) w' := by
 refine en func62 results62 ntmps62 ?_
 refine Y1 ?_
 refine r_c rfl (jv h (show _ = Value.agg (s.cells a4 c4 a5 c5).toArray from rfl) fun r3 w h => ?_)
 replace h : St w0 (pt r3 (.cells (s.cells a4 c4 a5 c5).toArray 85 (0, 0)) :: l) w := h
 refine r_c rfl (qp h fun r6 w h => ?_)
 refine Y3n ?_; refine r_v (qq rfl (h.b 1) rfl) rfl ?_; refine Yk ?_; refine r_v (qq rfl (h.b 1) rfl) rfl ?_; refine Y30 ?_
 refine r_v (qc (r := (ofX s f t [] []).cells none 0 none 0) rfl) rfl ?_
 refine r_c rfl (qp h fun r7 w h => ?_)
 refine r_c rfl (qy (vs := (ofX s f t [] []).cells none 0 none 0) 0 h rfl rfl rfl rfl rfl rfl rfl fun w h => ?_)
 replace h : St w0 (pt r7 (.cells ((ofX s f t [] []).cells none 0 none 0).toArray 87 (0, 0)) :: pt r6 (.cells snap0.toArray 87 (0, 0)) :: pt r3 (.cells (s.cells a4 c4 a5 c5).toArray 85 (0, 0)) :: l) w := h
 refine Y2e ?_; refine Y26 ?_; refine r_v (qq rfl (h.b 2) rfl) rfl ?_; refine Y15 ?_; refine Y20 ?_
 refine jx (Γ := Nat × Option Addr × Nat × List Prt) (fun k => [(1, .iz f), (2, .iz t), (3, .pz r3), (6, .pz r6), (7, .pz r7), (20, .slice a5 s.chunks.length c5), (21, .iz s.chunks.length), (22, .iz k.1)])
  (fun k w => k.1 <= s.chunks.length ∧ k.2.2.2 = partsIn f t (s.chunks.take k.1) ∧ St w0 (Own 168 5 k.2.1 k.2.2.2.length k.2.2.1 (prtsV k.2.2.2) :: pt r7 (.cells ((ofX s f t k.2.2.2 []).cells k.2.1 k.2.2.1 none 0).toArray 87 (0, 0)) :: pt r6 (.cells snap0.toArray 87 (0, 0)) :: pt r3 (.cells (s.cells a4 c4 a5 c5).toArray 85 (0, 0)) :: l) w)
  (fun k => s.chunks.length - k.1) (0, none, 0, []) zz8 ⟨Ud _, rfl, St.ownNil _ _ h⟩ ?_
 clear h
 rintro ⟨k, a, c, P⟩ w e ⟨hk, hP, h⟩
 dsimp only at hk hP h ⊢
 refine Y14 ?_
 refine qf (qi (decide ((k : Int) < (s.chunks.length : Int))) rfl (fun hc => ?_) (fun hc => ?_))
 ·
  have hkn : k < s.chunks.length := by simp at hc; omega
  obtain ⟨b5, o5, rfl⟩ := (hr5 w h.drop.drop.drop.drop).some O0
  have hget := Uc hkn
  generalize s.chunks[k] = q at hget
  have hstep := partsIn_step f t hget
  have hPl : P.length <= s.chunks.length := by rw [hP]; exact Uy (partsIn_le _ _ _) O6
  refine Y36 ?_
  refine r_v (jb rfl rfl rfl hkn rfl) rfl ?_
  refine r_v (qx (l := q.cells) rfl rfl ((hr5 w h.drop.drop.drop.drop).elem v4 hget)) rfl ?_
  refine r_c rfl (qp h fun r9 w h => ?_)
  refine r_c rfl (qy (vs := q.cells) 0 h rfl rfl rfl rfl rfl rfl rfl fun w h => ?_)
  replace h : St w0 (pt r9 (.cells q.cells.toArray 168 (0, 0)) :: Own 168 5 a P.length c (prtsV P) :: pt r7 (.cells ((ofX s f t P []).cells a c none 0).toArray 87 (0, 0)) :: pt r6 (.cells snap0.toArray 87 (0, 0)) :: pt r3 (.cells (s.cells a4 c4 (some ⟨b5, o5, none⟩) c5).toArray 85 (0, 0)) :: l) w := h
  refine Y3n ?_
  refine r_v (qq (v := .iz q.frm) rfl (h.b 0) rfl) rfl ?_
  refine Y0 ?_; refine r_v (sw rfl rfl) rfl ?_; refine Yk ?_
  refine r_v (qq (v := .iz q.upto) rfl (h.b 0) rfl) rfl ?_
  refine Y0 ?_; refine Y4j ?_; refine Y3v ?_; refine Y2 ?_
  refine qi _ rfl (fun hc => ?_) (fun hc => ?_)
  ·
   have hin : max q.frm f <= min q.upto t := by simpa using hc
   rw [if_pos hin, <- hP] at hstep
   refine j2 ?_; refine Yk ?_
   refine r_v (qq (v := .slice a P.length c) rfl (h.b 2) rfl) rfl ?_
   refine r_v (qx (l := q.cells) rfl rfl (qw (h.b 0 rfl) rfl)) rfl ?_
   refine r_c rfl (jg (r := q.cells) h rfl rfl rfl fun bs w h => ?_)
   refine r_c rfl (q9 (ys := q.cells) (zs := prtsV (P ++ [q])) (m3 := (P ++ [q]).length) (h.f 2) rfl rfl ⟨rfl, .inr ⟨bs, 0, rfl, qw (h.b 0 rfl) rfl⟩⟩ (fun u hu => by have := v9 [q] u; simpa using this (by simpa using hu)) O8 (by simp [prtsV]) O6 O6 rfl fun a' c' w _ h => ?_)
   replace h : St w0 (Own 168 5 a' (P ++ [q]).length c' (prtsV (P ++ [q])) :: pt bs _ :: pt r9 _ :: pt r7 (.cells ((ofX s f t P []).cells a c none 0).toArray 87 (0, 0)) :: pt r6 (.cells snap0.toArray 87 (0, 0)) :: pt r3 (.cells (s.cells a4 c4 (some ⟨b5, o5, none⟩) c5).toArray 85 (0, 0)) :: l) w := h
   refine Yk ?_
   refine r_c rfl (qb 3 h rfl (show _ = Value.slice _ _ _ from rfl) rfl rfl rfl rfl fun w h => ?_)
   replace h := ((h.f 1).drop.f 1).drop
   refine Y3h ?_
   refine qz (.iz ((k + 1 : Nat) : Int)) O7 ?_
   refine Y0 ?_
   exact qv ⟨(k + 1, a', c', P ++ [q]), zz8, ⟨O_d, hstep.symm, h⟩, O_d⟩
  ·
   have hin : ¬ max q.frm f <= min q.upto t := by simpa using hc
   rw [if_neg hin, <- hP] at hstep
   refine Y47 ?_
   refine qz (.iz ((k + 1 : Nat) : Int)) O7 ?_
   refine Y0 ?_
   exact qv ⟨(k + 1, a, c, P), zz8, ⟨O_d, hstep.symm, h.drop⟩, O_d⟩
 have hkn : k = s.chunks.length := by simp at hc; omega
 rw [hkn, Uv (Ug _)] at hP
 clear hc hk hkn
 refine ju ?_
 refine Y2v ?_; refine Yk ?_; refine Yk ?_; refine r_v (qq rfl (h.b 3) rfl) rfl ?_; refine Y15 ?_; refine Y20 ?_
 refine jx (Γ := Nat × Option Addr × Nat × List Smp) (fun k => [(1, .iz f), (2, .iz t), (6, .pz r6), (7, .pz r7), (44, .slice a4 s.opn.length c4), (45, .iz s.opn.length), (46, .iz k.1)])
  (fun k w => k.1 <= s.opn.length ∧ k.2.2.2 = tailIn f t (s.opn.take k.1) ∧ St w0 (Own 57 2 k.2.1 k.2.2.2.length k.2.2.1 (smpsV k.2.2.2) :: pt r7 (.cells ((ofX s f t P k.2.2.2).cells a c k.2.1 k.2.2.1).toArray 87 (0, 0)) :: Own 168 5 a P.length c (prtsV P) :: pt r6 (.cells snap0.toArray 87 (0, 0)) :: l) w)
  (fun k => s.opn.length - k.1) (0, none, 0, []) zz7 ⟨Ud _, rfl, St.ownNil _ _ ((h.f 3).drop.f 1)⟩ ?_
 clear h
 rintro ⟨k, a', c', T⟩ w e ⟨hk, hT, h⟩
 dsimp only at hk hT h ⊢
 refine Y14 ?_
 refine qf (qi (decide ((k : Int) < (s.opn.length : Int))) rfl (fun hc => ?_) (fun hc => ?_))
 ·
  have hkn : k < s.opn.length := by simp at hc; omega
  have hcur := h
  obtain ⟨b4, o4, rfl⟩ := (hr4 w h.drop.drop.drop.drop).some O0
  replace h := hcur
  have hget := Uc hkn
  generalize s.opn[k] = q at hget
  have hstep := tailIn_step f t hget
  have hTl : T.length <= s.opn.length := by rw [hT]; exact Uy (tailIn_le _ _ _) O6
  refine Y36 ?_
  refine r_v (jb rfl rfl rfl hkn rfl) rfl ?_
  refine r_v (qx (l := q.cells) rfl rfl ((hr4 w h.drop.drop.drop.drop).elem j5 hget)) rfl ?_
  refine r_c rfl (qp h fun r11 w h => ?_)
  refine r_c rfl (qy (vs := q.cells) 0 h rfl rfl rfl rfl rfl rfl rfl fun w h => ?_)
  replace h : St w0 (pt r11 (.cells q.cells.toArray 57 (0, 0)) :: Own 57 2 a' T.length c' (smpsV T) :: pt r7 (.cells ((ofX s f t P T).cells a c a' c').toArray 87 (0, 0)) :: Own 168 5 a P.length c (prtsV P) :: pt r6 (.cells snap0.toArray 87 (0, 0)) :: l) w := h
  refine Y3n ?_
  refine r_v (qq (v := .iz q.T) rfl (h.b 0) rfl) rfl ?_
  refine Y0 ?_; refine Y1m ?_
  by_cases hge : q.T ≥ f
  ·refine qz (.bool true) (by simpa using hge) ?_
   refine Y1e ?_
   refine r_v (qq (v := .iz q.T) rfl (h.b 0) rfl) rfl ?_
   refine Y33 ?_; refine Y3v ?_; refine Yf ?_; refine Y2 ?_
   refine qi _ rfl (fun hc => ?_) (fun hc => ?_)
   ·
    have hin : q.T ≥ f ∧ q.T <= t := ⟨hge, by simpa using hc⟩
    rw [if_pos hin, <- hT] at hstep
    refine j2 ?_; refine Yk ?_
    refine r_v (qq (v := .slice a' T.length c') rfl (h.b 2) rfl) rfl ?_
    refine r_v (qx (l := q.cells) rfl rfl (qw (h.b 0 rfl) rfl)) rfl ?_
    refine r_c rfl (jg (r := q.cells) h rfl rfl rfl fun bs w h => ?_)
    refine r_c rfl (q9 (ys := q.cells) (zs := smpsV (T ++ [q])) (m3 := (T ++ [q]).length) (h.f 2) rfl rfl ⟨rfl, .inr ⟨bs, 0, rfl, qw (h.b 0 rfl) rfl⟩⟩ (fun u hu => by have := jt [q] u; simpa using this (by simpa using hu)) O8 (by simp [smpsV]) O6 O6 rfl fun a2 c2 w _ h => ?_)
    replace h : St w0 (Own 57 2 a2 (T ++ [q]).length c2 (smpsV (T ++ [q])) :: pt bs _ :: pt r11 _ :: pt r7 (.cells ((ofX s f t P T).cells a c a' c').toArray 87 (0, 0)) :: Own 168 5 a P.length c (prtsV P) :: pt r6 (.cells snap0.toArray 87 (0, 0)) :: l) w := h
    refine Yk ?_
    refine r_c rfl (qb 3 h rfl (show _ = Value.slice _ _ _ from rfl) rfl rfl rfl rfl fun w h => ?_)
    replace h := ((h.f 1).drop.f 1).drop
    refine Y3h ?_
    refine qz (.iz ((k + 1 : Nat) : Int)) O7 ?_
    refine Y0 ?_
    exact qv ⟨(k + 1, a2, c2, T ++ [q]), zz7, ⟨O_d, hstep.symm, h⟩, O_d⟩
   ·
    have hin : ¬ (q.T ≥ f ∧ q.T <= t) := fun h => by simp at hc; omega
    rw [if_neg hin, <- hT] at hstep
    refine Y47 ?_
    refine qz (.iz ((k + 1 : Nat) : Int)) O7 ?_
    refine Y0 ?_
    exact qv ⟨(k + 1, a', c', T), zz7, ⟨O_d, hstep.symm, h.drop⟩, O_d⟩
  ·refine qz (.bool false) (by simpa using hge) ?_
   refine Y19 ?_; refine Y9 ?_; refine Y24 ?_
   have hin : ¬ (q.T ≥ f ∧ q.T <= t) := fun h => hge h.1
   rw [if_neg hin, <- hT] at hstep
   refine Y47 ?_
   refine qz (.iz ((k + 1 : Nat) : Int)) O7 ?_
   refine Y0 ?_
   exact qv ⟨(k + 1, a', c', T), zz7, ⟨O_d, hstep.symm, h.drop⟩, O_d⟩
 have hkn : k = s.opn.length := by simp at hc; omega
 rw [hkn, Uv (Ug _)] at hT
 clear hc hk hkn
 refine ju ?_
 rw [<- hP, <- hT]
 have hcT := h.own_cases.2.1
 have hcP := (h.f 2).own_cases.2.1
 refine qf (jh (some 7) (fun w => St w0 _ w) O1 O1 h.drew fun w h => ?_)
 refine Yv ?_; refine qj rfl rfl rfl rfl h (fun _ h => qh rfl (qq rfl (h.b 1) rfl)) ?_; refine Yg ?_; refine Yv ?_; refine qj rfl rfl rfl rfl h (fun _ h => qh rfl (qq rfl (h.b 1) rfl)) ?_; refine Y3m ?_
 refine qd 2 rfl rfl rfl rfl ?_
 refine (qg rfl (ou h hcP) ?_)
 rintro _ w ⟨rfl, h⟩
 refine ⟨fun _ => h, ?_⟩
 refine Yg ?_; refine Yv ?_; refine Y11 ?_
 refine qd 5 rfl rfl rfl rfl ?_
 refine (qg rfl (lw h hcT) ?_)
 rintro _ w ⟨rfl, h⟩
 refine ⟨fun _ => h, ?_⟩
 refine Y11 ?_
 refine jy 7 (some 9) rfl rfl rfl rfl ?_
 refine qb 1 h rfl (show _ = Value.slice _ _ _ from rfl) rfl rfl rfl rfl fun w h => ?_
 refine jz h ?_
 refine Yv ?_; refine Yg ?_
 refine jk 9 rfl rfl rfl ?_
 refine qb 1 h rfl (show _ = Value.slice _ _ _ from rfl) rfl rfl rfl rfl fun w h => ?_
 replace h : St w0 (Own 57 2 a' T.length c' (smpsV T) :: pt r7 (.cells ((ofX s f t P T).cells a P.length a' T.length).toArray 87 (0, 0)) :: Own 168 5 a P.length c (prtsV P) :: pt r6 (.cells snap0.toArray 87 (0, 0)) :: l) w := h
 refine Y1 ?_
 refine r_v (qx (l := (ofX s f t P T).cells a P.length a' T.length) rfl rfl (qw (h.b 1 rfl) rfl)) rfl ?_
 refine r_c rfl (qy (vs := (ofX s f t P T).cells a P.length a' T.length) 3 h rfl rfl rfl rfl rfl rfl rfl fun w h => ?_)
 replace h : St w0 (Own 57 2 a' T.length c' (smpsV T) :: pt r7 _ :: Own 168 5 a P.length c (prtsV P) :: pt r6 (.cells ((ofX s f t P T).cells a P.length a' T.length).toArray 87 (0, 0)) :: l) w := h
 refine Y2 ?_
 refine qk (bqS1 (l := (ofX s f t P T).cells a P.length a' T.length) rfl rfl (qw (h.b 3 rfl) rfl) ⟨a, a', rfl, ?_⟩)
 replace h := ((h.f 3).drop.f 1).drop
 exact ((h.own_clip.f 1).own_clip)
end
end
end Go.Proofs.YtngdfdangkdgcaaGreatDoor
namespace Go.Hw
section
section
variable {P : Program} {e : Env} {w w0 : World} {K : Env -> World -> Prop} {l : List HProp}
variable {ty : TypeId} {pos : String} {af : Array Edge} {g : Option (Nat × Bool)}
end
end
section
section
variable {P : Program} {n : Nat} {ops : Array Oper} {Q : Post} {rest : List Oper} {e : Env} {w w0 : World} {l : List HProp}
end
end
section
section
variable {P : Program} {ops : Array Oper} {e : Env} {w : World} {d : Option Nat} {ty : TypeId} {pos : String} {af : Array Edge} {g : Option (Nat × Bool)}
end
end
section
def ordF : Nat -> List Nat -> List HProp -> List HProp
 | 0, _, l => l
 | _ + 1, [], l => l
 | n + 1, k :: ks, l => match l[k]? with
  | none => l
  | some P => P :: ordF n (ks.map fun j => bif Zy k j then j - 1 else j) (l.eraseIdx k)
theorem p8 : ∀ (n : Nat) (ks : List Nat) (l : List HProp), all (ordF n ks l) = all l
 | 0, _, _ => rfl
 | _ + 1, [], _ => rfl
 | n + 1, k :: ks, l => by
  rw [ordF]
  split
  ·rfl
  ·rename_i P hP
   rw [jn, p8 n, <- jn, <- uf k l hP, yy]
def dropN : Nat -> List HProp -> List HProp
 | 0, l => l
 | n + 1, _ :: l => dropN n l
 | _ + 1, [] => []
section
variable {w w0 : World} {l : List HProp}
theorem St.o (ks : List Nat) (h : St w0 l w) : St w0 (ordF ks.length ks l) w := h.of_all (p8 _ _ _).symm
theorem St.dropN : ∀ {n : Nat} {l : List HProp}, St w0 l w -> St w0 (dropN n l) w
 | 0, _, h => h
 | _ + 1, [], h => h
 | n + 1, _ :: l, h => St.dropN (n := n) (l := l) h.drop
theorem St.x (ks : List Nat) (h : St w0 l w) : St w0 (Hw.dropN ks.length (ordF ks.length ks l)) w := (h.o ks).dropN
end
end
section
section
variable {P : Program} {e : Env} {w : World} {K : Env -> World -> Prop} {d : Option Nat} {ty : TypeId} {pos : String} {af : Array Edge} {g : Option (Nat × Bool)}
theorem qj4 {x : Operand} {f : FuncId} (hx : ev e x = .func (.func f) #[] #[]) : Qv P e ⟨d, .move x, ty, pos, af, g⟩ w (.func (.func f) #[] #[]) := by
 unfold Qv; simp [execOp, hx]
theorem qj5 {c : Option Nat} {f : FuncId} {y : Operand} {xs : List Operand} {tys : Array TypeId} {vs : List Value} {φ : Value -> World -> Prop} [hf : FnB P f] (hy : ev e y = .func (.func f) #[] #[]) (hv : xs.map (ev e) = vs) (h : Ret P f vs w φ) (k : ∀ v w', φ v w' -> K (updO e c v) w') :
  Ex P ⟨c, .call ⟨.value y, xs.toArray, tys⟩, ty, pos, af, g⟩ e w K := by
 obtain ⟨fn, h1, h2, h3⟩ := hf.h
 have hb : fn.body.isNone = false := h3
 have hrun : (execOp (ev e) ⟨c, .call ⟨.value y, xs.toArray, tys⟩, ty, pos, af, g⟩).run P w = .ok (.enter f vs.toArray) w := by
  have hp : ∀ w, (program).run P w = .ok P w := fun _ => rfl
  simp only [execOp, resolve, hy, Deferred.ofValue, invoke, callFunc, Sem.run_bind, Sem.run_pure, Result.andThen_ok, hp, h1, h2, hb, Xg, hv]
  simp
 unfold Ret at h
 unfold Ex
 rw [hrun]
 exact Calls.mono h fun _ _ ⟨v, a, b⟩ => ⟨v, a, k _ _ b⟩
end
end
section
section
variable {P : Program} {e : Env} {w : World} {d : Option Nat} {ty : TypeId} {pos : String} {af : Array Edge} {g : Option (Nat × Bool)}
theorem qqm {f : FuncId} {fn : Func} {E : Array Value -> Sem Value} {xs : List Operand} {tys : Array TypeId} {vs : List Value} {v : Value} (hf : P.funcs[f]? = some fn) (hname : (fn.name == "runtime.NumGoroutine") = false)
  (hb : fn.body.isNone = true) (hn : Extern.findNext fn = none) (he : Extern.find fn = some E) (hv : xs.map (ev e) = vs) (hr : (E vs.toArray).run P w = .ok v w) : Qv P e ⟨d, .call ⟨.value (.func f), xs.toArray, tys⟩, ty, pos, af, g⟩ w v := by
 unfold Qv
 have h1 := run_callFunc_extern hf hname hb hn he vs.toArray w
 rw [hr] at h1
 simp only [execOp, resolve, ev, Deferred.ofValue, invoke, Sem.run_bind, Sem.run_pure, Result.andThen_ok, Xg, hv]
 simpa using h1
end
end
section
section
variable {P : Program} {e : Env} {w w0 : World} {K : Env -> World -> Prop} {l : List HProp}
variable {d : Option Nat} {ty : TypeId} {pos : String} {af : Array Edge} {g : Option (Nat × Bool)}
theorem oy {f : FuncId} {xs : List Operand} {vs : List Value} (hx : xs.map (ev e) = vs) : Qv P e ⟨d, .makeFunc (.func f) #[] xs.toArray, ty, pos, af, g⟩ w (.func (.func f) #[] vs.toArray) := by
 unfold Qv
 simp only [execOp, Instr.makeFunc, Xg, hx]
 rfl
theorem qj6 {x : Operand} {f : FuncId} {vs : List Value} (hx : ev e x = .func (.func f) #[] vs.toArray) : Qv P e ⟨d, .move x, ty, pos, af, g⟩ w (.func (.func f) #[] vs.toArray) := by
 unfold Qv; simp only [execOp, hx]; rfl
theorem qj7 {c : Option Nat} {f : FuncId} {y : Operand} {xs : List Operand} {tys : Array TypeId} {vs us : List Value} {φ : Value -> World -> Prop} [hf : FnB P f] (hy : ev e y = .func (.func f) #[] us.toArray) (hv : xs.map (ev e) = vs) (h : Ret P f (vs ++ us) w φ) (k : ∀ v w', φ v w' -> K (updO e c v) w') :
  Ex P ⟨c, .call ⟨.value y, xs.toArray, tys⟩, ty, pos, af, g⟩ e w K := by
 obtain ⟨fn, h1, h2, h3⟩ := hf.h
 have hb : fn.body.isNone = false := h3
 have hrun : (execOp (ev e) ⟨c, .call ⟨.value y, xs.toArray, tys⟩, ty, pos, af, g⟩).run P w = .ok (.enter f (vs ++ us).toArray) w := by
  have hp : ∀ w, (program).run P w = .ok P w := fun _ => rfl
  simp only [execOp, resolve, hy, Deferred.ofValue, invoke, callFunc, Sem.run_bind, Sem.run_pure, Result.andThen_ok, hp, h1, h2, hb, Xg, hv]
  simp
 unfold Ret at h
 unfold Ex
 rw [hrun]
 exact Calls.mono h fun _ _ ⟨v, a, b⟩ => ⟨v, a, k _ _ b⟩
theorem qqn {t el : TypeId} {tys : List TypeId} [hu : Und P t (.slice el)] {x : Operand} {a : Option Addr} {m c : Nat} (hx : ev e x = .slice a m c) :
  Qv P e ⟨d, .call ⟨.builtin .cap, [x].toArray, (t :: tys).toArray⟩, ty, pos, af, g⟩ w (.iz (c : Int)) := by
 unfold Qv
 have hu := hu.h
 simp [execOp, resolve, hx, invoke, builtin, Builtin.cap_, run_underlying hu, goInt]
theorem q_cut3 {t T : TypeId} [ht : Und P t (.slice T)] {z : List Value} {agg : Bool} {bytes : Nat} [hi : Inf P T z agg bytes] {x y y' y2 : Operand} {a : Option Addr} {m c i j h : Nat} {k k' k2 : IntKind}
  (hx : ev e x = .slice a m c) (hy : ev e y = .int k (i : Int)) (hy' : ev e y' = .int k' (j : Int)) (hy2 : ev e y2 = .int k2 (h : Int)) (h1 : i <= j) (h2 : j <= h) (h3 : h <= c) : Qv P e ⟨d, .slice t x (some y) (some y') (some y2), ty, pos, af, g⟩ w (.slice (adv a (i * z.length) (Nat.beq h i)) (j - i) (h - i)) := by
 unfold Qv
 have hz := hi.sizeOf w
 have e1 : (Instr.sliceBound (.int k2 (h : Int)) c .slice3Acap).run P w = .ok h w := by
  simp [Instr.sliceBound, asIntOf, h3]
 have e2 : (Instr.sliceBound (.int k' (j : Int)) h .slice3B).run P w = .ok j w := by
  simp [Instr.sliceBound, asIntOf, h2]
 have e2' : (Instr.sliceBound (.int k (i : Int)) j .slice3C).run P w = .ok i w := by
  simp [Instr.sliceBound, asIntOf, h1]
 have e3 : (Instr.sliceBounds true m c (some (.int k (i : Int))) (some (.int k' (j : Int))) (some (.int k2 (h : Int)))).run P w = .ok (i, j, h) w := by
  simp [Instr.sliceBounds, e1, e2, e2']
 have key : (Instr.sliceAt t (.slice a m c) (some (.int k (i : Int))) (some (.int k' (j : Int))) (some (.int k2 (h : Int)))).run P w = .ok (.slice (adv a (i * z.length) (Nat.beq h i)) (j - i) (h - i)) w := by
  simp [Instr.sliceAt, Instr.slice, run_underlying ht.h, e3, hz, adv]
 simp only [execOp, hx, hy, hy', hy2, Kg, Xa, Sem.run_bind, key, Result.andThen_ok]; rfl
section
variable {T sz n c : Nat} {a : Option Addr} {xs : List Value}
theorem St.own_take (h : St w0 (Own T sz a n c xs :: l) w) {i : Nat} (hi : i <= n) : St w0 (Own T sz a i c (xs.take (i * sz)) :: l) w := by
 refine h.mono ?_
 rintro p ⟨h1, h2, h3⟩
 have hle : i * sz <= n * sz := Ut _ hi
 refine ⟨by rw [Us]; omega, O_o, ?_⟩
 rcases h3 with h3 | ⟨g, cur, e1, e2, e3, e4⟩
 ·exact .inl h3
 ·refine .inr ⟨g, cur, e1, e2, ?_, e4⟩
  rw [<- e3, List.take_take, Vs hle]
theorem St.own_ext (h : St w0 (Own T sz a n c xs :: l) w) {m : Nat} (hm : n <= m) (hc : m <= c) : ∃ ys, ys.length = (m - n) * sz ∧ St w0 (Own T sz a m c (xs ++ ys) :: l) w := by
 obtain ⟨h1, h2, ⟨rfl, rfl, rfl, h5⟩ | ⟨g, cur, rfl, h5, h6, h7⟩⟩ := h.own_cases
 ·obtain rfl : m = 0 := by omega
  have : xs = [] := Un (by simpa using h1)
  subst this
  exact ⟨[], by simp, h5.ownNil T sz⟩
 ·have hle : m * sz <= c * sz := Ut _ hc
  have hle2 : n * sz <= m * sz := Ut _ hm
  refine ⟨(cur.drop (n * sz)).take ((m - n) * sz), ?_, St.own_mk' h7 h5 ?_ hc⟩
  ·rw [Us, Uq, Nat.sub_mul]; omega
  ·rw [<- h6, show m * sz = n * sz + (m - n) * sz by rw [Nat.sub_mul]; omega, List.take_add]
def putAt (xs : List Value) (o : Nat) (ys : List Value) : List Value := xs.take o ++ ys ++ xs.drop (o + ys.length)
theorem St.own_store (h : St w0 (Own T sz a n c xs :: l) w) {g o : Nat} (ha : a = some ⟨g, 0, none⟩) {ys : List Value} (ho : o + ys.length <= n * sz) (h1 : ∀ u ∈ ys, u.oneCell' = true) :
  ∃ w', (storeCells ⟨g, o, none⟩ ys).run P w = .ok () w' ∧ St w0 (Own T sz a n c (putAt xs o ys) :: l) w' := by
 obtain ⟨h2, h3, ⟨rfl, _⟩ | ⟨g', cur, e, h5, h6, h7⟩⟩ := h.own_cases
 ·cases ha
 ·subst ha
  cases e
  have hle : n * sz <= c * sz := Ut _ h3
  have hst := run_storeCells_at P g o T ys 0 cur.toArray w h7.hd.1 (by simp only [Wu]; omega) h1
  simp only [Wm] at hst
  have h8 : St w0 (pt g (.cells (cur.take o ++ ys ++ cur.drop (o + ys.length)).toArray T (0, 0)) :: l) (w.setRow g (cur.take o ++ ys ++ cur.drop (o + ys.length)).toArray) :=
   h7.put rfl rfl rfl O8 (fun k hk => setRow_other w g k _ hk) (setRow_heap w g _ _ T (0, 0) h7.hd.1)
  refine ⟨_, ?_, St.own_mk' h8 (c := c) ?_ ?_ h3⟩
  ·rw [hst]
  ·simp only [Ua, Us, Uq]; omega
  ·unfold putAt
   rw [<- h6]
   have e1 : (cur.take (n * sz)).take o = cur.take o := by rw [List.take_take, Vs O0]
   rw [e1, List.drop_take]
   have e2 : (cur.take o ++ ys).length = o + ys.length := by simp only [Ua, Us]; omega
   rw [Kc, e2, Uv O0]
theorem ng {cc : Nat} {t t2 : TypeId} [ht : Und P t (.slice T)] {z : List Value} {agg : Bool} {bytes : Nat} [hi : Inf P T z agg bytes] {x y : Operand} {a2 : Option Addr} {g' m m2 c1 c2 o : Nat} {ys : List Value} (h : St w0 (Own T sz a n c xs :: l) w)
  (hx : ev e x = .slice (some ⟨g', o, none⟩) m c1) (ha : a = some ⟨g', 0, none⟩) (hy : ev e y = .slice a2 m2 c2) (hr : Rd w sz a2 m2 ys) (h1 : ∀ u ∈ ys.take (min m2 m * sz), u.oneCell' = true) (ho : o + (min m2 m) * sz <= n * sz) (hz : z.length = sz)
  (k : ∀ w', St w0 (Own T sz a n c (putAt xs o (ys.take (min m2 m * sz))) :: l) w' -> K (upd e cc (.iz (min m2 m : Nat))) w') : Ex P ⟨some cc, .call ⟨.builtin .copy, [x, y].toArray, [t, t2].toArray⟩, ty, pos, af, g⟩ e w K := by
 subst hz
 have hr' : Rd w z.length a2 (min m2 m) (ys.take (min m2 m * z.length)) := by
  obtain ⟨r1, r2⟩ := hr
  have hle : min m2 m * z.length <= m2 * z.length := Ut _ (Nat.min_le_left ..)
  refine ⟨by rw [Us]; omega, ?_⟩
  rcases r2 with r2 | ⟨b, o, r2, r3⟩
  ·exact .inl O0
  ·exact .inr ⟨b, o, r2, fun j v hj => r3 j v (by rw [Kh] at hj; split at hj; exact hj; cases hj)⟩
 have hf : (Builtin.firstCells z.length (min m2 m) (.slice a2 m2 c2)).run P w = .ok (ys.take (min m2 m * z.length)).toArray w := by
  have := hr'.first (P := P) c2
  cases a2 <;> exact this
 obtain ⟨w', e1, h2⟩ := h.own_store (P := P) (ys := ys.take (min m2 m * z.length)) (o := o) ha (by
  have : (ys.take (min m2 m * z.length)).length <= min m2 m * z.length := by rw [Us]; omega
  omega) h1
 refine x_w (v := .iz (min m2 m : Nat)) (w' := w') ?_ (k w' h2)
 have hs := hi.sizeOf w
 have e0 : Nat.min m2 m = min m2 m := rfl
 simp [execOp, resolve, hx, hy, invoke, builtin, Builtin.copy_, run_underlying ht.h, Builtin.lenOf, hs, e0, hf, e1, goInt]
theorem qj8 {cc : Option Nat} {t : TypeId} [ht : Und P t (.slice T)] {z : List Value} {agg : Bool} {bytes : Nat} [hi : Inf P T z agg bytes] {x : Operand} {g' m c1 o : Nat} (h : St w0 (Own T sz a n c xs :: l) w)
  (hx : ev e x = .slice (some ⟨g', o, none⟩) m c1) (ha : a = some ⟨g', 0, none⟩) (ho : o = n * sz) (hm : n + m <= c) (hz : z.length = sz) (hz1 : ∀ u ∈ z, u.oneCell' = true)
  (k : ∀ w', St w0 (Own T sz a n c xs :: l) w' -> K (updO e cc (.tuple #[])) w') : Ex P ⟨cc, .call ⟨.builtin .clear, [x].toArray, [t].toArray⟩, ty, pos, af, g⟩ e w K := by
 subst hz ha ho
 have hzv := hi.zeroValue w
 have hzc := hi.cells
 rcases Wq m with h0 | h0
 ·subst h0
  refine x_w (v := .tuple #[]) (w' := w) ?_ (k w h)
  simp [execOp, resolve, hx, invoke, builtin, Builtin.clear_, run_underlying ht.h]
 ·obtain ⟨h2, h3, ⟨e0, _⟩ | ⟨g2, cur, e0, h5, h6, h7⟩⟩ := h.own_cases
  ·cases e0
  ·cases e0
   have hle : (n + m) * z.length <= c * z.length := Ut _ hm
   rw [Vi] at hle
   have hzl : (Builtin.zeroCells z.toArray m).toList.length = m * z.length := by rw [zeroCells_len]; simp
   have hone : ∀ u ∈ (Builtin.zeroCells z.toArray m).toList, u.oneCell' = true := by
    intro u hu
    simp only [Builtin.zeroCells, Array.toList_map, Vb, Array.mem_toList_iff, Array.mem_range] at hu
    obtain ⟨j, hj, rfl⟩ := hu
    simp only [Wu] at hj
    have hz0 : 0 < z.length := by rcases Wq z.length with h | h; simp [h] at hj; exact h
    have hlt : j % z.length < z.length := Vr _ hz0
    have e1 : z.toArray[j % z.toArray.size]! = z[j % z.length] := by simp [hlt]
    rw [e1]
    exact hz1 _ (Zz _)
   have hst := run_storeCells_at P g' (n * z.length) T (Builtin.zeroCells z.toArray m).toList 0 cur.toArray w h7.hd.1 (by simp only [Wu, hzl]; omega) hone
   simp only [Wm] at hst
   have h8 : St w0 (pt g' (.cells (cur.take (n * z.length) ++ (Builtin.zeroCells z.toArray m).toList ++ cur.drop (n * z.length + (Builtin.zeroCells z.toArray m).toList.length)).toArray T (0, 0)) :: l) (w.setRow g' (cur.take (n * z.length) ++ (Builtin.zeroCells z.toArray m).toList ++ cur.drop (n * z.length + (Builtin.zeroCells z.toArray m).toList.length)).toArray) :=
    h7.put rfl rfl rfl O8 (fun k hk => setRow_other w g' k _ hk) (setRow_heap w g' _ _ T (0, 0) h7.hd.1)
   have h9 : St w0 (Own T z.length (sQ g') n c xs :: l) _ := St.own_mk' h8 (c := c) (by simp only [Ua, Us, Uq, hzl]; omega) (by
    rw [Um, Kc, List.take_take, Nat.min_self, h6, h2, Zb, Xk, Uw]) h3
   refine x_w (v := .tuple #[]) (w' := w.setRow g' (cur.take (n * z.length) ++ (Builtin.zeroCells z.toArray m).toList ++ cur.drop (n * z.length + (Builtin.zeroCells z.toArray m).toList.length)).toArray) ?_ (k _ h9)
   obtain ⟨m, rfl⟩ : ∃ m', m = m' + 1 := ⟨m - 1, O_o⟩
   generalize (if agg then Value.agg z.toArray else z.getD 0 undef) = zz at hzv hzc
   simp [execOp, resolve, hx, invoke, builtin, Builtin.clear_, run_underlying ht.h, hzv, hzc, hst]
theorem qqp {cc : Nat} {t : TypeId} [ht : Und P t (.slice T)] {z : List Value} {agg : Bool} {bytes : Nat} [hi : Inf P T z agg bytes] {x y : Operand} {a2 : Option Addr} {g' m2 m3 c2 : Nat} {ys zs : List Value} (h : St w0 (Own T sz a n c xs :: l) w)
  (ha : a = some ⟨g', 0, none⟩) (hx : ev e x = .slice a n c) (hy : ev e y = .slice a2 m2 c2) (hr : Rd w sz a2 m2 ys) (h1 : ∀ u ∈ ys, u.oneCell' = true) (hm : n + m2 = m3) (hc : m3 <= c) (hzs : xs ++ ys = zs) (hz : z.length = sz)
  (k : ∀ w', St w0 (Own T sz a m3 c zs :: l) w' -> K (upd e cc (.slice a m3 c)) w') : Ex P ⟨some cc, .call ⟨.builtin .append, [x, y].toArray, [t, t].toArray⟩, ty, pos, af, g⟩ e w K := by
 subst hm hzs hz ha
 obtain ⟨h2, h3, ⟨e0, _⟩ | ⟨g2, cur, e0, h5, h6, h7⟩⟩ := h.own_cases
 ·cases e0
 ·cases e0
  have hrun := run_append_fit (P := P) (ty := ty) (n := n) (m := m2) (c2 := c2) ht.h hi h7.hd.1 h5 hr hc h1
  have hle : (n + m2) * z.length <= c * z.length := Ut _ hc
  rw [Vi] at hle
  have h8 : St w0 (pt g' (.cells (cur.take (n * z.length) ++ ys ++ cur.drop (n * z.length + ys.length)).toArray T (0, 0)) :: l) (w.setRow g' (cur.take (n * z.length) ++ ys ++ cur.drop (n * z.length + ys.length)).toArray) :=
   h7.put rfl rfl rfl O8 (fun k hk => setRow_other w g' k _ hk) (setRow_heap w g' _ _ T (0, 0) h7.hd.1)
  have h9 : St w0 (Own T z.length (sQ g') (n + m2) c (xs ++ ys) :: l) (w.setRow g' (cur.take (n * z.length) ++ ys ++ cur.drop (n * z.length + ys.length)).toArray) := by
   refine St.own_mk' h8 (c := c) ?_ ?_ hc
   ·simp only [Ua, Us, Uq, hr.1]; omega
   ·rw [h6]
    exact List.take_left' (by rw [Ua, h2, hr.1, Vi])
  refine x_w (v := .slice (sQ g') (n + m2) c) ?_ (k _ h9)
  simp [execOp, resolve, hx, hy, invoke, builtin, hrun]
theorem x_appZ {cc : Nat} {t u : TypeId} [ht : Und P t (.slice T)] (hu : P.underlying u = some (.int .i64)) {z : List Value} {agg : Bool} {bytes : Nat} [hi : Inf P T z agg bytes] {x y : Operand} {m k' c1 : Nat} (h : St w0 l w)
  (hx : ev e x = .slice a m c1) (hy : ev e y = .iz (k' : Int)) (hr : Rd w sz a m xs) (hg : c1 < m + k') (hb : (m + k') * bytes <= 140737488355328) (h63 : m + k' <= 9223372036854775807) (hz : z.length = sz)
  (k : ∀ b c2 ys w', ys.length = k' * sz -> St w0 (Own T sz (sQ b) (m + k') c2 (xs ++ ys) :: l) w' -> K (upd e cc (.slice (sQ b) (m + k') c2)) w') : Ex P ⟨some cc, .call ⟨.builtin .append, [x, y].toArray, [t, u].toArray⟩, ty, pos, af, g⟩ e w K := by
 subst hz
 obtain ⟨i, h1, h2, h3, h4⟩ := hi.get
 subst h4
 have hfx := (show Rd w.drew z.length a m xs from hr).first (P := P) c1
 have hge : m + k' <= grownCap w (m + k') c1 T := by simp [grownCap, Question.cut]
 have hfit := growslice_fits hg hb
 have hzc := hi.cells
 have hn1 : ¬ (m + k' <= c1) := by omega
 have hn2 : ¬ ((9223372036854775807 : Int) < (m : Int) + (k' : Int)) := by omega
 have hn3 : ¬ (281474976710656 < Builtin.nextslicecap (m + k') c1 * i.bytes) := by omega
 have hkb : k' * i.bytes <= (m + k') * i.bytes := Ut _ O0
 have hw : IntKind.i64.wrap (k' : Int) = (k' : Int) := by unfold IntKind.wrap; simp [IntKind.signed, IntKind.bits]; omega
 have hn4 : ¬ ((281474976710656 : Int) < (k' : Int) * (i.bytes : Int)) := by
  rw [<- Int.natCast_mul]; omega
 have hn5 : ¬ ((k' : Int) < 0) := by omega
 have hzl : (Builtin.zeroCells z.toArray k').toList.length = k' * z.length := by rw [zeroCells_len]; simp
 rw [<- h3] at hfx
 have hap : (Builtin.append_ #[t, u] ty #[.slice a m c1, .iz (k' : Int)]).run P w = .ok (.slice (some ⟨w.heap.size, 0, none⟩) (m + k') (grownCap w (m + k') c1 T)) (w.drew.alloc (.cells (xs ++ (Builtin.zeroCells z.toArray k').toList ++ (Builtin.zeroCells z.toArray (grownCap w (m + k') c1 T - (m + k'))).toList).toArray T)) := by
  generalize (if agg then Value.agg z.toArray else z.getD 0 undef) = zz at h2 hzc
  have ha : ∀ w, (asInt (.iz (k' : Int))).run P w = .ok (k' : Int) w := fun _ => rfl
  by_cases hz0 : k' * i.size = 0
  ·have e0 : (Builtin.zeroCells z.toArray k') = #[] := by
    apply Array.eq_empty_of_size_eq_zero
    have := hzl
    rw [Array.length_toList] at this
    rw [this, <- h3]; exact hz0
   simp [Builtin.append_, run_underlying ht.h, run_underlying hu, sizeOf, typeInfo, zeroValue, h1, h2, ha, hw, hn1, hn2, hn3, hn4, hn5, hz0, Question.forced, newRow, hfx, grownCap, hzc, e0]
   congr 2
   apply Array.ext'
   simp
  ·simp [Builtin.append_, run_underlying ht.h, run_underlying hu, sizeOf, typeInfo, zeroValue, h1, h2, ha, hw, hn1, hn2, hn3, hn4, hn5, hz0, Question.forced, newRow, hfx, grownCap, hzc]
   congr 2
   apply Array.ext'
   simp
 refine x_w (v := .slice (some ⟨w.heap.size, 0, none⟩) (m + k') (grownCap w (m + k') c1 T)) ?_ (k _ _ (Builtin.zeroCells z.toArray k').toList _ hzl (St.own_mk ((h.drew).alloc (.cells (xs ++ (Builtin.zeroCells z.toArray k').toList ++ (Builtin.zeroCells z.toArray (grownCap w (m + k') c1 T - (m + k'))).toList).toArray T)) (c := grownCap w (m + k') c1 T) ?_ ?_ hge))
 ·simp [execOp, resolve, hx, hy, invoke, builtin, hap]
 ·simp only [Ua, zeroCells_len, hr.1, Wu]
  rw [<- Vi, <- Vi]
  congr 1; omega
 ·exact List.take_left' (by rw [Ua, hzl, hr.1, Vi])
end
end
end
section
structure Key3 where
 series : Int
 life : Int
 blob : Int
deriving DecidableEq
structure Pg where
 key : Key3
 kind : Int
 ref : Bool
 trial : Bool
 pins : Int
deriving DecidableEq
def Pg.hot (p : Pg) : Bool := p.kind == 1
def Pg.test (p : Pg) : Bool := p.kind == 3
def Pg.resident (p : Pg) : Bool := p.kind == 1 || p.kind == 2
def Pg.free (p : Pg) : Bool := p.resident && p.pins == 0
def Pg.coldFree (p : Pg) : Bool := p.kind == 2 && p.pins == 0
def Pg.Ok (p : Pg) : Prop := (p.kind = 1 ∨ p.kind = 2 ∨ p.kind = 3) ∧ 0 <= p.pins ∧ (p.kind = 3 -> p.pins = 0)
structure Clk where
 most : Int
 target : Int
 pages : List Pg
 hot : Nat
 cold : Nat
 test : Nat
namespace Clk
def count (q : Clk) (f : Pg -> Bool) : Nat := q.pages.countP f
def goneH (i n h : Nat) : Nat := if (if h > i then h - 1 else h) ≥ n then 0 else (if h > i then h - 1 else h)
def goes (q : Clk) (i : Nat) : Clk := ⟨q.most, q.target, q.pages.eraseIdx i, goneH i (q.pages.length - 1) q.hot, goneH i (q.pages.length - 1) q.cold, goneH i (q.pages.length - 1) q.test⟩
def aim (q : Clk) (n : Int) : Clk := ⟨q.most, min (max (q.target + n) 1) q.most, q.pages, q.hot, q.cold, q.test⟩
def setP (q : Clk) (i : Nat) (p : Pg) : Clk := ⟨q.most, q.target, q.pages.set i p, q.hot, q.cold, q.test⟩
def onHot (q : Clk) : Clk := ⟨q.most, q.target, q.pages, (q.hot + 1) % q.pages.length, q.cold, q.test⟩
def onCold (q : Clk) : Clk := ⟨q.most, q.target, q.pages, q.hot, (q.cold + 1) % q.pages.length, q.test⟩
def onTest (q : Clk) : Clk := ⟨q.most, q.target, q.pages, q.hot, q.cold, (q.test + 1) % q.pages.length⟩
def hotAt (q : Clk) (p : Pg) : Clk × Bool :=
 if p.kind = 3 then ((q.goes q.hot).aim (-1), false)
 else if p.kind = 1 then (if p.ref then ((q.setP q.hot { p with ref := false }).onHot, false) else ((q.setP q.hot { p with kind := 2, ref := false, trial := false }).onHot, true))
 else ((q.setP q.hot { p with trial := false }).onHot, false)
def hotRun : Nat -> Clk -> Clk
 | 0, q => q
 | k + 1, q => match q.pages[q.hot]? with
  | none => q
  | some p => if (q.hotAt p).2 then (q.hotAt p).1 else hotRun k (q.hotAt p).1
def hotTurns (q : Clk) : Clk := if q.count Pg.hot = 0 then q else hotRun ((q.pages.length + 1) * (q.pages.length + 1)) q
def testAt (q : Clk) (p : Pg) : Clk × Bool :=
 if p.kind = 3 then ((q.goes q.test).aim (-1), true)
 else if p.kind = 2 ∧ p.trial = true then (((q.setP q.test { p with trial := false }).aim (-1)).onTest, false)
 else (q.onTest, false)
def testRun : Nat -> Clk -> Clk
 | 0, q => q
 | k + 1, q => match q.pages[q.test]? with
  | none => q
  | some p => if (q.testAt p).2 then (q.testAt p).1 else testRun k (q.testAt p).1
def testTurns (q : Clk) : Clk := if q.count Pg.test = 0 then q else testRun (q.pages.length + 1) q
def coolRun : Nat -> Clk -> Clk
 | 0, q => q
 | k + 1, q => if (q.count Pg.hot : Int) > q.most - q.target then coolRun k q.hotTurns else q
def cool (q : Clk) : Clk := coolRun (q.pages.length + 1) q
def warmRun : Nat -> Clk -> Clk
 | 0, q => q
 | k + 1, q => if q.count Pg.coldFree = 0 then warmRun k q.hotTurns else q
def warm (q : Clk) : Clk := warmRun (q.pages.length + 1) q
def shedRun : Nat -> Clk -> Clk
 | 0, q => q
 | k + 1, q => if (q.count Pg.test : Int) > q.most then shedRun k q.testTurns else q
def shed (q : Clk) : Clk := shedRun (q.pages.length + 1) q
def putOut (q : Clk) (p : Pg) : Clk := (if p.trial then (q.setP q.cold { p with kind := 3 }).onCold else q.goes q.cold).shed
def coldAt (q : Clk) (p : Pg) : Clk × Option Key3 :=
 if p.coldFree = false then (q.onCold, none)
 else if p.ref then (if p.trial then (((q.setP q.cold { p with kind := 1, ref := false, trial := false }).onCold).cool, none) else ((q.setP q.cold { p with ref := false, trial := true }).onCold, none))
 else (q.putOut p, some p.key)
def coldRun : Nat -> Clk -> Clk × Option Key3
 | 0, q => (q, none)
 | k + 1, q => match q.warm.pages[q.warm.cold]? with
  | none => (q, none)
  | some p => match q.warm.coldAt p with
   | (q', some key) => (q', some key)
   | (q', none) => coldRun k q'
def coldFuel (q : Clk) : Nat := (q.pages.length + 2) * (2 * q.pages.length + 4)
def coldTurns (q : Clk) : Clk × Option Key3 := coldRun q.coldFuel q
def find (q : Clk) (k : Key3) : Option Nat := q.pages.findIdx? (fun p => p.key == k)
def comes (q : Clk) (p : Pg) : Clk :=
 if q.pages = [] then ⟨q.most, q.target, [p], 0, 0, 0⟩
 else ⟨q.most, q.target, q.pages.take q.hot ++ p :: q.pages.drop q.hot, q.hot + 1, if q.cold ≥ q.hot then q.cold + 1 else q.cold, if q.test ≥ q.hot then q.test + 1 else q.test⟩
def new (most : Int) : Clk := ⟨min (max most 1) 1000, 1, [], 0, 0, 0⟩
def touch (q : Clk) (k : Key3) : Clk × Bool := match q.find k with
 | none => (q, false)
 | some i => match q.pages[i]? with
  | none => (q, false)
  | some p => if p.resident then (q.setP i { p with ref := true }, true) else (q, false)
def pin (q : Clk) (k : Key3) (n : Int) : Clk × Bool := match q.find k with
 | none => (q, false)
 | some i => match q.pages[i]? with
  | none => (q, false)
  | some p => if p.resident then (q.setP i { p with pins := max (p.pins + n) 0 }, true) else (q, false)
def drop (q : Clk) (k : Key3) : Clk × Bool := match q.find k with
 | none => (q, false)
 | some i => (q.goes i, true)
def room (q : Clk) : Clk × List Key3 := if (q.count Pg.resident : Int) ≥ q.most then (q.coldTurns.1, q.coldTurns.2.toList) else (q, [])
def lets (q : Clk) (k : Key3) : Clk × List Key3 × Bool :=
 if (q.touch k).2 then ((q.touch k).1, [], true)
 else if (q.count Pg.resident : Int) ≥ q.most ∧ q.count Pg.free = 0 then (q, [], false)
 else
  let q1 := match q.find k with
   | none => q
   | some i => (q.goes i).aim 1
  let p : Pg := if (q.find k).isSome then ⟨k, 1, false, false, 0⟩ else ⟨k, 2, false, true, 0⟩
  ((q1.room.1.comes p).cool, q1.room.2, true)
structure Wf (q : Clk) : Prop where
 most : 1 <= q.most ∧ q.most <= 1000
 target : 1 <= q.target ∧ q.target <= q.most
 kinds : ∀ p ∈ q.pages, p.Ok
 hot : q.hot < max q.pages.length 1
 cold : q.cold < max q.pages.length 1
 test : q.test < max q.pages.length 1
end Clk
end
section
def rot (l : List Pg) (h : Nat) : List Pg := l.drop h ++ l.take h
theorem kn {l : List Pg} {h : Nat} {p : Pg} (hp : l[h]? = some p) : rot l h = p :: (l.drop (h + 1) ++ l.take h) := by
 have hlt := (Uf.1 hp).1
 unfold rot
 rw [Vz hlt, (Uf.1 hp).2]
 rfl
theorem ww {l : List Pg} {h : Nat} {p : Pg} (hp : l[h]? = some p) (p' : Pg) : rot (l.set h p') ((h + 1) % l.length) = (l.drop (h + 1) ++ l.take h) ++ [p'] := by
 have hlt := (Uf.1 hp).1
 unfold rot
 by_cases he : h + 1 = l.length
 ·rw [he, Nat.mod_self, Wz, Xk, Uw, Vo (Ug _), Up]
  have h0 : h = l.length - 1 := by omega
  rw [Xy, if_pos hlt, he, Vo (Ug _)]
 ·rw [Ul O0]
  rw [Xy, if_pos hlt]
  have hl : (l.take h).length = h := by rw [Us]; omega
  have e1 : (l.take h ++ p' :: l.drop (h + 1)).drop (h + 1) = l.drop (h + 1) := by
   rw [Zi, hl, Vo O0, Up, show h + 1 - h = 1 by omega]; rfl
  have e2 : (l.take h ++ p' :: l.drop (h + 1)).take (h + 1) = l.take h ++ [p'] := by
   rw [Kc, hl, Uv O0, show h + 1 - h = 1 by omega]; rfl
  rw [e1, e2, Um]
theorem xz (f : Pg -> Bool) (l : List Pg) (h : Nat) : (rot l h).countP f = l.countP f := by
 unfold rot
 rw [List.countP_append, Wt, <- List.countP_append, Zl]
theorem yn (l : List Pg) (h : Nat) : (rot l h).length = l.length := by
 unfold rot; rw [Ua, Uq, Us]; omega
theorem ja (f : Pg -> Bool) {l : List Pg} {i : Nat} {p : Pg} (hp : l[i]? = some p) (p' : Pg) : (l.set i p').countP f + (if f p then 1 else 0) = l.countP f + (if f p' then 1 else 0) := by
 induction l generalizing i with
 | nil => cases hp
 | cons a l ih =>
  cases i with
  | zero => cases hp; simp only [Vf, Wl]; omega
  | succ i => simp only [Vm, Wl]; have := ih (i := i) (by simpa using hp); omega
theorem gk (f : Pg -> Bool) {l : List Pg} {i : Nat} {p : Pg} (hp : l[i]? = some p) : (l.eraseIdx i).countP f + (if f p then 1 else 0) = l.countP f := by
 induction l generalizing i with
 | nil => cases hp
 | cons a l ih =>
  cases i with
  | zero => cases hp; simp only [List.eraseIdx_cons_zero, Wl]
  | succ i => simp only [Xh, Wl]; have := ih (i := i) (by simpa using hp); omega
namespace Clk
def res (q : Clk) : List (Key3 × Int) := (q.pages.filter Pg.resident).map fun p => (p.key, p.pins)
def keys (q : Clk) : List Key3 := q.pages.map (·.key)
structure Le (q q' : Clk) : Prop where
 most : q'.most = q.most
 res : q'.res = q.res
 keys : List.Sublist q'.keys q.keys
 refs : q'.pages.countP Pg.ref <= q.pages.countP Pg.ref
 tests : q'.count Pg.test <= q.count Pg.test
theorem Le.refl (q : Clk) : Le q q := ⟨rfl, rfl, List.Sublist.refl _, Ug _, Ug _⟩
theorem Le.trans {a b c : Clk} (h : Le a b) (g : Le b c) : Le a c := ⟨g.most.trans h.most, g.res.trans h.res, g.keys.trans h.keys, Uy g.refs h.refs, Uy g.tests h.tests⟩
theorem Le.len {a b : Clk} (h : Le a b) : b.pages.length <= a.pages.length := by have := h.keys.length_le; simpa [Clk.keys] using this
theorem res_len (q : Clk) : q.res.length = q.count Pg.resident := by unfold res count; rw [Ve, List.countP_eq_length_filter]
theorem yq (q : Clk) : q.res.countP (fun x => x.2 == 0) = q.count Pg.free := by
 unfold res count
 rw [List.countP_map, List.countP_filter]
 congr 1; funext p; unfold Pg.free; simp [Bool.and_comm]
theorem Le.resident {a b : Clk} (h : Le a b) : b.count Pg.resident = a.count Pg.resident := by rw [<- res_len, <- res_len, h.res]
theorem Le.free {a b : Clk} (h : Le a b) : b.count Pg.free = a.count Pg.free := by rw [<- yq, <- yq, h.res]
theorem ic {l : List Pg} {i : Nat} {p p' : Pg} (hp : l[i]? = some p) (hk : p'.key = p.key) (hn : p'.pins = p.pins) (hr : p'.resident = p.resident) :
  ((l.set i p').filter Pg.resident).map (fun p => (p.key, p.pins)) = (l.filter Pg.resident).map (fun p => (p.key, p.pins)) := by
 induction l generalizing i with
 | nil => cases hp
 | cons a l ih =>
  cases i with
  | zero =>
   cases hp
   simp only [Vf, Vv, hr]
   split <;> simp [hk, hn]
  | succ i =>
   have := ih (i := i) (by simpa using hp)
   simp only [Vm, Vv]
   split <;> simp [this]
theorem xx {l : List Pg} {i : Nat} {p : Pg} (hp : l[i]? = some p) (hr : p.resident = false) :
  ((l.eraseIdx i).filter Pg.resident).map (fun p => (p.key, p.pins)) = (l.filter Pg.resident).map (fun p => (p.key, p.pins)) := by
 induction l generalizing i with
 | nil => cases hp
 | cons a l ih =>
  cases i with
  | zero => cases hp; simp [Vv, hr]
  | succ i =>
   have := ih (i := i) (by simpa using hp)
   simp only [Xh, Vv]
   split <;> simp [this]
theorem dx {α : Type} {l : List α} {i : Nat} {x : α} (h : l[i]? = some x) : l.set i x = l := by
 apply List.ext_getElem?
 intro j
 have hi := (Uf.1 h).1
 rw [Zp]
 split
 ·rename_i e; subst e; first | exact h.symm | (rw [if_pos hi]; exact h.symm)
 ·rfl
theorem keys_set {l : List Pg} {i : Nat} {p p' : Pg} (hp : l[i]? = some p) (hk : p'.key = p.key) : (l.set i p').map (·.key) = l.map (·.key) := by
 rw [List.map_set, hk]
 exact dx (by rw [Wp, hp]; rfl)
theorem Le.setP (q : Clk) {i : Nat} {p p' : Pg} (hp : q.pages[i]? = some p) (hk : p'.key = p.key) (hn : p'.pins = p.pins) (hr : p'.resident = p.resident) (hf : p'.ref = true -> p.ref = true) (ht : p'.test = p.test) : Le q (q.setP i p') := by
 refine ⟨rfl, ic hp hk hn hr, ?_, ?_, ?_⟩
 ·show List.Sublist ((q.pages.set i p').map (·.key)) (q.pages.map (·.key))
  rw [keys_set hp hk]
  exact List.Sublist.refl _
 ·have := ja Pg.ref hp p'
  show (q.pages.set i p').countP Pg.ref <= _
  split at this <;> split at this <;> first | omega | simp_all
 ·have := ja Pg.test hp p'
  show (q.pages.set i p').countP Pg.test <= q.pages.countP Pg.test
  rw [ht] at this
  omega
theorem Le.goes (q : Clk) {i : Nat} {p : Pg} (hp : q.pages[i]? = some p) (ht : p.kind = 3) : Le q (q.goes i) := by
 have hr : p.resident = false := by unfold Pg.resident; simp [ht]
 refine ⟨rfl, xx hp hr, ?_, ?_, ?_⟩
 ·show List.Sublist ((q.pages.eraseIdx i).map (·.key)) (q.pages.map (·.key))
  exact (Zm _ _).map _
 ·have := gk Pg.ref hp
  show (q.pages.eraseIdx i).countP Pg.ref <= _
  omega
 ·have := gk Pg.test hp
  show (q.pages.eraseIdx i).countP Pg.test <= q.pages.countP Pg.test
  omega
theorem Le.aim (q : Clk) (n : Int) : Le q (q.aim n) := ⟨rfl, rfl, List.Sublist.refl _, Ug _, Ug _⟩
theorem Le.onHot (q : Clk) : Le q q.onHot := ⟨rfl, rfl, List.Sublist.refl _, Ug _, Ug _⟩
theorem Le.onCold (q : Clk) : Le q q.onCold := ⟨rfl, rfl, List.Sublist.refl _, Ug _, Ug _⟩
theorem Le.onTest (q : Clk) : Le q q.onTest := ⟨rfl, rfl, List.Sublist.refl _, Ug _, Ug _⟩
theorem Wf.setP {q : Clk} (h : q.Wf) {i : Nat} {p' : Pg} (hk : p'.Ok) : (q.setP i p').Wf := by
 refine ⟨h.most, h.target, fun p hp => ?_, ?_, ?_, ?_⟩
 ·rcases List.mem_or_eq_of_mem_set hp with hp | rfl
  ·exact h.kinds p hp
  ·exact hk
 ·show q.hot < max (q.pages.set i p').length 1; rw [Vd]; exact h.hot
 ·show q.cold < max (q.pages.set i p').length 1; rw [Vd]; exact h.cold
 ·show q.test < max (q.pages.set i p').length 1; rw [Vd]; exact h.test
theorem goneH_lt {i n h : Nat} (hh : h < max (n + 1) 1) (hi : i < n + 1) : goneH i n h < max n 1 := by
 unfold goneH
 split <;> split <;> omega
theorem Wf.goes {q : Clk} (h : q.Wf) {i : Nat} (hi : i < q.pages.length) : (q.goes i).Wf := by
 have hl : (q.pages.eraseIdx i).length = q.pages.length - 1 := Xv hi
 have e : q.pages.length - 1 + 1 = q.pages.length := by omega
 refine ⟨h.most, h.target, fun p hp => h.kinds p (List.mem_of_mem_eraseIdx hp), ?_, ?_, ?_⟩
 ·show goneH i _ _ < max (q.pages.eraseIdx i).length 1; rw [hl]; exact goneH_lt (by rw [e]; exact h.hot) O0
 ·show goneH i _ _ < max (q.pages.eraseIdx i).length 1; rw [hl]; exact goneH_lt (by rw [e]; exact h.cold) O0
 ·show goneH i _ _ < max (q.pages.eraseIdx i).length 1; rw [hl]; exact goneH_lt (by rw [e]; exact h.test) O0
theorem Wf.aim {q : Clk} (h : q.Wf) (n : Int) : (q.aim n).Wf := by
 have := h.most
 exact ⟨h.most, ⟨by show 1 <= min (max (q.target + n) 1) q.most; omega, by show min (max (q.target + n) 1) q.most <= q.most; omega⟩, h.kinds, h.hot, h.cold, h.test⟩
theorem Wf.onHot {q : Clk} (h : q.Wf) (hn : q.pages ≠ []) : q.onHot.Wf := by
 have : 0 < q.pages.length := Vt.2 hn
 exact ⟨h.most, h.target, h.kinds, by show (q.hot + 1) % q.pages.length < _; have := Vr (q.hot + 1) this; show _ < max q.pages.length 1; omega, h.cold, h.test⟩
theorem Wf.onCold {q : Clk} (h : q.Wf) (hn : q.pages ≠ []) : q.onCold.Wf := by
 have : 0 < q.pages.length := Vt.2 hn
 exact ⟨h.most, h.target, h.kinds, h.hot, by show (q.cold + 1) % q.pages.length < _; have := Vr (q.cold + 1) this; show _ < max q.pages.length 1; omega, h.test⟩
theorem Wf.onTest {q : Clk} (h : q.Wf) (hn : q.pages ≠ []) : q.onTest.Wf := by
 have : 0 < q.pages.length := Vt.2 hn
 exact ⟨h.most, h.target, h.kinds, h.hot, h.cold, by show (q.test + 1) % q.pages.length < _; have := Vr (q.test + 1) this; show _ < max q.pages.length 1; omega⟩
theorem set_ne {l : List Pg} {i : Nat} {p p' : Pg} (hp : l[i]? = some p) : l.set i p' ≠ [] := by
 have := (Uf.1 hp).1
 intro h
 have h2 := congrArg List.length h
 rw [Vd, Xs] at h2
 omega
theorem ne_of_get {l : List Pg} {i : Nat} {p : Pg} (hp : l[i]? = some p) : l ≠ [] := by
 rintro rfl; cases hp
/-! the hand Hot -/
theorem hotAt_ok {q : Clk} (h : q.Wf) {p : Pg} (hp : q.pages[q.hot]? = some p) : (q.hotAt p).1.Wf ∧ Le q (q.hotAt p).1 ∧ (q.hotAt p).1.count Pg.hot + (if (q.hotAt p).2 then 1 else 0) = q.count Pg.hot := by
 have hlt := (Uf.1 hp).1
 have hk := h.kinds p (Uj hp)
 unfold hotAt
 split
 ·rename_i h3
  refine ⟨(h.goes hlt).aim _, (Le.goes q hp h3).trans (Le.aim _ _), ?_⟩
  have := gk Pg.hot hp
  have e : p.hot = false := by unfold Pg.hot; simp [h3]
  rw [e] at this
  exact this
 ·split
  ·rename_i h1
   split
   ·rename_i hr
    have c := ja Pg.hot hp { p with ref := false }
    have e1 : Pg.hot p = true := by unfold Pg.hot; simp [h1]
    have e2 : Pg.hot { p with ref := false } = true := e1
    rw [e1, e2] at c
    refine ⟨(h.setP (p' := { p with ref := false }) hk).onHot (set_ne hp), (Le.setP q (p' := { p with ref := false }) hp rfl rfl rfl (fun h => by cases h) rfl).trans (Le.onHot _), ?_⟩
    show (q.pages.set q.hot _).countP Pg.hot + _ = q.pages.countP Pg.hot
    simp at c ⊢; omega
   ·rename_i hr
    have c := ja Pg.hot hp { p with kind := 2, ref := false, trial := false }
    have e1 : Pg.hot p = true := by unfold Pg.hot; simp [h1]
    have e2 : Pg.hot { p with kind := 2, ref := false, trial := false } = false := rfl
    rw [e1, e2] at c
    refine ⟨(h.setP (p' := { p with kind := 2, ref := false, trial := false }) ⟨.inr (.inl rfl), hk.2.1, fun h => by cases h⟩).onHot (set_ne hp), (Le.setP q (p' := { p with kind := 2, ref := false, trial := false }) hp rfl rfl (by unfold Pg.resident; simp [h1]) (fun h => by cases h) (by unfold Pg.test; simp [h1])).trans (Le.onHot _), ?_⟩
    show (q.pages.set q.hot _).countP Pg.hot + _ = q.pages.countP Pg.hot
    simp at c ⊢; omega
  ·rename_i h1
   have c := ja Pg.hot hp { p with trial := false }
   have e2 : Pg.hot { p with trial := false } = Pg.hot p := rfl
   rw [e2] at c
   refine ⟨(h.setP (p' := { p with trial := false }) hk).onHot (set_ne hp), (Le.setP q (p' := { p with trial := false }) hp rfl rfl rfl id rfl).trans (Le.onHot _), ?_⟩
   show (q.pages.set q.hot _).countP Pg.hot + _ = q.pages.countP Pg.hot
   simp at c ⊢; omega
def hotFin : Nat -> Clk -> Prop
 | 0, _ => False
 | k + 1, q => ∃ p, q.pages[q.hot]? = some p ∧ ((q.hotAt p).2 = true ∨ hotFin k (q.hotAt p).1)
theorem hotFin_mono : ∀ {k m : Nat} {q : Clk}, hotFin k q -> k <= m -> hotFin m q
 | 0, _, _, h, _ => h.elim
 | k + 1, m + 1, q, ⟨p, hp, h⟩, hm => ⟨p, hp, h.imp id fun h => hotFin_mono h O0⟩
 | k + 1, 0, _, _, h => by omega
def act (p : Pg) : Bool := p.test || (p.hot && p.ref)
def warmPg (p : Pg) : Bool := p.test || p.hot
theorem findIdx_append_lt {f : Pg -> Bool} {a b : List Pg} (h : a.findIdx f < a.length) : (a ++ b).findIdx f = a.findIdx f := by
 rw [List.findIdx_append, if_pos h]
theorem qqc (N : Nat) : ∀ (A d : Nat) (q : Clk), q.Wf -> 1 <= q.count Pg.hot -> q.pages.countP act <= A -> q.pages.length <= N -> (rot q.pages q.hot).findIdx warmPg <= d -> hotFin (A * (N + 1) + d + 1) q := by
 intro A
 induction A with
 | zero =>
  intro d
  induction d with
  | zero =>
   intro q h h1 hA hN hd
   have hpos : 0 < q.pages.length := by have := Vx (p := Pg.hot) (l := q.pages); unfold count at h1; omega
   have hhot := h.hot
   obtain ⟨p, hp⟩ : ∃ p, q.pages[q.hot]? = some p := ⟨_, Uc (show q.hot < q.pages.length by omega)⟩
   refine ⟨p, hp, .inl ?_⟩
   rw [kn hp, Zd] at hd
   have hw : warmPg p = true := by cases hh : warmPg p <;> simp [hh] at hd ⊢
   have ha : act p = false := by
    cases hh : act p with
    | false => rfl
    | true =>
     have := Xn.2 ⟨p, Uj hp, hh⟩
     omega
   unfold act at ha; unfold warmPg at hw; unfold Pg.test Pg.hot at ha hw
   unfold hotAt
   simp at ha hw
   have h3 : ¬ p.kind = 3 := ha.1
   have h1' : p.kind = 1 := hw.resolve_left h3
   rw [if_neg h3, if_pos h1', if_neg (by rw [ha.2 h1']; simp)]
  | succ d ih =>
   intro q h h1 hA hN hd
   have hpos : 0 < q.pages.length := by have := Vx (p := Pg.hot) (l := q.pages); unfold count at h1; omega
   have hhot := h.hot
   obtain ⟨p, hp⟩ : ∃ p, q.pages[q.hot]? = some p := ⟨_, Uc (show q.hot < q.pages.length by omega)⟩
   refine ⟨p, hp, ?_⟩
   have ha : act p = false := by
    cases hh : act p with
    | false => rfl
    | true =>
     have := Xn.2 ⟨p, Uj hp, hh⟩
     omega
   by_cases hw : warmPg p = true
   ·left
    unfold act at ha; unfold warmPg at hw; unfold Pg.test Pg.hot at ha hw
    unfold hotAt
    simp at ha hw
    have h3 : ¬ p.kind = 3 := ha.1
    have h1' : p.kind = 1 := hw.resolve_left h3
    rw [if_neg h3, if_pos h1', if_neg (by rw [ha.2 h1']; simp)]
   ·right
    exact step_cold h h1 hp hw hN hd (fun q' w1 w2 w3 w4 w5 => ih q' w1 w2 (Uy w3 hA) w4 w5)
 | succ A ihA =>
  intro d
  induction d with
  | zero =>
   intro q h h1 hA hN hd
   have hpos : 0 < q.pages.length := by have := Vx (p := Pg.hot) (l := q.pages); unfold count at h1; omega
   have hhot := h.hot
   obtain ⟨p, hp⟩ : ∃ p, q.pages[q.hot]? = some p := ⟨_, Uc (show q.hot < q.pages.length by omega)⟩
   refine ⟨p, hp, ?_⟩
   rw [kn hp, Zd] at hd
   have hw : warmPg p = true := by cases hh : warmPg p <;> simp [hh] at hd ⊢
   exact step_warm h h1 hp hw hA hN fun q' w1 w2 w3 w4 => hotFin_mono (ihA N q' w1 w2 w3 w4 (by have := Xl (p := warmPg) (xs := rot q'.pages q'.hot); rw [yn] at this; omega)) (by rw [Zk]; omega)
  | succ d ih =>
   intro q h h1 hA hN hd
   have hpos : 0 < q.pages.length := by have := Vx (p := Pg.hot) (l := q.pages); unfold count at h1; omega
   have hhot := h.hot
   obtain ⟨p, hp⟩ : ∃ p, q.pages[q.hot]? = some p := ⟨_, Uc (show q.hot < q.pages.length by omega)⟩
   refine ⟨p, hp, ?_⟩
   by_cases hw : warmPg p = true
   ·exact step_warm h h1 hp hw hA hN fun q' w1 w2 w3 w4 => hotFin_mono (ihA N q' w1 w2 w3 w4 (by have := Xl (p := warmPg) (xs := rot q'.pages q'.hot); rw [yn] at this; omega)) (by rw [Zk]; omega)
   ·right
    exact step_cold h h1 hp hw hN hd (fun q' w1 w2 w3 w4 w5 => ih q' w1 w2 (Uy w3 hA) w4 w5)
where
 step_cold {N d : Nat} {q : Clk} {p : Pg} (h : q.Wf) (h1 : 1 <= q.count Pg.hot) (hp : q.pages[q.hot]? = some p) (hw : ¬ warmPg p = true) (hN : q.pages.length <= N) (hd : (rot q.pages q.hot).findIdx warmPg <= d + 1) {K : Nat}
   (k : ∀ q' : Clk, q'.Wf -> 1 <= q'.count Pg.hot -> q'.pages.countP act <= q.pages.countP act -> q'.pages.length <= N -> (rot q'.pages q'.hot).findIdx warmPg <= d -> hotFin K q') : hotFin K (q.hotAt p).1 := by
  obtain ⟨o1, o2, o3⟩ := hotAt_ok h hp
  have hw2 := hw
  unfold warmPg Pg.test Pg.hot at hw2
  simp at hw2
  have e : q.hotAt p = ((q.setP q.hot { p with trial := false }).onHot, false) := by unfold hotAt; rw [if_neg hw2.1, if_neg hw2.2]
  rw [e] at o1 o2 o3 ⊢
  replace o3 : (q.setP q.hot { p with trial := false }).onHot.count Pg.hot + 0 = q.count Pg.hot := o3
  have o4 : (q.setP q.hot { p with trial := false }).onHot.pages.length <= q.pages.length := o2.len
  refine k _ o1 (show 1 <= (q.setP q.hot { p with trial := false }).onHot.count Pg.hot by omega) ?_ (Uy o4 hN) ?_
  ·have c := ja act hp { p with trial := false }
   have e2 : act { p with trial := false } = act p := rfl
   rw [e2] at c
   show (q.pages.set q.hot _).countP act <= _
   omega
  ·show (rot (q.pages.set q.hot { p with trial := false }) ((q.hot + 1) % (q.pages.set q.hot { p with trial := false }).length)).findIdx warmPg <= d
   rw [Vd, ww hp]
   rw [kn hp, Zd] at hd
   have hwf : warmPg p = false := by simpa using hw
   rw [hwf] at hd
   have hex : (q.pages.drop (q.hot + 1) ++ q.pages.take q.hot).findIdx warmPg < (q.pages.drop (q.hot + 1) ++ q.pages.take q.hot).length := by
    rw [List.findIdx_lt_length]
    have hc : 1 <= (rot q.pages q.hot).countP Pg.hot := by rw [xz]; exact h1
    rw [kn hp, Wl] at hc
    have hph : Pg.hot p = false := by unfold warmPg at hwf; simp at hwf; exact hwf.2
    rw [hph] at hc
    obtain ⟨x, hx, hx2⟩ := Xn.1 (show 0 < (q.pages.drop (q.hot + 1) ++ q.pages.take q.hot).countP Pg.hot by simp only [Xc, if_false, Wm] at hc; omega)
    exact ⟨x, hx, by unfold warmPg; simp [hx2]⟩
   rw [findIdx_append_lt hex]
   simp at hd
   omega
 step_warm {N A : Nat} {q : Clk} {p : Pg} (h : q.Wf) (h1 : 1 <= q.count Pg.hot) (hp : q.pages[q.hot]? = some p) (hw : warmPg p = true) (hA : q.pages.countP act <= A + 1) (hN : q.pages.length <= N) {K : Nat}
   (k : ∀ q' : Clk, q'.Wf -> 1 <= q'.count Pg.hot -> q'.pages.countP act <= A -> q'.pages.length <= N -> hotFin K q') : (q.hotAt p).2 = true ∨ hotFin K (q.hotAt p).1 := by
  obtain ⟨o1, o2, o3⟩ := hotAt_ok h hp
  by_cases hov : (q.hotAt p).2 = true
  ·exact .inl hov
  ·right
   rw [if_neg hov] at o3
   refine k _ o1 O0 ?_ (by have := o2.len; omega)
   by_cases h3 : p.kind = 3
   ·have e : q.hotAt p = ((q.goes q.hot).aim (-1), false) := by unfold hotAt; rw [if_pos h3]
    rw [e]
    have c := gk act hp
    have e2 : act p = true := by unfold act Pg.test; simp [h3]
    rw [e2] at c
    show (q.pages.eraseIdx q.hot).countP act <= A
    simp at c; omega
   ·have hk1 : p.kind = 1 := by
     unfold warmPg Pg.test Pg.hot at hw; simp at hw; exact hw.resolve_left h3
    have hr : p.ref = true := by
     cases hr : p.ref with
     | true => rfl
     | false => exact absurd (by unfold hotAt; rw [if_neg h3, if_pos hk1, if_neg (by rw [hr]; simp)]) hov
    have e : q.hotAt p = ((q.setP q.hot { p with ref := false }).onHot, false) := by unfold hotAt; rw [if_neg h3, if_pos hk1, if_pos hr]
    rw [e]
    have c := ja act hp { p with ref := false }
    have e2 : act p = true := by unfold act Pg.hot; simp [hk1, hr]
    have e3 : act { p with ref := false } = false := by unfold act Pg.test Pg.hot; simp [hk1]
    rw [e2, e3] at c
    show (q.pages.set q.hot _).countP act <= A
    simp at c; omega
theorem hot_fin {q : Clk} (h : q.Wf) (h1 : 1 <= q.count Pg.hot) : hotFin ((q.pages.length + 1) * (q.pages.length + 1)) q := by
 have h2 := qqc q.pages.length (q.pages.countP act) q.pages.length q h h1 (Ug _) (Ug _) (by have := Xl (p := warmPg) (xs := rot q.pages q.hot); rw [yn] at this; exact this)
 refine hotFin_mono h2 ?_
 have h3 := Vx (p := act) (l := q.pages)
 have h4 : q.pages.countP act * (q.pages.length + 1) <= q.pages.length * (q.pages.length + 1) := Ut _ h3
 rw [Vi q.pages.length 1, Nat.one_mul]
 omega
theorem hotRun_ok : ∀ (k : Nat) (q : Clk), hotFin k q -> q.Wf -> (hotRun k q).Wf ∧ Le q (hotRun k q) ∧ (hotRun k q).count Pg.hot + 1 = q.count Pg.hot
 | 0, _, h, _ => h.elim
 | k + 1, q, ⟨p, hp, hf⟩, h => by
  obtain ⟨o1, o2, o3⟩ := hotAt_ok h hp
  unfold hotRun
  rw [hp]
  dsimp only
  by_cases hov : (q.hotAt p).2 = true
  ·rw [if_pos hov]
   rw [if_pos hov] at o3
   exact ⟨o1, o2, o3⟩
  ·rw [if_neg hov]
   rw [if_neg hov] at o3
   obtain ⟨a, b, c⟩ := hotRun_ok k _ (hf.resolve_left hov) o1
   exact ⟨a, o2.trans b, O_o⟩
theorem hotTurns_ok {q : Clk} (h : q.Wf) : q.hotTurns.Wf ∧ Le q q.hotTurns ∧ (q.hotTurns.count Pg.hot = q.count Pg.hot - 1) := by
 unfold hotTurns
 split
 ·rename_i h0; exact ⟨h, Le.refl q, O_o⟩
 ·obtain ⟨a, b, c⟩ := hotRun_ok _ q (hot_fin h O0) h
  exact ⟨a, b, O_o⟩
end Clk
end
section
namespace Clk
/-! the hand Test -/
theorem testAt_ok {q : Clk} (h : q.Wf) {p : Pg} (hp : q.pages[q.test]? = some p) : (q.testAt p).1.Wf ∧ Le q (q.testAt p).1 ∧ (q.testAt p).1.count Pg.test + (if (q.testAt p).2 then 1 else 0) = q.count Pg.test := by
 have hlt := (Uf.1 hp).1
 have hk := h.kinds p (Uj hp)
 unfold testAt
 split
 ·rename_i h3
  refine ⟨(h.goes hlt).aim _, (Le.goes q hp h3).trans (Le.aim _ _), ?_⟩
  have := gk Pg.test hp
  have e : p.test = true := by unfold Pg.test; simp [h3]
  rw [e] at this
  exact this
 ·rename_i h3
  split
  ·rename_i h2
   have c := ja Pg.test hp { p with trial := false }
   have e2 : Pg.test { p with trial := false } = Pg.test p := rfl
   rw [e2] at c
   refine ⟨((h.setP (p' := { p with trial := false }) hk).aim _).onTest (set_ne hp), ((Le.setP q (p' := { p with trial := false }) hp rfl rfl rfl id rfl).trans (Le.aim _ _)).trans (Le.onTest _), ?_⟩
   show (q.pages.set q.test _).countP Pg.test + _ = q.pages.countP Pg.test
   simp at c ⊢; omega
  ·exact ⟨h.onTest (ne_of_get hp), Le.onTest q, rfl⟩
def testFin : Nat -> Clk -> Prop
 | 0, _ => False
 | k + 1, q => ∃ p, q.pages[q.test]? = some p ∧ ((q.testAt p).2 = true ∨ testFin k (q.testAt p).1)
theorem lh : ∀ (d : Nat) (q : Clk), q.Wf -> 1 <= q.count Pg.test -> (rot q.pages q.test).findIdx Pg.test <= d -> testFin (d + 1) q := by
 intro d
 induction d with
 | zero =>
  intro q h h1 hd
  have hpos : 0 < q.pages.length := by have := Vx (p := Pg.test) (l := q.pages); unfold count at h1; omega
  have hh := h.test
  obtain ⟨p, hp⟩ : ∃ p, q.pages[q.test]? = some p := ⟨_, Uc (show q.test < q.pages.length by omega)⟩
  refine ⟨p, hp, .inl ?_⟩
  rw [kn hp, Zd] at hd
  have hw : Pg.test p = true := by cases hh : Pg.test p <;> simp [hh] at hd ⊢
  unfold Pg.test at hw; simp at hw
  unfold testAt
  rw [if_pos hw]
 | succ d ih =>
  intro q h h1 hd
  have hpos : 0 < q.pages.length := by have := Vx (p := Pg.test) (l := q.pages); unfold count at h1; omega
  have hh := h.test
  obtain ⟨p, hp⟩ : ∃ p, q.pages[q.test]? = some p := ⟨_, Uc (show q.test < q.pages.length by omega)⟩
  obtain ⟨o1, o2, o3⟩ := testAt_ok h hp
  refine ⟨p, hp, ?_⟩
  by_cases h3 : p.kind = 3
  ·left; unfold testAt; rw [if_pos h3]
  ·right
   have hf : Pg.test p = false := by unfold Pg.test; simp [h3]
   have hnot : (q.testAt p).2 = false := by unfold testAt; rw [if_neg h3]; split <;> rfl
   rw [hnot] at o3
   refine ih _ o1 (by simp only [Xc, if_false, Wm] at o3; omega) ?_
   have key : ∃ p', rot (q.testAt p).1.pages (q.testAt p).1.test = (q.pages.drop (q.test + 1) ++ q.pages.take q.test) ++ [p'] := by
    unfold testAt
    rw [if_neg h3]
    split
    ·refine ⟨{ p with trial := false }, ?_⟩
     show rot (q.pages.set q.test { p with trial := false }) ((q.test + 1) % (q.pages.set q.test { p with trial := false }).length) = _
     rw [Vd, ww hp]
    ·refine ⟨p, ?_⟩
     show rot q.pages ((q.test + 1) % q.pages.length) = _
     have := ww hp p
     rw [dx hp] at this
     exact this
   obtain ⟨p', e⟩ := key
   rw [e]
   rw [kn hp, Zd, hf] at hd
   have hex : (q.pages.drop (q.test + 1) ++ q.pages.take q.test).findIdx Pg.test < (q.pages.drop (q.test + 1) ++ q.pages.take q.test).length := by
    rw [List.findIdx_lt_length]
    have hc : 1 <= (rot q.pages q.test).countP Pg.test := by rw [xz]; exact h1
    rw [kn hp, Wl, hf] at hc
    obtain ⟨x, hx, hx2⟩ := Xn.1 (show 0 < (q.pages.drop (q.test + 1) ++ q.pages.take q.test).countP Pg.test by simp only [Xc, if_false, Wm] at hc; omega)
    exact ⟨x, hx, hx2⟩
   rw [findIdx_append_lt hex]
   simp at hd
   omega
theorem test_fin {q : Clk} (h : q.Wf) (h1 : 1 <= q.count Pg.test) : testFin (q.pages.length + 1) q :=
 lh q.pages.length q h h1 (by have := Xl (p := Pg.test) (xs := rot q.pages q.test); rw [yn] at this; exact this)
theorem testRun_ok : ∀ (k : Nat) (q : Clk), testFin k q -> q.Wf -> (testRun k q).Wf ∧ Le q (testRun k q) ∧ (testRun k q).count Pg.test + 1 = q.count Pg.test
 | 0, _, h, _ => h.elim
 | k + 1, q, ⟨p, hp, hf⟩, h => by
  obtain ⟨o1, o2, o3⟩ := testAt_ok h hp
  unfold testRun
  rw [hp]
  dsimp only
  by_cases hov : (q.testAt p).2 = true
  ·rw [if_pos hov]
   rw [if_pos hov] at o3
   exact ⟨o1, o2, o3⟩
  ·rw [if_neg hov]
   rw [if_neg hov] at o3
   obtain ⟨a, b, c⟩ := testRun_ok k _ (hf.resolve_left hov) o1
   exact ⟨a, o2.trans b, O_o⟩
theorem testTurns_ok {q : Clk} (h : q.Wf) : q.testTurns.Wf ∧ Le q q.testTurns ∧ (q.testTurns.count Pg.test = q.count Pg.test - 1) := by
 unfold testTurns
 split
 ·rename_i h0; exact ⟨h, Le.refl q, O_o⟩
 ·obtain ⟨a, b, c⟩ := testRun_ok _ q (test_fin h O0) h
  exact ⟨a, b, O_o⟩
/-! turns again and again -/
theorem count_len (q : Clk) (f : Pg -> Bool) : q.count f <= q.pages.length := Vx
theorem coolRun_ok : ∀ (k : Nat) (q : Clk), q.count Pg.hot < k -> q.Wf -> (coolRun k q).Wf ∧ Le q (coolRun k q) ∧ ((coolRun k q).count Pg.hot : Int) <= (coolRun k q).most - (coolRun k q).target
 | 0, _, h, _ => by omega
 | k + 1, q, hk, h => by
  unfold coolRun
  split
  ·rename_i hc
   obtain ⟨a, b, c⟩ := hotTurns_ok h
   have := h.target
   obtain ⟨d, e, f⟩ := coolRun_ok k q.hotTurns O0 a
   exact ⟨d, b.trans e, f⟩
  ·exact ⟨h, Le.refl q, O_o⟩
theorem nv {q : Clk} (h : q.Wf) : q.cool.Wf ∧ Le q q.cool ∧ (q.cool.count Pg.hot : Int) <= q.cool.most - q.cool.target :=
 coolRun_ok _ q (by have := count_len q Pg.hot; omega) h
theorem free_some (q : Clk) (h : q.count Pg.coldFree = 0) (h1 : 1 <= q.count Pg.free) : 1 <= q.count Pg.hot := by
 obtain ⟨p, hp, hf⟩ := Xn.1 (show 0 < q.pages.countP Pg.free from h1)
 refine Xn.2 ⟨p, hp, ?_⟩
 have h0 := List.countP_eq_zero.1 h p hp
 unfold Pg.free Pg.resident at hf; unfold Pg.coldFree at h0; unfold Pg.hot
 simp at hf h0 ⊢
 exact hf.1.resolve_right fun h2 => h0 h2 hf.2
theorem warmRun_ok : ∀ (k : Nat) (q : Clk), q.count Pg.hot < k -> 1 <= q.count Pg.free -> q.Wf -> (warmRun k q).Wf ∧ Le q (warmRun k q) ∧ 1 <= (warmRun k q).count Pg.coldFree
 | 0, _, h, _, _ => by omega
 | k + 1, q, hk, h1, h => by
  unfold warmRun
  split
  ·rename_i hc
   have := free_some q hc h1
   obtain ⟨a, b, c⟩ := hotTurns_ok h
   obtain ⟨d, e, f⟩ := warmRun_ok k q.hotTurns O0 (by rw [b.free]; exact h1) a
   exact ⟨d, b.trans e, f⟩
  ·exact ⟨h, Le.refl q, O_o⟩
theorem warm_ok {q : Clk} (h : q.Wf) (h1 : 1 <= q.count Pg.free) : q.warm.Wf ∧ Le q q.warm ∧ 1 <= q.warm.count Pg.coldFree :=
 warmRun_ok _ q (by have := count_len q Pg.hot; omega) h1 h
theorem ld {q : Clk} (h : 1 <= q.count Pg.coldFree) : q.warm = q := by
 unfold warm warmRun
 rw [if_neg O0]
theorem shedRun_ok : ∀ (k : Nat) (q : Clk), q.count Pg.test < k -> q.Wf -> (shedRun k q).Wf ∧ Le q (shedRun k q) ∧ ((shedRun k q).count Pg.test : Int) <= (shedRun k q).most
 | 0, _, h, _ => by omega
 | k + 1, q, hk, h => by
  unfold shedRun
  split
  ·rename_i hc
   obtain ⟨a, b, c⟩ := testTurns_ok h
   have := h.most
   obtain ⟨d, e, f⟩ := shedRun_ok k q.testTurns O0 a
   exact ⟨d, b.trans e, f⟩
  ·exact ⟨h, Le.refl q, O_o⟩
theorem io {q : Clk} (h : q.Wf) : q.shed.Wf ∧ Le q q.shed ∧ (q.shed.count Pg.test : Int) <= q.shed.most :=
 shedRun_ok _ q (by have := count_len q Pg.test; omega) h
/-! the hand Cold -/
structure Out (q q' : Clk) (k : Key3) : Prop where
 most : q'.most = q.most
 res : q.res.Perm ((k, 0) :: q'.res)
 sub : List.Sublist q'.res q.res
 keys : List.Sublist q'.keys q.keys
 tests : (q'.count Pg.test : Int) <= q'.most
theorem res_out_erase {l : List Pg} {i : Nat} {p : Pg} (hp : l[i]? = some p) (hr : p.resident = true) :
  ((l.filter Pg.resident).map fun p => (p.key, p.pins)).Perm ((p.key, p.pins) :: ((l.eraseIdx i).filter Pg.resident).map fun p => (p.key, p.pins)) ∧ List.Sublist (((l.eraseIdx i).filter Pg.resident).map fun p => (p.key, p.pins)) ((l.filter Pg.resident).map fun p => (p.key, p.pins)) := by
 refine ⟨?_, ((Zm l i).filter _).map _⟩
 induction l generalizing i with
 | nil => cases hp
 | cons a l ih =>
  cases i with
  | zero => cases hp; simp [Vv, hr]
  | succ i =>
   have := ih (i := i) (by simpa using hp)
   simp only [Xh, Vv]
   split
   ·simp only [Ux]
    exact (this.cons _).trans (List.Perm.swap _ _ _)
   ·exact this
theorem res_out_set {l : List Pg} {i : Nat} {p p' : Pg} (hp : l[i]? = some p) (hr : p.resident = true) (hr' : p'.resident = false) :
  ((l.filter Pg.resident).map fun p => (p.key, p.pins)).Perm ((p.key, p.pins) :: ((l.set i p').filter Pg.resident).map fun p => (p.key, p.pins)) ∧ List.Sublist (((l.set i p').filter Pg.resident).map fun p => (p.key, p.pins)) ((l.filter Pg.resident).map fun p => (p.key, p.pins)) := by
 have e : (l.set i p').filter Pg.resident = (l.eraseIdx i).filter Pg.resident := by
  clear hr
  induction l generalizing i with
  | nil => cases hp
  | cons a l ih =>
   cases i with
   | zero => simp [Vv, hr']
   | succ i =>
    have := ih (i := i) (by simpa using hp)
    simp only [Vm, Xh, Vv, this]
 rw [e]
 exact res_out_erase hp hr
theorem putOut_ok {q : Clk} (h : q.Wf) {p : Pg} (hp : q.pages[q.cold]? = some p) (hc : p.coldFree = true) : (q.putOut p).Wf ∧ Out q (q.putOut p) p.key := by
 have hlt := (Uf.1 hp).1
 have hc2 : p.kind = 2 ∧ p.pins = 0 := by unfold Pg.coldFree at hc; simpa using hc
 have hr : p.resident = true := by unfold Pg.resident; simp [hc2.1]
 unfold putOut
 split
 ·obtain ⟨a, b, c⟩ := io ((h.setP (i := q.cold) (p' := { p with kind := 3 }) ⟨.inr (.inr rfl), by show 0 <= p.pins; omega, fun _ => hc2.2⟩).onCold (set_ne hp))
  have r := res_out_set (p' := { p with kind := 3 }) hp hr rfl
  have e0 : ((p.key, p.pins) : Key3 × Int) = (p.key, 0) := by rw [hc2.2]
  refine ⟨a, b.most, ?_, ?_, b.keys.trans ?_, c⟩
  ·rw [b.res, <- e0]; exact r.1
  ·rw [b.res]; exact r.2
  ·show List.Sublist ((q.pages.set q.cold { p with kind := 3 }).map (·.key)) (q.pages.map (·.key))
   rw [keys_set (p' := { p with kind := 3 }) hp rfl]
   exact List.Sublist.refl _
 ·obtain ⟨a, b, c⟩ := io (h.goes hlt)
  have r := res_out_erase hp hr
  have e0 : ((p.key, p.pins) : Key3 × Int) = (p.key, 0) := by rw [hc2.2]
  refine ⟨a, b.most, ?_, ?_, b.keys.trans ((Zm _ _).map _), c⟩
  ·rw [b.res, <- e0]; exact r.1
  ·rw [b.res]; exact r.2
theorem coldAt_ok {q : Clk} (h : q.Wf) {p : Pg} (hp : q.pages[q.cold]? = some p) :
  (q.coldAt p).1.Wf ∧ ((q.coldAt p).2 = none ∧ Le q (q.coldAt p).1 ∨ ∃ k, (q.coldAt p).2 = some k ∧ Out q (q.coldAt p).1 k) := by
 have hk := h.kinds p (Uj hp)
 unfold coldAt
 split
 ·exact ⟨h.onCold (ne_of_get hp), .inl ⟨rfl, Le.onCold q⟩⟩
 ·rename_i hc
  have hc1 : p.coldFree = true := by simpa using hc
  have hc2 : p.kind = 2 ∧ p.pins = 0 := by unfold Pg.coldFree at hc1; simpa using hc1
  split
  ·split
   ·have w := (h.setP (i := q.cold) (p' := { p with kind := 1, ref := false, trial := false }) ⟨.inl rfl, hk.2.1, fun h => by cases h⟩).onCold (set_ne hp)
    obtain ⟨a, b, _⟩ := nv w
    exact ⟨a, .inl ⟨rfl, ((Le.setP q (p' := { p with kind := 1, ref := false, trial := false }) hp rfl rfl (by unfold Pg.resident; simp [hc2.1]) (fun h => by cases h) (by unfold Pg.test; simp [hc2.1])).trans (Le.onCold _)).trans b⟩⟩
   ·exact ⟨(h.setP (i := q.cold) (p' := { p with ref := false, trial := true }) hk).onCold (set_ne hp), .inl ⟨rfl, (Le.setP q (p' := { p with ref := false, trial := true }) hp rfl rfl rfl (fun h => by cases h) rfl).trans (Le.onCold _)⟩⟩
  ·obtain ⟨a, b⟩ := putOut_ok h hp hc1
   exact ⟨a, .inr ⟨p.key, rfl, b⟩⟩
def coldFin : Nat -> Clk -> Prop
 | 0, _ => False
 | k + 1, q => ∃ p, q.warm.pages[q.warm.cold]? = some p ∧ ((∃ key, (q.warm.coldAt p).2 = some key) ∨ coldFin k (q.warm.coldAt p).1)
theorem coldFin_mono : ∀ {k m : Nat} {q : Clk}, coldFin k q -> k <= m -> coldFin m q
 | 0, _, _, h, _ => h.elim
 | k + 1, m + 1, q, ⟨p, hp, h⟩, hm => ⟨p, hp, h.imp id fun h => coldFin_mono h O0⟩
 | k + 1, 0, _, _, h => by omega
theorem yp {N R d : Nat} {q : Clk} (h : q.Wf) (hf : 1 <= q.count Pg.free) (hR : q.warm.pages.countP Pg.ref <= R) (hN : q.warm.pages.length <= N) (hd : (rot q.warm.pages q.warm.cold).findIdx Pg.coldFree <= d) {K : Nat}
  (kA : ∀ q' : Clk, q'.Wf -> 1 <= q'.count Pg.free -> q'.warm.pages.countP Pg.ref <= R -> q'.warm.pages.length <= N -> ∀ d', d = d' + 1 -> (rot q'.warm.pages q'.warm.cold).findIdx Pg.coldFree <= d' -> coldFin K q')
  (kC : ∀ q' : Clk, q'.Wf -> 1 <= q'.count Pg.free -> ∀ R', R = R' + 1 -> q'.warm.pages.countP Pg.ref <= R' -> q'.warm.pages.length <= N -> coldFin K q') : coldFin (K + 1) q := by
 obtain ⟨w1, w2, w3⟩ := warm_ok h hf
 have hf' : 1 <= q.warm.count Pg.free := by rw [w2.free]; exact hf
 generalize hw : q.warm = u at *
 have hpos : 0 < u.pages.length := by have := count_len u Pg.coldFree; omega
 have hh := w1.cold
 obtain ⟨p, hp⟩ : ∃ p, u.pages[u.cold]? = some p := ⟨_, Uc (show u.cold < u.pages.length by omega)⟩
 refine ⟨p, by rw [hw]; exact hp, ?_⟩
 rw [hw]
 by_cases hc : p.coldFree = false
 ·right
  have e : u.coldAt p = (u.onCold, none) := by unfold coldAt; rw [if_pos hc]
  rw [e]
  have e2 : u.onCold.warm = u.onCold := ld (show 1 <= u.onCold.count Pg.coldFree from w3)
  have hd2 := hd
  rw [kn hp, Zd, hc] at hd2
  have hd3 : (u.pages.drop (u.cold + 1) ++ u.pages.take u.cold).findIdx Pg.coldFree + 1 <= d := by simpa using hd2
  refine kA _ (w1.onCold (ne_of_get hp)) hf' (by rw [e2]; exact hR) (by rw [e2]; exact hN) (d - 1) O0 ?_
  rw [e2]
  show (rot u.pages ((u.cold + 1) % u.pages.length)).findIdx Pg.coldFree <= d - 1
  have hr := ww hp p
  rw [dx hp] at hr
  rw [hr]
  have hex : (u.pages.drop (u.cold + 1) ++ u.pages.take u.cold).findIdx Pg.coldFree < (u.pages.drop (u.cold + 1) ++ u.pages.take u.cold).length := by
   rw [List.findIdx_lt_length]
   have hcn : 1 <= (rot u.pages u.cold).countP Pg.coldFree := by rw [xz]; exact w3
   rw [kn hp, Wl, hc] at hcn
   obtain ⟨x, hx, hx2⟩ := Xn.1 (show 0 < (u.pages.drop (u.cold + 1) ++ u.pages.take u.cold).countP Pg.coldFree by simp only [Xc, if_false, Wm] at hcn; omega)
   exact ⟨x, hx, hx2⟩
  rw [findIdx_append_lt hex]
  omega
 ·have hc1 : p.coldFree = true := by simpa using hc
  by_cases hr : p.ref = true
  ·right
   obtain ⟨o1, o2⟩ := coldAt_ok w1 hp
   have key : (u.coldAt p).2 = none ∧ (u.coldAt p).1.pages.countP Pg.ref + 1 <= u.pages.countP Pg.ref := by
    unfold coldAt
    rw [if_neg hc, if_pos hr]
    by_cases ht : p.trial = true
    ·rw [if_pos ht]
     refine ⟨rfl, ?_⟩
     have c := ja Pg.ref hp { p with kind := 1, ref := false, trial := false }
     have hk := w1.kinds p (Uj hp)
     obtain ⟨_, b, _⟩ := nv ((w1.setP (i := u.cold) (p' := { p with kind := 1, ref := false, trial := false }) ⟨.inl rfl, hk.2.1, fun h => by cases h⟩).onCold (set_ne hp))
     have hb := b.refs
     show (((u.setP u.cold { p with kind := 1, ref := false, trial := false }).onCold).cool).pages.countP Pg.ref + 1 <= _
     have e1 : Pg.ref p = true := hr
     have e2 : Pg.ref { p with kind := 1, ref := false, trial := false } = false := rfl
     rw [e1, e2] at c
     simp only [if_true, Xc, if_false] at c
     have hb2 : (((u.setP u.cold { p with kind := 1, ref := false, trial := false }).onCold).cool).pages.countP Pg.ref <= (u.pages.set u.cold { p with kind := 1, ref := false, trial := false }).countP Pg.ref := hb
     omega
    ·rw [if_neg ht]
     refine ⟨rfl, ?_⟩
     have c := ja Pg.ref hp { p with ref := false, trial := true }
     show (u.pages.set u.cold { p with ref := false, trial := true }).countP Pg.ref + 1 <= _
     have e1 : Pg.ref p = true := hr
     have e2 : Pg.ref { p with ref := false, trial := true } = false := rfl
     rw [e1, e2] at c
     simp only [if_true, Xc, if_false] at c
     omega
   rcases o2 with ⟨_, o2⟩ | ⟨k, hk, _⟩
   ·have f2 : 1 <= (u.coldAt p).1.count Pg.free := by rw [o2.free]; exact hf'
    obtain ⟨v1, v2, v3⟩ := warm_ok o1 f2
    have l1 := v2.len
    have l2 := o2.len
    have r1 := v2.refs
    exact kC _ o1 f2 (R - 1) O0 O0 O0
   ·rw [key.1] at hk; cases hk
  ·left
   unfold coldAt
   rw [if_neg hc, if_neg hr]
   exact ⟨p.key, rfl⟩
theorem lb (N : Nat) : ∀ (R d : Nat) (q : Clk), q.Wf -> 1 <= q.count Pg.free -> q.warm.pages.countP Pg.ref <= R -> q.warm.pages.length <= N -> (rot q.warm.pages q.warm.cold).findIdx Pg.coldFree <= d -> coldFin (R * (N + 1) + d + 1) q := by
 intro R
 induction R with
 | zero =>
  intro d
  induction d with
  | zero => intro q h hf hR hN hd; exact yp h hf hR hN hd (fun _ _ _ _ _ d' e => by omega) (fun _ _ _ R' e => by omega)
  | succ d ih => intro q h hf hR hN hd; exact yp h hf hR hN hd (fun q' a b c e d' ed f => by cases ed; exact ih q' a b c e f) (fun _ _ _ R' e => by omega)
 | succ R ihR =>
  have kC : ∀ K, (R + 1) * (N + 1) <= K -> ∀ q' : Clk, q'.Wf -> 1 <= q'.count Pg.free -> ∀ R', R + 1 = R' + 1 -> q'.warm.pages.countP Pg.ref <= R' -> q'.warm.pages.length <= N -> coldFin K q' := by
   intro K hK q' a b R' e c f
   cases e
   refine coldFin_mono (ihR N q' a b c f ?_) ?_
   ·have := Xl (p := Pg.coldFree) (xs := rot q'.warm.pages q'.warm.cold)
    rw [yn] at this; omega
   ·rw [Zk] at hK; omega
  intro d
  induction d with
  | zero => intro q h hf hR hN hd; exact yp h hf hR hN hd (fun _ _ _ _ _ d' e => by omega) (kC _ (Ug _))
  | succ d ih => intro q h hf hR hN hd; exact yp h hf hR hN hd (fun q' a b c e d' ed f => by cases ed; exact ih q' a b c e f) (kC _ O0)
theorem cold_fin {q : Clk} (h : q.Wf) (hf : 1 <= q.count Pg.free) : coldFin q.coldFuel q := by
 obtain ⟨w1, w2, w3⟩ := warm_ok h hf
 have l := w2.len
 have h2 := lb q.pages.length (q.warm.pages.countP Pg.ref) q.pages.length q h hf (Ug _) l (by have := Xl (p := Pg.coldFree) (xs := rot q.warm.pages q.warm.cold); rw [yn] at this; omega)
 refine coldFin_mono h2 ?_
 have h3 := Vx (p := Pg.ref) (l := q.warm.pages)
 have h4 : q.warm.pages.countP Pg.ref * (q.pages.length + 1) <= q.pages.length * (q.pages.length + 1) := Ut _ O0
 unfold coldFuel
 have h5 : q.pages.length * (q.pages.length + 1) + q.pages.length + 1 = (q.pages.length + 1) * (q.pages.length + 1) := by rw [Vi q.pages.length 1, Nat.one_mul]; omega
 have h6 : (q.pages.length + 1) * (q.pages.length + 1) <= (q.pages.length + 2) * (2 * q.pages.length + 4) := Zt O0 O0
 omega
theorem Le.out {a b c : Clk} {k : Key3} (h : Le a b) (g : Out b c k) : Out a c k := ⟨g.most.trans h.most, by rw [<- h.res]; exact g.res, by rw [<- h.res]; exact g.sub, g.keys.trans h.keys, g.tests⟩
theorem coldRun_ok : ∀ (k : Nat) (q : Clk), coldFin k q -> q.Wf -> 1 <= q.count Pg.free -> ∃ key, (coldRun k q).2 = some key ∧ (coldRun k q).1.Wf ∧ Out q (coldRun k q).1 key
 | 0, _, h, _, _ => h.elim
 | k + 1, q, ⟨p, hp, hf⟩, h, h1 => by
  obtain ⟨w1, w2, w3⟩ := warm_ok h h1
  obtain ⟨o1, o2⟩ := coldAt_ok w1 hp
  unfold coldRun
  rw [hp]
  dsimp only
  rcases o2 with ⟨e, o2⟩ | ⟨key, e, o2⟩
  ·have hf2 := hf.resolve_left (by rintro ⟨key, hk⟩; rw [e] at hk; cases hk)
   obtain ⟨key, a, b, c⟩ := coldRun_ok k _ hf2 o1 (by rw [o2.free, w2.free]; exact h1)
   generalize hr : q.warm.coldAt p = r at *
   obtain ⟨r1, r2⟩ := r
   dsimp only at e a b c o2
   subst e
   exact ⟨key, a, b, (w2.trans o2).out c⟩
  ·generalize hr : q.warm.coldAt p = r at *
   obtain ⟨r1, r2⟩ := r
   dsimp only at e o1 o2
   subst e
   exact ⟨key, rfl, o1, w2.out o2⟩
theorem coldTurns_ok {q : Clk} (h : q.Wf) (h1 : 1 <= q.count Pg.free) : ∃ key, q.coldTurns.2 = some key ∧ q.coldTurns.1.Wf ∧ Out q q.coldTurns.1 key :=
 coldRun_ok _ q (cold_fin h h1) h h1
end Clk
end
section
namespace Clk
theorem comes_wf {q : Clk} (h : q.Wf) {p : Pg} (hp : p.Ok) : (q.comes p).Wf ∧ (q.comes p).pages.length = q.pages.length + 1 := by
 unfold comes
 have h1 := h.hot
 have h2 := h.cold
 have h3 := h.test
 split
 ·rename_i h0
  refine ⟨⟨h.most, h.target, fun x hx => ?_, by simp, by simp, by simp⟩, by rw [h0]; rfl⟩
  obtain rfl : x = p := by simpa using hx
  exact hp
 ·rename_i h0
  have hpos : 0 < q.pages.length := Vt.2 h0
  have hl : (q.pages.take q.hot ++ p :: q.pages.drop q.hot).length = q.pages.length + 1 := by
   simp only [Ua, Ui, Us, Uq]; omega
  refine ⟨⟨h.most, h.target, fun x hx => ?_, ?_, ?_, ?_⟩, hl⟩
  ·rcases Ws.1 hx with hx | hx
   ·exact h.kinds x (Xi hx)
   ·rcases Uo.1 hx with rfl | hx
    ·exact hp
    ·exact h.kinds x (List.mem_of_mem_drop hx)
  ·show q.hot + 1 < max (q.pages.take q.hot ++ p :: q.pages.drop q.hot).length 1; rw [hl]; omega
  ·show (if q.cold ≥ q.hot then q.cold + 1 else q.cold) < max (q.pages.take q.hot ++ p :: q.pages.drop q.hot).length 1; rw [hl]; split <;> omega
  ·show (if q.test ≥ q.hot then q.test + 1 else q.test) < max (q.pages.take q.hot ++ p :: q.pages.drop q.hot).length 1; rw [hl]; split <;> omega
end Clk
end
section
def Key3.C (k : Key3) : List Value := [.iz k.series, .iz k.life, .iz k.blob]
def Pg.C (p : Pg) : List Value := [.iz p.key.series, .iz p.key.life, .iz p.key.blob, .iz p.kind, .bool p.ref, .bool p.trial, .iz p.pins]
def Clk.C (a : Option Addr) (c : Nat) (q : Clk) : List Value := [.iz q.most, .iz q.target, .slice a q.pages.length c, .iz (q.hot : Int), .iz (q.cold : Int), .iz (q.test : Int)]
abbrev pgsV (l : List Pg) : List Value := l.flatMap Pg.C
theorem gy (p : Pg) : p.C.length = 7 := rfl
theorem ud (l : List Pg) : (pgsV l).length = l.length * 7 := flat_len gy l
theorem zi (l : List Pg) : ∀ u ∈ pgsV l, u.oneCell' = true := by
 intro u hu
 obtain ⟨p, _, hp⟩ := Xf.1 hu
 simp only [Pg.C, Uo, Ka, or_false] at hp
 rcases hp with rfl | rfl | rfl | rfl | rfl | rfl | rfl <;> rfl
theorem dw (l : List Pg) (i : Nat) : (pgsV l).take (i * 7) = pgsV (l.take i) := by
 induction l generalizing i with
 | nil => simp [pgsV]
 | cons a l ih =>
  cases i with
  | zero => simp [pgsV]
  | succ i =>
   rw [Vu, pgsV, pgsV, Uh, Uh, Zk, Wt, Kc, gy, Xr, Uv (by rw [gy]; omega)]
   exact congrArg _ (ih i)
theorem dh (l : List Pg) (i : Nat) : (pgsV l).drop (i * 7) = pgsV (l.drop i) := by
 induction l generalizing i with
 | nil => simp [pgsV]
 | cons a l ih =>
  cases i with
  | zero => simp [pgsV]
  | succ i =>
   rw [Wc, pgsV, pgsV, Uh, Zk, Wt, Zi, gy, Xr, Vo (by rw [gy]; omega), Up]
   exact ih i
end
end Go.Hw
namespace Go.Proofs.YtngdfdangkdgcaaGreatDoor
open Go.Hw _root_.Go.Proofs.Tryz
section
instance eqiKey : EqI prog 51 [.i64, .i64, .i64] := ⟨⟨_, underlying51, by kernel_rfl⟩, by kernel_rfl, by kernel_rfl⟩
abbrev OwnPg (a : Option Addr) (c : Nat) (l : List Pg) : HProp := Own 113 7 a l.length c (pgsV l)
abbrev PgPt (b : Nat) (p : Pg) : HProp := pt b (.cells p.C.toArray 113 (0, 0))
abbrev ClkPt (b : Nat) (a : Option Addr) (c : Nat) (q : Clk) : HProp := pt b (.cells (q.C a c).toArray 104 (0, 0))
abbrev KeyPt (b : Nat) (k : Key3) : HProp := pt b (.cells k.C.toArray 51 (0, 0))
section
variable {w0 w : World} {l : List HProp}
def PgFn (f : FuncId) (pr : Pg -> Bool) : Prop := ∀ {w0 w : World} {l : List HProp} (p : Pg), St w0 l w -> Ret prog f [.agg p.C.toArray] w fun v w' => v = .bool (pr p) ∧ St w0 l w'
theorem p9 : PgFn 121 Pg.hot := by
 intro w0 w l p h
 refine en func121 results121 ntmps121 ?_
 refine Y1 ?_
 refine r_c rfl (jv h (show _ = Value.agg p.C.toArray from rfl) fun b w h => ?_)
 replace h : St w0 (PgPt b p :: l) w := h
 refine Ya ?_; refine Y26 ?_
 refine r_v (qq (v := .iz p.kind) rfl (h.b 0 rfl) rfl) rfl ?_
 refine Yp ?_; refine Y7 ?_
 exact qv (qk (bq1 ⟨rfl, h.drop⟩))
theorem sr : PgFn 133 Pg.test := by
 intro w0 w l p h
 refine en func133 results133 ntmps133 ?_
 refine Y1 ?_
 refine r_c rfl (jv h (show _ = Value.agg p.C.toArray from rfl) fun b w h => ?_)
 replace h : St w0 (PgPt b p :: l) w := h
 refine Ya ?_; refine Y26 ?_
 refine r_v (qq (v := .iz p.kind) rfl (h.b 0 rfl) rfl) rfl ?_
 refine Yp ?_; refine Y7 ?_
 exact qv (qk (bq1 ⟨rfl, h.drop⟩))
theorem gm : PgFn 80 Pg.resident := by
 intro w0 w l p h
 refine en func80 results80 ntmps80 ?_
 refine Y1 ?_
 refine r_c rfl (jv h (show _ = Value.agg p.C.toArray from rfl) fun b w h => ?_)
 replace h : St w0 (PgPt b p :: l) w := h
 refine Ya ?_; refine Y26 ?_
 refine r_v (qq (v := .iz p.kind) rfl (h.b 0 rfl) rfl) rfl ?_
 refine Yp ?_
 cases hc : (p.kind == 1)
 ·refine Y1e ?_
  refine r_v (qq (v := .iz p.kind) rfl (h.b 0 rfl) rfl) rfl ?_
  refine Y3b ?_; refine Y2h ?_
  exact qv (qk (bq1 ⟨by unfold Pg.resident; rw [hc]; rfl, h.drop⟩))
 ·refine Y2f ?_; refine Y2m ?_
  exact qv (qk (bq1 ⟨by unfold Pg.resident; rw [hc]; rfl, h.drop⟩))
theorem ls : PgFn 81 Pg.free := by
 intro w0 w l p h
 refine en func81 results81 ntmps81 ?_
 refine Y1 ?_
 refine r_c rfl (jv h (show _ = Value.agg p.C.toArray from rfl) fun b w h => ?_)
 replace h : St w0 (PgPt b p :: l) w := h
 refine Ya ?_; refine Y1 ?_
 refine r_v (qx (l := p.C) rfl rfl (qw (h.b 0 rfl) rfl)) rfl ?_
 refine r_c rfl (qg rfl (gm p h) ?_)
 clear h
 rintro _ w ⟨rfl, h⟩
 cases hc : p.resident
 ·refine Y2f ?_; refine Y2h ?_
  exact qv (qk (bq1 ⟨by unfold Pg.free; rw [hc]; rfl, h.drop⟩))
 ·refine Y1e ?_
  refine r_v (qq (v := .iz p.pins) rfl (h.b 0 rfl) rfl) rfl ?_
  refine Y3b ?_; refine Y2m ?_
  exact qv (qk (bq1 ⟨by unfold Pg.free; rw [hc]; rfl, h.drop⟩))
theorem zq : PgFn 116 Pg.coldFree := by
 intro w0 w l p h
 refine en func116 results116 ntmps116 ?_
 refine Y1 ?_
 refine r_c rfl (jv h (show _ = Value.agg p.C.toArray from rfl) fun b w h => ?_)
 replace h : St w0 (PgPt b p :: l) w := h
 refine Ya ?_; refine Y26 ?_
 refine r_v (qq (v := .iz p.kind) rfl (h.b 0 rfl) rfl) rfl ?_
 refine Yp ?_
 cases hc : (p.kind == 2)
 ·refine Y2f ?_; refine Y2h ?_
  exact qv (qk (bq1 ⟨by unfold Pg.coldFree; rw [hc]; rfl, h.drop⟩))
 ·refine Y1e ?_
  refine r_v (qq (v := .iz p.pins) rfl (h.b 0 rfl) rfl) rfl ?_
  refine Y3b ?_; refine Y2m ?_
  exact qv (qk (bq1 ⟨by unfold Pg.coldFree; rw [hc]; rfl, h.drop⟩))
theorem countP_take_succ {l : List Pg} {k : Nat} {p : Pg} (hp : l[k]? = some p) (f : Pg -> Bool) : (l.take (k + 1)).countP f = (l.take k).countP f + (if f p then 1 else 0) := by
 rw [Vl, hp]
 simp [List.countP_append, Wl]
theorem gz {f : FuncId} {pr : Pg -> Bool} [FnB prog f] (hf : PgFn f pr) {a : Option Addr} {c : Nat} {q : Clk} (hn : q.pages.length <= 1000000) (hr : Reads w0 l 7 a q.pages.length (pgsV q.pages)) (h : St w0 l w) :
  Ret prog 79 [.agg (q.C a c).toArray, .func (.func f) #[] #[]] w fun v w' => v = .iz (q.count pr) ∧ St w0 l w' := by
 refine en func79 results79 ntmps79 ?_
 refine Y1 ?_
 refine r_c rfl (jv h (show _ = Value.agg (q.C a c).toArray from rfl) fun b w h => ?_)
 replace h : St w0 (ClkPt b a c q :: l) w := h
 refine Y4 ?_; refine Yr ?_; refine Y2v ?_; refine Yk ?_
 refine r_v (qq (v := .slice a q.pages.length c) rfl (h.b 0 rfl) rfl) rfl ?_
 refine Y15 ?_; refine Y0 ?_; refine Y2 ?_
 replace h := h.drop
 refine Yh ?_
 refine jx (Γ := Nat) (fun k => [(1, .func (.func f) #[] #[]), (5, .iz ((q.pages.take k).countP pr : Nat)), (9, .slice a q.pages.length c), (10, .iz q.pages.length), (11, .iz k)])
  (fun k w => k <= q.pages.length ∧ St w0 l w) (fun k => q.pages.length - k) 0 zz5 ⟨Ud _, h⟩ ?_
 clear h
 rintro k w e ⟨hkn, h⟩
 refine Y3p ?_
 by_cases hlt : k < q.pages.length
 ·refine qz (.bool true) O3 ?_
  refine Y42 ?_; refine Yl ?_
  have hget : q.pages[k]? = some q.pages[k] := Uc hlt
  generalize q.pages[k] = p at hget
  have hcur := h
  obtain ⟨b2, o2, rfl⟩ := (hr.at_ h).some O0
  have h := hcur
  refine Y38 ?_; refine Y1 ?_
  refine r_v (jb (j := k) (o' := o2 + k * 7) rfl rfl rfl hlt rfl) rfl ?_
  refine r_v (qx (l := p.C) rfl rfl ((hr.at_ h).elem gy hget)) rfl ?_
  refine r_c rfl (qp h fun b5 w h => ?_)
  refine r_c rfl (qy (vs := p.C) 0 h rfl rfl rfl rfl rfl rfl rfl fun w h => ?_)
  replace h : St w0 (PgPt b5 p :: l) w := h
  refine Yn ?_
  refine r_v (qj4 rfl) rfl ?_
  refine r_v (qx (l := p.C) rfl rfl (qw (h.b 0 rfl) rfl)) rfl ?_
  refine r_c rfl (qj5 rfl rfl (hf p h) ?_)
  clear h
  rintro _ w ⟨rfl, h⟩
  replace h := h.drop
  have hct := countP_take_succ hget pr
  have hcl := Vx (p := pr) (l := q.pages.take k)
  have htl : (q.pages.take k).length = k := by rw [Us]; omega
  refine qv (qi (pr p) rfl (fun hc => ?_) (fun hc => ?_))
  ·refine Y2z ?_; refine Y4 ?_; refine Yt ?_
   refine qz (.iz (k + 1 : Nat)) O17 ?_
   refine Y0 ?_
   refine qv ⟨k + 1, ⟨rfl, ?_, rfl, rfl, rfl, trivial⟩, ⟨hlt, h⟩, O_o⟩
   rw [hct, if_pos hc]
   show Value.iz (IntKind.i64.wrap (((q.pages.take k).countP pr : Nat) + 1)) = _
   rw [wrap64 O0 O0]; rfl
  ·refine Y47 ?_
   refine qz (.iz (k + 1 : Nat)) O17 ?_
   refine Y0 ?_
   refine qv ⟨k + 1, ⟨rfl, ?_, rfl, rfl, rfl, trivial⟩, ⟨hlt, h⟩, O_o⟩
   rw [hct, if_neg (by rw [hc]; simp)]
   rfl
 ·refine qz (.bool false) O4 ?_
  refine qv (qf (qe rfl (ju ?_)))
  refine Y8 ?_; refine Y6 ?_
  obtain rfl : k = q.pages.length := by omega
  refine qv (qk (bq1 ⟨?_, h⟩))
  show Value.iz ((q.pages.take q.pages.length).countP pr : Nat) = _
  rw [Zj]; rfl
theorem nu {f : FuncId} {pr : Pg -> Bool} {us : List Value} [FnB prog f] {a : Option Addr} {c : Nat} {L : List Pg} (hf : ∀ w (p : Pg), St w0 l w -> Ret prog f ([.agg p.C.toArray] ++ us) w fun v w' => v = .bool (pr p) ∧ St w0 l w') (hn : L.length <= 1000000) (hr : Reads w0 l 7 a L.length (pgsV L)) (h : St w0 l w) :
  Ret prog 112 [.slice a L.length c, .func (.func f) #[] us.toArray] w fun v w' => v = .iz ((L.findIdx? pr).elim (-1) (fun i : Nat => (i : Int))) ∧ St w0 l w' := by
 refine en func112 results112 ntmps112 ?_
 refine Yr ?_; refine Y25 ?_; refine Y20 ?_
 refine jx (Γ := Nat) (fun k => [(0, .slice a L.length c), (1, .func (.func f) #[] us.toArray), (7, .iz L.length), (8, .iz k)])
  (fun k w => k <= L.length ∧ (∀ x ∈ L.take k, pr x = false) ∧ St w0 l w) (fun k => L.length - k) 0 zz4 ⟨Ud _, by simp, h⟩ ?_
 clear h
 rintro k w e ⟨hkn, hpre, h⟩
 refine Y3p ?_
 by_cases hlt : k < L.length
 ·refine qz (.bool true) O3 ?_
  refine Y42 ?_; refine Yl ?_
  have hget : L[k]? = some L[k] := Uc hlt
  generalize L[k] = p at hget
  have hcur := h
  obtain ⟨b2, o2, rfl⟩ := (hr.at_ h).some O0
  have h := hcur
  refine Y38 ?_; refine Y3i ?_; refine Y1 ?_
  refine r_v (qj6 rfl) rfl ?_
  refine Yj ?_; refine Y0 ?_
  refine r_v (jb (j := k) (o' := o2 + k * 7) rfl rfl rfl hlt rfl) rfl ?_
  refine r_v (qx (l := p.C) rfl rfl ((hr.at_ h).elem gy hget)) rfl ?_
  refine r_c rfl (qj7 rfl rfl (hf w p h) ?_)
  clear h
  rintro _ w ⟨rfl, h⟩
  refine qv (qi (pr p) rfl (fun hc => ?_) (fun hc => ?_))
  ·refine Y8 ?_; refine Y6 ?_
   refine qv (qk (bq1 ⟨?_, h⟩))
   have hfi : L.findIdx? pr = some k := by
    rw [Xz]
    refine ⟨hlt, by rw [(Uf.1 hget).2]; exact hc, fun j hj => ?_⟩
    have := hpre L[j] (List.mem_take_iff_getElem.2 ⟨j, O_o, rfl⟩)
    simp [this]
   rw [hfi]
   rfl
  ·refine Y47 ?_
   refine qz (.iz (k + 1 : Nat)) O17 ?_
   refine Y0 ?_
   refine qv ⟨k + 1, zz4, ⟨hlt, fun x hx => ?_, h⟩, O_o⟩
   rw [Vl, hget] at hx
   rcases Ws.1 hx with hx | hx
   ·exact hpre x hx
   ·obtain rfl : x = p := by simpa using hx
    exact hc
 ·refine qz (.bool false) O4 ?_
  refine qv (qf (qe rfl (ju ?_)))
  refine Y13 ?_
  refine qv (qk (bq1 ⟨?_, h⟩))
  have hfi : L.findIdx? pr = none := by
   rw [List.findIdx?_eq_none_iff]
   intro x hx
   exact hpre x (by rw [Uv O0]; exact hx)
  rw [hfi]
  rfl
theorem oz {b : Nat} {k : Key3} (p : Pg) {M : List HProp} (h : St w0 (KeyPt b k :: M) w) : Ret prog 113 ([.agg p.C.toArray] ++ [.pz b]) w fun v w' => v = .bool (p.key == k) ∧ St w0 (KeyPt b k :: M) w' := by
 refine en func113 results113 ntmps113 ?_
 refine Y1 ?_
 refine r_c rfl (jv h (show _ = Value.agg p.C.toArray from rfl) fun b2 w h => ?_)
 replace h : St w0 (PgPt b2 p :: KeyPt b k :: M) w := h
 refine Ya ?_; refine Y26 ?_
 refine r_v (qx (l := p.key.C) rfl rfl (qw (h.b 0 rfl) rfl)) rfl ?_
 refine r_v (qx (l := k.C) rfl rfl (qw (h.b 1 rfl) rfl)) rfl ?_
 refine r_v (q_eqI [p.key.series, p.key.life, p.key.blob] [k.series, k.life, k.blob] rfl rfl rfl rfl) rfl ?_
 refine Y7 ?_
 refine qv (qk (bq1 ⟨?_, h.drop⟩))
 show Value.bool ([p.key.series, p.key.life, p.key.blob] == [k.series, k.life, k.blob]) = _
 congr 1
 rw [Bool.eq_iff_iff, beq_iff_eq, beq_iff_eq]
 obtain ⟨⟨a, b, c⟩, _⟩ := p
 obtain ⟨d, e, f⟩ := k
 simp
def findI (o : Option Nat) : Int := o.elim (-1) (fun i : Nat => (i : Int))
theorem yf {a : Option Addr} {c : Nat} {q : Clk} {k : Key3} (hn : q.pages.length <= 1000000) (hr : Reads w0 l 7 a q.pages.length (pgsV q.pages)) (h : St w0 l w) :
  Ret prog 83 [.agg (q.C a c).toArray, .agg k.C.toArray] w fun v w' => v = .iz (findI (q.find k)) ∧ St w0 l w' := by
 refine en func83 results83 ntmps83 ?_
 refine Y1 ?_
 refine r_c rfl (jv h (show _ = Value.agg (q.C a c).toArray from rfl) fun b w h => ?_)
 refine r_c rfl (jv h (show _ = Value.agg k.C.toArray from rfl) fun b2 w h => ?_)
 replace h : St w0 (KeyPt b2 k :: ClkPt b a c q :: l) w := h
 refine Y4 ?_; refine Y26 ?_
 refine r_v (qq (v := .slice a q.pages.length c) rfl (h.b 1 rfl) rfl) rfl ?_
 refine r_v (oy rfl) rfl ?_
 refine r_c rfl (qg rfl (nu (us := [.pz b2]) (pr := fun p => p.key == k) (fun w p h => oz p h) hn (hr.more [_, _]) h) ?_)
 clear h
 rintro _ w ⟨rfl, h⟩
 refine Y6 ?_
 exact qv (qk (bq1 ⟨rfl, h.drop.drop⟩))
theorem ox {a : Option Addr} {c : Nat} {L : List Pg} (hn : L.length <= 1000000) (hr : Reads w0 l 7 a L.length (pgsV L)) (h : St w0 l w) :
  Ret prog 111 [.slice a L.length c] w fun v w' => ∃ a' c', v = .slice a' L.length c' ∧ St w0 (OwnPg a' c' L :: l) w' := by
 refine en func111 results111 ntmps111 ?_
 refine Y2b ?_; refine Ye ?_
 refine r_v (ui rfl rfl) rfl ?_
 refine qv (qi a.isNone rfl (fun hs => ?_) (fun hs => ?_))
 ·refine Y1b ?_
  obtain rfl : a = none := by simpa using hs
  obtain ⟨h3, h4⟩ := hr.at_ h
  have hl : L.length = 0 := by rcases h4 with h | ⟨b, o, h, _⟩; exact h; cases h
  obtain rfl : L = [] := Un hl
  exact qv (qk (bq1 ⟨none, 0, rfl, St.ownNil _ _ h⟩))
 ·refine Yl ?_; refine Y1 ?_
  refine r_c rfl (jg (r := []) h rfl rfl rfl fun b w h => ?_)
  refine Yj ?_
  have h1 : St w0 (Own 113 7 (sQ b) 0 0 [] :: l) w := St.own_mk (cur := []) h rfl rfl (Ug _)
  refine r_c rfl (q9 (ys := pgsV L) (zs := pgsV L) (m3 := L.length) h1 rfl rfl (hr.cons.at_ h1) (zi _) O0 rfl O0 O0 rfl fun a' c' w _ h => ?_)
  refine Yo ?_
  exact qv (qk (bq1 ⟨a', c', rfl, h⟩))
theorem lm {a : Option Addr} {c : Nat} {L : List Pg} (h : St w0 (OwnPg a c L :: l) w) :
  Ret prog 110 [.slice a L.length c] w fun v w' => v = .slice a L.length L.length ∧ St w0 (OwnPg a L.length L :: l) w' := by
 have hc := h.own_cases.2.1
 refine en func110 results110 ntmps110 ?_
 refine Y2c ?_; refine Ye ?_; refine Y17 ?_; refine Y17 ?_
 refine r_v (xv rfl rfl rfl (Ug _) hc) rfl ?_
 refine Yo ?_
 exact qv (qk (bq1 ⟨rfl, h.own_clip⟩))
theorem gx {a : Option Addr} {c : Nat} {q : Clk} (hn : q.pages.length <= 1000000) (hr : Reads w0 l 7 a q.pages.length (pgsV q.pages)) (h : St w0 l w) :
  Ret prog 82 [.agg (q.C a c).toArray] w fun v w' => ∃ a' c', v = .agg (q.C a' c').toArray ∧ St w0 (OwnPg a' c' q.pages :: l) w' := by
 refine en func82 results82 ntmps82 ?_
 refine Y1 ?_
 refine r_c rfl (jv h (show _ = Value.agg (q.C a c).toArray from rfl) fun b w h => ?_)
 refine r_c rfl (qp h fun b2 w h => ?_)
 replace h : St w0 (pt b2 (.cells [.iz 0, .iz 0, .slice none 0 0, .iz 0, .iz 0, .iz 0].toArray 104 (0, 0)) :: ClkPt b a c q :: l) w := h
 refine Y3n ?_
 refine r_v (qq (v := .slice a q.pages.length c) rfl (h.b 1 rfl) rfl) rfl ?_
 refine r_c rfl (qg rfl (ox hn (hr.more [_, _]) h) ?_)
 clear h
 rintro _ w ⟨a', c', rfl, h⟩
 refine r_c rfl (qg rfl (lm h) ?_)
 clear h
 rintro _ w ⟨rfl, h⟩
 refine Yk ?_
 refine r_c rfl (qb 2 h rfl (show _ = Value.slice a' q.pages.length q.pages.length from rfl) rfl rfl rfl rfl fun w h => ?_)
 replace h : St w0 (OwnPg a' q.pages.length q.pages :: pt b2 (.cells [.iz 0, .iz 0, .slice none 0 0, .iz 0, .iz 0, .iz 0].toArray 104 (0, 0)) :: ClkPt b a' q.pages.length q :: l) w := h
 refine Yn ?_
 refine r_v (qx (l := q.C a' q.pages.length) rfl rfl (qw (h.b 2 rfl) rfl)) rfl ?_
 refine r_c rfl (qy (vs := q.C a' q.pages.length) 1 h rfl rfl rfl rfl rfl rfl rfl fun w h => ?_)
 refine qv (qk ?_)
 refine bqc (v := .agg (q.C a' q.pages.length).toArray) (js (by rfl) (qw (h.b 1 rfl) rfl)) ⟨a', q.pages.length, rfl, ?_⟩
 exact h.x [1, 2]
end
end
end Go.Proofs.YtngdfdangkdgcaaGreatDoor
