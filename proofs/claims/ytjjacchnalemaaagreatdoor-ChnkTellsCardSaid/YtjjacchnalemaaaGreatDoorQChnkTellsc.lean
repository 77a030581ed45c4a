/- What the proof of ChnkTells needs, part 3: plain lemmas, and what each function does. -/
import Derived.Test.YtjjacchnalemaaaGreatDoorQChnkTellsb
import Derived.Test.YtjjacchnalemaaaGreatDoorRows
import Derived.ProofKit
import Derived.LaidMore
import Derived.OpenShut
import Derived.Stop.Joined
namespace Go.Hw
open Go.ChangeShapes Go.WideShapes Go.ChangeAt Go.RowKit
section
variable {P : Program} {W : World} {H : Type} {enc : TypeId × Value → H} {r : Reach} {b0 : Nat}
theorem maxLen_le {n : Nat} (h : n ≤ maxLen) : n ≤ 9223372036854775807 := Nat.le_trans h (by decide)
theorem nums_u64 : ∀ {zs : List Int}, (∀ z ∈ zs, (Lit.int .u64 z).wf = true) → ∃ us : List Nat, (∀ x ∈ us, x < 18446744073709551616) ∧ zs.map (Value.int .u64) = u64V us
 | [], _ => ⟨[], (fun _ h => by cases h), rfl⟩
 | z :: zs, h => by
  obtain ⟨us, hu, hb⟩ := nums_u64 (zs := zs) fun y hy => h y (List.mem_cons_of_mem _ hy)
  have hz : 0 ≤ z ∧ z ≤ 18446744073709551615 := by simpa [Lit.wf, IntKind.min, IntKind.max, IntKind.signed, IntKind.bits] using h z (List.mem_cons_self ..)
  refine ⟨z.toNat :: us, fun x hx => ?_, ?_⟩
  ·rcases List.mem_cons.1 hx with rfl | hx
   ·omega
   ·exact hu x hx
  ·simp only [List.map_cons, hb, u64V]
   congr 2
   omega
theorem arg_u64s {t e : TypeId} {v : Value} {d : DataW H} {p : List MemPlace} (ht : P.underlying t = some (.slice e)) (he : P.underlying e = some (.int .u64)) (hc : P.cellsOf e = 1)
  (hval : Value.okWide P W r b0 t v) (h : DataW.Trod enc P W 0 (fun _ => true) true t v d p) (hlt : ∀ x ∈ p, x.block < W.heap.size) :
  ∃ (a : Option Addr) (c : Nat) (us : List Nat), v = .slice a us.length c ∧ us.length ≤ 9223372036854775807 ∧ (∀ x ∈ us, x < 18446744073709551616) ∧ Reads W [] 1 a us.length (u64V us) := by
 obtain ⟨a, n, c, zs, h1, h2, h3, h4, h5⟩ := arg_nums ht he hc hval h hlt
 obtain ⟨us, hu, hb⟩ := nums_u64 h3
 rw [hb] at h4
 have hl : us.length = n := by have := h4.1; simpa [u64V] using this
 subst hl
 exact ⟨a, c, us, h1, maxLen_le h2, hu, Reads.old h4 h5⟩
theorem arg_i64s {t e : TypeId} {v : Value} {d : DataW H} {p : List MemPlace} (ht : P.underlying t = some (.slice e)) (he : P.underlying e = some (.int .i64)) (hc : P.cellsOf e = 1)
  (hval : Value.okWide P W r b0 t v) (h : DataW.Trod enc P W 0 (fun _ => true) true t v d p) (hlt : ∀ x ∈ p, x.block < W.heap.size) :
  ∃ (a : Option Addr) (c : Nat) (xs : List Int), v = .slice a xs.length c ∧ xs.length ≤ 9223372036854775807 ∧ (∀ x ∈ xs, I64 x) ∧ Reads W [] 1 a xs.length (i64V xs) := by
 obtain ⟨a, n, c, zs, h1, h2, h3, h4, h5⟩ := arg_nums ht he hc hval h hlt
 have hl : zs.length = n := by have := h4.1; simpa using this
 subst hl
 refine ⟨a, c, zs, h1, maxLen_le h2, fun x hx => ?_, Reads.old h4 h5⟩
 have := h3 x hx
 simp [Lit.wf, IntKind.min, IntKind.max, IntKind.signed, IntKind.bits] at this
 unfold I64
 omega
end
end Go.Hw

namespace Go.Proofs.YtjjacchnalemaaaGreatDoor
open Go.Hw Go.ChangeShapes Go.WideShapes Go.ChangeAt Go.RowKit
set_option maxRecDepth 100000
theorem laid_deB {H : Type} : (Rows.laid_math_bits_deBruijn64tab : DataW H) = .agg (deB.map fun (v : Nat) => .lit (.int .u8 (v : Int))) := rfl
theorem tz_of_laid {W : World} (h : laidMetH Tryz.prog [("math/bits.deBruijn64tab", Rows.laid_math_bits_deBruijn64tab)] W) : Tz W := by
 rw [MakeChecks.laidMetH_plain _ _ _ (by kernel_rfl)] at h
 obtain ⟨ps, ⟨g1, t1, cs1, f1, p1, q1, hg1, ht1, hv1, hd1, _⟩, _⟩ := h
 obtain rfl := Option.some.inj ((show Tryz.prog.globalNamed "math/bits.deBruijn64tab" = some 0 by kernel_rfl).symm.trans hg1)
 obtain rfl := Option.some.inj ((show (Tryz.prog.globals[0]?).map (·.type) = some 167 by kernel_rfl).symm.trans ht1)
 obtain ⟨xs, m1, rfl, hx1, hlen, hn3, hel⟩ := DataW.trod_array Tryz.underlying167 hd1
 have c1 : Tryz.prog.cellsOf 5 = 1 := by kernel_rfl
 rw [c1] at hel
 rw [laid_deB] at hx1
 simp only [Prod.mk.injEq, DataW.agg.injEq] at hx1
 obtain ⟨cs⟩ := cs1
 have key : ∀ (i v : Nat), deB[i]? = some v → W.cell? ⟨0, i, none⟩ = some (.int .u8 v) := fun i v hi => by
  have hi64 : i < 64 := (List.getElem?_eq_some_iff.1 hi).1
  have h0 := hel i hi64
  have hm : (xs.map (·.1))[i]? = some (.lit (.int .u8 (v : Int))) := by rw [← hx1.1, List.getElem?_map, hi]; rfl
  rw [List.getElem?_map] at hm
  obtain ⟨x, hx, hx2⟩ := Option.map_eq_some_iff.1 hm
  rw [hx] at h0
  obtain ⟨k, e1, e2, _⟩ := DataW.trod_int Tryz.underlying5 h0
  rw [e2] at hx2
  have hk : k = (v : Int) := by simpa using hx2
  subst hk
  rw [World.var?_cell hg1 hv1 i]
  have : (cs.drop (i * 1))[0]? = some (.int .u8 (v : Int)) := by
   have e3 : ((cs.drop (i * 1)).take 1)[0]? = some (.int .u8 (v : Int)) := by rw [e1]; rfl
   rwa [List.getElem?_take_of_lt (by decide)] at e3
  rw [List.getElem?_drop] at this
  simpa using this
 refine ⟨?_, key⟩
 have h0 := key 0 0 rfl
 unfold World.cell? at h0
 split at h0
 ·rename_i hh
  exact (Array.getElem?_eq_some_iff.1 hh).1
 ·cases h0
end Go.Proofs.YtjjacchnalemaaaGreatDoor

namespace Go.Hw
open Go.ChangeShapes Go.WideShapes Go.ChangeAt Go.RowKit

section
variable {H : Type} {enc : TypeId × Value → H} {P : Program} {W : World} {r : Reach} {b0 : Nat}
theorem trod_ints {e : TypeId} {ks : List IntKind} [he : EqI P e ks] (hC : P.cellsOf e = ks.length) (h1 : ((P.fieldsOf e).toList.all fun f => P.cellsOf f.type == 1) = true) {base n : Nat} {spare : Nat → Bool} {held : Bool} {cs : List Value} {y : DataW H × List MemPlace}
  (h : DataW.trod enc P W base spare held n e cs = some y) : ∃ aL : List Int, aL.length = ks.length ∧ cs = ints ks aL ∧ ∀ (j : Nat) k a, ks[j]? = some k → aL[j]? = some a → (Lit.int k a).wf = true := by
 obtain ⟨fl, hu, hf⟩ := he.u
 obtain ⟨xs, m, _, _, hlen, hxl, hg⟩ := DataW.trod_struct hu h
 rw [hC] at hlen
 have hfl : fl.length = ks.length := by have := congrArg List.length hf; simpa using this
 have hfo : P.fieldsOf e = fl.toArray := by unfold Program.fieldsOf; rw [hu]
 rw [hfo] at h1
 have each : ∀ j, j < ks.length → ∃ a : Int, ∀ k, ks[j]? = some k → cs[j]? = some (.int k a) ∧ (Lit.int k a).wf = true := by
  intro j hj
  have hfj : fl[j]? = some (fl[j]'(by omega)) := List.getElem?_eq_getElem (by omega)
  have hff := congrArg (fun l => l[j]?) hf
  simp only [List.getElem?_map, hfj, Option.map_some, List.getElem?_zipIdx, List.getElem?_eq_getElem hj, Nat.zero_add, Option.some.injEq, Prod.mk.injEq] at hff
  obtain ⟨_, ho, ht⟩ := hff
  have hc1 : P.cellsOf (fl[j]'(by omega)).type = 1 := by
   have := List.all_eq_true.1 h1 _ (List.getElem_mem (show j < fl.length by omega))
   simpa using this
  have h2 := hg j (fl[j]'(by omega)) (by rw [List.getElem?_toArray]; exact hfj)
  rw [ho, hc1] at h2
  have hxj : xs[j]? = some (xs[j]'(by rw [hxl]; simpa using by omega)) := List.getElem?_eq_getElem _
  rw [hxj] at h2
  obtain ⟨a, h3, _, h4⟩ := DataW.trod_int ht h2
  refine ⟨a, fun k hk => ?_⟩
  rw [List.getElem?_eq_getElem hj] at hk
  cases hk
  refine ⟨?_, h4⟩
  have hcj : j < cs.length := by omega
  rw [List.getElem?_eq_getElem hcj]
  have h5 : List.take 1 (List.drop j cs) = [cs[j]] := by rw [List.drop_eq_getElem_cons hcj]; rfl
  rw [h5] at h3
  simpa using h3
 obtain ⟨f, hf'⟩ := Go.Deep.choose_lt each
 refine ⟨(List.range ks.length).map f, by simp, ?_, ?_⟩
 ·apply List.ext_getElem?
  intro j
  rw [ints_get]
  by_cases hj : j < ks.length
  ·rw [(hf' j hj _ (List.getElem?_eq_getElem hj)).1]
   simp [hj]
  ·rw [List.getElem?_eq_none (by omega), List.getElem?_eq_none (show ks.length ≤ j by omega)]
   rfl
 ·intro j k a hk ha
  have hj : j < ks.length := (List.getElem?_eq_some_iff.1 hk).1
  simp [hj] at ha
  subst ha
  exact (hf' j hj k hk).2
theorem arg_structs {α : Type} [Inhabited α] {t e : TypeId} {ks : List IntKind} [he : EqI P e ks] {v : Value} {d : DataW H} {p : List MemPlace} (cf : α → List Value) (good : α → Prop) (hcf : ∀ x, (cf x).length = ks.length)
  (hmk : ∀ aL : List Int, aL.length = ks.length → (∀ (j : Nat) k a, ks[j]? = some k → aL[j]? = some a → (Lit.int k a).wf = true) → ∃ x, cf x = ints ks aL ∧ good x)
  (ht : P.underlying t = some (.slice e)) (hC : P.cellsOf e = ks.length) (hks : 0 < ks.length) (h1 : ((P.fieldsOf e).toList.all fun f => P.cellsOf f.type == 1) = true)
  (hval : Value.okWide P W r b0 t v) (h : DataW.Trod enc P W 0 (fun _ => true) true t v d p) (hlt : ∀ x ∈ p, x.block < W.heap.size) :
  ∃ (a : Option Addr) (n c : Nat) (xs : List α), v = .slice a n c ∧ n ≤ maxLen ∧ (∀ x ∈ xs, good x) ∧ Rd W ks.length a n (xs.flatMap cf) ∧ ∀ b o, a = some ⟨b, o, none⟩ → 0 < n → b < W.heap.size := by
 obtain ⟨a0, len, cap, rfl⟩ := okWide_slice ht hval
 obtain ⟨fuel, hf⟩ := h
 rcases Go.Deep.open_slice ht hf with ⟨hcs, hx⟩ | ⟨a, len', cap', m, n, D, Pl, hcs, _, hl, hm, hmm, hx, hel⟩
 ·simp [Value.cells] at hcs
  obtain ⟨rfl, rfl, rfl⟩ := hcs
  exact ⟨none, 0, 0, [], rfl, Nat.zero_le _, (fun _ h => by cases h), ⟨by simp, .inl rfl⟩, fun _ _ h => by cases h⟩
 ·simp [Value.cells] at hcs
  obtain ⟨rfl, rfl, rfl⟩ := hcs
  simp only [Prod.mk.injEq] at hx
  obtain ⟨rfl, rfl⟩ := hx
  simp only [if_true] at hmm
  subst hmm
  have each : ∀ i, i < len → ∃ x : α, good x ∧ ∀ j v, (cf x)[j]? = some v → W.cell? ((a.add (i * ks.length)).add j) = some v := by
   intro i hi
   obtain ⟨cs', hc, htr⟩ := hel i (by omega)
   rw [hC] at hc
   obtain ⟨aL, h2, h3, h4⟩ := trod_ints hC h1 htr
   obtain ⟨x, h5, h6⟩ := hmk aL h2 h4
   refine ⟨x, h6, fun j v hj => ?_⟩
   obtain ⟨_, hcl, hat⟩ := World.cells?_some hc
   have hj' : j < ks.length := by have := (List.getElem?_eq_some_iff.1 hj).1; rwa [hcf] at this
   rw [hat j hj', h3, ← h5]
   exact hj
  obtain ⟨f, hf'⟩ := Go.Deep.choose_lt each
  refine ⟨some a, len, _, (List.range len).map f, rfl, Nat.le_trans hl hm, ?_, ⟨by rw [flat_len hcf]; simp, ?_⟩, ?_⟩
  ·intro x hx
   simp only [List.mem_map, List.mem_range] at hx
   obtain ⟨i, hi, rfl⟩ := hx
   exact (hf' i hi).1
  ·rcases Nat.eq_zero_or_pos len with h0 | h0
   ·exact .inl h0
   ·obtain ⟨b, off, spot⟩ := a
    have hc0 := (hf' 0 h0).2 0 _ (List.getElem?_eq_getElem (show 0 < (cf (f 0)).length by rw [hcf]; exact hks))
    have hspot : spot = none := by simpa [Addr.add] using World.cell?_spot hc0
    subst hspot
    refine .inr ⟨b, off, rfl, fun j v hj => ?_⟩
    have hjl : j < len * ks.length := by
     have := (List.getElem?_eq_some_iff.1 hj).1
     rw [flat_len hcf] at this
     simpa using this
    have hi : j / ks.length < len := (Nat.div_lt_iff_lt_mul hks).2 hjl
    have hjj : j = j / ks.length * ks.length + j % ks.length := by rw [Nat.mul_comm]; exact (Nat.div_add_mod _ _).symm
    have hmod : j % ks.length < (cf (f (j / ks.length))).length := by rw [hcf]; exact Nat.mod_lt _ hks
    have hv := flat_get hcf ((List.range len).map f) (j / ks.length) (f (j / ks.length)) (by simp [hi]) (j % ks.length) _ (List.getElem?_eq_getElem hmod)
    rw [← hjj, hj] at hv
    cases hv
    have := (hf' _ hi).2 _ _ (List.getElem?_eq_getElem hmod)
    rw [Go.Deep.add_add, ← hjj, Addr.add_mid] at this
    exact this
  ·intro b o hb hn
   cases hb
   exact hlt (.cell b o) (List.mem_append_left _ (MemPlace.mem_row.2 ⟨0, by rw [hC]; exact Nat.mul_pos (by omega) hks, by simp⟩))
theorem arg_smps {t e : TypeId} [he : EqI P e [.i64, .u64]] {v : Value} {d : DataW H} {p : List MemPlace} (ht : P.underlying t = some (.slice e)) (hC : P.cellsOf e = 2) (h1 : ((P.fieldsOf e).toList.all fun f => P.cellsOf f.type == 1) = true)
  (hval : Value.okWide P W r b0 t v) (h : DataW.Trod enc P W 0 (fun _ => true) true t v d p) (hlt : ∀ x ∈ p, x.block < W.heap.size) :
  ∃ (a : Option Addr) (n c : Nat) (xs : List Smp), v = .slice a n c ∧ n ≤ maxLen ∧ (∀ x ∈ xs, (Lit.int .i64 x.T).wf = true ∧ (Lit.int .u64 x.V).wf = true) ∧ Rd W 2 a n (smpsV xs) ∧ ∀ b o, a = some ⟨b, o, none⟩ → 0 < n → b < W.heap.size := by
 haveI : Inhabited Smp := ⟨⟨0, 0⟩⟩
 exact arg_structs (ks := [.i64, .u64]) Smp.cells (fun x => (Lit.int .i64 x.T).wf = true ∧ (Lit.int .u64 x.V).wf = true) smp_len (fun aL h2 h3 => by
  match aL, h2 with
  | [T, V], _ => exact ⟨⟨T, V⟩, rfl, h3 0 _ _ rfl rfl, h3 1 _ _ rfl rfl⟩) ht hC (by decide) h1 hval h hlt
end
end Go.Hw

namespace Go.Hw
open Go.ChangeShapes Go.WideShapes Go.ChangeAt Go.RowKit
section
variable {P : Program} {W : World} {H : Type} {enc : TypeId × Value → H} {r : Reach} {b0 : Nat}
theorem arg_cap {t e : TypeId} {k : IntKind} {a : Option Addr} {n c : Nat} {d : DataW H} {p : List MemPlace} (ht : P.underlying t = some (.slice e)) (he : P.underlying e = some (.int k)) (hc : P.cellsOf e = 1)
  (h : DataW.Trod enc P W 0 (fun _ => true) true t (.slice a n c) d p) : n ≤ c := by
 obtain ⟨fuel, hf⟩ := h
 rcases open_ints ht he hc hf with ⟨hcs, _⟩ | ⟨a', len', cap', zs, hcs, _, hl, _⟩
 ·simp [Value.cells] at hcs
  omega
 ·simp [Value.cells] at hcs
  obtain ⟨_, rfl, rfl⟩ := hcs
  exact hl
theorem arg_bytesC {t e : TypeId} {v : Value} {d : DataW H} {p : List MemPlace} (ht : P.underlying t = some (.slice e)) (he : P.underlying e = some (.int .u8)) (hc : P.cellsOf e = 1)
  (hval : Value.okWide P W r b0 t v) (h : DataW.Trod enc P W 0 (fun _ => true) true t v d p) (hlt : ∀ x ∈ p, x.block < W.heap.size) :
  ∃ (a : Option Addr) (c : Nat) (bs : List UInt8), v = .slice a bs.length c ∧ bs.length ≤ 9223372036854775807 ∧ bs.length ≤ c ∧ Reads W [] 1 a bs.length (bytesV bs) := by
 obtain ⟨a, n, c, bs, rfl, h2, h3, h4⟩ := arg_bytes ht he hc hval h hlt
 have hcap := arg_cap ht he hc h
 have hl : bs.length = n := by have := h3.1; rw [bytesV_len] at this; omega
 subst hl
 exact ⟨a, c, bs, rfl, maxLen_le h2, hcap, Reads.old h3 h4⟩
theorem arg_smpsR {t e : TypeId} [he : EqI P e [.i64, .u64]] {v : Value} {d : DataW H} {p : List MemPlace} (ht : P.underlying t = some (.slice e)) (hC : P.cellsOf e = 2) (h1 : ((P.fieldsOf e).toList.all fun f => P.cellsOf f.type == 1) = true)
  (hval : Value.okWide P W r b0 t v) (h : DataW.Trod enc P W 0 (fun _ => true) true t v d p) (hlt : ∀ x ∈ p, x.block < W.heap.size) :
  ∃ (a : Option Addr) (c : Nat) (L : List Smp), v = .slice a L.length c ∧ L.length ≤ 9223372036854775807 ∧ (∀ s ∈ L, s.Wf) ∧ Reads W [] 2 a L.length (smpsV L) := by
 obtain ⟨a, n, c, L, rfl, h2, h3, h4, h5⟩ := arg_smps ht hC h1 hval h hlt
 have hl : L.length = n := h4.count smp_len (by decide)
 subst hl
 refine ⟨a, c, L, rfl, maxLen_le h2, fun s hs => ?_, Reads.old h4 h5⟩
 obtain ⟨w1, w2⟩ := h3 s hs
 simp [Lit.wf, IntKind.min, IntKind.max, IntKind.signed, IntKind.bits] at w1 w2
 unfold Smp.Wf I64
 omega
theorem byte_of {z : Int} (h : (Lit.int .u8 z).wf = true) : ∃ y : UInt8, z = (y.toNat : Int) := by
 have hz : 0 ≤ z ∧ z ≤ 255 := by simpa [Lit.wf, IntKind.min, IntKind.max, IntKind.signed, IntKind.bits] using h
 refine ⟨UInt8.ofNat z.toNat, ?_⟩
 rw [UInt8.toNat_ofNat']
 omega
end
end Go.Hw

namespace Go.Hw
section
variable {P : Program} {n : Nat} {ops : Array Oper} {Q : Post} {rest : List Oper} {e : Env} {w w0 : World} {l : List HProp}
theorem laidS_one {sz : Nat} {z : List Value} {v : Value} (hz : z.length = sz) (hv : (vcells v).length = sz) : laidS sz (zrow z 1) [(0, v)] = some (vcells v) := by
 subst hz
 have : Nat.ble z.length z.length = true := by rw [Nat.ble_eq]; exact Nat.le_refl _
 simp [laidS, zrow, hv, this]
theorem r_app1 {c1 c2 : Nat} {t T ty1 ty2 : TypeId} [ht : Und P t (.slice T)] {z : List Value} {agg : Bool} {bytes : Nat} [hi : Inf P T z agg bytes] {x y : Operand} {pos1 pos2 : String} {af1 af2 : Array Edge} {a : Option Addr} {m m3 c sz : Nat} {xs zs : List Value} {v : Value}
  (h : St w0 (Own T sz a m c xs :: l) w) (hx : ev e x = v) (hy : ev e y = .slice a m c) (hne : (match y with | .tmp k => Nat.beq k c1 | _ => true) = false) (hv : Nat.beq (vcells v).length sz = true) (h1 : (vcells v).all (·.oneCell') = true) (hm : m + 1 = m3) (hzs : xs ++ vcells v = zs) (hb : m3 * bytes ≤ 140737488355328) (h63 : m3 ≤ 9223372036854775807) (hz : Nat.beq z.length sz = true) (hs : Nat.ble 1 sz = true) (hs2 : Nat.ble sz 16777216 = true)
  (hd1 : Nat.blt c1 n = true) (hd2 : Nat.blt c2 n = true)
  (k : ∀ b a' c' w', (a' = none → False) → St w0 (Own T sz a' m3 c' zs :: l) w' → Rn P n ops Q rest (upd (upd e c1 (.slice (some ⟨b, 0, none⟩) 1 1)) c2 (.slice a' m3 c')) w') :
  Rn P n ops Q (⟨some c1, .buildSlice t 1 [(0, x)].toArray, ty1, pos1, af1, none⟩ :: ⟨some c2, .call ⟨.builtin .append, [y, .tmp c1].toArray, [t, t].toArray⟩, ty2, pos2, af2, none⟩ :: rest) e w := by
 have hz' : z.length = sz := Nat.eq_of_beq_eq_true hz
 have hv' : (vcells v).length = sz := Nat.eq_of_beq_eq_true hv
 have hs' := Nat.le_of_ble_eq_true hs
 have hs2' := Nat.le_of_ble_eq_true hs2
 subst hx
 refine r_c hd1 (x_bslice (r := vcells (ev e x)) h (by simpa [hz'] using laidS_one (sz := z.length) rfl (by rw [hv', hz'])) (by rw [Nat.ble_eq]; omega) (by rw [Nat.ble_eq]; omega) fun b w h => ?_)
 have hy2 : ev (upd e c1 (.slice (some ⟨b, 0, none⟩) 1 1)) y = .slice a m c := by
  cases y with
  | tmp k =>
   rw [← hy]
   refine upd_other ?_
   rintro rfl
   simp at hne
  | _ => cases hne
 refine r_c hd2 (x_append' (ys := vcells (ev e x)) (zs := zs) (m3 := m3) (h.f 1) hy2 (show ev _ (.tmp c1) = _ from upd_same _ _ _) ⟨by omega, .inr ⟨b, 0, rfl, at_of (h.b 0 rfl) (by simp)⟩⟩ (by simpa using h1) hm hzs hb h63 hz' fun a' c' w hn h => ?_)
 refine k b a' c' w (fun ha => ?_) (h.f 1).drop
 subst ha
 obtain ⟨_, _, ⟨_, _, h5, _⟩ | ⟨g, _, h5, _⟩⟩ := h.own_cases
 ·omega
 ·cases h5
end
end Go.Hw
namespace Go.Hw
section
variable {P : Program} {ops : Array Oper} {e : Env} {w : World} {d : Option Nat} {ty : TypeId} {pos : String} {af : Array Edge} {g : Option (Nat × Bool)}
theorem q_abuild {t T m : Nat} {z z2 : List Value} {agg : Bool} {bytes bytes2 : Nat} [ht : Und P t (.array m T)] [hi : Inf P t z true bytes] [he : Inf P T z2 agg bytes2] {parts : List (Nat × Operand)} {r : List Value}
  (hl : laidS z2.length z (parts.map fun (i, x) => (i, ev e x)) = some r) : Qv P e ⟨d, .build t parts.toArray, ty, pos, af, g⟩ w (.agg r.toArray) := by
 unfold Qv
 have h2 := hi.zeroValue w
 have h3 := he.sizeOf w
 have hf := fill_laidS _ _ _ _ hl
 simp only [if_true] at h2
 simp only [execOp, Instr.build, Sem.run_bind, h2, run_underlying ht.h, Result.andThen_ok, h3, Value.cells, List.map_toArray]
 simp only at hf
 rw [hf]
 rfl
end
end Go.Hw
namespace Go.Hw
def ordF : Nat → List Nat → List HProp → List HProp
 | 0, _, l => l
 | _ + 1, [], l => l
 | n + 1, k :: ks, l => match l[k]? with
  | none => l
  | some P => P :: ordF n (ks.map fun j => bif Nat.blt k j then j - 1 else j) (l.eraseIdx k)
theorem all_ordF : ∀ (n : Nat) (ks : List Nat) (l : List HProp), all (ordF n ks l) = all l
 | 0, _, _ => rfl
 | _ + 1, [], _ => rfl
 | n + 1, k :: ks, l => by
  rw [ordF]
  split
  ·rfl
  ·rename_i P hP
   rw [all_star, all_ordF n, ← all_star, ← bring_of k l hP, all_bring]
def dropN : Nat → List HProp → List HProp
 | 0, l => l
 | n + 1, _ :: l => dropN n l
 | _ + 1, [] => []
section
variable {w w0 : World} {l : List HProp}
theorem St.o (ks : List Nat) (h : St w0 l w) : St w0 (ordF ks.length ks l) w := h.of_all (all_ordF _ _ _).symm
theorem St.dropN : ∀ {n : Nat} {l : List HProp}, St w0 l w → St w0 (dropN n l) w
 | 0, _, h => h
 | _ + 1, [], h => h
 | n + 1, _ :: l, h => St.dropN (n := n) (l := l) h.drop
theorem St.x (ks : List Nat) (h : St w0 l w) : St w0 (Hw.dropN ks.length (ordF ks.length ks l)) w := (h.o ks).dropN
end
end Go.Hw
namespace Go.Hw
section
variable {P : Program} {e : Env} {w : World} {K : Env → World → Prop} {d : Option Nat} {ty : TypeId} {pos : String} {af : Array Edge} {g : Option (Nat × Bool)}
theorem q_moveF {x : Operand} {f : FuncId} (hx : ev e x = .func (.func f) #[] #[]) : Qv P e ⟨d, .move x, ty, pos, af, g⟩ w (.func (.func f) #[] #[]) := by
 unfold Qv; simp [execOp, hx]
theorem q_assignF {x : Operand} {f : FuncId} (hx : ev e x = .func (.func f) #[] #[]) : Qv P e ⟨d, .assign x, ty, pos, af, g⟩ w (.func (.func f) #[] #[]) := by
 unfold Qv; simp [execOp, hx]
theorem x_callv {c : Option Nat} {f : FuncId} {y : Operand} {xs : List Operand} {tys : Array TypeId} {vs : List Value} {φ : Value → World → Prop} [hf : FnB P f] (hy : ev e y = .func (.func f) #[] #[]) (hv : xs.map (ev e) = vs) (h : Ret P f vs w φ) (k : ∀ v w', φ v w' → K (updO e c v) w') :
  Ex P ⟨c, .call ⟨.value y, xs.toArray, tys⟩, ty, pos, af, g⟩ e w K := by
 obtain ⟨fn, h1, h2, h3⟩ := hf.h
 have hb : fn.body.isNone = false := h3
 have hrun : (execOp (ev e) ⟨c, .call ⟨.value y, xs.toArray, tys⟩, ty, pos, af, g⟩).run P w = .ok (.enter f vs.toArray) w := by
  have hp : ∀ w, (program).run P w = .ok P w := fun _ => rfl
  simp only [execOp, resolve, hy, Deferred.ofValue, invoke, callFunc, Sem.run_bind, Sem.run_pure, Result.andThen_ok, hp, h1, h2, hb, List.map_toArray, hv]
  simp
 unfold Ret at h
 unfold Ex
 rw [hrun]
 exact Calls.mono h fun _ _ ⟨v, a, b⟩ => ⟨v, a, k _ _ b⟩
end
end Go.Hw

namespace Go.Hw
theorem valuesEnc_none {tag : Int} (v : List Nat) (h : tag < 1 ∨ 6 < tag) : valuesEnc tag v = none := by
 unfold valuesEnc
 rw [if_neg (by omega), if_neg (by omega), if_neg (by omega), if_neg (by omega), if_neg (by omega), if_neg (by omega)]
theorem suitEnc_none {tag : Int} (l : List Smp) (h : tag < 1 ∨ 6 < tag) : suitEnc tag l = none := by
 unfold suitEnc
 rw [valuesEnc_none _ h]
 split <;> rfl
theorem suitDec_none {tag : Int} (b : List UInt8) (n : Int) (h : tag < 1 ∨ 6 < tag) : suitDec tag b n = none := by
 have : ∀ v k, valuesDec tag v k = none := fun v k => by
  unfold valuesDec
  rw [if_neg (by omega), if_neg (by omega), if_neg (by omega), if_neg (by omega), if_neg (by omega), if_neg (by omega)]
 unfold suitDec
 rw [this]
 split
 ·rfl
 ·split
  ·rename_i h2; cases h2
  ·rfl
theorem unlikeA_can : ∀ (v l : List Nat), l.length + v.length ≤ 256 → (unlikeA l v).isSome = true
 | [], _, _ => rfl
 | x :: v, l, h => by
  rw [List.length_cons] at h
  rw [unlikeA]
  split
  ·exact unlikeA_can v l (by omega)
  ·rw [if_neg (by omega)]
   exact unlikeA_can v _ (by rw [List.length_append, List.length_singleton]; omega)
theorem suitEnc_can {tag : Int} {l : List Smp} (hr : rising l = true) (hl : l.length ≤ 256) (h : tag = 1 ∨ tag = 3 ∨ tag = 4 ∨ tag = 5) : ∃ b, suitEnc tag l = some b := by
 have : (suitEnc tag l).isSome = true := by
  unfold suitEnc
  rw [if_pos hr, Option.isSome_map]
  rcases h with rfl | rfl | rfl | rfl
  ·rfl
  ·rfl
  ·rfl
  ·show (dictEnc _).isSome = true
   unfold dictEnc
   have hc := unlikeA_can (valsOf l) [] (by simp [valsOf]; omega)
   cases hu : unlikeA [] (valsOf l) with
   | none => rw [hu] at hc; cases hc
   | some m => dsimp only; split <;> rfl
 cases hb : suitEnc tag l with
 | none => rw [hb] at this; cases this
 | some b => exact ⟨b, rfl⟩
theorem bestA_spec (l : List Smp) : ∀ (ks : List Int) (t : Int) (b : List UInt8), 0 ≤ t → (∀ k ∈ ks, t < k) → ks.Pairwise (· < ·) →
  t ≤ (bestA l ks t b).1 ∧ (bestA l ks t b = (t, b) ∨ ((bestA l ks t b).1 ∈ ks ∧ suitEnc (bestA l ks t b).1 l = some (bestA l ks t b).2)) ∧
  (t ≠ 0 → (bestA l ks t b).1 ≠ 0 ∧ (bestA l ks t b).2.length ≤ b.length ∧ (t < (bestA l ks t b).1 → (bestA l ks t b).2.length < b.length)) ∧
  ∀ k ∈ ks, ∀ c, suitEnc k l = some c → (bestA l ks t b).1 ≠ 0 ∧ (bestA l ks t b).2.length ≤ c.length ∧ (k < (bestA l ks t b).1 → (bestA l ks t b).2.length < c.length)
 | [], t, b, _, _, _ => ⟨Int.le_refl _, .inl rfl, fun h => ⟨h, Nat.le_refl _, fun h => absurd h (Int.lt_irrefl _)⟩, fun _ h => by cases h⟩
 | k :: ks, t, b, ht, hk, hp => by
  obtain ⟨hp1, hp2⟩ := List.pairwise_cons.1 hp
  have hkt := hk k (List.mem_cons_self ..)
  rw [bestA]
  cases hE : suitEnc k l with
  | none =>
   dsimp only
   obtain ⟨g1, g2, g3, g4⟩ := bestA_spec l ks t b ht (fun x hx => hk x (List.mem_cons_of_mem _ hx)) hp2
   refine ⟨g1, ?_, g3, fun x hx c hc => ?_⟩
   ·rcases g2 with g2 | ⟨g2, g2'⟩
    ·exact .inl g2
    ·exact .inr ⟨List.mem_cons_of_mem _ g2, g2'⟩
   ·rcases List.mem_cons.1 hx with rfl | hx
    ·rw [hE] at hc; cases hc
    ·exact g4 x hx c hc
  | some c =>
   dsimp only
   split
   ·rename_i hcond
    obtain ⟨g1, g2, g3, g4⟩ := bestA_spec l ks k c (by omega) hp1 hp2
    obtain ⟨g3a, g3b, g3c⟩ := g3 (by omega)
    refine ⟨by omega, ?_, fun h0 => ⟨g3a, by omega, fun _ => by omega⟩, fun x hx d hd => ?_⟩
    ·rcases g2 with g2 | ⟨g2, g2'⟩
     ·right
      rw [g2]
      exact ⟨List.mem_cons_self .., hE⟩
     ·exact .inr ⟨List.mem_cons_of_mem _ g2, g2'⟩
    ·rcases List.mem_cons.1 hx with rfl | hx
     ·rw [hE] at hd; cases hd; exact ⟨g3a, g3b, g3c⟩
     ·exact g4 x hx d hd
   ·rename_i hcond
    obtain ⟨g1, g2, g3, g4⟩ := bestA_spec l ks t b ht (fun x hx => hk x (List.mem_cons_of_mem _ hx)) hp2
    obtain ⟨g3a, g3b, g3c⟩ := g3 (by omega)
    refine ⟨g1, ?_, g3, fun x hx d hd => ?_⟩
    ·rcases g2 with g2 | ⟨g2, g2'⟩
     ·exact .inl g2
     ·exact .inr ⟨List.mem_cons_of_mem _ g2, g2'⟩
    ·rcases List.mem_cons.1 hx with rfl | hx
     ·rw [hE] at hd; cases hd
      exact ⟨g3a, by omega, fun h => by have := g3c (by omega); omega⟩
     ·exact g4 x hx d hd
theorem suitBest_spec {l : List Smp} (hr : rising l = true) (hl : l.length ≤ 256) : 1 ≤ (suitBest l).1 ∧ (suitBest l).1 ≤ 6 ∧ suitEnc (suitBest l).1 l = some (suitBest l).2 ∧
  ∀ k c, suitEnc k l = some c → (suitBest l).2.length ≤ c.length ∧ (k < (suitBest l).1 → (suitBest l).2.length < c.length) := by
 obtain ⟨g1, g2, _, g4⟩ := bestA_spec l [1, 2, 3, 4, 5, 6] 0 [] (by decide) (by decide) (by decide)
 obtain ⟨b, hb⟩ := suitEnc_can (tag := 1) hr hl (.inl rfl)
 have h1 := (g4 1 (by decide) b hb).1
 have h2 : (suitBest l).1 ∈ ([1, 2, 3, 4, 5, 6] : List Int) ∧ suitEnc (suitBest l).1 l = some (suitBest l).2 := by
  rcases g2 with g2 | g2
  ·exact absurd (congrArg Prod.fst g2) h1
  ·exact g2
 obtain ⟨h2, h3⟩ := h2
 have hmem : ∀ k ∈ ([1, 2, 3, 4, 5, 6] : List Int), 1 ≤ k ∧ k ≤ 6 := by decide
 refine ⟨(hmem _ h2).1, (hmem _ h2).2, h3, fun k c hc => ?_⟩
 by_cases hk : k < 1 ∨ 6 < k
 ·rw [suitEnc_none l hk] at hc; cases hc
 ·have : k ∈ ([1, 2, 3, 4, 5, 6] : List Int) := by
   rcases (by omega : k = 1 ∨ k = 2 ∨ k = 3 ∨ k = 4 ∨ k = 5 ∨ k = 6) with rfl | rfl | rfl | rfl | rfl | rfl <;> decide
  exact (g4 k this c hc).2
end Go.Hw
namespace Go.Proofs.YtjjacchnalemaaaGreatDoor
open Go.Hw
theorem suitEnc_len {tag : Int} {L : List Smp} (hw : ∀ s ∈ L, s.Wf) : ((suitEnc tag L).getD []).length ≤ 3000000 := by
 unfold suitEnc
 split
 ·rename_i hrise
  have hn : L.length ≤ 65535 := by
   unfold rising at hrise
   simp only [Bool.and_eq_true, decide_eq_true_eq] at hrise
   exact hrise.2
  have h1 := valuesEnc_len (tag := tag) (u := valsOf L) (by simpa [valsOf] using hn) (valsOf_lt hw)
  cases hv : valuesEnc tag (valsOf L) with
  | none => exact Nat.zero_le _
  | some b =>
   rw [hv] at h1
   show (suitBytes L b).length ≤ _
   have h2 := timesBits_len (timesOf L)
   have h3 := pack_len (timesBits (timesOf L))
   have h4 := vput_len (pack (timesBits (timesOf L))).length
   have h5 : (timesOf L).length = L.length := by simp [timesOf]
   have h6 : b.length ≤ 2000000 := h1
   unfold suitBytes
   rw [List.length_append, List.length_append]
   omega
 ·exact Nat.zero_le _
end Go.Proofs.YtjjacchnalemaaaGreatDoor

namespace Go.Hw
set_option maxRecDepth 100000
def crcBit (c : Nat) : Nat := if c % 2 = 1 then (c / 2) ^^^ 2197175160 else c / 2
def crcN : Nat → Nat → Nat
 | 0, c => c
 | k + 1, c => crcBit (crcN k c)
def crcByte (i : Nat) : Nat := crcN 8 i
def crcStep (s x : Nat) : Nat := crcByte ((s % 256) ^^^ x) ^^^ (s / 256)
def crcA (s : Nat) : List UInt8 → Nat
 | [] => s
 | c :: r => crcA (crcStep s c.toNat) r
def crc (b : List UInt8) : Nat := crcA 4294967295 b ^^^ 4294967295
theorem xor32 {a b : Nat} (ha : a < 4294967296) (hb : b < 4294967296) : a ^^^ b < 4294967296 := Nat.xor_lt_two_pow (n := 32) ha hb
theorem crcBit_lt {c : Nat} (h : c < 4294967296) : crcBit c < 4294967296 := by
 unfold crcBit
 split
 ·exact xor32 (by omega) (by decide)
 ·omega
theorem crcN_lt {c : Nat} (h : c < 4294967296) : ∀ k, crcN k c < 4294967296
 | 0 => h
 | k + 1 => crcBit_lt (crcN_lt h k)
theorem crcByte_lt {i : Nat} (h : i < 256) : crcByte i < 4294967296 := crcN_lt (by omega) 8
theorem xor8 {a b : Nat} (ha : a < 256) (hb : b < 256) : a ^^^ b < 256 := Nat.xor_lt_two_pow (n := 8) ha hb
theorem crcStep_lt {s x : Nat} (hs : s < 4294967296) (hx : x < 256) : crcStep s x < 4294967296 :=
 xor32 (crcByte_lt (xor8 (Nat.mod_lt _ (by decide)) hx)) (by omega)
theorem crcA_lt : ∀ (b : List UInt8) (s : Nat), s < 4294967296 → crcA s b < 4294967296
 | [], _, h => h
 | c :: r, s, h => crcA_lt r _ (crcStep_lt h c.toNat_lt)
theorem crc_lt (b : List UInt8) : crc b < 4294967296 := xor32 (crcA_lt b _ (by decide)) (by decide)
def crcInv : List Nat := [0, 241, 226, 19, 196, 53, 38, 215, 136, 121, 106, 155, 76, 189, 174, 95, 16, 225, 242, 3, 212, 37, 54, 199, 152, 105, 122, 139, 92, 173, 190, 79, 32, 209, 194, 51, 228, 21, 6, 247, 168, 89, 74, 187, 108, 157, 142, 127, 48, 193, 210, 35, 244, 5, 22, 231, 184, 73, 90, 171, 124, 141, 158, 111, 177, 64, 83, 162, 117, 132, 151, 102, 57, 200, 219, 42, 253, 12, 31, 238, 161, 80, 67, 178, 101, 148, 135, 118, 41, 216, 203, 58, 237, 28, 15, 254, 145, 96, 115, 130, 85, 164, 183, 70, 25, 232, 251, 10, 221, 44, 63, 206, 129, 112, 99, 146, 69, 180, 167, 86, 9, 248, 235, 26, 205, 60, 47, 222, 98, 147, 128, 113, 166, 87, 68, 181, 234, 27, 8, 249, 46, 223, 204, 61, 114, 131, 144, 97, 182, 71, 84, 165, 250, 11, 24, 233, 62, 207, 220, 45, 66, 179, 160, 81, 134, 119, 100, 149, 202, 59, 40, 217, 14, 255, 236, 29, 82, 163, 176, 65, 150, 103, 116, 133, 218, 43, 56, 201, 30, 239, 252, 13, 211, 34, 49, 192, 23, 230, 245, 4, 91, 170, 185, 72, 159, 110, 125, 140, 195, 50, 33, 208, 7, 246, 229, 20, 75, 186, 169, 88, 143, 126, 109, 156, 243, 2, 17, 224, 55, 198, 213, 36, 123, 138, 153, 104, 191, 78, 93, 172, 227, 18, 1, 240, 39, 214, 197, 52, 107, 154, 137, 120, 175, 94, 77, 188]
theorem crcInv_top : ∀ i, i < 256 → crcInv[crcByte i / 16777216]? = some i := by decide +kernel
theorem top_inj {i j : Nat} (hi : i < 256) (hj : j < 256) (h : crcByte i / 16777216 = crcByte j / 16777216) : i = j := by
 have h1 := crcInv_top i hi
 rw [h, crcInv_top j hj] at h1
 exact (Option.some.inj h1).symm
theorem xor_div (a b : Nat) : (a ^^^ b) / 16777216 = (a / 16777216) ^^^ (b / 16777216) := by
 have := Nat.shiftRight_xor_distrib (a := a) (b := b) (i := 24)
 simpa [Nat.shiftRight_eq_div_pow] using this
theorem xor_cancel {a b c : Nat} (h : a ^^^ b = a ^^^ c) : b = c := by
 have := congrArg (fun z => a ^^^ z) h
 simpa [← Nat.xor_assoc] using this
theorem crcStep_inj {s s' x x' : Nat} (hs : s < 4294967296) (hs' : s' < 4294967296) (hx : x < 256) (hx' : x' < 256) (h : crcStep s x = crcStep s' x') : (s % 256) ^^^ x = (s' % 256) ^^^ x' ∧ s / 256 = s' / 256 := by
 have hi := xor8 (Nat.mod_lt s (show 256 > 0 by decide)) hx
 have hi' := xor8 (Nat.mod_lt s' (show 256 > 0 by decide)) hx'
 unfold crcStep at h
 have h1 := congrArg (fun z => z / 16777216) h
 simp only [xor_div] at h1
 rw [show s / 256 / 16777216 = 0 by omega, show s' / 256 / 16777216 = 0 by omega, Nat.xor_zero, Nat.xor_zero] at h1
 have h2 := top_inj hi hi' h1
 rw [h2] at h
 exact ⟨h2, xor_cancel h⟩
theorem crcA_inj : ∀ (b : List UInt8) (s s' : Nat), s < 4294967296 → s' < 4294967296 → crcA s b = crcA s' b → s = s'
 | [], _, _, _, _, h => h
 | c :: r, s, s', hs, hs', h => by
  have h1 := crcA_inj r _ _ (crcStep_lt hs c.toNat_lt) (crcStep_lt hs' c.toNat_lt) h
  obtain ⟨h2, h3⟩ := crcStep_inj hs hs' c.toNat_lt c.toNat_lt h1
  rw [Nat.xor_comm, Nat.xor_comm (s' % 256)] at h2
  have := xor_cancel h2
  omega
theorem crcA_append : ∀ (p r : List UInt8) (s : Nat), crcA s (p ++ r) = crcA (crcA s p) r
 | [], _, _ => rfl
 | c :: p, r, s => crcA_append p r _
theorem crc_turn (p r : List UInt8) {x y : UInt8} (h : crc (p ++ x :: r) = crc (p ++ y :: r)) : x = y := by
 unfold crc at h
 rw [Nat.xor_comm, Nat.xor_comm (crcA _ (p ++ y :: r))] at h
 have h1 := xor_cancel h
 rw [crcA_append, crcA_append] at h1
 have hp := crcA_lt p 4294967295 (by decide)
 have h2 := crcA_inj r _ _ (crcStep_lt hp x.toNat_lt) (crcStep_lt hp y.toNat_lt) h1
 obtain ⟨h3, _⟩ := crcStep_inj hp hp x.toNat_lt y.toNat_lt h2
 exact UInt8.toNat_inj.1 (xor_cancel h3)
def be4 (c : Nat) : List UInt8 := [UInt8.ofNat (c / 2 ^ 24), UInt8.ofNat (c / 2 ^ 16), UInt8.ofNat (c / 2 ^ 8), UInt8.ofNat c]
theorem be4_inj {a b : Nat} (ha : a < 4294967296) (hb : b < 4294967296) (h : be4 a = be4 b) : a = b := by
 simp only [be4, List.cons.injEq, and_true] at h
 obtain ⟨h1, h2, h3, h4⟩ := h
 have e1 := congrArg UInt8.toNat h1
 have e2 := congrArg UInt8.toNat h2
 have e3 := congrArg UInt8.toNat h3
 have e4 := congrArg UInt8.toNat h4
 simp only [UInt8.toNat_ofNat'] at e1 e2 e3 e4
 simp only [Nat.reducePow] at e1 e2 e3 e4
 omega
def zigT (t : Int) : Nat := zigU (us t)
theorem zigT_lt (t : Int) : zigT t < 18446744073709551616 := zigU_lt (us_lt t)
theorem zag_zigT {t : Int} (h : I64 t) : sg (zagU (zigT t)) = t := by unfold zigT; rw [zag_zig (us_lt t), sg_us h]
def firstT (L : List Smp) : Int := (L.head?.map Smp.T).getD 0
def lastT (L : List Smp) : Int := (L.getLast?.map Smp.T).getD 0
def chNums (L : List Smp) : List Nat := [L.length, zigT (firstT L), zigT (lastT L)]
def chBody (tag : Int) (L : List Smp) (x : List UInt8) : List UInt8 := UInt8.ofNat tag.toNat :: ((chNums L).flatMap vput ++ x)
def chMake (tag : Int) (L : List Smp) : Option (List UInt8) := match suitEnc tag L with
 | none => none
 | some x => if L = [] then none else some (chBody tag L x ++ be4 (crc (chBody tag L x)))
structure Hd where
 tag : Nat
 count : Nat
 f : Int
 t : Int
def hdOf (c : UInt8) (l : List Nat) : Hd := ⟨c.toNat, l.getD 0 0, sg (zagU (l.getD 1 0)), sg (zagU (l.getD 2 0))⟩
def headDec : List UInt8 → Option (Hd × List UInt8)
 | [] => none
 | c :: r => if c.toNat < 1 ∨ 6 < c.toNat then none else match getVs 3 r with
  | none => none
  | some (l, rest) => if l.getD 0 0 < 1 ∨ 65535 < l.getD 0 0 ∨ sg (zagU (l.getD 2 0)) < sg (zagU (l.getD 1 0)) then none else some (hdOf c l, rest)
def chOpen (b : List UInt8) : Option (List Smp × Nat) := match headDec b with
 | none => none
 | some (h, rest) => if rest.length < 4 then none else match suitDec h.tag (rest.take (rest.length - 4)) h.count with
  | none => none
  | some L => if chMake h.tag L = some b then some (L, h.tag) else none
theorem chOpen_sound {b : List UInt8} {L : List Smp} {t : Nat} (h : chOpen b = some (L, t)) : chMake (t : Int) L = some b := by
 unfold chOpen at h
 split at h
 ·cases h
 ·split at h
  ·cases h
  ·split at h
   ·cases h
   ·split at h
    ·cases h; assumption
    ·cases h
theorem chMake_some {tag : Int} {L : List Smp} {b : List UInt8} (h : chMake tag L = some b) : ∃ x, suitEnc tag L = some x ∧ L ≠ [] ∧ b = chBody tag L x ++ be4 (crc (chBody tag L x)) := by
 unfold chMake at h
 split at h
 ·cases h
 ·rename_i x hx
  split at h
  ·cases h
  ·rename_i hL
   exact ⟨x, hx, hL, (Option.some.inj h).symm⟩
theorem suitEnc_tag {tag : Int} {L : List Smp} {x : List UInt8} (h : suitEnc tag L = some x) : 1 ≤ tag ∧ tag ≤ 6 := by
 by_cases hk : tag < 1 ∨ 6 < tag
 ·rw [suitEnc_none L hk] at h; cases h
 ·omega
theorem suitEnc_rises {tag : Int} {L : List Smp} {x : List UInt8} (h : suitEnc tag L = some x) : rises L = true ∧ L.length ≤ 65535 := by
 unfold suitEnc at h
 split at h
 ·rename_i hr
  unfold rising at hr
  simpa only [Bool.and_eq_true, decide_eq_true_eq] using hr
 ·cases h
theorem rises_ends {L : List Smp} (h : rises L = true) (hL : L ≠ []) : firstT L ≤ lastT L := by
 cases L with
 | nil => exact absurd rfl hL
 | cons s r =>
  have h0 := (rises_iff (s :: r)).1 h
  unfold firstT lastT
  rw [List.getLast?_eq_getElem?]
  have hg := List.getElem?_eq_getElem (show (s :: r).length - 1 < (s :: r).length by simp)
  generalize (s :: r)[(s :: r).length - 1]'(by simp) = z at hg
  rw [hg]
  show s.T ≤ z.T
  by_cases hr : r = []
  ·subst hr; simp at hg; subst hg; exact Int.le_refl _
  ·have hp : 0 < r.length := List.length_pos_iff.2 hr
   exact Int.le_of_lt (h0 0 _ s z rfl hg (by simp; omega))
theorem ends_wf {L : List Smp} (hw : ∀ s ∈ L, s.Wf) (hL : L ≠ []) : I64 (firstT L) ∧ I64 (lastT L) := by
 cases L with
 | nil => exact absurd rfl hL
 | cons s r =>
  refine ⟨(hw s (List.mem_cons_self ..)).1, ?_⟩
  unfold lastT
  rw [List.getLast?_eq_getElem?]
  have hg := List.getElem?_eq_getElem (show (s :: r).length - 1 < (s :: r).length by simp)
  have hm := List.getElem_mem (show (s :: r).length - 1 < (s :: r).length by simp)
  generalize (s :: r)[(s :: r).length - 1]'(by simp) = z at hg hm
  rw [hg]
  exact (hw z hm).1
theorem headDec_told {tag : Int} {L : List Smp} {x : List UInt8} (hw : ∀ s ∈ L, s.Wf) (hL : L ≠ []) (h : suitEnc tag L = some x) (r : List UInt8) : headDec (UInt8.ofNat tag.toNat :: ((chNums L).flatMap vput ++ r)) = some (⟨tag.toNat, L.length, firstT L, lastT L⟩, r) := by
 obtain ⟨h1, h6⟩ := suitEnc_tag h
 obtain ⟨hr, hlen⟩ := suitEnc_rises h
 obtain ⟨w1, w2⟩ := ends_wf hw hL
 have hpos : 0 < L.length := List.length_pos_iff.2 hL
 have htn : (UInt8.ofNat tag.toNat).toNat = tag.toNat := by rw [UInt8.toNat_ofNat']; omega
 have hg := getVs_told r (chNums L) (fun z hz => by
  simp only [chNums, List.mem_cons, List.not_mem_nil, or_false] at hz
  rcases hz with rfl | rfl | rfl
  ·omega
  ·exact zigT_lt _
  ·exact zigT_lt _)
 unfold headDec; dsimp only
 rw [htn, if_neg (by omega), show getVs 3 _ = _ from hg]
 dsimp only
 have e0 : (chNums L).getD 0 0 = L.length := rfl
 have e1 : (chNums L).getD 1 0 = zigT (firstT L) := rfl
 have e2 : (chNums L).getD 2 0 = zigT (lastT L) := rfl
 have hle := rises_ends hr hL
 rw [if_neg (by rw [e0, e1, e2, zag_zigT w1, zag_zigT w2]; omega)]
 unfold hdOf
 rw [htn, e0, e1, e2, zag_zigT w1, zag_zigT w2]
theorem chBody_len (tag : Int) (L : List Smp) (x : List UInt8) : 4 + x.length ≤ (chBody tag L x).length ∧ (chBody tag L x).length ≤ 31 + x.length := by
 have h1 := vput_len L.length
 have h2 := vput_len (zigT (firstT L))
 have h3 := vput_len (zigT (lastT L))
 simp only [chBody, chNums, List.flatMap_cons, List.flatMap_nil, List.length_cons, List.length_append, List.length_nil]
 omega
theorem be4_len (c : Nat) : (be4 c).length = 4 := rfl
theorem chOpen_told {tag : Int} {L : List Smp} {b : List UInt8} (hw : ∀ s ∈ L, s.Wf) (hb : b.length < 18446744073709551616) (h : chMake tag L = some b) : chOpen b = some (L, tag.toNat) := by
 obtain ⟨x, hx, hL, he⟩ := chMake_some h
 obtain ⟨h1, h6⟩ := suitEnc_tag hx
 have hh := headDec_told hw hL hx (x ++ be4 (crc (chBody tag L x)))
 have hb' : b = UInt8.ofNat tag.toNat :: ((chNums L).flatMap vput ++ (x ++ be4 (crc (chBody tag L x)))) := by
  rw [he]
  unfold chBody
  simp
 rw [← hb'] at hh
 have hl := chBody_len tag L x
 have hbl : b.length = (chBody tag L x).length + 4 := by rw [he, List.length_append, be4_len]
 unfold chOpen
 rw [hh]
 dsimp only
 rw [if_neg (by rw [List.length_append, be4_len]; omega), List.length_append, be4_len, Nat.add_sub_cancel, List.take_left, show ((tag.toNat : Nat) : Int) = tag by omega, suitDec_told hw (by omega) hx]
 dsimp only
 rw [if_pos h]
theorem sealed_turn {A B : List UInt8} {i : Nat} {y z : UInt8} (hz : (A ++ be4 (crc A))[i]? = some z) (hy : y ≠ z) : (A ++ be4 (crc A)).set i y ≠ B ++ be4 (crc B) := by
 intro h
 have hl := congrArg List.length h
 rw [List.length_set, List.length_append, List.length_append, be4_len, be4_len] at hl
 have hAB : A.length = B.length := by omega
 by_cases hi : i < A.length
 ·rw [List.set_append_left _ _ hi] at h
  obtain ⟨h1, h2⟩ := List.append_inj h (by rw [List.length_set]; exact hAB)
  rw [List.getElem?_append_left hi] at hz
  have hc := be4_inj (crc_lt A) (crc_lt B) h2
  have hs : A = A.take i ++ z :: A.drop (i + 1) := by
   have := List.getElem?_eq_some_iff.1 hz
   obtain ⟨h3, h4⟩ := this
   rw [← h4]
   simp
  have hs' : B = A.take i ++ y :: A.drop (i + 1) := by
   rw [← h1, List.set_eq_take_append_cons_drop, if_pos hi]
  rw [hs'] at hc
  rw [show crc A = crc (A.take i ++ z :: A.drop (i + 1)) by rw [← hs]] at hc
  exact hy (crc_turn _ _ hc).symm
 ·rw [List.set_append_right _ _ (by omega)] at h
  obtain ⟨h1, h2⟩ := List.append_inj h hAB
  subst h1
  rw [List.getElem?_append_right (by omega)] at hz
  have hlt := (List.getElem?_eq_some_iff.1 hz).1
  have := congrArg (fun l => l[i - A.length]?) h2
  simp only [List.getElem?_set_self hlt, hz] at this
  exact hy (Option.some.inj this)
theorem chOpen_turned {tag : Int} {L : List Smp} {b : List UInt8} (h : chMake tag L = some b) {i : Nat} {y z : UInt8} (hz : b[i]? = some z) (hy : y ≠ z) : chOpen (b.set i y) = none := by
 cases ho : chOpen (b.set i y) with
 | none => rfl
 | some q =>
  obtain ⟨M, t⟩ := q
  have hs := chOpen_sound ho
  obtain ⟨x, _, _, hx⟩ := chMake_some h
  obtain ⟨x', _, _, hx'⟩ := chMake_some hs
  rw [hx] at hz hx'
  exact absurd hx' (sealed_turn hz hy)
theorem headDec_tag {c : UInt8} {r : List UInt8} (h : c.toNat < 1 ∨ 6 < c.toNat) : headDec (c :: r) = none := by
 unfold headDec; dsimp only; rw [if_pos h]
theorem headDec_zero (c : UInt8) (r : List UInt8) : headDec (c :: 0 :: r) = none := by
 unfold headDec; dsimp only
 split
 ·rfl
 ·have hv : vget (0 :: r) = (0, 1) := rfl
  split
  ·rfl
  ·rename_i l rest hg
   rw [getVs, hv] at hg
   simp only [Nat.one_ne_zero, if_false] at hg
   obtain ⟨q, _, hq⟩ := Option.map_eq_some_iff.1 hg
   rw [if_pos]
   left
   have : l = 0 :: q.1 := by
    have := congrArg Prod.fst hq
    exact this.symm
   rw [this]
   show (0 : Nat) < 1
   decide
theorem headDec_one (c : UInt8) : headDec [c] = none := by
 unfold headDec; dsimp only
 split
 ·rfl
 ·rfl
theorem rises_one (s : Smp) : rises [s] = true := rfl
end Go.Hw

namespace Go.Hw
def b2u (b : Bool) : UInt8 := UInt8.ofNat b.toNat
def b2us (l : List Bool) : List UInt8 := l.map b2u
theorem b2us_len (l : List Bool) : (b2us l).length = l.length := by simp [b2us]
theorem b2u_nat (b : Bool) : (b2u b).toNat = b.toNat := by cases b <;> rfl
theorem b2us_get {l : List Bool} {j : Nat} {b : Bool} (h : l[j]? = some b) : (b2us l)[j]? = some (b2u b) := by simp [b2us, h]
theorem shl_i64 {a : Int} {m : Nat} (hm : m ≤ 64) (h : I64 (a * 2 ^ m)) : IntKind.i64.wrap (a * 2 ^ (min ((m : Int)).toNat IntKind.i64.bits)) = a * 2 ^ m := by
 rw [show min ((m : Int)).toNat IntKind.i64.bits = m by simp [IntKind.bits]; omega]
 exact wrap64 h.1 h.2
theorem two_pow_int (m : Nat) : ((2 : Int) ^ m) = ((2 ^ m : Nat) : Int) := by simp
theorem lead31 (x : Nat) : (winOf x).lead = min (64 - len64 x) 31 := rfl
end Go.Hw
namespace Go.Proofs.YtjjacchnalemaaaGreatDoor
open Go.Hw
set_option maxHeartbeats 4000000
set_option maxRecDepth 100000
abbrev RwPt (p : Nat) (a : Option Addr) (n c : Nat) : HProp := pt p (.cells [.slice a n c].toArray 70 (0, 0))
def IsRW (p : Nat) (bs : List Bool) : HProp := ex fun q : Option Addr × Nat => all [RwPt p q.1 bs.length q.2, Own 5 1 q.1 bs.length q.2 (bytesV (b2us bs))]
section
variable {w0 w : World} {l : List HProp} {p : Nat} {bs : List Bool}
theorem St.rw : St w0 (IsRW p bs :: l) w ↔ ∃ a c, St w0 (RwPt p a bs.length c :: Own 5 1 a bs.length c (bytesV (b2us bs)) :: l) w := by
 unfold IsRW
 rw [St.ex]
 exact ⟨fun ⟨q, h⟩ => ⟨q.1, q.2, h.join⟩, fun ⟨a, c, h⟩ => ⟨(a, c), St.fold [_, _] h⟩⟩
theorem St.rw_new (h : St w0 (pt p (.cells [.slice none 0 0].toArray 70 (0, 0)) :: l) w) : St w0 (IsRW p [] :: l) w := St.rw.2 ⟨none, 0, (St.ownNil 5 1 h).f 1⟩

theorem rw_Put (v : Nat) (n : Int) (hv : v < 18446744073709551616) (hlen : bs.length ≤ 70368744177664) (h : St w0 (IsRW p bs :: l) w) :
  Ret Tryz.prog 79 [.pointer (some ⟨p, 0, none⟩), .int .u64 v, .int .i64 n] w fun v' w' => v' = .tuple #[] ∧ St w0 (IsRW p (bs ++ bitsOf v (heldN n)) :: l) w' := by
 refine enter Tryz.func79 rfl Tryz.results79 Tryz.ntmps79 rfl ?_
 have hle := heldN_le n
 refine c_seq (c_region ?_)
 refine r_v (q_moveI rfl) rfl ?_; refine r_v (q_max rfl rfl) rfl ?_; refine r_v (q_min rfl rfl) rfl ?_
 refine r_is (.int .i64 (heldN n)) (by unfold heldN; congr 1; omega) ?_
 refine r_v (q_sub rfl rfl) rfl ?_
 refine r_is (.int .i64 ((heldN n : Int) - 1)) (by rw [wrap64 (by omega) (by omega)]) ?_
 refine r_v (q_assignI rfl) rfl ?_
 refine r_nil ?_
 refine c_block ?_
 refine c_loop (Γ := Nat × List Bool) (fun k => [(0, .pointer (some ⟨p, 0, none⟩)), (1, .int .u64 v), (6, .int .i64 ((k.1 : Int) - 1))])
  (fun k w => k.1 ≤ 64 ∧ k.2 ++ bitsOf v k.1 = bs ++ bitsOf v (heldN n) ∧ St w0 (IsRW p k.2 :: l) w) (fun k => k.1) (heldN n, bs) ⟨rfl, rfl, rfl, trivial⟩ ⟨hle, rfl, h⟩ ?_
 clear h
 rintro ⟨k, cur⟩ w e ⟨hk, hcur, h⟩
 dsimp only at hk hcur h ⊢
 have hcl : cur.length + k = bs.length + heldN n := by
  have := congrArg List.length hcur
  simpa [bitsOf_len] using this
 refine c_seq (c_seq (c_region ?_))
 refine r_v (q_moveI rfl) rfl ?_; refine r_v (q_geq rfl rfl) rfl ?_
 cases k with
 | zero =>
  refine r_is (.bool false) (by simp) ?_
  refine r_nil (c_false rfl ?_)
  refine c_exit ?_
  rw [← hcur, bitsOf, List.append_nil]
  exact (show (packv [] : Value) = .tuple #[] ∧ _ from ⟨rfl, h⟩)
 | succ k =>
 refine r_is (.bool true) (by simp <;> omega) ?_
 refine r_nil (c_true rfl (c_skip ?_))
 obtain ⟨a, c, h⟩ := St.rw.1 h
 have hk64 : k < 64 := by omega
 refine c_seq (c_block ?_)
 refine c_region ?_
 refine r_v (q_moveP rfl) rfl ?_; refine r_v (q_moveP rfl) rfl ?_; refine r_v (q_nil rfl) rfl ?_; refine r_v (q_fa rfl) rfl ?_; refine r_v (q_load rfl (h.b 0) rfl) rfl ?_; refine r_v (q_moveI rfl) rfl ?_; refine r_v (q_moveI rfl) rfl ?_; refine r_v (q_conv rfl) rfl ?_
 refine r_is (.int .u64 (k : Int)) (by rw [show (((k + 1 : Nat) : Int) - 1) = (k : Int) by omega, wrap_u64, Nat.mod_eq_of_lt (by omega)]) ?_
 refine r_v (q_is (v' := .int .u64 ((v / 2 ^ k : Nat) : Int)) (q_shr rfl rfl (by omega)) (congrArg (Value.int .u64) (fdiv_nat v k _ (Nat.le_of_lt hk64)))) rfl ?_
 refine r_v (q_is (v' := .int .u64 (((v.testBit k).toNat : Nat) : Int)) (q_and rfl rfl) (by
  rw [show bitOp .and .u64 ((v / 2 ^ k : Nat) : Int) 1 = ((v / 2 ^ k &&& 1 : Nat) : Int) from (bit_u64 (Nat.lt_of_le_of_lt (Nat.div_le_self _ _) hv) (by decide)).1, Nat.and_one_is_mod, testBit_toNat])) rfl ?_
 refine r_v (q_is (v' := .int .u8 ((b2u (v.testBit k)).toNat : Int)) (q_conv rfl) (by rw [wrap_u8, b2u_nat]; cases v.testBit k <;> rfl)) rfl ?_
 refine r_app1 (v := .int .u8 (b2u (v.testBit k)).toNat) (m3 := cur.length + 1) (zs := bytesV (b2us (cur ++ [v.testBit k]))) (h.f 1) rfl rfl rfl rfl rfl rfl (by simp [b2us, bytesV, vcells]) (by omega) (by omega) rfl rfl rfl rfl rfl fun b a' c' w _ h => ?_
 refine r_v (q_nil rfl) rfl ?_; refine r_v (q_fa rfl) rfl ?_
 refine r_c rfl (x_store 1 h rfl (show _ = Value.slice _ _ _ from rfl) rfl rfl rfl rfl fun w h => ?_)
 refine r_nil ?_
 refine c_region ?_
 refine r_v (q_moveI rfl) rfl ?_; refine r_v (q_sub rfl rfl) rfl ?_
 refine r_is (.int .i64 ((k : Int) - 1)) (by rw [wrap64 (by omega) (by omega)]; congr 1; omega) ?_
 refine r_v (q_assignI rfl) rfl ?_
 refine r_nil ⟨(k, cur ++ [v.testBit k]), ⟨rfl, rfl, rfl, trivial⟩, ⟨by dsimp only; omega, ?_, St.rw.2 ⟨a', c', ?_⟩⟩, by dsimp only; omega⟩
 ·rw [← hcur, List.append_assoc]; rfl
 ·rw [List.length_append]
  exact h.f 1

theorem rw_Bytes (hn : bs.length ≤ 70368744177664) (h : St w0 (IsRW p bs :: l) w) :
  Ret Tryz.prog 41 [.pointer (some ⟨p, 0, none⟩)] w fun v w' => ∃ a c, v = .slice a (pack bs).length c ∧ St w0 (OwnB a c (pack bs) :: IsRW p bs :: l) w' := by
 obtain ⟨ba, bc, h⟩ := St.rw.1 h
 refine enter Tryz.func41 rfl Tryz.results41 Tryz.ntmps41 rfl ?_
 refine c_seq (c_region ?_)
 refine r_v (q_assignS rfl) rfl ?_
 refine r_nil ?_
 refine c_seq (c_region ?_)
 refine r_v (q_assignS rfl) rfl ?_
 refine r_nil ?_
 refine c_seq (c_seq (c_region ?_))
 refine r_v (q_assignI rfl) rfl ?_
 refine r_nil ?_
 refine c_block ?_
 refine c_loop (Γ := Nat × Option Addr × Nat) (fun k => [(0, .pointer (some ⟨p, 0, none⟩)), (3, .slice k.2.1 ((k.1 + 7) / 8) k.2.2), (4, .int .i64 k.1)])
  (fun k w => k.1 ≤ bs.length ∧ St w0 (Own 5 1 k.2.1 ((k.1 + 7) / 8) k.2.2 (bytesV (pack (bs.take k.1))) :: RwPt p ba bs.length bc :: Own 5 1 ba bs.length bc (bytesV (b2us bs)) :: l) w) (fun k => bs.length - k.1) (0, none, 0) ⟨rfl, rfl, rfl, trivial⟩ ⟨Nat.zero_le _, by simpa [pack, bytesV] using St.ownNil 5 1 h⟩ ?_
 clear h
 rintro ⟨i, oa, oc⟩ w e ⟨hi, h⟩
 dsimp only at hi h ⊢
 refine c_seq (c_seq (c_region ?_))
 refine r_v (q_moveI rfl) rfl ?_; refine r_v (q_moveP rfl) rfl ?_; refine r_v (q_nil rfl) rfl ?_; refine r_v (q_fa rfl) rfl ?_; refine r_v (q_load rfl (h.b 1) rfl) rfl ?_; refine r_v (q_len rfl) rfl ?_; refine r_v (q_lss rfl rfl) rfl ?_
 refine r_nil ?_
 refine c_cond (decide ((i : Int) < (bs.length : Int))) rfl (fun hc => ?_) (fun hc => ?_)
 ·
  have hlt : i < bs.length := by simp at hc; omega
  have hg := List.getElem?_eq_getElem hlt
  generalize bs[i] = x at hg
  have htl : (bs.take i).length = i := by rw [List.length_take]; omega
  have htk : bs.take (i + 1) = bs.take i ++ [x] := by rw [List.take_add_one, hg]; rfl
  refine c_skip ?_
  refine c_seq (c_block ?_)
  refine c_cut (Γ := Option Addr × Nat) (fun q => [(0, .pointer (some ⟨p, 0, none⟩)), (3, .slice q.1 (i / 8 + 1) q.2), (4, .int .i64 i)])
   (fun q w => St w0 (Own 5 1 q.1 (i / 8 + 1) q.2 (bytesV (padz (bs.take i))) :: RwPt p ba bs.length bc :: Own 5 1 ba bs.length bc (bytesV (b2us bs)) :: l) w) ?_ ?_
  ·refine c_seq (c_region ?_)
   refine r_v (q_moveI rfl) rfl ?_
   refine r_v (q_is (v' := .int .i64 ((i % 8 : Nat) : Int)) (q_rem rfl rfl (by decide)) (congrArg (Value.int .i64) (tmod_nat _ _))) rfl ?_
   refine r_v (q_eql rfl rfl) rfl ?_
   by_cases h8 : i % 8 = 0
   ·refine r_is (.bool true) (by simp [h8]) ?_
    refine r_nil (c_true rfl ?_)
    refine c_region ?_
    refine r_v (q_moveS rfl) rfl ?_
    refine r_app1 (v := .int .u8 0) (m3 := i / 8 + 1) (zs := bytesV (padz (bs.take i))) h rfl rfl rfl rfl rfl (by omega) (by rw [padz_even (by rw [htl]; exact h8)]; simp [bytesV, vcells]) (by omega) (by omega) rfl rfl rfl rfl rfl fun b a' c' w _ h => ?_
    refine r_v (q_assignS rfl) rfl ?_
    exact r_nil ⟨(a', c'), ⟨rfl, rfl, rfl, trivial⟩, h⟩
   ·refine r_is (.bool false) (by simp; omega) ?_
    refine r_nil (c_false rfl (c_skip ⟨(oa, oc), ⟨rfl, ?_, rfl, trivial⟩, ?_⟩))
    ·show Value.slice oa ((i + 7) / 8) oc = _
     rw [show (i + 7) / 8 = i / 8 + 1 by omega]
    ·rw [padz_odd (by rw [htl]; exact h8)]
     have e1 : i / 8 + 1 = (i + 7) / 8 := by omega
     rw [e1]
     exact h
  clear h
  rintro ⟨oa, oc⟩ w e h
  dsimp only at h ⊢
  obtain ⟨g, rfl⟩ := h.own_some (by omega)
  obtain ⟨g2, rfl⟩ := (h.f 2).own_some (by omega)
  have hx2 : (b2u x).toNat ≤ 1 := by cases x <;> decide
  have hx3 : (b2u x).toNat * 2 ^ (7 - i % 8) < 256 := by
   have : 2 ^ (7 - i % 8) ≤ 2 ^ 7 := Nat.pow_le_pow_right (by decide) (by omega)
   have := Nat.mul_le_mul hx2 this
   omega
  have hpz : (padz (bs.take i))[i / 8]? = some (byteAt (bs.take i) (i / 8)) := by have := padz_at (bs.take i); rwa [htl] at this
  have hq8 : Value.int .i64 (IntKind.i64.wrap ((i : Int).tdiv 8)) = .int .i64 ((i / 8 : Nat) : Int) := by rw [show (i : Int).tdiv 8 = ((i / 8 : Nat) : Int) from tdiv_nat _ 8, wrap64 (by omega) (by omega)]
  refine c_any (some 22) (fun w => St w0 _ w) (by kernel_rfl) (by kernel_rfl) h.drew fun w h => ?_
  refine cur_pure rfl rfl rfl rfl (fun _ => h) (fun _ => flt_v rfl (q_moveS rfl)) ?_; refine cur_pure rfl rfl rfl rfl (fun _ => h) (fun _ => flt_v rfl (q_moveI rfl)) ?_
  refine cur_pure rfl rfl rfl rfl (fun _ => h) (fun _ => flt_v rfl (q_is (v' := .int .i64 ((i / 8 : Nat) : Int)) (q_quo rfl rfl (by decide)) hq8)) ?_
  refine cur_pure rfl rfl rfl rfl (fun _ => h) (fun _ => flt_v rfl (q_moveS rfl)) ?_; refine cur_pure rfl rfl rfl rfl (fun _ => h) (fun _ => flt_v rfl (q_moveI rfl)) ?_
  refine cur_pure rfl rfl rfl rfl (fun _ => h) (fun _ => flt_v rfl (q_is (v' := .int .i64 ((i / 8 : Nat) : Int)) (q_quo rfl rfl (by decide)) hq8)) ?_
  refine cur_pure rfl rfl rfl rfl (fun _ => h) (fun _ => flt_v rfl (q_idx (o' := i / 8) rfl rfl rfl (by omega) (by simp))) ?_
  refine cur_float rfl rfl rfl rfl h (fun w h => flt_v rfl (q_loadc (v := .int .u8 (byteAt (bs.take i) (i / 8)).toNat) rfl (by have := h.own_rd.cell (bytesV_get hpz); simpa using this))) ?_
  refine cur_pure rfl rfl rfl rfl (fun _ => h) (fun _ => flt_v rfl (q_moveP rfl)) ?_; refine cur_pure rfl rfl rfl rfl (fun _ => h) (fun _ => flt_v rfl (q_nil rfl)) ?_; refine cur_pure rfl rfl rfl rfl (fun _ => h) (fun _ => flt_v rfl (q_fa rfl)) ?_; refine cur_float rfl rfl rfl rfl h (fun _ h => flt_v rfl (q_load rfl (h.b 1) rfl)) ?_; refine cur_pure rfl rfl rfl rfl (fun _ => h) (fun _ => flt_v rfl (q_moveI rfl)) ?_
  refine cur_pure rfl rfl rfl rfl (fun _ => h) (fun _ => flt_v rfl (q_idx (o' := i) rfl rfl rfl hlt (by simp))) ?_
  refine cur_float rfl rfl rfl rfl h (fun w h => flt_v rfl (q_loadc (v := .int .u8 (b2u x).toNat) rfl (by have := (h.f 2).own_rd.cell (bytesV_get (b2us_get hg)); simpa using this))) ?_
  refine cur_pure rfl rfl rfl rfl (fun _ => h) (fun _ => flt_v rfl (q_moveI rfl)) ?_
  refine cur_pure rfl rfl rfl rfl (fun _ => h) (fun _ => flt_v rfl (q_is (v' := .int .i64 ((i % 8 : Nat) : Int)) (q_rem rfl rfl (by decide)) (congrArg (Value.int .i64) (tmod_nat _ 8)))) ?_
  refine cur_pure rfl rfl rfl rfl (fun _ => h) (fun _ => flt_v rfl (q_is (v' := .int .i64 ((7 - i % 8 : Nat) : Int)) (q_sub rfl rfl) (by rw [wrap64 (by omega) (by omega)]; congr 1; omega))) ?_
  refine cur_pure rfl rfl rfl rfl (fun _ => h) (fun _ => flt_v rfl (q_is (v' := .int .u64 ((7 - i % 8 : Nat) : Int)) (q_conv rfl) (by rw [wrap_u64, Nat.mod_eq_of_lt (by omega)]))) ?_
  refine cur_pure rfl rfl rfl rfl (fun _ => h) (fun _ => flt_v rfl (q_is (v' := .int .u8 (((b2u x).toNat * 2 ^ (7 - i % 8) : Nat) : Int)) (q_shl rfl rfl (by omega)) (by rw [shl_u8 _ _ (by omega), Nat.mod_eq_of_lt hx3]))) ?_
  refine cur_pure rfl rfl rfl rfl (fun _ => h) (fun _ => flt_v rfl (q_is (v' := .int .u8 ((byteAt (bs.take i) (i / 8) ||| UInt8.ofNat (x.toNat * 2 ^ (7 - i % 8))).toNat : Int)) (q_or rfl rfl) (by
   rw [← or_bytes, UInt8.toNat_ofNat', b2u_nat] ; rw [b2u_nat] at hx3; rw [Nat.mod_eq_of_lt hx3]))) ?_
  refine cur_pure rfl rfl rfl rfl (fun _ => h) (fun _ => flt_v rfl (q_idx (o' := i / 8) rfl rfl rfl (by omega) (by simp))) ?_
  refine cur_skip ?_
  refine cur_last 22 rfl rfl rfl ?_
  refine x_ownset (v := .int .u8 ((byteAt (bs.take i) (i / 8) ||| UInt8.ofNat (x.toNat * 2 ^ (7 - i % 8))).toNat : Int)) h rfl rfl (by omega) rfl fun w h => ?_
  have hps := pack_snoc (bs.take i) x
  rw [htl] at hps
  rw [bytesV_set, ← hps, ← htk] at h
  refine c_region ?_
  refine r_v (q_moveI rfl) rfl ?_; refine r_v (q_add rfl rfl) rfl ?_
  refine r_is (.int .i64 ((i + 1 : Nat) : Int)) (by rw [wrap64 (by omega) (by omega)]; rfl) ?_
  refine r_v (q_assignI rfl) rfl ?_
  have e1 : i / 8 + 1 = (i + 1 + 7) / 8 := by omega
  rw [e1] at h
  refine r_nil ⟨(i + 1, some ⟨g, 0, none⟩, oc), ⟨rfl, ?_, rfl, trivial⟩, ⟨by dsimp only; omega, h⟩, by dsimp only; omega⟩
  show Value.slice _ (i / 8 + 1) _ = _
  rw [e1]
 ·have hin : i = bs.length := by simp at hc; omega
  subst hin
  rw [List.take_length] at h
  refine c_exit ?_
  refine c_seq (c_region ?_)
  refine r_v (q_moveS rfl) rfl ?_; refine r_v (q_assignS rfl) rfl ?_
  refine r_nil ?_
  refine c_ret (bq1 ⟨oa, oc, ?_, ?_⟩)
  ·show Value.slice oa ((bs.length + 7) / 8) oc = _
   rw [pack_len]
  ·rw [← pack_len] at h
   exact (St.rw.2 ⟨ba, bc, (h.f 2).f 2⟩ |>.f 1)
end
end Go.Proofs.YtjjacchnalemaaaGreatDoor

namespace Go.Hw
theorem le_lead {x n : Nat} : x / 2 ^ n = 0 ↔ len64 x ≤ n := by
 rw [len64_le, Nat.div_eq_zero_iff]
 have := Nat.two_pow_pos n
 omega
theorem tz_even {x n : Nat} (h : n < tz x) : x / 2 ^ n % 2 = 0 := by
 have h1 := tz_dvd (x := x) (t := n + 1) h
 have h2 : x / 2 ^ n = x / 2 ^ (n + 1) * 2 := by
  conv => lhs; rw [← h1]
  rw [Nat.pow_succ, Nat.mul_comm (2 ^ n) 2, ← Nat.mul_assoc, Nat.mul_div_cancel _ (Nat.two_pow_pos n), Nat.mul_comm 2 (2 ^ n), ← Nat.pow_succ]
 omega
end Go.Hw
namespace Go.Proofs.YtjjacchnalemaaaGreatDoor
open Go.Hw
set_option maxHeartbeats 4000000
set_option maxRecDepth 100000
section
variable {w0 w : World} {l : List HProp}
theorem ref1_Zig {n : Int} (hn : I64 n) (h : St w0 l w) : Ret Tryz.prog 54 [.int .i64 n] w fun v w' => v = .int .u64 (zigT n : Nat) ∧ St w0 l w' := by
 obtain ⟨h1, h2⟩ := hn
 refine enter Tryz.func54 rfl Tryz.results54 Tryz.ntmps54 rfl ?_
 refine c_seq (c_region ?_)
 refine r_v (q_assignI rfl) rfl ?_
 refine r_nil ?_
 refine c_seq (c_seq (c_region ?_))
 refine r_v (q_moveI rfl) rfl ?_; refine r_v (q_lss rfl rfl) rfl ?_
 refine r_nil ?_
 refine c_cond (decide (n < 0)) rfl (fun hc => ?_) (fun hc => ?_)
 ·
  have hc : n < 0 := by simpa using hc
  refine c_seq (c_region ?_)
  refine r_v (q_moveI rfl) rfl ?_; refine r_v (q_add rfl rfl) rfl ?_
  refine r_is (.int .i64 (n + 1)) (by rw [wrap64 (by omega) (by omega)]) ?_
  refine r_v (q_neg rfl) rfl ?_
  refine r_is (.int .i64 (-(n + 1))) (by rw [wrap64 (by omega) (by omega)]; congr 1; omega) ?_
  refine r_v (q_conv rfl) rfl ?_
  refine r_is (.int .u64 (((-(n + 1)).toNat : Nat) : Int)) (by rw [wrap_us]; unfold us; congr 1; omega) ?_
  refine r_v (q_mul rfl rfl) rfl ?_
  refine r_is (.int .u64 ((2 * (-(n + 1)).toNat : Nat) : Int)) (by rw [wrap_us]; unfold us; congr 1; omega) ?_
  refine r_v (q_add rfl rfl) rfl ?_
  refine r_is (.int .u64 ((zigT n : Nat) : Int)) (by rw [wrap_us]; unfold us zigT zigU us; congr 1; split <;> omega) ?_
  refine r_v (q_assignI rfl) rfl ?_
  refine r_nil ?_
  exact c_ret (bq1 ⟨rfl, h⟩)
 ·
  have hc : 0 ≤ n := by simpa using hc
  refine c_skip ?_
  refine c_seq (c_region ?_)
  refine r_v (q_moveI rfl) rfl ?_; refine r_v (q_conv rfl) rfl ?_
  refine r_is (.int .u64 ((n.toNat : Nat) : Int)) (by rw [wrap_us]; unfold us; congr 1; omega) ?_
  refine r_v (q_mul rfl rfl) rfl ?_
  refine r_is (.int .u64 ((zigT n : Nat) : Int)) (by rw [wrap_us]; unfold us zigT zigU us; congr 1; split <;> omega) ?_
  refine r_v (q_assignI rfl) rfl ?_
  refine r_nil ?_
  exact c_ret (bq1 ⟨rfl, h⟩)
theorem ref1_Put {sl : Option Addr} {c : Nat} {bs : List UInt8} (u : Nat) (hu : u < 18446744073709551616) (h : St w0 l w) (hr : ∀ w', St w0 l w' → Rd w' 1 sl bs.length (bytesV bs)) (hn : bs.length ≤ 70368744177664) :
  Ret Tryz.prog 42 [.slice sl bs.length c, .int .u64 u] w fun v w' => ∃ a c', v = .slice a (bs ++ vput u).length c' ∧ St w0 (OwnB a c' (bs ++ vput u) :: l) w' := by
 refine enter Tryz.func42 rfl Tryz.results42 Tryz.ntmps42 rfl ?_
 refine c_seq (c_region ?_)
 refine r_v (q_assignS rfl) rfl ?_
 refine r_nil ?_
 refine c_seq (c_region ?_)
 refine r_c rfl (x_bslice (r := []) h rfl rfl rfl fun b w h => ?_)
 refine r_v (q_moveS rfl) rfl ?_
 have h1 : St w0 (Own 5 1 (some ⟨b, 0, none⟩) 0 0 [] :: l) w := St.own_mk (cur := []) h rfl rfl (Nat.le_refl _)
 refine r_c rfl (x_append' (zs := bytesV bs) (m3 := bs.length) h1 rfl rfl (hr w h1.drop) (bytesV_one _) (by omega) (List.nil_append _) (by omega) (by omega) rfl fun a c1 w _ h => ?_)
 refine r_v (q_assignS rfl) rfl ?_
 refine r_nil ?_
 refine c_cut (Γ := Nat × List UInt8 × Option Addr × Nat) (fun k => [(1, .int .u64 k.1), (5, .slice k.2.2.1 k.2.1.length k.2.2.2)])
  (fun k w => k.1 < 128 ∧ k.2.1 ++ vput k.1 = bs ++ vput u ∧ St w0 (OwnB k.2.2.1 k.2.2.2 k.2.1 :: l) w) ?_ ?_
 ·refine c_block ?_
  refine c_loop (Γ := Nat × List UInt8 × Option Addr × Nat) (fun k => [(1, .int .u64 k.1), (5, .slice k.2.2.1 k.2.1.length k.2.2.2)])
   (fun k w => k.1 < 18446744073709551616 ∧ k.2.1 ++ vput k.1 = bs ++ vput u ∧ St w0 (OwnB k.2.2.1 k.2.2.2 k.2.1 :: l) w) (fun k => k.1) (u, bs, a, c1) ⟨rfl, rfl, trivial⟩ ⟨hu, rfl, h⟩ ?_
  clear h hu
  rintro ⟨u', out, a, c⟩ w e ⟨hu, he, h⟩
  dsimp only at hu he h ⊢
  have hlen : out.length ≤ bs.length + 10 := by
   have h1 := congrArg List.length he
   have h2 := vput_len u
   have h3 := vput_len u'
   simp only [List.length_append] at h1
   omega
  refine c_seq (c_seq (c_region ?_))
  refine r_v (q_moveI rfl) rfl ?_; refine r_v (q_gtr rfl rfl) rfl ?_
  refine r_nil (c_cond (decide ((u' : Int) > 127)) rfl (fun hc => ?_) (fun hc => ?_))
  ·
   have hge : 128 ≤ u' := by simp at hc; omega
   refine c_skip ?_
   refine c_block ?_
   refine c_seq (c_region ?_)
   refine r_v (q_moveS rfl) rfl ?_; refine r_v (q_moveI rfl) rfl ?_
   refine r_v (q_is (v' := .int .u64 ((u' % 128 : Nat) : Int)) (q_and rfl rfl) (by rw [show bitOp .and .u64 (u' : Int) 127 = ((u' &&& 127 : Nat) : Int) from (bit_u64 hu (by decide)).1, show u' &&& 127 = u' % 128 from and_low u' 7])) rfl ?_
   refine r_v (q_is (v' := .int .u64 ((u' % 128 + 128 : Nat) : Int)) (q_or rfl rfl) (by rw [show bitOp .or .u64 ((u' % 128 : Nat) : Int) 128 = ((u' % 128 ||| 128 : Nat) : Int) from (bit_u64 (by omega) (by decide)).2.1, or_more _ (by omega), Nat.mod_mod])) rfl ?_
   refine r_v (q_is (v' := .int .u8 ((UInt8.ofNat (u' % 128 + 128)).toNat : Int)) (q_conv rfl) (by rw [wrap_u8, UInt8.toNat_ofNat'])) rfl ?_
   refine r_app1 (v := .int .u8 ((UInt8.ofNat (u' % 128 + 128)).toNat : Int)) (m3 := (out ++ [UInt8.ofNat (u' % 128 + 128)]).length) (zs := bytesV (out ++ [UInt8.ofNat (u' % 128 + 128)])) h rfl rfl rfl rfl rfl (by simp) (by simp [bytesV, vcells]) (by simp; omega) (by simp; omega) rfl rfl rfl rfl rfl fun b a' c' w _ h => ?_
   refine r_v (q_assignS rfl) rfl ?_
   refine r_nil ?_
   refine c_region ?_
   refine r_v (q_moveI rfl) rfl ?_
   refine r_v (q_is (v' := .int .u64 ((u' / 128 : Nat) : Int)) (q_shr rfl rfl (by omega)) (congrArg (Value.int .u64) (fdiv_nat u' 7 64 (by decide)))) rfl ?_
   refine r_v (q_assignI rfl) rfl ?_
   refine r_nil ⟨(u' / 128, out ++ [UInt8.ofNat (u' % 128 + 128)], a', c'), ⟨rfl, rfl, trivial⟩, ⟨by dsimp only; omega, ?_, h⟩, by dsimp only; omega⟩
   rw [← he, vput_ge (by omega) hu, List.append_assoc]; rfl
  exact c_exit ⟨(u', out, a, c), ⟨rfl, rfl, trivial⟩, by simp at hc; dsimp only; omega, he, h⟩
 clear h hu
 rintro ⟨u', out, a, c⟩ w e ⟨hu, he, h⟩
 dsimp only at hu he h ⊢
 rw [vput_lt hu] at he
 have hlen : out.length ≤ bs.length + 10 := by
  have h1 := congrArg List.length he
  have h2 := vput_len u
  simp only [List.length_append, List.length_singleton] at h1
  omega
 refine c_seq (c_region ?_)
 refine r_v (q_moveS rfl) rfl ?_; refine r_v (q_moveI rfl) rfl ?_; refine r_v (q_conv rfl) rfl ?_
 refine r_is (.int .u8 ((UInt8.ofNat u').toNat : Int)) (by rw [wrap_u8, UInt8.toNat_ofNat']) ?_
 refine r_app1 (v := .int .u8 ((UInt8.ofNat u').toNat : Int)) (m3 := (bs ++ vput u).length) (zs := bytesV (bs ++ vput u)) h rfl rfl rfl rfl rfl (by rw [← he]; simp) (by rw [← he]; simp [bytesV, vcells]) (by rw [← he]; simp; omega) (by rw [← he]; simp; omega) rfl rfl rfl rfl rfl fun b a' c' w _ h => ?_
 refine r_v (q_assignS rfl) rfl ?_
 refine r_nil ?_
 exact c_ret (bq1 ⟨a', c', rfl, h⟩)

theorem ref4_within (d : Int) {m : Nat} {n : Int} (hm : m ≤ 62) (hn : n = (m : Int) + 1) (h : St w0 l w) : Ret Tryz.prog 122 [.int .i64 d, .int .i64 n] w fun v w' => v = .bool (decide (-(2 ^ m : Int) ≤ d ∧ d < 2 ^ m)) ∧ St w0 l w' := by
 subst hn
 have hp : (2 : Nat) ^ m ≤ 2 ^ 62 := Nat.pow_le_pow_right (by decide) hm
 have hp0 := Nat.two_pow_pos m
 have hpi := two_pow_int m
 refine enter Tryz.func122 rfl Tryz.results122 Tryz.ntmps122 rfl ?_
 refine c_seq (c_region ?_)
 refine r_v (q_assignB rfl) rfl ?_
 refine r_nil ?_
 refine c_seq (c_region ?_)
 refine r_v (q_moveI rfl) rfl ?_; refine r_v (q_moveI rfl) rfl ?_; refine r_v (q_sub rfl rfl) rfl ?_
 refine r_is (.int .i64 ((m : Nat) : Int)) (by rw [wrap64 (by omega) (by omega)]; congr 1; omega) ?_
 refine r_v (q_conv rfl) rfl ?_
 refine r_is (.int .u64 ((m : Nat) : Int)) (by rw [wrap_u64, Nat.mod_eq_of_lt (by omega)]) ?_
 refine r_v (q_is (v' := .int .i64 (-(2 ^ m : Int))) (q_shl rfl rfl (by omega)) (by rw [shl_i64 (by omega) ⟨by omega, by omega⟩]; congr 1; omega)) rfl ?_
 refine r_v (q_geq rfl rfl) rfl ?_
 by_cases h1 : -(2 ^ m : Int) ≤ d
 ·refine r_is (.bool true) (congrArg Value.bool (decide_eq_true h1)) ?_
  refine r_v (q_moveB rfl) rfl ?_; refine r_gd rfl rfl ?_; refine r_v (q_moveI rfl) rfl ?_; refine r_gd rfl rfl ?_; refine r_v (q_moveI rfl) rfl ?_; refine r_gd rfl rfl ?_; refine r_v (q_sub rfl rfl) rfl ?_
  refine r_is (.int .i64 ((m : Nat) : Int)) (by rw [wrap64 (by omega) (by omega)]; congr 1; omega) ?_
  refine r_gd rfl rfl ?_; refine r_v (q_conv rfl) rfl ?_
  refine r_is (.int .u64 ((m : Nat) : Int)) (by rw [wrap_u64, Nat.mod_eq_of_lt (by omega)]) ?_
  refine r_gd rfl rfl ?_
  refine r_v (q_is (v' := .int .i64 (2 ^ m : Int)) (q_shl rfl rfl (by omega)) (by rw [shl_i64 (by omega) ⟨by omega, by omega⟩]; congr 1; omega)) rfl ?_
  refine r_gd rfl rfl ?_; refine r_v (q_lss rfl rfl) rfl ?_; refine r_v (q_pick1 rfl rfl rfl) rfl ?_; refine r_v (q_assignB rfl) rfl ?_
  refine r_nil ?_
  refine c_ret (bq1 ⟨?_, h⟩)
  exact congrArg Value.bool (by simp [h1])
 ·refine r_is (.bool false) (congrArg Value.bool (decide_eq_false h1)) ?_
  refine r_v (q_moveB rfl) rfl ?_; refine r_gn rfl rfl rfl ?_; refine r_gn rfl rfl rfl ?_; refine r_gn rfl rfl rfl ?_; refine r_gn rfl rfl rfl ?_; refine r_gn rfl rfl rfl ?_; refine r_gn rfl rfl rfl ?_; refine r_v (q_pick0 rfl rfl rfl) rfl ?_; refine r_v (q_assignB rfl) rfl ?_
  refine r_nil ?_
  refine c_ret (bq1 ⟨?_, h⟩)
  exact congrArg Value.bool (by simp [h1])
theorem ref4_kind (d : Int) (h : St w0 l w) : Ret Tryz.prog 80 [.int .i64 d] w fun v w' => v = .tuple [.int .i64 (which d).bits, .int .u64 (which d).ahead, .int .i64 (which d).long].toArray ∧ St w0 l w' := by
 refine enter Tryz.func80 rfl Tryz.results80 Tryz.ntmps80 rfl ?_
 refine c_seq (c_region ?_)
 refine r_v (q_assignI rfl) rfl ?_; refine r_v (q_assignI rfl) rfl ?_; refine r_v (q_assignI rfl) rfl ?_
 refine r_nil ?_
 refine c_cut (Γ := Unit) (fun _ => []) (fun _ w => which d = ⟨15, 4, 64⟩ ∧ St w0 l w) ?_ ?_
 ·refine c_block ?_
  refine c_seq (c_region ?_)
  refine r_v (q_moveI rfl) rfl ?_; refine r_v (q_eql rfl rfl) rfl ?_; refine r_v (q_assignB rfl) rfl ?_
  refine r_nil ?_
  refine c_cond (d == 0) rfl (fun hc => ?_) (fun h0 => ?_)
  ·have hw : which d = ⟨0, 1, 0⟩ := by unfold which; rw [if_pos (by simpa using hc)]
   rw [hw]
   refine c_seq (c_region ?_)
   refine r_v (q_assignI rfl) rfl ?_; refine r_v (q_assignI rfl) rfl ?_; refine r_v (q_assignI rfl) rfl ?_
   exact r_nil (c_ret (bq3 ⟨rfl, h⟩))
  have h0 : ¬ d = 0 := by simpa using h0
  refine c_seq (c_region ?_)
  refine r_v (q_moveI rfl) rfl ?_
  refine r_c rfl (x_call rfl (ref4_within d (m := 6) (by decide) rfl h) ?_)
  rintro _ w ⟨rfl, h⟩
  refine r_v (q_assignB rfl) rfl ?_
  refine r_nil ?_
  refine c_cond _ rfl (fun hc => ?_) (fun h1 => ?_)
  ·have hw : which d = ⟨2, 2, 7⟩ := by unfold which; rw [if_neg h0, if_pos (by rw [decide_eq_true_eq] at hc; omega)]
   rw [hw]
   refine c_seq (c_region ?_)
   refine r_v (q_assignI rfl) rfl ?_; refine r_v (q_assignI rfl) rfl ?_; refine r_v (q_assignI rfl) rfl ?_
   exact r_nil (c_ret (bq3 ⟨rfl, h⟩))
  have h1 : ¬ (-64 ≤ d ∧ d ≤ 63) := by rw [decide_eq_false_iff_not] at h1; omega
  refine c_seq (c_region ?_)
  refine r_v (q_moveI rfl) rfl ?_
  refine r_c rfl (x_call rfl (ref4_within d (m := 8) (by decide) rfl h) ?_)
  rintro _ w ⟨rfl, h⟩
  refine r_v (q_assignB rfl) rfl ?_
  refine r_nil ?_
  refine c_cond _ rfl (fun hc => ?_) (fun h2 => ?_)
  ·have hw : which d = ⟨6, 3, 9⟩ := by unfold which; rw [if_neg h0, if_neg h1, if_pos (by rw [decide_eq_true_eq] at hc; omega)]
   rw [hw]
   refine c_seq (c_region ?_)
   refine r_v (q_assignI rfl) rfl ?_; refine r_v (q_assignI rfl) rfl ?_; refine r_v (q_assignI rfl) rfl ?_
   exact r_nil (c_ret (bq3 ⟨rfl, h⟩))
  have h2 : ¬ (-256 ≤ d ∧ d ≤ 255) := by rw [decide_eq_false_iff_not] at h2; omega
  refine c_seq (c_region ?_)
  refine r_v (q_moveI rfl) rfl ?_
  refine r_c rfl (x_call rfl (ref4_within d (m := 11) (by decide) rfl h) ?_)
  rintro _ w ⟨rfl, h⟩
  refine r_v (q_assignB rfl) rfl ?_
  refine r_nil ?_
  refine c_cond _ rfl (fun hc => ?_) (fun h3 => ?_)
  ·have hw : which d = ⟨14, 4, 12⟩ := by unfold which; rw [if_neg h0, if_neg h1, if_neg h2, if_pos (by rw [decide_eq_true_eq] at hc; omega)]
   rw [hw]
   refine c_seq (c_region ?_)
   refine r_v (q_assignI rfl) rfl ?_; refine r_v (q_assignI rfl) rfl ?_; refine r_v (q_assignI rfl) rfl ?_
   exact r_nil (c_ret (bq3 ⟨rfl, h⟩))
  have h3 : ¬ (-2048 ≤ d ∧ d ≤ 2047) := by rw [decide_eq_false_iff_not] at h3; omega
  exact c_skip ⟨(), trivial, by unfold which; rw [if_neg h0, if_neg h1, if_neg h2, if_neg h3], h⟩
 clear h
 rintro ⟨⟩ w e ⟨hw, h⟩
 rw [hw]
 refine c_seq (c_region ?_)
 refine r_v (q_assignI rfl) rfl ?_; refine r_v (q_assignI rfl) rfl ?_; refine r_v (q_assignI rfl) rfl ?_
 exact r_nil (c_ret (bq3 ⟨rfl, h⟩))

theorem ref4_Times {p : Nat} {bs : List Bool} {sl : Option Addr} {c : Nat} {ts : List Int} (hi : ∀ t ∈ ts, I64 t) (hn : ts.length ≤ 65535) (hb : bs.length ≤ 1073741824) (h : St w0 (IsRW p bs :: l) w) (hr : Reads w0 l 1 sl ts.length (i64V ts)) :
  Ret Tryz.prog 40 [.pointer (some ⟨p, 0, none⟩), .slice sl ts.length c] w fun v w' => v = .tuple #[] ∧ St w0 (IsRW p (bs ++ timesBits ts) :: l) w' := by
 refine enter Tryz.func40 rfl Tryz.results40 Tryz.ntmps40 rfl ?_
 have htl := timesBits_len ts
 have hrd : ∀ {Q : HProp} {w' : World}, St w0 (Q :: l) w' → Rd w' 1 sl ts.length (i64V ts) := fun {Q w'} h' => hr [Q] w' h'
 refine c_seq (c_region ?_)
 refine r_v (q_assignI rfl) rfl ?_
 refine r_nil ?_
 refine c_seq (c_region ?_)
 refine r_v (q_assignI rfl) rfl ?_
 refine r_nil ?_
 refine c_block ?_
 refine c_loop (Γ := Nat × Nat × List Bool) (fun k => [(0, .pointer (some ⟨p, 0, none⟩)), (1, .slice sl ts.length c), (4, .int .u64 k.2.1), (5, .int .i64 k.1)])
  (fun k w => k.1 ≤ ts.length ∧ k.2.1 < 18446744073709551616 ∧ (k.1 = 0 → k.2.1 = 0 ∧ k.2.2 = bs) ∧ (0 < k.1 → k.2.2 ++ timesRest (us (ts.getD (k.1 - 1) 0)) k.2.1 (ts.drop k.1) = bs ++ timesBits ts) ∧ St w0 (IsRW p k.2.2 :: l) w)
  (fun k => ts.length - k.1) (0, 0, bs) ⟨rfl, rfl, rfl, rfl, trivial⟩ ⟨Nat.zero_le _, (by decide : (0 : Nat) < 18446744073709551616), fun _ => ⟨rfl, rfl⟩, (fun h => absurd h (by decide : ¬ (0 : Nat) < 0)), h⟩ ?_
 clear h
 rintro ⟨i, step, out⟩ w e ⟨hin, hstep, h00, hnz, h⟩
 dsimp only at hin hstep h00 hnz h ⊢
 refine c_seq (c_seq (c_region ?_))
 refine r_v (q_moveI rfl) rfl ?_; refine r_v (q_moveS rfl) rfl ?_; refine r_v (q_len rfl) rfl ?_; refine r_v (q_lss rfl rfl) rfl ?_
 refine r_nil ?_
 refine c_cond (decide ((i : Int) < (ts.length : Int))) rfl (fun hc => ?_) (fun hc => ?_)
 ·
  have hlt : i < ts.length := by simp at hc; omega
  have hg := List.getElem?_eq_getElem hlt
  have hdr := List.drop_eq_getElem_cons hlt
  generalize ts[i] = t at hg hdr
  have ht := hi t (List.mem_of_getElem? hg)
  have hut := us_lt t
  have hgd : ts.getD i 0 = t := by rw [List.getD, hg]; rfl
  obtain ⟨b, o, hsl⟩ := (hrd h).some (by omega)
  have hol : out.length ≤ bs.length + (timesBits ts).length := by
   rcases Nat.eq_zero_or_pos i with h0 | h0
   ·rw [(h00 h0).2]; omega
   ·have := congrArg List.length (hnz h0)
    simp only [List.length_append] at this
    omega
  refine c_skip ?_
  refine c_cut (Γ := Nat × List Bool) (fun k => [(0, .pointer (some ⟨p, 0, none⟩)), (1, .slice sl ts.length c), (4, .int .u64 k.1), (5, .int .i64 i)])
   (fun k w => k.1 < 18446744073709551616 ∧ k.2 ++ timesRest (us t) k.1 (ts.drop (i + 1)) = bs ++ timesBits ts ∧ St w0 (IsRW p k.2 :: l) w) ?_ ?_
  ·refine c_block ?_
   refine c_seq (c_seq (c_region ?_))
   refine r_v (q_moveI rfl) rfl ?_; refine r_v (q_eql rfl rfl) rfl ?_
   by_cases hi0 : i = 0
   ·refine r_is (.bool true) (by subst hi0; rfl) ?_
    refine r_nil (c_true rfl ?_)
    obtain ⟨hs0, ho0⟩ := h00 hi0
    refine c_seq (c_region ?_)
    refine r_v (q_moveP rfl) rfl ?_; refine r_v (q_moveS rfl) rfl ?_
    refine r_v (q_idx (b := b) (o := o) (m := ts.length) (c := c) (j := 0) (o' := o + 0) (by rw [← hsl]; rfl) rfl rfl (by omega) (by simp)) rfl ?_
    refine r_v (q_loadc (v := .int .i64 t) rfl ((hsl ▸ hrd h).cell (i64V_get (by rw [← hi0]; exact hg)))) rfl ?_
    refine r_v (q_conv rfl) rfl ?_
    refine r_is (.int .u64 (us t : Nat)) (by rw [wrap_us]) ?_
    refine r_c rfl (x_call rfl (rw_Put (us t) 64 hut (by omega) h) ?_)
    rintro _ w ⟨rfl, h⟩
    refine r_nil ?_
    refine c_exit ⟨(step, out ++ bitsOf (us t) (heldN 64)), ⟨rfl, rfl, rfl, rfl, trivial⟩, hstep, ?_, h⟩
    rw [hi0, List.drop_zero] at hdr
    rw [ho0, hs0, hi0, List.append_assoc]
    conv => rhs; rw [hdr, timesBits]
    rfl
   refine r_is (.bool false) (by simp; omega) ?_
   refine r_nil (c_false rfl (c_skip ?_))
   have he := hnz (by omega)
   have hg1 : ts[i - 1]? = some (ts.getD (i - 1) 0) := by
    rw [List.getD, List.getElem?_eq_getElem (show i - 1 < ts.length by omega)]; rfl
   generalize ts.getD (i - 1) 0 = t1 at hg1 he
   have hwas := us_lt t1
   rw [hdr, timesRest] at he
   refine c_seq (c_any none (fun w => St w0 _ w) (by kernel_rfl) (by kernel_rfl) h.drew fun w h => ?_)
   refine cur_pure rfl rfl rfl rfl (fun _ => h) (fun _ => flt_v rfl (q_moveS rfl)) ?_; refine cur_pure rfl rfl rfl rfl (fun _ => h) (fun _ => flt_v rfl (q_moveI rfl)) ?_
   refine cur_pure rfl rfl rfl rfl (fun _ => h) (fun _ => flt_v rfl (q_idx (b := b) (o := o) (m := ts.length) (c := c) (o' := o + i) (by rw [← hsl]; rfl) rfl rfl hlt (by simp))) ?_
   refine cur_float rfl rfl rfl rfl h (fun _ h => flt_v rfl (q_loadc (v := .int .i64 t) rfl ((hsl ▸ hrd h).cell (i64V_get hg)))) ?_
   refine cur_pure rfl rfl rfl rfl (fun _ => h) (fun _ => flt_v rfl (q_is (v' := .int .u64 (us t : Nat)) (q_conv rfl) (by rw [wrap_us]))) ?_
   refine cur_pure rfl rfl rfl rfl (fun _ => h) (fun _ => flt_v rfl (q_moveS rfl)) ?_; refine cur_pure rfl rfl rfl rfl (fun _ => h) (fun _ => flt_v rfl (q_moveI rfl)) ?_
   refine cur_pure rfl rfl rfl rfl (fun _ => h) (fun _ => flt_v rfl (q_is (v' := .int .i64 ((i - 1 : Nat) : Int)) (q_sub rfl rfl) (by rw [wrap64 (by omega) (by omega)]; congr 1; omega))) ?_
   refine cur_pure rfl rfl rfl rfl (fun _ => h) (fun _ => flt_v rfl (q_idx (b := b) (o := o) (m := ts.length) (c := c) (o' := o + (i - 1)) (by rw [← hsl]; rfl) rfl rfl (by omega) (by simp))) ?_
   refine cur_float rfl rfl rfl rfl h (fun _ h => flt_v rfl (q_loadc (v := .int .i64 t1) rfl ((hsl ▸ hrd h).cell (i64V_get hg1)))) ?_
   refine cur_pure rfl rfl rfl rfl (fun _ => h) (fun _ => flt_v rfl (q_is (v' := .int .u64 (us t1 : Nat)) (q_conv rfl) (by rw [wrap_us]))) ?_
   refine cur_pure rfl rfl rfl rfl (fun _ => h) (fun _ => flt_v rfl (q_is (v' := .int .u64 (diff (us t) (us t1) : Nat)) (q_sub rfl rfl) (by rw [wrap_diff hwas]))) ?_
   refine cur_pure rfl rfl rfl rfl (fun _ => h) (fun _ => flt_v rfl (q_assignI rfl)) ?_
   refine cur_end ?_
   have hd : diff (diff (us t) (us t1)) step < 18446744073709551616 := Nat.mod_lt _ (by decide)
   have hd1 : diff (us t) (us t1) < 18446744073709551616 := Nat.mod_lt _ (by decide)
   refine c_seq (c_region ?_)
   refine r_v (q_moveI rfl) rfl ?_; refine r_v (q_moveI rfl) rfl ?_; refine r_v (q_sub rfl rfl) rfl ?_
   refine r_is (.int .u64 (diff (diff (us t) (us t1)) step : Nat)) (by rw [wrap_diff hstep]) ?_
   generalize hde : diff (diff (us t) (us t1)) step = d at *
   obtain ⟨hf1, hf2, hf3⟩ := which_le (sg d)
   have hlen := congrArg List.length he
   simp only [List.length_append, bitsOf_len] at hlen
   refine r_v (q_conv rfl) rfl ?_
   refine r_is (.int .i64 (sg d)) (by rw [wrap_sg hd]) ?_
   refine r_v (q_assignI rfl) rfl ?_
   refine r_nil ?_
   refine c_seq (c_region ?_)
   refine r_v (q_moveI rfl) rfl ?_; refine r_v (q_assignI rfl) rfl ?_
   refine r_nil ?_
   refine c_seq (c_region ?_)
   refine r_v (q_moveI rfl) rfl ?_
   refine r_c rfl (x_call rfl (ref4_kind (sg d) h) ?_)
   rintro _ w ⟨rfl, h⟩
   refine r_v (q_moveT rfl) rfl ?_; refine r_v (q_ext rfl rfl) rfl ?_; refine r_v (q_ext rfl rfl) rfl ?_; refine r_v (q_ext rfl rfl) rfl ?_; refine r_v (q_assignI rfl) rfl ?_; refine r_v (q_assignI rfl) rfl ?_; refine r_v (q_assignI rfl) rfl ?_
   refine r_nil ?_
   refine c_seq (c_region ?_)
   refine r_v (q_moveP rfl) rfl ?_; refine r_v (q_moveI rfl) rfl ?_; refine r_v (q_moveI rfl) rfl ?_
   refine r_c rfl (x_call rfl (rw_Put (which (sg d)).ahead (which (sg d)).long (by omega) (by omega) h) ?_)
   rintro _ w ⟨rfl, h⟩
   refine r_nil ?_
   refine c_region ?_
   refine r_v (q_moveP rfl) rfl ?_; refine r_v (q_moveI rfl) rfl ?_; refine r_v (q_conv rfl) rfl ?_
   refine r_is (.int .u64 (d : Nat)) (by rw [wrap_us, us_sg hd]) ?_
   refine r_v (q_moveI rfl) rfl ?_
   refine r_c rfl (x_call rfl (rw_Put d (which (sg d)).bits hd (by rw [heldN_nat (by omega), List.length_append, bitsOf_len]; omega) h) ?_)
   rintro _ w ⟨rfl, h⟩
   refine r_nil ⟨(diff (us t) (us t1), _), ⟨rfl, rfl, rfl, rfl, trivial⟩, hd1, ?_, h⟩
   rw [heldN_nat (by omega), heldN_nat (by omega), List.append_assoc, List.append_assoc, ← he]
  clear h
  rintro ⟨step', out'⟩ w e ⟨hs', he', h⟩
  dsimp only at hs' he' h ⊢
  refine c_region ?_
  refine r_v (q_moveI rfl) rfl ?_; refine r_v (q_add rfl rfl) rfl ?_
  refine r_is (.int .i64 ((i + 1 : Nat) : Int)) (by rw [wrap64 (by omega) (by omega)]; rfl) ?_
  refine r_v (q_assignI rfl) rfl ?_
  refine r_nil ⟨(i + 1, step', out'), ⟨rfl, rfl, rfl, rfl, trivial⟩, ⟨hlt, hs', (fun h => by cases h), fun _ => ?_, h⟩, by dsimp only; omega⟩
  dsimp only
  rw [Nat.add_sub_cancel, hgd]
  exact he'
 have hin' : i = ts.length := by simp at hc; omega
 refine c_exit ?_
 have : out = bs ++ timesBits ts := by
  rcases Nat.eq_zero_or_pos i with h0 | h0
  ·rw [(h00 h0).2]
   have : ts = [] := List.eq_nil_of_length_eq_zero (by omega)
   rw [this]; simp [timesBits]
  ·have := hnz h0
   rw [hin', List.drop_length, timesRest, List.append_nil] at this
   exact this
 rw [← this]
 exact (show (packv [] : Value) = .tuple #[] ∧ _ from ⟨rfl, h⟩)

theorem ref4_ahead {x : Nat} (hx : x < 18446744073709551616) (h : St w0 l w) : Ret Tryz.prog 114 [.int .u64 x] w fun v w' => v = .int .i64 ((winOf x).lead : Nat) ∧ St w0 l w' := by
 have h64 := len64_64 hx
 refine enter Tryz.func114 rfl Tryz.results114 Tryz.ntmps114 rfl ?_
 refine c_seq (c_region ?_)
 refine r_v (q_assignI rfl) rfl ?_
 refine r_nil ?_
 refine c_seq (c_region ?_)
 refine r_v (q_assignI rfl) rfl ?_
 refine r_nil ?_
 refine c_cut (Γ := Unit) (fun _ => [(3, .int .i64 ((winOf x).lead : Nat))]) (fun _ w => St w0 l w) ?_ ?_
 ·refine c_block ?_
  refine c_loop (Γ := Nat) (fun k => [(0, .int .u64 x), (3, .int .i64 k)]) (fun k w => k ≤ 31 ∧ k ≤ 64 - len64 x ∧ St w0 l w) (fun k => 31 - k) 0 ⟨rfl, rfl, trivial⟩ ⟨Nat.zero_le _, Nat.zero_le _, h⟩ ?_
  clear h
  rintro n w e ⟨hn, hn2, h⟩
  refine c_seq (c_seq (c_region ?_))
  refine r_v (q_moveI rfl) rfl ?_; refine r_v (q_lss rfl rfl) rfl ?_
  by_cases h31 : n < 31
  ·refine r_is (.bool true) (by simp; omega) ?_
   refine r_v (q_moveB rfl) rfl ?_; refine r_gd rfl rfl ?_; refine r_v (q_moveI rfl) rfl ?_; refine r_gd rfl rfl ?_; refine r_v (q_moveI rfl) rfl ?_; refine r_gd rfl rfl ?_; refine r_v (q_sub rfl rfl) rfl ?_
   refine r_is (.int .i64 ((63 - n : Nat) : Int)) (by rw [wrap64 (by omega) (by omega)]; congr 1; omega) ?_
   refine r_gd rfl rfl ?_; refine r_v (q_conv rfl) rfl ?_
   refine r_is (.int .u64 ((63 - n : Nat) : Int)) (by rw [wrap_u64, Nat.mod_eq_of_lt (by omega)]) ?_
   refine r_gd rfl rfl ?_
   refine r_v (q_is (v' := .int .u64 ((x / 2 ^ (63 - n) : Nat) : Int)) (q_shr rfl rfl (by omega)) (congrArg (Value.int .u64) (fdiv_nat x (63 - n) _ (show 63 - n ≤ 64 by omega)))) rfl ?_
   refine r_gd rfl rfl ?_; refine r_v (q_eql rfl rfl) rfl ?_
   by_cases h0 : x / 2 ^ (63 - n) = 0
   ·refine r_is (.bool true) (by rw [h0]; rfl) ?_
    refine r_v (q_pick1 rfl rfl rfl) rfl ?_
    refine r_nil (c_true rfl (c_skip ?_))
    refine c_block ?_
    refine c_region ?_
    refine r_v (q_moveI rfl) rfl ?_; refine r_v (q_add rfl rfl) rfl ?_
    refine r_is (.int .i64 ((n + 1 : Nat) : Int)) (by rw [wrap64 (by omega) (by omega)]; rfl) ?_
    refine r_v (q_assignI rfl) rfl ?_
    have := le_lead.1 h0
    exact r_nil ⟨n + 1, ⟨rfl, rfl, trivial⟩, ⟨by omega, by omega, h⟩, by omega⟩
   ·refine r_is (.bool false) (by congr 1; rw [beq_eq_false_iff_ne]; omega) ?_
    refine r_v (q_pick1 rfl rfl rfl) rfl ?_
    refine r_nil (c_false rfl ?_)
    have : ¬ len64 x ≤ 63 - n := fun hh => h0 (le_lead.2 hh)
    refine c_exit ⟨(), ⟨?_, trivial⟩, h⟩
    show Value.int .i64 (n : Int) = _
    rw [lead31]; congr 1; omega
  ·refine r_is (.bool false) (by simp; omega) ?_
   refine r_v (q_moveB rfl) rfl ?_; refine r_gn rfl rfl rfl ?_; refine r_gn rfl rfl rfl ?_; refine r_gn rfl rfl rfl ?_; refine r_gn rfl rfl rfl ?_; refine r_gn rfl rfl rfl ?_; refine r_gn rfl rfl rfl ?_; refine r_v (q_pick0 rfl rfl rfl) rfl ?_
   refine r_nil (c_false rfl ?_)
   refine c_exit ⟨(), ⟨?_, trivial⟩, h⟩
   show Value.int .i64 (n : Int) = _
   rw [lead31]; congr 1; omega
 clear h
 rintro ⟨⟩ w e h
 refine c_seq (c_region ?_)
 refine r_v (q_moveI rfl) rfl ?_; refine r_v (q_assignI rfl) rfl ?_
 exact r_nil (c_ret (bq1 ⟨rfl, h⟩))
theorem ref4_behind {x : Nat} (h0 : x ≠ 0) (hx : x < 18446744073709551616) (h : St w0 l w) : Ret Tryz.prog 115 [.int .u64 x] w fun v w' => v = .int .i64 (tz x : Nat) ∧ St w0 l w' := by
 obtain ⟨ht1, ht2⟩ := tzA_odd 64 x h0 hx
 have ht1 : x / 2 ^ tz x % 2 = 1 := ht1
 have ht2 : tz x < 64 := ht2
 refine enter Tryz.func115 rfl Tryz.results115 Tryz.ntmps115 rfl ?_
 refine c_seq (c_region ?_)
 refine r_v (q_assignI rfl) rfl ?_
 refine r_nil ?_
 refine c_seq (c_region ?_)
 refine r_v (q_assignI rfl) rfl ?_
 refine r_nil ?_
 refine c_cut (Γ := Unit) (fun _ => [(3, .int .i64 (tz x : Nat))]) (fun _ w => St w0 l w) ?_ ?_
 ·refine c_block ?_
  refine c_loop (Γ := Nat) (fun k => [(0, .int .u64 x), (3, .int .i64 k)]) (fun k w => k ≤ tz x ∧ St w0 l w) (fun k => tz x - k) 0 ⟨rfl, rfl, trivial⟩ ⟨Nat.zero_le _, h⟩ ?_
  clear h
  rintro n w e ⟨hn, h⟩
  refine c_seq (c_seq (c_region ?_))
  refine r_v (q_moveI rfl) rfl ?_; refine r_v (q_moveI rfl) rfl ?_; refine r_v (q_conv rfl) rfl ?_
  refine r_is (.int .u64 (n : Int)) (by rw [wrap_u64, Nat.mod_eq_of_lt (by omega)]) ?_
  refine r_v (q_is (v' := .int .u64 ((x / 2 ^ n : Nat) : Int)) (q_shr rfl rfl (by omega)) (congrArg (Value.int .u64) (fdiv_nat x n _ (show n ≤ 64 by omega)))) rfl ?_
  refine r_v (q_is (v' := .int .u64 ((x / 2 ^ n % 2 : Nat) : Int)) (q_and rfl rfl) (by
   rw [show bitOp .and .u64 ((x / 2 ^ n : Nat) : Int) 1 = ((x / 2 ^ n &&& 1 : Nat) : Int) from (bit_u64 (Nat.lt_of_le_of_lt (Nat.div_le_self _ _) hx) (by decide)).1, Nat.and_one_is_mod])) rfl ?_
  refine r_v (q_eql rfl rfl) rfl ?_
  by_cases hlt : n < tz x
  ·rw [tz_even hlt]
   refine r_nil (c_true rfl (c_skip ?_))
   refine c_block ?_
   refine c_region ?_
   refine r_v (q_moveI rfl) rfl ?_; refine r_v (q_add rfl rfl) rfl ?_
   refine r_is (.int .i64 ((n + 1 : Nat) : Int)) (by rw [wrap64 (by omega) (by omega)]; rfl) ?_
   refine r_v (q_assignI rfl) rfl ?_
   exact r_nil ⟨n + 1, ⟨rfl, rfl, trivial⟩, ⟨by omega, h⟩, by omega⟩
  ·obtain rfl : n = tz x := by omega
   rw [ht1]
   refine r_nil (c_false rfl ?_)
   exact c_exit ⟨(), ⟨rfl, trivial⟩, h⟩
 clear h
 rintro ⟨⟩ w e h
 refine c_seq (c_region ?_)
 refine r_v (q_moveI rfl) rfl ?_; refine r_v (q_assignI rfl) rfl ?_
 exact r_nil (c_ret (bq1 ⟨rfl, h⟩))
end
end Go.Proofs.YtjjacchnalemaaaGreatDoor

namespace Go.Hw
def kNum (k : Nat) : Nat := (kindsL.getD k (0, 0)).1
def kBit (k : Nat) : Nat := (kindsL.getD k (0, 0)).2
abbrev intsV (l : List Nat) : List Value := l.map fun v : Nat => Value.int .i64 (v : Int)
def numsL : List Nat := [240, 120, 60, 30, 20, 15, 12, 10, 8, 7, 6, 5, 4, 3, 2, 1]
def bitsL : List Nat := [0, 0, 1, 2, 3, 4, 5, 6, 7, 8, 10, 12, 15, 20, 30, 60]
theorem numsL_get : ∀ k, k < 16 → numsL[k]? = some (kNum k) := by decide
theorem bitsL_get : ∀ k, k < 16 → bitsL[k]? = some (kBit k) := by decide
theorem intsV_get {l : List Nat} {j v : Nat} (h : l[j]? = some v) : (intsV l)[j]? = some (.int .i64 (v : Int)) := by simp [intsV, h]
theorem kinds_at {k : Nat} (h : k < 16) : kindsL[k]? = some (kNum k, kBit k) := by
 rw [List.getElem?_eq_getElem (show k < kindsL.length from h)]
 unfold kNum kBit
 rw [List.getD, List.getElem?_eq_getElem (show k < kindsL.length from h)]
 rfl
theorem kinds_two : ∀ k, k < 16 → (k < 2 ↔ kBit k = 0) := by decide
theorem kinds_le : ∀ k, k < 16 → kNum k ≤ 240 ∧ kBit k ≤ 60 ∧ 0 < kNum k ∧ kBit k * kNum k ≤ 60 := by decide
theorem idx_lead (x : Nat) (r : List Nat) {j : Nat} (h : j < lead x r) : r[j]? = some x := by
 have h1 := lead_split x r
 rw [← h1, List.getElem?_append_left (by simpa using h)]
 simp [h]
theorem idx_lead_end (x : Nat) (r : List Nat) : r[lead x r]? ≠ some x := by
 have := lead_head x r
 rwa [List.head?_drop] at this
end Go.Hw
namespace Go.Proofs.YtjjacchnalemaaaGreatDoor
open Go.Hw
set_option maxHeartbeats 4000000
set_option maxRecDepth 100000
instance und16 : Und Tryz.prog 166 (.array 16 3) := ⟨Tryz.underlying166⟩
section
variable {w0 w : World} {l : List HProp}
theorem ref4_Values {p : Nat} {bs : List Bool} {sl : Option Addr} {c : Nat} {vs : List Nat} (hv : ∀ v ∈ vs, v < 18446744073709551616) (hn : vs.length ≤ 65535) (hb : bs.length ≤ 1073741824) (h : St w0 (IsRW p bs :: l) w) (hr : Reads w0 l 1 sl vs.length (u64V vs)) :
  Ret Tryz.prog 73 [.pointer (some ⟨p, 0, none⟩), .slice sl vs.length c] w fun v w' => v = .tuple #[] ∧ St w0 (IsRW p (bs ++ xorBits vs) :: l) w' := by
 have htl := xorBits_len vs
 have hrd : ∀ {Q : HProp} {w' : World}, St w0 (Q :: l) w' → Rd w' 1 sl vs.length (u64V vs) := fun {Q w'} h' => hr [Q] w' h'
 refine enter Tryz.func73 rfl Tryz.results73 Tryz.ntmps73 rfl ?_
 refine c_seq (c_region ?_)
 refine r_v (q_assignB rfl) rfl ?_; refine r_v (q_assignI rfl) rfl ?_; refine r_v (q_assignI rfl) rfl ?_
 refine r_nil ?_
 refine c_seq (c_region ?_)
 refine r_v (q_assignI rfl) rfl ?_
 refine r_nil ?_
 refine c_block ?_
 refine c_loop (Γ := Nat × Win × List Bool) (fun k => [(0, .pointer (some ⟨p, 0, none⟩)), (1, .slice sl vs.length c), (4, .bool k.2.1.is), (5, .int .i64 k.2.1.lead), (6, .int .i64 k.2.1.trail), (7, .int .i64 k.1)])
  (fun k w => k.1 ≤ vs.length ∧ WinOk k.2.1 ∧ (k.1 = 0 → k.2.1 = ⟨false, 0, 0⟩ ∧ k.2.2 = bs) ∧ (0 < k.1 → k.2.2 ++ xorRest k.2.1 (vs.getD (k.1 - 1) 0) (vs.drop k.1) = bs ++ xorBits vs) ∧ St w0 (IsRW p k.2.2 :: l) w)
  (fun k => vs.length - k.1) (0, ⟨false, 0, 0⟩, bs) ⟨rfl, rfl, rfl, rfl, rfl, rfl, trivial⟩ ⟨Nat.zero_le _, (show (0 : Nat) + 0 ≤ 63 by decide), fun _ => ⟨rfl, rfl⟩, (fun h => absurd h (by decide : ¬ (0 : Nat) < 0)), h⟩ ?_
 clear h
 rintro ⟨i, win, out⟩ w e ⟨hin, hwo, h00, hnz, h⟩
 dsimp only at hin hwo h00 hnz h ⊢
 refine c_seq (c_seq (c_region ?_))
 refine r_v (q_moveI rfl) rfl ?_; refine r_v (q_moveS rfl) rfl ?_; refine r_v (q_len rfl) rfl ?_; refine r_v (q_lss rfl rfl) rfl ?_
 refine r_nil ?_
 refine c_cond (decide ((i : Int) < (vs.length : Int))) rfl (fun hc => ?_) (fun hc => ?_)
 ·
  have hlt : i < vs.length := by simp at hc; omega
  have hg := List.getElem?_eq_getElem hlt
  have hdr := List.drop_eq_getElem_cons hlt
  generalize vs[i] = now at hg hdr
  have hnow := hv now (List.mem_of_getElem? hg)
  have hgd : vs.getD i 0 = now := by rw [List.getD, hg]; rfl
  obtain ⟨bs_, o, hsl⟩ := (hrd h).some (by omega)
  have hol : out.length ≤ bs.length + (xorBits vs).length := by
   rcases Nat.eq_zero_or_pos i with h0 | h0
   ·rw [(h00 h0).2]; omega
   ·have := congrArg List.length (hnz h0)
    simp only [List.length_append] at this
    omega
  refine c_skip ?_
  refine c_cut (Γ := Win × List Bool) (fun k => [(0, .pointer (some ⟨p, 0, none⟩)), (1, .slice sl vs.length c), (4, .bool k.1.is), (5, .int .i64 k.1.lead), (6, .int .i64 k.1.trail), (7, .int .i64 i)])
   (fun k w => WinOk k.1 ∧ k.2 ++ xorRest k.1 now (vs.drop (i + 1)) = bs ++ xorBits vs ∧ St w0 (IsRW p k.2 :: l) w) ?_ ?_
  ·refine c_block ?_
   refine c_seq (c_seq (c_region ?_))
   refine r_v (q_moveI rfl) rfl ?_; refine r_v (q_eql rfl rfl) rfl ?_
   by_cases hi0 : i = 0
   ·refine r_is (.bool true) (by subst hi0; rfl) ?_
    refine r_nil (c_true rfl ?_)
    obtain ⟨hw0, ho0⟩ := h00 hi0
    refine c_seq (c_region ?_)
    refine r_v (q_moveP rfl) rfl ?_; refine r_v (q_moveS rfl) rfl ?_
    refine r_v (q_idx (b := bs_) (o := o) (m := vs.length) (c := c) (j := 0) (o' := o + 0) (by rw [← hsl]; rfl) rfl rfl (by omega) (by simp)) rfl ?_
    refine r_v (q_loadc (v := .int .u64 now) rfl ((hsl ▸ hrd h).cell (u64V_get (by rw [← hi0]; exact hg)))) rfl ?_
    refine r_c rfl (x_call rfl (rw_Put now 64 hnow (by omega) h) ?_)
    rintro _ w ⟨rfl, h⟩
    refine r_nil ?_
    refine c_exit ⟨(win, out ++ bitsOf now (heldN 64)), ⟨rfl, rfl, rfl, rfl, rfl, rfl, trivial⟩, hwo, ?_, h⟩
    rw [hi0, List.drop_zero] at hdr
    rw [ho0, hw0, hi0, List.append_assoc]
    conv => rhs; rw [hdr, xorBits]
    rfl
   refine r_is (.bool false) (by simp; omega) ?_
   refine r_nil (c_false rfl (c_skip ?_))
   have he := hnz (by omega)
   have hg1 : vs[i - 1]? = some (vs.getD (i - 1) 0) := by
    rw [List.getD, List.getElem?_eq_getElem (show i - 1 < vs.length by omega)]; rfl
   generalize vs.getD (i - 1) 0 = was at hg1 he
   have hwas := hv was (List.mem_of_getElem? hg1)
   have hx : now ^^^ was < 18446744073709551616 := Nat.xor_lt_two_pow (n := 64) hnow hwas
   rw [hdr, xorRest] at he
   refine c_seq (c_any none (fun w => St w0 _ w) (by kernel_rfl) (by kernel_rfl) h.drew fun w h => ?_)
   refine cur_pure rfl rfl rfl rfl (fun _ => h) (fun _ => flt_v rfl (q_moveS rfl)) ?_; refine cur_pure rfl rfl rfl rfl (fun _ => h) (fun _ => flt_v rfl (q_moveI rfl)) ?_
   refine cur_pure rfl rfl rfl rfl (fun _ => h) (fun _ => flt_v rfl (q_idx (b := bs_) (o := o) (m := vs.length) (c := c) (o' := o + i) (by rw [← hsl]; rfl) rfl rfl hlt (by simp))) ?_
   refine cur_float rfl rfl rfl rfl h (fun _ h => flt_v rfl (q_loadc (v := .int .u64 now) rfl ((hsl ▸ hrd h).cell (u64V_get hg)))) ?_
   refine cur_pure rfl rfl rfl rfl (fun _ => h) (fun _ => flt_v rfl (q_moveS rfl)) ?_; refine cur_pure rfl rfl rfl rfl (fun _ => h) (fun _ => flt_v rfl (q_moveI rfl)) ?_
   refine cur_pure rfl rfl rfl rfl (fun _ => h) (fun _ => flt_v rfl (q_is (v' := .int .i64 ((i - 1 : Nat) : Int)) (q_sub rfl rfl) (by rw [wrap64 (by omega) (by omega)]; congr 1; omega))) ?_
   refine cur_pure rfl rfl rfl rfl (fun _ => h) (fun _ => flt_v rfl (q_idx (b := bs_) (o := o) (m := vs.length) (c := c) (o' := o + (i - 1)) (by rw [← hsl]; rfl) rfl rfl (by omega) (by simp))) ?_
   refine cur_float rfl rfl rfl rfl h (fun _ h => flt_v rfl (q_loadc (v := .int .u64 was) rfl ((hsl ▸ hrd h).cell (u64V_get hg1)))) ?_
   refine cur_pure rfl rfl rfl rfl (fun _ => h) (fun _ => flt_v rfl (q_is (v' := .int .u64 ((now ^^^ was : Nat) : Int)) (q_xor rfl rfl) (by rw [(bit_u64 hnow hwas).2.2]))) ?_
   refine cur_pure rfl rfl rfl rfl (fun _ => h) (fun _ => flt_v rfl (q_assignI rfl)) ?_
   refine cur_end ?_
   generalize now ^^^ was = x at hx he
   refine c_seq (c_seq (c_region ?_))
   refine r_v (q_moveI rfl) rfl ?_; refine r_v (q_eql rfl rfl) rfl ?_
   by_cases hx0 : x = 0
   ·refine r_is (.bool true) (by rw [hx0]; rfl) ?_
    refine r_nil (c_true rfl ?_)
    rw [if_pos hx0] at he
    refine c_seq (c_region ?_)
    refine r_v (q_moveP rfl) rfl ?_
    refine r_c rfl (x_call rfl (rw_Put 0 1 (by decide) (by omega) h) ?_)
    rintro _ w ⟨rfl, h⟩
    refine r_nil ?_
    refine c_exit ⟨(win, out ++ bitsOf 0 (heldN 1)), ⟨rfl, rfl, rfl, rfl, rfl, rfl, trivial⟩, hwo, ?_, h⟩
    rw [← he, List.append_assoc]; rfl
   refine r_is (.bool false) (by congr 1; rw [beq_eq_false_iff_ne]; omega) ?_
   refine r_nil (c_false rfl (c_skip ?_))
   rw [if_neg hx0] at he
   obtain ⟨l1, l2, l3, l4⟩ := winOf_long hx0 hx
   refine c_seq (c_region ?_)
   refine r_v (q_moveP rfl) rfl ?_
   refine r_c rfl (x_call rfl (rw_Put 1 1 (by decide) (by omega) h) ?_)
   rintro _ w ⟨rfl, h⟩
   refine r_nil ?_
   have hl1 : (out ++ bitsOf 1 (heldN 1)).length = out.length + 1 := by rw [List.length_append]; rfl
   refine c_seq (c_cut (Γ := Bool) (fun k => [(0, .pointer (some ⟨p, 0, none⟩)), (1, .slice sl vs.length c), (4, .bool win.is), (5, .int .i64 win.lead), (6, .int .i64 win.trail), (7, .int .i64 i), (8, .int .u64 x), (50, .bool k)])
    (fun k w => k = win.fits x ∧ St w0 (IsRW p (out ++ bitsOf 1 (heldN 1)) :: l) w) ?_ ?_)
   ·refine c_region ?_
    have hfit : win.fits x = (win.is && decide (win.lead ≤ (winOf x).lead) && decide (win.trail ≤ (winOf x).trail)) := rfl
    cases hi : win.is with
    | false =>
     refine r_v (q_moveB rfl) rfl ?_; refine r_v (q_moveB rfl) rfl ?_; refine r_gn rfl rfl rfl ?_; refine r_gn rfl rfl rfl ?_; refine r_gn rfl rfl rfl ?_; refine r_gn rfl rfl rfl ?_; refine r_v (q_pick0 rfl rfl rfl) rfl ?_; refine r_v (q_moveB rfl) rfl ?_; refine r_gn rfl rfl rfl ?_; refine r_gn rfl rfl rfl ?_; refine r_gn rfl rfl rfl ?_; refine r_gn rfl rfl rfl ?_; refine r_v (q_pick0 rfl rfl rfl) rfl ?_
     exact r_nil ⟨false, ⟨rfl, rfl, rfl, rfl, rfl, rfl, rfl, rfl, trivial⟩, by rw [hfit, hi]; rfl, h⟩
    | true =>
     refine r_v (q_moveB rfl) rfl ?_; refine r_v (q_moveB rfl) rfl ?_; refine r_gd rfl rfl ?_; refine r_v (q_moveI rfl) rfl ?_; refine r_gd rfl rfl ?_
     refine r_c rfl (x_call rfl (ref4_ahead hx h) ?_)
     rintro _ w ⟨rfl, h⟩
     refine r_gd rfl rfl ?_; refine r_v (q_moveI rfl) rfl ?_; refine r_gd rfl rfl ?_; refine r_v (q_geq rfl rfl) rfl ?_; refine r_v (q_pick1 rfl rfl rfl) rfl ?_
     by_cases h1 : win.lead ≤ (winOf x).lead
     ·refine r_is (.bool true) (by congr 1; rw [decide_eq_true_eq]; omega) ?_
      refine r_v (q_moveB rfl) rfl ?_; refine r_gd rfl rfl ?_; refine r_v (q_moveI rfl) rfl ?_; refine r_gd rfl rfl ?_
      refine r_c rfl (x_call rfl (ref4_behind hx0 hx h) ?_)
      rintro _ w ⟨rfl, h⟩
      refine r_gd rfl rfl ?_; refine r_v (q_moveI rfl) rfl ?_; refine r_gd rfl rfl ?_; refine r_v (q_geq rfl rfl) rfl ?_; refine r_v (q_pick1 rfl rfl rfl) rfl ?_
      refine r_nil ⟨decide (win.trail ≤ (winOf x).trail), ⟨rfl, rfl, rfl, rfl, rfl, rfl, rfl, ?_, trivial⟩, by rw [hfit, hi, decide_eq_true h1]; rfl, h⟩
      show Value.bool _ = _
      congr 1
      rw [decide_eq_decide]
      show (tz x : Int) ≥ _ ↔ win.trail ≤ tz x
      omega
     ·refine r_is (.bool false) (by congr 1; rw [decide_eq_false_iff_not]; omega) ?_
      refine r_v (q_moveB rfl) rfl ?_; refine r_gn rfl rfl rfl ?_; refine r_gn rfl rfl rfl ?_; refine r_gn rfl rfl rfl ?_; refine r_gn rfl rfl rfl ?_; refine r_v (q_pick0 rfl rfl rfl) rfl ?_
      exact r_nil ⟨false, ⟨rfl, rfl, rfl, rfl, rfl, rfl, rfl, rfl, trivial⟩, by rw [hfit, hi, decide_eq_false h1]; rfl, h⟩
   clear h
   rintro k w e ⟨hk, h⟩
   have hw1 := hwo
   unfold WinOk at hw1
   refine c_cond k rfl (fun hc => ?_) (fun hc => ?_)
   ·
    rw [if_pos (by rw [← hk]; exact hc)] at he
    refine c_seq (c_region ?_)
    refine r_v (q_moveP rfl) rfl ?_
    refine r_c rfl (x_call rfl (rw_Put 0 1 (by decide) (by omega) h) ?_)
    rintro _ w ⟨rfl, h⟩
    refine r_nil ?_
    refine c_seq (c_region ?_)
    refine r_v (q_moveP rfl) rfl ?_; refine r_v (q_moveI rfl) rfl ?_; refine r_v (q_moveI rfl) rfl ?_; refine r_v (q_conv rfl) rfl ?_
    refine r_is (.int .u64 (win.trail : Int)) (by rw [wrap_u64, Nat.mod_eq_of_lt (by omega)]) ?_
    refine r_v (q_is (v' := .int .u64 ((x / 2 ^ win.trail : Nat) : Int)) (q_shr rfl rfl (by omega)) (congrArg (Value.int .u64) (fdiv_nat x win.trail _ (show win.trail ≤ 64 by omega)))) rfl ?_
    refine r_v (q_moveI rfl) rfl ?_; refine r_v (q_sub rfl rfl) rfl ?_
    refine r_is (.int .i64 ((64 - win.lead : Nat) : Int)) (by rw [wrap64 (by omega) (by omega)]; congr 1; omega) ?_
    refine r_v (q_moveI rfl) rfl ?_; refine r_v (q_sub rfl rfl) rfl ?_
    refine r_is (.int .i64 ((win.long : Nat) : Int)) (by unfold Win.long; rw [wrap64 (by omega) (by omega)]; congr 1; omega) ?_
    refine r_c rfl (x_call rfl (rw_Put (x / 2 ^ win.trail) win.long (Nat.lt_of_le_of_lt (Nat.div_le_self _ _) hx) (by rw [List.length_append, hl1, bitsOf_len, show heldN 1 = 1 from rfl]; omega) h) ?_)
    rintro _ w ⟨rfl, h⟩
    refine r_nil ?_
    refine c_exit ⟨(win, _), ⟨rfl, rfl, rfl, rfl, rfl, rfl, trivial⟩, hwo, ?_, h⟩
    rw [heldN_nat (win_long_le win), ← he]
    simp only [List.append_assoc]
    rfl
   rw [if_neg (by rw [← hk, hc]; simp)] at he
   refine c_skip ?_
   refine c_seq (c_region ?_)
   refine r_v (q_moveI rfl) rfl ?_
   refine r_c rfl (x_call rfl (ref4_ahead hx h) ?_)
   rintro _ w ⟨rfl, h⟩
   refine r_v (q_moveI rfl) rfl ?_
   refine r_c rfl (x_call rfl (ref4_behind hx0 hx h) ?_)
   rintro _ w ⟨rfl, h⟩
   replace l1 : (winOf x).lead + tz x + (winOf x).long = 64 := l1
   refine r_v (q_assignB rfl) rfl ?_; refine r_v (q_assignI rfl) rfl ?_; refine r_v (q_assignI rfl) rfl ?_
   refine r_nil ?_
   refine c_seq (c_region ?_)
   refine r_v (q_moveP rfl) rfl ?_
   refine r_c rfl (x_call rfl (rw_Put 1 1 (by decide) (by omega) h) ?_)
   rintro _ w ⟨rfl, h⟩
   have hl2 : (out ++ bitsOf 1 (heldN 1) ++ bitsOf 1 (heldN 1)).length = out.length + 2 := by rw [List.length_append, hl1]; rfl
   refine r_nil ?_
   refine c_seq (c_region ?_)
   refine r_v (q_moveP rfl) rfl ?_; refine r_v (q_moveI rfl) rfl ?_; refine r_v (q_conv rfl) rfl ?_
   refine r_is (.int .u64 ((winOf x).lead : Int)) (by rw [wrap_u64, Nat.mod_eq_of_lt (by omega)]) ?_
   refine r_c rfl (x_call rfl (rw_Put (winOf x).lead 5 (by omega) (by omega) h) ?_)
   rintro _ w ⟨rfl, h⟩
   refine r_nil ?_
   refine c_seq (c_region ?_)
   refine r_v (q_moveP rfl) rfl ?_; refine r_v (q_moveI rfl) rfl ?_; refine r_v (q_sub rfl rfl) rfl ?_
   refine r_is (.int .i64 ((63 - (winOf x).lead : Nat) : Int)) (by rw [wrap64 (by omega) (by omega)]; congr 1; omega) ?_
   refine r_v (q_moveI rfl) rfl ?_; refine r_v (q_sub rfl rfl) rfl ?_
   refine r_is (.int .i64 (((winOf x).long - 1 : Nat) : Int)) (by rw [wrap64 (by omega) (by omega)]; congr 1; omega) ?_
   refine r_v (q_conv rfl) rfl ?_
   refine r_is (.int .u64 (((winOf x).long - 1 : Nat) : Int)) (by rw [wrap_u64, Nat.mod_eq_of_lt (by omega)]) ?_
   refine r_c rfl (x_call rfl (rw_Put ((winOf x).long - 1) 6 (by omega) (by rw [List.length_append, hl2, bitsOf_len, show heldN 5 = 5 from rfl]; omega) h) ?_)
   rintro _ w ⟨rfl, h⟩
   refine r_nil ?_
   refine c_region ?_
   refine r_v (q_moveP rfl) rfl ?_; refine r_v (q_moveI rfl) rfl ?_; refine r_v (q_moveI rfl) rfl ?_; refine r_v (q_conv rfl) rfl ?_
   refine r_is (.int .u64 (tz x : Int)) (by rw [wrap_u64, Nat.mod_eq_of_lt (by omega)]) ?_
   refine r_v (q_is (v' := .int .u64 ((x / 2 ^ tz x : Nat) : Int)) (q_shr rfl rfl (by omega)) (congrArg (Value.int .u64) (fdiv_nat x (tz x) _ (show tz x ≤ 64 by omega)))) rfl ?_
   refine r_v (q_moveI rfl) rfl ?_; refine r_v (q_sub rfl rfl) rfl ?_
   refine r_is (.int .i64 ((64 - (winOf x).lead : Nat) : Int)) (by rw [wrap64 (by omega) (by omega)]; congr 1; omega) ?_
   refine r_v (q_moveI rfl) rfl ?_; refine r_v (q_sub rfl rfl) rfl ?_
   refine r_is (.int .i64 (((winOf x).long : Nat) : Int)) (by rw [wrap64 (by omega) (by omega)]; congr 1; omega) ?_
   refine r_c rfl (x_call rfl (rw_Put (x / 2 ^ tz x) (winOf x).long (Nat.lt_of_le_of_lt (Nat.div_le_self _ _) hx) (by rw [List.length_append, List.length_append, hl2, bitsOf_len, bitsOf_len, show heldN 5 = 5 from rfl, show heldN 6 = 6 from rfl]; omega) h) ?_)
   rintro _ w ⟨rfl, h⟩
   refine r_nil ⟨(winOf x, _), ⟨rfl, rfl, rfl, rfl, rfl, rfl, trivial⟩, winOk_of hx0 hx, ?_, h⟩
   rw [heldN_nat (by omega), ← he]
   simp only [List.append_assoc]
   rfl
  clear h
  rintro ⟨win, out⟩ w e ⟨hwo, he, h⟩
  dsimp only at hwo he h ⊢
  refine c_region ?_
  refine r_v (q_moveI rfl) rfl ?_; refine r_v (q_add rfl rfl) rfl ?_
  refine r_is (.int .i64 ((i + 1 : Nat) : Int)) (by rw [wrap64 (by omega) (by omega)]; rfl) ?_
  refine r_v (q_assignI rfl) rfl ?_
  refine r_nil ⟨(i + 1, win, out), ⟨rfl, rfl, rfl, rfl, rfl, rfl, trivial⟩, ⟨hlt, hwo, (fun h => by cases h), fun _ => ?_, h⟩, by dsimp only; omega⟩
  dsimp only
  rw [Nat.add_sub_cancel, hgd]
  exact he
 have hin' : i = vs.length := by simp at hc; omega
 refine c_exit ?_
 have : out = bs ++ xorBits vs := by
  rcases Nat.eq_zero_or_pos i with h0 | h0
  ·rw [(h00 h0).2]
   have : vs = [] := List.eq_nil_of_length_eq_zero (by omega)
   rw [this]; simp [xorBits]
  ·have := hnz h0
   rw [hin', List.drop_length, xorRest, List.append_nil] at this
   exact this
 rw [← this]
 exact (show (packv [] : Value) = .tuple #[] ∧ _ from ⟨rfl, h⟩)

theorem ref4_numbers {k : Nat} (hk : k < 16) (h : St w0 l w) : Ret Tryz.prog 117 [.int .i64 k] w fun v w' => v = .int .i64 (kNum k) ∧ St w0 l w' := by
 refine enter Tryz.func117 rfl Tryz.results117 Tryz.ntmps117 rfl ?_
 refine c_seq (c_region ?_)
 refine r_v (q_assignI rfl) rfl ?_
 refine r_nil ?_
 refine c_seq (c_region ?_)
 refine r_v (q_abuild (m := 16) (r := intsV numsL) (by kernel_rfl)) rfl ?_
 refine r_c rfl (x_alloc h fun b w h => ?_)
 refine r_c rfl (x_storeA (vs := intsV numsL) 0 h rfl rfl rfl rfl rfl rfl rfl fun w h => ?_)
 replace h : St w0 (pt b (.cells (intsV numsL).toArray 166 (0, 0)) :: l) w := h
 refine r_nil ?_
 refine c_seq (c_region ?_)
 refine r_v (q_moveI rfl) rfl ?_
 refine r_v (q_aidx (m := 16) (o' := k) rfl rfl rfl hk (by simp)) rfl ?_
 refine r_v (q_load (v := .int .i64 (kNum k)) rfl (h.b 0 rfl) (intsV_get (numsL_get k hk))) rfl ?_
 refine r_v (q_assignI rfl) rfl ?_
 exact r_nil (c_ret (bq1 ⟨rfl, h.drop⟩))
theorem ref4_bits {k : Nat} (hk : k < 16) (h : St w0 l w) : Ret Tryz.prog 118 [.int .i64 k] w fun v w' => v = .int .i64 (kBit k) ∧ St w0 l w' := by
 refine enter Tryz.func118 rfl Tryz.results118 Tryz.ntmps118 rfl ?_
 refine c_seq (c_region ?_)
 refine r_v (q_assignI rfl) rfl ?_
 refine r_nil ?_
 refine c_seq (c_region ?_)
 refine r_v (q_abuild (m := 16) (r := intsV bitsL) (by kernel_rfl)) rfl ?_
 refine r_c rfl (x_alloc h fun b w h => ?_)
 refine r_c rfl (x_storeA (vs := intsV bitsL) 0 h rfl rfl rfl rfl rfl rfl rfl fun w h => ?_)
 replace h : St w0 (pt b (.cells (intsV bitsL).toArray 166 (0, 0)) :: l) w := h
 refine r_nil ?_
 refine c_seq (c_region ?_)
 refine r_v (q_moveI rfl) rfl ?_
 refine r_v (q_aidx (m := 16) (o' := k) rfl rfl rfl hk (by simp)) rfl ?_
 refine r_v (q_load (v := .int .i64 (kBit k)) rfl (h.b 0 rfl) (intsV_get (bitsL_get k hk))) rfl ?_
 refine r_v (q_assignI rfl) rfl ?_
 exact r_nil (c_ret (bq1 ⟨rfl, h.drop⟩))

theorem ref4_fits {k : Nat} (hk : k < 16) {sl : Option Addr} {c : Nat} {u : List Nat} (hu : ∀ x ∈ u, x < 18446744073709551616) (hn : u.length ≤ 65535) (hr : Reads w0 l 1 sl u.length (u64V u)) (h : St w0 l w) :
  Ret Tryz.prog 116 [.slice sl u.length c, .int .i64 k] w fun v w' => v = .bool (fitsK (kNum k, kBit k) u).isSome ∧ St w0 l w' := by
 obtain ⟨k1, k2, k3, _⟩ := kinds_le k hk
 have k4 := kinds_two k hk
 refine enter Tryz.func116 rfl Tryz.results116 Tryz.ntmps116 rfl ?_
 refine c_seq (c_region ?_)
 refine r_v (q_assignB rfl) rfl ?_
 refine r_nil ?_
 refine c_cut (Γ := Unit) (fun _ => [(0, .slice sl u.length c), (1, .int .i64 k)]) (fun _ w => ¬ (kBit k = 0 ∧ u.length < kNum k) ∧ St w0 l w) ?_ ?_
 ·refine c_seq (c_region ?_)
  refine r_v (q_moveI rfl) rfl ?_; refine r_v (q_lss rfl rfl) rfl ?_
  by_cases h2 : k < 2
  ·refine r_is (.bool true) (by simp; omega) ?_
   refine r_v (q_moveB rfl) rfl ?_; refine r_gd rfl rfl ?_; refine r_v (q_moveS rfl) rfl ?_; refine r_gd rfl rfl ?_; refine r_v (q_len rfl) rfl ?_; refine r_gd rfl rfl ?_; refine r_v (q_moveI rfl) rfl ?_; refine r_gd rfl rfl ?_
   refine r_c rfl (x_call rfl (ref4_numbers hk h) ?_)
   rintro _ w ⟨rfl, h⟩
   refine r_gd rfl rfl ?_; refine r_v (q_lss rfl rfl) rfl ?_; refine r_v (q_pick1 rfl rfl rfl) rfl ?_
   by_cases h3 : u.length < kNum k
   ·refine r_is (.bool true) (by simp; omega) ?_
    refine r_nil (c_true rfl ?_)
    refine c_seq (c_region ?_)
    refine r_v (q_assignB rfl) rfl ?_
    refine r_nil (c_ret (bq1 ⟨?_, h⟩))
    unfold fitsK
    rw [if_pos ⟨k4.1 h2, h3⟩]; rfl
   ·refine r_is (.bool false) (by simp; omega) ?_
    refine r_nil (c_false rfl (c_skip ⟨(), ⟨rfl, rfl, trivial⟩, fun hh => h3 hh.2, h⟩))
  ·refine r_is (.bool false) (by simp; omega) ?_
   refine r_v (q_moveB rfl) rfl ?_; refine r_gn rfl rfl rfl ?_; refine r_gn rfl rfl rfl ?_; refine r_gn rfl rfl rfl ?_; refine r_gn rfl rfl rfl ?_; refine r_gn rfl rfl rfl ?_; refine r_v (q_pick0 rfl rfl rfl) rfl ?_
   refine r_nil (c_false rfl (c_skip ⟨(), ⟨rfl, rfl, trivial⟩, fun hh => h2 (k4.2 hh.1), h⟩))
 clear h
 rintro ⟨⟩ w e ⟨hno, h⟩
 have hfit : fitsK (kNum k, kBit k) u = if (u.take (kNum k)).all (fun x => decide (len64 x ≤ kBit k)) = true then some (min u.length (kNum k)) else none := by
  unfold fitsK
  rw [if_neg hno]
 refine c_cut (Γ := Unit) (fun _ => []) (fun _ w => (fitsK (kNum k, kBit k) u).isSome = true ∧ St w0 l w) ?_ ?_
 ·refine c_seq (c_region ?_)
  refine r_v (q_assignI rfl) rfl ?_
  refine r_nil ?_
  refine c_block ?_
  refine c_loop (Γ := Nat) (fun j => [(0, .slice sl u.length c), (1, .int .i64 k), (5, .int .i64 j)]) (fun j w => j ≤ u.length ∧ j ≤ kNum k ∧ (u.take j).all (fun x => decide (len64 x ≤ kBit k)) = true ∧ St w0 l w) (fun j => u.length - j) 0 ⟨rfl, rfl, rfl, trivial⟩ ⟨Nat.zero_le _, Nat.zero_le _, rfl, h⟩ ?_
  clear h
  rintro j w e ⟨hj, hj2, hall, h⟩
  refine c_seq (c_seq (c_region ?_))
  refine r_v (q_moveI rfl) rfl ?_; refine r_v (q_moveS rfl) rfl ?_; refine r_v (q_len rfl) rfl ?_; refine r_v (q_lss rfl rfl) rfl ?_
  by_cases hlt : j < u.length
  ·refine r_is (.bool true) (by simp; omega) ?_
   refine r_v (q_moveB rfl) rfl ?_; refine r_gd rfl rfl ?_; refine r_v (q_moveI rfl) rfl ?_; refine r_gd rfl rfl ?_; refine r_v (q_moveI rfl) rfl ?_; refine r_gd rfl rfl ?_
   refine r_c rfl (x_call rfl (ref4_numbers hk h) ?_)
   rintro _ w ⟨rfl, h⟩
   refine r_gd rfl rfl ?_; refine r_v (q_lss rfl rfl) rfl ?_; refine r_v (q_pick1 rfl rfl rfl) rfl ?_
   by_cases hlk : j < kNum k
   ·refine r_is (.bool true) (by simp; omega) ?_
    refine r_nil (c_true rfl (c_skip ?_))
    have hg := List.getElem?_eq_getElem hlt
    generalize u[j] = x at hg
    have hx := hu x (List.mem_of_getElem? hg)
    obtain ⟨b, o, hsl⟩ := (hr.at_ h).some (by omega)
    refine c_seq (c_block ?_)
    refine c_seq (c_any none (fun w => St w0 l w) (by kernel_rfl) (by kernel_rfl) h.drew fun w h => ?_)
    refine cur_pure rfl rfl rfl rfl (fun _ => h) (fun _ => flt_v rfl (q_moveS rfl)) ?_; refine cur_pure rfl rfl rfl rfl (fun _ => h) (fun _ => flt_v rfl (q_moveI rfl)) ?_
    refine cur_pure rfl rfl rfl rfl (fun _ => h) (fun _ => flt_v rfl (q_idx (b := b) (o := o) (m := u.length) (c := c) (o' := o + j) (by rw [← hsl]; rfl) rfl rfl hlt (by simp))) ?_
    refine cur_float rfl rfl rfl rfl h (fun _ h => flt_v rfl (q_loadc (v := .int .u64 x) rfl ((hsl ▸ hr.at_ h).cell (u64V_get hg)))) ?_
    refine cur_pure rfl rfl rfl rfl (fun _ => h) (fun _ => flt_v rfl (q_moveI rfl)) ?_; refine cur_skip ?_; refine cur_skip ?_; refine cur_skip ?_; refine cur_skip ?_
    refine cur_one 5 rfl rfl rfl rfl ?_
    refine (x_call rfl (ref4_bits hk h) ?_)
    rintro _ w ⟨rfl, h⟩
    refine ⟨fun _ => h, ?_⟩
    refine cur_pure rfl rfl rfl rfl (fun _ => h) (fun _ => flt_v rfl (q_is (v' := .int .u64 (kBit k : Int)) (q_conv rfl) (by rw [wrap_u64, Nat.mod_eq_of_lt (by omega)]))) ?_
    refine cur_pure rfl rfl rfl rfl (fun _ => h) (fun _ => flt_v rfl (q_is (v' := .int .u64 ((x / 2 ^ kBit k : Nat) : Int)) (q_shr rfl rfl (by omega)) (congrArg (Value.int .u64) (fdiv_nat x (kBit k) _ (show kBit k ≤ 64 by omega))))) ?_
    refine cur_pure rfl rfl rfl rfl (fun _ => h) (fun _ => flt_v rfl (q_neq rfl rfl)) ?_
    refine cur_end ?_
    refine c_cond (((x / 2 ^ kBit k : Nat) : Int) != 0) rfl (fun hc => ?_) (fun hc => ?_)
    ·have hb : ¬ len64 x ≤ kBit k := fun hh => by rw [le_lead.2 hh] at hc; simp at hc
     refine c_seq (c_region ?_)
     refine r_v (q_assignB rfl) rfl ?_
     refine r_nil (c_ret (bq1 ⟨?_, h⟩))
     rw [hfit, if_neg]
     ·rfl
     ·intro hh
      rw [List.all_eq_true] at hh
      have hm : x ∈ u.take (kNum k) := by
       have : (u.take (kNum k))[j]? = some x := by rw [List.getElem?_take, if_pos hlk, hg]
       exact List.mem_of_getElem? this
      exact hb (by simpa using hh x hm)
    ·have hb : len64 x ≤ kBit k := le_lead.1 (by rw [bne_eq_false_iff_eq] at hc; omega)
     refine c_skip ?_
     refine c_region ?_
     refine r_v (q_moveI rfl) rfl ?_; refine r_v (q_add rfl rfl) rfl ?_
     refine r_is (.int .i64 ((j + 1 : Nat) : Int)) (by rw [wrap64 (by omega) (by omega)]; rfl) ?_
     refine r_v (q_assignI rfl) rfl ?_
     exact r_nil ⟨j + 1, ⟨rfl, rfl, rfl, trivial⟩, ⟨hlt, hlk, all_take_succ _ hg hall (by simpa using hb), h⟩, by omega⟩
   ·refine r_is (.bool false) (by simp; omega) ?_
    obtain rfl : j = kNum k := by omega
    refine r_nil (c_false rfl (c_exit ⟨(), trivial, ?_, h⟩))
    rw [hfit, if_pos hall]; rfl
  ·refine r_is (.bool false) (by simp; omega) ?_
   refine r_v (q_moveB rfl) rfl ?_; refine r_gn rfl rfl rfl ?_; refine r_gn rfl rfl rfl ?_; refine r_gn rfl rfl rfl ?_; refine r_gn rfl rfl rfl ?_; refine r_v (q_pick0 rfl rfl rfl) rfl ?_
   refine r_nil (c_false rfl (c_exit ⟨(), trivial, ?_, h⟩))
   rw [hfit, if_pos]
   ·rfl
   ·rw [List.take_of_length_le (by omega)] at hall ⊢; exact hall
 clear h
 rintro ⟨⟩ w e ⟨hs, h⟩
 rw [hs]
 refine c_seq (c_region ?_)
 refine r_v (q_assignB rfl) rfl ?_
 exact r_nil (c_ret (bq1 ⟨rfl, h⟩))

theorem ref4_width {x : Nat} (hx : x < 18446744073709551616) (h : St w0 l w) : Ret Tryz.prog 120 [.int .u64 x] w fun v w' => v = .int .i64 (len64 x) ∧ St w0 l w' := by
 have h64 := len64_64 hx
 refine enter Tryz.func120 rfl Tryz.results120 Tryz.ntmps120 rfl ?_
 refine c_seq (c_region ?_)
 refine r_v (q_assignI rfl) rfl ?_
 refine r_nil ?_
 refine c_seq (c_region ?_)
 refine r_v (q_assignI rfl) rfl ?_
 refine r_nil ?_
 refine c_cut (Γ := Unit) (fun _ => [(3, .int .i64 (len64 x : Nat))]) (fun _ w => St w0 l w) ?_ ?_
 ·refine c_block ?_
  refine c_loop (Γ := Nat) (fun k => [(0, .int .u64 x), (3, .int .i64 k)]) (fun k w => k ≤ len64 x ∧ St w0 l w) (fun k => 64 - k) 0 ⟨rfl, rfl, trivial⟩ ⟨Nat.zero_le _, h⟩ ?_
  clear h
  rintro n w e ⟨hn, h⟩
  refine c_seq (c_seq (c_region ?_))
  refine r_v (q_moveI rfl) rfl ?_; refine r_v (q_lss rfl rfl) rfl ?_
  by_cases hl : n < 64
  ·refine r_is (.bool true) (by simp; omega) ?_
   refine r_v (q_moveB rfl) rfl ?_; refine r_gd rfl rfl ?_; refine r_v (q_moveI rfl) rfl ?_; refine r_gd rfl rfl ?_; refine r_v (q_moveI rfl) rfl ?_; refine r_gd rfl rfl ?_; refine r_v (q_conv rfl) rfl ?_
   refine r_is (.int .u64 (n : Int)) (by rw [wrap_u64, Nat.mod_eq_of_lt (by omega)]) ?_
   refine r_gd rfl rfl ?_
   refine r_v (q_is (v' := .int .u64 ((x / 2 ^ n : Nat) : Int)) (q_shr rfl rfl (by omega)) (congrArg (Value.int .u64) (fdiv_nat x n _ (show n ≤ 64 by omega)))) rfl ?_
   refine r_gd rfl rfl ?_; refine r_v (q_neq rfl rfl) rfl ?_; refine r_v (q_pick1 rfl rfl rfl) rfl ?_
   by_cases h0 : x / 2 ^ n = 0
   ·refine r_is (.bool false) (by rw [h0]; rfl) ?_
    have := le_lead.1 h0
    obtain rfl : n = len64 x := by omega
    exact r_nil (c_false rfl (c_exit ⟨(), ⟨rfl, trivial⟩, h⟩))
   ·refine r_is (.bool true) (by congr 1; rw [bne_iff_ne]; omega) ?_
    have : ¬ len64 x ≤ n := fun hh => h0 (le_lead.2 hh)
    refine r_nil (c_true rfl (c_skip ?_))
    refine c_block ?_
    refine c_region ?_
    refine r_v (q_moveI rfl) rfl ?_; refine r_v (q_add rfl rfl) rfl ?_
    refine r_is (.int .i64 ((n + 1 : Nat) : Int)) (by rw [wrap64 (by omega) (by omega)]; rfl) ?_
    refine r_v (q_assignI rfl) rfl ?_
    exact r_nil ⟨n + 1, ⟨rfl, rfl, trivial⟩, ⟨by omega, h⟩, by omega⟩
  ·refine r_is (.bool false) (by simp; omega) ?_
   refine r_v (q_moveB rfl) rfl ?_; refine r_gn rfl rfl rfl ?_; refine r_gn rfl rfl rfl ?_; refine r_gn rfl rfl rfl ?_; refine r_gn rfl rfl rfl ?_; refine r_gn rfl rfl rfl ?_; refine r_v (q_pick0 rfl rfl rfl) rfl ?_
   obtain rfl : n = len64 x := by omega
   exact r_nil (c_false rfl (c_exit ⟨(), ⟨rfl, trivial⟩, h⟩))
 clear h
 rintro ⟨⟩ w e h
 refine c_seq (c_region ?_)
 refine r_v (q_moveI rfl) rfl ?_; refine r_v (q_assignI rfl) rfl ?_
 exact r_nil (c_ret (bq1 ⟨rfl, h⟩))
theorem ref4_place {sl : Option Addr} {c : Nat} {m : List Nat} (v : Nat) (hn : m.length ≤ 65535) (hr : Reads w0 l 1 sl m.length (u64V m)) (h : St w0 l w) :
  Ret Tryz.prog 121 [.slice sl m.length c, .int .u64 v] w fun r w' => r = .int .i64 (if v ∈ m then ((m.idxOf v : Nat) : Int) else -1) ∧ St w0 l w' := by
 refine enter Tryz.func121 rfl Tryz.results121 Tryz.ntmps121 rfl ?_
 refine c_seq (c_region ?_)
 refine r_v (q_assignI rfl) rfl ?_
 refine r_nil ?_
 refine c_cut (Γ := Unit) (fun _ => []) (fun _ w => v ∉ m ∧ St w0 l w) ?_ ?_
 ·refine c_seq (c_region ?_)
  refine r_v (q_assignI rfl) rfl ?_
  refine r_nil ?_
  refine c_block ?_
  refine c_loop (Γ := Nat) (fun k => [(0, .slice sl m.length c), (1, .int .u64 v), (5, .int .i64 k)]) (fun k w => k ≤ m.length ∧ v ∉ m.take k ∧ St w0 l w) (fun k => m.length - k) 0 ⟨rfl, rfl, rfl, trivial⟩ ⟨Nat.zero_le _, by simp, h⟩ ?_
  clear h
  rintro k w e ⟨hk, hno, h⟩
  refine c_seq (c_seq (c_region ?_))
  refine r_v (q_moveI rfl) rfl ?_; refine r_v (q_moveS rfl) rfl ?_; refine r_v (q_len rfl) rfl ?_; refine r_v (q_lss rfl rfl) rfl ?_
  refine r_nil ?_
  refine c_cond (decide ((k : Int) < (m.length : Int))) rfl (fun hc => ?_) (fun hc => ?_)
  ·have hlt : k < m.length := by simp at hc; omega
   have hg := List.getElem?_eq_getElem hlt
   have hdr := List.drop_eq_getElem_cons hlt
   generalize m[k] = x at hg hdr
   obtain ⟨b, o, hsl⟩ := (hr.at_ h).some (by omega)
   refine c_skip ?_
   refine c_seq (c_block ?_)
   refine c_seq (c_region ?_)
   refine r_v (q_moveS rfl) rfl ?_; refine r_v (q_moveI rfl) rfl ?_
   refine r_v (q_idx (b := b) (o := o) (m := m.length) (c := c) (o' := o + k) (by rw [← hsl]; rfl) rfl rfl hlt (by simp)) rfl ?_
   refine r_v (q_loadc (v := .int .u64 x) rfl ((hsl ▸ hr.at_ h).cell (u64V_get hg))) rfl ?_
   refine r_v (q_moveI rfl) rfl ?_; refine r_v (q_eql rfl rfl) rfl ?_
   by_cases hx : x = v
   ·refine r_is (.bool true) (by rw [hx]; simp) ?_
    refine r_nil (c_true rfl ?_)
    refine c_seq (c_region ?_)
    refine r_v (q_moveI rfl) rfl ?_; refine r_v (q_assignI rfl) rfl ?_
    refine r_nil (c_ret (bq1 ⟨?_, h⟩))
    have hsp : m = m.take k ++ (x :: m.drop (k + 1)) := by rw [← hdr, List.take_append_drop]
    have hmem : v ∈ m := by rw [hsp, hx]; simp
    have hidx : m.idxOf v = k := by
     rw [hsp, List.idxOf_append, if_neg hno, hx, List.idxOf_cons_self, List.length_take]
     omega
    rw [if_pos hmem, hidx]
    rfl
   ·refine r_is (.bool false) (by congr 1; rw [beq_eq_false_iff_ne]; omega) ?_
    refine r_nil (c_false rfl (c_skip ?_))
    refine c_region ?_
    refine r_v (q_moveI rfl) rfl ?_; refine r_v (q_add rfl rfl) rfl ?_
    refine r_is (.int .i64 ((k + 1 : Nat) : Int)) (by rw [wrap64 (by omega) (by omega)]; rfl) ?_
    refine r_v (q_assignI rfl) rfl ?_
    refine r_nil ⟨k + 1, ⟨rfl, rfl, rfl, trivial⟩, ⟨hlt, ?_, h⟩, by omega⟩
    rw [List.take_add_one, hg]
    simp only [List.mem_append, not_or]
    exact ⟨hno, by simpa using fun hh => hx hh.symm⟩
  ·obtain rfl : k = m.length := by simp at hc; omega
   rw [List.take_length] at hno
   exact c_exit ⟨(), trivial, hno, h⟩
 clear h
 rintro ⟨⟩ w e ⟨hno, h⟩
 rw [if_neg hno]
 refine c_seq (c_region ?_)
 refine r_v (q_assignI rfl) rfl ?_
 exact r_nil (c_ret (bq1 ⟨rfl, h⟩))
end
end Go.Proofs.YtjjacchnalemaaaGreatDoor

namespace Go.Proofs.YtjjacchnalemaaaGreatDoor
open Go.Hw
set_option maxHeartbeats 4000000
set_option maxRecDepth 100000
section
variable {w0 w : World} {l : List HProp}
theorem ref4_Simple {sl : Option Addr} {c : Nat} {u : List Nat} (hu : ∀ x ∈ u, x < 18446744073709551616) (hn : u.length ≤ 65535) (hcl : u.length ≤ c) (hr : Reads w0 l 1 sl u.length (u64V u)) (h : St w0 l w) :
  Ret Tryz.prog 74 [.slice sl u.length c] w fun v w' => ∃ a c', v = .tuple [.slice a ((simpEnc u).getD []).length c', .bool (simpEnc u).isSome].toArray ∧ St w0 (OwnU a c' ((simpEnc u).getD []) :: l) w' := by
 refine enter Tryz.func74 rfl Tryz.results74 Tryz.ntmps74 rfl ?_
 refine c_seq (c_region ?_)
 refine r_v (q_assignS rfl) rfl ?_; refine r_v (q_assignB rfl) rfl ?_
 refine r_nil ?_
 refine c_seq (c_region ?_)
 refine r_v (q_assignS rfl) rfl ?_
 refine r_nil ?_
 refine c_cut (Γ := List Nat × Option Addr × Nat) (fun q => [(4, .slice q.2.1 q.1.length q.2.2)]) (fun q w => simpEnc u = some q.1 ∧ St w0 (OwnU q.2.1 q.2.2 q.1 :: l) w) ?_ ?_
 ·refine c_seq (c_region ?_)
  refine r_v (q_assignI rfl) rfl ?_
  refine r_nil ?_
  refine c_block ?_
  refine c_loop (Γ := Nat × List Nat × Option Addr × Nat) (fun k => [(0, .slice sl u.length c), (4, .slice k.2.2.1 k.2.1.length k.2.2.2), (5, .int .i64 k.1)])
   (fun k w => k.1 ≤ u.length ∧ k.2.1.length ≤ k.1 ∧ (simpEnc (u.drop k.1)).map (fun r => k.2.1 ++ r) = simpEnc u ∧ St w0 (OwnU k.2.2.1 k.2.2.2 k.2.1 :: l) w) (fun k => u.length - k.1) (0, [], none, 0) ⟨rfl, rfl, rfl, trivial⟩ ⟨Nat.zero_le _, Nat.zero_le _, by simp, St.ownNil 51 1 h⟩ ?_
  clear h
  rintro ⟨at', out, oa, oc⟩ w e ⟨hat, hol, he, h⟩
  dsimp only at hat hol he h ⊢
  refine c_seq (c_seq (c_region ?_))
  refine r_v (q_moveI rfl) rfl ?_; refine r_v (q_moveS rfl) rfl ?_; refine r_v (q_len rfl) rfl ?_; refine r_v (q_lss rfl rfl) rfl ?_
  refine r_nil ?_
  refine c_cond (decide ((at' : Int) < (u.length : Int))) rfl (fun hc => ?_) (fun hc => ?_)
  ·have hlt : at' < u.length := by simp at hc; omega
   have hne : u.drop at' ≠ [] := fun hh => by have := congrArg List.length hh; simp at this; omega
   have hdl : (u.drop at').length = u.length - at' := List.length_drop
   have hud : ∀ x ∈ u.drop at', x < 18446744073709551616 := fun x hx => hu x (List.mem_of_mem_drop hx)
   refine c_skip ?_
   refine c_block ?_
   refine c_seq (c_region ?_)
   refine r_v (q_assignI rfl) rfl ?_
   refine r_nil ?_
   refine c_cut (Γ := Nat) (fun k => [(0, .slice sl u.length c), (4, .slice oa out.length oc), (5, .int .i64 at'), (6, .int .i64 k)])
    (fun k w => k ≤ 16 ∧ wordA k (kindsL.drop k) (u.drop at') = wordA 0 kindsL (u.drop at') ∧ (k < 16 → (fitsK (kNum k, kBit k) (u.drop at')).isSome = true) ∧ St w0 (OwnU oa oc out :: l) w) ?_ ?_
   ·refine c_block ?_
    refine c_loop (Γ := Nat) (fun k => [(0, .slice sl u.length c), (4, .slice oa out.length oc), (5, .int .i64 at'), (6, .int .i64 k)])
     (fun k w => k ≤ 16 ∧ wordA k (kindsL.drop k) (u.drop at') = wordA 0 kindsL (u.drop at') ∧ St w0 (OwnU oa oc out :: l) w) (fun k => 16 - k) 0 ⟨rfl, rfl, rfl, rfl, trivial⟩ ⟨Nat.zero_le _, rfl, h⟩ ?_
    clear h
    rintro k w e ⟨hk, hw, h⟩
    refine c_seq (c_seq (c_region ?_))
    refine r_v (q_moveI rfl) rfl ?_; refine r_v (q_lss rfl rfl) rfl ?_
    by_cases hlk : k < 16
    ·refine r_is (.bool true) (by simp; omega) ?_
     have hdr := List.drop_eq_getElem_cons (show k < kindsL.length from hlk)
     have hka := kinds_at hlk
     rw [List.getElem?_eq_getElem (show k < kindsL.length from hlk)] at hka
     rw [Option.some.inj hka] at hdr
     rw [hdr, wordA] at hw
     refine r_v (q_moveB rfl) rfl ?_; refine r_gd rfl rfl ?_; refine r_v (q_moveS rfl) rfl ?_; refine r_gd rfl rfl ?_; refine r_v (q_moveI rfl) rfl ?_; refine r_gd rfl rfl ?_
     refine r_v (q_tail (i := at') rfl rfl hat) rfl ?_
     refine r_is (.slice (adv sl (at' * 1) (Nat.beq c at')) (u.drop at').length (c - at')) (by rw [hdl]; rfl) ?_
     refine r_gd rfl rfl ?_; refine r_v (q_moveI rfl) rfl ?_; refine r_gd rfl rfl ?_
     refine r_c rfl (x_call rfl (ref4_fits hlk hud (by omega) (reads_drop hr.cons hat hcl) h) ?_)
     rintro _ w ⟨rfl, h⟩
     refine r_gd rfl rfl ?_; refine r_v (q_not rfl) rfl ?_; refine r_v (q_pick1 rfl rfl rfl) rfl ?_
     cases hf : fitsK (kNum k, kBit k) (u.drop at') with
     | none =>
      rw [hf] at hw
      refine r_nil (c_true rfl (c_skip ?_))
      refine c_block ?_
      refine c_region ?_
      refine r_v (q_moveI rfl) rfl ?_; refine r_v (q_add rfl rfl) rfl ?_
      refine r_is (.int .i64 ((k + 1 : Nat) : Int)) (by rw [wrap64 (by omega) (by omega)]; rfl) ?_
      refine r_v (q_assignI rfl) rfl ?_
      exact r_nil ⟨k + 1, ⟨rfl, rfl, rfl, rfl, trivial⟩, ⟨hlk, hw, h⟩, by omega⟩
     | some n =>
      refine r_nil (c_false rfl (c_exit ⟨k, ⟨rfl, rfl, rfl, rfl, trivial⟩, hk, ?_, fun _ => by rw [hf]; rfl, h⟩))
      rw [hdr, wordA]
      exact hw
    ·refine r_is (.bool false) (by simp; omega) ?_
     refine r_v (q_moveB rfl) rfl ?_; refine r_gn rfl rfl rfl ?_; refine r_gn rfl rfl rfl ?_; refine r_gn rfl rfl rfl ?_; refine r_gn rfl rfl rfl ?_; refine r_gn rfl rfl rfl ?_; refine r_gn rfl rfl rfl ?_; refine r_v (q_pick0 rfl rfl rfl) rfl ?_
     exact r_nil (c_false rfl (c_exit ⟨k, ⟨rfl, rfl, rfl, rfl, trivial⟩, hk, hw, fun hh => absurd hh hlk, h⟩))
   clear h
   rintro k w e ⟨hk, hw, hfit, h⟩
   refine c_seq (c_seq (c_region ?_))
   refine r_v (q_moveI rfl) rfl ?_; refine r_v (q_eql rfl rfl) rfl ?_
   by_cases h16 : k = 16
   ·refine r_is (.bool true) (by rw [h16]; rfl) ?_
    refine r_nil (c_true rfl ?_)
    refine c_seq (c_region ?_)
    refine r_v (q_assignS rfl) rfl ?_; refine r_v (q_assignB rfl) rfl ?_
    refine r_nil ?_
    rw [h16] at hw
    rw [simpEnc_none hne hw.symm] at he
    rw [← he]
    exact c_ret (bq2 ⟨none, 0, rfl, St.ownNil _ _ h.drop⟩)
   refine r_is (.bool false) (by congr 1; rw [beq_eq_false_iff_ne]; omega) ?_
   refine r_nil (c_false rfl (c_skip ?_))
   have hlk : k < 16 := by omega
   obtain ⟨k1, k2, k3, k60⟩ := kinds_le k hlk
   have hdr := List.drop_eq_getElem_cons (show k < kindsL.length from hlk)
   have hka := kinds_at hlk
   rw [List.getElem?_eq_getElem (show k < kindsL.length from hlk)] at hka
   rw [Option.some.inj hka] at hdr
   rw [hdr, wordA] at hw
   obtain ⟨m, hf⟩ := Option.isSome_iff_exists.1 (hfit hlk)
   rw [hf] at hw
   obtain ⟨f1, f2, f3⟩ := fitsK_some hf
   dsimp only at f1 f2
   rw [hdl] at f1
   rw [simpEnc_some hne hw.symm, Option.map_map, List.drop_drop] at he
   refine c_seq (c_region ?_)
   refine r_v (q_moveI rfl) rfl ?_; refine r_v (q_conv rfl) rfl ?_
   refine r_is (.int .u64 (k : Int)) (by rw [wrap_u64, Nat.mod_eq_of_lt (by omega)]) ?_
   refine r_v (q_is (v' := .int .u64 ((k * 1152921504606846976 + packW (kBit k) ((u.drop at').take 0) : Nat) : Int)) (q_shl rfl rfl (by omega)) (by rw [show IntKind.u64.wrap ((k : Int) * 2 ^ (min (60 : Int).toNat IntKind.u64.bits)) = ((k * 2 ^ 60 % 18446744073709551616 : Nat) : Int) from shl_u64 k 60 (by decide), Nat.mod_eq_of_lt (by omega)]; simp [packW])) rfl ?_
   refine r_v (q_assignI rfl) rfl ?_
   refine r_nil ?_
   refine c_seq (c_region ?_)
   refine r_v (q_moveI rfl) rfl ?_
   refine r_c rfl (x_call rfl (ref4_numbers hlk h) ?_)
   rintro _ w ⟨rfl, h⟩
   refine r_v (q_moveS rfl) rfl ?_; refine r_v (q_len rfl) rfl ?_; refine r_v (q_moveI rfl) rfl ?_; refine r_v (q_sub rfl rfl) rfl ?_
   refine r_is (.int .i64 ((u.length - at' : Nat) : Int)) (by rw [wrap64 (by omega) (by omega)]; congr 1; omega) ?_
   refine r_v (q_min rfl rfl) rfl ?_
   refine r_is (.int .i64 ((m : Nat) : Int)) (by congr 1; omega) ?_
   refine r_v (q_assignI rfl) rfl ?_
   refine r_nil ?_
   have hm1 : 0 < m := by omega
   refine c_cut (Γ := Unit) (fun _ => [(0, .slice sl u.length c), (4, .slice oa out.length oc), (5, .int .i64 at'), (7, .int .u64 ((k * 1152921504606846976 + packW (kBit k) ((u.drop at').take m) : Nat) : Int)), (8, .int .i64 m)]) (fun _ w => St w0 (OwnU oa oc out :: l) w) ?_ ?_
   ·refine c_seq (c_region ?_)
    refine r_v (q_assignI rfl) rfl ?_
    refine r_nil ?_
    refine c_block ?_
    refine c_loop (Γ := Nat) (fun j => [(0, .slice sl u.length c), (4, .slice oa out.length oc), (5, .int .i64 at'), (6, .int .i64 k), (7, .int .u64 ((k * 1152921504606846976 + packW (kBit k) ((u.drop at').take j) : Nat) : Int)), (8, .int .i64 m), (9, .int .i64 j)])
     (fun j w => j ≤ m ∧ St w0 (OwnU oa oc out :: l) w) (fun j => m - j) 0 ⟨rfl, rfl, rfl, rfl, rfl, rfl, rfl, trivial⟩ ⟨Nat.zero_le _, h⟩ ?_
    clear h
    rintro j w e ⟨hj, h⟩
    refine c_seq (c_seq (c_region ?_))
    refine r_v (q_moveI rfl) rfl ?_; refine r_v (q_moveI rfl) rfl ?_; refine r_v (q_lss rfl rfl) rfl ?_
    refine r_nil ?_
    refine c_cond (decide ((j : Int) < (m : Int))) rfl (fun hc => ?_) (fun hc => ?_)
    ·have hjm : j < m := by simp at hc; omega
     have hgu : (u.drop at')[j]? = some (u[at' + j]'(by omega)) := by rw [List.getElem?_drop, List.getElem?_eq_getElem]
     have hgx : u[at' + j]? = some (u[at' + j]'(by omega)) := List.getElem?_eq_getElem _
     generalize u[at' + j]'(by omega) = x at hgu hgx
     have hxb : x < 2 ^ kBit k := f2 x (by
      have : ((u.drop at').take m)[j]? = some x := by rw [List.getElem?_take, if_pos hjm, hgu]
      exact List.mem_of_getElem? this)
     have hsum : packW (kBit k) ((u.drop at').take (j + 1)) = packW (kBit k) ((u.drop at').take j) + 2 ^ (kBit k * j) * x := by
      rw [List.take_add_one, hgu]
      show packW (kBit k) ((u.drop at').take j ++ [x]) = _
      rw [packW_snoc, List.length_take, Nat.min_eq_left (by omega)]
     have hjk : j * kBit k ≤ 60 := by
      have : j * kBit k ≤ kNum k * kBit k := Nat.mul_le_mul_right _ (by omega)
      rw [Nat.mul_comm (kNum k)] at this; omega
     have hlt60 : packW (kBit k) ((u.drop at').take (j + 1)) < 1152921504606846976 := by
      refine Nat.lt_of_lt_of_le (packW_lt (fun y hy => f2 y (by
       have hp : (u.drop at').take (j + 1) = ((u.drop at').take m).take (j + 1) := by rw [List.take_take, Nat.min_eq_left (by omega)]
       rw [hp] at hy; exact List.mem_of_mem_take hy))) ?_
      have : kBit k * ((u.drop at').take (j + 1)).length ≤ 60 := by
       rw [List.length_take]
       exact Nat.le_trans (Nat.mul_le_mul_left _ (by omega)) k60
      exact Nat.pow_le_pow_right (by decide) this
     have hpl : packW (kBit k) ((u.drop at').take j) < 2 ^ (j * kBit k) := by
      have := packW_lt (b := kBit k) (l := (u.drop at').take j) (fun y hy => f2 y (by
       have hp : (u.drop at').take j = ((u.drop at').take m).take j := by rw [List.take_take, Nat.min_eq_left (by omega)]
       rw [hp] at hy; exact List.mem_of_mem_take hy))
      rwa [List.length_take, Nat.min_eq_left (by omega), Nat.mul_comm] at this
     rw [Nat.mul_comm (kBit k) j, Nat.mul_comm (2 ^ (j * kBit k)) x] at hsum
     obtain ⟨bs, o, hsl⟩ := (hr.cons.at_ h).some (by omega)
     refine c_skip ?_
     refine c_seq (c_block ?_)
     refine c_any none (fun w => St w0 (OwnU oa oc out :: l) w) (by kernel_rfl) (by kernel_rfl) h.drew fun w h => ?_
     refine cur_pure rfl rfl rfl rfl (fun _ => h) (fun _ => flt_v rfl (q_moveI rfl)) ?_; refine cur_pure rfl rfl rfl rfl (fun _ => h) (fun _ => flt_v rfl (q_moveS rfl)) ?_; refine cur_pure rfl rfl rfl rfl (fun _ => h) (fun _ => flt_v rfl (q_moveI rfl)) ?_; refine cur_pure rfl rfl rfl rfl (fun _ => h) (fun _ => flt_v rfl (q_moveI rfl)) ?_
     refine cur_pure rfl rfl rfl rfl (fun _ => h) (fun _ => flt_v rfl (q_is (v' := .int .i64 ((at' + j : Nat) : Int)) (q_add rfl rfl) (by rw [wrap64 (by omega) (by omega)]; congr 1))) ?_
     refine cur_pure rfl rfl rfl rfl (fun _ => h) (fun _ => flt_v rfl (q_idx (b := bs) (o := o) (m := u.length) (c := c) (o' := o + (at' + j)) (by rw [← hsl]; rfl) rfl rfl (by omega) (by simp))) ?_
     refine cur_float rfl rfl rfl rfl h (fun _ h => flt_v rfl (q_loadc (v := .int .u64 x) rfl ((hsl ▸ hr.cons.at_ h).cell (u64V_get hgx)))) ?_
     refine cur_pure rfl rfl rfl rfl (fun _ => h) (fun _ => flt_v rfl (q_moveI rfl)) ?_; refine cur_pure rfl rfl rfl rfl (fun _ => h) (fun _ => flt_v rfl (q_moveI rfl)) ?_; refine cur_skip ?_; refine cur_skip ?_; refine cur_skip ?_; refine cur_skip ?_; refine cur_skip ?_; refine cur_skip ?_
     refine cur_one 9 rfl rfl rfl rfl ?_
     refine (x_call rfl (ref4_bits hlk h) ?_)
     rintro _ w ⟨rfl, h⟩
     refine ⟨fun _ => h, ?_⟩
     refine cur_pure rfl rfl rfl rfl (fun _ => h) (fun _ => flt_v rfl (q_is (v' := .int .i64 ((j * kBit k : Nat) : Int)) (q_mul rfl rfl) (by rw [← Int.natCast_mul, wrap64 (by omega) (by omega)]))) ?_
     refine cur_pure rfl rfl rfl rfl (fun _ => h) (fun _ => flt_v rfl (q_is (v' := .int .u64 ((j * kBit k : Nat) : Int)) (q_conv rfl) (by rw [wrap_u64, Nat.mod_eq_of_lt (by omega)]))) ?_
     refine cur_pure rfl rfl rfl rfl (fun _ => h) (fun _ => flt_v rfl (q_is (v' := .int .u64 ((x * 2 ^ (j * kBit k) : Nat) : Int)) (q_shl rfl rfl (by omega)) (by rw [shl_u64 _ _ (by omega), Nat.mod_eq_of_lt (by omega)]))) ?_
     refine cur_pure rfl rfl rfl rfl (fun _ => h) (fun _ => flt_v rfl (q_is (v' := .int .u64 ((k * 1152921504606846976 + packW (kBit k) ((u.drop at').take (j + 1)) : Nat) : Int)) (q_or rfl rfl) (by
      rw [(bit_u64 (by omega) (by omega)).2.1, hsum, or_three hpl (by omega)]))) ?_
     refine cur_pure rfl rfl rfl rfl (fun _ => h) (fun _ => flt_v rfl (q_assignI rfl)) ?_
     refine cur_end ?_
     refine c_region ?_
     refine r_v (q_moveI rfl) rfl ?_; refine r_v (q_add rfl rfl) rfl ?_
     refine r_is (.int .i64 ((j + 1 : Nat) : Int)) (by rw [wrap64 (by omega) (by omega)]; rfl) ?_
     refine r_v (q_assignI rfl) rfl ?_
     exact r_nil ⟨j + 1, ⟨rfl, rfl, rfl, rfl, rfl, rfl, rfl, trivial⟩, ⟨hjm, h⟩, by omega⟩
    ·obtain rfl : j = m := by simp at hc; omega
     exact c_exit ⟨(), ⟨rfl, rfl, rfl, rfl, rfl, trivial⟩, h⟩
   clear h
   rintro ⟨⟩ w e h
   generalize hx : k * 1152921504606846976 + packW (kBit k) ((u.drop at').take m) = x at *
   refine c_seq (c_region ?_)
   refine r_v (q_moveS rfl) rfl ?_; refine r_v (q_moveI rfl) rfl ?_
   refine r_app1 (v := .int .u64 (x : Int)) (m3 := (out ++ [x]).length) (zs := u64V (out ++ [x])) h rfl rfl rfl rfl rfl (by simp) (by simp [u64V, vcells]) (by simp; omega) (by simp; omega) rfl rfl rfl rfl rfl fun b a' c' w _ h => ?_
   refine r_v (q_assignS rfl) rfl ?_
   refine r_nil ?_
   refine c_region ?_
   refine r_v (q_moveI rfl) rfl ?_; refine r_v (q_moveI rfl) rfl ?_; refine r_v (q_add rfl rfl) rfl ?_
   refine r_is (.int .i64 ((at' + m : Nat) : Int)) (by rw [wrap64 (by omega) (by omega)]; congr 1) ?_
   refine r_v (q_assignI rfl) rfl ?_
   refine r_nil ⟨(at' + m, out ++ [x], a', c'), ⟨rfl, rfl, rfl, trivial⟩, ⟨by dsimp only; omega, by simp; omega, ?_, h⟩, by dsimp only; omega⟩
   rw [← he]
   congr 1
   funext r
   simp
  ·have hin : at' = u.length := by simp at hc; omega
   rw [hin, List.drop_length, simpEnc_nil, Option.map_some, List.append_nil] at he
   exact c_exit ⟨(out, oa, oc), ⟨rfl, trivial⟩, he.symm, h⟩
 clear h
 rintro ⟨out, oa, oc⟩ w e ⟨he, h⟩
 dsimp only at he h ⊢
 rw [he]
 refine c_seq (c_region ?_)
 refine r_v (q_moveS rfl) rfl ?_; refine r_v (q_assignS rfl) rfl ?_; refine r_v (q_assignB rfl) rfl ?_
 exact r_nil (c_ret (bq2 ⟨oa, oc, rfl, h⟩))

theorem ref4_pack {ba la : Option Addr} {bc lc : Nat} {bs : List UInt8} {ls : List Nat} {n : Nat} (hn : n ≤ 64) (hll : ls.length ≤ 65535) (hbl : bs.length ≤ 1073741824) (hu : ∀ x ∈ ls, x < 18446744073709551616) (hr : Reads w0 l 1 ba bs.length (bytesV bs)) (hr2 : Reads w0 l 1 la ls.length (u64V ls)) (h : St w0 l w) :
  Ret Tryz.prog 119 [.slice ba bs.length bc, .slice la ls.length lc, .int .i64 n] w fun v w' => ∃ a c', v = .slice a (bs ++ pack (ls.flatMap fun y => bitsOf y n)).length c' ∧ St w0 (OwnB a c' (bs ++ pack (ls.flatMap fun y => bitsOf y n)) :: l) w' := by
 have hflat := flat_bits_len (fun y => y) n ls
 have hwl : n * ls.length ≤ 64 * 65535 := Nat.mul_le_mul hn hll
 refine enter Tryz.func119 rfl Tryz.results119 Tryz.ntmps119 rfl ?_
 refine c_seq (c_region ?_)
 refine r_v (q_assignS rfl) rfl ?_
 refine r_nil ?_
 refine c_seq (c_region ?_)
 refine r_v (q_build (r := [.slice none 0 0]) rfl) rfl ?_
 refine r_c rfl (x_box h (show _ = Value.agg [.slice none 0 0].toArray from rfl) fun p w h => ?_)
 replace h : St w0 (IsRW p [] :: l) w := St.rw_new h
 refine r_v (q_assignP rfl) rfl ?_
 refine r_nil ?_
 refine c_cut (Γ := Unit) (fun _ => [(0, .slice ba bs.length bc), (7, .pointer (some ⟨p, 0, none⟩))]) (fun _ w => St w0 (IsRW p (ls.flatMap fun y => bitsOf y n) :: l) w) ?_ ?_
 ·refine c_seq (c_region ?_)
  refine r_v (q_assignI rfl) rfl ?_
  refine r_nil ?_
  refine c_block ?_
  refine c_loop (Γ := Nat) (fun k => [(0, .slice ba bs.length bc), (1, .slice la ls.length lc), (2, .int .i64 n), (7, .pointer (some ⟨p, 0, none⟩)), (8, .int .i64 k)]) (fun k w => k ≤ ls.length ∧ St w0 (IsRW p ((ls.take k).flatMap fun y => bitsOf y n) :: l) w) (fun k => ls.length - k) 0 ⟨rfl, rfl, rfl, rfl, rfl, trivial⟩ ⟨Nat.zero_le _, h⟩ ?_
  clear h
  rintro k w e ⟨hk, h⟩
  refine c_seq (c_seq (c_region ?_))
  refine r_v (q_moveI rfl) rfl ?_; refine r_v (q_moveS rfl) rfl ?_; refine r_v (q_len rfl) rfl ?_; refine r_v (q_lss rfl rfl) rfl ?_
  refine r_nil ?_
  refine c_cond (decide ((k : Int) < (ls.length : Int))) rfl (fun hc => ?_) (fun hc => ?_)
  ·have hlt : k < ls.length := by simp at hc; omega
   have hg := List.getElem?_eq_getElem hlt
   generalize ls[k] = y at hg
   have hyu := hu y (List.mem_of_getElem? hg)
   have htl := flat_bits_len (fun y => y) n (ls.take k)
   rw [List.length_take, Nat.min_eq_left (Nat.le_of_lt hlt)] at htl
   have hwk : n * k ≤ n * ls.length := Nat.mul_le_mul_left _ hk
   obtain ⟨b, o, hsl⟩ := (hr2.cons.at_ h).some (by omega)
   refine c_skip ?_
   refine c_seq (c_block ?_)
   refine c_region ?_
   refine r_v (q_moveP rfl) rfl ?_; refine r_v (q_moveS rfl) rfl ?_; refine r_v (q_moveI rfl) rfl ?_
   refine r_v (q_idx (b := b) (o := o) (m := ls.length) (c := lc) (o' := o + k) (by rw [← hsl]; rfl) rfl rfl hlt (by simp)) rfl ?_
   refine r_v (q_loadc (v := .int .u64 y) rfl ((hsl ▸ hr2.cons.at_ h).cell (u64V_get hg))) rfl ?_
   refine r_v (q_moveI rfl) rfl ?_
   refine r_c rfl (x_call rfl (rw_Put y n hyu (by rw [htl]; omega) h) ?_)
   rintro _ w ⟨rfl, h⟩
   refine r_nil ?_
   refine c_region ?_
   refine r_v (q_moveI rfl) rfl ?_; refine r_v (q_add rfl rfl) rfl ?_
   refine r_is (.int .i64 ((k + 1 : Nat) : Int)) (by rw [wrap64 (by omega) (by omega)]; rfl) ?_
   refine r_v (q_assignI rfl) rfl ?_
   refine r_nil ⟨k + 1, ⟨rfl, rfl, rfl, rfl, rfl, trivial⟩, ⟨hlt, ?_⟩, by omega⟩
   rw [heldN_nat hn] at h
   rw [List.take_add_one, hg, List.flatMap_append]
   simpa using h
  ·obtain rfl : k = ls.length := by simp at hc; omega
   rw [List.take_length] at h
   exact c_exit ⟨(), ⟨rfl, rfl, trivial⟩, h⟩
 clear h
 rintro ⟨⟩ w e h
 have hpl := pack_len (ls.flatMap fun y => bitsOf y n)
 refine c_seq (c_region ?_)
 refine r_c rfl (x_bslice (r := []) h rfl rfl rfl fun b w h => ?_)
 refine r_v (q_moveS rfl) rfl ?_
 have h1 : St w0 (Own 5 1 (some ⟨b, 0, none⟩) 0 0 [] :: IsRW p (ls.flatMap fun y => bitsOf y n) :: l) w := St.own_mk (cur := []) h rfl rfl (Nat.le_refl _)
 refine r_c rfl (x_append' (zs := bytesV bs) (m3 := bs.length) h1 rfl rfl (hr [_] _ h1.drop) (bytesV_one _) (by omega) (List.nil_append _) (by omega) (by omega) rfl fun a c1 w _ h => ?_)
 refine r_v (q_moveP rfl) rfl ?_
 refine r_c rfl (x_call rfl (rw_Bytes (by omega) (h.f 1)) ?_)
 rintro _ w ⟨a3, c3, rfl, h⟩
 refine r_c rfl (x_append' (ys := bytesV (pack (ls.flatMap fun y => bitsOf y n))) (zs := bytesV (bs ++ pack (ls.flatMap fun y => bitsOf y n))) (m3 := (bs ++ pack (ls.flatMap fun y => bitsOf y n)).length) (h.f 2) rfl rfl h.own_rd (bytesV_one _) (by simp) (by simp [bytesV]) (by simp; omega) (by simp; omega) rfl fun a4 c4 w _ h => ?_)
 refine r_v (q_assignS rfl) rfl ?_
 refine r_nil ?_
 exact c_ret (bq1 ⟨a4, c4, rfl, ((h.f 1).drop.f 1).drop⟩)

theorem ref4_Runs {sl : Option Addr} {c : Nat} {u : List Nat} (hu : ∀ x ∈ u, x < 18446744073709551616) (hn : u.length ≤ 65535) (hr : Reads w0 l 1 sl u.length (u64V u)) (h : St w0 l w) :
  Ret Tryz.prog 76 [.slice sl u.length c] w fun v w' => ∃ a c', v = .slice a (runsEnc u).length c' ∧ St w0 (OwnB a c' (runsEnc u) :: l) w' := by
 have hrl := runsEnc_len u
 refine enter Tryz.func76 rfl Tryz.results76 Tryz.ntmps76 rfl ?_
 refine c_seq (c_region ?_)
 refine r_v (q_assignS rfl) rfl ?_
 refine r_nil ?_
 refine c_seq (c_region ?_)
 refine r_v (q_assignS rfl) rfl ?_
 refine r_nil ?_
 refine c_cut (Γ := Option Addr × Nat) (fun q => [(3, .slice q.1 (runsEnc u).length q.2)]) (fun q w => St w0 (OwnB q.1 q.2 (runsEnc u) :: l) w) ?_ ?_
 ·refine c_seq (c_region ?_)
  refine r_v (q_assignI rfl) rfl ?_
  refine r_nil ?_
  refine c_block ?_
  refine c_loop (Γ := Nat × List UInt8 × Option Addr × Nat) (fun k => [(0, .slice sl u.length c), (3, .slice k.2.2.1 k.2.1.length k.2.2.2), (4, .int .i64 k.1)])
   (fun k w => k.1 ≤ u.length ∧ k.2.1 ++ runsEnc (u.drop k.1) = runsEnc u ∧ St w0 (OwnB k.2.2.1 k.2.2.2 k.2.1 :: l) w) (fun k => u.length - k.1) (0, [], none, 0) ⟨rfl, rfl, rfl, trivial⟩ ⟨Nat.zero_le _, rfl, St.ownNil _ _ h⟩ ?_
  clear h
  rintro ⟨i, out, oa, oc⟩ w e ⟨hi, he, h⟩
  dsimp only at hi he h ⊢
  refine c_seq (c_seq (c_region ?_))
  refine r_v (q_moveI rfl) rfl ?_; refine r_v (q_moveS rfl) rfl ?_; refine r_v (q_len rfl) rfl ?_; refine r_v (q_lss rfl rfl) rfl ?_
  refine r_nil ?_
  refine c_cond (decide ((i : Int) < (u.length : Int))) rfl (fun hc => ?_) (fun hc => ?_)
  ·have hlt : i < u.length := by simp at hc; omega
   have hg := List.getElem?_eq_getElem hlt
   have hdr := List.drop_eq_getElem_cons hlt
   generalize u[i] = x at hg hdr
   have hx := hu x (List.mem_of_getElem? hg)
   have hrd : ∀ {Q : HProp} {w' : World}, St w0 (Q :: l) w' → Rd w' 1 sl u.length (u64V u) := fun {Q w'} h' => hr [Q] w' h'
   obtain ⟨b, o, hsl⟩ := (hrd h).some (by omega)
   have hle := lead_le x (u.drop (i + 1))
   rw [List.length_drop] at hle
   have hin : ∀ j, j < lead x (u.drop (i + 1)) → u[i + 1 + j]? = some x := fun j hj => by
    have := idx_lead x _ hj
    rwa [List.getElem?_drop] at this
   have hend : u[i + 1 + lead x (u.drop (i + 1))]? ≠ some x := by
    have := idx_lead_end x (u.drop (i + 1))
    rwa [List.getElem?_drop] at this
   rw [hdr, runsEnc_cons, List.drop_drop] at he
   generalize hL : lead x (u.drop (i + 1)) = L at *
   refine c_skip ?_
   refine c_block ?_
   refine c_seq (c_region ?_)
   refine r_v (q_moveI rfl) rfl ?_; refine r_v (q_assignI rfl) rfl ?_
   refine r_nil ?_
   refine c_cut (Γ := Unit) (fun _ => [(0, .slice sl u.length c), (3, .slice oa out.length oc), (4, .int .i64 i), (5, .int .i64 ((i + 1 + L : Nat) : Int))]) (fun _ w => St w0 (OwnB oa oc out :: l) w) ?_ ?_
   ·refine c_block ?_
    refine c_loop (Γ := Nat) (fun k => [(0, .slice sl u.length c), (3, .slice oa out.length oc), (4, .int .i64 i), (5, .int .i64 k)]) (fun k w => i ≤ k ∧ k ≤ i + 1 + L ∧ St w0 (OwnB oa oc out :: l) w) (fun k => u.length - k) i ⟨rfl, rfl, rfl, rfl, trivial⟩ ⟨Nat.le_refl _, by omega, h⟩ ?_
    clear h
    rintro k w e ⟨hik, hkL, h⟩
    by_cases hku : k < u.length
    ·have hgk := List.getElem?_eq_getElem hku
     generalize u[k] = y at hgk
     have hyx : y = x ↔ k < i + 1 + L := by
      constructor
      ·intro hh
       rcases Nat.lt_or_ge k (i + 1 + L) with h2 | h2
       ·exact h2
       ·obtain rfl : k = i + 1 + L := by omega
        rw [hgk, hh] at hend
        exact absurd rfl hend
      ·intro hh
       rcases Nat.eq_or_lt_of_le hik with h2 | h2
       ·subst h2; rw [hg] at hgk; exact (Option.some.inj hgk).symm
       ·have := hin (k - (i + 1)) (by omega)
        rw [show i + 1 + (k - (i + 1)) = k by omega, hgk] at this
        exact Option.some.inj this
     refine c_seq (c_seq (c_any none (fun w => St w0 (OwnB oa oc out :: l) w) (by kernel_rfl) (by kernel_rfl) h.drew fun w h => ?_))
     refine cur_pure rfl rfl rfl rfl (fun _ => h) (fun _ => flt_v rfl (q_moveI rfl)) ?_; refine cur_pure rfl rfl rfl rfl (fun _ => h) (fun _ => flt_v rfl (q_moveS rfl)) ?_; refine cur_pure rfl rfl rfl rfl (fun _ => h) (fun _ => flt_v rfl (q_len rfl)) ?_
     refine cur_pure rfl rfl rfl rfl (fun _ => h) (fun _ => flt_v rfl (q_is (v' := .bool true) (q_lss rfl rfl) (by simp; omega))) ?_
     refine cur_pure rfl rfl rfl rfl (fun _ => h) (fun _ => flt_v rfl (q_moveB rfl)) ?_; refine cur_pure rfl rfl rfl rfl (fun _ => h) (fun _ => flt_g rfl rfl (q_moveS rfl)) ?_; refine cur_pure rfl rfl rfl rfl (fun _ => h) (fun _ => flt_g rfl rfl (q_moveI rfl)) ?_
     refine cur_pure rfl rfl rfl rfl (fun _ => h) (fun _ => flt_g rfl rfl (q_idx (b := b) (o := o) (m := u.length) (c := c) (o' := o + k) (by rw [← hsl]; rfl) rfl rfl hku (by simp))) ?_
     refine cur_float rfl rfl rfl rfl h (fun _ h => flt_g rfl rfl (q_loadc (v := .int .u64 y) rfl ((hsl ▸ hrd h).cell (u64V_get hgk)))) ?_
     refine cur_pure rfl rfl rfl rfl (fun _ => h) (fun _ => flt_g rfl rfl (q_moveS rfl)) ?_; refine cur_pure rfl rfl rfl rfl (fun _ => h) (fun _ => flt_g rfl rfl (q_moveI rfl)) ?_
     refine cur_pure rfl rfl rfl rfl (fun _ => h) (fun _ => flt_g rfl rfl (q_idx (b := b) (o := o) (m := u.length) (c := c) (o' := o + i) (by rw [← hsl]; rfl) rfl rfl hlt (by simp))) ?_
     refine cur_float rfl rfl rfl rfl h (fun _ h => flt_g rfl rfl (q_loadc (v := .int .u64 x) rfl ((hsl ▸ hrd h).cell (u64V_get hg)))) ?_
     refine cur_pure rfl rfl rfl rfl (fun _ => h) (fun _ => flt_g rfl rfl (q_eql rfl rfl)) ?_; refine cur_pure rfl rfl rfl rfl (fun _ => h) (fun _ => flt_v rfl (q_pick1 rfl rfl rfl)) ?_
     refine cur_end ?_
     refine c_cond ((y : Int) == (x : Int)) rfl (fun hc => ?_) (fun hc => ?_)
     ·have hk2 := hyx.1 (by rw [beq_iff_eq] at hc; omega)
      refine c_skip ?_
      refine c_block ?_
      refine c_region ?_
      refine r_v (q_moveI rfl) rfl ?_; refine r_v (q_add rfl rfl) rfl ?_
      refine r_is (.int .i64 ((k + 1 : Nat) : Int)) (by rw [wrap64 (by omega) (by omega)]; rfl) ?_
      refine r_v (q_assignI rfl) rfl ?_
      exact r_nil ⟨k + 1, ⟨rfl, rfl, rfl, rfl, trivial⟩, ⟨by omega, by omega, h⟩, by omega⟩
     ·have hk2 : ¬ k < i + 1 + L := fun hh => by rw [beq_eq_false_iff_ne] at hc; have := hyx.2 hh; omega
      obtain rfl : k = i + 1 + L := by omega
      exact c_exit ⟨(), ⟨rfl, rfl, rfl, rfl, trivial⟩, h⟩
    ·obtain rfl : k = i + 1 + L := by omega
     refine c_seq (c_seq (c_any none (fun w => St w0 (OwnB oa oc out :: l) w) (by kernel_rfl) (by kernel_rfl) h.drew fun w h => ?_))
     refine cur_pure rfl rfl rfl rfl (fun _ => h) (fun _ => flt_v rfl (q_moveI rfl)) ?_; refine cur_pure rfl rfl rfl rfl (fun _ => h) (fun _ => flt_v rfl (q_moveS rfl)) ?_; refine cur_pure rfl rfl rfl rfl (fun _ => h) (fun _ => flt_v rfl (q_len rfl)) ?_
     refine cur_pure rfl rfl rfl rfl (fun _ => h) (fun _ => flt_v rfl (q_is (v' := .bool false) (q_lss rfl rfl) (by simp; omega))) ?_
     refine cur_pure rfl rfl rfl rfl (fun _ => h) (fun _ => flt_v rfl (q_moveB rfl)) ?_; refine cur_pure rfl rfl rfl rfl (fun _ => h) (fun _ => flt_n rfl rfl) ?_; refine cur_pure rfl rfl rfl rfl (fun _ => h) (fun _ => flt_n rfl rfl) ?_; refine cur_pure rfl rfl rfl rfl (fun _ => h) (fun _ => flt_n rfl rfl) ?_; refine cur_pure rfl rfl rfl rfl (fun _ => h) (fun _ => flt_n rfl rfl) ?_; refine cur_pure rfl rfl rfl rfl (fun _ => h) (fun _ => flt_n rfl rfl) ?_; refine cur_pure rfl rfl rfl rfl (fun _ => h) (fun _ => flt_n rfl rfl) ?_; refine cur_pure rfl rfl rfl rfl (fun _ => h) (fun _ => flt_n rfl rfl) ?_; refine cur_pure rfl rfl rfl rfl (fun _ => h) (fun _ => flt_n rfl rfl) ?_; refine cur_pure rfl rfl rfl rfl (fun _ => h) (fun _ => flt_n rfl rfl) ?_; refine cur_pure rfl rfl rfl rfl (fun _ => h) (fun _ => flt_v rfl (q_pick0 rfl rfl rfl)) ?_
     refine cur_end ?_
     exact c_false rfl (c_exit ⟨(), ⟨rfl, rfl, rfl, rfl, trivial⟩, h⟩)
   clear h
   rintro ⟨⟩ w e h
   have hlen := congrArg List.length he
   simp only [List.length_append] at hlen
   refine c_seq (c_anyW [0, 1, 2, 3, 4, 5, 6, 7, 8, 9, 10, 11] none (fun w => ∃ M, St w0 (M ++ l) w) (by kernel_rfl) (by kernel_rfl) ?_)
   replace h := h.drew
   generalize w.drew = w at h
   have hs := h
   replace h : ∃ M, St w0 (M ++ l) w := ⟨[_], hs⟩
   refine cur_pure rfl rfl rfl rfl (fun _ => h) (fun _ => flt_v rfl (q_moveS rfl)) ?_; refine cur_pure rfl rfl rfl rfl (fun _ => h) (fun _ => flt_v rfl (q_moveI rfl)) ?_; refine cur_pure rfl rfl rfl rfl (fun _ => h) (fun _ => flt_v rfl (q_moveI rfl)) ?_
   refine cur_pure rfl rfl rfl rfl (fun _ => h) (fun _ => flt_v rfl (q_is (v' := .int .i64 ((1 + L : Nat) : Int)) (q_sub rfl rfl) (by rw [wrap64 (by omega) (by omega)]; congr 1; omega))) ?_
   refine cur_pure rfl rfl rfl rfl (fun _ => h) (fun _ => flt_v rfl (q_is (v' := .int .u64 ((1 + L : Nat) : Int)) (q_conv rfl) (by rw [wrap_u64, Nat.mod_eq_of_lt (by omega)]))) ?_
   refine cur_skip ?_; refine cur_pure rfl rfl rfl rfl (fun _ => h) (fun _ => flt_v rfl (q_moveS rfl)) ?_; refine cur_pure rfl rfl rfl rfl (fun _ => h) (fun _ => flt_v rfl (q_moveI rfl)) ?_
   refine cur_pure rfl rfl rfl rfl (fun _ => h) (fun _ => flt_v rfl (q_idx (b := b) (o := o) (m := u.length) (c := c) (o' := o + i) (by rw [← hsl]; rfl) rfl rfl hlt (by simp))) ?_
   refine cur_float rfl rfl rfl rfl h (fun w h => flt_v rfl (q_loadc (v := .int .u64 x) rfl (by obtain ⟨M, h⟩ := h; exact (hsl ▸ hr M w h).cell (u64V_get hg)))) ?_
   refine cur_skip ?_; refine cur_skip ?_
   refine cur_one 5 rfl rfl rfl rfl ?_
   refine (x_call rfl (ref1_Put (1 + L) (by omega) hs (fun w' h' => h'.own_rd) (by omega)) ?_)
   rintro _ w ⟨a1, c1, rfl, hs⟩
   replace h : ∃ M, St w0 (M ++ l) w := ⟨[_, _], hs⟩
   refine ⟨fun _ => h, ?_⟩
   refine cur_skip ?_; refine cur_skip ?_
   refine cur_one 10 rfl rfl rfl rfl ?_
   refine (x_call rfl (ref1_Put x hx hs (fun w' h' => h'.own_rd) (by simp; omega)) ?_)
   rintro _ w ⟨a2, c2, rfl, hs⟩
   replace h : ∃ M, St w0 (M ++ l) w := ⟨[_, _, _], hs⟩
   refine ⟨fun _ => h, ?_⟩
   refine cur_pure rfl rfl rfl rfl (fun _ => h) (fun _ => flt_v rfl (q_assignS rfl)) ?_
   refine cur_end ?_
   refine c_region ?_
   refine r_v (q_moveI rfl) rfl ?_; refine r_v (q_assignI rfl) rfl ?_
   refine r_nil ⟨(i + 1 + L, out ++ vput (1 + L) ++ vput x, a2, c2), ⟨rfl, rfl, rfl, trivial⟩, ⟨by dsimp only; omega, ?_, (hs.f 1).drop.f 1 |>.drop⟩, by dsimp only; omega⟩
   dsimp only
   rw [← he, List.append_assoc, List.append_assoc]
  ·have hin : i = u.length := by simp at hc; omega
   rw [hin, List.drop_length, runsEnc, List.append_nil] at he
   refine c_exit ⟨(oa, oc), ⟨?_, trivial⟩, he ▸ h⟩
   rw [← he]
   rfl
 clear h
 rintro ⟨oa, oc⟩ w e h
 refine c_seq (c_region ?_)
 refine r_v (q_moveS rfl) rfl ?_; refine r_v (q_assignS rfl) rfl ?_
 exact r_nil (c_ret (bq1 ⟨oa, oc, rfl, h⟩))
end
end Go.Proofs.YtjjacchnalemaaaGreatDoor

namespace Go.Hw
theorem flat_map_bits (f : Nat → Nat) (n : Nat) (v : List Nat) : (v.map f).flatMap (fun y => bitsOf y n) = v.flatMap fun y => bitsOf (f y) n := by
 induction v with
 | nil => rfl
 | cons x v ih => rw [List.map_cons, List.flatMap_cons, List.flatMap_cons, ih]
theorem idxOf_append_of_mem {l t : List Nat} {x : Nat} (h : x ∈ l) : (l ++ t).idxOf x = l.idxOf x := by rw [List.idxOf_append, if_pos h]
end Go.Hw
namespace Go.Proofs.YtjjacchnalemaaaGreatDoor
open Go.Hw
set_option maxHeartbeats 4000000
set_option maxRecDepth 100000
section
variable {w0 w : World} {l : List HProp}
theorem ref4_Frame {sl : Option Addr} {c : Nat} {u : List Nat} (hu : ∀ x ∈ u, x < 18446744073709551616) (hn : u.length ≤ 65535) (hr : Reads w0 l 1 sl u.length (u64V u)) (h : St w0 l w) :
  Ret Tryz.prog 77 [.slice sl u.length c] w fun v w' => ∃ a c', v = .slice a (frameEnc u).length c' ∧ St w0 (OwnB a c' (frameEnc u) :: l) w' := by
 refine enter Tryz.func77 rfl Tryz.results77 Tryz.ntmps77 rfl ?_
 refine c_seq (c_region ?_)
 refine r_v (q_assignS rfl) rfl ?_
 refine r_nil ?_
 refine c_seq (c_seq (c_region ?_))
 refine r_v (q_moveS rfl) rfl ?_; refine r_v (q_len rfl) rfl ?_; refine r_v (q_eql rfl rfl) rfl ?_
 cases u with
 | nil =>
  refine r_is (.bool true) rfl ?_
  refine r_nil (c_true rfl ?_)
  refine c_seq (c_region ?_)
  refine r_v (q_assignS rfl) rfl ?_
  refine r_nil ?_
  exact c_ret (bq1 ⟨none, 0, rfl, St.ownNil _ _ h⟩)
 | cons x r =>
 have hx := hu x (List.mem_cons_self ..)
 have hlst := leastA_lt r x hx
 have hgt := greatA_lt r x hx fun y hy => hu y (List.mem_cons_of_mem _ hy)
 have hlg : leastA x r ≤ greatA x r := Nat.le_trans (leastA_le r x).1 (greatA_ge r x).1
 have hw64 : len64 (greatA x r - leastA x r) ≤ 64 := len64_64 (by omega)
 refine r_is (.bool false) (by simp; omega) ?_
 refine r_nil (c_false rfl (c_skip ?_))
 have hfe : frameEnc (x :: r) = vput (leastA x r) ++ (UInt8.ofNat (len64 (greatA x r - leastA x r)) :: pack ((x :: r).flatMap fun y => bitsOf (y - leastA x r) (len64 (greatA x r - leastA x r)))) := rfl
 have hmem : ∀ y ∈ x :: r, leastA x r ≤ y := by
  intro y hy
  rcases List.mem_cons.1 hy with rfl | hy
  ·exact (leastA_le r y).1
  ·exact (leastA_le r x).2 y hy
 have hl0 : leastA x (x :: r) = leastA x r := by rw [leastA, Nat.min_self]
 have hg0 : greatA x (x :: r) = greatA x r := by rw [greatA, Nat.max_self]
 have hgx : (x :: r)[0]? = some x := rfl
 rw [hfe]
 generalize hlo : leastA x r = lo at *
 generalize hhi : greatA x r = hi at *
 have hpos : 0 < (x :: r).length := by simp
 generalize hU : x :: r = u at *
 clear hfe
 have hrd : ∀ {M : List HProp} {w' : World}, St w0 (M ++ l) w' → Rd w' 1 sl u.length (u64V u) := fun {M w'} h' => hr M w' h'
 obtain ⟨b, o, hsl⟩ := (hrd (M := []) h).some hpos
 refine c_seq (c_anyR [0, 1, 2, 4, 5, 6, 3, 7] none (fun w => St w0 l w) (by kernel_rfl) (by kernel_rfl) h.drew fun w h => ?_)
 refine cur_pure rfl rfl rfl rfl (fun _ => h) (fun _ => flt_v rfl (q_moveS rfl)) ?_
 refine cur_pure rfl rfl rfl rfl (fun _ => h) (fun _ => flt_v rfl (q_idx (b := b) (o := o) (m := u.length) (c := c) (j := 0) (o' := o + 0) (by rw [← hsl]; rfl) rfl rfl hpos (by simp))) ?_
 refine cur_float rfl rfl rfl rfl h (fun w h => flt_v rfl (q_loadc (v := .int .u64 x) rfl ((hsl ▸ hrd (M := []) h).cell (u64V_get hgx)))) ?_
 refine cur_pure rfl rfl rfl rfl (fun _ => h) (fun _ => flt_v rfl (q_moveS rfl)) ?_
 refine cur_pure rfl rfl rfl rfl (fun _ => h) (fun _ => flt_v rfl (q_idx (b := b) (o := o) (m := u.length) (c := c) (j := 0) (o' := o + 0) (by rw [← hsl]; rfl) rfl rfl hpos (by simp))) ?_
 refine cur_float rfl rfl rfl rfl h (fun w h => flt_v rfl (q_loadc (v := .int .u64 x) rfl ((hsl ▸ hrd (M := []) h).cell (u64V_get hgx)))) ?_
 refine cur_pure rfl rfl rfl rfl (fun _ => h) (fun _ => flt_v rfl (q_assignI rfl)) ?_; refine cur_pure rfl rfl rfl rfl (fun _ => h) (fun _ => flt_v rfl (q_assignI rfl)) ?_
 refine cur_end ?_
 refine c_cut (Γ := Unit) (fun _ => [(0, .slice sl u.length c), (3, .int .u64 lo), (4, .int .u64 hi)]) (fun _ w => St w0 l w) ?_ ?_
 ·refine c_seq (c_region ?_)
  refine r_v (q_assignI rfl) rfl ?_
  refine r_nil ?_
  refine c_block ?_
  refine c_loop (Γ := Nat × Nat × Nat) (fun k => [(0, .slice sl u.length c), (3, .int .u64 k.2.1), (4, .int .u64 k.2.2), (5, .int .i64 k.1)])
   (fun k w => k.1 ≤ u.length ∧ leastA k.2.1 (u.drop k.1) = lo ∧ greatA k.2.2 (u.drop k.1) = hi ∧ St w0 l w) (fun k => u.length - k.1) (0, x, x) ⟨rfl, rfl, rfl, rfl, trivial⟩ ⟨Nat.zero_le _, hl0, hg0, h⟩ ?_
  clear h
  rintro ⟨k, a, z⟩ w e ⟨hk, ha, hz, h⟩
  dsimp only at hk ha hz h ⊢
  refine c_seq (c_seq (c_region ?_))
  refine r_v (q_moveI rfl) rfl ?_; refine r_v (q_moveS rfl) rfl ?_; refine r_v (q_len rfl) rfl ?_; refine r_v (q_lss rfl rfl) rfl ?_
  refine r_nil ?_
  refine c_cond (decide ((k : Int) < (u.length : Int))) rfl (fun hc => ?_) (fun hc => ?_)
  ·have hlt : k < u.length := by simp at hc; omega
   have hg := List.getElem?_eq_getElem hlt
   have hdr := List.drop_eq_getElem_cons hlt
   generalize u[k] = y at hg hdr
   rw [hdr] at ha hz
   rw [leastA] at ha
   rw [greatA] at hz
   refine c_skip ?_
   refine c_seq (c_block ?_)
   refine c_any none (fun w => St w0 l w) (by kernel_rfl) (by kernel_rfl) h.drew fun w h => ?_
   refine cur_pure rfl rfl rfl rfl (fun _ => h) (fun _ => flt_v rfl (q_moveI rfl)) ?_; refine cur_pure rfl rfl rfl rfl (fun _ => h) (fun _ => flt_v rfl (q_moveS rfl)) ?_; refine cur_pure rfl rfl rfl rfl (fun _ => h) (fun _ => flt_v rfl (q_moveI rfl)) ?_
   refine cur_pure rfl rfl rfl rfl (fun _ => h) (fun _ => flt_v rfl (q_idx (b := b) (o := o) (m := u.length) (c := c) (o' := o + k) (by rw [← hsl]; rfl) rfl rfl hlt (by simp))) ?_
   refine cur_float rfl rfl rfl rfl h (fun w h => flt_v rfl (q_loadc (v := .int .u64 y) rfl ((hsl ▸ hrd (M := []) h).cell (u64V_get hg)))) ?_
   refine cur_pure rfl rfl rfl rfl (fun _ => h) (fun _ => flt_v rfl (q_is (v' := .int .u64 ((min a y : Nat) : Int)) (q_min rfl rfl) (by congr 1; omega))) ?_
   refine cur_pure rfl rfl rfl rfl (fun _ => h) (fun _ => flt_v rfl (q_moveI rfl)) ?_; refine cur_pure rfl rfl rfl rfl (fun _ => h) (fun _ => flt_v rfl (q_moveS rfl)) ?_; refine cur_pure rfl rfl rfl rfl (fun _ => h) (fun _ => flt_v rfl (q_moveI rfl)) ?_
   refine cur_pure rfl rfl rfl rfl (fun _ => h) (fun _ => flt_v rfl (q_idx (b := b) (o := o) (m := u.length) (c := c) (o' := o + k) (by rw [← hsl]; rfl) rfl rfl hlt (by simp))) ?_
   refine cur_float rfl rfl rfl rfl h (fun w h => flt_v rfl (q_loadc (v := .int .u64 y) rfl ((hsl ▸ hrd (M := []) h).cell (u64V_get hg)))) ?_
   refine cur_pure rfl rfl rfl rfl (fun _ => h) (fun _ => flt_v rfl (q_is (v' := .int .u64 ((max z y : Nat) : Int)) (q_max rfl rfl) (by congr 1; omega))) ?_
   refine cur_pure rfl rfl rfl rfl (fun _ => h) (fun _ => flt_v rfl (q_assignI rfl)) ?_; refine cur_pure rfl rfl rfl rfl (fun _ => h) (fun _ => flt_v rfl (q_assignI rfl)) ?_
   refine cur_end ?_
   refine c_region ?_
   refine r_v (q_moveI rfl) rfl ?_; refine r_v (q_add rfl rfl) rfl ?_
   refine r_is (.int .i64 ((k + 1 : Nat) : Int)) (by rw [wrap64 (by omega) (by omega)]; rfl) ?_
   refine r_v (q_assignI rfl) rfl ?_
   exact r_nil ⟨(k + 1, min a y, max z y), ⟨rfl, rfl, rfl, rfl, trivial⟩, ⟨hlt, ha, hz, h⟩, by dsimp only; omega⟩
  ·obtain rfl : k = u.length := by simp at hc; omega
   rw [List.drop_length, leastA] at ha
   rw [List.drop_length, greatA] at hz
   subst ha hz
   exact c_exit ⟨(), ⟨rfl, rfl, rfl, trivial⟩, h⟩
 clear h
 rintro ⟨⟩ w e h
 refine c_seq (c_region ?_)
 refine r_v (q_assignS rfl) rfl ?_
 refine r_nil ?_
 refine c_cut (Γ := Option Addr × Nat) (fun q => [(3, .int .u64 lo), (4, .int .u64 hi), (6, .slice q.1 (u.map fun y => y - lo).length q.2)]) (fun q w => St w0 (OwnU q.1 q.2 (u.map fun y => y - lo) :: l) w) ?_ ?_
 ·refine c_seq (c_region ?_)
  refine r_v (q_assignI rfl) rfl ?_
  refine r_nil ?_
  refine c_block ?_
  refine c_loop (Γ := Nat × Option Addr × Nat) (fun k => [(0, .slice sl u.length c), (3, .int .u64 lo), (4, .int .u64 hi), (6, .slice k.2.1 ((u.take k.1).map fun y => y - lo).length k.2.2), (7, .int .i64 k.1)])
   (fun k w => k.1 ≤ u.length ∧ St w0 (OwnU k.2.1 k.2.2 ((u.take k.1).map fun y => y - lo) :: l) w) (fun k => u.length - k.1) (0, none, 0) ⟨rfl, rfl, rfl, rfl, rfl, trivial⟩ ⟨Nat.zero_le _, St.ownNil 51 1 h⟩ ?_
  clear h
  rintro ⟨k, oa, oc⟩ w e ⟨hk, h⟩
  dsimp only at hk h ⊢
  refine c_seq (c_seq (c_region ?_))
  refine r_v (q_moveI rfl) rfl ?_; refine r_v (q_moveS rfl) rfl ?_; refine r_v (q_len rfl) rfl ?_; refine r_v (q_lss rfl rfl) rfl ?_
  refine r_nil ?_
  refine c_cond (decide ((k : Int) < (u.length : Int))) rfl (fun hc => ?_) (fun hc => ?_)
  ·have hlt : k < u.length := by simp at hc; omega
   have hg := List.getElem?_eq_getElem hlt
   generalize u[k] = y at hg
   have hyl := hmem y (List.mem_of_getElem? hg)
   have hyu := hu y (List.mem_of_getElem? hg)
   refine c_skip ?_
   refine c_seq (c_block ?_)
   refine c_region ?_
   refine r_v (q_moveS rfl) rfl ?_; refine r_v (q_moveS rfl) rfl ?_; refine r_v (q_moveI rfl) rfl ?_
   refine r_v (q_idx (b := b) (o := o) (m := u.length) (c := c) (o' := o + k) (by rw [← hsl]; rfl) rfl rfl hlt (by simp)) rfl ?_
   refine r_v (q_loadc (v := .int .u64 y) rfl ((hsl ▸ hrd (M := [_]) h).cell (u64V_get hg))) rfl ?_
   refine r_v (q_moveI rfl) rfl ?_; refine r_v (q_sub rfl rfl) rfl ?_
   refine r_is (.int .u64 ((y - lo : Nat) : Int)) (by rw [wrap_us]; unfold us; congr 1; omega) ?_
   refine r_app1 (v := .int .u64 ((y - lo : Nat) : Int)) (m3 := ((u.take (k + 1)).map fun y => y - lo).length) (zs := u64V ((u.take (k + 1)).map fun y => y - lo)) h rfl rfl rfl rfl rfl (by simp; omega) (by rw [List.take_add_one, hg]; simp [u64V, vcells]) (by simp; omega) (by simp; omega) rfl rfl rfl rfl rfl fun b a' c' w _ h => ?_
   refine r_v (q_assignS rfl) rfl ?_
   refine r_nil ?_
   refine c_region ?_
   refine r_v (q_moveI rfl) rfl ?_; refine r_v (q_add rfl rfl) rfl ?_
   refine r_is (.int .i64 ((k + 1 : Nat) : Int)) (by rw [wrap64 (by omega) (by omega)]; rfl) ?_
   refine r_v (q_assignI rfl) rfl ?_
   exact r_nil ⟨(k + 1, a', c'), ⟨rfl, rfl, rfl, rfl, rfl, trivial⟩, ⟨hlt, h⟩, by dsimp only; omega⟩
  ·obtain rfl : k = u.length := by simp at hc; omega
   rw [List.take_length] at h
   refine c_exit ⟨(oa, oc), ⟨rfl, rfl, ?_, trivial⟩, h⟩
   show Value.slice oa ((u.take u.length).map fun y => y - lo).length oc = _
   rw [List.take_length]
 clear h
 rintro ⟨oa, oc⟩ w e h
 dsimp only at h ⊢
 have hv := vput_len lo
 refine c_seq (c_region ?_)
 refine r_v (q_moveI rfl) rfl ?_
 refine r_c rfl (x_call rfl (ref1_Put (bs := []) lo hlst h (fun w' h' => Reads.nil.at_ h') (by simp)) ?_)
 rintro _ w ⟨a1, c1, rfl, h⟩
 rw [List.nil_append] at h ⊢
 refine r_v (q_moveI rfl) rfl ?_; refine r_v (q_moveI rfl) rfl ?_; refine r_v (q_sub rfl rfl) rfl ?_
 refine r_is (.int .u64 ((hi - lo : Nat) : Int)) (by rw [wrap_us]; unfold us; congr 1; omega) ?_
 refine r_c rfl (x_call rfl (ref4_width (by omega) h) ?_)
 rintro _ w ⟨rfl, h⟩
 refine r_v (q_conv rfl) rfl ?_
 refine r_is (.int .u8 ((UInt8.ofNat (len64 (hi - lo))).toNat : Int)) (by rw [wrap_u8, UInt8.toNat_ofNat']) ?_
 refine r_app1 (v := .int .u8 ((UInt8.ofNat (len64 (hi - lo))).toNat : Int)) (m3 := (vput lo ++ [UInt8.ofNat (len64 (hi - lo))]).length) (zs := bytesV (vput lo ++ [UInt8.ofNat (len64 (hi - lo))])) h rfl rfl rfl rfl rfl (by simp) (by simp [bytesV, vcells]) (by simp; omega) (by simp; omega) rfl rfl rfl rfl rfl fun b2 a2 c2 w _ h => ?_
 refine r_v (q_moveS rfl) rfl ?_; refine r_v (q_moveI rfl) rfl ?_; refine r_v (q_moveI rfl) rfl ?_; refine r_v (q_sub rfl rfl) rfl ?_
 refine r_is (.int .u64 ((hi - lo : Nat) : Int)) (by rw [wrap_us]; unfold us; congr 1; omega) ?_
 refine r_c rfl (x_call rfl (ref4_width (by omega) h) ?_)
 rintro _ w ⟨rfl, h⟩
 refine r_c rfl (x_call rfl (ref4_pack (ls := u.map fun y => y - lo) hw64 (by simp; exact hn) (by simp; omega) (fun y hy => by obtain ⟨z, hz, rfl⟩ := List.mem_map.1 hy; have := hu z hz; omega) Reads.own Reads.own.cons h) ?_)
 rintro _ w ⟨a3, c3, rfl, h⟩
 rw [flat_map_bits, List.append_assoc] at h
 refine r_v (q_assignS rfl) rfl ?_
 refine r_nil ?_
 refine c_ret (bq1 ⟨a3, c3, ?_, (h.f 1).drop.f 1 |>.drop⟩)
 rw [flat_map_bits, List.append_assoc]
 rfl

theorem ref4_Dict {sl : Option Addr} {c : Nat} {u : List Nat} (hu : ∀ x ∈ u, x < 18446744073709551616) (hn : u.length ≤ 65535) (hr : Reads w0 l 1 sl u.length (u64V u)) (h : St w0 l w) :
  Ret Tryz.prog 78 [.slice sl u.length c] w fun v w' => ∃ a c', v = .tuple [.slice a ((dictEnc u).getD []).length c', .bool (dictEnc u).isSome].toArray ∧ St w0 (OwnB a c' ((dictEnc u).getD []) :: l) w' := by
 have hrd : ∀ {M : List HProp} {w' : World}, St w0 (M ++ l) w' → Rd w' 1 sl u.length (u64V u) := fun {M w'} h' => hr M w' h'
 refine enter Tryz.func78 rfl Tryz.results78 Tryz.ntmps78 rfl ?_
 refine c_seq (c_region ?_)
 refine r_v (q_assignS rfl) rfl ?_; refine r_v (q_assignB rfl) rfl ?_
 refine r_nil ?_
 refine c_seq (c_region ?_)
 refine r_v (q_assignS rfl) rfl ?_; refine r_v (q_assignS rfl) rfl ?_
 refine r_nil ?_
 refine c_cut (Γ := List Nat × Option Addr × Nat × Option Addr × Nat) (fun q => [(0, .slice sl u.length c), (4, .slice q.2.1 q.1.length q.2.2.1), (5, .slice q.2.2.2.1 (u.map fun x => q.1.idxOf x).length q.2.2.2.2)])
  (fun q w => unlikeA [] u = some q.1 ∧ St w0 (OwnU q.2.1 q.2.2.1 q.1 :: OwnU q.2.2.2.1 q.2.2.2.2 (u.map fun x => q.1.idxOf x) :: l) w) ?_ ?_
 ·refine c_seq (c_region ?_)
  refine r_v (q_assignI rfl) rfl ?_
  refine r_nil ?_
  refine c_block ?_
  refine c_loop (Γ := Nat × List Nat × Option Addr × Nat × Option Addr × Nat) (fun k => [(0, .slice sl u.length c), (4, .slice k.2.2.1 k.2.1.length k.2.2.2.1), (5, .slice k.2.2.2.2.1 ((u.take k.1).map fun x => k.2.1.idxOf x).length k.2.2.2.2.2), (6, .int .i64 k.1)])
   (fun k w => k.1 ≤ u.length ∧ k.2.1.length ≤ 256 ∧ (∀ x ∈ u.take k.1, x ∈ k.2.1) ∧ unlikeA k.2.1 (u.drop k.1) = unlikeA [] u ∧ St w0 (OwnU k.2.2.1 k.2.2.2.1 k.2.1 :: OwnU k.2.2.2.2.1 k.2.2.2.2.2 ((u.take k.1).map fun x => k.2.1.idxOf x) :: l) w)
   (fun k => u.length - k.1) (0, [], none, 0, none, 0) ⟨rfl, rfl, rfl, rfl, trivial⟩ ⟨Nat.zero_le _, by decide, (fun _ h => by cases h), rfl, St.ownNil 51 1 (St.ownNil 51 1 h)⟩ ?_
  clear h
  rintro ⟨i, m, ma, mc, ia, ic⟩ w e ⟨hi, hm, hall, he, h⟩
  dsimp only at hi hm hall he h ⊢
  refine c_seq (c_seq (c_region ?_))
  refine r_v (q_moveI rfl) rfl ?_; refine r_v (q_moveS rfl) rfl ?_; refine r_v (q_len rfl) rfl ?_; refine r_v (q_lss rfl rfl) rfl ?_
  refine r_nil ?_
  refine c_cond (decide ((i : Int) < (u.length : Int))) rfl (fun hc => ?_) (fun hc => ?_)
  ·have hlt : i < u.length := by simp at hc; omega
   have hg := List.getElem?_eq_getElem hlt
   have hdr := List.drop_eq_getElem_cons hlt
   generalize u[i] = x at hg hdr
   have hx := hu x (List.mem_of_getElem? hg)
   obtain ⟨b, o, hsl⟩ := (hrd (M := [_, _]) h).some (by omega)
   rw [hdr, unlikeA] at he
   refine c_skip ?_
   refine c_seq (c_block ?_)
   refine c_cut (Γ := List Nat × Option Addr × Nat) (fun q => [(0, .slice sl u.length c), (4, .slice q.2.1 q.1.length q.2.2), (5, .slice ia ((u.take i).map fun x => q.1.idxOf x).length ic), (6, .int .i64 i)])
    (fun q w => q.1.length ≤ 257 ∧ x ∈ q.1 ∧ (∀ y ∈ u.take i, y ∈ q.1) ∧ (if 256 < q.1.length then none else unlikeA q.1 (u.drop (i + 1))) = unlikeA [] u ∧ St w0 (OwnU q.2.1 q.2.2 q.1 :: OwnU ia ic ((u.take i).map fun x => q.1.idxOf x) :: l) w) ?_ ?_
   ·refine c_seq (c_region ?_)
    refine r_v (q_moveS rfl) rfl ?_; refine r_v (q_moveS rfl) rfl ?_; refine r_v (q_moveI rfl) rfl ?_
    refine r_v (q_idx (b := b) (o := o) (m := u.length) (c := c) (o' := o + i) (by rw [← hsl]; rfl) rfl rfl hlt (by simp)) rfl ?_
    refine r_v (q_loadc (v := .int .u64 x) rfl ((hsl ▸ hrd (M := [_, _]) h).cell (u64V_get hg))) rfl ?_
    refine r_c rfl (x_call rfl (ref4_place x (by omega) Reads.own h) ?_)
    rintro _ w ⟨rfl, h⟩
    refine r_v (q_lss rfl rfl) rfl ?_
    by_cases hxm : x ∈ m
    ·rw [if_pos hxm] at he
     refine r_is (.bool false) (by rw [if_pos hxm]; exact congrArg Value.bool (decide_eq_false (by omega))) ?_
     refine r_nil (c_false rfl (c_skip ⟨(m, ma, mc), ⟨rfl, rfl, rfl, rfl, trivial⟩, by dsimp only; omega, hxm, hall, ?_, h⟩))
     dsimp only
     rw [if_neg (by omega)]
     exact he
    ·rw [if_neg hxm] at he
     refine r_is (.bool true) (by rw [if_neg hxm]; rfl) ?_
     refine r_nil (c_true rfl ?_)
     refine c_region ?_
     refine r_v (q_moveS rfl) rfl ?_; refine r_v (q_moveS rfl) rfl ?_; refine r_v (q_moveI rfl) rfl ?_
     refine r_v (q_idx (b := b) (o := o) (m := u.length) (c := c) (o' := o + i) (by rw [← hsl]; rfl) rfl rfl hlt (by simp)) rfl ?_
     refine r_v (q_loadc (v := .int .u64 x) rfl ((hsl ▸ hrd (M := [_, _]) h).cell (u64V_get hg))) rfl ?_
     refine r_app1 (v := .int .u64 (x : Int)) (m3 := (m ++ [x]).length) (zs := u64V (m ++ [x])) h rfl rfl rfl rfl rfl (by simp) (by simp [u64V, vcells]) (by simp; omega) (by simp; omega) rfl rfl rfl rfl rfl fun b a' c' w _ h => ?_
     refine r_v (q_assignS rfl) rfl ?_
     have hmap : ((u.take i).map fun y => m.idxOf y) = (u.take i).map fun y => (m ++ [x]).idxOf y := List.map_congr_left fun y hy => (idxOf_append_of_mem (hall y hy)).symm
     refine r_nil ⟨(m ++ [x], a', c'), ⟨rfl, rfl, ?_, rfl, trivial⟩, by simp; omega, by simp, fun y hy => List.mem_append_left _ (hall y hy), ?_, ?_⟩
     ·show Value.slice ia _ ic = _
      rw [← hmap]
     ·dsimp only
      rw [← he, List.length_append, List.length_singleton]
      by_cases h6 : m.length = 256
      ·rw [if_pos (by omega), if_pos h6]
      ·rw [if_neg (by omega), if_neg h6]
     ·dsimp only
      rw [← hmap]
      exact h
   clear h he hall hm
   rintro ⟨m, ma, mc⟩ w e ⟨hm, hxm, hall, he, h⟩
   dsimp only at hm hxm hall he h ⊢
   have hix := List.idxOf_lt_length_of_mem hxm
   refine c_seq (c_region ?_)
   refine r_v (q_moveS rfl) rfl ?_; refine r_v (q_moveS rfl) rfl ?_; refine r_v (q_moveS rfl) rfl ?_; refine r_v (q_moveI rfl) rfl ?_
   refine r_v (q_idx (b := b) (o := o) (m := u.length) (c := c) (o' := o + i) (by rw [← hsl]; rfl) rfl rfl hlt (by simp)) rfl ?_
   refine r_v (q_loadc (v := .int .u64 x) rfl ((hsl ▸ hrd (M := [_, _]) h).cell (u64V_get hg))) rfl ?_
   refine r_c rfl (x_call rfl (ref4_place x (by omega) Reads.own h) ?_)
   rintro _ w ⟨rfl, h⟩
   rw [if_pos hxm]
   refine r_v (q_conv rfl) rfl ?_
   refine r_is (.int .u64 ((m.idxOf x : Nat) : Int)) (by rw [wrap_u64, Nat.mod_eq_of_lt (by omega)]) ?_
   refine r_app1 (v := .int .u64 ((m.idxOf x : Nat) : Int)) (m3 := ((u.take (i + 1)).map fun y => m.idxOf y).length) (zs := u64V ((u.take (i + 1)).map fun y => m.idxOf y)) (h.f 1) rfl rfl rfl rfl rfl (by simp; omega) (by rw [List.take_add_one, hg]; simp [u64V, vcells]) (by simp; omega) (by simp; omega) rfl rfl rfl rfl rfl fun b a' c' w _ h => ?_
   refine r_v (q_assignS rfl) rfl ?_
   refine r_nil ?_
   refine c_seq (c_region ?_)
   refine r_v (q_moveS rfl) rfl ?_; refine r_v (q_len rfl) rfl ?_; refine r_v (q_gtr rfl rfl) rfl ?_
   refine r_nil ?_
   refine c_cond (decide ((m.length : Int) > 256)) rfl (fun hc => ?_) (fun hc => ?_)
   ·rw [if_pos (by simp at hc; omega)] at he
    have hd : dictEnc u = none := by unfold dictEnc; rw [← he]
    rw [hd]
    refine c_seq (c_region ?_)
    refine r_v (q_assignS rfl) rfl ?_; refine r_v (q_assignB rfl) rfl ?_
    exact r_nil (c_ret (bq2 ⟨none, 0, rfl, St.ownNil _ _ h.drop.drop⟩))
   ·rw [if_neg (by simp at hc; omega)] at he
    refine c_skip ?_
    refine c_region ?_
    refine r_v (q_moveI rfl) rfl ?_; refine r_v (q_add rfl rfl) rfl ?_
    refine r_is (.int .i64 ((i + 1 : Nat) : Int)) (by rw [wrap64 (by omega) (by omega)]; rfl) ?_
    refine r_v (q_assignI rfl) rfl ?_
    refine r_nil ⟨(i + 1, m, ma, mc, a', c'), ⟨rfl, rfl, rfl, rfl, trivial⟩, ⟨hlt, by simp at hc; dsimp only; omega, fun y hy => ?_, he, h.f 1⟩, by dsimp only; omega⟩
    dsimp only at hy ⊢
    rw [List.take_add_one, hg] at hy
    rcases List.mem_append.1 hy with hy | hy
    ·exact hall y hy
    ·have : y = x := by simpa using hy
     rw [this]; exact hxm
  ·obtain rfl : i = u.length := by simp at hc; omega
   rw [List.drop_length, unlikeA] at he
   rw [List.take_length] at h
   refine c_exit ⟨(m, ma, mc, ia, ic), ⟨rfl, rfl, ?_, trivial⟩, he.symm, h⟩
   show Value.slice ia ((u.take u.length).map _).length ic = _
   rw [List.take_length]
 clear h
 rintro ⟨m, ma, mc, ia, ic⟩ w e ⟨hso, h⟩
 dsimp only at hso h ⊢
 obtain ⟨_, hmem, hm256, hfrom⟩ := unlikeA_some u [] m hso (by simp)
 have hm64 : ∀ x ∈ m, x < 18446744073709551616 := fun x hx => by
  rcases hfrom x hx with h | h
  ·cases h
  ·exact hu x h
 refine c_seq (c_seq (c_region ?_))
 refine r_v (q_moveS rfl) rfl ?_; refine r_v (q_len rfl) rfl ?_; refine r_v (q_eql rfl rfl) rfl ?_
 by_cases hu0 : u.length = 0
 ·refine r_is (.bool true) (by rw [hu0]; rfl) ?_
  refine r_nil (c_true rfl ?_)
  have hd : dictEnc u = some [] := by unfold dictEnc; rw [hso]; exact if_pos (List.eq_nil_of_length_eq_zero hu0)
  rw [hd]
  refine c_seq (c_region ?_)
  refine r_v (q_assignS rfl) rfl ?_; refine r_v (q_assignB rfl) rfl ?_
  exact r_nil (c_ret (bq2 ⟨none, 0, rfl, St.ownNil _ _ h.drop.drop⟩))
 have hd : dictEnc u = some (dictBytes m u) := by unfold dictEnc; rw [hso]; dsimp only; rw [if_neg (fun hh => hu0 (by rw [hh]; rfl))]
 rw [hd]
 have hmpos : 0 < m.length := by
  have hg := List.getElem?_eq_getElem (show 0 < u.length by omega)
  exact List.length_pos_of_mem (hmem _ (List.mem_of_getElem? hg))
 refine r_is (.bool false) (by congr 1; rw [beq_eq_false_iff_ne]; omega) ?_
 refine r_nil (c_false rfl (c_skip ?_))
 have hvl := vput_len m.length
 refine c_seq (c_region ?_)
 refine r_v (q_moveS rfl) rfl ?_; refine r_v (q_len rfl) rfl ?_; refine r_v (q_conv rfl) rfl ?_
 refine r_is (.int .u64 (m.length : Int)) (by rw [wrap_u64, Nat.mod_eq_of_lt (by omega)]) ?_
 refine r_c rfl (x_call rfl (ref1_Put (bs := []) m.length (by omega) h (fun w' h' => Reads.nil.at_ h') (by simp)) ?_)
 rintro _ w ⟨a1, c1, rfl, h⟩
 rw [List.nil_append] at h ⊢
 refine r_v (q_assignS rfl) rfl ?_
 refine r_nil ?_
 refine c_cut (Γ := Option Addr × Nat) (fun q => [(4, .slice ma m.length mc), (5, .slice ia (u.map fun x => m.idxOf x).length ic), (7, .slice q.1 (vput m.length ++ m.flatMap vput).length q.2)]) (fun q w => St w0 (OwnB q.1 q.2 (vput m.length ++ m.flatMap vput) :: OwnU ma mc m :: OwnU ia ic (u.map fun x => m.idxOf x) :: l) w) ?_ ?_
 ·refine c_seq (c_region ?_)
  refine r_v (q_assignI rfl) rfl ?_
  refine r_nil ?_
  refine c_block ?_
  refine c_loop (Γ := Nat × Option Addr × Nat) (fun k => [(4, .slice ma m.length mc), (5, .slice ia (u.map fun x => m.idxOf x).length ic), (7, .slice k.2.1 (vput m.length ++ (m.take k.1).flatMap vput).length k.2.2), (8, .int .i64 k.1)])
   (fun k w => k.1 ≤ m.length ∧ St w0 (OwnB k.2.1 k.2.2 (vput m.length ++ (m.take k.1).flatMap vput) :: OwnU ma mc m :: OwnU ia ic (u.map fun x => m.idxOf x) :: l) w) (fun k => m.length - k.1) (0, a1, c1) ⟨rfl, rfl, by simp; rfl, rfl, trivial⟩ ⟨Nat.zero_le _, by simpa using h⟩ ?_
  clear h
  rintro ⟨k, a1, c1⟩ w e ⟨hk, h⟩
  dsimp only at hk h ⊢
  refine c_seq (c_seq (c_region ?_))
  refine r_v (q_moveI rfl) rfl ?_; refine r_v (q_moveS rfl) rfl ?_; refine r_v (q_len rfl) rfl ?_; refine r_v (q_lss rfl rfl) rfl ?_
  refine r_nil ?_
  refine c_cond (decide ((k : Int) < (m.length : Int))) rfl (fun hc => ?_) (fun hc => ?_)
  ·have hlt : k < m.length := by simp at hc; omega
   have hg := List.getElem?_eq_getElem hlt
   generalize m[k] = y at hg
   have hvs := vputs_len (m.take k)
   rw [List.length_take, Nat.min_eq_left hk] at hvs
   obtain ⟨g, rfl⟩ := (h.f 1).own_some (by omega)
   refine c_skip ?_
   refine c_seq (c_block ?_)
   refine c_region ?_
   refine r_v (q_moveS rfl) rfl ?_; refine r_v (q_moveS rfl) rfl ?_; refine r_v (q_moveI rfl) rfl ?_
   refine r_v (q_idx (b := g) (o := 0) (m := m.length) (c := mc) (o' := k) rfl rfl rfl hlt (by simp)) rfl ?_
   refine r_v (q_loadc (v := .int .u64 y) rfl (by have := (h.f 1).own_rd.cell (u64V_get hg); simpa using this)) rfl ?_
   refine r_c rfl (x_call rfl (ref1_Put y (hm64 y (List.mem_of_getElem? hg)) h (fun w' h' => h'.own_rd) (by rw [List.length_append]; omega)) ?_)
   rintro _ w ⟨a2, c2, rfl, h⟩
   have e1 : vput m.length ++ (m.take k).flatMap vput ++ vput y = vput m.length ++ (m.take (k + 1)).flatMap vput := by rw [List.take_add_one, hg]; simp
   rw [e1] at h ⊢
   refine r_v (q_assignS rfl) rfl ?_
   refine r_nil ?_
   refine c_region ?_
   refine r_v (q_moveI rfl) rfl ?_; refine r_v (q_add rfl rfl) rfl ?_
   refine r_is (.int .i64 ((k + 1 : Nat) : Int)) (by rw [wrap64 (by omega) (by omega)]; rfl) ?_
   refine r_v (q_assignI rfl) rfl ?_
   exact r_nil ⟨(k + 1, a2, c2), ⟨rfl, rfl, rfl, rfl, trivial⟩, ⟨hlt, (h.f 1).drop⟩, by dsimp only; omega⟩
  ·obtain rfl : k = m.length := by simp at hc; omega
   rw [List.take_length] at h
   refine c_exit ⟨(a1, c1), ⟨rfl, rfl, ?_, trivial⟩, h⟩
   show Value.slice a1 (vput m.length ++ (m.take m.length).flatMap vput).length c1 = _
   rw [List.take_length]
 clear h
 rintro ⟨a2, c2⟩ w e h
 dsimp only at h ⊢
 have hvs := vputs_len m
 have hw64 : len64 (m.length - 1) ≤ 64 := len64_64 (by omega)
 refine c_seq (c_region ?_)
 refine r_v (q_moveS rfl) rfl ?_; refine r_v (q_moveS rfl) rfl ?_; refine r_v (q_moveS rfl) rfl ?_; refine r_v (q_len rfl) rfl ?_; refine r_v (q_sub rfl rfl) rfl ?_
 refine r_is (.int .i64 ((m.length - 1 : Nat) : Int)) (by rw [wrap64 (by omega) (by omega)]; congr 1; omega) ?_
 refine r_v (q_conv rfl) rfl ?_
 refine r_is (.int .u64 ((m.length - 1 : Nat) : Int)) (by rw [wrap_u64, Nat.mod_eq_of_lt (by omega)]) ?_
 refine r_c rfl (x_call rfl (ref4_width (by omega) h) ?_)
 rintro _ w ⟨rfl, h⟩
 refine r_c rfl (x_call rfl (ref4_pack (ls := u.map fun x => m.idxOf x) hw64 (by simp; exact hn) (by rw [List.length_append]; omega) (fun y hy => by obtain ⟨z, hz, rfl⟩ := List.mem_map.1 hy; have := List.idxOf_lt_length_of_mem (hmem z hz); omega) Reads.own Reads.own.cons.cons h) ?_)
 rintro _ w ⟨a3, c3, rfl, h⟩
 have e2 : vput m.length ++ m.flatMap vput ++ pack ((u.map fun x => m.idxOf x).flatMap fun y => bitsOf y (len64 (m.length - 1))) = dictBytes m u := by rw [flat_map_bits, List.append_assoc]; rfl
 rw [e2] at h ⊢
 refine r_v (q_assignS rfl) rfl ?_; refine r_v (q_assignB rfl) rfl ?_
 exact r_nil (c_ret (bq2 ⟨a3, c3, rfl, ((h.f 1).drop.f 1).drop.f 1 |>.drop⟩))
end
end Go.Proofs.YtjjacchnalemaaaGreatDoor

namespace Go.Hw
theorem tags_drop {k : Nat} (h : k < 6) : ([1, 2, 3, 4, 5, 6] : List Int).drop k = ((k + 1 : Nat) : Int) :: ([1, 2, 3, 4, 5, 6] : List Int).drop (k + 1) := by
 rcases (by omega : k = 0 ∨ k = 1 ∨ k = 2 ∨ k = 3 ∨ k = 4 ∨ k = 5) with rfl | rfl | rfl | rfl | rfl | rfl <;> rfl
end Go.Hw
namespace Go.Proofs.YtjjacchnalemaaaGreatDoor
open Go.Hw
set_option maxHeartbeats 4000000
set_option maxRecDepth 100000
section
variable {w0 w : World} {l : List HProp}
theorem suit_Best (hT : Tz w0) {sl : Option Addr} {c : Nat} {L : List Smp} (hw : ∀ s ∈ L, s.Wf) (hn : L.length ≤ 1073741824) (hr : Reads w0 l 2 sl L.length (smpsV L)) (h : St w0 l w) :
  Ret Tryz.prog 10 [.slice sl L.length c] w fun v w' => ∃ a c', v = .tuple [.int .i64 (suitBest L).1, .slice a (suitBest L).2.length c'].toArray ∧ St w0 (OwnB a c' (suitBest L).2 :: l) w' := by
 refine enter Tryz.func10 rfl Tryz.results10 Tryz.ntmps10 rfl ?_
 refine c_seq (c_region ?_)
 refine r_v (q_assignI rfl) rfl ?_; refine r_v (q_assignS rfl) rfl ?_
 refine r_nil ?_
 refine c_seq (c_region ?_)
 refine r_v (q_assignI rfl) rfl ?_; refine r_v (q_assignS rfl) rfl ?_
 refine r_nil ?_
 refine c_seq (c_seq (c_region ?_))
 refine r_v (q_assignI rfl) rfl ?_
 refine r_nil ?_
 refine c_block ?_
 refine c_loop (Γ := Nat × Int × List UInt8 × Option Addr × Nat) (fun k => [(0, .slice sl L.length c), (4, .int .i64 k.2.1), (5, .slice k.2.2.2.1 k.2.2.1.length k.2.2.2.2), (6, .int .i64 ((k.1 + 1 : Nat) : Int))])
  (fun k w => k.1 ≤ 6 ∧ bestA L (([1, 2, 3, 4, 5, 6] : List Int).drop k.1) k.2.1 k.2.2.1 = suitBest L ∧ St w0 (OwnB k.2.2.2.1 k.2.2.2.2 k.2.2.1 :: l) w) (fun k => 6 - k.1) (0, 0, [], none, 0) ⟨rfl, rfl, rfl, rfl, trivial⟩ ⟨Nat.zero_le _, rfl, St.ownNil _ _ h⟩ ?_
 clear h
 rintro ⟨k, best, out, a, c1⟩ w e ⟨hk, he, h⟩
 dsimp only at hk he h ⊢
 refine c_seq (c_seq (c_region ?_))
 refine r_v (q_moveI rfl) rfl ?_; refine r_v (q_leq rfl rfl) rfl ?_
 by_cases hlt : k < 6
 ·refine r_is (.bool true) (by simp; omega) ?_
  refine r_nil (c_true rfl (c_skip ?_))
  rw [tags_drop hlt, bestA] at he
  refine c_cut (Γ := Int × List UInt8 × Option Addr × Nat) (fun q => [(0, .slice sl L.length c), (4, .int .i64 q.1), (5, .slice q.2.2.1 q.2.1.length q.2.2.2), (6, .int .i64 ((k + 1 : Nat) : Int))])
   (fun q w => bestA L (([1, 2, 3, 4, 5, 6] : List Int).drop (k + 1)) q.1 q.2.1 = suitBest L ∧ St w0 (OwnB q.2.2.1 q.2.2.2 q.2.1 :: l) w) ?_ ?_
  ·refine c_block ?_
   refine c_seq (c_region ?_)
   refine r_v (q_moveI rfl) rfl ?_; refine r_v (q_moveS rfl) rfl ?_
   refine r_c rfl (x_call rfl (suit_Encode hT ((k + 1 : Nat) : Int) hw hn hr.cons h) ?_)
   rintro _ w ⟨a2, c2, rfl, h⟩
   refine r_v (q_moveT rfl) rfl ?_; refine r_v (q_ext rfl rfl) rfl ?_; refine r_v (q_ext rfl rfl) rfl ?_; refine r_v (q_assignS rfl) rfl ?_; refine r_v (q_assignB rfl) rfl ?_
   refine r_nil ?_
   refine c_seq (c_region ?_)
   cases hE : suitEnc ((k + 1 : Nat) : Int) L with
   | none =>
    rw [hE] at he h
    refine r_v (q_moveB rfl) rfl ?_; refine r_v (q_moveB rfl) rfl ?_; refine r_gn rfl rfl rfl ?_; refine r_gn rfl rfl rfl ?_; refine r_gn rfl rfl rfl ?_; refine r_gu rfl rfl ?_; refine r_gu rfl rfl ?_; refine r_gu rfl rfl ?_; refine r_gu rfl rfl ?_; refine r_gu rfl rfl ?_; refine r_gn rfl rfl rfl ?_; refine r_v (q_pick0 rfl rfl rfl) rfl ?_
    refine r_nil (c_false rfl (c_skip ?_))
    exact ⟨(best, out, a, c1), ⟨rfl, rfl, rfl, rfl, trivial⟩, he, h.drop⟩
   | some b =>
    rw [hE] at he h
    dsimp only at he
    have take : (best = 0 ∨ b.length < out.length) → bestA L (([1, 2, 3, 4, 5, 6] : List Int).drop (k + 1)) ((k + 1 : Nat) : Int) b = suitBest L := fun hh => by rw [if_pos hh] at he; exact he
    by_cases hb : best = 0
    ·refine r_v (q_moveB rfl) rfl ?_; refine r_v (q_moveB rfl) rfl ?_; refine r_gd rfl rfl ?_; refine r_v (q_moveI rfl) rfl ?_; refine r_gd rfl rfl ?_
     refine r_v (q_is (v' := .bool true) (q_eql rfl rfl) (by rw [hb]; rfl)) rfl ?_
     refine r_gd rfl rfl ?_; refine r_v (q_moveB rfl) rfl ?_; refine r_gn rfl rfl rfl ?_; refine r_gn rfl rfl rfl ?_; refine r_gn rfl rfl rfl ?_; refine r_gn rfl rfl rfl ?_; refine r_gn rfl rfl rfl ?_; refine r_gd rfl rfl ?_; refine r_v (q_pick1 rfl rfl rfl) rfl ?_; refine r_v (q_pick1 rfl rfl rfl) rfl ?_
     refine r_nil (c_true rfl ?_)
     refine c_region ?_
     refine r_v (q_moveI rfl) rfl ?_; refine r_v (q_moveS rfl) rfl ?_; refine r_v (q_assignI rfl) rfl ?_; refine r_v (q_assignS rfl) rfl ?_
     exact r_nil ⟨(((k + 1 : Nat) : Int), b, a2, c2), ⟨rfl, rfl, rfl, rfl, trivial⟩, take (.inl hb), (h.f 1).drop⟩
    ·refine r_v (q_moveB rfl) rfl ?_; refine r_v (q_moveB rfl) rfl ?_; refine r_gd rfl rfl ?_; refine r_v (q_moveI rfl) rfl ?_; refine r_gd rfl rfl ?_
     refine r_v (q_is (v' := .bool false) (q_eql rfl rfl) (by congr 1; rw [beq_eq_false_iff_ne]; exact hb)) rfl ?_
     refine r_gd rfl rfl ?_; refine r_v (q_moveB rfl) rfl ?_; refine r_gd rfl rfl ?_; refine r_v (q_moveS rfl) rfl ?_; refine r_gd rfl rfl ?_; refine r_v (q_len rfl) rfl ?_; refine r_gd rfl rfl ?_; refine r_v (q_moveS rfl) rfl ?_; refine r_gd rfl rfl ?_; refine r_v (q_len rfl) rfl ?_; refine r_gd rfl rfl ?_; refine r_v (q_lss rfl rfl) rfl ?_; refine r_gd rfl rfl ?_; refine r_v (q_pick0 rfl rfl rfl) rfl ?_; refine r_v (q_pick1 rfl rfl rfl) rfl ?_
     refine r_nil (c_cond (decide ((b.length : Int) < (out.length : Int))) rfl (fun hc => ?_) (fun hc => ?_))
     ·refine c_region ?_
      refine r_v (q_moveI rfl) rfl ?_; refine r_v (q_moveS rfl) rfl ?_; refine r_v (q_assignI rfl) rfl ?_; refine r_v (q_assignS rfl) rfl ?_
      exact r_nil ⟨(((k + 1 : Nat) : Int), b, a2, c2), ⟨rfl, rfl, rfl, rfl, trivial⟩, take (.inr (by simpa using hc)), (h.f 1).drop⟩
     ·refine c_skip ⟨(best, out, a, c1), ⟨rfl, rfl, rfl, rfl, trivial⟩, ?_, h.drop⟩
      rw [if_neg] at he
      ·exact he
      ·rintro (h | h)
       ·exact hb h
       ·simp at hc; omega
  clear h he
  rintro ⟨best, out, a, c1⟩ w e ⟨he, h⟩
  dsimp only at he h ⊢
  refine c_region ?_
  refine r_v (q_moveI rfl) rfl ?_; refine r_v (q_add rfl rfl) rfl ?_
  refine r_is (.int .i64 ((k + 1 + 1 : Nat) : Int)) (by rw [wrap64 (by omega) (by omega)]; rfl) ?_
  refine r_v (q_assignI rfl) rfl ?_
  exact r_nil ⟨(k + 1, best, out, a, c1), ⟨rfl, rfl, rfl, rfl, trivial⟩, ⟨hlt, he, h⟩, by dsimp only; omega⟩
 refine r_is (.bool false) (by simp; omega) ?_
 refine r_nil (c_false rfl ?_)
 have hk6 : k = 6 := by omega
 subst hk6
 have he : (best, out) = suitBest L := he
 refine c_exit ?_
 refine c_seq (c_region ?_)
 refine r_v (q_moveI rfl) rfl ?_; refine r_v (q_moveS rfl) rfl ?_; refine r_v (q_assignI rfl) rfl ?_; refine r_v (q_assignS rfl) rfl ?_
 refine r_nil ?_
 rw [← he]
 exact c_ret (bq2 ⟨a, c1, rfl, h⟩)
end
end Go.Proofs.YtjjacchnalemaaaGreatDoor

namespace Go.Proofs.YtjjacchnalemaaaGreatDoor
open Go.Hw
set_option maxHeartbeats 4000000
set_option maxRecDepth 100000
section
variable {w0 w : World} {l : List HProp} {p : Nat}

theorem heldN_one : heldN 1 = 1 := rfl
theorem time_ahead {s : RS} (h : St w0 (IsBR p s :: l) w) : Ret Tryz.prog 124 [.pointer (some ⟨p, 0, none⟩)] w fun v w' => v = .int .i64 ((aheadR 4 s).1 : Nat) ∧ St w0 (IsBR p (aheadR 4 s).2 :: l) w' := by
 refine enter Tryz.func124 rfl Tryz.results124 Tryz.ntmps124 rfl ?_
 refine c_seq (c_region ?_)
 refine r_v (q_assignI rfl) rfl ?_
 refine r_nil ?_
 refine c_seq (c_region ?_)
 refine r_v (q_assignI rfl) rfl ?_
 refine r_nil ?_
 refine c_cut (Γ := Unit) (fun _ => [(0, .pointer (some ⟨p, 0, none⟩)), (3, .int .i64 ((aheadR 4 s).1 : Nat))]) (fun _ w => St w0 (IsBR p (aheadR 4 s).2 :: l) w) ?_ ?_
 ·refine c_block ?_
  refine c_loop (Γ := Nat × Nat × RS) (fun k => [(0, .pointer (some ⟨p, 0, none⟩)), (3, .int .i64 k.1)])
   (fun k w => k.1 + k.2.1 = 4 ∧ (aheadR k.2.1 k.2.2).1 + k.1 = (aheadR 4 s).1 ∧ (aheadR k.2.1 k.2.2).2 = (aheadR 4 s).2 ∧ St w0 (IsBR p k.2.2 :: l) w) (fun k => k.2.1) (0, 4, s) ⟨rfl, rfl, trivial⟩ ⟨rfl, rfl, rfl, h⟩ ?_
  clear h
  rintro ⟨n, k, s'⟩ w e ⟨hk, h1, h2, h⟩
  dsimp only at hk h1 h2 h ⊢
  refine c_seq (c_seq (c_region ?_))
  refine r_v (q_moveI rfl) rfl ?_; refine r_v (q_lss rfl rfl) rfl ?_
  cases k with
  | zero =>
   refine r_is (.bool false) (by simp; omega) ?_
   refine r_v (q_moveB rfl) rfl ?_; refine r_gn rfl rfl rfl ?_; refine r_gn rfl rfl rfl ?_; refine r_gn rfl rfl rfl ?_; refine r_v (q_pick0 rfl rfl rfl) rfl ?_
   refine r_nil (c_false rfl ?_)
   refine c_exit ⟨(), ⟨rfl, ?_, trivial⟩, ?_⟩
   ·rw [← h1]; show Value.int .i64 _ = Value.int .i64 _; rw [aheadR, Nat.zero_add]
   ·rw [← h2]; exact h
  | succ k =>
   refine r_is (.bool true) (by simp; omega) ?_
   refine r_v (q_moveB rfl) rfl ?_; refine r_gd rfl rfl ?_; refine r_v (q_moveP rfl) rfl ?_; refine r_gd rfl rfl ?_
   refine r_c rfl (x_call rfl (bits_Get 1 h) ?_)
   rintro _ w ⟨rfl, h⟩
   rw [heldN_one] at h ⊢
   refine r_gd rfl rfl ?_; refine r_v (q_eql rfl rfl) rfl ?_
   rw [aheadR] at h1 h2
   by_cases hb : (s'.get 1).1 = 1
   ·rw [if_pos hb] at h1 h2
    refine r_is (.bool true) (by rw [hb]; rfl) ?_
    refine r_v (q_pick1 rfl rfl rfl) rfl ?_
    refine r_nil (c_true rfl (c_skip ?_))
    refine c_block ?_
    refine c_region ?_
    refine r_v (q_moveI rfl) rfl ?_; refine r_v (q_add rfl rfl) rfl ?_
    refine r_is (.int .i64 ((n + 1 : Nat) : Int)) (by rw [wrap64 (by omega) (by omega)]; rfl) ?_
    refine r_v (q_assignI rfl) rfl ?_
    exact r_nil ⟨(n + 1, k, (s'.get 1).2), ⟨rfl, rfl, trivial⟩, ⟨by dsimp only; omega, by dsimp only at h1 ⊢; omega, h2, h⟩, by dsimp only; omega⟩
   ·rw [if_neg hb] at h1 h2
    refine r_is (.bool false) (by congr 1; rw [beq_eq_false_iff_ne]; omega) ?_
    refine r_v (q_pick1 rfl rfl rfl) rfl ?_
    refine r_nil (c_false rfl ?_)
    refine c_exit ⟨(), ⟨rfl, ?_, trivial⟩, ?_⟩
    ·rw [← h1]; show Value.int .i64 _ = Value.int .i64 _; rw [Nat.zero_add]
    ·rw [← h2]; exact h
 clear h
 rintro ⟨⟩ w e h
 refine c_seq (c_region ?_)
 refine r_v (q_moveI rfl) rfl ?_; refine r_v (q_assignI rfl) rfl ?_
 refine r_nil ?_
 exact c_ret (bq1 ⟨rfl, h⟩)
theorem longs_le (k : Nat) : longs k ≤ 64 := by
 unfold longs
 match k with
 | 0 | 1 | 2 | 3 | 4 => decide
 | k + 5 => exact (by decide : (0 : Nat) ≤ 64)
theorem longs_get {k : Nat} (h : k ≤ 4) : (i64V [0, 7, 9, 12, 64])[k]? = some (.int .i64 (longs k : Nat)) := by
 rcases (by omega : k = 0 ∨ k = 1 ∨ k = 2 ∨ k = 3 ∨ k = 4) with rfl | rfl | rfl | rfl | rfl <;> rfl
theorem sext_shift {g n : Nat} (hg : g < 2 ^ n) (hn : n ≤ 64) (h0 : n ≠ 0) : (sg (g * 2 ^ (64 - n))).fdiv (2 ^ (64 - n)) = sext g n ∧ g * 2 ^ (64 - n) < 18446744073709551616 := by
 have hP : 0 < 2 ^ (64 - n) := Nat.two_pow_pos _
 have h64 : 2 ^ n * 2 ^ (64 - n) = 18446744073709551616 := by rw [← Nat.pow_add, show n + (64 - n) = 64 by omega]
 have h63 : 2 ^ (n - 1) * 2 ^ (64 - n) = 9223372036854775808 := by rw [← Nat.pow_add, show n - 1 + (64 - n) = 63 by omega]
 have hlt : g * 2 ^ (64 - n) < 18446744073709551616 := by rw [← h64]; exact Nat.mul_lt_mul_of_pos_right hg hP
 refine ⟨?_, hlt⟩
 have hPi : ((2 : Int) ^ (64 - n)) = ((2 ^ (64 - n) : Nat) : Int) := by simp
 have hni : ((2 : Int) ^ n) = ((2 ^ n : Nat) : Int) := by simp
 unfold sext
 rw [if_neg h0, hPi, hni, Int.fdiv_eq_ediv_of_nonneg _ (by omega)]
 unfold sg
 by_cases hl : g < 2 ^ (n - 1)
 ·rw [if_pos hl, if_pos (by rw [← h63]; exact Nat.mul_lt_mul_of_pos_right hl hP), ← Int.natCast_ediv, Nat.mul_div_cancel _ hP]
 ·rw [if_neg hl, if_neg (by rw [← h63]; exact Nat.not_lt.2 (Nat.mul_le_mul_right _ (Nat.not_lt.1 hl)))]
  have e : ((g * 2 ^ (64 - n) : Nat) : Int) - 18446744073709551616 = ((g : Int) - ((2 ^ n : Nat) : Int)) * ((2 ^ (64 - n) : Nat) : Int) := by
   rw [Int.sub_mul, ← Int.natCast_mul, ← Int.natCast_mul, h64]; rfl
  rw [e, Int.mul_ediv_cancel _ (by omega)]

theorem time_next {s : RS} (h : St w0 (IsBR p s :: l) w) : Ret Tryz.prog 82 [.pointer (some ⟨p, 0, none⟩)] w fun v w' => v = .tuple [.int .i64 (nextT s).1, .bool (nextOk s)].toArray ∧ St w0 (IsBR p (nextT s).2 :: l) w' := by
 refine enter Tryz.func82 rfl Tryz.results82 Tryz.ntmps82 rfl ?_
 refine c_seq (c_region ?_)
 refine r_v (q_assignI rfl) rfl ?_; refine r_v (q_assignB rfl) rfl ?_
 refine r_nil ?_
 refine c_seq (c_region ?_)
 refine r_v (q_moveP rfl) rfl ?_
 refine r_c rfl (x_call rfl (time_ahead h) ?_)
 rintro _ w ⟨rfl, h⟩
 refine r_v (q_assignI rfl) rfl ?_
 refine r_nil ?_
 have hle := aheadR_le 4 s
 have hnT : nextT s = (sext ((aheadR 4 s).2.get (longs (aheadR 4 s).1)).1 (longs (aheadR 4 s).1), ((aheadR 4 s).2.get (longs (aheadR 4 s).1)).2) := rfl
 have hnO : nextOk s = decide ((which (nextT s).1).bits = longs (aheadR 4 s).1) := rfl
 generalize hk : (aheadR 4 s).1 = k at *
 generalize (aheadR 4 s).2 = s1 at *
 have hll := longs_le k
 refine c_seq (c_region ?_)
 refine r_c rfl (x_bslice (r := i64V [0, 7, 9, 12, 64]) h rfl rfl rfl fun b w h => ?_)
 refine r_v (q_moveI rfl) rfl ?_
 refine r_v (q_idx (o' := k) rfl rfl rfl (by omega) (by simp)) rfl ?_
 refine r_v (q_load (v := .int .i64 (longs k : Nat)) rfl (h.b 0 rfl) (longs_get hle)) rfl ?_
 replace h := h.drop
 refine r_v (q_assignI rfl) rfl ?_
 refine r_nil ?_
 have hgl := RS.get_lt s1 (longs k)
 refine c_seq (c_region ?_)
 refine r_v (q_moveP rfl) rfl ?_; refine r_v (q_moveI rfl) rfl ?_
 refine r_c rfl (x_call rfl (bits_Get (longs k) h) ?_)
 rintro _ w ⟨rfl, h⟩
 rw [heldN_nat hll] at h ⊢
 generalize hg : s1.get (longs k) = gs at *
 obtain ⟨g, s2⟩ := gs
 dsimp only at h hgl hnT ⊢
 refine r_v (q_moveI rfl) rfl ?_; refine r_v (q_sub rfl rfl) rfl ?_
 refine r_is (.int .i64 ((64 - longs k : Nat) : Int)) (by rw [wrap64 (by omega) (by omega)]; congr 1; omega) ?_
 refine r_v (q_is (v' := .int .u64 ((g * 2 ^ (64 - longs k) % 18446744073709551616 : Nat) : Int)) (q_shl rfl rfl (by omega)) (congrArg (Value.int .u64) (shl_u64 g (64 - longs k) (by omega)))) rfl ?_
 refine r_v (q_conv rfl) rfl ?_
 refine r_is (.int .i64 (sg (g * 2 ^ (64 - longs k) % 18446744073709551616))) (by rw [wrap_sg (Nat.mod_lt _ (by decide))]) ?_
 refine r_v (q_moveI rfl) rfl ?_; refine r_v (q_max rfl rfl) rfl ?_; refine r_v (q_sub rfl rfl) rfl ?_
 refine r_is (.int .i64 ((64 - max (longs k) 1 : Nat) : Int)) (by rw [wrap64 (by omega) (by omega)]; congr 1; omega) ?_
 refine r_v (q_shr rfl rfl (by omega)) rfl ?_
 refine r_int fun d hd => ?_
 refine r_v (q_assignI rfl) rfl ?_
 refine r_nil ?_
 refine c_cut (Γ := Unit) (fun _ => [(5, .int .i64 (longs k : Nat)), (6, .int .i64 (sext g (longs k)))]) (fun _ w => St w0 (IsBR p s2 :: l) w) ?_ ?_
 ·refine c_seq (c_region ?_)
  refine r_v (q_moveI rfl) rfl ?_; refine r_v (q_eql rfl rfl) rfl ?_
  by_cases h0 : longs k = 0
  ·refine r_is (.bool true) (by rw [h0]; rfl) ?_
   refine r_nil (c_true rfl ?_)
   refine c_region ?_
   refine r_v (q_assignI rfl) rfl ?_
   refine r_nil ⟨(), ⟨rfl, ?_, trivial⟩, h⟩
   show Value.int .i64 0 = _
   unfold sext; rw [if_pos h0]
  ·refine r_is (.bool false) (by congr 1; rw [beq_eq_false_iff_ne]; omega) ?_
   refine r_nil (c_false rfl (c_skip ⟨(), ⟨rfl, ?_, trivial⟩, h⟩))
   show Value.int .i64 d = _
   obtain ⟨h1, h2⟩ := sext_shift hgl hll h0
   rw [hd, Nat.mod_eq_of_lt h2, show max (longs k) 1 = longs k by omega, Int.toNat_natCast, Nat.min_eq_left (show 64 - longs k ≤ IntKind.i64.bits by show 64 - longs k ≤ 64; omega), h1]
 clear h hd d
 rintro ⟨⟩ w e h
 refine c_seq (c_region ?_)
 refine r_v (q_moveI rfl) rfl ?_; refine r_v (q_moveI rfl) rfl ?_
 refine r_c rfl (x_call rfl (time_which (sext g (longs k)) h) ?_)
 rintro _ w ⟨rfl, h⟩
 refine r_v (q_field (ft := 3) (o := 2) Tryz.underlying112 (by kernel_rfl) rfl rfl) rfl ?_
 refine r_v (q_moveI rfl) rfl ?_; refine r_v (q_eql rfl rfl) rfl ?_
 refine r_is (.bool (nextOk s)) (by
  rw [hnO, hnT]
  dsimp only
  congr 1
  rw [Bool.eq_iff_iff, beq_iff_eq, decide_eq_true_eq]
  exact ⟨fun h => by omega, fun h => by rw [h]⟩) ?_
 refine r_v (q_assignI rfl) rfl ?_; refine r_v (q_assignB rfl) rfl ?_
 refine r_nil ?_
 rw [hnT]
 exact c_ret (bq2 ⟨rfl, h⟩)

def askN (n : Int) : Nat := (min (max n 0) 65535).toNat
theorem askN_le (n : Int) : askN n ≤ 65535 := by unfold askN; omega
theorem time_Decode {s : RS} (n : Int) (h : St w0 (IsBR p s :: l) w) : Ret Tryz.prog 44 [.pointer (some ⟨p, 0, none⟩), .int .i64 n] w fun v w' =>
  (timesDec (askN n) s = none ∧ v = .tuple [.slice none 0 0, .bool false].toArray ∧ ∃ s', St w0 (IsBR p s' :: l) w') ∨
  (∃ x a c, timesDec (askN n) s = some x ∧ v = .tuple [.slice a x.1.length c, .bool true].toArray ∧ St w0 (Own 2 1 a x.1.length c (i64V x.1) :: IsBR p x.2 :: l) w') := by
 have hm := askN_le n
 refine enter Tryz.func44 rfl Tryz.results44 Tryz.ntmps44 rfl ?_
 refine c_seq (c_region ?_)
 refine r_v (q_assignS rfl) rfl ?_; refine r_v (q_assignB rfl) rfl ?_
 refine r_nil ?_
 refine c_seq (c_region ?_)
 refine r_v (q_moveI rfl) rfl ?_; refine r_v (q_max rfl rfl) rfl ?_; refine r_v (q_min rfl rfl) rfl ?_
 refine r_is (.int .i64 (askN n)) (by unfold askN; congr 1; omega) ?_
 generalize askN n = m at hm ⊢
 refine r_v (q_assignI rfl) rfl ?_
 refine r_nil ?_
 refine c_seq (c_region ?_)
 refine r_v (q_assignS rfl) rfl ?_
 refine r_nil ?_
 refine c_seq (c_region ?_)
 refine r_v (q_assignI rfl) rfl ?_; refine r_v (q_assignI rfl) rfl ?_
 refine r_nil ?_
 refine c_seq (c_seq (c_region ?_))
 refine r_v (q_moveI rfl) rfl ?_; refine r_v (q_moveI rfl) rfl ?_
 refine r_nil ?_
 refine c_block ?_
 refine c_loop (Γ := Nat × List Int × Nat × Nat × RS × Option Addr × Nat) (fun k => [(0, .pointer (some ⟨p, 0, none⟩)), (6, .slice k.2.2.2.2.2.1 k.2.1.length k.2.2.2.2.2.2), (7, .int .u64 k.2.2.1), (8, .int .u64 k.2.2.2.1), (15, .int .i64 m), (16, .int .i64 k.1)])
  (fun k w => k.1 ≤ m ∧ k.2.1.length = k.1 ∧ k.2.2.1 < 18446744073709551616 ∧ k.2.2.2.1 < 18446744073709551616 ∧ ((k.1 = 0 ∧ k.2.2.2.1 = 0 ∧ k.2.2.2.2.1 = s) ∨ (0 < k.1 ∧ k.2.2.2.2.1.bad = false ∧ timesDec m s = (timesDecA (m - k.1) k.2.2.1 k.2.2.2.1 k.2.2.2.2.1).map fun r => (k.2.1 ++ r.1, r.2)))
   ∧ St w0 (Own 2 1 k.2.2.2.2.2.1 k.2.1.length k.2.2.2.2.2.2 (i64V k.2.1) :: IsBR p k.2.2.2.2.1 :: l) w)
  (fun k => m - k.1) (0, [], 0, 0, s, none, 0) ⟨rfl, rfl, rfl, rfl, rfl, rfl, trivial⟩ ⟨Nat.zero_le _, rfl, (by decide : (0 : Nat) < 18446744073709551616), (by decide : (0 : Nat) < 18446744073709551616), .inl ⟨rfl, rfl, rfl⟩, St.ownNil _ _ h⟩ ?_
 clear h
 rintro ⟨i, out, was, step, s', a, c⟩ w e ⟨him, hol, hwas, hstep, inv, h⟩
 dsimp only at him hol hwas hstep inv h ⊢
 refine c_seq (c_region ?_)
 refine r_v (q_lss rfl rfl) rfl ?_
 refine r_nil ?_
 refine c_seq (c_cond (decide ((i : Int) < (m : Int))) rfl (fun hc => ?_) (fun hc => ?_))
 ·
  have hlt : i < m := by simp at hc; omega
  refine c_skip ?_
  refine c_seq (c_block ?_)
  refine c_seq (c_region ?_)
  refine r_v (q_moveI rfl) rfl ?_; refine r_v (q_assignI rfl) rfl ?_
  refine r_nil ?_
  refine c_cut (Γ := Nat × Nat × RS) (fun k => [(0, .pointer (some ⟨p, 0, none⟩)), (6, .slice a out.length c), (7, .int .u64 k.1), (8, .int .u64 k.2.1), (15, .int .i64 m), (16, .int .i64 i)])
   (fun k w => k.1 < 18446744073709551616 ∧ k.2.1 < 18446744073709551616 ∧ (timesDec m s = if k.2.2.bad = true then none else (timesDecA (m - (i + 1)) k.1 k.2.1 k.2.2).map fun r => (out ++ sg k.1 :: r.1, r.2)) ∧ St w0 (Own 2 1 a out.length c (i64V out) :: IsBR p k.2.2 :: l) w) ?_ ?_
  ·refine c_seq (c_region ?_)
   refine r_v (q_moveI rfl) rfl ?_; refine r_v (q_eql rfl rfl) rfl ?_
   rcases inv with ⟨hi0, hs0, rfl⟩ | ⟨hi0, hbad, inv⟩
   ·refine r_is (.bool true) (by subst hi0; rfl) ?_
    refine r_nil (c_true rfl ?_)
    refine c_region ?_
    refine r_v (q_moveP rfl) rfl ?_
    refine r_c rfl (x_call rfl (bits_Get 64 (h.f 1)) ?_)
    rintro _ w ⟨rfl, h⟩
    rw [show heldN 64 = 64 from rfl] at h ⊢
    refine r_v (q_assignI rfl) rfl ?_
    refine r_nil ⟨((s'.get 64).1, step, (s'.get 64).2), ⟨rfl, rfl, rfl, rfl, rfl, rfl, trivial⟩, RS.get_lt s' 64, hstep, ?_, h.f 1⟩
    dsimp only
    have : out = [] := List.eq_nil_of_length_eq_zero (by omega)
    subst this
    rw [hs0, hi0]
    cases m with
    | zero => omega
    | succ m => rfl
   ·refine r_is (.bool false) (by simp; omega) ?_
    refine r_nil (c_false rfl ?_)
    refine c_seq (c_region ?_)
    refine r_v (q_moveP rfl) rfl ?_
    refine r_c rfl (x_call rfl (time_next (h.f 1)) ?_)
    rintro _ w ⟨rfl, h⟩
    refine r_v (q_moveT rfl) rfl ?_; refine r_v (q_ext rfl rfl) rfl ?_; refine r_v (q_ext rfl rfl) rfl ?_; refine r_v (q_assignI rfl) rfl ?_; refine r_v (q_assignB rfl) rfl ?_
    refine r_nil ?_
    refine c_seq (c_seq (c_region ?_))
    refine r_v (q_moveB rfl) rfl ?_; refine r_v (q_not rfl) rfl ?_
    rw [show m - i = (m - (i + 1)) + 1 by omega, timesDecA] at inv
    refine r_nil ?_
    refine c_cond (!nextOk s') rfl (fun hc => ?_) (fun hc => ?_)
    ·
     have hno : nextOk s' = false := by simpa using hc
     refine c_seq (c_region ?_)
     refine r_v (q_assignS rfl) rfl ?_; refine r_v (q_assignB rfl) rfl ?_
     refine r_nil ?_
     rw [if_neg (by rw [hno]; simp)] at inv
     exact c_ret (bq2 (.inl ⟨inv, rfl, _, (h.f 1).drop⟩))
    have hok : nextOk s' = true := by simpa using hc
    refine c_skip ?_
    refine c_seq (c_region ?_)
    refine r_v (q_moveI rfl) rfl ?_; refine r_v (q_moveI rfl) rfl ?_; refine r_v (q_conv rfl) rfl ?_
    refine r_is (.int .u64 (us (nextT s').1 : Nat)) (by rw [wrap_us]) ?_
    refine r_v (q_add rfl rfl) rfl ?_
    refine r_is (.int .u64 (summ step (us (nextT s').1) : Nat)) (by rw [wrap_summ]) ?_
    refine r_v (q_assignI rfl) rfl ?_
    refine r_nil ?_
    refine c_region ?_
    refine r_v (q_moveI rfl) rfl ?_; refine r_v (q_moveI rfl) rfl ?_; refine r_v (q_add rfl rfl) rfl ?_
    refine r_is (.int .u64 (summ was (summ step (us (nextT s').1)) : Nat)) (by rw [wrap_summ]) ?_
    refine r_v (q_assignI rfl) rfl ?_
    refine r_nil ⟨(summ was (summ step (us (nextT s').1)), summ step (us (nextT s').1), (nextT s').2), ⟨rfl, rfl, rfl, rfl, rfl, rfl, trivial⟩, Nat.mod_lt _ (by decide), Nat.mod_lt _ (by decide), ?_, h.f 1⟩
    rw [inv]
    dsimp only
    cases hb : (nextT s').2.bad with
    | true => rw [if_neg (by simp), if_pos rfl]; rfl
    | false => rw [if_pos ⟨hok, rfl⟩, if_neg (by simp), Option.map_map]; rfl
  clear h inv
  rintro ⟨was', step', s2⟩ w e ⟨hw', hs', inv, h⟩
  dsimp only at hw' hs' inv h ⊢
  refine c_seq (c_seq (c_region ?_))
  refine r_v (q_moveP rfl) rfl ?_
  refine r_c rfl (x_call rfl (bits_Ok (h.f 1)) ?_)
  rintro _ w ⟨rfl, h⟩
  refine r_v (q_not rfl) rfl ?_
  refine r_nil ?_
  refine c_cond (!!s2.bad) rfl (fun hc => ?_) (fun hc => ?_)
  ·
   have hb : s2.bad = true := by simpa using hc
   refine c_seq (c_region ?_)
   refine r_v (q_assignS rfl) rfl ?_; refine r_v (q_assignB rfl) rfl ?_
   refine r_nil ?_
   rw [if_pos hb] at inv
   exact c_ret (bq2 (.inl ⟨inv, rfl, _, (h.f 1).drop⟩))
  have hb : s2.bad = false := by simpa using hc
  rw [if_neg (by rw [hb]; simp)] at inv
  refine c_skip ?_
  refine c_region ?_
  refine r_v (q_moveS rfl) rfl ?_; refine r_v (q_moveI rfl) rfl ?_; refine r_v (q_conv rfl) rfl ?_
  refine r_is (.int .i64 (sg was')) (by rw [wrap_sg hw']) ?_
  refine r_c rfl (x_bslice (r := i64V [sg was']) (h.f 1) rfl rfl rfl fun b w h => ?_)
  refine r_c rfl (x_append' (ys := i64V [sg was']) (zs := i64V (out ++ [sg was'])) (m3 := (out ++ [sg was']).length) (h.f 1) rfl rfl ⟨rfl, .inr ⟨b, 0, rfl, at_of (h.b 0 rfl) rfl⟩⟩ (i64V_one _) (by simp) (by simp [i64V]) (by simp; omega) (by simp; omega) rfl fun a' c' w _ h => ?_)
  refine r_v (q_assignS rfl) rfl ?_
  refine r_nil ?_
  refine c_region ?_
  refine r_v (q_add rfl rfl) rfl ?_
  refine r_is (.int .i64 ((i + 1 : Nat) : Int)) (by rw [wrap64 (by omega) (by omega)]; rfl) ?_
  refine r_v (q_moveI rfl) rfl ?_
  refine r_nil ⟨(i + 1, out ++ [sg was'], was', step', s2, a', c'), ⟨rfl, rfl, rfl, rfl, rfl, rfl, trivial⟩, ⟨hlt, by dsimp only; simp; omega, hw', hs', .inr ⟨Nat.succ_pos _, hb, ?_⟩, (h.f 1).drop⟩, by dsimp only; omega⟩
  rw [inv]
  dsimp only
  congr 1
  funext r
  simp
 have hin : i = m := by simp at hc; omega
 refine c_exit ?_
 refine c_seq (c_seq (c_region ?_))
 refine r_v (q_moveP rfl) rfl ?_
 refine r_c rfl (x_call rfl (bits_Ok (h.f 1)) ?_)
 rintro _ w ⟨rfl, h⟩
 refine r_v (q_not rfl) rfl ?_
 refine r_nil ?_
 have key : timesDec m s = if s'.bad = true then none else some (out, s') := by
  rcases inv with ⟨hi0, hs0, rfl⟩ | ⟨hi0, hbad, inv⟩
  ·have : out = [] := List.eq_nil_of_length_eq_zero (by omega)
   subst this
   rw [← hin, hi0]; rfl
  ·rw [inv, hin, Nat.sub_self, hbad]
   simp [timesDecA]
 refine c_cond (!!s'.bad) rfl (fun hc => ?_) (fun hc => ?_)
 ·
  refine c_seq (c_region ?_)
  refine r_v (q_assignS rfl) rfl ?_; refine r_v (q_assignB rfl) rfl ?_
  refine r_nil ?_
  rw [if_pos (by simpa using hc)] at key
  exact c_ret (bq2 (.inl ⟨key, rfl, _, (h.f 1).drop⟩))
 rw [if_neg (by simpa using hc)] at key
 refine c_skip ?_
 refine c_seq (c_region ?_)
 refine r_v (q_moveS rfl) rfl ?_; refine r_v (q_assignS rfl) rfl ?_; refine r_v (q_assignB rfl) rfl ?_
 refine r_nil ?_
 exact c_ret (bq2 (.inr ⟨(out, s'), a, c, key, rfl, h.f 1⟩))
end
end Go.Proofs.YtjjacchnalemaaaGreatDoor

namespace Go.Hw
theorem timesDecA_i64 : ∀ (k was step : Nat) (s : RS) (x : List Int × RS), timesDecA k was step s = some x → ∀ t ∈ x.1, I64 t
 | 0, _, _, _, x, h => by cases h; exact fun _ h => by cases h
 | k + 1, was, step, s, x, h => by
  rw [timesDecA] at h
  split at h
  ·obtain ⟨y, h1, rfl⟩ := Option.map_eq_some_iff.1 h
   intro t ht
   rcases List.mem_cons.1 ht with rfl | ht
   ·exact sg_wf (Nat.mod_lt _ (by decide))
   ·exact timesDecA_i64 k _ _ _ y h1 t ht
  ·cases h
theorem timesDec_i64 {n : Nat} {s : RS} {x : List Int × RS} (h : timesDec n s = some x) : ∀ t ∈ x.1, I64 t := by
 cases n with
 | zero => unfold timesDec at h; dsimp only at h; split at h <;> cases h; exact fun _ h => by cases h
 | succ k =>
  unfold timesDec at h; dsimp only at h; split at h
  ·cases h
  ·obtain ⟨y, h1, rfl⟩ := Option.map_eq_some_iff.1 h
   intro t ht
   rcases List.mem_cons.1 ht with rfl | ht
   ·exact sg_wf (RS.get_lt s 64)
   ·exact timesDecA_i64 k _ _ _ y h1 t ht
theorem zipS_len : ∀ (x : List Int) (v : List Nat), x.length = v.length → (zipS x v).length = x.length
 | [], _, _ => by simp [zipS]
 | _ :: _, [], h => by simp at h
 | t :: x, a :: v, h => by simp [zipS, zipS_len x v (by simpa using h)]
theorem zipS_wf : ∀ (x : List Int) (v : List Nat), (∀ t ∈ x, I64 t) → (∀ a ∈ v, a < 18446744073709551616) → ∀ s ∈ zipS x v, s.Wf
 | [], _, _, _, s, h => by simp [zipS] at h
 | _ :: _, [], _, _, s, h => by simp [zipS] at h
 | t :: x, a :: v, hx, hv, s, h => by
  rw [zipS] at h
  rcases List.mem_cons.1 h with rfl | h
  ·exact ⟨hx t (List.mem_cons_self ..), by dsimp only; omega, by have := hv a (List.mem_cons_self ..); dsimp only; omega⟩
  ·exact zipS_wf x v (fun y hy => hx y (List.mem_cons_of_mem _ hy)) (fun y hy => hv y (List.mem_cons_of_mem _ hy)) s h
theorem zipS_snoc : ∀ (x : List Int) (v : List Nat) (k : Nat) (t : Int) (a : Nat), x[k]? = some t → v[k]? = some a → zipS (x.take (k + 1)) (v.take (k + 1)) = zipS (x.take k) (v.take k) ++ [⟨t, a⟩]
 | [], _, _, _, _, h, _ => by simp at h
 | _ :: _, [], _, _, _, _, h => by simp at h
 | s :: x, b :: v, 0, t, a, h, h' => by simp at h h'; subst h; subst h'; simp [zipS]
 | s :: x, b :: v, k + 1, t, a, h, h' => by
  have := zipS_snoc x v k t a (by simpa using h) (by simpa using h')
  rw [List.take_succ_cons, List.take_succ_cons, zipS, this, List.take_succ_cons, List.take_succ_cons, zipS]
  rfl
theorem take_len1 {α : Type} {x : List α} {k : Nat} (h : k ≤ x.length) : (x.take k).length = k := by rw [List.length_take, Nat.min_eq_left h]
theorem conv_nat {x : Nat} (h : x ≤ 9223372036854775807) : IntKind.u64.wrap (x : Int) = (x : Int) := by
 unfold IntKind.wrap
 simp [IntKind.signed, IntKind.bits]
 omega
end Go.Hw
namespace Go.Proofs.YtjjacchnalemaaaGreatDoor
open Go.Hw
set_option maxHeartbeats 4000000
set_option maxRecDepth 100000
section
variable {w0 w : World} {l : List HProp}
theorem askN_nat {n : Nat} (h : n ≤ 65535) : askN (n : Int) = n := by unfold askN; omega
theorem bytes_Equal {s1 s2 : Option Addr} {c1 c2 : Nat} {b1 b2 : List UInt8} (h : St w0 l w) (h1 : ∀ w', St w0 l w' → Rd w' 1 s1 b1.length (bytesV b1)) (h2 : ∀ w', St w0 l w' → Rd w' 1 s2 b2.length (bytesV b2)) :
  Ret Tryz.prog 47 [.slice s1 b1.length c1, .slice s2 b2.length c2] w fun v w' => v = .bool (decide (b1 = b2)) ∧ St w0 l w' := by
 refine enter Tryz.func47 rfl Tryz.results47 Tryz.ntmps47 rfl ?_
 refine c_seq (c_region ?_)
 refine r_v (q_assignB rfl) rfl ?_
 refine r_nil ?_
 refine c_seq (c_region ?_)
 refine r_v (q_moveS rfl) rfl ?_
 refine r_v (q_btos rfl (h1 _ h)) rfl ?_
 refine r_v (q_moveS rfl) rfl ?_
 refine r_v (q_btos rfl (h2 _ h)) rfl ?_
 refine r_v (q_streq rfl rfl) rfl ?_; refine r_v (q_assignB rfl) rfl ?_
 refine r_nil ?_
 refine c_ret (bq1 ⟨?_, h⟩)
 show Value.bool (b1.toArray.toList == b2.toArray.toList) = _
 congr 1
 rw [Bool.eq_iff_iff]
 simp

def ReadOk (tag : Int) : Prop := ∀ {w0 w : World} {l : List HProp} {sl : Option Addr} {c : Nat} {bs : List UInt8} {n : Nat}, Tz w0 → Reads w0 l 1 sl bs.length (bytesV bs) → bs.length ≤ 140737488355328 → bs.length ≤ c → n ≤ 65535 → St w0 l w →
 Ret Tryz.prog 46 [.int .i64 tag, .slice sl bs.length c, .int .i64 (n : Int)] w fun v w' => ∃ a c' xs b, v = .tuple [.slice a xs.length c', .bool b].toArray ∧ valuesDec tag bs n = (if b = true then some xs else none) ∧ (b = true → xs.length = n ∧ ∀ x ∈ xs, x < 18446744073709551616) ∧ St w0 (OwnU a c' xs :: l) w'

theorem suit_Decode (hT : Tz w0) {tag : Int} (hread : ReadOk tag) {sl : Option Addr} {c : Nat} {bs : List UInt8} (n : Int) (hn : bs.length ≤ 140737488355328) (hc : bs.length ≤ c) (hr : Reads w0 l 1 sl bs.length (bytesV bs)) (h : St w0 l w) :
  Ret Tryz.prog 14 [.int .i64 tag, .slice sl bs.length c, .int .i64 n] w fun v w' => ∃ a c', v = .tuple [.slice a ((suitDec tag bs n).getD []).length c', .bool (suitDec tag bs n).isSome].toArray ∧ (∀ L, suitDec tag bs n = some L → (L.length : Int) = n ∧ ∀ s ∈ L, s.Wf) ∧ St w0 (OwnS a c' ((suitDec tag bs n).getD []) :: l) w' := by
 have hk := vget_le bs
 have hsz := vget_lt bs
 have hdef : suitDec tag bs n = _ := rfl
 conv at hdef => rhs; unfold suitDec
 refine enter Tryz.func14 rfl Tryz.results14 Tryz.ntmps14 rfl ?_
 refine c_seq (c_region ?_)
 refine r_v (q_assignS rfl) rfl ?_; refine r_v (q_assignB rfl) rfl ?_
 refine r_nil ?_
 refine c_seq (c_region ?_)
 refine r_v (q_moveS rfl) rfl ?_
 refine r_c rfl (x_call rfl (vint_Get h hr.rd hn) ?_)
 rintro _ w ⟨rfl, h⟩
 refine r_v (q_moveT rfl) rfl ?_; refine r_v (q_ext rfl rfl) rfl ?_; refine r_v (q_ext rfl rfl) rfl ?_; refine r_v (q_assignI rfl) rfl ?_; refine r_v (q_assignI rfl) rfl ?_
 refine r_nil ?_
 generalize (vget bs).1 = size at hsz hdef ⊢
 generalize (vget bs).2 = k at hk hdef ⊢
 refine c_cut (Γ := Unit) (fun _ => [(0, .int .i64 tag), (1, .slice sl bs.length c), (2, .int .i64 n), (8, .int .u64 size), (9, .int .i64 k)]) (fun _ w => (¬ (k = 0 ∨ n < 0 ∨ 65535 < n ∨ bs.length - k < size)) ∧ St w0 l w) ?_ ?_
 ·refine c_seq (c_region ?_)
  have bad : ∀ {w : World}, (k = 0 ∨ n < 0 ∨ 65535 < n ∨ bs.length - k < size) → St w0 l w → ∃ a c', Value.tuple [.slice none 0 0, .bool false].toArray = .tuple [.slice a ((suitDec tag bs n).getD []).length c', .bool (suitDec tag bs n).isSome].toArray ∧ (∀ L, suitDec tag bs n = some L → (L.length : Int) = n ∧ ∀ s ∈ L, s.Wf) ∧ St w0 (OwnS a c' ((suitDec tag bs n).getD []) :: l) w := fun hb h => by
   rw [if_pos hb] at hdef
   rw [hdef]
   exact ⟨none, 0, rfl, (fun _ h => by cases h), St.ownNil _ _ h⟩
  by_cases g1 : k = 0
  ·refine r_v (q_moveI rfl) rfl ?_
   refine r_v (q_is (v' := .bool true) (q_eql rfl rfl) (by rw [g1]; rfl)) rfl ?_
   refine r_v (q_moveB rfl) rfl ?_; refine r_gn rfl rfl rfl ?_; refine r_gn rfl rfl rfl ?_; refine r_v (q_pick1 rfl rfl rfl) rfl ?_; refine r_v (q_moveB rfl) rfl ?_; refine r_gn rfl rfl rfl ?_; refine r_gn rfl rfl rfl ?_; refine r_v (q_pick1 rfl rfl rfl) rfl ?_; refine r_v (q_moveB rfl) rfl ?_; refine r_gn rfl rfl rfl ?_; refine r_gn rfl rfl rfl ?_; refine r_gn rfl rfl rfl ?_; refine r_gn rfl rfl rfl ?_; refine r_gn rfl rfl rfl ?_; refine r_gn rfl rfl rfl ?_; refine r_gn rfl rfl rfl ?_; refine r_v (q_pick1 rfl rfl rfl) rfl ?_
   refine r_nil (c_true rfl ?_)
   refine c_seq (c_region ?_)
   refine r_v (q_assignS rfl) rfl ?_; refine r_v (q_assignB rfl) rfl ?_
   exact r_nil (c_ret (bq2 (bad (.inl g1) h)))
  refine r_v (q_moveI rfl) rfl ?_
  refine r_v (q_is (v' := .bool false) (q_eql rfl rfl) (by congr 1; rw [beq_eq_false_iff_ne]; omega)) rfl ?_
  by_cases g2 : n < 0
  ·refine r_v (q_moveB rfl) rfl ?_; refine r_gd rfl rfl ?_; refine r_v (q_moveI rfl) rfl ?_; refine r_gd rfl rfl ?_
   refine r_v (q_is (v' := .bool true) (q_lss rfl rfl) (by congr 1; simpa using g2)) rfl ?_
   refine r_v (q_pick0 rfl rfl rfl) rfl ?_; refine r_v (q_moveB rfl) rfl ?_; refine r_gn rfl rfl rfl ?_; refine r_gn rfl rfl rfl ?_; refine r_v (q_pick1 rfl rfl rfl) rfl ?_; refine r_v (q_moveB rfl) rfl ?_; refine r_gn rfl rfl rfl ?_; refine r_gn rfl rfl rfl ?_; refine r_gn rfl rfl rfl ?_; refine r_gn rfl rfl rfl ?_; refine r_gn rfl rfl rfl ?_; refine r_gn rfl rfl rfl ?_; refine r_gn rfl rfl rfl ?_; refine r_v (q_pick1 rfl rfl rfl) rfl ?_
   refine r_nil (c_true rfl ?_)
   refine c_seq (c_region ?_)
   refine r_v (q_assignS rfl) rfl ?_; refine r_v (q_assignB rfl) rfl ?_
   exact r_nil (c_ret (bq2 (bad (.inr (.inl g2)) h)))
  refine r_v (q_moveB rfl) rfl ?_; refine r_gd rfl rfl ?_; refine r_v (q_moveI rfl) rfl ?_; refine r_gd rfl rfl ?_
  refine r_v (q_is (v' := .bool false) (q_lss rfl rfl) (by congr 1; simpa using g2)) rfl ?_
  by_cases g3 : 65535 < n
  ·refine r_v (q_pick0 rfl rfl rfl) rfl ?_; refine r_v (q_moveB rfl) rfl ?_; refine r_gd rfl rfl ?_; refine r_v (q_moveI rfl) rfl ?_; refine r_gd rfl rfl ?_
   refine r_v (q_is (v' := .bool true) (q_gtr rfl rfl) (by congr 1; simpa using g3)) rfl ?_
   refine r_v (q_pick0 rfl rfl rfl) rfl ?_; refine r_v (q_moveB rfl) rfl ?_; refine r_gn rfl rfl rfl ?_; refine r_gn rfl rfl rfl ?_; refine r_gn rfl rfl rfl ?_; refine r_gn rfl rfl rfl ?_; refine r_gn rfl rfl rfl ?_; refine r_gn rfl rfl rfl ?_; refine r_gn rfl rfl rfl ?_; refine r_v (q_pick1 rfl rfl rfl) rfl ?_
   refine r_nil (c_true rfl ?_)
   refine c_seq (c_region ?_)
   refine r_v (q_assignS rfl) rfl ?_; refine r_v (q_assignB rfl) rfl ?_
   exact r_nil (c_ret (bq2 (bad (.inr (.inr (.inl g3))) h)))
  refine r_v (q_pick0 rfl rfl rfl) rfl ?_; refine r_v (q_moveB rfl) rfl ?_; refine r_gd rfl rfl ?_; refine r_v (q_moveI rfl) rfl ?_; refine r_gd rfl rfl ?_
  refine r_v (q_is (v' := .bool false) (q_gtr rfl rfl) (by congr 1; simpa using g3)) rfl ?_
  refine r_v (q_pick0 rfl rfl rfl) rfl ?_; refine r_v (q_moveB rfl) rfl ?_; refine r_gd rfl rfl ?_; refine r_v (q_moveI rfl) rfl ?_; refine r_gd rfl rfl ?_; refine r_v (q_moveS rfl) rfl ?_; refine r_gd rfl rfl ?_; refine r_v (q_len rfl) rfl ?_; refine r_gd rfl rfl ?_; refine r_v (q_moveI rfl) rfl ?_; refine r_gd rfl rfl ?_
  refine r_v (q_is (v' := .int .i64 ((bs.length - k : Nat) : Int)) (q_sub rfl rfl) (by rw [wrap64 (by omega) (by omega)]; congr 1; omega)) rfl ?_
  refine r_gd rfl rfl ?_
  refine r_v (q_is (v' := .int .u64 ((bs.length - k : Nat) : Int)) (q_conv rfl) (congrArg (Value.int .u64) (conv_nat (by omega)))) rfl ?_
  refine r_gd rfl rfl ?_; refine r_v (q_gtr rfl rfl) rfl ?_; refine r_v (q_pick0 rfl rfl rfl) rfl ?_
  refine r_nil (c_cond (decide ((size : Int) > ((bs.length - k : Nat) : Int))) rfl (fun hc1 => ?_) (fun hc1 => ?_))
  ·
   refine c_seq (c_region ?_)
   refine r_v (q_assignS rfl) rfl ?_; refine r_v (q_assignB rfl) rfl ?_
   exact r_nil (c_ret (bq2 (bad (.inr (.inr (.inr (by simp at hc1; omega)))) h)))
  ·exact c_skip ⟨(), ⟨rfl, rfl, rfl, rfl, rfl, trivial⟩, by simp at hc1; omega, h⟩
 clear h
 rintro _ w e ⟨hcond, h⟩
 rw [if_neg hcond] at hdef
 obtain ⟨n, rfl⟩ := Int.eq_ofNat_of_zero_le (show 0 ≤ n by omega)
 have hn16 : n ≤ 65535 := by omega
 have hsk : k + size ≤ bs.length := by omega
 rw [show ((n : Nat) : Int).toNat = n from rfl] at hdef
 refine c_seq (c_region ?_)
 refine r_v (q_moveI rfl) rfl ?_; refine r_v (q_moveI rfl) rfl ?_; refine r_v (q_conv rfl) rfl ?_
 refine r_is (.int .i64 (size : Int)) (by rw [wrap64 (by omega) (by omega)]) ?_
 refine r_v (q_add rfl rfl) rfl ?_
 refine r_is (.int .i64 ((k + size : Nat) : Int)) (by rw [wrap64 (by omega) (by omega)]; rfl) ?_
 refine r_v (q_assignI rfl) rfl ?_
 refine r_nil ?_
 refine c_seq (c_region ?_)
 refine r_v (q_moveS rfl) rfl ?_; refine r_v (q_moveI rfl) rfl ?_; refine r_v (q_moveI rfl) rfl ?_
 refine r_v (q_cut rfl rfl rfl (by omega) (by omega)) rfl ?_
 have hrc := Reads.cut hr (i := k) (j := k + size) (by omega) (by omega) hc
 have hpl : ((bs.drop k).take size).length = k + size - k := by rw [List.length_take, List.length_drop]; omega
 have hrc' : Reads w0 l 1 (adv sl (k * 1) (Nat.beq c k)) ((bs.drop k).take size).length (bytesV ((bs.drop k).take size)) := by
  rw [hpl]
  have : bytesV ((bs.drop k).take size) = ((bytesV bs).drop (k * 1)).take ((k + size - k) * 1) := by
   unfold bytesV
   rw [List.map_take, List.map_drop]
   congr 1
   ·omega
   ·congr 1; omega
  rw [this]
  exact hrc
 show Rn _ _ _ _ _ (upd _ _ (.slice (adv sl (k * 1) (Nat.beq c k)) (k + size - k) (c - k))) _
 rw [← hpl]
 refine r_c rfl (x_call rfl (bits_NewReader h hrc'.rd (by rw [hpl]; omega)) ?_)
 rintro _ w ⟨p, rfl, h⟩
 refine r_v (q_moveI rfl) rfl ?_
 refine r_c rfl (x_call rfl (time_Decode n h) ?_)
 rw [askN_nat hn16]
 intro v w hv
 have hv : ∃ a c' ts ok, v = .tuple [.slice a ts.length c', .bool ok].toArray ∧ (ok = true → ∃ s', timesDec n ⟨bitsB ((bs.drop k).take size), false⟩ = some (ts, s')) ∧ (ok = false → timesDec n ⟨bitsB ((bs.drop k).take size), false⟩ = none) ∧ ∃ s', St w0 (OwnT64 a c' ts :: IsBR p s' :: l) w := by
  rcases hv with ⟨h1, rfl, s', h⟩ | ⟨x, a, c', h1, rfl, h⟩
  ·exact ⟨none, 0, [], false, rfl, (fun h => by cases h), fun _ => h1, s', St.ownNil _ _ h⟩
  ·exact ⟨a, c', x.1, true, rfl, fun _ => ⟨x.2, h1⟩, (fun h => by cases h), x.2, h⟩
 clear h
 obtain ⟨ta, tc, ts, ok1, rfl, ht1, ht2, s', h⟩ := hv
 refine r_v (q_moveT rfl) rfl ?_; refine r_v (q_ext rfl rfl) rfl ?_; refine r_v (q_ext rfl rfl) rfl ?_; refine r_v (q_assignS rfl) rfl ?_; refine r_v (q_assignB rfl) rfl ?_
 refine r_nil ?_
 refine c_seq (c_region ?_)
 refine r_v (q_moveI rfl) rfl ?_; refine r_v (q_moveS rfl) rfl ?_; refine r_v (q_moveI rfl) rfl ?_
 refine r_v (q_tail (i := k + size) rfl rfl hsk) rfl ?_
 have hrt : Reads w0 l 1 (adv sl ((k + size) * 1) (Nat.beq c (k + size))) (bs.drop (k + size)).length (bytesV (bs.drop (k + size))) := by
  have := Reads.tail hr (i := k + size) hsk hc
  rw [List.length_drop]
  have e1 : bytesV (bs.drop (k + size)) = (bytesV bs).drop ((k + size) * 1) := by
   unfold bytesV
   rw [List.map_drop]
   congr 1; omega
  rw [e1]
  exact this
 show Rn _ _ _ _ _ (upd _ _ (.slice (adv sl ((k + size) * 1) (Nat.beq c (k + size))) (bs.length - (k + size)) (c - (k + size)))) _
 rw [← List.length_drop]
 refine r_v (q_moveI rfl) rfl ?_
 refine r_c rfl (x_call rfl (hread hT (hrt.more [_, _]) (by rw [List.length_drop]; omega) (by rw [List.length_drop]; omega) hn16 h) ?_)
 rintro _ w ⟨va, vc, vs, ok2, rfl, hv1, hv2, h⟩
 refine r_v (q_moveT rfl) rfl ?_; refine r_v (q_ext rfl rfl) rfl ?_; refine r_v (q_ext rfl rfl) rfl ?_; refine r_v (q_assignS rfl) rfl ?_; refine r_v (q_assignB rfl) rfl ?_
 refine r_nil ?_
 refine c_cut (Γ := Unit) (fun _ => [(0, .int .i64 tag), (1, .slice sl bs.length c), (2, .int .i64 n), (11, .slice ta ts.length tc), (13, .slice va vs.length vc)]) (fun _ w => ok1 = true ∧ ok2 = true ∧ St w0 (OwnU va vc vs :: OwnT64 ta tc ts :: IsBR p s' :: l) w) ?_ ?_
 ·have bad : ∀ {w : World}, (ok1 = false ∨ ok2 = false) → St w0 (OwnU va vc vs :: OwnT64 ta tc ts :: IsBR p s' :: l) w → ∃ a c', Value.tuple [.slice none 0 0, .bool false].toArray = .tuple [.slice a ((suitDec tag bs n).getD []).length c', .bool (suitDec tag bs n).isSome].toArray ∧ (∀ L, suitDec tag bs n = some L → (L.length : Int) = n ∧ ∀ s ∈ L, s.Wf) ∧ St w0 (OwnS a c' ((suitDec tag bs n).getD []) :: l) w := fun hb h => by
   have : suitDec tag bs n = none := by
    rw [hdef]
    rcases hb with hb | hb
    ·rw [ht2 hb]
    ·rw [hb, if_neg (by decide)] at hv1
     rw [hv1]
     cases timesDec n ⟨bitsB ((bs.drop k).take size), false⟩ <;> rfl
   rw [this]
   exact ⟨none, 0, rfl, (fun _ h => by cases h), St.ownNil _ _ h.drop.drop.drop⟩
  refine c_seq (c_region ?_)
  cases ok1 with
  | false =>
   refine r_v (q_moveB rfl) rfl ?_; refine r_v (q_not rfl) rfl ?_; refine r_v (q_moveB rfl) rfl ?_; refine r_gn rfl rfl rfl ?_; refine r_gn rfl rfl rfl ?_; refine r_v (q_pick1 rfl rfl rfl) rfl ?_
   refine r_nil (c_true rfl ?_)
   refine c_seq (c_region ?_)
   refine r_v (q_assignS rfl) rfl ?_; refine r_v (q_assignB rfl) rfl ?_
   exact r_nil (c_ret (bq2 (bad (.inl rfl) h)))
  | true =>
   refine r_v (q_moveB rfl) rfl ?_; refine r_v (q_not rfl) rfl ?_; refine r_v (q_moveB rfl) rfl ?_; refine r_gd rfl rfl ?_; refine r_v (q_moveB rfl) rfl ?_; refine r_gd rfl rfl ?_; refine r_v (q_not rfl) rfl ?_; refine r_v (q_pick0 rfl rfl rfl) rfl ?_
   cases ok2 with
   | false =>
    refine r_nil (c_true rfl ?_)
    refine c_seq (c_region ?_)
    refine r_v (q_assignS rfl) rfl ?_; refine r_v (q_assignB rfl) rfl ?_
    exact r_nil (c_ret (bq2 (bad (.inr rfl) h)))
   | true =>
    refine r_nil (c_false rfl ?_)
    exact c_skip ⟨(), ⟨rfl, rfl, rfl, rfl, rfl, trivial⟩, rfl, rfl, h⟩
 clear h
 rintro _ w e ⟨rfl, rfl, h⟩
 obtain ⟨s2, ht⟩ := ht1 rfl
 obtain ⟨hvl, hvlt⟩ := hv2 rfl
 rw [if_pos rfl] at hv1
 rw [ht, hv1] at hdef
 dsimp only at hdef
 have htl : ts.length = n := timesDec_len ht
 have hti : ∀ t ∈ ts, I64 t := timesDec_i64 ht
 have hzl : (zipS ts vs).length = n := by rw [zipS_len _ _ (by omega), htl]
 have hzw := zipS_wf ts vs hti hvlt
 refine c_seq (c_region ?_)
 refine r_v (q_assignS rfl) rfl ?_
 refine r_nil ?_
 refine c_seq (c_seq (c_region ?_))
 refine r_v (q_moveI rfl) rfl ?_; refine r_v (q_moveI rfl) rfl ?_
 refine r_nil ?_
 refine c_block ?_
 refine c_loop (Γ := Nat × Option Addr × Nat) (fun k => [(0, .int .i64 tag), (1, .slice sl bs.length c), (11, .slice ta ts.length tc), (13, .slice va vs.length vc), (15, .slice k.2.1 (zipS (ts.take k.1) (vs.take k.1)).length k.2.2), (72, .int .i64 n), (73, .int .i64 k.1)])
  (fun k w => k.1 ≤ n ∧ St w0 (OwnS k.2.1 k.2.2 (zipS (ts.take k.1) (vs.take k.1)) :: OwnU va vc vs :: OwnT64 ta tc ts :: IsBR p s' :: l) w) (fun k => n - k.1) (0, none, 0) ⟨rfl, rfl, rfl, rfl, rfl, rfl, rfl, trivial⟩ ⟨Nat.zero_le _, St.ownNil _ _ h⟩ ?_
 clear h
 rintro ⟨i, a, c1⟩ w e ⟨hi, h⟩
 dsimp only at hi h ⊢
 refine c_seq (c_region ?_)
 refine r_v (q_lss rfl rfl) rfl ?_
 refine r_nil ?_
 refine c_seq (c_cond (decide ((i : Int) < (n : Int))) rfl (fun hc1 => ?_) (fun hc1 => ?_))
 ·
  have hlt : i < n := by simp at hc1; omega
  have hgt := List.getElem?_eq_getElem (show i < ts.length by omega)
  generalize ts[i]'(by omega) = t at hgt
  have hgv := List.getElem?_eq_getElem (show i < vs.length by omega)
  generalize vs[i]'(by omega) = x at hgv
  have hstep := zipS_snoc ts vs i t x hgt hgv
  have hzi : (zipS (ts.take i) (vs.take i)).length = i := by rw [zipS_len _ _ (by rw [take_len1 (by omega), take_len1 (by omega)]), take_len1 (by omega)]
  obtain ⟨bt, htsl⟩ := (h.f 2).own_some (by omega)
  obtain ⟨bv, hvsl⟩ := (h.f 1).own_some (by omega)
  refine c_skip ?_
  refine c_cut (Γ := Option Addr × Nat) (fun q => [(0, .int .i64 tag), (1, .slice sl bs.length c), (11, .slice ta ts.length tc), (13, .slice va vs.length vc), (15, .slice q.1 (zipS (ts.take (i + 1)) (vs.take (i + 1))).length q.2), (72, .int .i64 n), (73, .int .i64 i)])
   (fun q w => St w0 (OwnS q.1 q.2 (zipS (ts.take (i + 1)) (vs.take (i + 1))) :: OwnU va vc vs :: OwnT64 ta tc ts :: IsBR p s' :: l) w) ?_ ?_
  ·refine c_block ?_
   refine c_seq (c_region ?_)
   refine r_v (q_moveI rfl) rfl ?_; refine r_v (q_assignI rfl) rfl ?_
   refine r_nil ?_
   have hct : ∀ {w'}, (∃ L, St w0 (L ++ (OwnU va vc vs :: OwnT64 ta tc ts :: IsBR p s' :: l)) w') → w'.cell? ⟨bt, i, none⟩ = some (.int .i64 t) := fun ⟨L, h'⟩ => by
    have := (htsl ▸ (h'.drops.f 1).own_rd).cell (i64V_get hgt); simpa using this
   have hcv : ∀ {w'}, (∃ L, St w0 (L ++ (OwnU va vc vs :: OwnT64 ta tc ts :: IsBR p s' :: l)) w') → w'.cell? ⟨bv, i, none⟩ = some (.int .u64 x) := fun ⟨L, h'⟩ => by
    have := (hvsl ▸ (h'.drops.f 0).own_rd).cell (u64V_get hgv); simpa using this
   refine c_anyW [0, 1, 2, 3, 4, 5, 6, 7, 8, 9, 10, 11, 12] none (fun w => ∃ L, St w0 (L ++ (OwnU va vc vs :: OwnT64 ta tc ts :: IsBR p s' :: l)) w) (by kernel_rfl) (by kernel_rfl) ?_
   replace h := h.drew
   generalize w.drew = w at h
   have hs := h
   replace h : ∃ L, St w0 (L ++ (OwnU va vc vs :: OwnT64 ta tc ts :: IsBR p s' :: l)) w := ⟨[_], hs⟩
   refine cur_pure rfl rfl rfl rfl (fun _ => h) (fun _ => flt_v rfl (q_moveS rfl)) ?_; refine cur_pure rfl rfl rfl rfl (fun _ => h) (fun _ => flt_v rfl (q_moveS rfl)) ?_; refine cur_pure rfl rfl rfl rfl (fun _ => h) (fun _ => flt_v rfl (q_moveI rfl)) ?_
   refine cur_pure rfl rfl rfl rfl (fun _ => h) (fun _ => flt_v rfl (q_idx (b := bt) (o := 0) (m := ts.length) (c := tc) (j := i) (o' := i) (by rw [← htsl]; rfl) rfl rfl (by omega) (by simp))) ?_
   refine cur_float rfl rfl rfl rfl h (fun w h => flt_v rfl (q_loadc (v := .int .i64 t) rfl (hct h))) ?_
   refine cur_pure rfl rfl rfl rfl (fun _ => h) (fun _ => flt_v rfl (q_moveS rfl)) ?_; refine cur_pure rfl rfl rfl rfl (fun _ => h) (fun _ => flt_v rfl (q_moveI rfl)) ?_
   refine cur_pure rfl rfl rfl rfl (fun _ => h) (fun _ => flt_v rfl (q_idx (b := bv) (o := 0) (m := vs.length) (c := vc) (j := i) (o' := i) (by rw [← hvsl]; rfl) rfl rfl (by omega) (by simp))) ?_
   refine cur_float rfl rfl rfl rfl h (fun w h => flt_v rfl (q_loadc (v := .int .u64 x) rfl (hcv h))) ?_
   refine cur_pure rfl rfl rfl rfl (fun _ => h) (fun _ => flt_v rfl (q_build (r := (Smp.mk t x).cells) rfl)) ?_
   refine cur_skip ?_; refine cur_skip ?_; refine cur_skip ?_
   refine cur_one 10 rfl rfl rfl rfl ?_
   refine (x_bslice (r := smpsV [Smp.mk t x]) hs rfl rfl rfl fun b2 w hs => ?_)
   replace h : ∃ L, St w0 (L ++ (OwnU va vc vs :: OwnT64 ta tc ts :: IsBR p s' :: l)) w := ⟨[_, _], hs⟩
   refine ⟨fun _ => h, ?_⟩
   refine cur_skip ?_; refine cur_skip ?_
   refine cur_one 11 rfl rfl rfl rfl ?_
   refine (x_append' (ys := smpsV [Smp.mk t x]) (zs := smpsV (zipS (ts.take (i + 1)) (vs.take (i + 1)))) (m3 := (zipS (ts.take (i + 1)) (vs.take (i + 1))).length) (hs.f 1) rfl rfl ⟨rfl, .inr ⟨b2, 0, rfl, at_of (hs.b 0 rfl) rfl⟩⟩ (smps_one _) (by rw [hstep]; simp) (by rw [hstep]; simp [smpsV]) (by rw [hstep]; simp; omega) (by rw [hstep]; simp; omega) rfl fun a2 c2 w _ hs => ?_)
   replace h : ∃ L, St w0 (L ++ (OwnU va vc vs :: OwnT64 ta tc ts :: IsBR p s' :: l)) w := ⟨[_, _], hs⟩
   refine ⟨fun _ => h, ?_⟩
   refine cur_pure rfl rfl rfl rfl (fun _ => h) (fun _ => flt_v rfl (q_assignS rfl)) ?_
   exact cur_end ⟨(a2, c2), ⟨rfl, rfl, rfl, rfl, rfl, rfl, rfl, trivial⟩, (hs.f 1).drop⟩
  clear h
  rintro ⟨a, c1⟩ w e h
  dsimp only at h ⊢
  refine c_region ?_
  refine r_v (q_add rfl rfl) rfl ?_
  refine r_is (.int .i64 ((i + 1 : Nat) : Int)) (by rw [wrap64 (by omega) (by omega)]; rfl) ?_
  refine r_v (q_moveI rfl) rfl ?_
  exact r_nil ⟨(i + 1, a, c1), ⟨rfl, rfl, rfl, rfl, rfl, rfl, rfl, trivial⟩, ⟨hlt, h⟩, by dsimp only; omega⟩
 have hin : i = n := by simp at hc1; omega
 refine c_exit ?_
 have hz : zipS (ts.take i) (vs.take i) = zipS ts vs := by rw [hin, List.take_of_length_le (by omega), List.take_of_length_le (by omega)]
 rw [hz] at h ⊢
 refine c_seq (c_region ?_)
 refine r_v (q_moveI rfl) rfl ?_; refine r_v (q_moveS rfl) rfl ?_
 refine r_c rfl (x_call rfl (suit_Encode hT tag hzw (by omega) Reads.own h) ?_)
 rintro _ w ⟨a2, c2, rfl, h⟩
 refine r_v (q_moveT rfl) rfl ?_; refine r_v (q_ext rfl rfl) rfl ?_; refine r_v (q_ext rfl rfl) rfl ?_; refine r_v (q_assignS rfl) rfl ?_; refine r_v (q_assignB rfl) rfl ?_
 refine r_nil ?_
 replace h : St w0 (OwnB a2 c2 ((suitEnc tag (zipS ts vs)).getD []) :: OwnS a c1 (zipS ts vs) :: l) w := (((h.f 2).drop.f 2).drop.f 2).drop
 have bad : ∀ {w : World}, suitEnc tag (zipS ts vs) ≠ some bs → St w0 l w → ∃ a c', Value.tuple [.slice none 0 0, .bool false].toArray = .tuple [.slice a ((suitDec tag bs n).getD []).length c', .bool (suitDec tag bs n).isSome].toArray ∧ (∀ L, suitDec tag bs n = some L → (L.length : Int) = n ∧ ∀ s ∈ L, s.Wf) ∧ St w0 (OwnS a c' ((suitDec tag bs n).getD []) :: l) w := fun hb h => by
  rw [if_neg hb] at hdef
  rw [hdef]
  exact ⟨none, 0, rfl, (fun _ h => by cases h), St.ownNil _ _ h⟩
 refine c_cut (Γ := Unit) (fun _ => [(15, .slice a (zipS ts vs).length c1)]) (fun _ w => suitEnc tag (zipS ts vs) = some bs ∧ St w0 (OwnS a c1 (zipS ts vs) :: l) w) ?_ ?_
 ·refine c_seq (c_region ?_)
  cases hE : suitEnc tag (zipS ts vs) with
  | none =>
   rw [hE] at h
   refine r_v (q_moveB rfl) rfl ?_; refine r_v (q_not rfl) rfl ?_; refine r_v (q_moveB rfl) rfl ?_; refine r_gn rfl rfl rfl ?_; refine r_gn rfl rfl rfl ?_; refine r_gn rfl rfl rfl ?_; refine r_gn rfl rfl rfl ?_; refine r_v (q_pick1 rfl rfl rfl) rfl ?_
   refine r_nil (c_true rfl ?_)
   refine c_seq (c_region ?_)
   refine r_v (q_assignS rfl) rfl ?_; refine r_v (q_assignB rfl) rfl ?_
   exact r_nil (c_ret (bq2 (bad (by rw [hE]; simp) h.drop.drop)))
  | some d =>
   rw [hE] at h
   refine r_v (q_moveB rfl) rfl ?_; refine r_v (q_not rfl) rfl ?_; refine r_v (q_moveB rfl) rfl ?_; refine r_gd rfl rfl ?_; refine r_v (q_moveS rfl) rfl ?_; refine r_gd rfl rfl ?_; refine r_v (q_moveS rfl) rfl ?_; refine r_gd rfl rfl ?_
   refine r_c rfl (x_call rfl (bytes_Equal (b1 := d) (b2 := bs) h (fun w' h' => h'.own_rd) ((hr.more [_, _]).rd)) ?_)
   rintro _ w ⟨rfl, h⟩
   refine r_gd rfl rfl ?_; refine r_v (q_not rfl) rfl ?_; refine r_v (q_pick0 rfl rfl rfl) rfl ?_
   refine r_nil (c_cond (!decide (d = bs)) rfl (fun hc1 => ?_) (fun hc1 => ?_))
   ·refine c_seq (c_region ?_)
    refine r_v (q_assignS rfl) rfl ?_; refine r_v (q_assignB rfl) rfl ?_
    exact r_nil (c_ret (bq2 (bad (by rw [hE]; simpa using hc1) h.drop.drop)))
   ·exact c_skip ⟨(), ⟨rfl, trivial⟩, by simpa using hc1, h.drop⟩
 clear h
 rintro _ w e ⟨hE, h⟩
 rw [if_pos hE] at hdef
 rw [hdef]
 refine c_seq (c_region ?_)
 refine r_v (q_moveS rfl) rfl ?_; refine r_v (q_assignS rfl) rfl ?_; refine r_v (q_assignB rfl) rfl ?_
 refine r_nil ?_
 refine c_ret (bq2 ⟨a, c1, rfl, fun L hL => ?_, h⟩)
 cases hL
 exact ⟨by rw [hzl], hzw⟩
end
end Go.Proofs.YtjjacchnalemaaaGreatDoor

namespace Go.Hw
set_option maxRecDepth 100000
theorem wrap_u32 (x : Nat) : IntKind.u32.wrap (x : Int) = ((x % 4294967296 : Nat) : Int) := by
 unfold IntKind.wrap
 simp [IntKind.signed, IntKind.bits]
theorem bit_u32 {a b : Nat} (ha : a < 4294967296) (hb : b < 4294967296) :
  bitOp .and .u32 (a : Int) (b : Int) = ((a &&& b : Nat) : Int) ∧ bitOp .xor .u32 (a : Int) (b : Int) = ((a ^^^ b : Nat) : Int) := by
 have ha' : a % 2 ^ 32 = a := Nat.mod_eq_of_lt ha
 have hb' : b % 2 ^ 32 = b := Nat.mod_eq_of_lt hb
 have e : IntKind.u32.bits = 32 := rfl
 refine ⟨?_, ?_⟩ <;> unfold bitOp <;> simp only [e, BitVec.ofInt_natCast, BitVec.toNat_and, BitVec.toNat_xor, BitVec.toNat_ofNat, ha', hb', wrap_u32]
 ·rw [Nat.mod_eq_of_lt (Nat.and_lt_two_pow (n := 32) _ hb)]
 ·rw [Nat.mod_eq_of_lt (Nat.xor_lt_two_pow (n := 32) ha hb)]
def u32V (l : List Nat) : List Value := l.map fun (x : Nat) => .int .u32 (x : Int)
theorem u32V_len (l : List Nat) : (u32V l).length = l.length := by simp [u32V]
theorem u32V_get {l : List Nat} {j x : Nat} (h : l[j]? = some x) : (u32V l)[j]? = some (.int .u32 (x : Int)) := by simp [u32V, h]
def tabL (i : Nat) : List Nat := (List.range i).map crcByte ++ List.replicate (256 - i) 0
theorem tabL_len {i : Nat} (h : i ≤ 256) : (tabL i).length = 256 := by simp [tabL]; omega
theorem tabL_set {i : Nat} (h : i < 256) : (u32V (tabL i)).set i (.int .u32 (crcByte i : Int)) = u32V (tabL (i + 1)) := by
 have e : 256 - i = (256 - (i + 1)) + 1 := by omega
 have hl : (u32V ((List.range i).map crcByte)).length = i := by simp [u32V]
 have e1 : u32V (tabL i) = u32V ((List.range i).map crcByte) ++ (.int .u32 (0 : Nat)) :: u32V (List.replicate (256 - (i + 1)) 0) := by
  unfold tabL u32V
  rw [e, List.replicate_succ, List.map_append, List.map_cons]
 have e2 : u32V (tabL (i + 1)) = u32V ((List.range i).map crcByte) ++ (.int .u32 (crcByte i : Int)) :: u32V (List.replicate (256 - (i + 1)) 0) := by
  unfold tabL u32V
  rw [List.range_succ, List.map_append, List.map_append, List.map_append, List.append_assoc]
  rfl
 rw [e1, e2, List.set_append_right _ _ (by omega), hl, Nat.sub_self]
 rfl
def tabV : List Value := u32V (tabL 256)
theorem tabV_len : tabV.length = 256 := by unfold tabV; rw [u32V_len, tabL_len (Nat.le_refl _)]
theorem tabV_get {i : Nat} (h : i < 256) : tabV[i]? = some (.int .u32 (crcByte i : Int)) := by
 unfold tabV
 refine u32V_get ?_
 unfold tabL
 rw [List.getElem?_append_left (by simpa using h), List.getElem?_map, List.getElem?_range h]
 rfl
theorem tabV_one : tabV.all (·.oneCell') = true := by decide +kernel
end Go.Hw
namespace Go.Proofs.YtjjacchnalemaaaGreatDoor
open Go.Hw
set_option maxHeartbeats 4000000
set_option maxRecDepth 100000
instance undTab : Und Tryz.prog 88 (.array 256 86) := ⟨Tryz.underlying88⟩
section
variable {w0 w : World} {l : List HProp}
theorem crcc_Table (h : St w0 l w) : Ret Tryz.prog 53 [] w fun v w' => v = .agg tabV.toArray ∧ St w0 l w' := by
 refine enter Tryz.func53 rfl Tryz.results53 Tryz.ntmps53 rfl ?_
 refine c_seq (c_region ?_)
 refine r_c rfl (x_alloc h fun b0 w h => ?_)
 refine r_nil ?_
 refine c_seq (c_region ?_)
 refine r_c rfl (x_alloc h fun b1 w h => ?_)
 refine r_nil ?_
 refine c_seq (c_seq (c_region ?_))
 refine r_v (q_moveI rfl) rfl ?_
 refine r_nil ?_
 have hz : (List.replicate 256 (Value.int .u32 0)) = u32V (tabL 0) := by show _ = (List.replicate 256 0).map _; rw [List.map_replicate]; rfl
 refine c_block ?_
 refine c_loop (Γ := Nat) (fun k => [(0, .pointer (some ⟨b0, 0, none⟩)), (1, .pointer (some ⟨b1, 0, none⟩)), (5, .int .i64 k)]) (fun k w => k ≤ 256 ∧ St w0 (pt b1 (.cells (u32V (tabL k)).toArray 88 (0, 0)) :: pt b0 (.cells (List.replicate 256 (Value.int .u32 0)).toArray 88 (0, 0)) :: l) w) (fun k => 256 - k) 0 ⟨rfl, rfl, rfl, trivial⟩ ⟨Nat.zero_le _, by rw [← hz]; exact h⟩ ?_
 clear h
 rintro i w e ⟨hi, h⟩
 refine c_seq (c_region ?_)
 refine r_v (q_lss rfl rfl) rfl ?_
 refine r_nil ?_
 refine c_seq (c_cond (decide ((i : Int) < 256)) rfl (fun hc => ?_) (fun hc => ?_))
 ·
  have hlt : i < 256 := by simp at hc; omega
  refine c_skip ?_
  refine c_seq (c_block ?_)
  refine c_seq (c_region ?_)
  refine r_v (q_moveI rfl) rfl ?_; refine r_v (q_assignI rfl) rfl ?_
  refine r_nil ?_
  refine c_seq (c_region ?_)
  refine r_v (q_moveI rfl) rfl ?_; refine r_v (q_conv rfl) rfl ?_
  refine r_is (.int .u32 (i : Int)) (by rw [wrap_u32, Nat.mod_eq_of_lt (by omega)]) ?_
  refine r_v (q_assignI rfl) rfl ?_
  refine r_nil ?_
  refine c_cut (Γ := Unit) (fun _ => [(0, .pointer (some ⟨b0, 0, none⟩)), (1, .pointer (some ⟨b1, 0, none⟩)), (2, .int .i64 i), (3, .int .u32 (crcByte i : Int)), (5, .int .i64 i)]) (fun _ w => St w0 (pt b1 (.cells (u32V (tabL i)).toArray 88 (0, 0)) :: pt b0 (.cells (List.replicate 256 (Value.int .u32 0)).toArray 88 (0, 0)) :: l) w) ?_ ?_
  ·refine c_seq (c_region ?_)
   refine r_v (q_moveI rfl) rfl ?_
   refine r_nil ?_
   refine c_block ?_
   refine c_loop (Γ := Nat) (fun k => [(0, .pointer (some ⟨b0, 0, none⟩)), (1, .pointer (some ⟨b1, 0, none⟩)), (2, .int .i64 i), (3, .int .u32 (crcN k i : Int)), (5, .int .i64 i), (10, .int .i64 k)]) (fun k w => k ≤ 8 ∧ St w0 (pt b1 (.cells (u32V (tabL i)).toArray 88 (0, 0)) :: pt b0 (.cells (List.replicate 256 (Value.int .u32 0)).toArray 88 (0, 0)) :: l) w) (fun k => 8 - k) 0 ⟨rfl, rfl, rfl, rfl, rfl, rfl, trivial⟩ ⟨Nat.zero_le _, h⟩ ?_
   clear h
   rintro k w e ⟨hk, h⟩
   refine c_seq (c_region ?_)
   refine r_v (q_lss rfl rfl) rfl ?_
   refine r_nil ?_
   refine c_seq (c_cond (decide ((k : Int) < 8)) rfl (fun hc => ?_) (fun hc => ?_))
   ·
    have hk8 : k < 8 := by simp at hc; omega
    have hcl := crcN_lt (c := i) (by omega) k
    have hstep : crcN (k + 1) i = crcBit (crcN k i) := rfl
    generalize crcN k i = c at hcl hstep
    refine c_skip ?_
    refine c_cut (Γ := Unit) (fun _ => [(0, .pointer (some ⟨b0, 0, none⟩)), (1, .pointer (some ⟨b1, 0, none⟩)), (2, .int .i64 i), (3, .int .u32 (crcN (k + 1) i : Int)), (5, .int .i64 i), (10, .int .i64 k)]) (fun _ w => St w0 (pt b1 (.cells (u32V (tabL i)).toArray 88 (0, 0)) :: pt b0 (.cells (List.replicate 256 (Value.int .u32 0)).toArray 88 (0, 0)) :: l) w) ?_ ?_
    ·refine c_block ?_
     refine c_seq (c_region ?_)
     refine r_v (q_moveI rfl) rfl ?_; refine r_v (q_and rfl rfl) rfl ?_
     refine r_is (.int .u32 ((c % 2 : Nat) : Int)) (congrArg (Value.int .u32) (((bit_u32 hcl (by decide : 1 < _)).1).trans (by rw [Nat.and_one_is_mod]))) ?_
     refine r_v (q_assignI rfl) rfl ?_
     refine r_nil ?_
     refine c_seq (c_region ?_)
     refine r_v (q_moveI rfl) rfl ?_
     refine r_v (q_is (v' := .int .u32 ((c / 2 ^ 1 : Nat) : Int)) (q_shr rfl rfl (by omega)) (congrArg (Value.int .u32) (fdiv_nat c 1 32 (by decide)))) rfl ?_
     refine r_v (q_assignI rfl) rfl ?_
     refine r_nil ?_
     refine c_seq (c_region ?_)
     refine r_v (q_moveI rfl) rfl ?_; refine r_v (q_eql rfl rfl) rfl ?_
     rw [hstep]
     unfold crcBit
     by_cases h1 : c % 2 = 1
     ·rw [if_pos h1]
      refine r_is (.bool true) (by rw [h1]; rfl) ?_
      refine r_nil (c_true rfl ?_)
      refine c_region ?_
      refine r_v (q_moveI rfl) rfl ?_; refine r_v (q_xor rfl rfl) rfl ?_
      refine r_is (.int .u32 ((c / 2 ^ 1 ^^^ 2197175160 : Nat) : Int)) (congrArg (Value.int .u32) (bit_u32 (by omega) (by decide)).2) ?_
      refine r_v (q_assignI rfl) rfl ?_
      exact r_nil ⟨(), ⟨rfl, rfl, rfl, rfl, rfl, rfl, trivial⟩, h⟩
     ·rw [if_neg h1]
      refine r_is (.bool false) (by congr 1; rw [beq_eq_false_iff_ne]; omega) ?_
      refine r_nil (c_false rfl ?_)
      exact c_skip ⟨(), ⟨rfl, rfl, rfl, rfl, rfl, rfl, trivial⟩, h⟩
    clear h
    rintro _ w e h
    refine c_region ?_
    refine r_v (q_add rfl rfl) rfl ?_
    refine r_is (.int .i64 ((k + 1 : Nat) : Int)) (by rw [wrap64 (by omega) (by omega)]; rfl) ?_
    refine r_v (q_moveI rfl) rfl ?_
    exact r_nil ⟨k + 1, ⟨rfl, rfl, rfl, rfl, rfl, rfl, trivial⟩, ⟨hk8, h⟩, by omega⟩
   have hk8 : k = 8 := by simp at hc; omega
   subst hk8
   exact c_exit ⟨(), ⟨rfl, rfl, rfl, rfl, rfl, trivial⟩, h⟩
  clear h
  rintro _ w e h
  refine c_region ?_
  refine r_v (q_moveI rfl) rfl ?_; refine r_v (q_moveI rfl) rfl ?_
  refine r_v (q_aidx (j := i) (o' := i) rfl rfl rfl hlt (by simp)) rfl ?_
  refine r_c rfl (x_store 0 h rfl (show _ = Value.int .u32 (crcByte i : Int) from rfl) rfl (by rw [Nat.blt_eq, u32V_len, tabL_len (by omega)]; omega) rfl rfl fun w h => ?_)
  simp only [List.set_cons_zero] at h
  rw [tabL_set hlt] at h
  refine r_nil ?_
  refine c_region ?_
  refine r_v (q_add rfl rfl) rfl ?_
  refine r_is (.int .i64 ((i + 1 : Nat) : Int)) (by rw [wrap64 (by omega) (by omega)]; rfl) ?_
  refine r_v (q_moveI rfl) rfl ?_
  exact r_nil ⟨i + 1, ⟨rfl, rfl, rfl, trivial⟩, ⟨hlt, h⟩, by omega⟩
 have hi256 : i = 256 := by simp at hc; omega
 subst hi256
 refine c_exit ?_
 refine c_seq (c_region ?_)
 refine r_v (q_loadS (l := tabV) rfl (by rw [tabV_len]; rfl) (at_of (h.b 0 rfl) rfl)) rfl ?_
 refine r_c rfl (x_storeA (vs := tabV) 1 h rfl rfl rfl (by rw [tabV_len]; rfl) (by rw [tabV_len]; rfl) rfl tabV_one fun w h => ?_)
 simp only [List.set_cons_zero, List.set_cons_succ] at h
 rw [show (List.replicate 256 (Value.int .u32 0)).take 0 ++ tabV ++ (List.replicate 256 (Value.int .u32 0)).drop (0 + tabV.length) = tabV by rw [List.take_zero, List.nil_append, tabV_len, List.drop_of_length_le (by rw [List.length_replicate]; decide), List.append_nil]] at h
 refine r_nil ?_
 exact c_ret (bqS1 (l := tabV) rfl (by rw [tabV_len]; rfl) (at_of (h.b 1 rfl) rfl) ⟨rfl, h.drop.drop⟩)

theorem crcc_Sum {sl : Option Addr} {c : Nat} {bs : List UInt8} (hn : bs.length ≤ 140737488355328) (hr : Reads w0 l 1 sl bs.length (bytesV bs)) (h : St w0 l w) :
  Ret Tryz.prog 52 [.agg tabV.toArray, .slice sl bs.length c] w fun v w' => v = .int .u32 (crc bs : Int) ∧ St w0 l w' := by
 refine enter Tryz.func52 rfl Tryz.results52 Tryz.ntmps52 rfl ?_
 refine c_seq (c_region ?_)
 refine r_c rfl (x_box h (show _ = Value.agg tabV.toArray from rfl) fun b2 w h => ?_)
 refine r_v (q_assignI rfl) rfl ?_
 refine r_nil ?_
 refine c_seq (c_region ?_)
 refine r_v (q_assignI rfl) rfl ?_
 refine r_nil ?_
 refine c_seq (c_seq (c_region ?_))
 refine r_v (q_moveS rfl) rfl ?_; refine r_v (q_len rfl) rfl ?_; refine r_v (q_moveI rfl) rfl ?_
 refine r_nil ?_
 refine c_block ?_
 refine c_loop (Γ := Nat × Nat) (fun k => [(2, .pointer (some ⟨b2, 0, none⟩)), (5, .int .u32 (k.2 : Int)), (8, .slice sl bs.length c), (9, .int .i64 bs.length), (10, .int .i64 k.1)])
  (fun k w => k.1 ≤ bs.length ∧ k.2 < 4294967296 ∧ crcA k.2 (bs.drop k.1) = crcA 4294967295 bs ∧ St w0 (pt b2 (.cells tabV.toArray 88 (0, 0)) :: l) w) (fun k => bs.length - k.1) (0, 4294967295) ⟨rfl, rfl, rfl, rfl, rfl, trivial⟩ ⟨Nat.zero_le _, (by decide : (4294967295 : Nat) < 4294967296), rfl, h⟩ ?_
 clear h
 rintro ⟨i, s⟩ w e ⟨hi, hs, he, h⟩
 dsimp only at hi hs he h ⊢
 refine c_seq (c_region ?_)
 refine r_v (q_lss rfl rfl) rfl ?_
 refine r_nil ?_
 refine c_seq (c_cond (decide ((i : Int) < (bs.length : Int))) rfl (fun hc => ?_) (fun hc => ?_))
 ·
  have hlt : i < bs.length := by simp at hc; omega
  have hg := List.getElem?_eq_getElem hlt
  have hdr := List.drop_eq_getElem_cons hlt
  generalize bs[i] = x at hg hdr
  have hx := x.toNat_lt
  rw [hdr, crcA] at he
  have hst := crcStep_lt (x := x.toNat) hs hx
  unfold crcStep at he hst
  have hj : (s % 256) ^^^ x.toNat < 256 := xor8 (Nat.mod_lt _ (by decide)) hx
  have hbl := crcByte_lt hj
  obtain ⟨b, o, hsl⟩ := (hr.cons.at_ h).some (by omega)
  refine c_skip ?_
  refine c_seq (c_block ?_)
  refine c_seq (c_region ?_)
  refine r_v (q_idx (b := b) (o := o) (m := bs.length) (c := c) (o' := o + i) (by rw [← hsl]; rfl) rfl rfl hlt (by simp)) rfl ?_
  refine r_v (q_loadc (v := .int .u8 x.toNat) rfl ((hsl ▸ hr.cons.at_ h).cell (bytesV_get hg))) rfl ?_
  refine r_v (q_assignI rfl) rfl ?_
  refine r_nil ?_
  refine c_region ?_
  refine r_v (q_moveI rfl) rfl ?_; refine r_v (q_conv rfl) rfl ?_
  refine r_is (.int .u8 ((s % 256 : Nat) : Int)) (by rw [wrap_u8]) ?_
  refine r_v (q_moveI rfl) rfl ?_; refine r_v (q_xor rfl rfl) rfl ?_
  refine r_is (.int .u8 (((s % 256) ^^^ x.toNat : Nat) : Int)) (congrArg (Value.int .u8) (bit_u8 (by omega) hx).2.2) ?_
  refine r_v (q_aidx (j := (s % 256) ^^^ x.toNat) (o' := (s % 256) ^^^ x.toNat) rfl rfl rfl hj (by simp)) rfl ?_
  refine r_v (q_loadc (v := .int .u32 (crcByte ((s % 256) ^^^ x.toNat) : Int)) rfl (by have := cell_of (h.b 0 rfl) (tabV_get hj); simpa using this)) rfl ?_
  generalize crcByte ((s % 256) ^^^ x.toNat) = tb at he hst hbl ⊢
  refine r_v (q_moveI rfl) rfl ?_
  refine r_v (q_is (v' := .int .u32 ((s / 2 ^ 8 : Nat) : Int)) (q_shr rfl rfl (by omega)) (congrArg (Value.int .u32) (fdiv_nat s 8 32 (by decide)))) rfl ?_
  refine r_v (q_xor rfl rfl) rfl ?_
  refine r_is (.int .u32 ((tb ^^^ (s / 256) : Nat) : Int)) (congrArg (Value.int .u32) (bit_u32 hbl (by omega)).2) ?_
  refine r_v (q_assignI rfl) rfl ?_
  refine r_nil ?_
  refine c_region ?_
  refine r_v (q_add rfl rfl) rfl ?_
  refine r_is (.int .i64 ((i + 1 : Nat) : Int)) (by rw [wrap64 (by omega) (by omega)]; rfl) ?_
  refine r_v (q_moveI rfl) rfl ?_
  exact r_nil ⟨(i + 1, tb ^^^ (s / 256)), ⟨rfl, rfl, rfl, rfl, rfl, trivial⟩, ⟨hlt, hst, he, h⟩, by dsimp only; omega⟩
 have hin : i = bs.length := by simp at hc; omega
 rw [hin, List.drop_length, crcA] at he
 refine c_exit ?_
 refine c_seq (c_region ?_)
 refine r_v (q_moveI rfl) rfl ?_; refine r_v (q_xor rfl rfl) rfl ?_
 refine r_is (.int .u32 ((s ^^^ 4294967295 : Nat) : Int)) (congrArg (Value.int .u32) (bit_u32 hs (by decide)).2) ?_
 refine r_v (q_assignI rfl) rfl ?_
 refine r_nil ?_
 exact c_ret (bq1 ⟨by unfold crc; rw [← he]; rfl, h.drop⟩)
end
end Go.Proofs.YtjjacchnalemaaaGreatDoor
