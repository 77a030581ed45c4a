/- What the proof of ChnkTells needs, part 4: plain lemmas, and what each function does. -/
import Derived.Test.YtjjacchnalemaaaGreatDoorQChnkTellsc
/- xorv: values by what turns: reading them. -/
namespace Go.Hw
theorem run_part_bool {P : Program} {w : World} {t : TypeId} (ht : P.underlying t = some .bool) {cs : List Value} {off : Nat} {v : Value} (hv : cs[off]? = some v) : (part t cs.toArray off).run P w = .ok v w := by
 have : (isAgg t).run P w = .ok false w := by
  unfold Go.isAgg
  rw [Sem.run_bind, run_underlying ht w]
  rfl
 simp [part, this, hv]
class EqB2 (P : Program) (t : TypeId) : Prop where
 u : ∃ fl : List Field, P.underlying t = some (.struct fl.toArray) ∧ fl.map (fun f => (f.name == "_", f.offset, P.underlying f.type)) = [(false, 0, some .bool), (false, 1, some (.int .i64)), (false, 2, some (.int .i64))]
 s : P.stoodInHeld t = false
 g : P.eqGuardType P.depth t = false
theorem run_eqB2 {P : Program} {w : World} {t : TypeId} (h : EqB2 P t) (a a' : Bool) (b b' c c' : Int) (d : Nat) :
  (Op.equalIn (d + 2) t (.agg [.bool a, .int .i64 b, .int .i64 c].toArray) (.agg [.bool a', .int .i64 b', .int .i64 c'].toArray)).run P w = .ok (a == a' && ([b, c] : List Int) == [b', c']) w := by
 obtain ⟨fl, hu, hf⟩ := h.u
 have hfo : P.fieldsOf t = fl.toArray := by unfold Program.fieldsOf; rw [hu]
 rw [run_equalIn_struct w (d + 1) t _ _ (by rw [hfo]; exact hu) h.s, hfo]
 have hl3 : fl.length = 3 := by have := congrArg List.length hf; simpa using this
 obtain ⟨f, f2, f3, rfl⟩ : ∃ f f2 f3, fl = [f, f2, f3] := by
  match fl, hl3 with
  | [x, y, z], _ => exact ⟨x, y, z, rfl⟩
 simp only [List.map_cons, List.map_nil, List.cons.injEq, Prod.mk.injEq, and_true] at hf
 obtain ⟨⟨h1, h2, h3⟩, h4⟩ := hf
 have hn : f.name ≠ "_" := by simpa using h1
 have e1 : ([.bool a, .int .i64 b, .int .i64 c] : List Value)[f.offset]? = some (.bool a) := by rw [h2]; rfl
 have e2 : ([.bool a', .int .i64 b', .int .i64 c'] : List Value)[f.offset]? = some (.bool a') := by rw [h2]; rfl
 show (Op.eqFields (d + 1) _ _ [f, f2, f3]).run P w = _
 unfold Op.eqFields
 rw [if_pos hn]
 simp only [Sem.run_bind, run_part_bool h3 e1, run_part_bool h3 e2, Result.andThen_ok, run_equalIn_bool w d f.type a a' h3]
 by_cases haa : a = a'
 ·subst haa
  have ih := run_eqFields (P := P) (w := w) d [f2, f3] [.i64, .i64] [b, c] [b', c'] [.bool a] [.bool a] rfl rfl rfl (by
   obtain ⟨⟨g1, g2, g3⟩, g4, g5, g6⟩ := h4
   simp [g1, g2, g3, g4, g5, g6, List.zipIdx])
  have ih' : (Op.eqFields (d + 1) #[Value.bool a, .int .i64 b, .int .i64 c] #[Value.bool a, .int .i64 b', .int .i64 c'] [f2, f3]).run P w = .ok (b == b' && c == c') w := by
   have := ih
   simpa [ints] using this
  simp
  exact ih'
 ·simp [haa]
section
variable {P : Program} {e : Env} {w : World} {d : Option Nat} {ty : TypeId} {pos : String} {af : Array Edge} {g : Option (Nat × Bool)}
theorem q_neB2 {t t2 : TypeId} [h : EqB2 P t] {x y : Operand} (a a' : Bool) (b b' c c' : Int) (hx : ev e x = .agg [.bool a, .int .i64 b, .int .i64 c].toArray) (hy : ev e y = .agg [.bool a', .int .i64 b', .int .i64 c'].toArray) :
  Qv P e ⟨d, .binOp .neq t x y t2, ty, pos, af, g⟩ w (.bool (!(a == a' && ([b, c] : List Int) == [b', c']))) := by
 unfold Qv
 have h1 := run_eqGuard_agg (P := P) w .neq t x y [.bool a, .int .i64 b, .int .i64 c].toArray [.bool a', .int .i64 b', .int .i64 c'].toArray h.g
 have h2 := run_neq_struct (P := P) w t [.bool a, .int .i64 b, .int .i64 c].toArray [.bool a', .int .i64 b', .int .i64 c'].toArray
 rw [run_eqB2 h a a' b b' c c' 9998] at h2
 simp only [execOp, hx, hy, Sem.run_bind, h1, Result.andThen_ok, h2, Result.andThen]
 rfl
end
theorem win_ne (x y : Win) : (!(x.is == y.is && ([(x.lead : Int), (x.trail : Int)] : List Int) == [(y.lead : Int), (y.trail : Int)])) = decide (x ≠ y) := by
 obtain ⟨a, b, c⟩ := x
 obtain ⟨a', b', c'⟩ := y
 by_cases h : (⟨a, b, c⟩ : Win) = ⟨a', b', c'⟩
 ·cases h; simp
 ·rw [decide_eq_true h, Bool.not_eq_true', Bool.eq_false_iff]
  intro hh
  have hh : a = a' ∧ (b : Int) = b' ∧ (c : Int) = c' := by simpa using hh
  obtain ⟨rfl, h2, h3⟩ := hh
  obtain rfl : b = b' := by omega
  obtain rfl : c = c' := by omega
  exact h rfl
end Go.Hw
namespace Go.Proofs.YtjjacchnalemaaaGreatDoor
open Go.Hw
set_option maxHeartbeats 4000000
set_option maxRecDepth 100000
instance eqbWin : EqB2 Tryz.prog 134 := ⟨⟨_, Tryz.underlying134, by kernel_rfl⟩, by kernel_rfl, by kernel_rfl⟩
section
variable {w0 w : World} {l : List HProp}
theorem xorv_turn (hT : Tz w0) {p q : Nat} {s : RS} {win : Win} (ho : WinOk win ∨ win = ⟨false, 0, 0⟩) (h : St w0 (IsBR p s :: WinPt q win :: l) w) :
  Ret Tryz.prog 125 [.pointer (some ⟨p, 0, none⟩), .pointer (some ⟨q, 0, none⟩)] w fun v w' => ∃ (x : Nat) (ok : Bool) (win' : Win), v = .tuple [.int .u64 (x : Int), .bool ok].toArray ∧ x < 18446744073709551616 ∧ WinOk win' ∧ (turnR s win).1 = (if ok = true then some (x, win') else none) ∧ St w0 (IsBR p (turnR s win).2 :: WinPt q win' :: l) w' := by
 have ho : WinOk win := by
  rcases ho with h | h
  ·exact h
  ·subst h; unfold WinOk; decide
 have hwl := win_long_le win
 refine enter Tryz.func125 rfl Tryz.results125 Tryz.ntmps125 rfl ?_
 refine c_seq (c_region ?_)
 refine r_v (q_assignI rfl) rfl ?_; refine r_v (q_assignB rfl) rfl ?_
 refine r_nil ?_
 refine c_seq (c_seq (c_region ?_))
 refine r_v (q_moveP rfl) rfl ?_
 refine r_c rfl (x_call rfl (bits_Get 1 h) ?_)
 rw [show heldN 1 = 1 from rfl]
 cases hg1 : s.get 1 with | mk a s1 =>
 rintro _ w ⟨rfl, h⟩
 dsimp only at h ⊢
 refine r_v (q_eql rfl rfl) rfl ?_
 by_cases ha : a = 0
 ·subst ha
  refine r_is (.bool true) rfl ?_
  refine r_nil (c_true rfl ?_)
  refine c_seq (c_region ?_)
  refine r_v (q_assignI rfl) rfl ?_; refine r_v (q_assignB rfl) rfl ?_
  refine r_nil ?_
  rw [turnR_0 hg1]
  exact c_ret (bq2 ⟨0, true, win, rfl, by decide, ho, rfl, h⟩)
 refine r_is (.bool false) (by congr 1; rw [beq_eq_false_iff_ne]; omega) ?_
 refine r_nil (c_false rfl (c_skip ?_))
 refine c_seq (c_seq (c_region ?_))
 refine r_v (q_moveP rfl) rfl ?_
 refine r_c rfl (x_call rfl (bits_Get 1 h) ?_)
 rw [show heldN 1 = 1 from rfl]
 cases hg2 : s1.get 1 with | mk b s2 =>
 rintro _ w ⟨rfl, h⟩
 dsimp only at h ⊢
 refine r_v (q_eql rfl rfl) rfl ?_
 by_cases hb : b = 0
 ·subst hb
  refine r_is (.bool true) rfl ?_
  refine r_nil (c_true rfl ?_)
  cases hg3 : s2.get win.long with | mk g s3 =>
  have hT2 := turnR_2 hg1 ha hg2 hg3
  have hglt : g * 2 ^ win.trail % 18446744073709551616 < 18446744073709551616 := Nat.mod_lt _ (by decide)
  have htr : win.trail ≤ 64 := by unfold WinOk at ho; omega
  refine c_cut (Γ := Unit) (fun _ => [(1, .pointer (some ⟨q, 0, none⟩)), (6, .int .u64 ((g * 2 ^ win.trail % 18446744073709551616 : Nat) : Int))]) (fun _ w => St w0 (IsBR p s3 :: WinPt q win :: l) w) ?_ ?_
  ·refine c_anyW [0, 1, 2, 3, 4, 5, 6, 7, 8, 9, 10, 11] none (fun w => w.heap[q]? = some (.cells (winC win).toArray 134 (0, 0))) (by kernel_rfl) (by kernel_rfl) ?_
   replace h := h.drew
   generalize w.drew = w at h
   have hs := h
   replace h := hs.b 1 rfl
   refine cur_pure rfl rfl rfl rfl (fun _ => h) (fun _ => flt_v rfl (q_moveP rfl)) ?_; refine cur_pure rfl rfl rfl rfl (fun _ => h) (fun _ => flt_v rfl (q_moveP rfl)) ?_; refine cur_pure rfl rfl rfl rfl (fun _ => h) (fun _ => flt_v rfl (q_nil rfl)) ?_
   refine cur_float rfl rfl rfl rfl h (fun w h => flt_v rfl (q_loadS (l := winC win) rfl rfl (at_of h rfl))) ?_
   refine cur_skip ?_; refine cur_skip ?_; refine cur_pure rfl rfl rfl rfl (fun _ => h) (fun _ => flt_v rfl (q_moveP rfl)) ?_; refine cur_pure rfl rfl rfl rfl (fun _ => h) (fun _ => flt_v rfl (q_nil rfl)) ?_; refine cur_pure rfl rfl rfl rfl (fun _ => h) (fun _ => flt_v rfl (q_fa rfl)) ?_
   refine cur_float rfl rfl rfl rfl h (fun w h => flt_v rfl (q_load (v := .int .i64 win.trail) rfl h rfl)) ?_
   refine cur_skip ?_; refine cur_skip ?_
   refine cur_one 4 rfl rfl rfl rfl ?_
   refine (x_call rfl (xorv_long ho hs) ?_)
   rintro _ w ⟨rfl, hs⟩
   replace h := hs.b 1 rfl
   refine ⟨fun _ => h, ?_⟩
   refine cur_skip ?_; refine cur_skip ?_; refine cur_skip ?_
   refine cur_one 5 rfl rfl rfl rfl ?_
   refine (x_call rfl (bits_Get win.long hs) ?_)
   rw [heldN_nat hwl, hg3]
   rintro _ w ⟨rfl, hs⟩
   dsimp only at hs
   replace h := hs.b 1 rfl
   refine ⟨fun _ => h, ?_⟩
   refine cur_pure rfl rfl rfl rfl (fun _ => h) (fun _ => flt_v rfl (q_is (v' := .int .u64 ((g * 2 ^ win.trail % 18446744073709551616 : Nat) : Int)) (q_shl rfl rfl (by omega)) (congrArg (Value.int .u64) (shl_u64 g win.trail htr)))) ?_
   refine cur_pure rfl rfl rfl rfl (fun _ => h) (fun _ => flt_v rfl (q_assignI rfl)) ?_
   exact cur_end ⟨(), ⟨rfl, rfl, trivial⟩, hs⟩
  clear h
  rintro _ w e h
  rw [hT2]
  dsimp only
  generalize hX : g * 2 ^ win.trail % 18446744073709551616 = x at hglt ⊢
  refine c_seq (c_region ?_)
  refine r_v (q_moveI rfl) rfl ?_; refine r_v (q_moveP rfl) rfl ?_; refine r_v (q_nil rfl) rfl ?_; refine r_v (q_fa rfl) rfl ?_
  refine r_v (q_load (v := .bool win.is) rfl (h.b 1 rfl) rfl) rfl ?_
  cases hwi : win.is with
  | false =>
   refine r_v (q_moveB rfl) rfl ?_; refine r_gn rfl rfl rfl ?_; refine r_gn rfl rfl rfl ?_; refine r_v (q_pick0 rfl rfl rfl) rfl ?_; refine r_v (q_assignI rfl) rfl ?_; refine r_v (q_assignB rfl) rfl ?_
   refine r_nil ?_
   exact c_ret (bq2 ⟨x, false, win, rfl, hglt, ho, by simp, h⟩)
  | true =>
   refine r_v (q_moveB rfl) rfl ?_; refine r_gd rfl rfl ?_; refine r_v (q_moveI rfl) rfl ?_; refine r_gd rfl rfl ?_; refine r_v (q_neq rfl rfl) rfl ?_; refine r_v (q_pick1 rfl rfl rfl) rfl ?_; refine r_v (q_assignI rfl) rfl ?_; refine r_v (q_assignB rfl) rfl ?_
   refine r_nil ?_
   refine c_ret (bq2 ⟨x, (x : Int) != 0, win, rfl, hglt, ho, ?_, h⟩)
   by_cases hx0 : x = 0
   ·subst hx0; simp
   ·rw [if_pos ⟨rfl, hx0⟩, if_pos (by rw [bne_iff_ne]; omega)]
 refine r_is (.bool false) (by congr 1; rw [beq_eq_false_iff_ne]; omega) ?_
 refine r_nil (c_false rfl (c_skip ?_))
 refine c_seq (c_region ?_)
 refine r_v (q_moveP rfl) rfl ?_
 refine r_c rfl (x_call rfl (bits_Get 5 h) ?_)
 rw [show heldN 5 = 5 from rfl]
 have hlead := RS.get_lt s2 5
 cases hg3 : s2.get 5 with | mk lead s3 =>
 rw [hg3] at hlead
 rintro _ w ⟨rfl, h⟩
 dsimp only at h hlead ⊢
 refine r_v (q_conv rfl) rfl ?_
 refine r_is (.int .i64 (lead : Int)) (by rw [wrap64 (by omega) (by omega)]) ?_
 refine r_v (q_moveP rfl) rfl ?_
 refine r_c rfl (x_call rfl (bits_Get 6 h) ?_)
 rw [show heldN 6 = 6 from rfl]
 have hlong := RS.get_lt s3 6
 cases hg4 : s3.get 6 with | mk long s4 =>
 rw [hg4] at hlong
 rintro _ w ⟨rfl, h⟩
 dsimp only at h hlong ⊢
 refine r_v (q_conv rfl) rfl ?_
 refine r_is (.int .i64 (long : Int)) (by rw [wrap64 (by omega) (by omega)]) ?_
 refine r_v (q_add rfl rfl) rfl ?_
 refine r_is (.int .i64 ((long + 1 : Nat) : Int)) (by rw [wrap64 (by omega) (by omega)]; rfl) ?_
 refine r_v (q_assignI rfl) rfl ?_; refine r_v (q_assignI rfl) rfl ?_
 refine r_nil ?_
 refine c_seq (c_region ?_)
 refine r_v (q_moveI rfl) rfl ?_; refine r_v (q_moveI rfl) rfl ?_; refine r_v (q_sub rfl rfl) rfl ?_
 refine r_is (.int .i64 (64 - (lead : Int))) (by rw [wrap64 (by omega) (by omega)]) ?_
 refine r_v (q_moveI rfl) rfl ?_; refine r_v (q_sub rfl rfl) rfl ?_
 refine r_is (.int .i64 (64 - (lead : Int) - ((long + 1 : Nat) : Int))) (by rw [wrap64 (by omega) (by omega)]) ?_
 generalize htr : 64 - (lead : Int) - ((long + 1 : Nat) : Int) = tr
 refine r_v (q_build (r := [.bool true, .int .i64 lead, .int .i64 tr]) rfl) rfl ?_
 refine r_c rfl (x_alloc h fun b9 w h => ?_)
 refine r_c rfl (x_storeA (vs := [.bool true, .int .i64 lead, .int .i64 tr]) 0 h rfl rfl rfl rfl rfl rfl rfl fun w h => ?_)
 replace h : St w0 (pt b9 (.cells [.bool true, .int .i64 lead, .int .i64 tr].toArray 134 (0, 0)) :: IsBR p s4 :: WinPt q win :: l) w := h
 refine r_nil ?_
 refine c_seq (c_seq (c_region ?_))
 refine r_v (q_fa rfl) rfl ?_
 refine r_v (q_load (v := .int .i64 tr) rfl (h.b 0 rfl) rfl) rfl ?_
 refine r_v (q_lss rfl rfl) rfl ?_
 refine r_nil (c_cond (decide (tr < 0)) rfl (fun hc => ?_) (fun hc => ?_))
 ·
  refine c_seq (c_region ?_)
  refine r_v (q_assignI rfl) rfl ?_; refine r_v (q_assignB rfl) rfl ?_
  refine r_nil ?_
  rw [turnR_3x hg1 ha hg2 hb hg3 hg4 (by rw [decide_eq_true_eq] at hc; omega)]
  exact c_ret (bq2 ⟨0, false, win, rfl, by decide, ho, rfl, h.drop⟩)
 refine c_skip ?_
 have hle : ¬ 64 < lead + (long + 1) := by rw [decide_eq_false_iff_not] at hc; omega
 have htr2 : tr = ((64 - lead - (long + 1) : Nat) : Int) := by omega
 subst htr2
 clear hc htr
 cases hg5 : s4.get (long + 1) with | mk g s5 =>
 have hT3 := turnR_3 (win := win) hg1 ha hg2 hb hg3 hg4 hle hg5
 have hglt : g * 2 ^ (64 - lead - (long + 1)) % 18446744073709551616 < 18446744073709551616 := Nat.mod_lt _ (by decide)
 generalize htd : 64 - lead - (long + 1) = tr at hT3 hglt h ⊢
 replace h : St w0 (WinPt b9 ⟨true, lead, tr⟩ :: IsBR p s4 :: WinPt q win :: l) w := h
 refine c_cut (Γ := Unit) (fun _ => [(1, .pointer (some ⟨q, 0, none⟩)), (9, .pointer (some ⟨b9, 0, none⟩)), (10, .int .u64 ((g * 2 ^ tr % 18446744073709551616 : Nat) : Int))]) (fun _ w => St w0 (WinPt b9 ⟨true, lead, tr⟩ :: IsBR p s5 :: WinPt q win :: l) w) ?_ ?_
 ·refine c_anyW [0, 1, 2, 3, 4, 5, 6] none (fun w => w.heap[b9]? = some (.cells (winC ⟨true, lead, tr⟩).toArray 134 (0, 0))) (by kernel_rfl) (by kernel_rfl) ?_
  replace h := h.drew
  generalize w.drew = w at h
  have hs := h
  replace h := hs.b 0 rfl
  refine cur_pure rfl rfl rfl rfl (fun _ => h) (fun _ => flt_v rfl (q_moveP rfl)) ?_; refine cur_pure rfl rfl rfl rfl (fun _ => h) (fun _ => flt_v rfl (q_moveI rfl)) ?_; refine cur_skip ?_; refine cur_pure rfl rfl rfl rfl (fun _ => h) (fun _ => flt_v rfl (q_fa rfl)) ?_
  refine cur_float rfl rfl rfl rfl h (fun w h => flt_v rfl (q_load (v := .int .i64 tr) rfl h rfl)) ?_
  refine cur_skip ?_; refine cur_skip ?_
  refine cur_one 2 rfl rfl rfl rfl ?_
  refine (x_call rfl (bits_Get ((long + 1 : Nat) : Int) (hs.f 1)) ?_)
  rw [heldN_nat (by omega), hg5]
  rintro _ w ⟨rfl, hs⟩
  dsimp only at hs
  replace hs := hs.f 1
  replace h := hs.b 0 rfl
  refine ⟨fun _ => h, ?_⟩
  refine cur_pure rfl rfl rfl rfl (fun _ => h) (fun _ => flt_v rfl (q_is (v' := .int .u64 ((g * 2 ^ tr % 18446744073709551616 : Nat) : Int)) (q_shl rfl rfl (by omega)) (congrArg (Value.int .u64) (shl_u64 g tr (by omega))))) ?_
  refine cur_pure rfl rfl rfl rfl (fun _ => h) (fun _ => flt_v rfl (q_assignI rfl)) ?_
  exact cur_end ⟨(), ⟨rfl, rfl, rfl, trivial⟩, hs⟩
 clear h
 rintro _ w e h
 rw [hT3]
 dsimp only
 generalize hX : g * 2 ^ tr % 18446744073709551616 = x at hglt ⊢
 refine c_cut (Γ := Unit) (fun _ => [(1, .pointer (some ⟨q, 0, none⟩)), (9, .pointer (some ⟨b9, 0, none⟩)), (10, .int .u64 (x : Int))]) (fun _ w => ¬ (x = 0 ∨ winOf x ≠ ⟨true, lead, tr⟩ ∨ win.fits x = true) ∧ St w0 (WinPt b9 ⟨true, lead, tr⟩ :: IsBR p s5 :: WinPt q win :: l) w) ?_ ?_
 ·have bad : ∀ {w : World}, (x = 0 ∨ winOf x ≠ ⟨true, lead, tr⟩ ∨ win.fits x = true) → St w0 (WinPt b9 ⟨true, lead, tr⟩ :: IsBR p s5 :: WinPt q win :: l) w → ∃ (x' : Nat) (ok : Bool) (win' : Win), Value.tuple [.int .u64 0, .bool false].toArray = .tuple [.int .u64 (x' : Int), .bool ok].toArray ∧ x' < 18446744073709551616 ∧ WinOk win' ∧ (if x = 0 ∨ winOf x ≠ ⟨true, lead, tr⟩ ∨ win.fits x = true then none else some (x, (⟨true, lead, tr⟩ : Win))) = (if ok = true then some (x', win') else none) ∧ St w0 (IsBR p s5 :: WinPt q win' :: l) w := fun hb h => ⟨0, false, win, rfl, by decide, ho, by rw [if_pos hb]; rfl, h.drop⟩
  have hwc : ∀ {w : World}, St w0 (WinPt b9 ⟨true, lead, tr⟩ :: IsBR p s5 :: WinPt q win :: l) w → At w b9 0 (winC ⟨true, lead, tr⟩) := fun h => at_of (h.b 0 rfl) rfl
  by_cases hx0 : x = 0
  ·refine c_seq (c_any none (fun w => St w0 _ w) (by kernel_rfl) (by kernel_rfl) h.drew fun w h => ?_)
   refine cur_pure rfl rfl rfl rfl (fun _ => h) (fun _ => flt_v rfl (q_moveI rfl)) ?_
   refine cur_pure rfl rfl rfl rfl (fun _ => h) (fun _ => flt_v rfl (q_is (v' := .bool true) (q_eql rfl rfl) (by rw [hx0]; rfl))) ?_
   refine cur_pure rfl rfl rfl rfl (fun _ => h) (fun _ => flt_v rfl (q_moveB rfl)) ?_; refine cur_pure rfl rfl rfl rfl (fun _ => h) (fun _ => flt_n rfl rfl) ?_; refine cur_pure rfl rfl rfl rfl (fun _ => h) (fun _ => flt_n rfl rfl) ?_; refine cur_pure rfl rfl rfl rfl (fun _ => h) (fun _ => flt_n rfl rfl) ?_; refine cur_pure rfl rfl rfl rfl (fun _ => h) (fun _ => flt_n rfl rfl) ?_; refine cur_pure rfl rfl rfl rfl (fun _ => h) (fun _ => flt_v rfl (q_pick1 rfl rfl rfl)) ?_; refine cur_pure rfl rfl rfl rfl (fun _ => h) (fun _ => flt_v rfl (q_moveB rfl)) ?_; refine cur_pure rfl rfl rfl rfl (fun _ => h) (fun _ => flt_n rfl rfl) ?_; refine cur_pure rfl rfl rfl rfl (fun _ => h) (fun _ => flt_n rfl rfl) ?_; refine cur_pure rfl rfl rfl rfl (fun _ => h) (fun _ => flt_n rfl rfl) ?_; refine cur_pure rfl rfl rfl rfl (fun _ => h) (fun _ => flt_n rfl rfl) ?_; refine cur_pure rfl rfl rfl rfl (fun _ => h) (fun _ => flt_n rfl rfl) ?_; refine cur_pure rfl rfl rfl rfl (fun _ => h) (fun _ => flt_v rfl (q_pick1 rfl rfl rfl)) ?_
   refine cur_end (c_true rfl ?_)
   refine c_seq (c_region ?_)
   refine r_v (q_assignI rfl) rfl ?_; refine r_v (q_assignB rfl) rfl ?_
   exact r_nil (c_ret (bq2 (bad (.inl hx0) h)))
  by_cases hne : winOf x ≠ ⟨true, lead, tr⟩
  ·refine c_seq (c_any none (fun w => St w0 _ w) (by kernel_rfl) (by kernel_rfl) h.drew fun w h => ?_)
   refine cur_pure rfl rfl rfl rfl (fun _ => h) (fun _ => flt_v rfl (q_moveI rfl)) ?_
   refine cur_pure rfl rfl rfl rfl (fun _ => h) (fun _ => flt_v rfl (q_is (v' := .bool false) (q_eql rfl rfl) (by congr 1; rw [beq_eq_false_iff_ne]; omega))) ?_
   refine cur_pure rfl rfl rfl rfl (fun _ => h) (fun _ => flt_v rfl (q_moveB rfl)) ?_; refine cur_pure rfl rfl rfl rfl (fun _ => h) (fun _ => flt_g rfl rfl (q_moveI rfl)) ?_; refine cur_skip ?_
   refine cur_float rfl rfl rfl rfl h (fun w h => flt_g rfl rfl (q_loadS (l := winC ⟨true, lead, tr⟩) rfl rfl (hwc h))) ?_
   refine cur_skip ?_; refine cur_skip ?_; refine cur_skip ?_; refine cur_skip ?_; refine cur_skip ?_; refine cur_skip ?_; refine cur_skip ?_; refine cur_skip ?_; refine cur_skip ?_
   refine cur_one 4 rfl rfl rfl (wanted_g rfl rfl rfl) ?_
   refine (x_call rfl (xorv_of hT hglt h) ?_)
   rintro _ w ⟨rfl, h⟩
   refine ⟨fun _ => h, ?_⟩
   refine cur_pure rfl rfl rfl rfl (fun _ => h) (fun _ => flt_g rfl rfl (q_is (v' := .bool true) (q_neB2 (winOf x).is true (winOf x).lead lead (winOf x).trail tr rfl rfl) (by rw [win_ne (winOf x) ⟨true, lead, tr⟩, decide_eq_true hne]))) ?_
   refine cur_pure rfl rfl rfl rfl (fun _ => h) (fun _ => flt_v rfl (q_pick0 rfl rfl rfl)) ?_; refine cur_pure rfl rfl rfl rfl (fun _ => h) (fun _ => flt_v rfl (q_moveB rfl)) ?_; refine cur_pure rfl rfl rfl rfl (fun _ => h) (fun _ => flt_n rfl rfl) ?_; refine cur_pure rfl rfl rfl rfl (fun _ => h) (fun _ => flt_n rfl rfl) ?_; refine cur_pure rfl rfl rfl rfl (fun _ => h) (fun _ => flt_n rfl rfl) ?_; refine cur_pure rfl rfl rfl rfl (fun _ => h) (fun _ => flt_n rfl rfl) ?_; refine cur_pure rfl rfl rfl rfl (fun _ => h) (fun _ => flt_n rfl rfl) ?_; refine cur_pure rfl rfl rfl rfl (fun _ => h) (fun _ => flt_v rfl (q_pick1 rfl rfl rfl)) ?_
   refine cur_end (c_true rfl ?_)
   refine c_seq (c_region ?_)
   refine r_v (q_assignI rfl) rfl ?_; refine r_v (q_assignB rfl) rfl ?_
   exact r_nil (c_ret (bq2 (bad (.inr (.inl hne)) h)))
  ·refine c_seq (c_any none (fun w => St w0 _ w) (by kernel_rfl) (by kernel_rfl) h.drew fun w h => ?_)
   refine cur_pure rfl rfl rfl rfl (fun _ => h) (fun _ => flt_v rfl (q_moveI rfl)) ?_
   refine cur_pure rfl rfl rfl rfl (fun _ => h) (fun _ => flt_v rfl (q_is (v' := .bool false) (q_eql rfl rfl) (by congr 1; rw [beq_eq_false_iff_ne]; omega))) ?_
   refine cur_pure rfl rfl rfl rfl (fun _ => h) (fun _ => flt_v rfl (q_moveB rfl)) ?_; refine cur_pure rfl rfl rfl rfl (fun _ => h) (fun _ => flt_g rfl rfl (q_moveI rfl)) ?_; refine cur_skip ?_
   refine cur_float rfl rfl rfl rfl h (fun w h => flt_g rfl rfl (q_loadS (l := winC ⟨true, lead, tr⟩) rfl rfl (hwc h))) ?_
   refine cur_skip ?_; refine cur_skip ?_; refine cur_skip ?_; refine cur_skip ?_; refine cur_skip ?_; refine cur_skip ?_; refine cur_skip ?_; refine cur_skip ?_; refine cur_skip ?_
   refine cur_one 4 rfl rfl rfl (wanted_g rfl rfl rfl) ?_
   refine (x_call rfl (xorv_of hT hglt h) ?_)
   rintro _ w ⟨rfl, h⟩
   refine ⟨fun _ => h, ?_⟩
   refine cur_pure rfl rfl rfl rfl (fun _ => h) (fun _ => flt_g rfl rfl (q_is (v' := .bool false) (q_neB2 (winOf x).is true (winOf x).lead lead (winOf x).trail tr rfl rfl) (by rw [win_ne (winOf x) ⟨true, lead, tr⟩, decide_eq_false hne]))) ?_
   refine cur_pure rfl rfl rfl rfl (fun _ => h) (fun _ => flt_v rfl (q_pick0 rfl rfl rfl)) ?_; refine cur_pure rfl rfl rfl rfl (fun _ => h) (fun _ => flt_v rfl (q_moveB rfl)) ?_; refine cur_pure rfl rfl rfl rfl (fun _ => h) (fun _ => flt_g rfl rfl (q_moveP rfl)) ?_; refine cur_pure rfl rfl rfl rfl (fun _ => h) (fun _ => flt_g rfl rfl (q_nil rfl)) ?_
   refine cur_float rfl rfl rfl rfl h (fun w h => flt_g rfl rfl (q_loadS (l := winC win) rfl rfl (at_of (h.b 2 rfl) rfl))) ?_
   refine cur_pure rfl rfl rfl rfl (fun _ => h) (fun _ => flt_g rfl rfl (q_moveI rfl)) ?_; refine cur_skip ?_; refine cur_skip ?_
   refine cur_one 13 rfl rfl rfl (wanted_g rfl rfl rfl) ?_
   refine (x_call rfl (xorv_fits hT hglt h) ?_)
   rintro _ w ⟨rfl, h⟩
   refine ⟨fun _ => h, ?_⟩
   refine cur_pure rfl rfl rfl rfl (fun _ => h) (fun _ => flt_v rfl (q_pick0 rfl rfl rfl)) ?_
   refine cur_end (c_cond (win.fits x) rfl (fun hc => ?_) (fun hc => ?_))
   ·refine c_seq (c_region ?_)
    refine r_v (q_assignI rfl) rfl ?_; refine r_v (q_assignB rfl) rfl ?_
    exact r_nil (c_ret (bq2 (bad (.inr (.inr hc)) h)))
   ·refine c_skip ⟨(), ⟨rfl, rfl, rfl, trivial⟩, ?_, h⟩
    rintro (h | h | h)
    ·exact hx0 h
    ·exact hne h
    ·rw [hc] at h; cases h
 clear h
 rintro _ w e ⟨hcond, h⟩
 refine c_seq (c_region ?_)
 refine r_v (q_moveP rfl) rfl ?_
 refine r_v (q_loadS (l := winC ⟨true, lead, tr⟩) rfl rfl (at_of (h.b 0 rfl) rfl)) rfl ?_
 refine r_v (q_nil rfl) rfl ?_
 refine r_c rfl (x_storeA (vs := winC ⟨true, lead, tr⟩) 2 h rfl rfl rfl rfl rfl rfl rfl fun w h => ?_)
 replace h : St w0 (WinPt b9 ⟨true, lead, tr⟩ :: IsBR p s5 :: WinPt q ⟨true, lead, tr⟩ :: l) w := h
 refine r_nil ?_
 refine c_seq (c_region ?_)
 refine r_v (q_moveI rfl) rfl ?_; refine r_v (q_assignI rfl) rfl ?_; refine r_v (q_assignB rfl) rfl ?_
 refine r_nil ?_
 exact c_ret (bq2 ⟨x, true, ⟨true, lead, tr⟩, rfl, hglt, by unfold WinOk; dsimp only; omega, by rw [if_neg hcond, if_pos rfl], h.drop⟩)

theorem xorv_Decode (hT : Tz w0) {p : Nat} {s : RS} {n : Nat} (hn : n ≤ 65535) (h : St w0 (IsBR p s :: l) w) :
  Ret Tryz.prog 84 [.pointer (some ⟨p, 0, none⟩), .int .i64 (n : Int)] w fun v w' => ∃ a c xs b, v = .tuple [.slice a xs.length c, .bool b].toArray ∧ xorDec n s = (if b = true then some xs else none) ∧ (b = true → xs.length = n ∧ ∀ x ∈ xs, x < 18446744073709551616) ∧ ∃ s', St w0 (OwnU a c xs :: IsBR p s' :: l) w' := by
 refine enter Tryz.func84 rfl Tryz.results84 Tryz.ntmps84 rfl ?_
 refine c_seq (c_region ?_)
 refine r_v (q_assignS rfl) rfl ?_; refine r_v (q_assignB rfl) rfl ?_
 refine r_nil ?_
 refine c_seq (c_region ?_)
 refine r_v (q_moveI rfl) rfl ?_; refine r_v (q_max rfl rfl) rfl ?_; refine r_v (q_min rfl rfl) rfl ?_
 refine r_is (.int .i64 (n : Int)) (by congr 1; omega) ?_
 refine r_v (q_assignI rfl) rfl ?_
 refine r_nil ?_
 refine c_seq (c_region ?_)
 refine r_v (q_assignS rfl) rfl ?_
 refine r_nil ?_
 refine c_seq (c_region ?_)
 refine r_c rfl (x_alloc h fun q w h => ?_)
 replace h : St w0 (WinPt q ⟨false, 0, 0⟩ :: IsBR p s :: l) w := h
 refine r_nil ?_
 refine c_seq (c_region ?_)
 refine r_v (q_assignI rfl) rfl ?_
 refine r_nil ?_
 refine c_seq (c_seq (c_region ?_))
 refine r_v (q_moveI rfl) rfl ?_; refine r_v (q_moveI rfl) rfl ?_
 refine r_nil ?_
 refine c_block ?_
 refine c_loop (Γ := Nat × List Nat × Nat × Win × RS × Option Addr × Nat) (fun k => [(0, .pointer (some ⟨p, 0, none⟩)), (6, .slice k.2.2.2.2.2.1 k.2.1.length k.2.2.2.2.2.2), (7, .pointer (some ⟨q, 0, none⟩)), (8, .int .u64 k.2.2.1), (15, .int .i64 n), (16, .int .i64 k.1)])
  (fun k w => k.1 ≤ n ∧ k.2.1.length = k.1 ∧ k.2.2.1 < 18446744073709551616 ∧ (∀ x ∈ k.2.1, x < 18446744073709551616) ∧ WinOk k.2.2.2.1 ∧ ((k.1 = 0 ∧ k.2.2.2.2.1 = s ∧ k.2.2.2.1 = ⟨false, 0, 0⟩) ∨ (0 < k.1 ∧ k.2.2.2.2.1.bad = false ∧ xorDec n s = (xorDecA (n - k.1) k.2.2.1 k.2.2.2.1 k.2.2.2.2.1).map fun r => k.2.1 ++ r))
   ∧ St w0 (OwnU k.2.2.2.2.2.1 k.2.2.2.2.2.2 k.2.1 :: WinPt q k.2.2.2.1 :: IsBR p k.2.2.2.2.1 :: l) w)
  (fun k => n - k.1) (0, [], 0, ⟨false, 0, 0⟩, s, none, 0) ⟨rfl, rfl, rfl, rfl, rfl, rfl, trivial⟩ ⟨Nat.zero_le _, rfl, (by decide : (0 : Nat) < 18446744073709551616), (fun _ h => by cases h), (show WinOk ⟨false, 0, 0⟩ by unfold WinOk; decide), .inl ⟨rfl, rfl, rfl⟩, St.ownNil _ _ h⟩ ?_
 clear h
 rintro ⟨i, out, was, win, s1, a, c⟩ w e ⟨hi, hol, hwas, hout, ho, inv, h⟩
 dsimp only at hi hol hwas hout ho inv h ⊢
 have bad : ∀ {w : World} {s' : RS}, xorDec n s = none → St w0 (IsBR p s' :: l) w → ∃ a c xs b, Value.tuple [.slice none 0 0, .bool false].toArray = .tuple [.slice a xs.length c, .bool b].toArray ∧ xorDec n s = (if b = true then some xs else none) ∧ (b = true → xs.length = n ∧ ∀ x ∈ xs, x < 18446744073709551616) ∧ ∃ s', St w0 (OwnU a c xs :: IsBR p s' :: l) w := fun hb h => ⟨none, 0, [], false, rfl, hb, (fun h => by cases h), _, St.ownNil _ _ h⟩
 refine c_seq (c_region ?_)
 refine r_v (q_lss rfl rfl) rfl ?_
 refine r_nil ?_
 refine c_seq (c_cond (decide ((i : Int) < (n : Int))) rfl (fun hc => ?_) (fun hc => ?_))
 ·
  have hlt : i < n := by simp at hc; omega
  refine c_skip ?_
  refine c_seq (c_block ?_)
  refine c_seq (c_region ?_)
  refine r_v (q_moveI rfl) rfl ?_; refine r_v (q_assignI rfl) rfl ?_
  refine r_nil ?_
  refine c_cut (Γ := Nat × Win × RS) (fun k => [(0, .pointer (some ⟨p, 0, none⟩)), (6, .slice a out.length c), (7, .pointer (some ⟨q, 0, none⟩)), (8, .int .u64 k.1), (15, .int .i64 n), (16, .int .i64 i)])
   (fun k w => k.1 < 18446744073709551616 ∧ WinOk k.2.1 ∧ (xorDec n s = if k.2.2.bad = true then none else (xorDecA (n - (i + 1)) k.1 k.2.1 k.2.2).map fun r => out ++ k.1 :: r) ∧ St w0 (IsBR p k.2.2 :: WinPt q k.2.1 :: OwnU a c out :: l) w) ?_ ?_
  ·refine c_seq (c_region ?_)
   refine r_v (q_moveI rfl) rfl ?_; refine r_v (q_eql rfl rfl) rfl ?_
   rcases inv with ⟨hi0, hs1, hw0⟩ | ⟨hi0, hbad, inv⟩
   ·refine r_is (.bool true) (by subst hi0; rfl) ?_
    refine r_nil (c_true rfl ?_)
    refine c_region ?_
    refine r_v (q_moveP rfl) rfl ?_
    refine r_c rfl (x_call rfl (bits_Get 64 (h.f 2)) ?_)
    rintro _ w ⟨rfl, h⟩
    rw [show heldN 64 = 64 from rfl] at h ⊢
    refine r_v (q_assignI rfl) rfl ?_
    refine r_nil ⟨((s1.get 64).1, win, (s1.get 64).2), ⟨rfl, rfl, rfl, rfl, rfl, rfl, trivial⟩, RS.get_lt s1 64, ho, ?_, h.f 2 |>.f 2 |>.f 1 |>.f 2⟩
    dsimp only
    have : out = [] := List.eq_nil_of_length_eq_zero (by omega)
    subst this
    rw [← hs1, hw0, hi0]
    cases n with
    | zero => omega
    | succ m => rfl
   ·refine r_is (.bool false) (by simp; omega) ?_
    refine r_nil (c_false rfl ?_)
    rw [show n - i = (n - (i + 1)) + 1 by omega, xorDecA] at inv
    refine c_seq (c_region ?_)
    refine r_v (q_moveP rfl) rfl ?_
    refine r_c rfl (x_call rfl (xorv_turn hT (.inl ho) ((h.f 1).f 2)) ?_)
    cases hR : turnR s1 win with | mk o s2 =>
    rw [hR] at inv
    rintro _ w ⟨x, ok, win', rfl, hx, ho', hr, h⟩
    dsimp only at hr h
    subst hr
    refine r_v (q_moveT rfl) rfl ?_; refine r_v (q_ext rfl rfl) rfl ?_; refine r_v (q_ext rfl rfl) rfl ?_; refine r_v (q_assignI rfl) rfl ?_; refine r_v (q_assignB rfl) rfl ?_
    refine r_nil ?_
    refine c_seq (c_seq (c_region ?_))
    refine r_v (q_moveB rfl) rfl ?_; refine r_v (q_not rfl) rfl ?_
    refine r_nil ?_
    cases ok with
    | false =>
     refine c_true rfl ?_
     refine c_seq (c_region ?_)
     refine r_v (q_assignS rfl) rfl ?_; refine r_v (q_assignB rfl) rfl ?_
     refine r_nil ?_
     exact c_ret (bq2 (bad inv (((h.f 1).drop.f 1).drop)))
    | true =>
     refine c_false rfl (c_skip ?_)
     have hy := Nat.xor_lt_two_pow (n := 64) hwas hx
     refine c_region ?_
     refine r_v (q_moveI rfl) rfl ?_; refine r_v (q_moveI rfl) rfl ?_; refine r_v (q_xor rfl rfl) rfl ?_
     refine r_is (.int .u64 ((was ^^^ x : Nat) : Int)) (congrArg (Value.int .u64) (bit_u64 hwas hx).2.2) ?_
     refine r_v (q_assignI rfl) rfl ?_
     refine r_nil ⟨(was ^^^ x, win', s2), ⟨rfl, rfl, rfl, rfl, rfl, rfl, trivial⟩, hy, ho', ?_, h⟩
     simp only [if_true] at inv
     dsimp only
     rw [inv]
     cases s2.bad with
     | true => rfl
     | false =>
      simp only [Bool.false_eq_true, if_false, Option.map_map]
      rfl
  clear h inv hwas ho
  rintro ⟨was, win, s2⟩ w e ⟨hwas, ho, inv, h⟩
  dsimp only at hwas ho inv h ⊢
  refine c_cut (Γ := Unit) (fun _ => [(0, .pointer (some ⟨p, 0, none⟩)), (6, .slice a out.length c), (7, .pointer (some ⟨q, 0, none⟩)), (8, .int .u64 was), (15, .int .i64 n), (16, .int .i64 i)])
   (fun _ w => s2.bad = false ∧ St w0 (IsBR p s2 :: WinPt q win :: OwnU a c out :: l) w) ?_ ?_
  ·refine c_seq (c_region ?_)
   refine r_v (q_moveP rfl) rfl ?_
   refine r_c rfl (x_call rfl (bits_Ok h) ?_)
   rintro _ w ⟨rfl, h⟩
   refine r_v (q_not rfl) rfl ?_
   refine r_nil ?_
   cases hbd : s2.bad with
   | true =>
    refine c_true rfl ?_
    refine c_seq (c_region ?_)
    refine r_v (q_assignS rfl) rfl ?_; refine r_v (q_assignB rfl) rfl ?_
    refine r_nil ?_
    rw [hbd, if_pos rfl] at inv
    exact c_ret (bq2 (bad inv (((h.f 1).drop.f 1).drop)))
   | false =>
    refine c_false rfl ?_
    exact c_skip ⟨(), ⟨rfl, rfl, rfl, rfl, rfl, rfl, trivial⟩, rfl, h⟩
  clear h
  rintro _ w e ⟨hbd, h⟩
  rw [hbd, if_neg (by decide)] at inv
  refine c_region ?_
  refine r_v (q_moveS rfl) rfl ?_; refine r_v (q_moveI rfl) rfl ?_
  refine r_c rfl (x_bslice (r := u64V [was]) h rfl rfl rfl fun b2 w h => ?_)
  refine r_c rfl (x_append' (ys := u64V [was]) (zs := u64V (out ++ [was])) (m3 := (out ++ [was]).length) (h.f 3) rfl rfl ⟨rfl, .inr ⟨b2, 0, rfl, at_of (h.b 0 rfl) rfl⟩⟩ (u64V_one _) (by simp) (by simp [u64V]) (by simp; omega) (by simp; omega) rfl fun a2 c2 w _ h => ?_)
  refine r_v (q_assignS rfl) rfl ?_
  refine r_nil ?_
  refine c_region ?_
  refine r_v (q_add rfl rfl) rfl ?_
  refine r_is (.int .i64 ((i + 1 : Nat) : Int)) (by rw [wrap64 (by omega) (by omega)]; rfl) ?_
  refine r_v (q_moveI rfl) rfl ?_
  refine r_nil ⟨(i + 1, out ++ [was], was, win, s2, a2, c2), ⟨rfl, rfl, rfl, rfl, rfl, rfl, trivial⟩, ⟨hlt, by simp; omega, hwas, fun y hy => ?_, ho, .inr ⟨Nat.succ_pos _, hbd, ?_⟩, ?_⟩, by dsimp only; omega⟩
  ·rcases List.mem_append.1 hy with hy | hy
   ·exact hout y hy
   ·simp at hy; subst hy; exact hwas
  ·rw [inv]; congr 1; funext r; simp
  ·exact ((h.f 1).drop.f 2).f 1
 have hin : i = n := by simp at hc; omega
 refine c_exit ?_
 refine c_cut (Γ := Unit) (fun _ => [(6, .slice a out.length c)]) (fun _ w => xorDec n s = some out ∧ St w0 (IsBR p s1 :: OwnU a c out :: WinPt q win :: l) w) ?_ ?_
 ·refine c_seq (c_region ?_)
  refine r_v (q_moveP rfl) rfl ?_
  refine r_c rfl (x_call rfl (bits_Ok (h.f 2)) ?_)
  rintro _ w ⟨rfl, h⟩
  refine r_v (q_not rfl) rfl ?_
  refine r_nil ?_
  have hx0 : n = 0 → xorDec n s = if s.bad = true then none else some [] := fun h0 => by subst h0; rfl
  cases hbd : s1.bad with
  | true =>
   refine c_true rfl ?_
   refine c_seq (c_region ?_)
   refine r_v (q_assignS rfl) rfl ?_; refine r_v (q_assignB rfl) rfl ?_
   refine r_nil ?_
   rcases inv with ⟨hi0, hs1, hw0⟩ | ⟨hi0, hbad, inv⟩
   ·exact c_ret (bq2 (bad (by rw [hx0 (by omega), ← hs1, hbd]; rfl) (((h.f 1).drop.f 1).drop)))
   ·rw [hbd] at hbad; cases hbad
  | false =>
   refine c_false rfl ?_
   refine c_skip ⟨(), ⟨rfl, trivial⟩, ?_, h⟩
   rcases inv with ⟨hi0, hs1, hw0⟩ | ⟨hi0, hbad, inv⟩
   ·have : out = [] := List.eq_nil_of_length_eq_zero (by omega)
    rw [hx0 (by omega), ← hs1, hbd, this]; rfl
   ·rw [inv, hin, Nat.sub_self, xorDecA]; simp
 clear h inv
 rintro _ w e ⟨hd, h⟩
 refine c_seq (c_region ?_)
 refine r_v (q_moveS rfl) rfl ?_; refine r_v (q_assignS rfl) rfl ?_; refine r_v (q_assignB rfl) rfl ?_
 refine r_nil ?_
 exact c_ret (bq2 ⟨a, c, out, true, rfl, by rw [hd]; rfl, fun _ => ⟨by omega, hout⟩, s1, ((h.f 2).drop.f 1)⟩)
end
end Go.Proofs.YtjjacchnalemaaaGreatDoor

/- suit: words, sums; slices.Equal; simp: reading small numbers. -/
namespace Go.Hw
set_option maxRecDepth 100000
theorem u64V_setlast (done : List Nat) (y z : Nat) : (u64V (done ++ [y])).set done.length (.int .u64 (z : Int)) = u64V (done ++ [z]) := by
 simp [u64V, List.set_append]
theorem shl8_or {y c : Nat} (hc : c < 256) : (y * 2 ^ 8 % 18446744073709551616) ||| c = (y * 256 + c) % 18446744073709551616 := by
 have e8 : (2 : Nat) ^ 8 = 256 := rfl
 have h1 : y * 2 ^ 8 % 18446744073709551616 = y % 72057594037927936 * 2 ^ 8 := by rw [e8]; omega
 have h2 : (y * 256 + c) % 18446744073709551616 = c + y % 72057594037927936 * 2 ^ 8 := by rw [e8]; omega
 rw [h1, h2, Nat.or_comm]
 exact or_shift (i := 8) hc
theorem unpackW_len (x b m : Nat) : (unpackW x b m).length = m := by simp [unpackW]
theorem simpDecA_len : ∀ (ws : List Nat) (room : Nat) (x : List Nat), simpDecA ws room = some x → x.length ≤ room
 | [], _, x, h => by cases h; exact Nat.zero_le _
 | w :: ws, room, x, h => by
  rw [simpDecA] at h
  split at h
  ·cases h
  ·obtain ⟨y, h1, rfl⟩ := Option.map_eq_some_iff.1 h
   have := simpDecA_len ws _ y h1
   rw [List.length_append, unpackW_len]
   omega
theorem unpackW_succ (x b m : Nat) : unpackW x b (m + 1) = unpackW x b m ++ [x / 2 ^ (m * b) % 2 ^ b] := by
 unfold unpackW
 rw [List.range_succ, List.map_append]; rfl
theorem and_word (x : Nat) : x &&& 1152921504606846975 = x % 1152921504606846976 := Nat.and_two_pow_sub_one_eq_mod x 60
theorem pow_le_64 {b : Nat} (h : b ≤ 60) : 2 ^ b < 18446744073709551616 := Nat.lt_of_le_of_lt (Nat.pow_le_pow_right (by decide) h) (by decide)
end Go.Hw
namespace Go.Proofs.YtjjacchnalemaaaGreatDoor
open Go.Hw
set_option maxHeartbeats 4000000
set_option maxRecDepth 100000
section
variable {w0 w : World} {l : List HProp}
theorem slices_Equal {s1 s2 : Option Addr} {c1 c2 : Nat} {u1 u2 : List Nat} (h1n : u1.length ≤ 9223372036854775807) (h : St w0 l w) (h1 : Reads w0 l 1 s1 u1.length (u64V u1)) (h2 : Reads w0 l 1 s2 u2.length (u64V u2)) :
  Ret Tryz.prog 126 [.slice s1 u1.length c1, .slice s2 u2.length c2] w fun v w' => v = .bool (decide (u1 = u2)) ∧ St w0 l w' := by
 refine enter Tryz.func126 rfl Tryz.results126 Tryz.ntmps126 rfl ?_
 refine c_seq (c_region ?_)
 refine r_v (q_assignB rfl) rfl ?_
 refine r_nil ?_
 refine c_seq (c_seq (c_region ?_))
 refine r_v (q_moveS rfl) rfl ?_; refine r_v (q_len rfl) rfl ?_; refine r_v (q_moveS rfl) rfl ?_; refine r_v (q_len rfl) rfl ?_; refine r_v (q_neq rfl rfl) rfl ?_
 by_cases hl : u1.length = u2.length
 ·refine r_is (.bool false) (by simp [hl]) ?_
  refine r_nil (c_false rfl (c_skip ?_))
  refine c_seq (c_seq (c_region ?_))
  refine r_v (q_moveS rfl) rfl ?_; refine r_v (q_len rfl) rfl ?_; refine r_v (q_moveI rfl) rfl ?_
  refine r_nil ?_
  refine c_block ?_
  refine c_loop (Γ := Nat) (fun k => [(0, .slice s1 u1.length c1), (1, .slice s2 u2.length c2), (12, .int .i64 u1.length), (13, .int .i64 k)]) (fun k w => k ≤ u1.length ∧ u1.take k = u2.take k ∧ St w0 l w) (fun k => u1.length - k) 0 ⟨rfl, rfl, rfl, rfl, trivial⟩ ⟨Nat.zero_le _, rfl, h⟩ ?_
  clear h
  rintro k w e ⟨hk, he, h⟩
  refine c_seq (c_region ?_)
  refine r_v (q_lss rfl rfl) rfl ?_
  refine r_nil ?_
  refine c_seq (c_cond (decide ((k : Int) < (u1.length : Int))) rfl (fun hc => ?_) (fun hc => ?_))
  ·
   have hlt : k < u1.length := by simp at hc; omega
   have hg1 := List.getElem?_eq_getElem hlt
   generalize u1[k] = x at hg1
   have hg2 := List.getElem?_eq_getElem (show k < u2.length by omega)
   generalize u2[k]'(by omega) = y at hg2
   obtain ⟨b1, o1, hs1⟩ := (h1.at_ h).some (by omega)
   obtain ⟨b2, o2, hs2⟩ := (h2.at_ h).some (by omega)
   refine c_skip ?_
   refine c_seq (c_block ?_)
   refine c_seq (c_region ?_)
   refine r_v (q_moveI rfl) rfl ?_; refine r_v (q_assignI rfl) rfl ?_
   refine r_nil ?_
   refine c_seq (c_any none (fun w => St w0 _ w) (by kernel_rfl) (by kernel_rfl) h.drew fun w h => ?_)
   refine cur_pure rfl rfl rfl rfl (fun _ => h) (fun _ => flt_v rfl (q_moveS rfl)) ?_; refine cur_pure rfl rfl rfl rfl (fun _ => h) (fun _ => flt_v rfl (q_moveI rfl)) ?_
   refine cur_pure rfl rfl rfl rfl (fun _ => h) (fun _ => flt_v rfl (q_idx (b := b1) (o := o1) (m := u1.length) (c := c1) (o' := o1 + k) (by rw [← hs1]; rfl) rfl rfl hlt (by simp))) ?_
   refine cur_float rfl rfl rfl rfl h (fun w h => flt_v rfl (q_loadc (v := .int .u64 x) rfl ((hs1 ▸ h1.at_ h).cell (u64V_get hg1)))) ?_
   refine cur_pure rfl rfl rfl rfl (fun _ => h) (fun _ => flt_v rfl (q_moveS rfl)) ?_; refine cur_pure rfl rfl rfl rfl (fun _ => h) (fun _ => flt_v rfl (q_moveI rfl)) ?_
   refine cur_pure rfl rfl rfl rfl (fun _ => h) (fun _ => flt_v rfl (q_idx (b := b2) (o := o2) (m := u2.length) (c := c2) (o' := o2 + k) (by rw [← hs2]; rfl) rfl rfl (by omega) (by simp))) ?_
   refine cur_float rfl rfl rfl rfl h (fun w h => flt_v rfl (q_loadc (v := .int .u64 y) rfl ((hs2 ▸ h2.at_ h).cell (u64V_get hg2)))) ?_
   by_cases hxy : x = y
   ·refine cur_pure rfl rfl rfl rfl (fun _ => h) (fun _ => flt_v rfl (q_is (v' := .bool false) (q_neq rfl rfl) (by rw [hxy]; simp))) ?_
    refine cur_end (c_false rfl (c_skip ?_))
    refine c_region ?_
    refine r_v (q_add rfl rfl) rfl ?_
    refine r_is (.int .i64 ((k + 1 : Nat) : Int)) (by rw [wrap64 (by omega) (by omega)]; rfl) ?_
    refine r_v (q_moveI rfl) rfl ?_
    refine r_nil ⟨k + 1, ⟨rfl, rfl, rfl, rfl, trivial⟩, ⟨hlt, ?_, h⟩, by omega⟩
    rw [List.take_add_one, List.take_add_one, he, hg1, hg2, hxy]
   ·refine cur_pure rfl rfl rfl rfl (fun _ => h) (fun _ => flt_v rfl (q_is (v' := .bool true) (q_neq rfl rfl) (by congr 1; rw [bne_iff_ne]; omega))) ?_
    refine cur_end (c_true rfl ?_)
    refine c_seq (c_region ?_)
    refine r_v (q_assignB rfl) rfl ?_
    refine r_nil (c_ret (bq1 ⟨?_, h⟩))
    rw [show decide (u1 = u2) = false from decide_eq_false fun hh => hxy (by rw [hh, hg2] at hg1; exact (Option.some.inj hg1).symm)]; rfl
  have hkn : k = u1.length := by simp at hc; omega
  refine c_exit ?_
  refine c_seq (c_region ?_)
  refine r_v (q_assignB rfl) rfl ?_
  refine r_nil (c_ret (bq1 ⟨?_, h⟩))
  rw [hkn, List.take_length, hl, List.take_length] at he
  rw [decide_eq_true he]; rfl
 ·refine r_is (.bool true) (by congr 1; rw [bne_iff_ne]; omega) ?_
  refine r_nil (c_true rfl ?_)
  refine c_seq (c_region ?_)
  refine r_v (q_assignB rfl) rfl ?_
  refine r_nil (c_ret (bq1 ⟨?_, h⟩))
  rw [show decide (u1 = u2) = false from decide_eq_false fun hh => hl (by rw [hh])]; rfl

theorem suit_sums {sl : Option Addr} {c : Nat} {u : List Nat} (hu : ∀ x ∈ u, x < 18446744073709551616) (hn : u.length ≤ 65535) (hr : Reads w0 l 1 sl u.length (u64V u)) (h : St w0 l w) :
  Ret Tryz.prog 87 [.slice sl u.length c] w fun v w' => ∃ a c', v = .slice a (sumsL 0 u).length c' ∧ (∀ x ∈ sumsL 0 u, x < 18446744073709551616) ∧ St w0 (OwnU a c' (sumsL 0 u) :: l) w' := by
 refine enter Tryz.func87 rfl Tryz.results87 Tryz.ntmps87 rfl ?_
 refine c_seq (c_region ?_)
 refine r_v (q_assignS rfl) rfl ?_
 refine r_nil ?_
 refine c_seq (c_region ?_)
 refine r_v (q_assignS rfl) rfl ?_
 refine r_nil ?_
 refine c_seq (c_region ?_)
 refine r_v (q_assignI rfl) rfl ?_
 refine r_nil ?_
 refine c_seq (c_seq (c_region ?_))
 refine r_v (q_moveS rfl) rfl ?_; refine r_v (q_len rfl) rfl ?_; refine r_v (q_moveI rfl) rfl ?_
 refine r_nil ?_
 refine c_block ?_
 refine c_loop (Γ := Nat × Nat × List Nat × Option Addr × Nat) (fun k => [(3, .slice k.2.2.2.1 k.2.2.1.length k.2.2.2.2), (4, .int .u64 k.2.1), (7, .slice sl u.length c), (8, .int .i64 u.length), (9, .int .i64 k.1)])
  (fun k w => k.1 ≤ u.length ∧ k.2.1 < 18446744073709551616 ∧ k.2.2.1.length = k.1 ∧ (∀ x ∈ k.2.2.1, x < 18446744073709551616) ∧ k.2.2.1 ++ sumsL k.2.1 (u.drop k.1) = sumsL 0 u ∧ St w0 (OwnU k.2.2.2.1 k.2.2.2.2 k.2.2.1 :: l) w) (fun k => u.length - k.1) (0, 0, [], none, 0) ⟨rfl, rfl, rfl, rfl, rfl, trivial⟩ ⟨Nat.zero_le _, (by decide : (0 : Nat) < 18446744073709551616), rfl, (fun _ h => by cases h), rfl, St.ownNil _ _ h⟩ ?_
 clear h
 rintro ⟨i, was, out, a, c1⟩ w e ⟨hi, hw, hol, hout, he, h⟩
 dsimp only at hi hw hol hout he h ⊢
 refine c_seq (c_region ?_)
 refine r_v (q_lss rfl rfl) rfl ?_
 refine r_nil ?_
 refine c_seq (c_cond (decide ((i : Int) < (u.length : Int))) rfl (fun hc => ?_) (fun hc => ?_))
 ·
  have hlt : i < u.length := by simp at hc; omega
  have hg := List.getElem?_eq_getElem hlt
  have hdr := List.drop_eq_getElem_cons hlt
  generalize u[i] = x at hg hdr
  have hx := hu x (List.mem_of_getElem? hg)
  rw [hdr, sumsL] at he
  have hd : summ was (zagU x) < 18446744073709551616 := Nat.mod_lt _ (by decide)
  have hzl := zagU_lt hx
  obtain ⟨b, o, hsl⟩ := (hr.cons.at_ h).some (by omega)
  refine c_skip ?_
  refine c_seq (c_block ?_)
  refine c_seq (c_region ?_)
  refine r_v (q_idx (b := b) (o := o) (m := u.length) (c := c) (o' := o + i) (by rw [← hsl]; rfl) rfl rfl hlt (by simp)) rfl ?_
  refine r_v (q_loadc (v := .int .u64 x) rfl ((hsl ▸ hr.cons.at_ h).cell (u64V_get hg))) rfl ?_
  refine r_v (q_assignI rfl) rfl ?_
  refine r_nil ?_
  refine c_seq (c_region ?_)
  refine r_v (q_moveI rfl) rfl ?_; refine r_v (q_moveI rfl) rfl ?_
  refine r_c rfl (x_call rfl (vint_Zag hx h) ?_)
  rintro _ w ⟨rfl, h⟩
  refine r_v (q_conv rfl) rfl ?_
  refine r_is (.int .u64 (zagU x : Nat)) (by rw [wrap_us, us_sg hzl]) ?_
  refine r_v (q_add rfl rfl) rfl ?_
  refine r_is (.int .u64 (summ was (zagU x) : Nat)) (by rw [wrap_summ]) ?_
  refine r_v (q_assignI rfl) rfl ?_
  refine r_nil ?_
  generalize summ was (zagU x) = y at he hd ⊢
  refine c_region ?_
  refine r_v (q_moveS rfl) rfl ?_; refine r_v (q_moveI rfl) rfl ?_
  refine r_c rfl (x_bslice (r := u64V [y]) h rfl rfl rfl fun b2 w h => ?_)
  refine r_c rfl (x_append' (ys := u64V [y]) (zs := u64V (out ++ [y])) (m3 := (out ++ [y]).length) (h.f 1) rfl rfl ⟨rfl, .inr ⟨b2, 0, rfl, at_of (h.b 0 rfl) rfl⟩⟩ (u64V_one _) (by simp) (by simp [u64V]) (by simp; omega) (by simp; omega) rfl fun a2 c2 w _ h => ?_)
  refine r_v (q_assignS rfl) rfl ?_
  refine r_nil ?_
  refine c_region ?_
  refine r_v (q_add rfl rfl) rfl ?_
  refine r_is (.int .i64 ((i + 1 : Nat) : Int)) (by rw [wrap64 (by omega) (by omega)]; rfl) ?_
  refine r_v (q_moveI rfl) rfl ?_
  refine r_nil ⟨(i + 1, y, out ++ [y], a2, c2), ⟨rfl, rfl, rfl, rfl, rfl, trivial⟩, ⟨hlt, hd, by simp; omega, fun z hz => ?_, by rw [← he]; simp, (h.f 1).drop⟩, by dsimp only; omega⟩
  rcases List.mem_append.1 hz with hz | hz
  ·exact hout z hz
  ·simp at hz; subst hz; exact hd
 have hin : i = u.length := by simp at hc; omega
 rw [hin, List.drop_length, sumsL, List.append_nil] at he
 refine c_exit ?_
 refine c_seq (c_region ?_)
 refine r_v (q_moveS rfl) rfl ?_; refine r_v (q_assignS rfl) rfl ?_
 refine r_nil ?_
 rw [← he]
 exact c_ret (bq1 ⟨a, c1, rfl, hout, h⟩)

theorem suit_words {sl : Option Addr} {c : Nat} {bs : List UInt8} (hn : bs.length ≤ 140737488355328) (hr : Reads w0 l 1 sl bs.length (bytesV bs)) (h : St w0 l w) :
  Ret Tryz.prog 85 [.slice sl bs.length c] w fun v w' => ∃ a c', v = .tuple [.slice a (wordsL bs).length c', .bool (decide (bs.length % 8 = 0))].toArray ∧ (∀ x ∈ wordsL bs, x < 18446744073709551616) ∧ (wordsL bs).length ≤ bs.length ∧ St w0 (OwnU a c' (wordsL bs) :: l) w' := by
 refine enter Tryz.func85 rfl Tryz.results85 Tryz.ntmps85 rfl ?_
 refine c_seq (c_region ?_)
 refine r_v (q_assignS rfl) rfl ?_; refine r_v (q_assignB rfl) rfl ?_
 refine r_nil ?_
 refine c_seq (c_region ?_)
 refine r_v (q_assignS rfl) rfl ?_
 refine r_nil ?_
 refine c_seq (c_seq (c_region ?_))
 refine r_v (q_moveS rfl) rfl ?_; refine r_v (q_len rfl) rfl ?_; refine r_v (q_moveI rfl) rfl ?_
 refine r_nil ?_
 refine c_block ?_
 refine c_loop (Γ := Nat × List Nat × Option Addr × Nat) (fun k => [(0, .slice sl bs.length c), (4, .slice k.2.2.1 k.2.1.length k.2.2.2), (7, .slice sl bs.length c), (8, .int .i64 bs.length), (9, .int .i64 k.1)])
  (fun k w => k.1 ≤ bs.length ∧ 8 * k.2.1.length ≤ k.1 + 7 ∧ (∀ x ∈ k.2.1, x < 18446744073709551616) ∧ ((k.1 = 0 ∧ k.2.1 = []) ∨ ∃ done x j, k.2.1 = done ++ [x] ∧ 1 ≤ j ∧ j ≤ 8 ∧ k.1 % 8 = j % 8 ∧ done ++ wordsA x j (bs.drop k.1) = wordsL bs) ∧ St w0 (OwnU k.2.2.1 k.2.2.2 k.2.1 :: l) w)
  (fun k => bs.length - k.1) (0, [], none, 0) ⟨rfl, rfl, rfl, rfl, rfl, trivial⟩ ⟨Nat.zero_le _, Nat.zero_le _, (fun _ h => by cases h), .inl ⟨rfl, rfl⟩, St.ownNil _ _ h⟩ ?_
 clear h
 rintro ⟨i, out, a, c1⟩ w e ⟨hi, hol, hout, inv, h⟩
 dsimp only at hi hol hout inv h ⊢
 refine c_seq (c_region ?_)
 refine r_v (q_lss rfl rfl) rfl ?_
 refine r_nil ?_
 refine c_seq (c_cond (decide ((i : Int) < (bs.length : Int))) rfl (fun hc => ?_) (fun hc => ?_))
 ·
  have hlt : i < bs.length := by simp at hc; omega
  have hg := List.getElem?_eq_getElem hlt
  have hdr := List.drop_eq_getElem_cons hlt
  generalize bs[i] = x at hg hdr
  have hx := x.toNat_lt
  obtain ⟨b, o, hsl⟩ := (hr.cons.at_ h).some (by omega)
  refine c_skip ?_
  refine c_seq (c_block ?_)
  refine c_seq (c_region ?_)
  refine r_v (q_moveI rfl) rfl ?_
  refine r_v (q_idx (b := b) (o := o) (m := bs.length) (c := c) (o' := o + i) (by rw [← hsl]; rfl) rfl rfl hlt (by simp)) rfl ?_
  refine r_v (q_loadc (v := .int .u8 x.toNat) rfl ((hsl ▸ hr.cons.at_ h).cell (bytesV_get hg))) rfl ?_
  refine r_v (q_assignI rfl) rfl ?_; refine r_v (q_assignI rfl) rfl ?_
  refine r_nil ?_
  refine c_cut (Γ := List Nat × Nat × Option Addr × Nat) (fun k => [(0, .slice sl bs.length c), (4, .slice k.2.2.1 (k.1 ++ [k.2.1]).length k.2.2.2), (6, .int .u8 x.toNat), (7, .slice sl bs.length c), (8, .int .i64 bs.length), (9, .int .i64 i)])
   (fun k w => 8 * k.1.length ≤ i ∧ (∀ y ∈ k.1, y < 18446744073709551616) ∧ (∃ j, 1 ≤ j ∧ j ≤ 8 ∧ (i + 1) % 8 = j % 8 ∧ k.1 ++ wordsA ((k.2.1 * 256 + x.toNat) % 18446744073709551616) j (bs.drop (i + 1)) = wordsL bs) ∧ St w0 (OwnU k.2.2.1 k.2.2.2 (k.1 ++ [k.2.1]) :: l) w) ?_ ?_
  ·refine c_seq (c_region ?_)
   refine r_v (q_moveI rfl) rfl ?_
   refine r_v (q_is (v' := .int .i64 ((i % 8 : Nat) : Int)) (q_rem rfl rfl (by decide)) (congrArg (Value.int .i64) (tmod_nat i 8))) rfl ?_
   refine r_v (q_eql rfl rfl) rfl ?_
   by_cases h8 : i % 8 = 0
   ·refine r_is (.bool true) (by rw [h8]; rfl) ?_
    refine r_nil (c_true rfl ?_)
    refine c_region ?_
    refine r_v (q_moveS rfl) rfl ?_
    refine r_c rfl (x_bslice (r := u64V [0]) h rfl rfl rfl fun b2 w h => ?_)
    refine r_c rfl (x_append' (ys := u64V [0]) (zs := u64V (out ++ [0])) (m3 := (out ++ [0]).length) (h.f 1) rfl rfl ⟨rfl, .inr ⟨b2, 0, rfl, at_of (h.b 0 rfl) rfl⟩⟩ (u64V_one _) (by simp) (by simp [u64V]) (by simp; omega) (by simp; omega) rfl fun a2 c2 w _ h => ?_)
    refine r_v (q_assignS rfl) rfl ?_
    refine r_nil ⟨(out, 0, a2, c2), ⟨rfl, rfl, rfl, rfl, rfl, rfl, trivial⟩, by dsimp only; omega, hout, ⟨1, by decide, by decide, by omega, ?_⟩, (h.f 1).drop⟩
    dsimp only
    rw [show (0 * 256 + x.toNat) % 18446744073709551616 = x.toNat by omega]
    rcases inv with ⟨h0, hnil⟩ | ⟨done, y, j, ho, h1j, hj8, hij, he⟩
    ·subst h0
     rw [hnil]
     rw [List.drop_zero] at hdr
     conv => rhs; rw [hdr]
     rfl
    ·have : j = 8 := by omega
     subst this
     rw [hdr, wordsA, if_pos rfl] at he
     rw [← he, ho]
     simp
   ·refine r_is (.bool false) (by congr 1; rw [beq_eq_false_iff_ne]; omega) ?_
    refine r_nil (c_false rfl ?_)
    rcases inv with ⟨h0, hnil⟩ | ⟨done, y, j, ho, h1j, hj8, hij, he⟩
    ·omega
    ·subst ho
     rw [hdr, wordsA, if_neg (by omega)] at he
     rw [List.length_append, List.length_singleton] at hol
     exact c_skip ⟨(done, y, a, c1), ⟨rfl, rfl, rfl, rfl, rfl, rfl, trivial⟩, by dsimp only; omega, fun z hz => hout z (List.mem_append_left _ hz), ⟨j + 1, by omega, by omega, by omega, he⟩, h⟩
  clear h inv hout hol
  rintro ⟨done, y, a, c1⟩ w e ⟨hol, hout, ⟨j, h1j, hj8, hij, he⟩, h⟩
  dsimp only at hol hout he h ⊢
  obtain ⟨bl, hal⟩ := h.own_some (by simp)
  subst hal
  have hll : (done ++ [y]).length = done.length + 1 := by simp
  have hlast : (done ++ [y])[done.length]? = some y := by simp
  have hnl : (y * 256 + x.toNat) % 18446744073709551616 < 18446744073709551616 := Nat.mod_lt _ (by decide)
  refine c_region ?_
  refine r_v (q_moveS rfl) rfl ?_; refine r_v (q_moveS rfl) rfl ?_; refine r_v (q_len rfl) rfl ?_; refine r_v (q_sub rfl rfl) rfl ?_
  refine r_is (.int .i64 (done.length : Int)) (by rw [hll, wrap64 (by omega) (by omega)]; congr 1; omega) ?_
  refine r_v (q_moveS rfl) rfl ?_; refine r_v (q_moveS rfl) rfl ?_; refine r_v (q_len rfl) rfl ?_; refine r_v (q_sub rfl rfl) rfl ?_
  refine r_is (.int .i64 (done.length : Int)) (by rw [hll, wrap64 (by omega) (by omega)]; congr 1; omega) ?_
  refine r_v (q_idx (b := bl) (o := 0) (m := (done ++ [y]).length) (c := c1) (o' := done.length) rfl rfl (j := done.length) rfl (by omega) (by simp)) rfl ?_
  refine r_v (q_loadc (v := .int .u64 y) rfl (by have := (h.own_rd).cell (u64V_get hlast); simpa using this)) rfl ?_
  refine r_v (q_is (v' := .int .u64 ((y * 2 ^ 8 % 18446744073709551616 : Nat) : Int)) (q_shl rfl rfl (by omega)) (congrArg (Value.int .u64) (shl_u64 y 8 (by decide)))) rfl ?_
  refine r_v (q_moveI rfl) rfl ?_; refine r_v (q_conv rfl) rfl ?_
  refine r_is (.int .u64 (x.toNat : Int)) (congrArg (Value.int .u64) (conv_nat (by omega))) ?_
  refine r_v (q_or rfl rfl) rfl ?_
  refine r_is (.int .u64 (((y * 256 + x.toNat) % 18446744073709551616 : Nat) : Int)) (congrArg (Value.int .u64) (((bit_u64 (Nat.mod_lt _ (by decide)) (by omega)).2.1).trans (by rw [shl8_or (by omega)]))) ?_
  generalize (y * 256 + x.toNat) % 18446744073709551616 = z at he hnl ⊢
  refine r_v (q_idx (b := bl) (o := 0) (m := (done ++ [y]).length) (c := c1) (o' := done.length) rfl rfl (j := done.length) rfl (by omega) (by simp)) rfl ?_
  refine r_c rfl (x_ownset (v := .int .u64 (z : Int)) h rfl rfl (by simp) rfl fun w h => ?_)
  rw [u64V_setlast] at h
  refine r_nil ?_
  refine c_region ?_
  refine r_v (q_add rfl rfl) rfl ?_
  refine r_is (.int .i64 ((i + 1 : Nat) : Int)) (by rw [wrap64 (by omega) (by omega)]; rfl) ?_
  refine r_v (q_moveI rfl) rfl ?_
  refine r_nil ⟨(i + 1, done ++ [z], some ⟨bl, 0, none⟩, c1), ⟨rfl, ?_, rfl, rfl, rfl, trivial⟩, ⟨hlt, by simp; omega, fun t ht => ?_, .inr ⟨done, z, j, rfl, h1j, hj8, hij, he⟩, ?_⟩, by dsimp only; omega⟩
  ·show Value.slice _ _ _ = Value.slice _ _ _
   rw [hll]; simp
  ·rcases List.mem_append.1 ht with ht | ht
   ·exact hout t ht
   ·simp at ht; subst ht; exact hnl
  ·have : (done ++ [z]).length = (done ++ [y]).length := by simp
   show St w0 (Own _ 1 _ (done ++ [z]).length _ _ :: l) w
   rw [this]; exact h
 have hin : i = bs.length := by simp at hc; omega
 have he : out = wordsL bs := by
  rcases inv with ⟨h0, hnil⟩ | ⟨done, y, j, ho, h1j, hj8, hij, he⟩
  ·have : bs = [] := List.eq_nil_of_length_eq_zero (by omega)
   rw [hnil, this]; rfl
  ·rw [hin, List.drop_length, wordsA, if_neg (by omega)] at he
   rw [ho, he]
 subst he
 refine c_exit ?_
 refine c_seq (c_region ?_)
 refine r_v (q_moveS rfl) rfl ?_; refine r_v (q_moveS rfl) rfl ?_; refine r_v (q_len rfl) rfl ?_
 refine r_v (q_is (v' := .int .i64 ((bs.length % 8 : Nat) : Int)) (q_rem rfl rfl (by decide)) (congrArg (Value.int .i64) (tmod_nat bs.length 8))) rfl ?_
 refine r_v (q_eql rfl rfl) rfl ?_
 refine r_is (.bool (decide (bs.length % 8 = 0))) (by congr 1; rw [Bool.eq_iff_iff]; simp; omega) ?_
 refine r_v (q_assignS rfl) rfl ?_; refine r_v (q_assignB rfl) rfl ?_
 refine r_nil ?_
 exact c_ret (bq2 ⟨a, c1, rfl, hout, by omega, h⟩)
end
end Go.Proofs.YtjjacchnalemaaaGreatDoor

/- simp: reading small numbers. -/
namespace Go.Proofs.YtjjacchnalemaaaGreatDoor
open Go.Hw
set_option maxHeartbeats 4000000
set_option maxRecDepth 100000
section
variable {w0 w : World} {l : List HProp}
theorem simp_Decode {sl : Option Addr} {c : Nat} {ws : List Nat} {n : Nat} (hws : ∀ x ∈ ws, x < 18446744073709551616) (hwn : ws.length ≤ 140737488355328) (hn : n ≤ 65535) (hr : Reads w0 l 1 sl ws.length (u64V ws)) (h : St w0 l w) :
  Ret Tryz.prog 86 [.slice sl ws.length c, .int .i64 (n : Int)] w fun v w' => ∃ a c' xs b, v = .tuple [.slice a xs.length c', .bool b].toArray ∧ simpDec ws n = (if b = true then some xs else none) ∧ (b = true → xs.length = n ∧ ∀ x ∈ xs, x < 18446744073709551616) ∧ (b = false → xs = []) ∧ St w0 (OwnU a c' xs :: l) w' := by
 have bad : ∀ {w : World}, simpDec ws n = none → St w0 l w → ∃ a c xs b, Value.tuple [.slice none 0 0, .bool false].toArray = .tuple [.slice a xs.length c, .bool b].toArray ∧ simpDec ws n = (if b = true then some xs else none) ∧ (b = true → xs.length = n ∧ ∀ x ∈ xs, x < 18446744073709551616) ∧ (b = false → xs = []) ∧ St w0 (OwnU a c xs :: l) w := fun hb h => ⟨none, 0, [], false, rfl, hb, (fun h => by cases h), fun _ => rfl, St.ownNil _ _ h⟩
 have hdef : simpDec ws n = _ := rfl
 conv at hdef => rhs; unfold simpDec
 refine enter Tryz.func86 rfl Tryz.results86 Tryz.ntmps86 rfl ?_
 refine c_seq (c_region ?_)
 refine r_v (q_assignS rfl) rfl ?_; refine r_v (q_assignB rfl) rfl ?_
 refine r_nil ?_
 refine c_seq (c_region ?_)
 refine r_v (q_moveI rfl) rfl ?_; refine r_v (q_max rfl rfl) rfl ?_; refine r_v (q_min rfl rfl) rfl ?_
 refine r_is (.int .i64 (n : Int)) (by congr 1; omega) ?_
 refine r_v (q_assignI rfl) rfl ?_
 refine r_nil ?_
 refine c_seq (c_region ?_)
 refine r_c rfl (x_call rfl (simp_kinds h) ?_)
 rintro _ w ⟨kb, rfl, h⟩
 refine r_v (q_assignS rfl) rfl ?_
 refine r_nil ?_
 refine c_seq (c_region ?_)
 refine r_v (q_assignS rfl) rfl ?_
 refine r_nil ?_
 refine c_seq (c_seq (c_region ?_))
 refine r_v (q_moveS rfl) rfl ?_; refine r_v (q_len rfl) rfl ?_; refine r_v (q_moveI rfl) rfl ?_
 refine r_nil ?_
 refine c_block ?_
 refine c_loop (Γ := Nat × List Nat × Option Addr × Nat) (fun k => [(0, .slice sl ws.length c), (1, .int .i64 n), (6, .slice (some ⟨kb, 0, none⟩) 16 16), (7, .slice k.2.2.1 k.2.1.length k.2.2.2), (18, .slice sl ws.length c), (19, .int .i64 ws.length), (20, .int .i64 k.1)])
  (fun k w => k.1 ≤ ws.length ∧ k.2.1.length ≤ n ∧ (∀ x ∈ k.2.1, x < 18446744073709551616) ∧ simpDecA ws n = (simpDecA (ws.drop k.1) (n - k.2.1.length)).map (fun r => k.2.1 ++ r) ∧ St w0 (KindsPt kb :: OwnU k.2.2.1 k.2.2.2 k.2.1 :: l) w)
  (fun k => ws.length - k.1) (0, [], none, 0) ⟨rfl, rfl, rfl, rfl, rfl, rfl, rfl, trivial⟩ ⟨Nat.zero_le _, Nat.zero_le _, (fun _ h => by cases h), (by simp), (St.ownNil 51 1 h).f 1⟩ ?_
 clear h
 rintro ⟨i, out, oa, oc⟩ w e ⟨hi, hol, hout, inv, h⟩
 dsimp only at hi hol hout inv h ⊢
 refine c_seq (c_region ?_)
 refine r_v (q_lss rfl rfl) rfl ?_
 refine r_nil ?_
 refine c_seq (c_cond (decide ((i : Int) < (ws.length : Int))) rfl (fun hc => ?_) (fun hc => ?_))
 ·
  have hlt : i < ws.length := by simp at hc; omega
  have hg := List.getElem?_eq_getElem hlt
  have hdr := List.drop_eq_getElem_cons hlt
  generalize ws[i] = x at hg hdr
  have hx := hws x (List.mem_of_getElem? hg)
  rw [hdr, simpDecA] at inv
  have hkx : x / 1152921504606846976 < 16 := by omega
  have hgk := List.getElem?_eq_getElem (show x / 1152921504606846976 < kindsL.length from hkx)
  have hgd : kindsL.getD (x / 1152921504606846976) (0, 0) = kindsL[x / 1152921504606846976]'hkx := by rw [List.getD_eq_getElem?_getD, hgk]; rfl
  rw [hgd] at inv
  generalize kindsL[x / 1152921504606846976]'hkx = kd at hgk inv
  obtain ⟨_, k1, k2, k3⟩ := kindsL_ok _ kd hgk
  have hk2 : kd.2 ≤ 60 := Nat.le_trans (Nat.le_mul_of_pos_right _ k1) k3
  obtain ⟨b, o, hsl⟩ := ((hr.more [_, _]).at_ h).some (by omega)
  refine c_skip ?_
  refine c_seq (c_block ?_)
  refine c_seq (c_region ?_)
  refine r_v (q_idx (b := b) (o := o) (m := ws.length) (c := c) (o' := o + i) (by rw [← hsl]; rfl) rfl rfl hlt (by simp)) rfl ?_
  refine r_v (q_loadc (v := .int .u64 x) rfl ((hsl ▸ (hr.more [_, _]).at_ h).cell (u64V_get hg))) rfl ?_
  refine r_v (q_assignI rfl) rfl ?_
  refine r_nil ?_
  refine c_seq (c_seq (c_region ?_))
  refine r_v (q_moveS rfl) rfl ?_; refine r_v (q_len rfl) rfl ?_; refine r_v (q_moveI rfl) rfl ?_; refine r_v (q_geq rfl rfl) rfl ?_
  by_cases hfull : n ≤ out.length
  ·refine r_is (.bool true) (by simp; omega) ?_
   refine r_nil (c_true rfl ?_)
   refine c_seq (c_region ?_)
   refine r_v (q_assignS rfl) rfl ?_; refine r_v (q_assignB rfl) rfl ?_
   refine r_nil ?_
   rw [if_pos (by omega)] at inv
   exact c_ret (bq2 (bad (by rw [hdef, inv]; rfl) h.drop.drop))
  refine r_is (.bool false) (by simp; omega) ?_
  refine r_nil (c_false rfl (c_skip ?_))
  rw [if_neg (by omega), Option.map_map] at inv
  refine c_seq (c_region ?_)
  refine r_v (q_moveS rfl) rfl ?_; refine r_v (q_moveI rfl) rfl ?_
  refine r_v (q_is (v' := .int .u64 ((x / 2 ^ 60 : Nat) : Int)) (q_shr rfl rfl (by omega)) (congrArg (Value.int .u64) (fdiv_nat x 60 64 (by decide)))) rfl ?_
  rw [show x / 2 ^ 60 = x / 1152921504606846976 from rfl]
  refine r_v (q_idx (b := kb) (o := 0) (m := 16) (c := 16) (o' := x / 1152921504606846976 * 2) rfl rfl rfl hkx (by simp)) rfl ?_
  refine r_v (q_loadS (l := kindC kd) rfl rfl (fun j v hj => cell_of (h.b 0 rfl) (flat_get kindC_len kindsL _ kd hgk j v hj))) rfl ?_
  refine r_c rfl (x_alloc h fun b10 w h => ?_)
  refine r_c rfl (x_storeA (vs := kindC kd) 0 h rfl rfl rfl rfl rfl rfl rfl fun w h => ?_)
  replace h : St w0 (pt b10 (.cells (kindC kd).toArray 157 (0, 0)) :: KindsPt kb :: OwnU oa oc out :: l) w := h
  refine r_nil ?_
  refine c_seq (c_region ?_)
  refine r_v (q_moveI rfl) rfl ?_; refine r_v (q_and rfl rfl) rfl ?_
  refine r_is (.int .u64 ((x % 1152921504606846976 : Nat) : Int)) (congrArg (Value.int .u64) (((bit_u64 hx (by decide : (1152921504606846975 : Nat) < _)).1).trans (by rw [and_word]))) ?_
  refine r_v (q_assignI rfl) rfl ?_
  refine r_nil ?_
  have hxm : x % 1152921504606846976 < 1152921504606846976 := Nat.mod_lt _ (by decide)
  generalize x % 1152921504606846976 = y at inv hxm ⊢
  generalize hmm : min kd.1 (n - out.length) = m at inv
  have hm1 : m ≤ kd.1 := by omega
  have hm2 : m ≤ n - out.length := by omega
  refine c_seq (c_region ?_)
  refine r_v (q_assignI rfl) rfl ?_
  refine r_nil ?_
  refine c_block ?_
  refine c_loop (Γ := Nat × Option Addr × Nat) (fun k => [(0, .slice sl ws.length c), (1, .int .i64 n), (6, .slice (some ⟨kb, 0, none⟩) 16 16), (7, .slice k.2.1 (out ++ unpackW y kd.2 k.1).length k.2.2), (9, .int .u64 y), (10, .pointer (some ⟨b10, 0, none⟩)), (11, .int .i64 k.1), (18, .slice sl ws.length c), (19, .int .i64 ws.length), (20, .int .i64 i)])
   (fun k w => k.1 ≤ m ∧ St w0 (pt b10 (.cells (kindC kd).toArray 157 (0, 0)) :: OwnU k.2.1 k.2.2 (out ++ unpackW y kd.2 k.1) :: KindsPt kb :: l) w)
   (fun k => m - k.1) (0, oa, oc) ⟨rfl, rfl, rfl, (by show Value.slice _ _ _ = Value.slice _ _ _; simp [unpackW]), rfl, rfl, rfl, rfl, rfl, rfl, trivial⟩ ⟨Nat.zero_le _, by simp only [unpackW, List.range_zero, List.map_nil, List.append_nil]; exact (h.f 2).f 1⟩ ?_
  clear h
  rintro ⟨j, oa, oc⟩ w e ⟨hj, h⟩
  dsimp only at hj h ⊢
  have hul : (out ++ unpackW y kd.2 j).length = out.length + j := by rw [List.length_append, unpackW_len]
  refine c_cut (Γ := Unit) (fun _ => [(0, .slice sl ws.length c), (1, .int .i64 n), (6, .slice (some ⟨kb, 0, none⟩) 16 16), (7, .slice oa (out ++ unpackW y kd.2 j).length oc), (9, .int .u64 y), (10, .pointer (some ⟨b10, 0, none⟩)), (11, .int .i64 j), (18, .slice sl ws.length c), (19, .int .i64 ws.length), (20, .int .i64 i)])
   (fun _ w => j < m ∧ St w0 (pt b10 (.cells (kindC kd).toArray 157 (0, 0)) :: OwnU oa oc (out ++ unpackW y kd.2 j) :: KindsPt kb :: l) w) ?_ ?_
  ·refine c_seq (c_region ?_)
   refine r_v (q_moveI rfl) rfl ?_; refine r_v (q_fa rfl) rfl ?_
   refine r_v (q_load (v := .int .i64 kd.1) rfl (h.b 0 rfl) rfl) rfl ?_
   by_cases hjk : j < kd.1
   ·refine r_v (q_is (v' := .bool true) (q_lss rfl rfl) (by congr 1; simpa using hjk)) rfl ?_
    refine r_v (q_moveB rfl) rfl ?_; refine r_gd rfl rfl ?_; refine r_v (q_moveS rfl) rfl ?_; refine r_gd rfl rfl ?_; refine r_v (q_len rfl) rfl ?_; refine r_gd rfl rfl ?_; refine r_v (q_moveI rfl) rfl ?_; refine r_gd rfl rfl ?_
    by_cases hjn : out.length + j < n
    ·refine r_v (q_is (v' := .bool true) (q_lss rfl rfl) (by rw [hul]; congr 1; simp; omega)) rfl ?_
     refine r_v (q_pick1 rfl rfl rfl) rfl ?_
     refine r_nil (c_true rfl ?_)
     exact c_skip ⟨(), ⟨rfl, rfl, rfl, rfl, rfl, rfl, rfl, rfl, rfl, rfl, trivial⟩, by omega, h⟩
    ·refine r_v (q_is (v' := .bool false) (q_lss rfl rfl) (by rw [hul]; congr 1; simp; omega)) rfl ?_
     refine r_v (q_pick1 rfl rfl rfl) rfl ?_
     refine r_nil (c_false rfl ?_)
     have hjm : j = m := by omega
     refine c_exit ?_
     refine c_region ?_
     refine r_v (q_add rfl rfl) rfl ?_
     refine r_is (.int .i64 ((i + 1 : Nat) : Int)) (by rw [wrap64 (by omega) (by omega)]; rfl) ?_
     refine r_v (q_moveI rfl) rfl ?_
     refine r_nil ⟨(i + 1, out ++ unpackW y kd.2 j, oa, oc), ⟨rfl, rfl, rfl, rfl, rfl, rfl, rfl, trivial⟩, ⟨hlt, by rw [hul]; omega, fun z hz => ?_, ?_, (h.drop.f 1)⟩, by dsimp only; omega⟩
     ·rcases List.mem_append.1 hz with hz | hz
      ·exact hout z hz
      ·obtain ⟨q, _, rfl⟩ := List.mem_map.1 hz
       exact Nat.lt_trans (Nat.mod_lt _ (Nat.two_pow_pos _)) (pow_le_64 hk2)
     ·rw [inv, hul, hjm, Nat.sub_sub]
      congr 1
      funext r
      simp
   ·refine r_v (q_is (v' := .bool false) (q_lss rfl rfl) (by congr 1; simpa using hjk)) rfl ?_
    refine r_v (q_moveB rfl) rfl ?_; refine r_gn rfl rfl rfl ?_; refine r_gn rfl rfl rfl ?_; refine r_gn rfl rfl rfl ?_; refine r_gn rfl rfl rfl ?_; refine r_v (q_pick0 rfl rfl rfl) rfl ?_
    refine r_nil (c_false rfl ?_)
    have hjm : j = m := by omega
    refine c_exit ?_
    refine c_region ?_
    refine r_v (q_add rfl rfl) rfl ?_
    refine r_is (.int .i64 ((i + 1 : Nat) : Int)) (by rw [wrap64 (by omega) (by omega)]; rfl) ?_
    refine r_v (q_moveI rfl) rfl ?_
    refine r_nil ⟨(i + 1, out ++ unpackW y kd.2 j, oa, oc), ⟨rfl, rfl, rfl, rfl, rfl, rfl, rfl, trivial⟩, ⟨hlt, by rw [hul]; omega, fun z hz => ?_, ?_, (h.drop.f 1)⟩, by dsimp only; omega⟩
    ·rcases List.mem_append.1 hz with hz | hz
     ·exact hout z hz
     ·obtain ⟨q, _, rfl⟩ := List.mem_map.1 hz
      exact Nat.lt_trans (Nat.mod_lt _ (Nat.two_pow_pos _)) (pow_le_64 hk2)
    ·rw [inv, hul, hjm, Nat.sub_sub]
     congr 1
     funext r
     simp
  clear h
  rintro _ w e ⟨hjm, h⟩
  have hjb : j * kd.2 ≤ 60 := by
   have h1 : j * kd.2 ≤ kd.1 * kd.2 := Nat.mul_le_mul_right _ (by omega)
   rw [Nat.mul_comm kd.1] at h1
   omega
  have hp := pow_le_64 hk2
  have hp0 := Nat.two_pow_pos kd.2
  have hstep := unpackW_succ y kd.2 j
  have hul1 : (out ++ unpackW y kd.2 (j + 1)).length = out.length + (j + 1) := by rw [List.length_append, unpackW_len]
  have hyd : y / 2 ^ (j * kd.2) < 18446744073709551616 := Nat.lt_of_le_of_lt (Nat.div_le_self _ _) (by omega)
  refine c_cut (Γ := Option Addr × Nat) (fun q => [(0, .slice sl ws.length c), (1, .int .i64 n), (6, .slice (some ⟨kb, 0, none⟩) 16 16), (7, .slice q.1 (out ++ unpackW y kd.2 (j + 1)).length q.2), (9, .int .u64 y), (10, .pointer (some ⟨b10, 0, none⟩)), (11, .int .i64 j), (18, .slice sl ws.length c), (19, .int .i64 ws.length), (20, .int .i64 i)])
   (fun q w => St w0 (pt b10 (.cells (kindC kd).toArray 157 (0, 0)) :: OwnU q.1 q.2 (out ++ unpackW y kd.2 (j + 1)) :: KindsPt kb :: l) w) ?_ ?_
  ·refine c_block ?_
   refine c_anyW [0, 1, 2, 3, 4, 5, 6, 7, 8, 9, 10, 11, 12, 13, 14] none (fun w => w.heap[b10]? = some (.cells (kindC kd).toArray 157 (0, 0))) (by kernel_rfl) (by kernel_rfl) ?_
   replace h := h.drew
   generalize w.drew = w at h
   have hs := h
   replace h := hs.b 0 rfl
   refine cur_pure rfl rfl rfl rfl (fun _ => h) (fun _ => flt_v rfl (q_moveS rfl)) ?_; refine cur_pure rfl rfl rfl rfl (fun _ => h) (fun _ => flt_v rfl (q_moveI rfl)) ?_; refine cur_pure rfl rfl rfl rfl (fun _ => h) (fun _ => flt_v rfl (q_moveI rfl)) ?_; refine cur_pure rfl rfl rfl rfl (fun _ => h) (fun _ => flt_v rfl (q_fa rfl)) ?_
   refine cur_float rfl rfl rfl rfl h (fun w h => flt_v rfl (q_load (v := .int .i64 kd.2) rfl h rfl)) ?_
   refine cur_pure rfl rfl rfl rfl (fun _ => h) (fun _ => flt_v rfl (q_is (v' := .int .i64 ((j * kd.2 : Nat) : Int)) (q_mul rfl rfl) (by rw [← Int.natCast_mul, wrap64 (by omega) (by omega)]))) ?_
   refine cur_pure rfl rfl rfl rfl (fun _ => h) (fun _ => flt_v rfl (q_is (v' := .int .u64 ((y / 2 ^ (j * kd.2) : Nat) : Int)) (q_shr rfl rfl (by omega)) (congrArg (Value.int .u64) (fdiv_nat y (j * kd.2) 64 (by omega))))) ?_
   refine cur_pure rfl rfl rfl rfl (fun _ => h) (fun _ => flt_v rfl (q_fa rfl)) ?_
   refine cur_float rfl rfl rfl rfl h (fun w h => flt_v rfl (q_load (v := .int .i64 kd.2) rfl h rfl)) ?_
   refine cur_pure rfl rfl rfl rfl (fun _ => h) (fun _ => flt_v rfl (q_is (v' := .int .u64 ((2 ^ kd.2 : Nat) : Int)) (q_shl rfl rfl (by omega)) (congrArg (Value.int .u64) ((shl_u64 1 kd.2 (by omega)).trans (by rw [Nat.one_mul, Nat.mod_eq_of_lt hp]))))) ?_
   refine cur_pure rfl rfl rfl rfl (fun _ => h) (fun _ => flt_v rfl (q_is (v' := .int .u64 ((2 ^ kd.2 - 1 : Nat) : Int)) (q_sub rfl rfl) (by rw [show (((2 ^ kd.2 : Nat) : Int) - 1) = ((2 ^ kd.2 - 1 : Nat) : Int) by omega, wrap_u64, Nat.mod_eq_of_lt (by omega)]))) ?_
   refine cur_pure rfl rfl rfl rfl (fun _ => h) (fun _ => flt_v rfl (q_is (v' := .int .u64 ((y / 2 ^ (j * kd.2) % 2 ^ kd.2 : Nat) : Int)) (q_and rfl rfl) (congrArg (Value.int .u64) (((bit_u64 hyd (by omega)).1).trans (by rw [Nat.and_two_pow_sub_one_eq_mod]))))) ?_
   generalize y / 2 ^ (j * kd.2) % 2 ^ kd.2 = z at hstep
   refine cur_skip ?_; refine cur_skip ?_; refine cur_skip ?_
   refine cur_one 12 rfl rfl rfl rfl ?_
   refine (x_bslice (r := u64V [z]) hs rfl rfl rfl fun b2 w hs => ?_)
   replace h := hs.b 1 rfl
   refine ⟨fun _ => h, ?_⟩
   refine cur_skip ?_; refine cur_skip ?_
   refine cur_one 13 rfl rfl rfl rfl ?_
   refine (x_append' (ys := u64V [z]) (zs := u64V (out ++ unpackW y kd.2 (j + 1))) (m3 := (out ++ unpackW y kd.2 (j + 1)).length) (hs.f 2) rfl rfl ⟨rfl, .inr ⟨b2, 0, rfl, at_of (hs.b 0 rfl) rfl⟩⟩ (u64V_one _) (by rw [hstep]; simp; omega) (by rw [hstep]; simp [u64V]) (by rw [hul1]; omega) (by rw [hul1]; omega) rfl fun a2 c2 w _ hs => ?_)
   replace h := hs.b 2 rfl
   refine ⟨fun _ => h, ?_⟩
   refine cur_pure rfl rfl rfl rfl (fun _ => h) (fun _ => flt_v rfl (q_assignS rfl)) ?_
   exact cur_end ⟨(a2, c2), ⟨rfl, rfl, rfl, rfl, rfl, rfl, rfl, rfl, rfl, rfl, trivial⟩, ((hs.f 1).drop.f 1)⟩
  clear h
  rintro ⟨oa, oc⟩ w e h
  dsimp only at h ⊢
  refine c_region ?_
  refine r_v (q_moveI rfl) rfl ?_; refine r_v (q_add rfl rfl) rfl ?_
  refine r_is (.int .i64 ((j + 1 : Nat) : Int)) (by rw [wrap64 (by omega) (by omega)]; rfl) ?_
  refine r_v (q_assignI rfl) rfl ?_
  exact r_nil ⟨(j + 1, oa, oc), ⟨rfl, rfl, rfl, rfl, rfl, rfl, rfl, rfl, rfl, rfl, trivial⟩, ⟨hjm, h⟩, by dsimp only; omega⟩
 have hin : i = ws.length := by simp at hc; omega
 rw [hin, List.drop_length, simpDecA, Option.map_some, List.append_nil] at inv
 rw [inv] at hdef
 dsimp only at hdef
 refine c_exit ?_
 refine c_seq (c_seq (c_region ?_))
 refine r_v (q_moveS rfl) rfl ?_; refine r_v (q_len rfl) rfl ?_; refine r_v (q_moveI rfl) rfl ?_; refine r_v (q_neq rfl rfl) rfl ?_
 by_cases hon : out.length = n
 ·refine r_is (.bool false) (by rw [hon]; simp) ?_
  refine r_nil (c_false rfl (c_skip ?_))
  refine c_seq (c_region ?_)
  refine r_v (q_moveS rfl) rfl ?_
  replace h := h.f 1
  refine r_c rfl (x_call rfl (simp_Encode hout (by omega) h.own_cases.2.1 Reads.own h) ?_)
  rintro _ w ⟨ea, ec, rfl, h⟩
  refine r_v (q_moveT rfl) rfl ?_; refine r_v (q_ext rfl rfl) rfl ?_; refine r_v (q_ext rfl rfl) rfl ?_; refine r_v (q_assignS rfl) rfl ?_; refine r_v (q_assignB rfl) rfl ?_
  refine r_nil ?_
  refine c_cut (Γ := Unit) (fun _ => [(7, .slice oa out.length oc)]) (fun _ w => simpEnc out = some ws ∧ St w0 (OwnU oa oc out :: l) w) ?_ ?_
  ·refine c_seq (c_region ?_)
   cases hE : simpEnc out with
   | none =>
    refine r_v (q_moveB rfl) rfl ?_; refine r_v (q_not rfl) rfl ?_; refine r_v (q_moveB rfl) rfl ?_; refine r_gn rfl rfl rfl ?_; refine r_gn rfl rfl rfl ?_; refine r_gn rfl rfl rfl ?_; refine r_gn rfl rfl rfl ?_; refine r_v (q_pick1 rfl rfl rfl) rfl ?_
    refine r_nil (c_true rfl ?_)
    refine c_seq (c_region ?_)
    refine r_v (q_assignS rfl) rfl ?_; refine r_v (q_assignB rfl) rfl ?_
    refine r_nil ?_
    exact c_ret (bq2 (bad (by rw [hdef, if_neg]; rintro ⟨_, hh⟩; rw [hE] at hh; cases hh) h.drop.drop.drop))
   | some d =>
    rw [hE] at h
    refine r_v (q_moveB rfl) rfl ?_; refine r_v (q_not rfl) rfl ?_; refine r_v (q_moveB rfl) rfl ?_; refine r_gd rfl rfl ?_; refine r_v (q_moveS rfl) rfl ?_; refine r_gd rfl rfl ?_; refine r_v (q_moveS rfl) rfl ?_; refine r_gd rfl rfl ?_
    refine r_c rfl (x_call rfl (slices_Equal (u1 := d) (u2 := ws) (by have := h.own_cases.2.1; have := (simpEnc_len (u := out)).1; rw [hE] at this; exact Nat.le_trans this (by omega)) h Reads.own (hr.more [_, _, _])) ?_)
    rintro _ w ⟨rfl, h⟩
    refine r_gd rfl rfl ?_; refine r_v (q_not rfl) rfl ?_; refine r_v (q_pick0 rfl rfl rfl) rfl ?_
    refine r_nil (c_cond (!decide (d = ws)) rfl (fun hc1 => ?_) (fun hc1 => ?_))
    ·refine c_seq (c_region ?_)
     refine r_v (q_assignS rfl) rfl ?_; refine r_v (q_assignB rfl) rfl ?_
     refine r_nil ?_
     exact c_ret (bq2 (bad (by rw [hdef, if_neg]; rintro ⟨_, hh⟩; rw [hE] at hh; cases hh; simp at hc1) h.drop.drop.drop))
    ·exact c_skip ⟨(), ⟨rfl, trivial⟩, by simpa using hc1, (h.drop.f 1).drop⟩
  clear h
  rintro _ w e ⟨hE, h⟩
  refine c_seq (c_region ?_)
  refine r_v (q_moveS rfl) rfl ?_; refine r_v (q_assignS rfl) rfl ?_; refine r_v (q_assignB rfl) rfl ?_
  refine r_nil ?_
  exact c_ret (bq2 ⟨oa, oc, out, true, rfl, by rw [hdef, if_pos ⟨hon, hE⟩]; rfl, fun _ => ⟨hon, hout⟩, (fun h => by cases h), h⟩)
 ·refine r_is (.bool true) (by congr 1; rw [bne_iff_ne]; omega) ?_
  refine r_nil (c_true rfl ?_)
  refine c_seq (c_region ?_)
  refine r_v (q_assignS rfl) rfl ?_; refine r_v (q_assignB rfl) rfl ?_
  refine r_nil ?_
  exact c_ret (bq2 (bad (by rw [hdef, if_neg]; rintro ⟨hh, _⟩; exact hon hh) h.drop.drop))
end
end Go.Proofs.YtjjacchnalemaaaGreatDoor

/- runl, forp: reading runs and frames. -/
namespace Go.Hw
set_option maxRecDepth 100000
theorem runsDecA_step {f : Nat} {b : List UInt8} {room : Nat} {last : Option Nat} (hb : b ≠ []) : runsDecA (f + 1) b room last =
  if (vget b).2 = 0 ∨ (vget (b.drop (vget b).2)).2 = 0 ∨ (vget b).1 = 0 ∨ room < (vget b).1 ∨ last = some (vget (b.drop (vget b).2)).1 then none
  else (runsDecA f (b.drop ((vget b).2 + (vget (b.drop (vget b).2)).2)) (room - (vget b).1) (some (vget (b.drop (vget b).2)).1)).map fun r => List.replicate (vget b).1 (vget (b.drop (vget b).2)).1 ++ r := by
 cases b with
 | nil => exact absurd rfl hb
 | cons c b => rw [runsDecA]
theorem bytesV_drop (bs : List UInt8) (k : Nat) : bytesV (bs.drop k) = (bytesV bs).drop (k * 1) := by
 unfold bytesV
 rw [List.map_drop, Nat.mul_one]
theorem Reads.tailB {w0 : World} {l : List HProp} {a : Option Addr} {c : Nat} {bs : List UInt8} (h : Reads w0 l 1 a bs.length (bytesV bs)) {i : Nat} (hi : i ≤ bs.length) (hc : bs.length ≤ c) : Reads w0 l 1 (adv a (i * 1) (Nat.beq c i)) (bs.drop i).length (bytesV (bs.drop i)) := by
 have := h.tail hi hc
 rw [List.length_drop, bytesV_drop]
 exact this
theorem getLast?_rep (out : List Nat) {k x : Nat} (h : 0 < k) : (out ++ List.replicate k x).getLast? = some x := by
 rw [List.getLast?_append, List.getLast?_replicate, if_neg (by omega)]
 rfl
end Go.Hw
namespace Go.Proofs.YtjjacchnalemaaaGreatDoor
open Go.Hw
set_option maxHeartbeats 4000000
set_option maxRecDepth 100000
abbrev Told (w0 : World) (l : List HProp) (n : Nat) (D : Option (List Nat)) (v : Value) (w' : World) : Prop := ∃ a c xs b, v = .tuple [.slice a xs.length c, .bool b].toArray ∧ D = (if b = true then some xs else none) ∧ (b = true → xs.length = n ∧ ∀ x ∈ xs, x < 18446744073709551616) ∧ St w0 (OwnU a c xs :: l) w'
section
variable {w0 w : World} {l : List HProp}
theorem Told.no {n : Nat} {D : Option (List Nat)} (hb : D = none) (h : St w0 l w) : Told w0 l n D (.tuple [.slice none 0 0, .bool false].toArray) w := ⟨none, 0, [], false, rfl, hb, (fun h => by cases h), St.ownNil _ _ h⟩
theorem runl_Decode {sl : Option Addr} {c : Nat} {bs : List UInt8} {n : Nat} (hn : n ≤ 65535) (hbn : bs.length ≤ 140737488355328) (hc : bs.length ≤ c) (hr : Reads w0 l 1 sl bs.length (bytesV bs)) (h : St w0 l w) :
  Ret Tryz.prog 88 [.slice sl bs.length c, .int .i64 (n : Int)] w fun v w' => Told w0 l n (runsDec bs n) v w' := by
 refine enter Tryz.func88 rfl Tryz.results88 Tryz.ntmps88 rfl ?_
 refine c_seq (c_region ?_)
 refine r_v (q_assignS rfl) rfl ?_; refine r_v (q_assignB rfl) rfl ?_
 refine r_nil ?_
 refine c_seq (c_region ?_)
 refine r_v (q_moveI rfl) rfl ?_; refine r_v (q_max rfl rfl) rfl ?_; refine r_v (q_min rfl rfl) rfl ?_
 refine r_is (.int .i64 (n : Int)) (by congr 1; omega) ?_
 refine r_v (q_assignI rfl) rfl ?_
 refine r_nil ?_
 refine c_seq (c_region ?_)
 refine r_v (q_assignS rfl) rfl ?_
 refine r_nil ?_
 refine c_seq (c_block ?_)
 refine c_loop (Γ := List UInt8 × Option Addr × Nat × Nat × List Nat × Option Addr × Nat) (fun k => [(0, .slice k.2.1 k.1.length k.2.2.1), (1, .int .i64 n), (6, .slice k.2.2.2.2.2.1 k.2.2.2.2.1.length k.2.2.2.2.2.2)])
  (fun k w => k.1.length ≤ bs.length ∧ k.1.length ≤ k.2.2.2.1 ∧ k.1.length ≤ k.2.2.1 ∧ k.2.2.2.2.1.length ≤ n ∧ (∀ x ∈ k.2.2.2.2.1, x < 18446744073709551616) ∧ runsDec bs n = (runsDecA k.2.2.2.1 k.1 (n - k.2.2.2.2.1.length) k.2.2.2.2.1.getLast?).map (fun r => k.2.2.2.2.1 ++ r) ∧ Reads w0 l 1 k.2.1 k.1.length (bytesV k.1) ∧ St w0 (OwnU k.2.2.2.2.2.1 k.2.2.2.2.2.2 k.2.2.2.2.1 :: l) w)
  (fun k => k.1.length) (bs, sl, c, bs.length, [], none, 0) ⟨rfl, rfl, rfl, trivial⟩ ⟨Nat.le_refl _, Nat.le_refl _, hc, Nat.zero_le _, (fun _ h => by cases h), (by simp [runsDec]), hr, St.ownNil _ _ h⟩ ?_
 clear h hr hc
 rintro ⟨b, ba, bc, f, out, oa, oc⟩ w e ⟨hbl, hbf, hc, hol, hout, inv, hr, h⟩
 dsimp only at hbl hbf hc hol hout inv hr h ⊢
 refine c_seq (c_seq (c_region ?_))
 refine r_v (q_moveS rfl) rfl ?_; refine r_v (q_len rfl) rfl ?_; refine r_v (q_gtr rfl rfl) rfl ?_
 refine r_nil ?_
 refine c_cond (decide ((b.length : Int) > 0)) rfl (fun hcc => ?_) (fun hcc => ?_)
 ·
  have hpos : 0 < b.length := by simp at hcc; omega
  have hne : b ≠ [] := List.length_pos_iff.1 hpos
  cases f with
  | zero => omega
  | succ f =>
  rw [runsDecA_step hne] at inv
  have hk := vget_le b
  have hm := vget_lt b
  refine c_skip ?_
  refine c_block ?_
  refine c_seq (c_region ?_)
  refine r_v (q_moveS rfl) rfl ?_
  refine r_c rfl (x_call rfl (vint_Get h hr.cons.rd (by omega)) ?_)
  rintro _ w ⟨rfl, h⟩
  refine r_v (q_moveT rfl) rfl ?_; refine r_v (q_ext rfl rfl) rfl ?_; refine r_v (q_ext rfl rfl) rfl ?_; refine r_v (q_assignI rfl) rfl ?_; refine r_v (q_assignI rfl) rfl ?_
  refine r_nil ?_
  generalize (vget b).1 = many at hm inv ⊢
  generalize (vget b).2 = i at hk inv ⊢
  have hrt := hr.tailB hk hc
  have hk2 := vget_le (b.drop i)
  have hx := vget_lt (b.drop i)
  refine c_seq (c_region ?_)
  refine r_v (q_moveS rfl) rfl ?_; refine r_v (q_moveI rfl) rfl ?_
  refine r_v (q_tail (i := i) rfl rfl hk) rfl ?_
  show Rn _ _ _ _ _ (upd _ _ (.slice (adv ba (i * 1) (Nat.beq bc i)) (b.length - i) (bc - i))) _
  rw [← List.length_drop]
  refine r_c rfl (x_call rfl (vint_Get h hrt.cons.rd (by rw [List.length_drop]; omega)) ?_)
  rintro _ w ⟨rfl, h⟩
  refine r_v (q_moveT rfl) rfl ?_; refine r_v (q_ext rfl rfl) rfl ?_; refine r_v (q_ext rfl rfl) rfl ?_; refine r_v (q_assignI rfl) rfl ?_; refine r_v (q_assignI rfl) rfl ?_
  refine r_nil ?_
  generalize (vget (b.drop i)).1 = x at hx inv ⊢
  generalize (vget (b.drop i)).2 = k at hk2 inv ⊢
  rw [List.length_drop] at hk2
  refine c_cut (Γ := Unit) (fun _ => [(0, .slice ba b.length bc), (1, .int .i64 n), (6, .slice oa out.length oc), (7, .int .u64 many), (8, .int .i64 i), (9, .int .u64 x), (10, .int .i64 k)])
   (fun _ w => ¬ (i = 0 ∨ k = 0 ∨ many = 0 ∨ n - out.length < many ∨ out.getLast? = some x) ∧ St w0 (OwnU oa oc out :: l) w) ?_ ?_
  ·have bad : ∀ {w : World}, (i = 0 ∨ k = 0 ∨ many = 0 ∨ n - out.length < many ∨ out.getLast? = some x) → St w0 (OwnU oa oc out :: l) w → Told w0 l n (runsDec bs n) (.tuple [.slice none 0 0, .bool false].toArray) w := fun hb h => Told.no (by rw [inv, if_pos hb]; rfl) h.drop
   refine c_seq (c_region ?_)
   by_cases g1 : i = 0
   ·refine r_v (q_moveI rfl) rfl ?_
    refine r_v (q_is (v' := .bool true) (q_eql rfl rfl) (by rw [g1]; rfl)) rfl ?_
    refine r_v (q_moveB rfl) rfl ?_; refine r_gn rfl rfl rfl ?_; refine r_gn rfl rfl rfl ?_; refine r_v (q_pick1 rfl rfl rfl) rfl ?_; refine r_v (q_moveB rfl) rfl ?_; refine r_gn rfl rfl rfl ?_; refine r_gn rfl rfl rfl ?_; refine r_v (q_pick1 rfl rfl rfl) rfl ?_; refine r_v (q_moveB rfl) rfl ?_; refine r_gn rfl rfl rfl ?_; refine r_gn rfl rfl rfl ?_; refine r_gn rfl rfl rfl ?_; refine r_gn rfl rfl rfl ?_; refine r_gn rfl rfl rfl ?_; refine r_gn rfl rfl rfl ?_; refine r_gn rfl rfl rfl ?_; refine r_v (q_pick1 rfl rfl rfl) rfl ?_; refine r_v (q_moveB rfl) rfl ?_; refine r_gn rfl rfl rfl ?_; refine r_gn rfl rfl rfl ?_; refine r_gn rfl rfl rfl ?_; refine r_gn rfl rfl rfl ?_; refine r_gu rfl rfl ?_; refine r_gu rfl rfl ?_; refine r_gu rfl rfl ?_; refine r_gu rfl rfl ?_; refine r_gu rfl rfl ?_; refine r_gu rfl rfl ?_; refine r_gu rfl rfl ?_; refine r_gu rfl rfl ?_; refine r_gn rfl rfl rfl ?_; refine r_v (q_pick1 rfl rfl rfl) rfl ?_
    refine r_nil (c_true rfl ?_)
    refine c_seq (c_region ?_)
    refine r_v (q_assignS rfl) rfl ?_; refine r_v (q_assignB rfl) rfl ?_
    exact r_nil (c_ret (bq2 (bad (.inl g1) h)))
   refine r_v (q_moveI rfl) rfl ?_
   refine r_v (q_is (v' := .bool false) (q_eql rfl rfl) (by congr 1; rw [beq_eq_false_iff_ne]; omega)) rfl ?_
   refine r_v (q_moveB rfl) rfl ?_; refine r_gd rfl rfl ?_; refine r_v (q_moveI rfl) rfl ?_; refine r_gd rfl rfl ?_
   by_cases g2 : k = 0
   ·refine r_v (q_is (v' := .bool true) (q_eql rfl rfl) (by rw [g2]; rfl)) rfl ?_
    refine r_v (q_pick0 rfl rfl rfl) rfl ?_; refine r_v (q_moveB rfl) rfl ?_; refine r_gn rfl rfl rfl ?_; refine r_gn rfl rfl rfl ?_; refine r_v (q_pick1 rfl rfl rfl) rfl ?_; refine r_v (q_moveB rfl) rfl ?_; refine r_gn rfl rfl rfl ?_; refine r_gn rfl rfl rfl ?_; refine r_gn rfl rfl rfl ?_; refine r_gn rfl rfl rfl ?_; refine r_gn rfl rfl rfl ?_; refine r_gn rfl rfl rfl ?_; refine r_gn rfl rfl rfl ?_; refine r_v (q_pick1 rfl rfl rfl) rfl ?_; refine r_v (q_moveB rfl) rfl ?_; refine r_gn rfl rfl rfl ?_; refine r_gn rfl rfl rfl ?_; refine r_gn rfl rfl rfl ?_; refine r_gn rfl rfl rfl ?_; refine r_gu rfl rfl ?_; refine r_gu rfl rfl ?_; refine r_gu rfl rfl ?_; refine r_gu rfl rfl ?_; refine r_gu rfl rfl ?_; refine r_gu rfl rfl ?_; refine r_gu rfl rfl ?_; refine r_gu rfl rfl ?_; refine r_gn rfl rfl rfl ?_; refine r_v (q_pick1 rfl rfl rfl) rfl ?_
    refine r_nil (c_true rfl ?_)
    refine c_seq (c_region ?_)
    refine r_v (q_assignS rfl) rfl ?_; refine r_v (q_assignB rfl) rfl ?_
    exact r_nil (c_ret (bq2 (bad (.inr (.inl g2)) h)))
   refine r_v (q_is (v' := .bool false) (q_eql rfl rfl) (by congr 1; rw [beq_eq_false_iff_ne]; omega)) rfl ?_
   refine r_v (q_pick0 rfl rfl rfl) rfl ?_; refine r_v (q_moveB rfl) rfl ?_; refine r_gd rfl rfl ?_; refine r_v (q_moveI rfl) rfl ?_; refine r_gd rfl rfl ?_
   by_cases g3 : many = 0
   ·refine r_v (q_is (v' := .bool true) (q_eql rfl rfl) (by rw [g3]; rfl)) rfl ?_
    refine r_v (q_pick0 rfl rfl rfl) rfl ?_; refine r_v (q_moveB rfl) rfl ?_; refine r_gn rfl rfl rfl ?_; refine r_gn rfl rfl rfl ?_; refine r_gn rfl rfl rfl ?_; refine r_gn rfl rfl rfl ?_; refine r_gn rfl rfl rfl ?_; refine r_gn rfl rfl rfl ?_; refine r_gn rfl rfl rfl ?_; refine r_v (q_pick1 rfl rfl rfl) rfl ?_; refine r_v (q_moveB rfl) rfl ?_; refine r_gn rfl rfl rfl ?_; refine r_gn rfl rfl rfl ?_; refine r_gn rfl rfl rfl ?_; refine r_gn rfl rfl rfl ?_; refine r_gu rfl rfl ?_; refine r_gu rfl rfl ?_; refine r_gu rfl rfl ?_; refine r_gu rfl rfl ?_; refine r_gu rfl rfl ?_; refine r_gu rfl rfl ?_; refine r_gu rfl rfl ?_; refine r_gu rfl rfl ?_; refine r_gn rfl rfl rfl ?_; refine r_v (q_pick1 rfl rfl rfl) rfl ?_
    refine r_nil (c_true rfl ?_)
    refine c_seq (c_region ?_)
    refine r_v (q_assignS rfl) rfl ?_; refine r_v (q_assignB rfl) rfl ?_
    exact r_nil (c_ret (bq2 (bad (.inr (.inr (.inl g3))) h)))
   refine r_v (q_is (v' := .bool false) (q_eql rfl rfl) (by congr 1; rw [beq_eq_false_iff_ne]; omega)) rfl ?_
   refine r_v (q_pick0 rfl rfl rfl) rfl ?_; refine r_v (q_moveB rfl) rfl ?_; refine r_gd rfl rfl ?_; refine r_v (q_moveI rfl) rfl ?_; refine r_gd rfl rfl ?_; refine r_v (q_moveI rfl) rfl ?_; refine r_gd rfl rfl ?_; refine r_v (q_moveS rfl) rfl ?_; refine r_gd rfl rfl ?_; refine r_v (q_len rfl) rfl ?_; refine r_gd rfl rfl ?_
   refine r_v (q_is (v' := .int .i64 ((n - out.length : Nat) : Int)) (q_sub rfl rfl) (by rw [wrap64 (by omega) (by omega)]; congr 1; omega)) rfl ?_
   refine r_gd rfl rfl ?_
   refine r_v (q_is (v' := .int .u64 ((n - out.length : Nat) : Int)) (q_conv rfl) (congrArg (Value.int .u64) (conv_nat (by omega)))) rfl ?_
   refine r_gd rfl rfl ?_
   by_cases g4 : n - out.length < many
   ·refine r_v (q_is (v' := .bool true) (q_gtr rfl rfl) (by congr 1; simp; omega)) rfl ?_
    refine r_v (q_pick0 rfl rfl rfl) rfl ?_; refine r_v (q_moveB rfl) rfl ?_; refine r_gn rfl rfl rfl ?_; refine r_gn rfl rfl rfl ?_; refine r_gn rfl rfl rfl ?_; refine r_gn rfl rfl rfl ?_; refine r_gu rfl rfl ?_; refine r_gu rfl rfl ?_; refine r_gu rfl rfl ?_; refine r_gu rfl rfl ?_; refine r_gu rfl rfl ?_; refine r_gu rfl rfl ?_; refine r_gu rfl rfl ?_; refine r_gu rfl rfl ?_; refine r_gn rfl rfl rfl ?_; refine r_v (q_pick1 rfl rfl rfl) rfl ?_
    refine r_nil (c_true rfl ?_)
    refine c_seq (c_region ?_)
    refine r_v (q_assignS rfl) rfl ?_; refine r_v (q_assignB rfl) rfl ?_
    exact r_nil (c_ret (bq2 (bad (.inr (.inr (.inr (.inl g4)))) h)))
   refine r_v (q_is (v' := .bool false) (q_gtr rfl rfl) (by congr 1; simp; omega)) rfl ?_
   refine r_v (q_pick0 rfl rfl rfl) rfl ?_; refine r_v (q_moveB rfl) rfl ?_; refine r_gd rfl rfl ?_; refine r_v (q_moveS rfl) rfl ?_; refine r_gd rfl rfl ?_; refine r_v (q_len rfl) rfl ?_; refine r_gd rfl rfl ?_
   by_cases g0 : out.length = 0
   ·have ho : out = [] := List.eq_nil_of_length_eq_zero g0
    refine r_v (q_is (v' := .bool false) (q_gtr rfl rfl) (by rw [g0]; rfl)) rfl ?_
    refine r_gd rfl rfl ?_; refine r_v (q_moveB rfl) rfl ?_; refine r_gn rfl rfl rfl ?_; refine r_gn rfl rfl rfl ?_; refine r_gn rfl rfl rfl ?_; refine r_gn rfl rfl rfl ?_; refine r_gn rfl rfl rfl ?_; refine r_gn rfl rfl rfl ?_; refine r_gn rfl rfl rfl ?_; refine r_gn rfl rfl rfl ?_; refine r_gd rfl rfl ?_; refine r_v (q_pick0 rfl rfl rfl) rfl ?_; refine r_v (q_pick0 rfl rfl rfl) rfl ?_
    refine r_nil (c_false rfl ?_)
    refine c_skip ⟨(), ⟨rfl, rfl, rfl, rfl, rfl, rfl, rfl, trivial⟩, ?_, h⟩
    rw [ho]
    simp
    rw [ho] at g4
    simp at g4
    omega
   ·refine r_v (q_is (v' := .bool true) (q_gtr rfl rfl) (by congr 1; simp; omega)) rfl ?_
    have hgl := List.getElem?_eq_getElem (show out.length - 1 < out.length by omega)
    have hlast : out.getLast? = some (out[out.length - 1]'(by omega)) := by rw [List.getLast?_eq_getElem?, hgl]
    generalize out[out.length - 1]'(by omega) = z at hgl hlast
    obtain ⟨bo, hosl⟩ := h.own_some (by omega)
    refine r_gd rfl rfl ?_; refine r_v (q_moveB rfl) rfl ?_; refine r_gd rfl rfl ?_; refine r_v (q_moveS rfl) rfl ?_; refine r_gd rfl rfl ?_; refine r_v (q_moveS rfl) rfl ?_; refine r_gd rfl rfl ?_; refine r_v (q_len rfl) rfl ?_; refine r_gd rfl rfl ?_
    refine r_v (q_is (v' := .int .i64 ((out.length - 1 : Nat) : Int)) (q_sub rfl rfl) (by rw [wrap64 (by omega) (by omega)]; congr 1; omega)) rfl ?_
    refine r_gd rfl rfl ?_
    refine r_v (q_idx (b := bo) (o := 0) (m := out.length) (c := oc) (o' := out.length - 1) (by rw [← hosl]; rfl) rfl rfl (by omega) (by simp)) rfl ?_
    refine r_gd rfl rfl ?_
    refine r_v (q_loadc (v := .int .u64 z) rfl (by have := (hosl ▸ h.own_rd).cell (u64V_get hgl); simpa using this)) rfl ?_
    refine r_gd rfl rfl ?_; refine r_v (q_moveI rfl) rfl ?_; refine r_gd rfl rfl ?_; refine r_v (q_eql rfl rfl) rfl ?_; refine r_gd rfl rfl ?_; refine r_v (q_pick1 rfl rfl rfl) rfl ?_; refine r_v (q_pick0 rfl rfl rfl) rfl ?_
    refine r_nil (c_cond ((z : Int) == (x : Int)) rfl (fun hc1 => ?_) (fun hc1 => ?_))
    ·refine c_seq (c_region ?_)
     refine r_v (q_assignS rfl) rfl ?_; refine r_v (q_assignB rfl) rfl ?_
     exact r_nil (c_ret (bq2 (bad (.inr (.inr (.inr (.inr (by rw [hlast]; congr 1; rw [beq_iff_eq] at hc1; omega))))) h)))
    ·refine c_skip ⟨(), ⟨rfl, rfl, rfl, rfl, rfl, rfl, rfl, trivial⟩, ?_, h⟩
     rw [beq_eq_false_iff_ne] at hc1
     rintro (h | h | h | h | h)
     ·omega
     ·omega
     ·omega
     ·omega
     ·rw [hlast] at h; cases h; exact hc1 rfl
  clear h
  rintro _ w e ⟨hcond, h⟩
  rw [if_neg hcond] at inv
  have hmn : many ≤ n - out.length := by omega
  have hik : i + k ≤ b.length := by omega
  refine c_cut (Γ := Option Addr × Nat) (fun q => [(0, .slice ba b.length bc), (1, .int .i64 n), (6, .slice q.1 (out ++ List.replicate many x).length q.2), (8, .int .i64 i), (10, .int .i64 k)])
   (fun q w => St w0 (OwnU q.1 q.2 (out ++ List.replicate many x) :: l) w) ?_ ?_
  ·refine c_seq (c_region ?_)
   refine r_v (q_moveI rfl) rfl ?_; refine r_v (q_moveI rfl) rfl ?_
   refine r_nil ?_
   refine c_block ?_
   refine c_loop (Γ := Nat × Option Addr × Nat) (fun q => [(0, .slice ba b.length bc), (1, .int .i64 n), (6, .slice q.2.1 (out ++ List.replicate q.1 x).length q.2.2), (8, .int .i64 i), (9, .int .u64 x), (10, .int .i64 k), (63, .int .u64 many), (64, .int .u64 q.1)])
    (fun q w => q.1 ≤ many ∧ St w0 (OwnU q.2.1 q.2.2 (out ++ List.replicate q.1 x) :: l) w) (fun q => many - q.1) (0, oa, oc) ⟨rfl, rfl, (by show Value.slice _ _ _ = Value.slice _ _ _; simp), rfl, rfl, rfl, rfl, rfl, trivial⟩ ⟨Nat.zero_le _, by simpa using h⟩ ?_
   clear h
   rintro ⟨j, oa, oc⟩ w e ⟨hj, h⟩
   dsimp only at hj h ⊢
   refine c_seq (c_region ?_)
   refine r_v (q_lss rfl rfl) rfl ?_
   refine r_nil ?_
   refine c_seq (c_cond (decide ((j : Int) < (many : Int))) rfl (fun hc1 => ?_) (fun hc1 => ?_))
   ·
    have hlt : j < many := by simp at hc1; omega
    have hstep : out ++ List.replicate (j + 1) x = out ++ List.replicate j x ++ [x] := by rw [List.replicate_succ', List.append_assoc]
    refine c_skip ?_
    refine c_cut (Γ := Option Addr × Nat) (fun q => [(0, .slice ba b.length bc), (1, .int .i64 n), (6, .slice q.1 (out ++ List.replicate (j + 1) x).length q.2), (8, .int .i64 i), (9, .int .u64 x), (10, .int .i64 k), (63, .int .u64 many), (64, .int .u64 j)]) (fun q w => St w0 (OwnU q.1 q.2 (out ++ List.replicate (j + 1) x) :: l) w) ?_ ?_
    ·refine c_block ?_
     refine c_region ?_
     refine r_v (q_moveS rfl) rfl ?_; refine r_v (q_moveI rfl) rfl ?_
     refine r_c rfl (x_bslice (r := u64V [x]) h rfl rfl rfl fun b2 w h => ?_)
     refine r_c rfl (x_append' (ys := u64V [x]) (zs := u64V (out ++ List.replicate (j + 1) x)) (m3 := (out ++ List.replicate (j + 1) x).length) (h.f 1) rfl rfl ⟨rfl, .inr ⟨b2, 0, rfl, at_of (h.b 0 rfl) rfl⟩⟩ (u64V_one _) (by rw [hstep]; simp; omega) (by rw [hstep]; simp [u64V]) (by simp; omega) (by simp; omega) rfl fun a2 c2 w _ h => ?_)
     refine r_v (q_assignS rfl) rfl ?_
     exact r_nil ⟨(a2, c2), ⟨rfl, rfl, rfl, rfl, rfl, rfl, rfl, rfl, trivial⟩, (h.f 1).drop⟩
    clear h
    rintro ⟨oa, oc⟩ w e h
    dsimp only at h ⊢
    refine c_region ?_
    refine r_v (q_add rfl rfl) rfl ?_
    refine r_is (.int .u64 ((j + 1 : Nat) : Int)) (congrArg (Value.int .u64) (conv_nat (x := j + 1) (by omega))) ?_
    refine r_v (q_moveI rfl) rfl ?_
    exact r_nil ⟨(j + 1, oa, oc), ⟨rfl, rfl, rfl, rfl, rfl, rfl, rfl, rfl, trivial⟩, ⟨hlt, h⟩, by dsimp only; omega⟩
   have hjm : j = many := by simp at hc1; omega
   subst hjm
   exact c_exit ⟨(oa, oc), ⟨rfl, rfl, rfl, rfl, rfl, trivial⟩, h⟩
  clear h
  rintro ⟨oa, oc⟩ w e h
  dsimp only at h ⊢
  have hrt2 := hr.tailB hik hc
  refine c_region ?_
  refine r_v (q_moveS rfl) rfl ?_; refine r_v (q_moveI rfl) rfl ?_; refine r_v (q_moveI rfl) rfl ?_; refine r_v (q_add rfl rfl) rfl ?_
  refine r_is (.int .i64 ((i + k : Nat) : Int)) (by rw [wrap64 (by omega) (by omega)]; rfl) ?_
  refine r_v (q_tail (i := i + k) rfl rfl hik) rfl ?_
  show Rn _ _ _ _ _ (upd _ _ (.slice (adv ba ((i + k) * 1) (Nat.beq bc (i + k))) (b.length - (i + k)) (bc - (i + k)))) _
  rw [← List.length_drop]
  refine r_v (q_assignS rfl) rfl ?_
  refine r_nil ⟨(b.drop (i + k), adv ba ((i + k) * 1) (Nat.beq bc (i + k)), bc - (i + k), f, out ++ List.replicate many x, oa, oc), ⟨rfl, rfl, rfl, trivial⟩, ⟨by dsimp only; rw [List.length_drop]; omega, by dsimp only; rw [List.length_drop]; omega, by dsimp only; rw [List.length_drop]; omega, by dsimp only; rw [List.length_append, List.length_replicate]; omega, fun z hz => ?_, ?_, hrt2, h⟩, by dsimp only; rw [List.length_drop]; omega⟩
  ·rcases List.mem_append.1 hz with hz | hz
   ·exact hout z hz
   ·rw [(List.mem_replicate.1 hz).2]; exact hx
  ·rw [inv, getLast?_rep out (by omega), List.length_append, List.length_replicate, Option.map_map, Nat.sub_sub]
   congr 1
   funext r
   simp
 have hb0 : b = [] := List.eq_nil_of_length_eq_zero (by rw [decide_eq_false_iff_not] at hcc; omega)
 subst hb0
 have inv : runsDec bs n = (if n - out.length = 0 then some [] else none).map (fun r => out ++ r) := by
  rw [inv]
  cases f <;> rfl
 refine c_exit ?_
 refine c_seq (c_seq (c_region ?_))
 refine r_v (q_moveS rfl) rfl ?_; refine r_v (q_len rfl) rfl ?_; refine r_v (q_moveI rfl) rfl ?_; refine r_v (q_neq rfl rfl) rfl ?_
 by_cases hon : out.length = n
 ·refine r_is (.bool false) (by rw [hon]; simp) ?_
  refine r_nil (c_false rfl (c_skip ?_))
  refine c_seq (c_region ?_)
  refine r_v (q_moveS rfl) rfl ?_; refine r_v (q_assignS rfl) rfl ?_; refine r_v (q_assignB rfl) rfl ?_
  refine r_nil ?_
  exact c_ret (bq2 ⟨oa, oc, out, true, rfl, by rw [inv, if_pos (by omega)]; simp, fun _ => ⟨hon, hout⟩, h⟩)
 ·refine r_is (.bool true) (by congr 1; rw [bne_iff_ne]; omega) ?_
  refine r_nil (c_true rfl ?_)
  refine c_seq (c_region ?_)
  refine r_v (q_assignS rfl) rfl ?_; refine r_v (q_assignB rfl) rfl ?_
  refine r_nil ?_
  exact c_ret (bq2 (Told.no (by rw [inv, if_neg (by omega)]; rfl) h.drop))

theorem forp_Decode {sl : Option Addr} {c : Nat} {bs : List UInt8} {n : Nat} (hn : n ≤ 65535) (hbn : bs.length ≤ 140737488355328) (hc : bs.length ≤ c) (hr : Reads w0 l 1 sl bs.length (bytesV bs)) (h : St w0 l w) :
  Ret Tryz.prog 89 [.slice sl bs.length c, .int .i64 (n : Int)] w fun v w' => Told w0 l n (frameDec bs n) v w' := by
 have hdef : frameDec bs n = _ := rfl
 conv at hdef => rhs; unfold frameDec
 refine enter Tryz.func89 rfl Tryz.results89 Tryz.ntmps89 rfl ?_
 refine c_seq (c_region ?_)
 refine r_v (q_assignS rfl) rfl ?_; refine r_v (q_assignB rfl) rfl ?_
 refine r_nil ?_
 refine c_seq (c_region ?_)
 refine r_v (q_moveI rfl) rfl ?_; refine r_v (q_max rfl rfl) rfl ?_; refine r_v (q_min rfl rfl) rfl ?_
 refine r_is (.int .i64 (n : Int)) (by congr 1; omega) ?_
 refine r_v (q_assignI rfl) rfl ?_
 refine r_nil ?_
 refine c_seq (c_seq (c_region ?_))
 refine r_v (q_moveI rfl) rfl ?_; refine r_v (q_eql rfl rfl) rfl ?_
 by_cases hn0 : n = 0
 ·refine r_is (.bool true) (by rw [hn0]; rfl) ?_
  refine r_nil (c_true rfl ?_)
  refine c_seq (c_region ?_)
  refine r_v (q_moveS rfl) rfl ?_; refine r_v (q_len rfl) rfl ?_; refine r_v (q_eql rfl rfl) rfl ?_
  refine r_is (.bool (decide (bs = []))) (by congr 1; rw [Bool.eq_iff_iff]; simp) ?_
  refine r_v (q_assignS rfl) rfl ?_; refine r_v (q_assignB rfl) rfl ?_
  refine r_nil ?_
  rw [if_pos hn0] at hdef
  refine c_ret (bq2 ⟨none, 0, [], decide (bs = []), rfl, ?_, fun _ => ⟨hn0.symm, (fun _ h => by cases h)⟩, St.ownNil _ _ h⟩)
  rw [hdef]
  by_cases hb : bs = []
  ·rw [if_pos hb, decide_eq_true hb, if_pos rfl]
  ·rw [if_neg hb, decide_eq_false hb, if_neg (by decide)]
 refine r_is (.bool false) (by congr 1; rw [beq_eq_false_iff_ne]; omega) ?_
 refine r_nil (c_false rfl (c_skip ?_))
 rw [if_neg hn0] at hdef
 have hk := vget_le bs
 have hm := vget_lt bs
 refine c_seq (c_region ?_)
 refine r_v (q_moveS rfl) rfl ?_
 refine r_c rfl (x_call rfl (vint_Get h hr.rd hbn) ?_)
 rintro _ w ⟨rfl, h⟩
 refine r_v (q_moveT rfl) rfl ?_; refine r_v (q_ext rfl rfl) rfl ?_; refine r_v (q_ext rfl rfl) rfl ?_; refine r_v (q_assignI rfl) rfl ?_; refine r_v (q_assignI rfl) rfl ?_
 refine r_nil ?_
 generalize (vget bs).1 = least at hm hdef ⊢
 generalize (vget bs).2 = i at hk hdef ⊢
 refine c_cut (Γ := UInt8) (fun _ => [(0, .slice sl bs.length c), (1, .int .i64 n), (6, .int .u64 least), (7, .int .i64 i)])
  (fun q w => bs[i]? = some q ∧ q.toNat ≤ 64 ∧ i ≠ 0 ∧ St w0 l w) ?_ ?_
 ·refine c_seq (c_region ?_)
  by_cases g1 : i = 0
  ·refine r_v (q_moveI rfl) rfl ?_
   refine r_v (q_is (v' := .bool true) (q_eql rfl rfl) (by rw [g1]; rfl)) rfl ?_
   refine r_v (q_moveB rfl) rfl ?_; refine r_gn rfl rfl rfl ?_; refine r_gn rfl rfl rfl ?_; refine r_gn rfl rfl rfl ?_; refine r_gn rfl rfl rfl ?_; refine r_v (q_pick1 rfl rfl rfl) rfl ?_; refine r_v (q_moveB rfl) rfl ?_; refine r_gn rfl rfl rfl ?_; refine r_gn rfl rfl rfl ?_; refine r_gn rfl rfl rfl ?_; refine r_gn rfl rfl rfl ?_; refine r_gn rfl rfl rfl ?_; refine r_v (q_pick1 rfl rfl rfl) rfl ?_
   refine r_nil (c_true rfl ?_)
   refine c_seq (c_region ?_)
   refine r_v (q_assignS rfl) rfl ?_; refine r_v (q_assignB rfl) rfl ?_
   exact r_nil (c_ret (bq2 (Told.no (by rw [hdef, if_pos g1]) h)))
  rw [if_neg g1] at hdef
  refine r_v (q_moveI rfl) rfl ?_
  refine r_v (q_is (v' := .bool false) (q_eql rfl rfl) (by congr 1; rw [beq_eq_false_iff_ne]; omega)) rfl ?_
  refine r_v (q_moveB rfl) rfl ?_; refine r_gd rfl rfl ?_; refine r_v (q_moveI rfl) rfl ?_; refine r_gd rfl rfl ?_; refine r_v (q_moveS rfl) rfl ?_; refine r_gd rfl rfl ?_; refine r_v (q_len rfl) rfl ?_; refine r_gd rfl rfl ?_
  by_cases g2 : i = bs.length
  ·refine r_v (q_is (v' := .bool true) (q_eql rfl rfl) (by rw [g2]; simp)) rfl ?_
   refine r_v (q_pick0 rfl rfl rfl) rfl ?_; refine r_v (q_moveB rfl) rfl ?_; refine r_gn rfl rfl rfl ?_; refine r_gn rfl rfl rfl ?_; refine r_gn rfl rfl rfl ?_; refine r_gn rfl rfl rfl ?_; refine r_gn rfl rfl rfl ?_; refine r_v (q_pick1 rfl rfl rfl) rfl ?_
   refine r_nil (c_true rfl ?_)
   refine c_seq (c_region ?_)
   refine r_v (q_assignS rfl) rfl ?_; refine r_v (q_assignB rfl) rfl ?_
   exact r_nil (c_ret (bq2 (Told.no (by rw [hdef, List.getElem?_eq_none (by omega)]) h)))
  have hil : i < bs.length := by omega
  have hg := List.getElem?_eq_getElem hil
  generalize bs[i] = q at hg
  rw [hg] at hdef
  dsimp only at hdef
  obtain ⟨b, o, hsl⟩ := (hr.at_ h).some (by omega)
  refine r_v (q_is (v' := .bool false) (q_eql rfl rfl) (by congr 1; rw [beq_eq_false_iff_ne]; omega)) rfl ?_
  refine r_v (q_pick0 rfl rfl rfl) rfl ?_; refine r_v (q_moveB rfl) rfl ?_; refine r_gd rfl rfl ?_; refine r_v (q_moveS rfl) rfl ?_; refine r_gd rfl rfl ?_; refine r_v (q_moveI rfl) rfl ?_; refine r_gd rfl rfl ?_
  refine r_v (q_idx (b := b) (o := o) (m := bs.length) (c := c) (o' := o + i) (by rw [← hsl]; rfl) rfl rfl hil (by simp)) rfl ?_
  refine r_gd rfl rfl ?_
  refine r_v (q_loadc (v := .int .u8 q.toNat) rfl ((hsl ▸ hr.at_ h).cell (bytesV_get hg))) rfl ?_
  refine r_gd rfl rfl ?_; refine r_v (q_gtr rfl rfl) rfl ?_; refine r_v (q_pick0 rfl rfl rfl) rfl ?_
  refine r_nil (c_cond (decide ((q.toNat : Int) > 64)) rfl (fun hc1 => ?_) (fun hc1 => ?_))
  ·refine c_seq (c_region ?_)
   refine r_v (q_assignS rfl) rfl ?_; refine r_v (q_assignB rfl) rfl ?_
   exact r_nil (c_ret (bq2 (Told.no (by rw [hdef, if_pos (by simp at hc1; omega)]) h)))
  ·exact c_skip ⟨q, ⟨rfl, rfl, rfl, rfl, trivial⟩, hg, by simp at hc1; omega, g1, h⟩
 clear h
 rintro q w e ⟨hg, hq64, hi0, h⟩
 have hil : i < bs.length := (List.getElem?_eq_some_iff.1 hg).1
 rw [if_neg hi0, hg] at hdef
 dsimp only at hdef
 rw [if_neg (by omega)] at hdef
 have hrt := hr.tailB (i := i + 1) hil hc
 refine c_seq (c_region ?_)
 refine r_v (q_moveS rfl) rfl ?_; refine r_v (q_moveI rfl) rfl ?_; refine r_v (q_add rfl rfl) rfl ?_
 refine r_is (.int .i64 ((i + 1 : Nat) : Int)) (by rw [wrap64 (by omega) (by omega)]; rfl) ?_
 refine r_v (q_tail (i := i + 1) rfl rfl hil) rfl ?_
 show Rn _ _ _ _ _ (upd _ _ (.slice (adv sl ((i + 1) * 1) (Nat.beq c (i + 1))) (bs.length - (i + 1)) (c - (i + 1)))) _
 rw [← List.length_drop]
 refine r_c rfl (x_call rfl (bits_NewReader h hrt.rd (by rw [List.length_drop]; omega)) ?_)
 rintro _ w ⟨p, rfl, h⟩
 refine r_v (q_assignP rfl) rfl ?_
 refine r_nil ?_
 refine c_seq (c_region ?_)
 refine r_v (q_assignS rfl) rfl ?_
 refine r_nil ?_
 refine c_seq (c_seq (c_region ?_))
 refine r_v (q_moveI rfl) rfl ?_; refine r_v (q_moveI rfl) rfl ?_
 refine r_nil ?_
 generalize (⟨bitsB (bs.drop (i + 1)), false⟩ : RS) = s0 at h hdef
 refine c_block ?_
 refine c_loop (Γ := Nat × List Nat × RS × Option Addr × Nat) (fun k => [(0, .slice sl bs.length c), (6, .int .u64 least), (7, .int .i64 i), (8, .pointer (some ⟨p, 0, none⟩)), (9, .slice k.2.2.2.1 (k.2.1.map fun x => summ least x).length k.2.2.2.2), (43, .int .i64 n), (44, .int .i64 k.1)])
  (fun k w => k.1 ≤ n ∧ k.2.1.length = k.1 ∧ getAll n q.toNat s0 = (getAll (n - k.1) q.toNat k.2.2.1).map (fun r => k.2.1 ++ r) ∧ St w0 (OwnU k.2.2.2.1 k.2.2.2.2 (k.2.1.map fun x => summ least x) :: IsBR p k.2.2.1 :: l) w)
  (fun k => n - k.1) (0, [], s0, none, 0) ⟨rfl, rfl, rfl, rfl, rfl, rfl, rfl, trivial⟩ ⟨Nat.zero_le _, rfl, (by simp), St.ownNil _ _ h⟩ ?_
 clear h
 rintro ⟨j, gots, s1, oa, oc⟩ w e ⟨hj, hgl, inv, h⟩
 dsimp only at hj hgl inv h ⊢
 refine c_seq (c_region ?_)
 refine r_v (q_lss rfl rfl) rfl ?_
 refine r_nil ?_
 refine c_seq (c_cond (decide ((j : Int) < (n : Int))) rfl (fun hc1 => ?_) (fun hc1 => ?_))
 ·
  have hlt : j < n := by simp at hc1; omega
  rw [show n - j = (n - (j + 1)) + 1 by omega, getAll] at inv
  obtain ⟨b, o, hsl⟩ := ((hr.more [_, _]).at_ h).some (by omega)
  have hml : (gots.map fun x => summ least x).length = j := by rw [List.length_map, hgl]
  refine c_skip ?_
  refine c_seq (c_block ?_)
  refine c_seq (c_region ?_)
  refine r_v (q_moveS rfl) rfl ?_; refine r_v (q_moveI rfl) rfl ?_; refine r_v (q_moveP rfl) rfl ?_; refine r_v (q_moveS rfl) rfl ?_; refine r_v (q_moveI rfl) rfl ?_
  refine r_v (q_idx (b := b) (o := o) (m := bs.length) (c := c) (o' := o + i) (by rw [← hsl]; rfl) rfl rfl hil (by simp)) rfl ?_
  refine r_v (q_loadc (v := .int .u8 q.toNat) rfl ((hsl ▸ (hr.more [_, _]).at_ h).cell (bytesV_get hg))) rfl ?_
  refine r_v (q_conv rfl) rfl ?_
  refine r_is (.int .i64 (q.toNat : Int)) (by rw [wrap64 (by omega) (by omega)]) ?_
  refine r_c rfl (x_call rfl (bits_Get q.toNat (h.f 1)) ?_)
  rw [heldN_nat hq64]
  cases hgg : s1.get q.toNat with | mk y s2 =>
  rw [hgg] at inv
  rintro _ w ⟨rfl, h⟩
  dsimp only at h inv ⊢
  refine r_v (q_add rfl rfl) rfl ?_
  refine r_is (.int .u64 (summ least y : Nat)) (by rw [wrap_summ]) ?_
  have hstep : (gots ++ [y]).map (fun x => summ least x) = gots.map (fun x => summ least x) ++ [summ least y] := by simp
  refine r_c rfl (x_bslice (r := u64V [summ least y]) h rfl rfl rfl fun b2 w h => ?_)
  refine r_c rfl (x_append' (ys := u64V [summ least y]) (zs := u64V ((gots ++ [y]).map fun x => summ least x)) (m3 := ((gots ++ [y]).map fun x => summ least x).length) (h.f 2) rfl rfl ⟨rfl, .inr ⟨b2, 0, rfl, at_of (h.b 0 rfl) rfl⟩⟩ (u64V_one _) (by rw [hstep]; simp) (by rw [hstep]; simp [u64V]) (by rw [hstep]; simp; omega) (by rw [hstep]; simp; omega) rfl fun a2 c2 w _ h => ?_)
  refine r_v (q_assignS rfl) rfl ?_
  refine r_nil ?_
  refine c_seq (c_region ?_)
  refine r_v (q_moveP rfl) rfl ?_
  refine r_c rfl (x_call rfl (bits_Ok (h.f 2)) ?_)
  rintro _ w ⟨rfl, h⟩
  refine r_v (q_not rfl) rfl ?_
  refine r_nil ?_
  cases hbd : s2.bad with
  | true =>
   refine c_true rfl ?_
   refine c_seq (c_region ?_)
   refine r_v (q_assignS rfl) rfl ?_; refine r_v (q_assignB rfl) rfl ?_
   refine r_nil ?_
   rw [hbd, if_pos rfl] at inv
   exact c_ret (bq2 (Told.no (by rw [hdef, inv]; rfl) h.drop.drop.drop))
  | false =>
   refine c_false rfl (c_skip ?_)
   rw [hbd, if_neg (by decide), Option.map_map] at inv
   refine c_region ?_
   refine r_v (q_add rfl rfl) rfl ?_
   refine r_is (.int .i64 ((j + 1 : Nat) : Int)) (by rw [wrap64 (by omega) (by omega)]; rfl) ?_
   refine r_v (q_moveI rfl) rfl ?_
   refine r_nil ⟨(j + 1, gots ++ [y], s2, a2, c2), ⟨rfl, rfl, rfl, rfl, rfl, rfl, rfl, trivial⟩, ⟨hlt, by simp; omega, ?_, ?_⟩, by dsimp only; omega⟩
   ·dsimp only
    rw [inv]
    congr 1
    funext r
    simp
   ·exact ((h.f 2).drop.f 1)
 have hjn : j = n := by simp at hc1; omega
 rw [hjn, Nat.sub_self, getAll, Option.map_some, List.append_nil] at inv
 rw [inv] at hdef
 dsimp only at hdef
 have hml : (gots.map fun x => summ least x).length = n := by rw [List.length_map, hgl, hjn]
 have hmlt : ∀ x ∈ gots.map (fun x => summ least x), x < 18446744073709551616 := fun x hx => by
  obtain ⟨y, _, rfl⟩ := List.mem_map.1 hx
  exact Nat.mod_lt _ (by decide)
 generalize gots.map (fun x => summ least x) = out at hml hmlt hdef h ⊢
 refine c_exit ?_
 refine c_seq (c_seq (c_region ?_))
 refine r_v (q_moveS rfl) rfl ?_
 refine r_c rfl (x_call rfl (forp_Encode hmlt (by omega) Reads.own h) ?_)
 rintro _ w ⟨ea, ec, rfl, h⟩
 refine r_v (q_moveS rfl) rfl ?_
 refine r_c rfl (x_call rfl (bytes_Equal (b1 := frameEnc out) (b2 := bs) h (fun w' h' => h'.own_rd) (hr.more [_, _, _]).rd) ?_)
 rintro _ w ⟨rfl, h⟩
 refine r_v (q_not rfl) rfl ?_
 refine r_nil ?_
 refine c_cond (!decide (frameEnc out = bs)) rfl (fun hc2 => ?_) (fun hc2 => ?_)
 ·
  refine c_seq (c_region ?_)
  refine r_v (q_assignS rfl) rfl ?_; refine r_v (q_assignB rfl) rfl ?_
  refine r_nil ?_
  exact c_ret (bq2 (Told.no (by rw [hdef, if_neg (by simpa using hc2)]) h.drop.drop.drop))
 refine c_skip ?_
 refine c_seq (c_region ?_)
 refine r_v (q_moveS rfl) rfl ?_; refine r_v (q_assignS rfl) rfl ?_; refine r_v (q_assignB rfl) rfl ?_
 refine r_nil ?_
 exact c_ret (bq2 ⟨oa, oc, out, true, rfl, by rw [hdef, if_pos (by simpa using hc2)]; rfl, fun _ => ⟨hml, hmlt⟩, (h.drop.f 1).drop⟩)
end
end Go.Proofs.YtjjacchnalemaaaGreatDoor

/- dict: reading by a list of values. -/
namespace Go.Hw
theorem pickRun (l : List Nat) (wide k : Nat) (s : RS) : (getAll (k + 1) wide s).bind (pickAll l) =
  if (s.get wide).2.bad = true then none else match l[(s.get wide).1]? with
   | none => none
   | some x => ((getAll k wide (s.get wide).2).bind (pickAll l)).map fun r => x :: r := by
 rw [getAll]
 split
 ·rfl
 ·cases hx : l[(s.get wide).1]? with
  | none =>
   cases getAll k wide (s.get wide).2 with
   | none => rfl
   | some r => simp [pickAll, hx]
  | some x =>
   cases getAll k wide (s.get wide).2 with
   | none => rfl
   | some r => simp [pickAll, hx]
theorem dictDec_bind (b : List UInt8) (n : Nat) : dictDec b n = if n = 0 then (if b = [] then some [] else none)
 else if (vget b).2 = 0 ∨ (vget b).1 = 0 ∨ 256 < (vget b).1 then none
 else match getVs (vget b).1 (b.drop (vget b).2) with
  | none => none
  | some (l, rest) => match (getAll n (len64 (l.length - 1)) ⟨bitsB rest, false⟩).bind (pickAll l) with
   | none => none
   | some out => if dictEnc out = some b then some out else none := by
 unfold dictDec
 split
 ·rfl
 ·split
  ·rfl
  ·cases getVs (vget b).1 (b.drop (vget b).2) with
   | none => rfl
   | some x =>
    obtain ⟨l, rest⟩ := x
    dsimp only
    cases getAll n (len64 (l.length - 1)) ⟨bitsB rest, false⟩ with
    | none => rfl
    | some a => rfl
end Go.Hw
namespace Go.Proofs.YtjjacchnalemaaaGreatDoor
open Go.Hw
set_option maxHeartbeats 4000000
set_option maxRecDepth 100000
section
variable {w0 w : World} {l : List HProp}
theorem dict_values {sl : Option Addr} {c : Nat} {bs : List UInt8} (hbn : bs.length ≤ 140737488355328) (hc : bs.length ≤ c) (hr : Reads w0 l 1 sl bs.length (bytesV bs)) (h : St w0 l w) :
  Ret Tryz.prog 127 [.slice sl bs.length c] w fun v w' =>
   ((if (vget bs).2 = 0 ∨ (vget bs).1 = 0 ∨ 256 < (vget bs).1 then none else getVs (vget bs).1 (bs.drop (vget bs).2)) = none ∧ v = .tuple [.slice none 0 0, .slice none 0 0, .bool false].toArray ∧ St w0 l w') ∨
   ∃ L rest a c1 a2 c2, (if (vget bs).2 = 0 ∨ (vget bs).1 = 0 ∨ 256 < (vget bs).1 then none else getVs (vget bs).1 (bs.drop (vget bs).2)) = some (L, rest) ∧ v = .tuple [.slice a L.length c1, .slice a2 rest.length c2, .bool true].toArray ∧ 0 < L.length ∧ L.length ≤ 256 ∧ (∀ x ∈ L, x < 18446744073709551616) ∧ rest.length ≤ bs.length ∧ Reads w0 l 1 a2 rest.length (bytesV rest) ∧ St w0 (OwnU a c1 L :: l) w' := by
 refine enter Tryz.func127 rfl Tryz.results127 Tryz.ntmps127 rfl ?_
 refine c_seq (c_region ?_)
 refine r_v (q_assignS rfl) rfl ?_; refine r_v (q_assignS rfl) rfl ?_; refine r_v (q_assignB rfl) rfl ?_
 refine r_nil ?_
 have hk := vget_le bs
 have hm := vget_lt bs
 refine c_seq (c_region ?_)
 refine r_v (q_moveS rfl) rfl ?_
 refine r_c rfl (x_call rfl (vint_Get h hr.rd hbn) ?_)
 rintro _ w ⟨rfl, h⟩
 refine r_v (q_moveT rfl) rfl ?_; refine r_v (q_ext rfl rfl) rfl ?_; refine r_v (q_ext rfl rfl) rfl ?_; refine r_v (q_assignI rfl) rfl ?_; refine r_v (q_assignI rfl) rfl ?_
 refine r_nil ?_
 generalize (vget bs).1 = many at hm ⊢
 generalize (vget bs).2 = i at hk ⊢
 refine c_cut (Γ := Unit) (fun _ => [(0, .slice sl bs.length c), (5, .int .u64 many), (6, .int .i64 i)]) (fun _ w => ¬ (i = 0 ∨ many = 0 ∨ 256 < many) ∧ St w0 l w) ?_ ?_
 ·refine c_seq (c_region ?_)
  by_cases g1 : i = 0
  ·refine r_v (q_moveI rfl) rfl ?_
   refine r_v (q_is (v' := .bool true) (q_eql rfl rfl) (by rw [g1]; rfl)) rfl ?_
   refine r_v (q_moveB rfl) rfl ?_; refine r_gn rfl rfl rfl ?_; refine r_gn rfl rfl rfl ?_; refine r_v (q_pick1 rfl rfl rfl) rfl ?_; refine r_v (q_moveB rfl) rfl ?_; refine r_gn rfl rfl rfl ?_; refine r_gn rfl rfl rfl ?_; refine r_v (q_pick1 rfl rfl rfl) rfl ?_
   refine r_nil (c_true rfl ?_)
   refine c_seq (c_region ?_)
   refine r_v (q_assignS rfl) rfl ?_; refine r_v (q_assignS rfl) rfl ?_; refine r_v (q_assignB rfl) rfl ?_
   exact r_nil (c_ret (bq3 (.inl ⟨by rw [if_pos (.inl g1)], rfl, h⟩)))
  refine r_v (q_moveI rfl) rfl ?_
  refine r_v (q_is (v' := .bool false) (q_eql rfl rfl) (by congr 1; rw [beq_eq_false_iff_ne]; omega)) rfl ?_
  refine r_v (q_moveB rfl) rfl ?_; refine r_gd rfl rfl ?_; refine r_v (q_moveI rfl) rfl ?_; refine r_gd rfl rfl ?_
  by_cases g2 : many = 0
  ·refine r_v (q_is (v' := .bool true) (q_eql rfl rfl) (by rw [g2]; rfl)) rfl ?_
   refine r_v (q_pick0 rfl rfl rfl) rfl ?_; refine r_v (q_moveB rfl) rfl ?_; refine r_gn rfl rfl rfl ?_; refine r_gn rfl rfl rfl ?_; refine r_v (q_pick1 rfl rfl rfl) rfl ?_
   refine r_nil (c_true rfl ?_)
   refine c_seq (c_region ?_)
   refine r_v (q_assignS rfl) rfl ?_; refine r_v (q_assignS rfl) rfl ?_; refine r_v (q_assignB rfl) rfl ?_
   exact r_nil (c_ret (bq3 (.inl ⟨by rw [if_pos (.inr (.inl g2))], rfl, h⟩)))
  refine r_v (q_is (v' := .bool false) (q_eql rfl rfl) (by congr 1; rw [beq_eq_false_iff_ne]; omega)) rfl ?_
  refine r_v (q_pick0 rfl rfl rfl) rfl ?_; refine r_v (q_moveB rfl) rfl ?_; refine r_gd rfl rfl ?_; refine r_v (q_moveI rfl) rfl ?_; refine r_gd rfl rfl ?_; refine r_v (q_gtr rfl rfl) rfl ?_; refine r_v (q_pick0 rfl rfl rfl) rfl ?_
  refine r_nil (c_cond (decide ((many : Int) > 256)) rfl (fun hc1 => ?_) (fun hc1 => ?_))
  ·refine c_seq (c_region ?_)
   refine r_v (q_assignS rfl) rfl ?_; refine r_v (q_assignS rfl) rfl ?_; refine r_v (q_assignB rfl) rfl ?_
   exact r_nil (c_ret (bq3 (.inl ⟨by rw [if_pos (.inr (.inr (by simp at hc1; omega)))], rfl, h⟩)))
  ·exact c_skip ⟨(), ⟨rfl, rfl, rfl, trivial⟩, by simp at hc1; omega, h⟩
 clear h
 rintro _ w e ⟨hcond, h⟩
 rw [if_neg hcond]
 have hrt := hr.tailB hk hc
 refine c_seq (c_region ?_)
 refine r_v (q_moveS rfl) rfl ?_; refine r_v (q_moveI rfl) rfl ?_
 refine r_v (q_tail (i := i) rfl rfl hk) rfl ?_
 show Rn _ _ _ _ _ (upd _ _ (.slice (adv sl (i * 1) (Nat.beq c i)) (bs.length - i) (c - i))) _
 rw [← List.length_drop]
 refine r_v (q_assignS rfl) rfl ?_
 refine r_nil ?_
 refine c_seq (c_region ?_)
 refine r_v (q_assignS rfl) rfl ?_
 refine r_nil ?_
 refine c_seq (c_seq (c_region ?_))
 refine r_v (q_moveI rfl) rfl ?_; refine r_v (q_moveI rfl) rfl ?_
 refine r_nil ?_
 generalize hG : getVs many (bs.drop i) = G
 refine c_block ?_
 refine c_loop (Γ := Nat × List UInt8 × Option Addr × Nat × List Nat × Option Addr × Nat) (fun k => [(0, .slice k.2.2.1 k.2.1.length k.2.2.2.1), (7, .slice k.2.2.2.2.2.1 k.2.2.2.2.1.length k.2.2.2.2.2.2), (28, .int .u64 many), (29, .int .u64 k.1)])
  (fun k w => k.1 ≤ many ∧ k.2.2.2.2.1.length = k.1 ∧ k.2.1.length ≤ bs.length ∧ k.2.1.length ≤ k.2.2.2.1 ∧ (∀ x ∈ k.2.2.2.2.1, x < 18446744073709551616) ∧ G = (getVs (many - k.1) k.2.1).map (fun r => (k.2.2.2.2.1 ++ r.1, r.2)) ∧ Reads w0 l 1 k.2.2.1 k.2.1.length (bytesV k.2.1) ∧ St w0 (OwnU k.2.2.2.2.2.1 k.2.2.2.2.2.2 k.2.2.2.2.1 :: l) w)
  (fun k => many - k.1) (0, bs.drop i, adv sl (i * 1) (Nat.beq c i), c - i, [], none, 0) ⟨rfl, rfl, rfl, rfl, trivial⟩ ⟨Nat.zero_le _, rfl, (by dsimp only; rw [List.length_drop]; omega), (by dsimp only; rw [List.length_drop]; omega), (fun _ h => by cases h), (by rw [← hG]; simp), hrt, St.ownNil _ _ h⟩ ?_
 clear h hrt hr hc
 rintro ⟨j, b, ba, bc, L, oa, oc⟩ w e ⟨hj, hLl, hbl, hc, hL, inv, hr, h⟩
 dsimp only at hj hLl hbl hc hL inv hr h ⊢
 refine c_seq (c_region ?_)
 refine r_v (q_lss rfl rfl) rfl ?_
 refine r_nil ?_
 refine c_seq (c_cond (decide ((j : Int) < (many : Int))) rfl (fun hc1 => ?_) (fun hc1 => ?_))
 ·
  have hlt : j < many := by simp at hc1; omega
  rw [show many - j = (many - (j + 1)) + 1 by omega, getVs] at inv
  have hk2 := vget_le b
  have hx := vget_lt b
  refine c_skip ?_
  refine c_seq (c_block ?_)
  refine c_seq (c_region ?_)
  refine r_v (q_moveS rfl) rfl ?_
  refine r_c rfl (x_call rfl (vint_Get h hr.cons.rd (by omega)) ?_)
  rintro _ w ⟨rfl, h⟩
  refine r_v (q_moveT rfl) rfl ?_; refine r_v (q_ext rfl rfl) rfl ?_; refine r_v (q_ext rfl rfl) rfl ?_; refine r_v (q_assignI rfl) rfl ?_; refine r_v (q_assignI rfl) rfl ?_
  refine r_nil ?_
  generalize (vget b).1 = x at hx inv ⊢
  generalize (vget b).2 = k at hk2 inv ⊢
  refine c_seq (c_seq (c_region ?_))
  refine r_v (q_moveI rfl) rfl ?_; refine r_v (q_eql rfl rfl) rfl ?_
  by_cases hk0 : k = 0
  ·refine r_is (.bool true) (by rw [hk0]; rfl) ?_
   refine r_nil (c_true rfl ?_)
   refine c_seq (c_region ?_)
   refine r_v (q_assignS rfl) rfl ?_; refine r_v (q_assignS rfl) rfl ?_; refine r_v (q_assignB rfl) rfl ?_
   refine r_nil ?_
   rw [if_pos hk0] at inv
   exact c_ret (bq3 (.inl ⟨inv, rfl, h.drop⟩))
  refine r_is (.bool false) (by congr 1; rw [beq_eq_false_iff_ne]; omega) ?_
  refine r_nil (c_false rfl (c_skip ?_))
  rw [if_neg hk0, Option.map_map] at inv
  have hrt := hr.tailB hk2 hc
  refine c_anyW [0, 1, 2, 3, 4, 5, 6, 7, 8] none (fun w => ∃ L, St w0 (L ++ l) w) (by kernel_rfl) (by kernel_rfl) ?_
  replace h := h.drew
  generalize w.drew = w at h
  have hs := h
  replace h : ∃ L, St w0 (L ++ l) w := ⟨[_], hs⟩
  refine cur_pure rfl rfl rfl rfl (fun _ => h) (fun _ => flt_v rfl (q_moveS rfl)) ?_; refine cur_pure rfl rfl rfl rfl (fun _ => h) (fun _ => flt_v rfl (q_moveI rfl)) ?_; refine cur_skip ?_; refine cur_skip ?_; refine cur_pure rfl rfl rfl rfl (fun _ => h) (fun _ => flt_v rfl (q_moveS rfl)) ?_; refine cur_pure rfl rfl rfl rfl (fun _ => h) (fun _ => flt_v rfl (q_moveI rfl)) ?_
  refine cur_pure rfl rfl rfl rfl (fun _ => h) (fun _ => flt_v rfl (q_is (v' := .slice (adv ba (k * 1) (Nat.beq bc k)) (b.drop k).length (bc - k)) (q_tail (i := k) rfl rfl hk2) (by rw [List.length_drop]; rfl))) ?_
  refine cur_skip ?_; refine cur_skip ?_
  refine cur_one 2 rfl rfl rfl rfl ?_
  refine (x_bslice (r := u64V [x]) hs rfl rfl rfl fun b2 w hs => ?_)
  replace h : ∃ L, St w0 (L ++ l) w := ⟨[_, _], hs⟩
  refine ⟨fun _ => h, ?_⟩
  refine cur_skip ?_; refine cur_skip ?_; refine cur_skip ?_
  refine cur_one 3 rfl rfl rfl rfl ?_
  refine (x_append' (ys := u64V [x]) (zs := u64V (L ++ [x])) (m3 := (L ++ [x]).length) (hs.f 1) rfl rfl ⟨rfl, .inr ⟨b2, 0, rfl, at_of (hs.b 0 rfl) rfl⟩⟩ (u64V_one _) (by simp) (by simp [u64V]) (by simp; omega) (by simp; omega) rfl fun a2 c2 w _ hs => ?_)
  replace h : ∃ L, St w0 (L ++ l) w := ⟨[_, _], hs⟩
  refine ⟨fun _ => h, ?_⟩
  refine cur_pure rfl rfl rfl rfl (fun _ => h) (fun _ => flt_v rfl (q_assignS rfl)) ?_; refine cur_pure rfl rfl rfl rfl (fun _ => h) (fun _ => flt_v rfl (q_assignS rfl)) ?_
  refine cur_end ?_
  replace hs := (hs.f 1).drop
  refine c_region ?_
  refine r_v (q_add rfl rfl) rfl ?_
  refine r_is (.int .u64 ((j + 1 : Nat) : Int)) (congrArg (Value.int .u64) (conv_nat (x := j + 1) (by omega))) ?_
  refine r_v (q_moveI rfl) rfl ?_
  refine r_nil ⟨(j + 1, b.drop k, adv ba (k * 1) (Nat.beq bc k), bc - k, L ++ [x], a2, c2), ⟨rfl, rfl, rfl, rfl, trivial⟩, ⟨hlt, by simp; omega, by dsimp only; rw [List.length_drop]; omega, by dsimp only; rw [List.length_drop]; omega, fun z hz => ?_, ?_, hrt, hs⟩, by dsimp only; omega⟩
  ·rcases List.mem_append.1 hz with hz | hz
   ·exact hL z hz
   ·simp at hz; subst hz; exact hx
  ·dsimp only
   rw [inv]
   congr 1
   funext r
   simp
 have hjm : j = many := by simp at hc1; omega
 rw [hjm, Nat.sub_self, getVs, Option.map_some, List.append_nil] at inv
 refine c_exit ?_
 refine c_seq (c_region ?_)
 refine r_v (q_moveS rfl) rfl ?_; refine r_v (q_moveS rfl) rfl ?_; refine r_v (q_assignS rfl) rfl ?_; refine r_v (q_assignS rfl) rfl ?_; refine r_v (q_assignB rfl) rfl ?_
 refine r_nil ?_
 exact c_ret (bq3 (.inr ⟨L, b, oa, oc, ba, bc, inv, rfl, by omega, by omega, hL, hbl, hr, h⟩))

theorem dict_Decode {sl : Option Addr} {c : Nat} {bs : List UInt8} {n : Nat} (hn : n ≤ 65535) (hbn : bs.length ≤ 140737488355328) (hc : bs.length ≤ c) (hr : Reads w0 l 1 sl bs.length (bytesV bs)) (h : St w0 l w) :
  Ret Tryz.prog 90 [.slice sl bs.length c, .int .i64 (n : Int)] w fun v w' => Told w0 l n (dictDec bs n) v w' := by
 have hdef := dictDec_bind bs n
 refine enter Tryz.func90 rfl Tryz.results90 Tryz.ntmps90 rfl ?_
 refine c_seq (c_region ?_)
 refine r_v (q_assignS rfl) rfl ?_; refine r_v (q_assignB rfl) rfl ?_
 refine r_nil ?_
 refine c_seq (c_region ?_)
 refine r_v (q_moveI rfl) rfl ?_; refine r_v (q_max rfl rfl) rfl ?_; refine r_v (q_min rfl rfl) rfl ?_
 refine r_is (.int .i64 (n : Int)) (by congr 1; omega) ?_
 refine r_v (q_assignI rfl) rfl ?_
 refine r_nil ?_
 refine c_seq (c_seq (c_region ?_))
 refine r_v (q_moveI rfl) rfl ?_; refine r_v (q_eql rfl rfl) rfl ?_
 by_cases hn0 : n = 0
 ·refine r_is (.bool true) (by rw [hn0]; rfl) ?_
  refine r_nil (c_true rfl ?_)
  refine c_seq (c_region ?_)
  refine r_v (q_moveS rfl) rfl ?_; refine r_v (q_len rfl) rfl ?_; refine r_v (q_eql rfl rfl) rfl ?_
  refine r_is (.bool (decide (bs = []))) (by congr 1; rw [Bool.eq_iff_iff]; simp) ?_
  refine r_v (q_assignS rfl) rfl ?_; refine r_v (q_assignB rfl) rfl ?_
  refine r_nil ?_
  rw [if_pos hn0] at hdef
  refine c_ret (bq2 ⟨none, 0, [], decide (bs = []), rfl, ?_, fun _ => ⟨hn0.symm, (fun _ h => by cases h)⟩, St.ownNil _ _ h⟩)
  rw [hdef]
  by_cases hb : bs = []
  ·rw [if_pos hb, decide_eq_true hb, if_pos rfl]
  ·rw [if_neg hb, decide_eq_false hb, if_neg (by decide)]
 refine r_is (.bool false) (by congr 1; rw [beq_eq_false_iff_ne]; omega) ?_
 refine r_nil (c_false rfl (c_skip ?_))
 rw [if_neg hn0] at hdef
 refine c_seq (c_region ?_)
 refine r_v (q_moveS rfl) rfl ?_
 refine r_c rfl (x_call rfl (dict_values hbn hc hr h) ?_)
 clear h
 rintro _ w (⟨hv, rfl, h⟩ | ⟨L, rest, la, lc, ra, rc, hv, rfl, hL0, hL256, hLlt, hrl, hrr, h⟩)
 ·refine r_v (q_moveT rfl) rfl ?_; refine r_v (q_ext rfl rfl) rfl ?_; refine r_v (q_ext rfl rfl) rfl ?_; refine r_v (q_ext rfl rfl) rfl ?_; refine r_v (q_assignS rfl) rfl ?_; refine r_v (q_assignS rfl) rfl ?_; refine r_v (q_assignB rfl) rfl ?_
  refine r_nil ?_
  refine c_seq (c_seq (c_region ?_))
  refine r_v (q_moveB rfl) rfl ?_; refine r_v (q_not rfl) rfl ?_
  refine r_nil (c_true rfl ?_)
  refine c_seq (c_region ?_)
  refine r_v (q_assignS rfl) rfl ?_; refine r_v (q_assignB rfl) rfl ?_
  refine r_nil ?_
  refine c_ret (bq2 (Told.no ?_ h))
  rw [hdef]
  split at hv
  ·rename_i hh; rw [if_pos hh]
  ·rename_i hh; rw [if_neg hh, hv]
 have hdef : dictDec bs n = match (getAll n (len64 (L.length - 1)) ⟨bitsB rest, false⟩).bind (pickAll L) with
   | none => none
   | some out => if dictEnc out = some bs then some out else none := by
  rw [hdef]
  split at hv
  ·cases hv
  ·rename_i hh; rw [if_neg hh, hv]
 refine r_v (q_moveT rfl) rfl ?_; refine r_v (q_ext rfl rfl) rfl ?_; refine r_v (q_ext rfl rfl) rfl ?_; refine r_v (q_ext rfl rfl) rfl ?_; refine r_v (q_assignS rfl) rfl ?_; refine r_v (q_assignS rfl) rfl ?_; refine r_v (q_assignB rfl) rfl ?_
 refine r_nil ?_
 refine c_seq (c_seq (c_region ?_))
 refine r_v (q_moveB rfl) rfl ?_; refine r_v (q_not rfl) rfl ?_
 refine r_nil (c_false rfl (c_skip ?_))
 refine c_seq (c_region ?_)
 refine r_v (q_moveS rfl) rfl ?_
 refine r_c rfl (x_call rfl (bits_NewReader h hrr.cons.rd (by omega)) ?_)
 rintro _ w ⟨p, rfl, h⟩
 refine r_v (q_assignP rfl) rfl ?_
 refine r_nil ?_
 refine c_seq (c_region ?_)
 refine r_v (q_assignS rfl) rfl ?_
 refine r_nil ?_
 refine c_seq (c_seq (c_region ?_))
 refine r_v (q_moveI rfl) rfl ?_; refine r_v (q_moveI rfl) rfl ?_
 refine r_nil ?_
 have hwide : len64 (L.length - 1) ≤ 64 := len64_64 (by omega)
 generalize hwd : len64 (L.length - 1) = wide at hwide hdef
 generalize (⟨bitsB rest, false⟩ : RS) = s0 at h hdef
 refine c_block ?_
 refine c_loop (Γ := Nat × List Nat × RS × Option Addr × Nat) (fun k => [(0, .slice sl bs.length c), (6, .slice la L.length lc), (9, .pointer (some ⟨p, 0, none⟩)), (10, .slice k.2.2.2.1 k.2.1.length k.2.2.2.2), (32, .int .i64 n), (33, .int .i64 k.1)])
  (fun k w => k.1 ≤ n ∧ k.2.1.length = k.1 ∧ (∀ x ∈ k.2.1, x < 18446744073709551616) ∧ (getAll n wide s0).bind (pickAll L) = ((getAll (n - k.1) wide k.2.2.1).bind (pickAll L)).map (fun r => k.2.1 ++ r) ∧ St w0 (OwnU k.2.2.2.1 k.2.2.2.2 k.2.1 :: IsBR p k.2.2.1 :: OwnU la lc L :: l) w)
  (fun k => n - k.1) (0, [], s0, none, 0) ⟨rfl, rfl, rfl, rfl, rfl, rfl, trivial⟩ ⟨Nat.zero_le _, rfl, (fun _ h => by cases h), (by simp), St.ownNil _ _ h⟩ ?_
 clear h
 rintro ⟨j, out, s1, oa, oc⟩ w e ⟨hj, hol, hout, inv, h⟩
 dsimp only at hj hol hout inv h ⊢
 refine c_seq (c_region ?_)
 refine r_v (q_lss rfl rfl) rfl ?_
 refine r_nil ?_
 refine c_seq (c_cond (decide ((j : Int) < (n : Int))) rfl (fun hc1 => ?_) (fun hc1 => ?_))
 ·
  have hlt : j < n := by simp at hc1; omega
  rw [show n - j = (n - (j + 1)) + 1 by omega, pickRun] at inv
  refine c_skip ?_
  refine c_seq (c_block ?_)
  refine c_seq (c_region ?_)
  refine r_v (q_moveP rfl) rfl ?_; refine r_v (q_moveS rfl) rfl ?_; refine r_v (q_len rfl) rfl ?_; refine r_v (q_sub rfl rfl) rfl ?_
  refine r_is (.int .i64 ((L.length - 1 : Nat) : Int)) (by rw [wrap64 (by omega) (by omega)]; congr 1; omega) ?_
  refine r_v (q_conv rfl) rfl ?_
  refine r_is (.int .u64 ((L.length - 1 : Nat) : Int)) (congrArg (Value.int .u64) (conv_nat (by omega))) ?_
  refine r_c rfl (x_call rfl (mb_Len (by omega) h) ?_)
  rintro _ w ⟨rfl, h⟩
  rw [hwd]
  refine r_c rfl (x_call rfl (bits_Get wide (h.f 1)) ?_)
  rw [heldN_nat hwide]
  have hylt := RS.get_lt s1 wide
  have hp64 : 2 ^ wide ≤ 18446744073709551616 := Nat.pow_le_pow_right (by decide) hwide
  cases hgg : s1.get wide with | mk y s2 =>
  rw [hgg] at inv hylt
  rintro _ w ⟨rfl, h⟩
  dsimp only at h inv hylt ⊢
  refine r_v (q_assignI rfl) rfl ?_
  refine r_nil ?_
  refine c_cut (Γ := Unit) (fun _ => [(0, .slice sl bs.length c), (6, .slice la L.length lc), (9, .pointer (some ⟨p, 0, none⟩)), (10, .slice oa out.length oc), (11, .int .u64 y), (32, .int .i64 n), (33, .int .i64 j)])
   (fun _ w => s2.bad = false ∧ y < L.length ∧ St w0 (IsBR p s2 :: OwnU oa oc out :: OwnU la lc L :: l) w) ?_ ?_
  ·refine c_seq (c_region ?_)
   refine r_v (q_moveP rfl) rfl ?_
   refine r_c rfl (x_call rfl (bits_Ok h) ?_)
   rintro _ w ⟨rfl, h⟩
   cases hbd : s2.bad with
   | true =>
    refine r_v (q_not rfl) rfl ?_; refine r_v (q_moveB rfl) rfl ?_; refine r_gn rfl rfl rfl ?_; refine r_gn rfl rfl rfl ?_; refine r_gn rfl rfl rfl ?_; refine r_gn rfl rfl rfl ?_; refine r_gn rfl rfl rfl ?_; refine r_v (q_pick1 rfl rfl rfl) rfl ?_
    refine r_nil (c_true rfl ?_)
    refine c_seq (c_region ?_)
    refine r_v (q_assignS rfl) rfl ?_; refine r_v (q_assignB rfl) rfl ?_
    refine r_nil ?_
    rw [hbd, if_pos rfl] at inv
    exact c_ret (bq2 (Told.no (by rw [hdef, inv]; rfl) h.drop.drop.drop))
   | false =>
    rw [hbd, if_neg (by decide)] at inv
    refine r_v (q_not rfl) rfl ?_; refine r_v (q_moveB rfl) rfl ?_; refine r_gd rfl rfl ?_; refine r_v (q_moveI rfl) rfl ?_; refine r_gd rfl rfl ?_; refine r_v (q_moveS rfl) rfl ?_; refine r_gd rfl rfl ?_; refine r_v (q_len rfl) rfl ?_; refine r_gd rfl rfl ?_
    refine r_v (q_is (v' := .int .u64 ((L.length : Nat) : Int)) (q_conv rfl) (congrArg (Value.int .u64) (conv_nat (by omega)))) rfl ?_
    refine r_gd rfl rfl ?_; refine r_v (q_geq rfl rfl) rfl ?_; refine r_v (q_pick0 rfl rfl rfl) rfl ?_
    refine r_nil (c_cond (decide ((y : Int) ≥ (L.length : Int))) rfl (fun hc2 => ?_) (fun hc2 => ?_))
    ·refine c_seq (c_region ?_)
     refine r_v (q_assignS rfl) rfl ?_; refine r_v (q_assignB rfl) rfl ?_
     refine r_nil ?_
     rw [List.getElem?_eq_none (by rw [decide_eq_true_eq] at hc2; omega)] at inv
     exact c_ret (bq2 (Told.no (by rw [hdef, inv]; rfl) h.drop.drop.drop))
    ·exact c_skip ⟨(), ⟨rfl, rfl, rfl, rfl, rfl, rfl, rfl, trivial⟩, rfl, by rw [decide_eq_false_iff_not] at hc2; omega, h⟩
  clear h
  rintro _ w e ⟨hbd, hyL, h⟩
  have hg := List.getElem?_eq_getElem hyL
  generalize L[y] = x at hg
  have hx := hLlt x (List.mem_of_getElem? hg)
  rw [hbd, if_neg (by decide), hg] at inv
  dsimp only at inv
  rw [Option.map_map] at inv
  obtain ⟨lb, hlsl⟩ := (h.f 2).own_some hL0
  refine c_region ?_
  refine r_v (q_moveS rfl) rfl ?_; refine r_v (q_moveS rfl) rfl ?_; refine r_v (q_moveI rfl) rfl ?_
  refine r_v (q_idx (b := lb) (o := 0) (m := L.length) (c := lc) (o' := y) (by rw [← hlsl]; rfl) rfl rfl hyL (by simp)) rfl ?_
  refine r_v (q_loadc (v := .int .u64 x) rfl (by have := (hlsl ▸ (h.f 2).own_rd).cell (u64V_get hg); simpa using this)) rfl ?_
  refine r_c rfl (x_bslice (r := u64V [x]) h rfl rfl rfl fun b2 w h => ?_)
  refine r_c rfl (x_append' (ys := u64V [x]) (zs := u64V (out ++ [x])) (m3 := (out ++ [x]).length) (h.f 2) rfl rfl ⟨rfl, .inr ⟨b2, 0, rfl, at_of (h.b 0 rfl) rfl⟩⟩ (u64V_one _) (by simp) (by simp [u64V]) (by simp; omega) (by simp; omega) rfl fun a2 c2 w _ h => ?_)
  refine r_v (q_assignS rfl) rfl ?_
  refine r_nil ?_
  refine c_region ?_
  refine r_v (q_add rfl rfl) rfl ?_
  refine r_is (.int .i64 ((j + 1 : Nat) : Int)) (by rw [wrap64 (by omega) (by omega)]; rfl) ?_
  refine r_v (q_moveI rfl) rfl ?_
  refine r_nil ⟨(j + 1, out ++ [x], s2, a2, c2), ⟨rfl, rfl, rfl, rfl, rfl, rfl, trivial⟩, ⟨hlt, by simp; omega, fun z hz => ?_, ?_, ?_⟩, by dsimp only; omega⟩
  ·rcases List.mem_append.1 hz with hz | hz
   ·exact hout z hz
   ·simp at hz; subst hz; exact hx
  ·dsimp only
   rw [inv]
   congr 1
   funext r
   simp
  ·exact (h.f 1).drop
 have hjn : j = n := by simp at hc1; omega
 rw [hjn, Nat.sub_self, getAll, Option.bind_some, pickAll, Option.map_some, List.append_nil] at inv
 rw [inv] at hdef
 dsimp only at hdef
 refine c_exit ?_
 refine c_seq (c_region ?_)
 refine r_v (q_moveS rfl) rfl ?_
 refine r_c rfl (x_call rfl (dict_Encode hout (by omega) Reads.own h) ?_)
 rintro _ w ⟨ea, ec, rfl, h⟩
 refine r_v (q_moveT rfl) rfl ?_; refine r_v (q_ext rfl rfl) rfl ?_; refine r_v (q_ext rfl rfl) rfl ?_; refine r_v (q_assignS rfl) rfl ?_; refine r_v (q_assignB rfl) rfl ?_
 refine r_nil ?_
 refine c_cut (Γ := Unit) (fun _ => [(10, .slice oa out.length oc)]) (fun _ w => dictEnc out = some bs ∧ St w0 (OwnU oa oc out :: l) w) ?_ ?_
 ·refine c_seq (c_region ?_)
  cases hE : dictEnc out with
  | none =>
   refine r_v (q_moveB rfl) rfl ?_; refine r_v (q_not rfl) rfl ?_; refine r_v (q_moveB rfl) rfl ?_; refine r_gn rfl rfl rfl ?_; refine r_gn rfl rfl rfl ?_; refine r_gn rfl rfl rfl ?_; refine r_gn rfl rfl rfl ?_; refine r_v (q_pick1 rfl rfl rfl) rfl ?_
   refine r_nil (c_true rfl ?_)
   refine c_seq (c_region ?_)
   refine r_v (q_assignS rfl) rfl ?_; refine r_v (q_assignB rfl) rfl ?_
   refine r_nil ?_
   exact c_ret (bq2 (Told.no (by rw [hdef, if_neg]; rw [hE]; simp) h.drop.drop.drop.drop))
  | some d =>
   rw [hE] at h
   refine r_v (q_moveB rfl) rfl ?_; refine r_v (q_not rfl) rfl ?_; refine r_v (q_moveB rfl) rfl ?_; refine r_gd rfl rfl ?_; refine r_v (q_moveS rfl) rfl ?_; refine r_gd rfl rfl ?_; refine r_v (q_moveS rfl) rfl ?_; refine r_gd rfl rfl ?_
   refine r_c rfl (x_call rfl (bytes_Equal (b1 := d) (b2 := bs) h (fun w' h' => h'.own_rd) (hr.more [_, _, _, _]).rd) ?_)
   rintro _ w ⟨rfl, h⟩
   refine r_gd rfl rfl ?_; refine r_v (q_not rfl) rfl ?_; refine r_v (q_pick0 rfl rfl rfl) rfl ?_
   refine r_nil (c_cond (!decide (d = bs)) rfl (fun hc2 => ?_) (fun hc2 => ?_))
   ·refine c_seq (c_region ?_)
    refine r_v (q_assignS rfl) rfl ?_; refine r_v (q_assignB rfl) rfl ?_
    refine r_nil ?_
    exact c_ret (bq2 (Told.no (by rw [hdef, if_neg]; rw [hE]; simpa using hc2) h.drop.drop.drop.drop))
   ·exact c_skip ⟨(), ⟨rfl, trivial⟩, by simpa using hc2, ((h.drop.f 1).drop.f 1).drop⟩
 clear h
 rintro _ w e ⟨hE, h⟩
 refine c_seq (c_region ?_)
 refine r_v (q_moveS rfl) rfl ?_; refine r_v (q_assignS rfl) rfl ?_; refine r_v (q_assignB rfl) rfl ?_
 refine r_nil ?_
 exact c_ret (bq2 ⟨oa, oc, out, true, rfl, by rw [hdef, if_pos hE]; rfl, fun _ => ⟨by omega, hout⟩, h⟩)
end
end Go.Proofs.YtjjacchnalemaaaGreatDoor

/- suit.read: one value. -/
namespace Go.Proofs.YtjjacchnalemaaaGreatDoor
open Go.Hw
set_option maxHeartbeats 4000000
set_option maxRecDepth 100000
theorem read_6 : ReadOk 6 := by
 intro w0 w l sl c bs n hT hr hn hc hn16 h
 have hx := vget_lt bs
 have hdef : valuesDec 6 bs n = some (List.replicate n (vget bs).1) := rfl
 refine enter Tryz.func46 rfl Tryz.results46 Tryz.ntmps46 rfl ?_
 refine c_seq (c_region ?_)
 refine r_v (q_assignS rfl) rfl ?_; refine r_v (q_assignB rfl) rfl ?_
 refine r_nil ?_
 refine c_seq (c_seq (c_region ?_))
 refine r_v (q_moveI rfl) rfl ?_
 refine r_nil ?_
 refine c_block ?_
 refine c_seq (c_region ?_)
 refine r_v (q_eql rfl rfl) rfl ?_; refine r_v (q_assignB rfl) rfl ?_
 refine r_nil (c_false rfl ?_)
 refine c_seq (c_region ?_)
 refine r_v (q_eql rfl rfl) rfl ?_; refine r_v (q_assignB rfl) rfl ?_
 refine r_nil (c_false rfl ?_)
 refine c_seq (c_region ?_)
 refine r_v (q_eql rfl rfl) rfl ?_; refine r_v (q_assignB rfl) rfl ?_
 refine r_nil (c_false rfl ?_)
 refine c_seq (c_region ?_)
 refine r_v (q_eql rfl rfl) rfl ?_; refine r_v (q_assignB rfl) rfl ?_
 refine r_nil (c_false rfl ?_)
 refine c_seq (c_region ?_)
 refine r_v (q_eql rfl rfl) rfl ?_; refine r_v (q_assignB rfl) rfl ?_
 refine r_nil (c_false rfl ?_)
 refine c_seq (c_region ?_)
 refine r_v (q_eql rfl rfl) rfl ?_; refine r_v (q_assignB rfl) rfl ?_
 refine r_nil (c_true rfl ?_)
 refine c_seq (c_region ?_)
 refine r_v (q_moveS rfl) rfl ?_
 refine r_c rfl (x_call rfl (vint_Get h hr.rd hn) ?_)
 rintro _ w ⟨rfl, h⟩
 refine r_v (q_moveT rfl) rfl ?_; refine r_v (q_ext rfl rfl) rfl ?_; refine r_v (q_ext rfl rfl) rfl ?_; refine r_v (q_assignI rfl) rfl ?_; refine r_v (q_assignI rfl) rfl ?_
 refine r_nil ?_
 generalize (vget bs).1 = x at hx hdef ⊢
 refine c_seq (c_region ?_)
 refine r_v (q_assignS rfl) rfl ?_
 refine r_nil ?_
 refine c_seq (c_seq (c_region ?_))
 refine r_v (q_moveI rfl) rfl ?_; refine r_v (q_moveI rfl) rfl ?_
 refine r_nil ?_
 refine c_block ?_
 refine c_loop (Γ := Nat × Option Addr × Nat) (fun k => [(12, .int .u64 x), (14, .slice k.2.1 (List.replicate k.1 x).length k.2.2), (71, .int .i64 n), (72, .int .i64 k.1)]) (fun k w => k.1 ≤ n ∧ St w0 (OwnU k.2.1 k.2.2 (List.replicate k.1 x) :: l) w) (fun k => n - k.1) (0, none, 0) ⟨rfl, rfl, rfl, rfl, trivial⟩ ⟨Nat.zero_le _, St.ownNil _ _ h⟩ ?_
 clear h
 rintro ⟨i, a, c1⟩ w e ⟨hi, h⟩
 dsimp only at hi h ⊢
 refine c_seq (c_region ?_)
 refine r_v (q_lss rfl rfl) rfl ?_
 refine r_nil ?_
 refine c_seq (c_cond (decide ((i : Int) < (n : Int))) rfl (fun hc1 => ?_) (fun hc1 => ?_))
 ·
  have hlt : i < n := by simp at hc1; omega
  have hstep : List.replicate (i + 1) x = List.replicate i x ++ [x] := List.replicate_succ'
  refine c_skip ?_
  refine c_cut (Γ := Option Addr × Nat) (fun q => [(12, .int .u64 x), (14, .slice q.1 (List.replicate (i + 1) x).length q.2), (71, .int .i64 n), (72, .int .i64 i)]) (fun q w => St w0 (OwnU q.1 q.2 (List.replicate (i + 1) x) :: l) w) ?_ ?_
  ·refine c_block ?_
   refine c_region ?_
   refine r_v (q_moveS rfl) rfl ?_; refine r_v (q_moveI rfl) rfl ?_
   refine r_c rfl (x_bslice (r := u64V [x]) h rfl rfl rfl fun b2 w h => ?_)
   refine r_c rfl (x_append' (ys := u64V [x]) (zs := u64V (List.replicate (i + 1) x)) (m3 := (List.replicate (i + 1) x).length) (h.f 1) rfl rfl ⟨rfl, .inr ⟨b2, 0, rfl, at_of (h.b 0 rfl) rfl⟩⟩ (u64V_one _) (by simp) (by rw [hstep]; simp [u64V]) (by simp; omega) (by simp; omega) rfl fun a2 c2 w _ h => ?_)
   refine r_v (q_assignS rfl) rfl ?_
   exact r_nil ⟨(a2, c2), ⟨rfl, rfl, rfl, rfl, trivial⟩, (h.f 1).drop⟩
  clear h
  rintro ⟨a, c1⟩ w e h
  dsimp only at h ⊢
  refine c_region ?_
  refine r_v (q_add rfl rfl) rfl ?_
  refine r_is (.int .i64 ((i + 1 : Nat) : Int)) (by rw [wrap64 (by omega) (by omega)]; rfl) ?_
  refine r_v (q_moveI rfl) rfl ?_
  exact r_nil ⟨(i + 1, a, c1), ⟨rfl, rfl, rfl, rfl, trivial⟩, ⟨hlt, h⟩, by dsimp only; omega⟩
 have hin : i = n := by simp at hc1; omega
 refine c_exit ?_
 refine c_seq (c_region ?_)
 refine r_v (q_moveS rfl) rfl ?_; refine r_v (q_assignS rfl) rfl ?_; refine r_v (q_assignB rfl) rfl ?_
 refine r_nil ?_
 refine c_ret (bq2 ⟨a, c1, List.replicate i x, true, rfl, ?_, fun _ => ⟨by simp [hin], fun y hy => ?_⟩, h⟩)
 ·rw [if_pos rfl, hin]; exact hdef
 ·rw [(List.mem_replicate.1 hy).2]; exact hx
end Go.Proofs.YtjjacchnalemaaaGreatDoor

/- suit.read: any codec's bytes. -/
namespace Go.Proofs.YtjjacchnalemaaaGreatDoor
open Go.Hw
set_option maxHeartbeats 4000000
set_option maxRecDepth 100000
theorem suit_read (tag : Int) : ReadOk tag := by
 intro w0 w l sl c bs n hT hr hn hc hn16 h
 by_cases n6 : tag = 6
 ·subst n6; exact read_6 hT hr hn hc hn16 h
 have hdef : valuesDec tag bs n = _ := rfl
 conv at hdef => rhs; unfold valuesDec
 rw [if_neg n6] at hdef
 refine enter Tryz.func46 rfl Tryz.results46 Tryz.ntmps46 rfl ?_
 refine c_seq (c_region ?_)
 refine r_v (q_assignS rfl) rfl ?_; refine r_v (q_assignB rfl) rfl ?_
 refine r_nil ?_
 refine c_seq (c_seq (c_region ?_))
 refine r_v (q_moveI rfl) rfl ?_
 refine r_nil ?_
 refine c_block ?_
 refine c_seq (c_region ?_)
 refine r_v (q_eql rfl rfl) rfl ?_; refine r_v (q_assignB rfl) rfl ?_
 refine r_nil (c_cond (tag == 1) rfl (fun h1 => ?_) (fun h1 => ?_))
 ·rw [beq_iff_eq] at h1
  rw [if_pos h1] at hdef
  refine c_seq (c_region ?_)
  refine r_v (q_moveS rfl) rfl ?_
  refine r_c rfl (x_call rfl (bits_NewReader h hr.rd hn) ?_)
  rintro _ w ⟨p, rfl, h⟩
  refine r_v (q_moveI rfl) rfl ?_
  refine r_c rfl (x_call rfl (xorv_Decode hT hn16 h) ?_)
  rintro _ w ⟨a, c', xs, b, rfl, hd, hb, s', h⟩
  refine r_v (q_ext rfl rfl) rfl ?_; refine r_v (q_ext rfl rfl) rfl ?_; refine r_v (q_assignS rfl) rfl ?_; refine r_v (q_assignB rfl) rfl ?_
  refine r_nil ?_
  exact c_ret (bq2 ⟨a, c', xs, b, rfl, by rw [hdef, hd], hb, (h.f 1).drop⟩)
 rw [beq_eq_false_iff_ne] at h1
 rw [if_neg h1] at hdef
 refine c_seq (c_region ?_)
 refine r_v (q_eql rfl rfl) rfl ?_; refine r_v (q_assignB rfl) rfl ?_
 refine r_nil (c_cond (tag == 2) rfl (fun h2 => ?_) (fun h2 => ?_))
 ·rw [beq_iff_eq] at h2
  rw [if_pos h2] at hdef
  refine c_seq (c_region ?_)
  refine r_v (q_moveS rfl) rfl ?_
  refine r_c rfl (x_call rfl (suit_words hn hr h) ?_)
  rintro _ w ⟨wa, wc, rfl, hw1, hw2, h⟩
  refine r_v (q_moveT rfl) rfl ?_; refine r_v (q_ext rfl rfl) rfl ?_; refine r_v (q_ext rfl rfl) rfl ?_; refine r_v (q_assignS rfl) rfl ?_; refine r_v (q_assignB rfl) rfl ?_
  refine r_nil ?_
  refine c_seq (c_region ?_)
  refine r_v (q_moveS rfl) rfl ?_; refine r_v (q_moveI rfl) rfl ?_
  refine r_c rfl (x_call rfl (simp_Decode hw1 (by omega) hn16 Reads.own h) ?_)
  rintro _ w ⟨xa, xc, xs, b, rfl, hd, hb, hb', h⟩
  refine r_v (q_moveT rfl) rfl ?_; refine r_v (q_ext rfl rfl) rfl ?_; refine r_v (q_ext rfl rfl) rfl ?_; refine r_v (q_assignS rfl) rfl ?_; refine r_v (q_assignB rfl) rfl ?_
  refine r_nil ?_
  have hxl : xs.length ≤ 65535 ∧ ∀ x ∈ xs, x < 18446744073709551616 := by
   cases b with
   | true => obtain ⟨g1, g2⟩ := hb rfl; exact ⟨by omega, g2⟩
   | false => rw [hb' rfl]; exact ⟨Nat.zero_le _, fun _ h => by cases h⟩
  refine c_seq (c_region ?_)
  refine r_v (q_moveS rfl) rfl ?_
  refine r_c rfl (x_call rfl (suit_sums hxl.2 hxl.1 Reads.own h) ?_)
  rintro _ w ⟨sa, sc, rfl, hs, h⟩
  replace h := ((h.f 1).drop.f 1).drop
  have hsl := sumsL_len xs 0
  by_cases h8 : bs.length % 8 = 0
  ·rw [if_pos h8, hd] at hdef
   rw [decide_eq_true h8]
   refine r_v (q_moveB rfl) rfl ?_; refine r_v (q_moveB rfl) rfl ?_; refine r_gd rfl rfl ?_; refine r_v (q_moveB rfl) rfl ?_; refine r_v (q_pick1 rfl rfl rfl) rfl ?_; refine r_v (q_assignS rfl) rfl ?_; refine r_v (q_assignB rfl) rfl ?_
   refine r_nil ?_
   refine c_ret (bq2 ⟨sa, sc, sumsL 0 xs, b, rfl, ?_, fun hbt => ⟨by rw [hsl]; exact (hb hbt).1, hs⟩, h⟩)
   rw [hdef]
   cases b <;> rfl
  ·rw [if_neg h8] at hdef
   rw [decide_eq_false h8]
   refine r_v (q_moveB rfl) rfl ?_; refine r_v (q_moveB rfl) rfl ?_; refine r_gn rfl rfl rfl ?_; refine r_v (q_pick0 rfl rfl rfl) rfl ?_; refine r_v (q_assignS rfl) rfl ?_; refine r_v (q_assignB rfl) rfl ?_
   refine r_nil ?_
   exact c_ret (bq2 ⟨sa, sc, sumsL 0 xs, false, rfl, hdef, (fun h => by cases h), h⟩)
 rw [beq_eq_false_iff_ne] at h2
 rw [if_neg h2] at hdef
 refine c_seq (c_region ?_)
 refine r_v (q_eql rfl rfl) rfl ?_; refine r_v (q_assignB rfl) rfl ?_
 refine r_nil (c_cond (tag == 3) rfl (fun h3 => ?_) (fun h3 => ?_))
 ·rw [beq_iff_eq] at h3
  rw [if_pos h3] at hdef
  refine c_seq (c_region ?_)
  refine r_v (q_moveS rfl) rfl ?_; refine r_v (q_moveI rfl) rfl ?_
  refine r_c rfl (x_call rfl (runl_Decode hn16 hn hc hr h) ?_)
  rintro _ w ⟨a, c', xs, b, rfl, hd, hb, h⟩
  refine r_v (q_ext rfl rfl) rfl ?_; refine r_v (q_ext rfl rfl) rfl ?_; refine r_v (q_assignS rfl) rfl ?_; refine r_v (q_assignB rfl) rfl ?_
  refine r_nil ?_
  exact c_ret (bq2 ⟨a, c', xs, b, rfl, by rw [hdef, hd], hb, h⟩)
 rw [beq_eq_false_iff_ne] at h3
 rw [if_neg h3] at hdef
 refine c_seq (c_region ?_)
 refine r_v (q_eql rfl rfl) rfl ?_; refine r_v (q_assignB rfl) rfl ?_
 refine r_nil (c_cond (tag == 4) rfl (fun h4 => ?_) (fun h4 => ?_))
 ·rw [beq_iff_eq] at h4
  rw [if_pos h4] at hdef
  refine c_seq (c_region ?_)
  refine r_v (q_moveS rfl) rfl ?_; refine r_v (q_moveI rfl) rfl ?_
  refine r_c rfl (x_call rfl (forp_Decode hn16 hn hc hr h) ?_)
  rintro _ w ⟨a, c', xs, b, rfl, hd, hb, h⟩
  refine r_v (q_ext rfl rfl) rfl ?_; refine r_v (q_ext rfl rfl) rfl ?_; refine r_v (q_assignS rfl) rfl ?_; refine r_v (q_assignB rfl) rfl ?_
  refine r_nil ?_
  exact c_ret (bq2 ⟨a, c', xs, b, rfl, by rw [hdef, hd], hb, h⟩)
 rw [beq_eq_false_iff_ne] at h4
 rw [if_neg h4] at hdef
 refine c_seq (c_region ?_)
 refine r_v (q_eql rfl rfl) rfl ?_; refine r_v (q_assignB rfl) rfl ?_
 refine r_nil (c_cond (tag == 5) rfl (fun h5 => ?_) (fun h5 => ?_))
 ·rw [beq_iff_eq] at h5
  rw [if_pos h5] at hdef
  refine c_seq (c_region ?_)
  refine r_v (q_moveS rfl) rfl ?_; refine r_v (q_moveI rfl) rfl ?_
  refine r_c rfl (x_call rfl (dict_Decode hn16 hn hc hr h) ?_)
  rintro _ w ⟨a, c', xs, b, rfl, hd, hb, h⟩
  refine r_v (q_ext rfl rfl) rfl ?_; refine r_v (q_ext rfl rfl) rfl ?_; refine r_v (q_assignS rfl) rfl ?_; refine r_v (q_assignB rfl) rfl ?_
  refine r_nil ?_
  exact c_ret (bq2 ⟨a, c', xs, b, rfl, by rw [hdef, hd], hb, h⟩)
 rw [beq_eq_false_iff_ne] at h5
 rw [if_neg h5] at hdef
 refine c_seq (c_region ?_)
 refine r_v (q_eql rfl rfl) rfl ?_; refine r_v (q_assignB rfl) rfl ?_
 refine r_is (.bool false) (by congr 1; rw [beq_eq_false_iff_ne]; exact n6) ?_
 refine r_nil (c_false rfl (c_skip ?_))
 refine c_seq (c_region ?_)
 refine r_v (q_assignS rfl) rfl ?_; refine r_v (q_assignB rfl) rfl ?_
 refine r_nil ?_
 exact c_ret (bq2 ⟨none, 0, [], false, rfl, hdef, (fun h => by cases h), St.ownNil _ _ h⟩)
end Go.Proofs.YtjjacchnalemaaaGreatDoor

namespace Go.Hw
section
variable {P : Program} {e : Env} {w : World} {φ : Value → World → Prop}
theorem bqS3 {a c d : Tmp} {t : TypeId} {z : List Value} {bytes : Nat} [hi : Inf P t z true bytes] {b o : Nat} {l : List Value} (hx : e a = .pointer (some ⟨b, o, none⟩)) (hz : Nat.beq z.length l.length = true) (hl : At w b o l) (h : φ (.tuple [.agg l.toArray, e c, e d].toArray) w) :
  bq P [.cell a t, .tmp c, .tmp d] φ .ret e w := ⟨_, run_loadVarS hx (Nat.eq_of_beq_eq_true hz) hl, h⟩
end
def hdC (h : Hd) : List Value := [.int .i64 h.tag, .int .i64 h.count, .int .i64 h.f, .int .i64 h.t]
def hdZ : List Value := [.int .i64 0, .int .i64 0, .int .i64 0, .int .i64 0]
theorem u64V_set3 {vals : List Nat} {k : Nat} (hk : vals.length = k) (h3 : k < 3) (x : Nat) : (u64V (vals ++ List.replicate (3 - k) 0)).set k (.int .u64 (x : Int)) = u64V ((vals ++ [x]) ++ List.replicate (3 - (k + 1)) 0) := by
 have e : 3 - k = (3 - (k + 1)) + 1 := by omega
 have hl : (u64V vals).length = k := by simp [u64V, hk]
 have e1 : u64V (vals ++ List.replicate (3 - k) 0) = u64V vals ++ (.int .u64 (0 : Nat)) :: u64V (List.replicate (3 - (k + 1)) 0) := by
  unfold u64V
  rw [e, List.replicate_succ, List.map_append, List.map_cons]
 have e2 : u64V ((vals ++ [x]) ++ List.replicate (3 - (k + 1)) 0) = u64V vals ++ (.int .u64 (x : Int)) :: u64V (List.replicate (3 - (k + 1)) 0) := by
  unfold u64V
  rw [List.map_append, List.map_append, List.append_assoc]
  rfl
 rw [e1, e2, List.set_append_right _ _ (by omega), hl, Nat.sub_self]
 rfl
theorem zagT_wf {u : Nat} (h : u < 18446744073709551616) : I64 (sg (zagU u)) := sg_wf (zagU_lt h)
end Go.Hw
namespace Go.Proofs.YtjjacchnalemaaaGreatDoor
open Go.Hw
set_option maxHeartbeats 4000000
set_option maxRecDepth 100000
instance und3 : Und Tryz.prog 131 (.array 3 51) := ⟨Tryz.underlying131⟩
section
variable {w0 w : World} {l : List HProp}
theorem chnk_Make (hT : Tz w0) (tag : Int) {sl : Option Addr} {c : Nat} {L : List Smp} (hw : ∀ s ∈ L, s.Wf) (hn : L.length ≤ 1073741824) (hr : Reads w0 l 2 sl L.length (smpsV L)) (h : St w0 l w) :
  Ret Tryz.prog 18 [.int .i64 tag, .slice sl L.length c] w fun v w' => ∃ a c', v = .tuple [.slice a ((chMake tag L).getD []).length c', .bool (chMake tag L).isSome].toArray ∧ St w0 (OwnB a c' ((chMake tag L).getD []) :: l) w' := by
 have hlen := suitEnc_len (tag := tag) hw
 refine enter Tryz.func18 rfl Tryz.results18 Tryz.ntmps18 rfl ?_
 refine c_seq (c_region ?_)
 refine r_v (q_assignS rfl) rfl ?_; refine r_v (q_assignB rfl) rfl ?_
 refine r_nil ?_
 refine c_seq (c_region ?_)
 refine r_v (q_moveI rfl) rfl ?_; refine r_v (q_moveS rfl) rfl ?_
 refine r_c rfl (x_call rfl (suit_Encode hT tag hw hn hr h) ?_)
 cases hE : suitEnc tag L with
 | none =>
  have hM : chMake tag L = none := by unfold chMake; rw [hE]
  rw [hM]
  rintro _ w ⟨xa, xc, rfl, h⟩
  replace h := h.drop
  show Rn _ _ _ _ _ (upd _ _ (.tuple [.slice xa 0 xc, .bool false].toArray)) _
  refine r_v (q_moveT rfl) rfl ?_; refine r_v (q_ext rfl rfl) rfl ?_; refine r_v (q_ext rfl rfl) rfl ?_; refine r_v (q_assignS rfl) rfl ?_; refine r_v (q_assignB rfl) rfl ?_
  refine r_nil ?_
  refine c_seq (c_seq (c_region ?_))
  refine r_v (q_moveB rfl) rfl ?_; refine r_v (q_not rfl) rfl ?_; refine r_v (q_moveB rfl) rfl ?_; refine r_gn rfl rfl rfl ?_; refine r_gn rfl rfl rfl ?_; refine r_gn rfl rfl rfl ?_; refine r_v (q_pick1 rfl rfl rfl) rfl ?_
  refine r_nil (c_true rfl ?_)
  refine c_seq (c_region ?_)
  refine r_v (q_assignS rfl) rfl ?_; refine r_v (q_assignB rfl) rfl ?_
  refine r_nil ?_
  exact c_ret (bq2 ⟨none, 0, rfl, St.ownNil _ _ h⟩)
 | some x =>
 rw [hE] at hlen
 have hxl : x.length ≤ 3000000 := hlen
 obtain ⟨ht1, ht6⟩ := suitEnc_tag hE
 obtain ⟨_, hL16⟩ := suitEnc_rises hE
 rintro _ w ⟨xa, xc, rfl, h⟩
 replace h : St w0 (OwnB xa xc x :: l) w := h
 show Rn _ _ _ _ _ (upd _ _ (.tuple [.slice xa x.length xc, .bool true].toArray)) _
 refine r_v (q_moveT rfl) rfl ?_; refine r_v (q_ext rfl rfl) rfl ?_; refine r_v (q_ext rfl rfl) rfl ?_; refine r_v (q_assignS rfl) rfl ?_; refine r_v (q_assignB rfl) rfl ?_
 refine r_nil ?_
 refine c_seq (c_seq (c_region ?_))
 refine r_v (q_moveB rfl) rfl ?_; refine r_v (q_not rfl) rfl ?_; refine r_v (q_moveB rfl) rfl ?_; refine r_gd rfl rfl ?_; refine r_v (q_moveS rfl) rfl ?_; refine r_gd rfl rfl ?_; refine r_v (q_len rfl) rfl ?_; refine r_gd rfl rfl ?_
 by_cases hL0 : L.length = 0
 ·have hLn : L = [] := List.eq_nil_of_length_eq_zero hL0
  have hM : chMake tag L = none := by unfold chMake; rw [hE]; dsimp only; rw [if_pos hLn]
  rw [hM]
  refine r_v (q_is (v' := .bool true) (q_eql rfl rfl) (by rw [hL0]; rfl)) rfl ?_
  refine r_v (q_pick0 rfl rfl rfl) rfl ?_
  refine r_nil (c_true rfl ?_)
  refine c_seq (c_region ?_)
  refine r_v (q_assignS rfl) rfl ?_; refine r_v (q_assignB rfl) rfl ?_
  refine r_nil ?_
  exact c_ret (bq2 ⟨none, 0, rfl, St.ownNil _ _ h.drop⟩)
 have hLn : L ≠ [] := fun hh => hL0 (by rw [hh]; rfl)
 have hM : chMake tag L = some (chBody tag L x ++ be4 (crc (chBody tag L x))) := by unfold chMake; rw [hE]; dsimp only; rw [if_neg hLn]
 rw [hM]
 obtain ⟨w1, w2⟩ := ends_wf hw hLn
 refine r_v (q_is (v' := .bool false) (q_eql rfl rfl) (by congr 1; rw [beq_eq_false_iff_ne]; omega)) rfl ?_
 refine r_v (q_pick0 rfl rfl rfl) rfl ?_
 refine r_nil (c_false rfl (c_skip ?_))
 refine c_seq (c_region ?_)
 refine r_v (q_moveI rfl) rfl ?_; refine r_v (q_conv rfl) rfl ?_
 refine r_is (.int .u8 ((UInt8.ofNat tag.toNat).toNat : Int)) (by rw [UInt8.toNat_ofNat', show tag = ((tag.toNat : Nat) : Int) by omega, wrap_u8]; simp) ?_
 refine r_c rfl (x_bslice (r := bytesV [UInt8.ofNat tag.toNat]) h rfl rfl rfl fun b2 w h => ?_)
 refine r_v (q_moveS rfl) rfl ?_; refine r_v (q_len rfl) rfl ?_; refine r_v (q_conv rfl) rfl ?_
 refine r_is (.int .u64 (L.length : Int)) (congrArg (Value.int .u64) (conv_nat (by omega))) ?_
 refine r_c rfl (x_call rfl (vint_Put (bs := [UInt8.ofNat tag.toNat]) L.length (by omega) h (fun w' h' => (Reads.pt (m := 0) rfl rfl).at_ h') (by simp)) ?_)
 rintro _ w ⟨a1, c1, rfl, h⟩
 replace h := (h.f 1).drop
 refine r_v (q_assignS rfl) rfl ?_
 refine r_nil ?_
 have hp1 := vput_len L.length
 have hp2 := vput_len (zigT (firstT L))
 have hp3 := vput_len (zigT (lastT L))
 refine c_cut (Γ := Option Addr × Nat) (fun q => [(0, .int .i64 tag), (1, .slice sl L.length c), (6, .slice xa x.length xc), (8, .slice q.1 (UInt8.ofNat tag.toNat :: (chNums L).flatMap vput).length q.2)]) (fun q w => St w0 (OwnB q.1 q.2 (UInt8.ofNat tag.toNat :: (chNums L).flatMap vput) :: OwnB xa xc x :: l) w) ?_ ?_
 ·have hg0 : L[0]? = some (L[0]'(by omega)) := List.getElem?_eq_getElem _
  have hgl : L[L.length - 1]? = some (L[L.length - 1]'(by omega)) := List.getElem?_eq_getElem _
  have hf : firstT L = (L[0]'(by omega)).T := by unfold firstT; rw [List.head?_eq_getElem?, hg0]; rfl
  have ht : lastT L = (L[L.length - 1]'(by omega)).T := by unfold lastT; rw [List.getLast?_eq_getElem?, hgl]; rfl
  generalize L[0]'(by omega) = s0 at hg0 hf
  generalize L[L.length - 1]'(by omega) = s1 at hgl ht
  obtain ⟨b, o, hsl⟩ := ((hr.more [_, _]).at_ h).some (by omega)
  have hc0 : ∀ {w'}, (∃ M, St w0 (M ++ l) w') → w'.cell? ⟨b, o, none⟩ = some (.int .i64 s0.T) := fun ⟨M, h'⟩ => by
   have := (hsl ▸ hr M _ h').elem smp_len hg0 0 _ rfl; simpa using this
  have hc1 : ∀ {w'}, (∃ M, St w0 (M ++ l) w') → w'.cell? ⟨b, o + (L.length - 1) * 2 + 0, none⟩ = some (.int .i64 s1.T) := fun ⟨M, h'⟩ => (hsl ▸ hr M _ h').elem smp_len hgl 0 _ rfl
  refine c_anyW [0, 1, 2, 3, 4, 5, 6, 7, 8, 9, 10, 11, 12, 13, 14, 15, 16] none (fun w => ∃ M, St w0 (M ++ l) w) (by kernel_rfl) (by kernel_rfl) ?_
  replace h := h.drew
  generalize w.drew = w at h
  have hs := h
  replace h : ∃ M, St w0 (M ++ l) w := ⟨[_, _], hs⟩
  refine cur_pure rfl rfl rfl rfl (fun _ => h) (fun _ => flt_v rfl (q_moveS rfl)) ?_; refine cur_pure rfl rfl rfl rfl (fun _ => h) (fun _ => flt_v rfl (q_moveS rfl)) ?_
  refine cur_pure rfl rfl rfl rfl (fun _ => h) (fun _ => flt_v rfl (q_idx (b := b) (o := o) (m := L.length) (c := c) (j := 0) (o' := o) (by rw [← hsl]; rfl) rfl rfl (by omega) (by simp))) ?_
  refine cur_pure rfl rfl rfl rfl (fun _ => h) (fun _ => flt_v rfl (q_fa rfl)) ?_
  refine cur_float rfl rfl rfl rfl h (fun w h => flt_v rfl (q_loadc (v := .int .i64 s0.T) rfl (hc0 h))) ?_
  refine cur_skip ?_; refine cur_skip ?_; refine cur_pure rfl rfl rfl rfl (fun _ => h) (fun _ => flt_v rfl (q_moveS rfl)) ?_; refine cur_pure rfl rfl rfl rfl (fun _ => h) (fun _ => flt_v rfl (q_moveS rfl)) ?_; refine cur_pure rfl rfl rfl rfl (fun _ => h) (fun _ => flt_v rfl (q_len rfl)) ?_
  refine cur_pure rfl rfl rfl rfl (fun _ => h) (fun _ => flt_v rfl (q_is (v' := .int .i64 ((L.length - 1 : Nat) : Int)) (q_sub rfl rfl) (by rw [wrap64 (by omega) (by omega)]; congr 1; omega))) ?_
  refine cur_pure rfl rfl rfl rfl (fun _ => h) (fun _ => flt_v rfl (q_idx (b := b) (o := o) (m := L.length) (c := c) (j := L.length - 1) (o' := o + (L.length - 1) * 2) (by rw [← hsl]; rfl) rfl rfl (by omega) rfl)) ?_
  refine cur_pure rfl rfl rfl rfl (fun _ => h) (fun _ => flt_v rfl (q_fa rfl)) ?_
  refine cur_float rfl rfl rfl rfl h (fun w h => flt_v rfl (q_loadc (v := .int .i64 s1.T) rfl (hc1 h))) ?_
  refine cur_skip ?_; refine cur_skip ?_; refine cur_skip ?_
  refine cur_one 5 rfl rfl rfl rfl ?_
  refine (x_call rfl (vint_Zig (hf ▸ w1) hs) ?_)
  rintro _ w ⟨rfl, hs⟩
  rw [← hf, show zigU (us (firstT L)) = zigT (firstT L) from rfl]
  replace h : ∃ M, St w0 (M ++ l) w := ⟨[_, _], hs⟩
  refine ⟨fun _ => h, ?_⟩
  refine cur_skip ?_; refine cur_skip ?_; refine cur_skip ?_; refine cur_skip ?_
  refine cur_one 6 rfl rfl rfl rfl ?_
  refine (x_call rfl (vint_Put (zigT (firstT L)) (zigT_lt _) hs (fun w' h' => h'.own_rd) (by simp; omega)) ?_)
  rintro _ w ⟨a2, c2, rfl, hs⟩
  replace h : ∃ M, St w0 (M ++ l) w := ⟨[_, _, _], hs⟩
  refine ⟨fun _ => h, ?_⟩
  refine cur_skip ?_; refine cur_skip ?_; refine cur_skip ?_
  refine cur_one 14 rfl rfl rfl rfl ?_
  refine (x_call rfl (vint_Zig (ht ▸ w2) hs) ?_)
  rintro _ w ⟨rfl, hs⟩
  rw [← ht, show zigU (us (lastT L)) = zigT (lastT L) from rfl]
  replace h : ∃ M, St w0 (M ++ l) w := ⟨[_, _, _], hs⟩
  refine ⟨fun _ => h, ?_⟩
  refine cur_skip ?_; refine cur_skip ?_
  refine cur_one 15 rfl rfl rfl rfl ?_
  refine (x_call rfl (vint_Put (zigT (lastT L)) (zigT_lt _) hs (fun w' h' => h'.own_rd) (by simp; omega)) ?_)
  rintro _ w ⟨a3, c3, rfl, hs⟩
  replace h : ∃ M, St w0 (M ++ l) w := ⟨[_, _, _, _], hs⟩
  refine ⟨fun _ => h, ?_⟩
  refine cur_pure rfl rfl rfl rfl (fun _ => h) (fun _ => flt_v rfl (q_assignS rfl)) ?_
  have e3 : [UInt8.ofNat tag.toNat] ++ vput L.length ++ vput (zigT (firstT L)) ++ vput (zigT (lastT L)) = UInt8.ofNat tag.toNat :: (chNums L).flatMap vput := by simp [chNums]
  rw [e3] at hs
  refine cur_end ⟨(a3, c3), ⟨rfl, rfl, rfl, ?_, trivial⟩, ((hs.f 1).drop.f 1).drop⟩
  show Value.slice _ _ _ = Value.slice _ _ _
  rw [e3]
 clear h a1 c1
 rintro ⟨a1, c1⟩ w e h
 dsimp only at h ⊢
 have hbl := chBody_len tag L x
 have hbe : chBody tag L x = (UInt8.ofNat tag.toNat :: (chNums L).flatMap vput) ++ x := by simp [chBody]
 have hbl2 : (UInt8.ofNat tag.toNat :: (chNums L).flatMap vput).length + x.length = (chBody tag L x).length := by rw [hbe, List.length_append]
 generalize UInt8.ofNat tag.toNat :: (chNums L).flatMap vput = hd at h hbe hbl2 ⊢
 generalize chBody tag L x = B at hbe hbl hbl2 ⊢
 refine c_seq (c_region ?_)
 refine r_v (q_moveS rfl) rfl ?_; refine r_v (q_moveS rfl) rfl ?_
 refine r_c rfl (x_append' (ys := bytesV x) (zs := bytesV B) (m3 := B.length) h rfl rfl (h.f 1).own_rd (bytesV_one _) (by omega) (by rw [hbe]; simp [bytesV]) (by omega) (by omega) rfl fun a2 c2 w _ h => ?_)
 refine r_v (q_assignS rfl) rfl ?_
 refine r_nil ?_
 refine c_seq (c_region ?_)
 refine r_c rfl (x_call rfl (crcc_Table h) ?_)
 rintro _ w ⟨rfl, h⟩
 refine r_v (q_moveS rfl) rfl ?_
 refine r_c rfl (x_call rfl (crcc_Sum (bs := B) (by omega) Reads.own h) ?_)
 rintro _ w ⟨rfl, h⟩
 refine r_v (q_assignI rfl) rfl ?_
 refine r_nil ?_
 generalize crc B = k
 refine c_seq (c_region ?_)
 refine r_v (q_moveS rfl) rfl ?_; refine r_v (q_moveI rfl) rfl ?_
 refine r_v (q_is (v' := .int .u32 ((k / 2 ^ 24 : Nat) : Int)) (q_shr rfl rfl (by omega)) (congrArg (Value.int .u32) (fdiv_nat k 24 32 (by decide)))) rfl ?_
 refine r_v (q_conv rfl) rfl ?_
 refine r_is (.int .u8 ((UInt8.ofNat (k / 2 ^ 24)).toNat : Int)) (by rw [wrap_u8, UInt8.toNat_ofNat']) ?_
 refine r_v (q_moveI rfl) rfl ?_
 refine r_v (q_is (v' := .int .u32 ((k / 2 ^ 16 : Nat) : Int)) (q_shr rfl rfl (by omega)) (congrArg (Value.int .u32) (fdiv_nat k 16 32 (by decide)))) rfl ?_
 refine r_v (q_conv rfl) rfl ?_
 refine r_is (.int .u8 ((UInt8.ofNat (k / 2 ^ 16)).toNat : Int)) (by rw [wrap_u8, UInt8.toNat_ofNat']) ?_
 refine r_v (q_moveI rfl) rfl ?_
 refine r_v (q_is (v' := .int .u32 ((k / 2 ^ 8 : Nat) : Int)) (q_shr rfl rfl (by omega)) (congrArg (Value.int .u32) (fdiv_nat k 8 32 (by decide)))) rfl ?_
 refine r_v (q_conv rfl) rfl ?_
 refine r_is (.int .u8 ((UInt8.ofNat (k / 2 ^ 8)).toNat : Int)) (by rw [wrap_u8, UInt8.toNat_ofNat']) ?_
 refine r_v (q_moveI rfl) rfl ?_; refine r_v (q_conv rfl) rfl ?_
 refine r_is (.int .u8 ((UInt8.ofNat k).toNat : Int)) (by rw [wrap_u8, UInt8.toNat_ofNat']) ?_
 refine r_c rfl (x_bslice (r := bytesV (be4 k)) h rfl rfl rfl fun b4 w h => ?_)
 refine r_c rfl (x_append' (ys := bytesV (be4 k)) (zs := bytesV (B ++ be4 k)) (m3 := (B ++ be4 k).length) (h.f 1) rfl rfl ⟨rfl, .inr ⟨b4, 0, rfl, at_of (h.b 0 rfl) rfl⟩⟩ (bytesV_one _) (by simp [be4_len]) (by simp [bytesV]) (by rw [List.length_append, be4_len]; omega) (by rw [List.length_append, be4_len]; omega) rfl fun a3 c3 w _ h => ?_)
 refine r_v (q_assignS rfl) rfl ?_; refine r_v (q_assignB rfl) rfl ?_
 refine r_nil ?_
 refine c_ret (bq2 ⟨a3, c3, rfl, ?_⟩)
 have h' := ((h.f 1).drop.f 1).drop
 exact h'
end
end Go.Proofs.YtjjacchnalemaaaGreatDoor

namespace Go.Proofs.YtjjacchnalemaaaGreatDoor
open Go.Hw
set_option maxHeartbeats 4000000
set_option maxRecDepth 100000
section
variable {w0 w : World} {l : List HProp}
theorem valsOf_get {L : List Smp} (hw : ∀ s ∈ L, s.Wf) {k : Nat} {s : Smp} (h : L[k]? = some s) : s.V = ((s.V.toNat : Nat) : Int) := by
 have := hw s (List.mem_of_getElem? h)
 obtain ⟨_, h2, _⟩ := this
 omega
theorem ref10_values {sl : Option Addr} {c : Nat} {L : List Smp} (hw : ∀ s ∈ L, s.Wf) (hn : L.length ≤ 65535) (hr : Reads w0 l 2 sl L.length (smpsV L)) (h : St w0 l w) :
  Ret Tryz.prog 39 [.slice sl L.length c] w fun v w' => ∃ a c', v = .slice a (valsOf L).length c' ∧ (valsOf L).length ≤ c' ∧ St w0 (OwnU a c' (valsOf L) :: l) w' := by
 refine enter Tryz.func39 rfl Tryz.results39 Tryz.ntmps39 rfl ?_
 refine c_seq (c_region ?_)
 refine r_v (q_assignS rfl) rfl ?_
 refine r_nil ?_
 refine c_seq (c_region ?_)
 refine r_v (q_assignS rfl) rfl ?_
 refine r_nil ?_
 refine c_seq (c_seq (c_region ?_))
 refine r_v (q_assignI rfl) rfl ?_
 refine r_nil ?_
 refine c_block ?_
 refine c_loop (Γ := Nat × Option Addr × Nat) (fun k => [(0, .slice sl L.length c), (3, .slice k.2.1 (valsOf (L.take k.1)).length k.2.2), (4, .int .i64 k.1)])
  (fun k w => k.1 ≤ L.length ∧ St w0 (OwnU k.2.1 k.2.2 (valsOf (L.take k.1)) :: l) w) (fun k => L.length - k.1) (0, none, 0) ⟨rfl, rfl, rfl, trivial⟩ ⟨Nat.zero_le _, St.ownNil 51 1 h⟩ ?_
 clear h
 rintro ⟨k, oa, oc⟩ w e ⟨hk, h⟩
 dsimp only at hk h ⊢
 refine c_seq (c_seq (c_region ?_))
 refine r_v (q_moveI rfl) rfl ?_; refine r_v (q_moveS rfl) rfl ?_; refine r_v (q_len rfl) rfl ?_; refine r_v (q_lss rfl rfl) rfl ?_
 refine r_nil ?_
 refine c_cond (decide ((k : Int) < (L.length : Int))) rfl (fun hc => ?_) (fun hc => ?_)
 ·have hlt : k < L.length := by simp at hc; omega
  have hg := List.getElem?_eq_getElem hlt
  generalize L[k] = s at hg
  have hsv := valsOf_get hw hg
  have hvl : (valsOf (L.take k)).length = k := by unfold valsOf; simp; omega
  have hvs : valsOf (L.take (k + 1)) = valsOf (L.take k) ++ [s.V.toNat] := by rw [List.take_add_one, hg]; simp [valsOf]
  obtain ⟨b, o, hsl⟩ := (hr.cons.at_ h).some (by omega)
  refine c_skip ?_
  refine c_seq (c_block ?_)
  refine c_region ?_
  refine r_v (q_moveS rfl) rfl ?_; refine r_v (q_moveS rfl) rfl ?_; refine r_v (q_moveI rfl) rfl ?_
  refine r_v (q_idx (b := b) (o := o) (m := L.length) (c := c) (o' := o + k * 2) (by rw [← hsl]; rfl) rfl rfl hlt rfl) rfl ?_
  refine r_v (q_fa rfl) rfl ?_
  refine r_v (q_loadc (v := .int .u64 (s.V.toNat : Int)) rfl (by rw [← hsv]; exact (hsl ▸ hr.cons.at_ h).elem smp_len hg 1 _ rfl)) rfl ?_
  refine r_app1 (v := .int .u64 (s.V.toNat : Int)) (m3 := (valsOf (L.take (k + 1))).length) (zs := u64V (valsOf (L.take (k + 1)))) h rfl rfl rfl rfl rfl (by rw [hvs]; simp) (by rw [hvs]; simp [u64V, vcells]) (by rw [hvs]; simp; omega) (by rw [hvs]; simp; omega) rfl rfl rfl rfl rfl fun b a' c' w _ h => ?_
  refine r_v (q_assignS rfl) rfl ?_
  refine r_nil ?_
  refine c_region ?_
  refine r_v (q_moveI rfl) rfl ?_; refine r_v (q_add rfl rfl) rfl ?_
  refine r_is (.int .i64 ((k + 1 : Nat) : Int)) (by rw [wrap64 (by omega) (by omega)]; rfl) ?_
  refine r_v (q_assignI rfl) rfl ?_
  exact r_nil ⟨(k + 1, a', c'), ⟨rfl, rfl, rfl, trivial⟩, ⟨hlt, h⟩, by dsimp only; omega⟩
 ·obtain rfl : k = L.length := by simp at hc; omega
  rw [List.take_length] at h
  refine c_exit ?_
  refine c_seq (c_region ?_)
  refine r_v (q_moveS rfl) rfl ?_; refine r_v (q_assignS rfl) rfl ?_
  refine r_nil (c_ret (bq1 ⟨oa, oc, ?_, h.own_cases.2.1, h⟩))
  show Value.slice oa (valsOf (L.take L.length)).length oc = _
  rw [List.take_length]
theorem ref10_steps {sl : Option Addr} {c : Nat} {u : List Nat} (hu : ∀ x ∈ u, x < 18446744073709551616) (hn : u.length ≤ 65535) (hr : Reads w0 l 1 sl u.length (u64V u)) (h : St w0 l w) :
  Ret Tryz.prog 75 [.slice sl u.length c] w fun v w' => ∃ a c', v = .slice a (stepsL 0 u).length c' ∧ (stepsL 0 u).length ≤ c' ∧ St w0 (OwnU a c' (stepsL 0 u) :: l) w' := by
 refine enter Tryz.func75 rfl Tryz.results75 Tryz.ntmps75 rfl ?_
 refine c_seq (c_region ?_)
 refine r_v (q_assignS rfl) rfl ?_
 refine r_nil ?_
 refine c_seq (c_region ?_)
 refine r_v (q_assignS rfl) rfl ?_
 refine r_nil ?_
 refine c_seq (c_region ?_)
 refine r_v (q_assignI rfl) rfl ?_
 refine r_nil ?_
 refine c_seq (c_seq (c_region ?_))
 refine r_v (q_assignI rfl) rfl ?_
 refine r_nil ?_
 refine c_block ?_
 refine c_loop (Γ := Nat × Nat × List Nat × Option Addr × Nat) (fun k => [(0, .slice sl u.length c), (3, .slice k.2.2.2.1 k.2.2.1.length k.2.2.2.2), (4, .int .u64 k.2.1), (5, .int .i64 k.1)])
  (fun k w => k.1 ≤ u.length ∧ k.2.1 < 18446744073709551616 ∧ k.2.2.1.length = k.1 ∧ k.2.2.1 ++ stepsL k.2.1 (u.drop k.1) = stepsL 0 u ∧ St w0 (OwnU k.2.2.2.1 k.2.2.2.2 k.2.2.1 :: l) w) (fun k => u.length - k.1) (0, 0, [], none, 0) ⟨rfl, rfl, rfl, rfl, trivial⟩ ⟨Nat.zero_le _, (by decide : (0 : Nat) < 18446744073709551616), rfl, rfl, St.ownNil _ _ h⟩ ?_
 clear h
 rintro ⟨i, was, out, a, c1⟩ w e ⟨hi, hw, hol, he, h⟩
 dsimp only at hi hw hol he h ⊢
 refine c_seq (c_seq (c_region ?_))
 refine r_v (q_moveI rfl) rfl ?_; refine r_v (q_moveS rfl) rfl ?_; refine r_v (q_len rfl) rfl ?_; refine r_v (q_lss rfl rfl) rfl ?_
 refine r_nil ?_
 refine c_cond (decide ((i : Int) < (u.length : Int))) rfl (fun hc => ?_) (fun hc => ?_)
 ·have hlt : i < u.length := by simp at hc; omega
  have hg := List.getElem?_eq_getElem hlt
  have hdr := List.drop_eq_getElem_cons hlt
  generalize u[i] = x at hg hdr
  have hx := hu x (List.mem_of_getElem? hg)
  have hd : diff x was < 18446744073709551616 := Nat.mod_lt _ (by decide)
  rw [hdr, stepsL] at he
  obtain ⟨b, o, hsl⟩ := (hr.cons.at_ h).some (by omega)
  refine c_skip ?_
  refine c_seq (c_block ?_)
  refine c_seq (c_region ?_)
  refine r_v (q_moveS rfl) rfl ?_; refine r_v (q_moveS rfl) rfl ?_; refine r_v (q_moveI rfl) rfl ?_
  refine r_v (q_idx (b := b) (o := o) (m := u.length) (c := c) (o' := o + i) (by rw [← hsl]; rfl) rfl rfl hlt (by simp)) rfl ?_
  refine r_v (q_loadc (v := .int .u64 x) rfl ((hsl ▸ hr.cons.at_ h).cell (u64V_get hg))) rfl ?_
  refine r_v (q_moveI rfl) rfl ?_; refine r_v (q_sub rfl rfl) rfl ?_
  refine r_is (.int .u64 (diff x was : Nat)) (by rw [wrap_diff hw]) ?_
  refine r_v (q_conv rfl) rfl ?_
  refine r_is (.int .i64 (sg (diff x was))) (by rw [wrap_sg hd]) ?_
  refine r_c rfl (x_call rfl (ref1_Zig (sg_wf hd) h) ?_)
  rintro _ w ⟨rfl, h⟩
  rw [show zigT (sg (diff x was)) = zigU (diff x was) by unfold zigT; rw [us_sg hd]]
  refine r_app1 (v := .int .u64 (zigU (diff x was) : Nat)) (m3 := (out ++ [zigU (diff x was)]).length) (zs := u64V (out ++ [zigU (diff x was)])) h rfl rfl rfl rfl rfl (by simp) (by simp [u64V, vcells]) (by simp; omega) (by simp; omega) rfl rfl rfl rfl rfl fun b2 a2 c2 w _ h => ?_
  refine r_v (q_assignS rfl) rfl ?_
  refine r_nil ?_
  refine c_region ?_
  refine r_v (q_moveS rfl) rfl ?_; refine r_v (q_moveI rfl) rfl ?_
  refine r_v (q_idx (b := b) (o := o) (m := u.length) (c := c) (o' := o + i) (by rw [← hsl]; rfl) rfl rfl hlt (by simp)) rfl ?_
  refine r_v (q_loadc (v := .int .u64 x) rfl ((hsl ▸ hr.cons.at_ h).cell (u64V_get hg))) rfl ?_
  refine r_v (q_assignI rfl) rfl ?_
  refine r_nil ?_
  refine c_region ?_
  refine r_v (q_moveI rfl) rfl ?_; refine r_v (q_add rfl rfl) rfl ?_
  refine r_is (.int .i64 ((i + 1 : Nat) : Int)) (by rw [wrap64 (by omega) (by omega)]; rfl) ?_
  refine r_v (q_assignI rfl) rfl ?_
  refine r_nil ⟨(i + 1, x, out ++ [zigU (diff x was)], a2, c2), ⟨rfl, rfl, rfl, rfl, trivial⟩, ⟨hlt, hx, by simp; omega, ?_, h⟩, by dsimp only; omega⟩
  rw [← he]; simp
 ·have hin : i = u.length := by simp at hc; omega
  rw [hin, List.drop_length, stepsL, List.append_nil] at he
  refine c_exit ?_
  refine c_seq (c_region ?_)
  refine r_v (q_moveS rfl) rfl ?_; refine r_v (q_assignS rfl) rfl ?_
  refine r_nil ?_
  rw [← he]
  exact c_ret (bq1 ⟨a, c1, rfl, h.own_cases.2.1, h⟩)
abbrev TellV (tag : Int) (u : List Nat) (l : List HProp) (w0 : World) (v : Value) (w' : World) : Prop := ∃ a c', v = .tuple [.slice a ((valuesEnc tag u).getD []).length c', .bool (valuesEnc tag u).isSome].toArray ∧ St w0 (OwnB a c' ((valuesEnc tag u).getD []) :: l) w'
theorem ref10_told (tag : Int) {sl : Option Addr} {c : Nat} {u : List Nat} (hu : ∀ x ∈ u, x < 18446744073709551616) (hn : u.length ≤ 65535) (hr : Reads w0 l 1 sl u.length (u64V u)) (h : St w0 l w) :
  Ret Tryz.prog 38 [.int .i64 tag, .slice sl u.length c] w fun v w' => TellV tag u l w0 v w' := by
 refine enter Tryz.func38 rfl Tryz.results38 Tryz.ntmps38 rfl ?_
 refine c_seq (c_region ?_)
 refine r_v (q_assignS rfl) rfl ?_; refine r_v (q_assignB rfl) rfl ?_
 refine r_nil ?_
 refine c_seq (c_seq (c_region ?_))
 refine r_v (q_moveI rfl) rfl ?_
 refine r_nil ?_
 refine c_block ?_
 refine c_seq (c_region ?_)
 refine r_v (q_eql rfl rfl) rfl ?_; refine r_v (q_assignB rfl) rfl ?_
 refine r_nil ?_
 refine c_cond (tag == 1) rfl (fun hc => ?_) (fun hc1 => ?_)
 ·have hv : valuesEnc tag u = some (pack (xorBits u)) := by unfold valuesEnc; rw [if_pos (by simpa using hc)]
  have hxl := xorBits_len u
  unfold TellV
  rw [hv]
  refine c_seq (c_region ?_)
  refine r_v (q_build (r := [.slice none 0 0]) rfl) rfl ?_
  refine r_c rfl (x_box h (show _ = Value.agg [.slice none 0 0].toArray from rfl) fun p w h => ?_)
  replace h : St w0 (IsRW p [] :: l) w := St.rw_new h
  refine r_v (q_assignP rfl) rfl ?_
  refine r_nil ?_
  refine c_seq (c_region ?_)
  refine r_v (q_moveP rfl) rfl ?_; refine r_v (q_moveS rfl) rfl ?_
  refine r_c rfl (x_call rfl (ref4_Values hu hn (by decide) h hr) ?_)
  rintro _ w ⟨rfl, h⟩
  rw [List.nil_append] at h
  refine r_nil ?_
  refine c_seq (c_region ?_)
  refine r_v (q_moveP rfl) rfl ?_
  refine r_c rfl (x_call rfl (rw_Bytes (by omega) h) ?_)
  rintro _ w ⟨a, c', rfl, h⟩
  refine r_v (q_assignS rfl) rfl ?_; refine r_v (q_assignB rfl) rfl ?_
  exact r_nil (c_ret (bq2 ⟨a, c', rfl, (h.f 1).drop⟩))
 have hn1 : ¬ tag = 1 := by simpa using hc1
 refine c_seq (c_region ?_)
 refine r_v (q_eql rfl rfl) rfl ?_; refine r_v (q_assignB rfl) rfl ?_
 refine r_nil ?_
 refine c_cond (tag == 2) rfl (fun hc => ?_) (fun hc2 => ?_)
 ·have hv : valuesEnc tag u = (simpEnc (stepsL 0 u)).map bigL := by unfold valuesEnc; rw [if_neg hn1, if_pos (by simpa using hc)]
  have hsl := stepsL_len u 0
  have hslt := stepsL_lt u 0
  obtain ⟨hsl2, hsw⟩ := simpEnc_len (u := stepsL 0 u)
  obtain ⟨e1, e2⟩ := simp_big (simpEnc (stepsL 0 u))
  unfold TellV
  rw [hv, e1, e2]
  refine c_seq (c_region ?_)
  refine r_v (q_moveS rfl) rfl ?_
  refine r_c rfl (x_call rfl (ref10_steps hu hn hr h) ?_)
  rintro _ w ⟨sa, sc, rfl, hsc, h⟩
  refine r_c rfl (x_call rfl (ref4_Simple hslt (by omega) hsc Reads.own h) ?_)
  rintro _ w ⟨wa, wc, rfl, h⟩
  generalize (simpEnc (stepsL 0 u)).getD [] = ws at hsl2 hsw h ⊢
  generalize (simpEnc (stepsL 0 u)).isSome = ok
  replace h : St w0 (OwnU wa wc ws :: l) w := (h.f 1).drop
  clear hr
  refine r_v (q_moveT rfl) rfl ?_; refine r_v (q_ext rfl rfl) rfl ?_; refine r_v (q_ext rfl rfl) rfl ?_; refine r_v (q_assignS rfl) rfl ?_; refine r_v (q_assignB rfl) rfl ?_
  refine r_nil ?_
  refine c_seq (c_region ?_)
  refine r_v (q_assignS rfl) rfl ?_
  refine r_nil ?_
  refine c_seq (c_seq (c_region ?_))
  refine r_v (q_assignI rfl) rfl ?_
  refine r_nil ?_
  refine c_block ?_
  refine c_loop (Γ := Nat × Option Addr × Nat) (fun k => [(7, .slice wa ws.length wc), (8, .bool ok), (9, .slice k.2.1 (bigL (ws.take k.1)).length k.2.2), (10, .int .i64 k.1)])
   (fun k w => k.1 ≤ ws.length ∧ St w0 (OwnB k.2.1 k.2.2 (bigL (ws.take k.1)) :: OwnU wa wc ws :: l) w) (fun k => ws.length - k.1) (0, none, 0) ⟨rfl, rfl, rfl, rfl, trivial⟩ ⟨Nat.zero_le _, St.ownNil _ _ h⟩ ?_
  clear h
  rintro ⟨i, a, c1⟩ w e ⟨hi, h⟩
  dsimp only at hi h ⊢
  have hbl := bigL_len (ws.take i)
  rw [List.length_take, Nat.min_eq_left hi] at hbl
  refine c_seq (c_seq (c_region ?_))
  refine r_v (q_moveI rfl) rfl ?_; refine r_v (q_moveS rfl) rfl ?_; refine r_v (q_len rfl) rfl ?_; refine r_v (q_lss rfl rfl) rfl ?_
  refine r_nil ?_
  refine c_cond (decide ((i : Int) < (ws.length : Int))) rfl (fun hc => ?_) (fun hc => ?_)
  ·have hlt : i < ws.length := by simp at hc; omega
   have hg := List.getElem?_eq_getElem hlt
   generalize ws[i] = x at hg
   have hx := hsw x (List.mem_of_getElem? hg)
   obtain ⟨g, rfl⟩ := (h.f 1).own_some (by omega)
   have hstep : bigL (ws.take (i + 1)) = bigL (ws.take i) ++ be8 x := by
    unfold bigL
    rw [List.take_add_one, hg, List.flatMap_append]; simp
   rw [show Value.slice a (bigL (ws.take i)).length c1 = Value.slice a (bigL (ws.take i) ++ (be8 x).take 0).length c1 by simp]
   replace h : St w0 (OwnB a c1 (bigL (ws.take i) ++ (be8 x).take 0) :: OwnU (some ⟨g, 0, none⟩) wc ws :: l) w := by simpa using h
   generalize bigL (ws.take i) = base at hbl hstep h ⊢
   refine c_skip ?_
   refine c_seq (c_block ?_)
   refine c_seq (c_region ?_)
   refine r_v (q_assignI rfl) rfl ?_
   refine r_nil ?_
   refine c_block ?_
   refine c_loop (Γ := Nat × Option Addr × Nat) (fun k => [(7, .slice (some ⟨g, 0, none⟩) ws.length wc), (8, .bool ok), (9, .slice k.2.1 (base ++ (be8 x).take k.1).length k.2.2), (10, .int .i64 i), (11, .int .i64 (7 - (k.1 : Int)))])
    (fun k w => k.1 ≤ 8 ∧ St w0 (OwnB k.2.1 k.2.2 (base ++ (be8 x).take k.1) :: OwnU (some ⟨g, 0, none⟩) wc ws :: l) w) (fun k => 8 - k.1) (0, a, c1) ⟨rfl, rfl, rfl, rfl, rfl, trivial⟩ ⟨Nat.zero_le _, h⟩ ?_
   clear h
   rintro ⟨j, a, c1⟩ w e ⟨hj, h⟩
   dsimp only at hj h ⊢
   have hb8 : (be8 x).length = 8 := rfl
   refine c_seq (c_seq (c_region ?_))
   refine r_v (q_moveI rfl) rfl ?_; refine r_v (q_geq rfl rfl) rfl ?_
   by_cases hj8 : j < 8
   ·refine r_is (.bool true) (by simp; omega) ?_
    refine r_nil (c_true rfl (c_skip ?_))
    have hgj := be8_get x j hj8
    have htk : (be8 x).take (j + 1) = (be8 x).take j ++ [UInt8.ofNat (x / 2 ^ (8 * (7 - j)))] := by rw [List.take_add_one, hgj]; rfl
    have htl : ((be8 x).take j).length = j := by rw [List.length_take, hb8]; omega
    refine c_seq (c_block ?_)
    refine c_region ?_
    refine r_v (q_moveS rfl) rfl ?_; refine r_v (q_moveS rfl) rfl ?_; refine r_v (q_moveI rfl) rfl ?_
    refine r_v (q_idx (b := g) (o := 0) (m := ws.length) (c := wc) (o' := i) rfl rfl rfl hlt (by simp)) rfl ?_
    refine r_v (q_loadc (v := .int .u64 x) rfl (by have := (h.f 1).own_rd.cell (u64V_get hg); simpa using this)) rfl ?_
    refine r_v (q_moveI rfl) rfl ?_; refine r_v (q_mul rfl rfl) rfl ?_
    refine r_is (.int .i64 ((8 * (7 - j) : Nat) : Int)) (by rw [wrap64 (by omega) (by omega)]; congr 1; omega) ?_
    refine r_v (q_conv rfl) rfl ?_
    refine r_is (.int .u64 ((8 * (7 - j) : Nat) : Int)) (by rw [wrap_u64, Nat.mod_eq_of_lt (by omega)]) ?_
    refine r_v (q_is (v' := .int .u64 ((x / 2 ^ (8 * (7 - j)) : Nat) : Int)) (q_shr rfl rfl (by omega)) (congrArg (Value.int .u64) (fdiv_nat x (8 * (7 - j)) 64 (by omega)))) rfl ?_
    refine r_v (q_conv rfl) rfl ?_
    refine r_is (.int .u8 ((UInt8.ofNat (x / 2 ^ (8 * (7 - j)))).toNat : Int)) (by rw [wrap_u8, UInt8.toNat_ofNat']) ?_
    refine r_app1 (v := .int .u8 ((UInt8.ofNat (x / 2 ^ (8 * (7 - j)))).toNat : Int)) (m3 := (base ++ (be8 x).take (j + 1)).length) (zs := bytesV (base ++ (be8 x).take (j + 1))) h rfl rfl rfl rfl rfl (by rw [htk]; simp; omega) (by rw [htk]; simp [bytesV, vcells]) (by rw [htk]; simp; omega) (by rw [htk]; simp; omega) rfl rfl rfl rfl rfl fun b2 a2 c2 w _ h => ?_
    refine r_v (q_assignS rfl) rfl ?_
    refine r_nil ?_
    refine c_region ?_
    refine r_v (q_moveI rfl) rfl ?_; refine r_v (q_sub rfl rfl) rfl ?_
    refine r_is (.int .i64 (7 - ((j + 1 : Nat) : Int))) (by rw [wrap64 (by omega) (by omega)]; congr 1; omega) ?_
    refine r_v (q_assignI rfl) rfl ?_
    exact r_nil ⟨(j + 1, a2, c2), ⟨rfl, rfl, rfl, rfl, rfl, trivial⟩, ⟨hj8, h⟩, by dsimp only; omega⟩
   refine r_is (.bool false) (by simp; omega) ?_
   refine r_nil (c_false rfl ?_)
   have hjj : j = 8 := by omega
   subst hjj
   rw [show (be8 x).take 8 = be8 x from rfl, ← hstep] at h
   refine c_exit ?_
   refine c_region ?_
   refine r_v (q_moveI rfl) rfl ?_; refine r_v (q_add rfl rfl) rfl ?_
   refine r_is (.int .i64 ((i + 1 : Nat) : Int)) (by rw [wrap64 (by omega) (by omega)]; rfl) ?_
   refine r_v (q_assignI rfl) rfl ?_
   refine r_nil ⟨(i + 1, a, c1), ⟨rfl, rfl, ?_, rfl, trivial⟩, ⟨hlt, h⟩, by dsimp only; omega⟩
   show Value.slice _ _ _ = Value.slice _ _ _
   rw [hstep]; rfl
  ·have hin : i = ws.length := by simp at hc; omega
   rw [hin, List.take_length] at h
   refine c_exit ?_
   refine c_seq (c_region ?_)
   refine r_v (q_moveS rfl) rfl ?_; refine r_v (q_moveB rfl) rfl ?_; refine r_v (q_assignS rfl) rfl ?_; refine r_v (q_assignB rfl) rfl ?_
   refine r_nil (c_ret (bq2 ⟨a, c1, ?_, (h.f 1).drop⟩))
   show Value.tuple [Value.slice a (bigL (ws.take i)).length c1, _].toArray = _
   rw [hin, List.take_length]
   rfl
 have hn2 : ¬ tag = 2 := by simpa using hc2
 refine c_seq (c_region ?_)
 refine r_v (q_eql rfl rfl) rfl ?_; refine r_v (q_assignB rfl) rfl ?_
 refine r_nil ?_
 refine c_cond (tag == 3) rfl (fun hc => ?_) (fun hc3 => ?_)
 ·have hv : valuesEnc tag u = some (runsEnc u) := by unfold valuesEnc; rw [if_neg hn1, if_neg hn2, if_pos (by simpa using hc)]
  unfold TellV
  rw [hv]
  refine c_seq (c_region ?_)
  refine r_v (q_moveS rfl) rfl ?_
  refine r_c rfl (x_call rfl (ref4_Runs hu hn hr h) ?_)
  rintro _ w ⟨a, c', rfl, h⟩
  refine r_v (q_assignS rfl) rfl ?_; refine r_v (q_assignB rfl) rfl ?_
  exact r_nil (c_ret (bq2 ⟨a, c', rfl, h⟩))
 have hn3 : ¬ tag = 3 := by simpa using hc3
 refine c_seq (c_region ?_)
 refine r_v (q_eql rfl rfl) rfl ?_; refine r_v (q_assignB rfl) rfl ?_
 refine r_nil ?_
 refine c_cond (tag == 4) rfl (fun hc => ?_) (fun hc4 => ?_)
 ·have hv : valuesEnc tag u = some (frameEnc u) := by unfold valuesEnc; rw [if_neg hn1, if_neg hn2, if_neg hn3, if_pos (by simpa using hc)]
  unfold TellV
  rw [hv]
  refine c_seq (c_region ?_)
  refine r_v (q_moveS rfl) rfl ?_
  refine r_c rfl (x_call rfl (ref4_Frame hu hn hr h) ?_)
  rintro _ w ⟨a, c', rfl, h⟩
  refine r_v (q_assignS rfl) rfl ?_; refine r_v (q_assignB rfl) rfl ?_
  exact r_nil (c_ret (bq2 ⟨a, c', rfl, h⟩))
 have hn4 : ¬ tag = 4 := by simpa using hc4
 refine c_seq (c_region ?_)
 refine r_v (q_eql rfl rfl) rfl ?_; refine r_v (q_assignB rfl) rfl ?_
 refine r_nil ?_
 refine c_cond (tag == 5) rfl (fun hc => ?_) (fun hc5 => ?_)
 ·have hv : valuesEnc tag u = dictEnc u := by unfold valuesEnc; rw [if_neg hn1, if_neg hn2, if_neg hn3, if_neg hn4, if_pos (by simpa using hc)]
  unfold TellV
  rw [hv]
  refine c_seq (c_region ?_)
  refine r_v (q_moveS rfl) rfl ?_
  refine r_c rfl (x_call rfl (ref4_Dict hu hn hr h) ?_)
  rintro _ w ⟨a, c', rfl, h⟩
  refine r_v (q_ext rfl rfl) rfl ?_; refine r_v (q_ext rfl rfl) rfl ?_; refine r_v (q_assignS rfl) rfl ?_; refine r_v (q_assignB rfl) rfl ?_
  exact r_nil (c_ret (bq2 ⟨a, c', rfl, h⟩))
 have hn5 : ¬ tag = 5 := by simpa using hc5
 refine c_seq (c_region ?_)
 refine r_v (q_eql rfl rfl) rfl ?_; refine r_v (q_assignB rfl) rfl ?_
 refine r_nil ?_
 refine c_cond (tag == 6) rfl (fun hc => ?_) (fun hc6 => ?_)
 ·have hv : valuesEnc tag u = sameEnc u := by unfold valuesEnc; rw [if_neg hn1, if_neg hn2, if_neg hn3, if_neg hn4, if_neg hn5, if_pos (by simpa using hc)]
  unfold TellV
  rw [hv]
  refine c_seq (c_seq (c_region ?_))
  refine r_v (q_moveS rfl) rfl ?_; refine r_v (q_len rfl) rfl ?_; refine r_v (q_eql rfl rfl) rfl ?_
  cases u with
  | nil =>
   refine r_is (.bool true) rfl ?_
   refine r_nil (c_true rfl ?_)
   refine c_seq (c_region ?_)
   refine r_v (q_assignS rfl) rfl ?_; refine r_v (q_assignB rfl) rfl ?_
   exact r_nil (c_ret (bq2 ⟨none, 0, rfl, St.ownNil _ _ h⟩))
  | cons x r =>
  have hx := hu x (List.mem_cons_self ..)
  have hgx : (x :: r)[0]? = some x := rfl
  have hpos : 0 < (x :: r).length := by simp
  refine r_is (.bool false) (by simp; omega) ?_
  refine r_nil (c_false rfl (c_skip ?_))
  obtain ⟨b, o, hsl⟩ := (hr.at_ h).some hpos
  refine c_cut (Γ := Unit) (fun _ => [(1, .slice sl (x :: r).length c)]) (fun _ w => (r.all fun y => decide (y = x)) = true ∧ St w0 l w) ?_ ?_
  ·refine c_seq (c_region ?_)
   refine r_v (q_assignI rfl) rfl ?_
   refine r_nil ?_
   refine c_block ?_
   refine c_loop (Γ := Nat) (fun k => [(1, .slice sl (x :: r).length c), (12, .int .i64 k)]) (fun k w => k ≤ (x :: r).length ∧ (∀ y ∈ (x :: r).take k, y = x) ∧ St w0 l w) (fun k => (x :: r).length - k) 0 ⟨rfl, rfl, trivial⟩ ⟨Nat.zero_le _, (fun _ h => by cases h), h⟩ ?_
   clear h
   rintro k w e ⟨hk, hall, h⟩
   refine c_seq (c_seq (c_region ?_))
   refine r_v (q_moveI rfl) rfl ?_; refine r_v (q_moveS rfl) rfl ?_; refine r_v (q_len rfl) rfl ?_; refine r_v (q_lss rfl rfl) rfl ?_
   refine r_nil ?_
   refine c_cond (decide ((k : Int) < ((x :: r).length : Int))) rfl (fun hc => ?_) (fun hc => ?_)
   ·have hlt : k < (x :: r).length := by simp at hc ⊢; omega
    have hg := List.getElem?_eq_getElem hlt
    have hgm : (x :: r)[k] ∈ x :: r := List.getElem_mem _
    generalize (x :: r)[k] = y at hg hgm
    refine c_skip ?_
    refine c_seq (c_block ?_)
    refine c_seq (c_any none (fun w => St w0 l w) (by kernel_rfl) (by kernel_rfl) h.drew fun w h => ?_)
    refine cur_pure rfl rfl rfl rfl (fun _ => h) (fun _ => flt_v rfl (q_moveS rfl)) ?_; refine cur_pure rfl rfl rfl rfl (fun _ => h) (fun _ => flt_v rfl (q_moveI rfl)) ?_
    refine cur_pure rfl rfl rfl rfl (fun _ => h) (fun _ => flt_v rfl (q_idx (b := b) (o := o) (m := (x :: r).length) (c := c) (o' := o + k) (by rw [← hsl]; rfl) rfl rfl hlt (by simp))) ?_
    refine cur_float rfl rfl rfl rfl h (fun w h => flt_v rfl (q_loadc (v := .int .u64 y) rfl ((hsl ▸ hr.at_ h).cell (u64V_get hg)))) ?_
    refine cur_pure rfl rfl rfl rfl (fun _ => h) (fun _ => flt_v rfl (q_moveS rfl)) ?_
    refine cur_pure rfl rfl rfl rfl (fun _ => h) (fun _ => flt_v rfl (q_idx (b := b) (o := o) (m := (x :: r).length) (c := c) (j := 0) (o' := o + 0) (by rw [← hsl]; rfl) rfl rfl hpos (by simp))) ?_
    refine cur_float rfl rfl rfl rfl h (fun w h => flt_v rfl (q_loadc (v := .int .u64 x) rfl ((hsl ▸ hr.at_ h).cell (u64V_get hgx)))) ?_
    refine cur_pure rfl rfl rfl rfl (fun _ => h) (fun _ => flt_v rfl (q_neq rfl rfl)) ?_
    refine cur_end ?_
    refine c_cond ((y : Int) != (x : Int)) rfl (fun hc => ?_) (fun hc => ?_)
    ·have hyx : y ≠ x := by rw [bne_iff_ne] at hc; omega
     have e1 : sameEnc (x :: r) = none := by
      rw [sameEnc, if_neg]
      intro hh
      rcases List.mem_cons.1 hgm with h1 | h1
      ·exact hyx h1
      ·exact hyx (by simpa using List.all_eq_true.1 hh y h1)
     rw [e1]
     refine c_seq (c_region ?_)
     refine r_v (q_assignS rfl) rfl ?_; refine r_v (q_assignB rfl) rfl ?_
     exact r_nil (c_ret (bq2 ⟨none, 0, rfl, St.ownNil _ _ h⟩))
    ·have hyx : y = x := by rw [bne_eq_false_iff_eq] at hc; omega
     refine c_skip ?_
     refine c_region ?_
     refine r_v (q_moveI rfl) rfl ?_; refine r_v (q_add rfl rfl) rfl ?_
     refine r_is (.int .i64 ((k + 1 : Nat) : Int)) (by rw [wrap64 (by omega) (by omega)]; rfl) ?_
     refine r_v (q_assignI rfl) rfl ?_
     refine r_nil ⟨k + 1, ⟨rfl, rfl, trivial⟩, ⟨hlt, fun z hz => ?_, h⟩, by omega⟩
     rw [List.take_add_one, hg] at hz
     rcases List.mem_append.1 hz with hz | hz
     ·exact hall z hz
     ·have : z = y := by simpa using hz
      rw [this, hyx]
   ·obtain rfl : k = (x :: r).length := by simp at hc hk ⊢; omega
    rw [List.take_length] at hall
    refine c_exit ⟨(), ⟨rfl, trivial⟩, ?_, h⟩
    exact List.all_eq_true.2 fun y hy => by simpa using hall y (List.mem_cons_of_mem _ hy)
  clear h
  rintro ⟨⟩ w e ⟨hall, h⟩
  rw [sameEnc, if_pos hall]
  refine c_seq (c_region ?_)
  refine r_v (q_moveS rfl) rfl ?_
  refine r_v (q_idx (b := b) (o := o) (m := (x :: r).length) (c := c) (j := 0) (o' := o + 0) (by rw [← hsl]; rfl) rfl rfl hpos (by simp)) rfl ?_
  refine r_v (q_loadc (v := .int .u64 x) rfl ((hsl ▸ hr.at_ h).cell (u64V_get hgx))) rfl ?_
  refine r_c rfl (x_call rfl (ref1_Put (bs := []) x hx h (fun w' h' => Reads.nil.at_ h') (by simp)) ?_)
  rintro _ w ⟨a1, c1, rfl, h⟩
  rw [List.nil_append] at h ⊢
  refine r_v (q_assignS rfl) rfl ?_; refine r_v (q_assignB rfl) rfl ?_
  exact r_nil (c_ret (bq2 ⟨a1, c1, rfl, h⟩))
 have hn6 : ¬ tag = 6 := by simpa using hc6
 have hv : valuesEnc tag u = none := by unfold valuesEnc; rw [if_neg hn1, if_neg hn2, if_neg hn3, if_neg hn4, if_neg hn5, if_neg hn6]
 unfold TellV
 rw [hv]
 refine c_skip ?_
 refine c_seq (c_region ?_)
 refine r_v (q_assignS rfl) rfl ?_; refine r_v (q_assignB rfl) rfl ?_
 exact r_nil (c_ret (bq2 ⟨none, 0, rfl, St.ownNil _ _ h⟩))
theorem ref10_Rising {sl : Option Addr} {c : Nat} {L : List Smp} (hn : L.length ≤ 1073741824) (hr : Reads w0 l 2 sl L.length (smpsV L)) (h : St w0 l w) :
  Ret Tryz.prog 9 [.slice sl L.length c] w fun v w' => v = .bool (rising L) ∧ St w0 l w' := by
 refine enter Tryz.func9 rfl Tryz.results9 Tryz.ntmps9 rfl ?_
 refine c_seq (c_region ?_)
 refine r_v (q_assignB rfl) rfl ?_
 refine r_nil ?_
 refine c_seq (c_seq (c_region ?_))
 refine r_v (q_assignI rfl) rfl ?_
 refine r_nil ?_
 refine c_block ?_
 refine c_loop (Γ := Nat) (fun k => [(0, .slice sl L.length c), (3, .int .i64 ((k + 1 : Nat) : Int))]) (fun k w => (L = [] ∨ (k < L.length ∧ ∀ s, L[k]? = some s → rises L = risesA s.T (L.drop (k + 1)))) ∧ St w0 l w) (fun k => L.length - k) 0 ⟨rfl, rfl, trivial⟩ ⟨by
  cases L with
  | nil => exact .inl rfl
  | cons s r => exact .inr ⟨by simp, fun x hx => by simp at hx; subst hx; rfl⟩, h⟩ ?_
 clear h
 rintro k w e ⟨inv, h⟩
 refine c_seq (c_seq (c_region ?_))
 refine r_v (q_moveI rfl) rfl ?_; refine r_v (q_moveS rfl) rfl ?_; refine r_v (q_len rfl) rfl ?_; refine r_v (q_lss rfl rfl) rfl ?_
 by_cases hlt : k + 1 < L.length
 ·refine r_is (.bool true) (by simp; omega) ?_
  refine r_nil (c_true rfl (c_skip ?_))
  rcases inv with inv | ⟨hk, inv⟩
  ·rw [inv] at hlt; simp at hlt
  have hg0 := List.getElem?_eq_getElem hk
  have hg := List.getElem?_eq_getElem hlt
  have hdr := List.drop_eq_getElem_cons hlt
  generalize L[k + 1] = s1 at hg hdr
  have he := inv _ hg0
  generalize L[k] = s0 at hg0 he
  rw [hdr, risesA] at he
  obtain ⟨b, o, hsl⟩ := (hr.at_ h).some (by omega)
  have hat1 : ∀ {w'}, St w0 l w' → w'.cell? ⟨b, o + (k + 1) * 2 + 0, none⟩ = some (.int .i64 s1.T) := fun h' => (hsl ▸ hr.at_ h').elem smp_len hg 0 _ rfl
  have hat0 : ∀ {w'}, St w0 l w' → w'.cell? ⟨b, o + k * 2 + 0, none⟩ = some (.int .i64 s0.T) := fun h' => (hsl ▸ hr.at_ h').elem smp_len hg0 0 _ rfl
  refine c_seq (c_block ?_)
  refine c_seq (c_any none (fun w => St w0 _ w) (by kernel_rfl) (by kernel_rfl) h.drew fun w h => ?_)
  refine cur_pure rfl rfl rfl rfl (fun _ => h) (fun _ => flt_v rfl (q_moveS rfl)) ?_; refine cur_pure rfl rfl rfl rfl (fun _ => h) (fun _ => flt_v rfl (q_moveI rfl)) ?_
  refine cur_pure rfl rfl rfl rfl (fun _ => h) (fun _ => flt_v rfl (q_idx (b := b) (o := o) (m := L.length) (c := c) (o' := o + (k + 1) * 2) (by rw [← hsl]; rfl) rfl rfl hlt rfl)) ?_
  refine cur_pure rfl rfl rfl rfl (fun _ => h) (fun _ => flt_v rfl (q_fa rfl)) ?_
  refine cur_float rfl rfl rfl rfl h (fun w h => flt_v rfl (q_loadc (v := .int .i64 s1.T) rfl (hat1 h))) ?_
  refine cur_pure rfl rfl rfl rfl (fun _ => h) (fun _ => flt_v rfl (q_moveS rfl)) ?_; refine cur_pure rfl rfl rfl rfl (fun _ => h) (fun _ => flt_v rfl (q_moveI rfl)) ?_
  refine cur_pure rfl rfl rfl rfl (fun _ => h) (fun _ => flt_v rfl (q_is (v' := .int .i64 (k : Int)) (q_sub rfl rfl) (by rw [wrap64 (by omega) (by omega)]; congr 1; omega))) ?_
  refine cur_pure rfl rfl rfl rfl (fun _ => h) (fun _ => flt_v rfl (q_idx (b := b) (o := o) (m := L.length) (c := c) (o' := o + k * 2) (by rw [← hsl]; rfl) rfl rfl hk rfl)) ?_
  refine cur_pure rfl rfl rfl rfl (fun _ => h) (fun _ => flt_v rfl (q_fa rfl)) ?_
  refine cur_float rfl rfl rfl rfl h (fun w h => flt_v rfl (q_loadc (v := .int .i64 s0.T) rfl (hat0 h))) ?_
  refine cur_pure rfl rfl rfl rfl (fun _ => h) (fun _ => flt_v rfl (q_leq rfl rfl)) ?_
  refine cur_end ?_
  refine c_cond (decide (s1.T ≤ s0.T)) rfl (fun hc => ?_) (fun hc => ?_)
  ·
   refine c_seq (c_region ?_)
   refine r_v (q_assignB rfl) rfl ?_
   refine r_nil ?_
   refine c_ret (bq1 ⟨?_, h⟩)
   have : rising L = false := by
    unfold rising
    rw [he, show decide (s0.T < s1.T) = false by rw [decide_eq_true_eq] at hc; rw [decide_eq_false_iff_not]; omega]
    rfl
   rw [this]; rfl
  ·rw [show decide (s0.T < s1.T) = true by rw [decide_eq_false_iff_not] at hc; rw [decide_eq_true_eq]; omega, Bool.true_and] at he
   refine c_skip ?_
   refine c_region ?_
   refine r_v (q_moveI rfl) rfl ?_; refine r_v (q_add rfl rfl) rfl ?_
   refine r_is (.int .i64 ((k + 1 + 1 : Nat) : Int)) (by rw [wrap64 (by omega) (by omega)]; rfl) ?_
   refine r_v (q_assignI rfl) rfl ?_
   refine r_nil ⟨k + 1, ⟨rfl, rfl, trivial⟩, ⟨.inr ⟨hlt, fun s hs => ?_⟩, h⟩, by omega⟩
   rw [hg] at hs; cases hs
   exact he
 refine r_is (.bool false) (by simp; omega) ?_
 refine r_nil (c_false rfl ?_)
 have hrise : rises L = true := by
  rcases inv with inv | ⟨hk, inv⟩
  ·rw [inv]; rfl
  ·have := inv _ (List.getElem?_eq_getElem hk)
   rw [this, show k + 1 = L.length by omega, List.drop_length]; rfl
 refine c_exit ?_
 refine c_seq (c_region ?_)
 refine r_v (q_moveS rfl) rfl ?_; refine r_v (q_len rfl) rfl ?_; refine r_v (q_leq rfl rfl) rfl ?_; refine r_v (q_assignB rfl) rfl ?_
 refine r_nil ?_
 refine c_ret (bq1 ⟨?_, h⟩)
 show Value.bool (decide ((L.length : Int) ≤ 65535)) = _
 unfold rising
 rw [hrise, Bool.true_and]
 congr 1
 rw [decide_eq_decide]
 omega


theorem ref10_Encode (tag : Int) {sl : Option Addr} {c : Nat} {L : List Smp} (hw : ∀ s ∈ L, s.Wf) (hn : L.length ≤ 65535) (hr : Reads w0 l 2 sl L.length (smpsV L)) (h : St w0 l w) :
  Ret Tryz.prog 13 [.int .i64 tag, .slice sl L.length c] w fun v w' => ∃ a c', v = .tuple [.slice a ((suitEnc tag L).getD []).length c', .bool (suitEnc tag L).isSome].toArray ∧ St w0 (OwnB a c' ((suitEnc tag L).getD []) :: l) w' := by
 have hvl : (valsOf L).length = L.length := by simp [valsOf]
 have hvlt := valsOf_lt hw
 have htl : (timesOf L).length = L.length := by simp [timesOf]
 have hvel := valuesEnc_len (tag := tag) (u := valsOf L) (by omega) hvlt
 refine enter Tryz.func13 rfl Tryz.results13 Tryz.ntmps13 rfl ?_
 refine c_seq (c_region ?_)
 refine r_v (q_assignS rfl) rfl ?_; refine r_v (q_assignB rfl) rfl ?_
 refine r_nil ?_
 refine c_seq (c_region ?_)
 refine r_v (q_moveI rfl) rfl ?_; refine r_v (q_moveS rfl) rfl ?_
 refine r_c rfl (x_call rfl (ref10_values hw hn hr h) ?_)
 rintro _ w ⟨va, vc, rfl, _, h⟩
 refine r_c rfl (x_call rfl (ref10_told tag hvlt (by omega) Reads.own h) ?_)
 rintro _ w ⟨ba, bc, rfl, h⟩
 replace h := (h.f 1).drop
 refine r_v (q_moveT rfl) rfl ?_; refine r_v (q_ext rfl rfl) rfl ?_; refine r_v (q_ext rfl rfl) rfl ?_; refine r_v (q_assignS rfl) rfl ?_; refine r_v (q_assignB rfl) rfl ?_
 refine r_nil ?_
 refine c_seq (c_seq (c_region ?_))
 cases hE : valuesEnc tag (valsOf L) with
 | none =>
  have hS : suitEnc tag L = none := by unfold suitEnc; rw [hE]; split <;> rfl
  rw [hS]
  rw [hE] at h
  show Rn _ _ _ _ _ (upd (upd _ 6 (.slice ba 0 bc)) 7 (.bool false)) _
  refine r_v (q_moveB rfl) rfl ?_; refine r_v (q_not rfl) rfl ?_; refine r_v (q_moveB rfl) rfl ?_; refine r_gn rfl rfl rfl ?_; refine r_gn rfl rfl rfl ?_; refine r_gn rfl rfl rfl ?_; refine r_v (q_pick1 rfl rfl rfl) rfl ?_
  refine r_nil (c_true rfl ?_)
  refine c_seq (c_region ?_)
  refine r_v (q_assignS rfl) rfl ?_; refine r_v (q_assignB rfl) rfl ?_
  exact r_nil (c_ret (bq2 ⟨none, 0, rfl, St.ownNil _ _ h.drop⟩))
 | some vb =>
 rw [hE] at h hvel
 replace h : St w0 (OwnB ba bc vb :: l) w := h
 have hvel : vb.length ≤ 2000000 := hvel
 show Rn _ _ _ _ _ (upd (upd _ 6 (.slice ba vb.length bc)) 7 (.bool true)) _
 refine r_v (q_moveB rfl) rfl ?_; refine r_v (q_not rfl) rfl ?_; refine r_v (q_moveB rfl) rfl ?_; refine r_gd rfl rfl ?_; refine r_v (q_moveS rfl) rfl ?_; refine r_gd rfl rfl ?_
 refine r_c rfl (x_call rfl (ref10_Rising (by omega) hr.cons h) ?_)
 rintro _ w ⟨rfl, h⟩
 cases hR : rising L with
 | false =>
  have hS : suitEnc tag L = none := by unfold suitEnc; rw [hR]; rfl
  rw [hS]
  refine r_gd rfl rfl ?_; refine r_v (q_not rfl) rfl ?_; refine r_v (q_pick0 rfl rfl rfl) rfl ?_
  refine r_nil (c_true rfl ?_)
  refine c_seq (c_region ?_)
  refine r_v (q_assignS rfl) rfl ?_; refine r_v (q_assignB rfl) rfl ?_
  exact r_nil (c_ret (bq2 ⟨none, 0, rfl, St.ownNil _ _ h.drop⟩))
 | true =>
 have hS : suitEnc tag L = some (suitBytes L vb) := by unfold suitEnc; rw [hR, hE]; rfl
 rw [hS]
 refine r_gd rfl rfl ?_; refine r_v (q_not rfl) rfl ?_; refine r_v (q_pick0 rfl rfl rfl) rfl ?_
 refine r_nil (c_false rfl (c_skip ?_))
 refine c_seq (c_region ?_)
 refine r_v (q_build (r := [.slice none 0 0]) rfl) rfl ?_
 refine r_c rfl (x_box h (show _ = Value.agg [.slice none 0 0].toArray from rfl) fun p w h => ?_)
 replace h : St w0 (IsRW p [] :: OwnB ba bc vb :: l) w := St.rw_new h
 refine r_v (q_assignP rfl) rfl ?_
 refine r_nil ?_
 refine c_seq (c_region ?_)
 refine r_v (q_assignS rfl) rfl ?_
 refine r_nil ?_
 refine c_cut (Γ := Option Addr × Nat) (fun q => [(6, .slice ba vb.length bc), (8, .pointer (some ⟨p, 0, none⟩)), (9, .slice q.1 (timesOf L).length q.2)])
  (fun q w => St w0 (IsRW p [] :: Own 2 1 q.1 (timesOf L).length q.2 (i64V (timesOf L)) :: OwnB ba bc vb :: l) w) ?_ ?_
 ·refine c_seq (c_region ?_)
  refine r_v (q_assignI rfl) rfl ?_
  refine r_nil ?_
  refine c_block ?_
  refine c_loop (Γ := Nat × Option Addr × Nat) (fun k => [(1, .slice sl L.length c), (6, .slice ba vb.length bc), (8, .pointer (some ⟨p, 0, none⟩)), (9, .slice k.2.1 (timesOf (L.take k.1)).length k.2.2), (10, .int .i64 k.1)])
   (fun k w => k.1 ≤ L.length ∧ St w0 (Own 2 1 k.2.1 (timesOf (L.take k.1)).length k.2.2 (i64V (timesOf (L.take k.1))) :: IsRW p [] :: OwnB ba bc vb :: l) w) (fun k => L.length - k.1) (0, none, 0) ⟨rfl, rfl, rfl, rfl, rfl, trivial⟩ ⟨Nat.zero_le _, St.ownNil _ _ h⟩ ?_
  clear h
  rintro ⟨k, oa, oc⟩ w e ⟨hk, h⟩
  dsimp only at hk h ⊢
  refine c_seq (c_seq (c_region ?_))
  refine r_v (q_moveI rfl) rfl ?_; refine r_v (q_moveS rfl) rfl ?_; refine r_v (q_len rfl) rfl ?_; refine r_v (q_lss rfl rfl) rfl ?_
  refine r_nil ?_
  refine c_cond (decide ((k : Int) < (L.length : Int))) rfl (fun hc => ?_) (fun hc => ?_)
  ·have hlt : k < L.length := by simp at hc; omega
   have hg := List.getElem?_eq_getElem hlt
   generalize L[k] = s at hg
   have hkl : (timesOf (L.take k)).length = k := by unfold timesOf; simp; omega
   have hvs : timesOf (L.take (k + 1)) = timesOf (L.take k) ++ [s.T] := by rw [List.take_add_one, hg]; simp [timesOf]
   obtain ⟨b, o, hsl⟩ := (hr [_, _, _] _ h).some (by omega)
   refine c_skip ?_
   refine c_seq (c_block ?_)
   refine c_region ?_
   refine r_v (q_moveS rfl) rfl ?_; refine r_v (q_moveS rfl) rfl ?_; refine r_v (q_moveI rfl) rfl ?_
   refine r_v (q_idx (b := b) (o := o) (m := L.length) (c := c) (o' := o + k * 2) (by rw [← hsl]; rfl) rfl rfl hlt rfl) rfl ?_
   refine r_v (q_fa rfl) rfl ?_
   refine r_v (q_loadc (v := .int .i64 s.T) rfl ((hsl ▸ hr [_, _, _] _ h).elem smp_len hg 0 _ rfl)) rfl ?_
   refine r_app1 (v := .int .i64 s.T) (m3 := (timesOf (L.take (k + 1))).length) (zs := i64V (timesOf (L.take (k + 1)))) h rfl rfl rfl rfl rfl (by rw [hvs]; simp) (by rw [hvs]; simp [i64V, vcells]) (by rw [hvs]; simp; omega) (by rw [hvs]; simp; omega) rfl rfl rfl rfl rfl fun b a' c' w _ h => ?_
   refine r_v (q_assignS rfl) rfl ?_
   refine r_nil ?_
   refine c_region ?_
   refine r_v (q_moveI rfl) rfl ?_; refine r_v (q_add rfl rfl) rfl ?_
   refine r_is (.int .i64 ((k + 1 : Nat) : Int)) (by rw [wrap64 (by omega) (by omega)]; rfl) ?_
   refine r_v (q_assignI rfl) rfl ?_
   exact r_nil ⟨(k + 1, a', c'), ⟨rfl, rfl, rfl, rfl, rfl, trivial⟩, ⟨hlt, h⟩, by dsimp only; omega⟩
  ·obtain rfl : k = L.length := by simp at hc; omega
   rw [List.take_length] at h
   refine c_exit ⟨(oa, oc), ⟨rfl, rfl, ?_, trivial⟩, h.f 1⟩
   show Value.slice oa (timesOf (L.take L.length)).length oc = _
   rw [List.take_length]
 clear h
 rintro ⟨ta, tc⟩ w e h
 dsimp only at h ⊢
 have htb := timesBits_len (timesOf L)
 have hpl := pack_len (timesBits (timesOf L))
 refine c_seq (c_region ?_)
 refine r_v (q_moveP rfl) rfl ?_; refine r_v (q_moveS rfl) rfl ?_
 refine r_c rfl (x_call rfl (ref4_Times (timesOf_wf hw) (by omega) (by decide) h Reads.own) ?_)
 rintro _ w ⟨rfl, h⟩
 rw [List.nil_append] at h
 refine r_nil ?_
 refine c_seq (c_region ?_)
 refine r_v (q_moveP rfl) rfl ?_
 refine r_c rfl (x_call rfl (rw_Bytes (by omega) h) ?_)
 rintro _ w ⟨xa, xc, rfl, h⟩
 replace h := ((h.f 1).drop.f 1).drop
 refine r_v (q_assignS rfl) rfl ?_
 refine r_nil ?_
 have hsb : suitBytes L vb = vput (pack (timesBits (timesOf L))).length ++ (pack (timesBits (timesOf L)) ++ vb) := rfl
 generalize pack (timesBits (timesOf L)) = tb at *
 have hvp := vput_len tb.length
 rw [hsb]
 refine c_seq (c_region ?_)
 refine r_v (q_moveS rfl) rfl ?_; refine r_v (q_len rfl) rfl ?_; refine r_v (q_conv rfl) rfl ?_
 refine r_is (.int .u64 (tb.length : Int)) (by rw [wrap_u64, Nat.mod_eq_of_lt (by omega)]) ?_
 refine r_c rfl (x_call rfl (ref1_Put (bs := []) tb.length (by omega) h (fun w' h' => Reads.nil.at_ h') (by simp)) ?_)
 rintro _ w ⟨a1, c1, rfl, h⟩
 rw [List.nil_append] at h ⊢
 refine r_v (q_moveS rfl) rfl ?_
 refine r_c rfl (x_append' (ys := bytesV tb) (zs := bytesV (vput tb.length ++ tb)) (m3 := (vput tb.length ++ tb).length) h rfl rfl (h.f 1).own_rd (bytesV_one _) (by simp) (by simp [bytesV]) (by simp; omega) (by simp; omega) rfl fun a2 c2 w _ h => ?_)
 refine r_v (q_moveS rfl) rfl ?_
 refine r_c rfl (x_append' (ys := bytesV vb) (zs := bytesV (vput tb.length ++ (tb ++ vb))) (m3 := (vput tb.length ++ (tb ++ vb)).length) h rfl rfl (h.f 2).own_rd (bytesV_one _) (by simp; omega) (by simp [bytesV]) (by simp; omega) (by simp; omega) rfl fun a3 c3 w _ h => ?_)
 refine r_v (q_assignS rfl) rfl ?_; refine r_v (q_assignB rfl) rfl ?_
 exact r_nil (c_ret (bq2 ⟨a3, c3, rfl, ((h.f 1).drop.f 1).drop⟩))

theorem ref10_Best {sl : Option Addr} {c : Nat} {L : List Smp} (hw : ∀ s ∈ L, s.Wf) (hn : L.length ≤ 65535) (hr : Reads w0 l 2 sl L.length (smpsV L)) (h : St w0 l w) :
  Ret Tryz.prog 11 [.slice sl L.length c] w fun v w' => ∃ a c', v = .tuple [.int .i64 (suitBest L).1, .slice a (suitBest L).2.length c'].toArray ∧ St w0 (OwnB a c' (suitBest L).2 :: l) w' := by
 refine enter Tryz.func11 rfl Tryz.results11 Tryz.ntmps11 rfl ?_
 refine c_seq (c_region ?_)
 refine r_v (q_assignI rfl) rfl ?_; refine r_v (q_assignS rfl) rfl ?_
 refine r_nil ?_
 refine c_seq (c_region ?_)
 refine r_v (q_assignI rfl) rfl ?_
 refine r_nil ?_
 refine c_seq (c_region ?_)
 refine r_v (q_assignS rfl) rfl ?_
 refine r_nil ?_
 refine c_seq (c_seq (c_region ?_))
 refine r_v (q_assignI rfl) rfl ?_
 refine r_nil ?_
 refine c_block ?_
 refine c_loop (Γ := Nat × Int × List UInt8 × Option Addr × Nat) (fun k => [(0, .slice sl L.length c), (4, .int .i64 k.2.1), (5, .slice k.2.2.2.1 k.2.2.1.length k.2.2.2.2), (6, .int .i64 ((k.1 + 1 : Nat) : Int))])
  (fun k w => k.1 ≤ 6 ∧ bestA L (([1, 2, 3, 4, 5, 6] : List Int).drop k.1) k.2.1 k.2.2.1 = suitBest L ∧ St w0 (OwnB k.2.2.2.1 k.2.2.2.2 k.2.2.1 :: l) w) (fun k => 6 - k.1) (0, 0, [], none, 0) ⟨rfl, rfl, rfl, rfl, trivial⟩ ⟨Nat.zero_le _, rfl, St.ownNil _ _ h⟩ ?_
 clear h
 rintro ⟨k, best, out, a, c1⟩ w e ⟨hk, he, h⟩
 dsimp only at hk he h ⊢
 refine c_seq (c_seq (c_region ?_))
 refine r_v (q_moveI rfl) rfl ?_; refine r_v (q_leq rfl rfl) rfl ?_
 by_cases hlt : k < 6
 ·refine r_is (.bool true) (by simp; omega) ?_
  refine r_nil (c_true rfl (c_skip ?_))
  rw [tags_drop hlt, bestA] at he
  refine c_cut (Γ := Int × List UInt8 × Option Addr × Nat) (fun q => [(0, .slice sl L.length c), (4, .int .i64 q.1), (5, .slice q.2.2.1 q.2.1.length q.2.2.2), (6, .int .i64 ((k + 1 : Nat) : Int))])
   (fun q w => bestA L (([1, 2, 3, 4, 5, 6] : List Int).drop (k + 1)) q.1 q.2.1 = suitBest L ∧ St w0 (OwnB q.2.2.1 q.2.2.2 q.2.1 :: l) w) ?_ ?_
  ·refine c_block ?_
   refine c_seq (c_region ?_)
   refine r_v (q_moveI rfl) rfl ?_; refine r_v (q_moveS rfl) rfl ?_
   refine r_c rfl (x_call rfl (ref10_Encode ((k + 1 : Nat) : Int) hw hn hr.cons h) ?_)
   rintro _ w ⟨a2, c2, rfl, h⟩
   refine r_v (q_moveT rfl) rfl ?_; refine r_v (q_ext rfl rfl) rfl ?_; refine r_v (q_ext rfl rfl) rfl ?_; refine r_v (q_assignS rfl) rfl ?_; refine r_v (q_assignB rfl) rfl ?_
   refine r_nil ?_
   refine c_seq (c_region ?_)
   cases hE : suitEnc ((k + 1 : Nat) : Int) L with
   | none =>
    rw [hE] at he h
    refine r_v (q_moveB rfl) rfl ?_; refine r_v (q_moveB rfl) rfl ?_; refine r_gn rfl rfl rfl ?_; refine r_gn rfl rfl rfl ?_; refine r_gn rfl rfl rfl ?_; refine r_gu rfl rfl ?_; refine r_gu rfl rfl ?_; refine r_gu rfl rfl ?_; refine r_gu rfl rfl ?_; refine r_gu rfl rfl ?_; refine r_gn rfl rfl rfl ?_; refine r_v (q_pick0 rfl rfl rfl) rfl ?_
    refine r_nil (c_false rfl (c_skip ?_))
    exact ⟨(best, out, a, c1), ⟨rfl, rfl, rfl, rfl, trivial⟩, he, h.drop⟩
   | some b =>
    rw [hE] at he h
    dsimp only at he
    have take : (best = 0 ∨ b.length < out.length) → bestA L (([1, 2, 3, 4, 5, 6] : List Int).drop (k + 1)) ((k + 1 : Nat) : Int) b = suitBest L := fun hh => by rw [if_pos hh] at he; exact he
    by_cases hb : best = 0
    ·refine r_v (q_moveB rfl) rfl ?_; refine r_v (q_moveB rfl) rfl ?_; refine r_gd rfl rfl ?_; refine r_v (q_moveI rfl) rfl ?_; refine r_gd rfl rfl ?_
     refine r_v (q_is (v' := .bool true) (q_eql rfl rfl) (by rw [hb]; rfl)) rfl ?_
     refine r_gd rfl rfl ?_; refine r_v (q_moveB rfl) rfl ?_; refine r_gn rfl rfl rfl ?_; refine r_gn rfl rfl rfl ?_; refine r_gn rfl rfl rfl ?_; refine r_gn rfl rfl rfl ?_; refine r_gn rfl rfl rfl ?_; refine r_gd rfl rfl ?_; refine r_v (q_pick1 rfl rfl rfl) rfl ?_; refine r_v (q_pick1 rfl rfl rfl) rfl ?_
     refine r_nil (c_true rfl ?_)
     refine c_region ?_
     refine r_v (q_moveI rfl) rfl ?_; refine r_v (q_moveS rfl) rfl ?_; refine r_v (q_assignI rfl) rfl ?_; refine r_v (q_assignS rfl) rfl ?_
     exact r_nil ⟨(((k + 1 : Nat) : Int), b, a2, c2), ⟨rfl, rfl, rfl, rfl, trivial⟩, take (.inl hb), (h.f 1).drop⟩
    ·refine r_v (q_moveB rfl) rfl ?_; refine r_v (q_moveB rfl) rfl ?_; refine r_gd rfl rfl ?_; refine r_v (q_moveI rfl) rfl ?_; refine r_gd rfl rfl ?_
     refine r_v (q_is (v' := .bool false) (q_eql rfl rfl) (by congr 1; rw [beq_eq_false_iff_ne]; exact hb)) rfl ?_
     refine r_gd rfl rfl ?_; refine r_v (q_moveB rfl) rfl ?_; refine r_gd rfl rfl ?_; refine r_v (q_moveS rfl) rfl ?_; refine r_gd rfl rfl ?_; refine r_v (q_len rfl) rfl ?_; refine r_gd rfl rfl ?_; refine r_v (q_moveS rfl) rfl ?_; refine r_gd rfl rfl ?_; refine r_v (q_len rfl) rfl ?_; refine r_gd rfl rfl ?_; refine r_v (q_lss rfl rfl) rfl ?_; refine r_gd rfl rfl ?_; refine r_v (q_pick0 rfl rfl rfl) rfl ?_; refine r_v (q_pick1 rfl rfl rfl) rfl ?_
     refine r_nil (c_cond (decide ((b.length : Int) < (out.length : Int))) rfl (fun hc => ?_) (fun hc => ?_))
     ·refine c_region ?_
      refine r_v (q_moveI rfl) rfl ?_; refine r_v (q_moveS rfl) rfl ?_; refine r_v (q_assignI rfl) rfl ?_; refine r_v (q_assignS rfl) rfl ?_
      exact r_nil ⟨(((k + 1 : Nat) : Int), b, a2, c2), ⟨rfl, rfl, rfl, rfl, trivial⟩, take (.inr (by simpa using hc)), (h.f 1).drop⟩
     ·refine c_skip ⟨(best, out, a, c1), ⟨rfl, rfl, rfl, rfl, trivial⟩, ?_, h.drop⟩
      rw [if_neg] at he
      ·exact he
      ·rintro (h | h)
       ·exact hb h
       ·simp at hc; omega
  clear h he
  rintro ⟨best, out, a, c1⟩ w e ⟨he, h⟩
  dsimp only at he h ⊢
  refine c_region ?_
  refine r_v (q_moveI rfl) rfl ?_; refine r_v (q_add rfl rfl) rfl ?_
  refine r_is (.int .i64 ((k + 1 + 1 : Nat) : Int)) (by rw [wrap64 (by omega) (by omega)]; rfl) ?_
  refine r_v (q_assignI rfl) rfl ?_
  exact r_nil ⟨(k + 1, best, out, a, c1), ⟨rfl, rfl, rfl, rfl, trivial⟩, ⟨hlt, he, h⟩, by dsimp only; omega⟩
 refine r_is (.bool false) (by simp; omega) ?_
 refine r_nil (c_false rfl ?_)
 have hk6 : k = 6 := by omega
 subst hk6
 have he : (best, out) = suitBest L := he
 refine c_exit ?_
 refine c_seq (c_region ?_)
 refine r_v (q_moveI rfl) rfl ?_; refine r_v (q_moveS rfl) rfl ?_; refine r_v (q_assignI rfl) rfl ?_; refine r_v (q_assignS rfl) rfl ?_
 refine r_nil ?_
 rw [← he]
 exact c_ret (bq2 ⟨a, c1, rfl, h⟩)

theorem ref1_Entry {i : Nat} (hi : i < 4294967296) (h : St w0 l w) : Ret Tryz.prog 100 [.int .u32 i] w fun v w' => v = .int .u32 (crcByte i : Nat) ∧ St w0 l w' := by
 refine enter Tryz.func100 rfl Tryz.results100 Tryz.ntmps100 rfl ?_
 refine c_seq (c_region ?_)
 refine r_v (q_assignI rfl) rfl ?_
 refine r_nil ?_
 refine c_seq (c_seq (c_region ?_))
 refine r_v (q_assignI rfl) rfl ?_
 refine r_nil ?_
 refine c_block ?_
 refine c_loop (Γ := Nat) (fun k => [(0, .int .u32 (crcN k i : Nat)), (3, .int .i64 k)]) (fun k w => k ≤ 8 ∧ St w0 l w) (fun k => 8 - k) 0 ⟨rfl, rfl, trivial⟩ ⟨Nat.zero_le _, h⟩ ?_
 clear h
 rintro k w e ⟨hk, h⟩
 refine c_seq (c_seq (c_region ?_))
 refine r_v (q_moveI rfl) rfl ?_; refine r_v (q_lss rfl rfl) rfl ?_
 by_cases hk8 : k < 8
 ·refine r_is (.bool true) (by simp; omega) ?_
  refine r_nil (c_true rfl (c_skip ?_))
  have hcl := crcN_lt hi k
  have hstep : crcN (k + 1) i = crcBit (crcN k i) := rfl
  generalize crcN k i = c at hcl hstep
  refine c_cut (Γ := Unit) (fun _ => [(0, .int .u32 (crcN (k + 1) i : Nat)), (3, .int .i64 k)]) (fun _ w => St w0 l w) ?_ ?_
  ·refine c_block ?_
   refine c_seq (c_region ?_)
   refine r_v (q_moveI rfl) rfl ?_
   refine r_v (q_is (v' := .int .u32 ((c % 2 : Nat) : Int)) (q_and rfl rfl) (by rw [show bitOp .and .u32 (c : Int) 1 = ((c &&& 1 : Nat) : Int) from (bit_u32 hcl (by decide)).1, Nat.and_one_is_mod])) rfl ?_
   refine r_v (q_assignI rfl) rfl ?_
   refine r_nil ?_
   refine c_seq (c_region ?_)
   refine r_v (q_moveI rfl) rfl ?_
   refine r_v (q_is (v' := .int .u32 ((c / 2 : Nat) : Int)) (q_shr rfl rfl (by omega)) (congrArg (Value.int .u32) (fdiv_nat c 1 32 (by decide)))) rfl ?_
   refine r_v (q_assignI rfl) rfl ?_
   refine r_nil ?_
   refine c_seq (c_region ?_)
   refine r_v (q_moveI rfl) rfl ?_; refine r_v (q_eql rfl rfl) rfl ?_
   by_cases h1 : c % 2 = 1
   ·refine r_is (.bool true) (by rw [h1]; rfl) ?_
    refine r_nil (c_true rfl ?_)
    refine c_region ?_
    refine r_v (q_moveI rfl) rfl ?_; refine r_v (q_xor rfl rfl) rfl ?_
    refine r_is (.int .u32 ((crcN (k + 1) i : Nat) : Int)) (by rw [hstep, crcBit, if_pos h1]; exact congrArg (Value.int .u32) (bit_u32 (by omega) (by decide)).2) ?_
    refine r_v (q_assignI rfl) rfl ?_
    exact r_nil ⟨(), ⟨rfl, rfl, trivial⟩, h⟩
   ·refine r_is (.bool false) (by congr 1; rw [beq_eq_false_iff_ne]; omega) ?_
    refine r_nil (c_false rfl (c_skip ⟨(), ⟨?_, rfl, trivial⟩, h⟩))
    show Value.int .u32 ((c / 2 : Nat) : Int) = _
    rw [hstep, crcBit, if_neg h1]
  clear h
  rintro ⟨⟩ w e h
  refine c_region ?_
  refine r_v (q_moveI rfl) rfl ?_; refine r_v (q_add rfl rfl) rfl ?_
  refine r_is (.int .i64 ((k + 1 : Nat) : Int)) (by rw [wrap64 (by omega) (by omega)]; rfl) ?_
  refine r_v (q_assignI rfl) rfl ?_
  exact r_nil ⟨k + 1, ⟨rfl, rfl, trivial⟩, ⟨hk8, h⟩, by omega⟩
 ·refine r_is (.bool false) (by simp; omega) ?_
  obtain rfl : k = 8 := by omega
  refine r_nil (c_false rfl (c_exit ?_))
  refine c_seq (c_region ?_)
  refine r_v (q_moveI rfl) rfl ?_; refine r_v (q_assignI rfl) rfl ?_
  exact r_nil (c_ret (bq1 ⟨rfl, h⟩))
theorem ref1_Sum {sl : Option Addr} {c : Nat} {bs : List UInt8} (hn : bs.length ≤ 140737488355328) (hr : Reads w0 l 1 sl bs.length (bytesV bs)) (h : St w0 l w) :
  Ret Tryz.prog 55 [.slice sl bs.length c] w fun v w' => v = .int .u32 (crc bs : Int) ∧ St w0 l w' := by
 refine enter Tryz.func55 rfl Tryz.results55 Tryz.ntmps55 rfl ?_
 refine c_seq (c_region ?_)
 refine r_v (q_assignI rfl) rfl ?_
 refine r_nil ?_
 refine c_seq (c_region ?_)
 refine r_v (q_assignI rfl) rfl ?_
 refine r_nil ?_
 refine c_seq (c_seq (c_region ?_))
 refine r_v (q_assignI rfl) rfl ?_
 refine r_nil ?_
 refine c_block ?_
 refine c_loop (Γ := Nat × Nat) (fun k => [(0, .slice sl bs.length c), (3, .int .u32 (k.2 : Int)), (4, .int .i64 k.1)])
  (fun k w => k.1 ≤ bs.length ∧ k.2 < 4294967296 ∧ crcA k.2 (bs.drop k.1) = crcA 4294967295 bs ∧ St w0 l w) (fun k => bs.length - k.1) (0, 4294967295) ⟨rfl, rfl, rfl, trivial⟩ ⟨Nat.zero_le _, (by decide : (4294967295 : Nat) < 4294967296), rfl, h⟩ ?_
 clear h
 rintro ⟨i, s⟩ w e ⟨hi, hs, he, h⟩
 dsimp only at hi hs he h ⊢
 refine c_seq (c_seq (c_region ?_))
 refine r_v (q_moveI rfl) rfl ?_; refine r_v (q_moveS rfl) rfl ?_; refine r_v (q_len rfl) rfl ?_; refine r_v (q_lss rfl rfl) rfl ?_
 refine r_nil ?_
 refine c_cond (decide ((i : Int) < (bs.length : Int))) rfl (fun hc => ?_) (fun hc => ?_)
 ·have hlt : i < bs.length := by simp at hc; omega
  have hg := List.getElem?_eq_getElem hlt
  have hdr := List.drop_eq_getElem_cons hlt
  generalize bs[i] = x at hg hdr
  have hx := x.toNat_lt
  rw [hdr, crcA] at he
  have hst := crcStep_lt (x := x.toNat) hs hx
  unfold crcStep at he hst
  have hj : (s % 256) ^^^ x.toNat < 256 := xor8 (Nat.mod_lt _ (by decide)) hx
  have hbl := crcByte_lt hj
  have hxm : (s ^^^ x.toNat) % 256 = (s % 256) ^^^ x.toNat := by
   have := Nat.xor_mod_two_pow (a := s) (b := x.toNat) (n := 8)
   rw [show (2 : Nat) ^ 8 = 256 from rfl, Nat.mod_eq_of_lt hx] at this
   exact this
  obtain ⟨b, o, hsl⟩ := (hr.at_ h).some (by omega)
  refine c_skip ?_
  refine c_seq (c_block ?_)
  refine c_region ?_
  refine r_v (q_moveI rfl) rfl ?_; refine r_v (q_moveS rfl) rfl ?_; refine r_v (q_moveI rfl) rfl ?_
  refine r_v (q_idx (b := b) (o := o) (m := bs.length) (c := c) (o' := o + i) (by rw [← hsl]; rfl) rfl rfl hlt (by simp)) rfl ?_
  refine r_v (q_loadc (v := .int .u8 x.toNat) rfl ((hsl ▸ hr.at_ h).cell (bytesV_get hg))) rfl ?_
  refine r_v (q_conv rfl) rfl ?_
  refine r_is (.int .u32 (x.toNat : Int)) (by rw [wrap_u32, Nat.mod_eq_of_lt (by omega)]) ?_
  refine r_v (q_xor rfl rfl) rfl ?_
  refine r_is (.int .u32 ((s ^^^ x.toNat : Nat) : Int)) (congrArg (Value.int .u32) (bit_u32 hs (by omega)).2) ?_
  refine r_v (q_is (v' := .int .u32 (((s % 256) ^^^ x.toNat : Nat) : Int)) (q_and rfl rfl) (by
   rw [show bitOp .and .u32 ((s ^^^ x.toNat : Nat) : Int) 255 = (((s ^^^ x.toNat) &&& 255 : Nat) : Int) from (bit_u32 (Nat.xor_lt_two_pow (n := 32) hs (by omega)) (by decide)).1, show (s ^^^ x.toNat) &&& 255 = (s ^^^ x.toNat) % 256 from and_low _ 8, hxm])) rfl ?_
  refine r_c rfl (x_call rfl (ref1_Entry (by omega) h) ?_)
  rintro _ w ⟨rfl, h⟩
  generalize crcByte ((s % 256) ^^^ x.toNat) = tb at he hst hbl ⊢
  refine r_v (q_moveI rfl) rfl ?_
  refine r_v (q_is (v' := .int .u32 ((s / 2 ^ 8 : Nat) : Int)) (q_shr rfl rfl (by omega)) (congrArg (Value.int .u32) (fdiv_nat s 8 32 (by decide)))) rfl ?_
  refine r_v (q_xor rfl rfl) rfl ?_
  refine r_is (.int .u32 ((tb ^^^ (s / 256) : Nat) : Int)) (congrArg (Value.int .u32) (bit_u32 hbl (by omega)).2) ?_
  refine r_v (q_assignI rfl) rfl ?_
  refine r_nil ?_
  refine c_region ?_
  refine r_v (q_moveI rfl) rfl ?_; refine r_v (q_add rfl rfl) rfl ?_
  refine r_is (.int .i64 ((i + 1 : Nat) : Int)) (by rw [wrap64 (by omega) (by omega)]; rfl) ?_
  refine r_v (q_assignI rfl) rfl ?_
  exact r_nil ⟨(i + 1, tb ^^^ (s / 256)), ⟨rfl, rfl, rfl, trivial⟩, ⟨hlt, hst, he, h⟩, by dsimp only; omega⟩
 ·have hin : i = bs.length := by simp at hc; omega
  rw [hin, List.drop_length, crcA] at he
  refine c_exit ?_
  refine c_seq (c_region ?_)
  refine r_v (q_moveI rfl) rfl ?_; refine r_v (q_xor rfl rfl) rfl ?_
  refine r_is (.int .u32 ((s ^^^ 4294967295 : Nat) : Int)) (congrArg (Value.int .u32) (bit_u32 hs (by decide)).2) ?_
  refine r_v (q_assignI rfl) rfl ?_
  refine r_nil ?_
  exact c_ret (bq1 ⟨by unfold crc; rw [← he]; rfl, h⟩)

theorem ref10_Make (tag : Int) {sl : Option Addr} {c : Nat} {L : List Smp} (hw : ∀ s ∈ L, s.Wf) (hn : L.length ≤ 65535) (hr : Reads w0 l 2 sl L.length (smpsV L)) (h : St w0 l w) :
  Ret Tryz.prog 19 [.int .i64 tag, .slice sl L.length c] w fun v w' => ∃ a c', v = .tuple [.slice a ((chMake tag L).getD []).length c', .bool (chMake tag L).isSome].toArray ∧ St w0 (OwnB a c' ((chMake tag L).getD []) :: l) w' := by
 have hlen := suitEnc_len (tag := tag) hw
 refine enter Tryz.func19 rfl Tryz.results19 Tryz.ntmps19 rfl ?_
 refine c_seq (c_region ?_)
 refine r_v (q_assignS rfl) rfl ?_; refine r_v (q_assignB rfl) rfl ?_
 refine r_nil ?_
 refine c_seq (c_region ?_)
 refine r_v (q_moveI rfl) rfl ?_; refine r_v (q_moveS rfl) rfl ?_
 refine r_c rfl (x_call rfl (ref10_Encode tag hw hn hr h) ?_)
 cases hE : suitEnc tag L with
 | none =>
  have hM : chMake tag L = none := by unfold chMake; rw [hE]
  rw [hM]
  rintro _ w ⟨xa, xc, rfl, h⟩
  replace h := h.drop
  show Rn _ _ _ _ _ (upd _ _ (.tuple [.slice xa 0 xc, .bool false].toArray)) _
  refine r_v (q_moveT rfl) rfl ?_; refine r_v (q_ext rfl rfl) rfl ?_; refine r_v (q_ext rfl rfl) rfl ?_; refine r_v (q_assignS rfl) rfl ?_; refine r_v (q_assignB rfl) rfl ?_
  refine r_nil ?_
  refine c_seq (c_seq (c_region ?_))
  refine r_v (q_moveB rfl) rfl ?_; refine r_v (q_not rfl) rfl ?_; refine r_v (q_moveB rfl) rfl ?_; refine r_gn rfl rfl rfl ?_; refine r_gn rfl rfl rfl ?_; refine r_gn rfl rfl rfl ?_; refine r_v (q_pick1 rfl rfl rfl) rfl ?_
  refine r_nil (c_true rfl ?_)
  refine c_seq (c_region ?_)
  refine r_v (q_assignS rfl) rfl ?_; refine r_v (q_assignB rfl) rfl ?_
  refine r_nil ?_
  exact c_ret (bq2 ⟨none, 0, rfl, St.ownNil _ _ h⟩)
 | some x =>
 rw [hE] at hlen
 have hxl : x.length ≤ 3000000 := hlen
 obtain ⟨ht1, ht6⟩ := suitEnc_tag hE
 obtain ⟨_, hL16⟩ := suitEnc_rises hE
 rintro _ w ⟨xa, xc, rfl, h⟩
 replace h : St w0 (OwnB xa xc x :: l) w := h
 show Rn _ _ _ _ _ (upd _ _ (.tuple [.slice xa x.length xc, .bool true].toArray)) _
 refine r_v (q_moveT rfl) rfl ?_; refine r_v (q_ext rfl rfl) rfl ?_; refine r_v (q_ext rfl rfl) rfl ?_; refine r_v (q_assignS rfl) rfl ?_; refine r_v (q_assignB rfl) rfl ?_
 refine r_nil ?_
 refine c_seq (c_seq (c_region ?_))
 refine r_v (q_moveB rfl) rfl ?_; refine r_v (q_not rfl) rfl ?_; refine r_v (q_moveB rfl) rfl ?_; refine r_gd rfl rfl ?_; refine r_v (q_moveS rfl) rfl ?_; refine r_gd rfl rfl ?_; refine r_v (q_len rfl) rfl ?_; refine r_gd rfl rfl ?_
 by_cases hL0 : L.length = 0
 ·have hLn : L = [] := List.eq_nil_of_length_eq_zero hL0
  have hM : chMake tag L = none := by unfold chMake; rw [hE]; dsimp only; rw [if_pos hLn]
  rw [hM]
  refine r_v (q_is (v' := .bool true) (q_eql rfl rfl) (by rw [hL0]; rfl)) rfl ?_
  refine r_v (q_pick0 rfl rfl rfl) rfl ?_
  refine r_nil (c_true rfl ?_)
  refine c_seq (c_region ?_)
  refine r_v (q_assignS rfl) rfl ?_; refine r_v (q_assignB rfl) rfl ?_
  refine r_nil ?_
  exact c_ret (bq2 ⟨none, 0, rfl, St.ownNil _ _ h.drop⟩)
 have hLn : L ≠ [] := fun hh => hL0 (by rw [hh]; rfl)
 have hM : chMake tag L = some (chBody tag L x ++ be4 (crc (chBody tag L x))) := by unfold chMake; rw [hE]; dsimp only; rw [if_neg hLn]
 rw [hM]
 obtain ⟨w1, w2⟩ := ends_wf hw hLn
 refine r_v (q_is (v' := .bool false) (q_eql rfl rfl) (by congr 1; rw [beq_eq_false_iff_ne]; omega)) rfl ?_
 refine r_v (q_pick0 rfl rfl rfl) rfl ?_
 refine r_nil (c_false rfl (c_skip ?_))
 refine c_seq (c_region ?_)
 refine r_v (q_moveI rfl) rfl ?_; refine r_v (q_conv rfl) rfl ?_
 refine r_is (.int .u8 ((UInt8.ofNat tag.toNat).toNat : Int)) (by rw [UInt8.toNat_ofNat', show tag = ((tag.toNat : Nat) : Int) by omega, wrap_u8]; simp) ?_
 refine r_c rfl (x_bslice (r := bytesV [UInt8.ofNat tag.toNat]) h rfl rfl rfl fun b2 w h => ?_)
 refine r_v (q_moveS rfl) rfl ?_; refine r_v (q_len rfl) rfl ?_; refine r_v (q_conv rfl) rfl ?_
 refine r_is (.int .u64 (L.length : Int)) (congrArg (Value.int .u64) (conv_nat (by omega))) ?_
 refine r_c rfl (x_call rfl (ref1_Put (bs := [UInt8.ofNat tag.toNat]) L.length (by omega) h (fun w' h' => (Reads.pt (m := 0) rfl rfl).at_ h') (by simp)) ?_)
 rintro _ w ⟨a1, c1, rfl, h⟩
 replace h := (h.f 1).drop
 refine r_v (q_assignS rfl) rfl ?_
 refine r_nil ?_
 have hp1 := vput_len L.length
 have hp2 := vput_len (zigT (firstT L))
 have hp3 := vput_len (zigT (lastT L))
 refine c_cut (Γ := Option Addr × Nat) (fun q => [(0, .int .i64 tag), (1, .slice sl L.length c), (6, .slice xa x.length xc), (8, .slice q.1 (UInt8.ofNat tag.toNat :: (chNums L).flatMap vput).length q.2)]) (fun q w => St w0 (OwnB q.1 q.2 (UInt8.ofNat tag.toNat :: (chNums L).flatMap vput) :: OwnB xa xc x :: l) w) ?_ ?_
 ·have hg0 : L[0]? = some (L[0]'(by omega)) := List.getElem?_eq_getElem _
  have hgl : L[L.length - 1]? = some (L[L.length - 1]'(by omega)) := List.getElem?_eq_getElem _
  have hf : firstT L = (L[0]'(by omega)).T := by unfold firstT; rw [List.head?_eq_getElem?, hg0]; rfl
  have ht : lastT L = (L[L.length - 1]'(by omega)).T := by unfold lastT; rw [List.getLast?_eq_getElem?, hgl]; rfl
  generalize L[0]'(by omega) = s0 at hg0 hf
  generalize L[L.length - 1]'(by omega) = s1 at hgl ht
  obtain ⟨b, o, hsl⟩ := ((hr.more [_, _]).at_ h).some (by omega)
  have hc0 : ∀ {w'}, (∃ M, St w0 (M ++ l) w') → w'.cell? ⟨b, o, none⟩ = some (.int .i64 s0.T) := fun ⟨M, h'⟩ => by
   have := (hsl ▸ hr M _ h').elem smp_len hg0 0 _ rfl; simpa using this
  have hc1 : ∀ {w'}, (∃ M, St w0 (M ++ l) w') → w'.cell? ⟨b, o + (L.length - 1) * 2 + 0, none⟩ = some (.int .i64 s1.T) := fun ⟨M, h'⟩ => (hsl ▸ hr M _ h').elem smp_len hgl 0 _ rfl
  refine c_anyW [0, 1, 2, 3, 4, 5, 6, 7, 8, 9, 10, 11, 12, 13, 14, 15, 16] none (fun w => ∃ M, St w0 (M ++ l) w) (by kernel_rfl) (by kernel_rfl) ?_
  replace h := h.drew
  generalize w.drew = w at h
  have hs := h
  replace h : ∃ M, St w0 (M ++ l) w := ⟨[_, _], hs⟩
  refine cur_pure rfl rfl rfl rfl (fun _ => h) (fun _ => flt_v rfl (q_moveS rfl)) ?_; refine cur_pure rfl rfl rfl rfl (fun _ => h) (fun _ => flt_v rfl (q_moveS rfl)) ?_
  refine cur_pure rfl rfl rfl rfl (fun _ => h) (fun _ => flt_v rfl (q_idx (b := b) (o := o) (m := L.length) (c := c) (j := 0) (o' := o) (by rw [← hsl]; rfl) rfl rfl (by omega) (by simp))) ?_
  refine cur_pure rfl rfl rfl rfl (fun _ => h) (fun _ => flt_v rfl (q_fa rfl)) ?_
  refine cur_float rfl rfl rfl rfl h (fun w h => flt_v rfl (q_loadc (v := .int .i64 s0.T) rfl (hc0 h))) ?_
  refine cur_skip ?_; refine cur_skip ?_; refine cur_pure rfl rfl rfl rfl (fun _ => h) (fun _ => flt_v rfl (q_moveS rfl)) ?_; refine cur_pure rfl rfl rfl rfl (fun _ => h) (fun _ => flt_v rfl (q_moveS rfl)) ?_; refine cur_pure rfl rfl rfl rfl (fun _ => h) (fun _ => flt_v rfl (q_len rfl)) ?_
  refine cur_pure rfl rfl rfl rfl (fun _ => h) (fun _ => flt_v rfl (q_is (v' := .int .i64 ((L.length - 1 : Nat) : Int)) (q_sub rfl rfl) (by rw [wrap64 (by omega) (by omega)]; congr 1; omega))) ?_
  refine cur_pure rfl rfl rfl rfl (fun _ => h) (fun _ => flt_v rfl (q_idx (b := b) (o := o) (m := L.length) (c := c) (j := L.length - 1) (o' := o + (L.length - 1) * 2) (by rw [← hsl]; rfl) rfl rfl (by omega) rfl)) ?_
  refine cur_pure rfl rfl rfl rfl (fun _ => h) (fun _ => flt_v rfl (q_fa rfl)) ?_
  refine cur_float rfl rfl rfl rfl h (fun w h => flt_v rfl (q_loadc (v := .int .i64 s1.T) rfl (hc1 h))) ?_
  refine cur_skip ?_; refine cur_skip ?_; refine cur_skip ?_
  refine cur_one 5 rfl rfl rfl rfl ?_
  refine (x_call rfl (ref1_Zig (hf ▸ w1) hs) ?_)
  rintro _ w ⟨rfl, hs⟩
  rw [← hf]
  replace h : ∃ M, St w0 (M ++ l) w := ⟨[_, _], hs⟩
  refine ⟨fun _ => h, ?_⟩
  refine cur_skip ?_; refine cur_skip ?_; refine cur_skip ?_; refine cur_skip ?_
  refine cur_one 6 rfl rfl rfl rfl ?_
  refine (x_call rfl (ref1_Put (zigT (firstT L)) (zigT_lt _) hs (fun w' h' => h'.own_rd) (by simp; omega)) ?_)
  rintro _ w ⟨a2, c2, rfl, hs⟩
  replace h : ∃ M, St w0 (M ++ l) w := ⟨[_, _, _], hs⟩
  refine ⟨fun _ => h, ?_⟩
  refine cur_skip ?_; refine cur_skip ?_; refine cur_skip ?_
  refine cur_one 14 rfl rfl rfl rfl ?_
  refine (x_call rfl (ref1_Zig (ht ▸ w2) hs) ?_)
  rintro _ w ⟨rfl, hs⟩
  rw [← ht]
  replace h : ∃ M, St w0 (M ++ l) w := ⟨[_, _, _], hs⟩
  refine ⟨fun _ => h, ?_⟩
  refine cur_skip ?_; refine cur_skip ?_
  refine cur_one 15 rfl rfl rfl rfl ?_
  refine (x_call rfl (ref1_Put (zigT (lastT L)) (zigT_lt _) hs (fun w' h' => h'.own_rd) (by simp; omega)) ?_)
  rintro _ w ⟨a3, c3, rfl, hs⟩
  replace h : ∃ M, St w0 (M ++ l) w := ⟨[_, _, _, _], hs⟩
  refine ⟨fun _ => h, ?_⟩
  refine cur_pure rfl rfl rfl rfl (fun _ => h) (fun _ => flt_v rfl (q_assignS rfl)) ?_
  have e3 : [UInt8.ofNat tag.toNat] ++ vput L.length ++ vput (zigT (firstT L)) ++ vput (zigT (lastT L)) = UInt8.ofNat tag.toNat :: (chNums L).flatMap vput := by simp [chNums]
  rw [e3] at hs
  refine cur_end ⟨(a3, c3), ⟨rfl, rfl, rfl, ?_, trivial⟩, ((hs.f 1).drop.f 1).drop⟩
  show Value.slice _ _ _ = Value.slice _ _ _
  rw [e3]
 clear h a1 c1
 rintro ⟨a1, c1⟩ w e h
 dsimp only at h ⊢
 have hbl := chBody_len tag L x
 have hbe : chBody tag L x = (UInt8.ofNat tag.toNat :: (chNums L).flatMap vput) ++ x := by simp [chBody]
 have hbl2 : (UInt8.ofNat tag.toNat :: (chNums L).flatMap vput).length + x.length = (chBody tag L x).length := by rw [hbe, List.length_append]
 generalize UInt8.ofNat tag.toNat :: (chNums L).flatMap vput = hd at h hbe hbl2 ⊢
 generalize chBody tag L x = B at hbe hbl hbl2 ⊢
 refine c_seq (c_region ?_)
 refine r_v (q_moveS rfl) rfl ?_; refine r_v (q_moveS rfl) rfl ?_
 refine r_c rfl (x_append' (ys := bytesV x) (zs := bytesV B) (m3 := B.length) h rfl rfl (h.f 1).own_rd (bytesV_one _) (by omega) (by rw [hbe]; simp [bytesV]) (by omega) (by omega) rfl fun a2 c2 w _ h => ?_)
 refine r_v (q_assignS rfl) rfl ?_
 refine r_nil ?_
 refine c_seq (c_region ?_)
 refine r_v (q_moveS rfl) rfl ?_
 refine r_c rfl (x_call rfl (ref1_Sum (bs := B) (by omega) Reads.own h) ?_)
 rintro _ w ⟨rfl, h⟩
 refine r_v (q_assignI rfl) rfl ?_
 refine r_nil ?_
 generalize crc B = k
 refine c_seq (c_region ?_)
 refine r_v (q_moveS rfl) rfl ?_; refine r_v (q_moveI rfl) rfl ?_
 refine r_v (q_is (v' := .int .u32 ((k / 2 ^ 24 : Nat) : Int)) (q_shr rfl rfl (by omega)) (congrArg (Value.int .u32) (fdiv_nat k 24 32 (by decide)))) rfl ?_
 refine r_v (q_conv rfl) rfl ?_
 refine r_is (.int .u8 ((UInt8.ofNat (k / 2 ^ 24)).toNat : Int)) (by rw [wrap_u8, UInt8.toNat_ofNat']) ?_
 refine r_v (q_moveI rfl) rfl ?_
 refine r_v (q_is (v' := .int .u32 ((k / 2 ^ 16 : Nat) : Int)) (q_shr rfl rfl (by omega)) (congrArg (Value.int .u32) (fdiv_nat k 16 32 (by decide)))) rfl ?_
 refine r_v (q_conv rfl) rfl ?_
 refine r_is (.int .u8 ((UInt8.ofNat (k / 2 ^ 16)).toNat : Int)) (by rw [wrap_u8, UInt8.toNat_ofNat']) ?_
 refine r_v (q_moveI rfl) rfl ?_
 refine r_v (q_is (v' := .int .u32 ((k / 2 ^ 8 : Nat) : Int)) (q_shr rfl rfl (by omega)) (congrArg (Value.int .u32) (fdiv_nat k 8 32 (by decide)))) rfl ?_
 refine r_v (q_conv rfl) rfl ?_
 refine r_is (.int .u8 ((UInt8.ofNat (k / 2 ^ 8)).toNat : Int)) (by rw [wrap_u8, UInt8.toNat_ofNat']) ?_
 refine r_v (q_moveI rfl) rfl ?_; refine r_v (q_conv rfl) rfl ?_
 refine r_is (.int .u8 ((UInt8.ofNat k).toNat : Int)) (by rw [wrap_u8, UInt8.toNat_ofNat']) ?_
 refine r_c rfl (x_bslice (r := bytesV (be4 k)) h rfl rfl rfl fun b4 w h => ?_)
 refine r_c rfl (x_append' (ys := bytesV (be4 k)) (zs := bytesV (B ++ be4 k)) (m3 := (B ++ be4 k).length) (h.f 1) rfl rfl ⟨rfl, .inr ⟨b4, 0, rfl, at_of (h.b 0 rfl) rfl⟩⟩ (bytesV_one _) (by simp [be4_len]) (by simp [bytesV]) (by rw [List.length_append, be4_len]; omega) (by rw [List.length_append, be4_len]; omega) rfl fun a3 c3 w _ h => ?_)
 refine r_v (q_assignS rfl) rfl ?_; refine r_v (q_assignB rfl) rfl ?_
 refine r_nil ?_
 refine c_ret (bq2 ⟨a3, c3, rfl, ?_⟩)
 have h' := ((h.f 1).drop.f 1).drop
 exact h'
end
end Go.Proofs.YtjjacchnalemaaaGreatDoor

namespace Go.Hw
def Suf (B : List UInt8) (s : RS) : Prop := s.rest.length ≤ 8 * B.length ∧ s.rest = (bitsB B).drop (8 * B.length - s.rest.length)
theorem Suf.all (B : List UInt8) : Suf B ⟨bitsB B, false⟩ := by
 refine ⟨by rw [bitsB_len]; exact Nat.le_refl _, ?_⟩
 rw [bitsB_len, Nat.sub_self, List.drop_zero]
theorem Suf.get {B : List UInt8} {s : RS} (h : Suf B s) (n : Nat) : Suf B (s.get n).2 := by
 obtain ⟨h1, h2⟩ := h
 unfold RS.get
 split
 ·exact ⟨h1, h2⟩
 ·rename_i hn
  have h3 : n ≤ s.rest.length := by omega
  refine ⟨by dsimp only; rw [List.length_drop]; omega, ?_⟩
  dsimp only
  rw [List.length_drop]
  conv => lhs; rw [h2, List.drop_drop]
  congr 1
  omega
theorem Suf.aheadR {B : List UInt8} : ∀ (k : Nat) {s : RS}, Suf B s → Suf B (Hw.aheadR k s).2
 | 0, _, h => h
 | k + 1, s, h => by
  rw [Hw.aheadR]
  split
  ·exact Suf.aheadR k (h.get 1)
  ·exact h.get 1
theorem Suf.nextT {B : List UInt8} {s : RS} (h : Suf B s) : Suf B (Hw.nextT s).2 := (Suf.aheadR 4 h).get _
theorem getLast_get {l : List Int} {n : Nat} (h : l.length = n + 1) : l[n]? = some (l.getD n 0) := by
 rw [List.getD, List.getElem?_eq_getElem (by omega)]; rfl
end Go.Hw
namespace Go.Proofs.YtjjacchnalemaaaGreatDoor
open Go.Hw
set_option maxHeartbeats 4000000
set_option maxRecDepth 100000
instance und5 : Und Tryz.prog 161 (.array 5 3) := ⟨Tryz.underlying161⟩
abbrev RrPt (p : Nat) (a : Option Addr) (m c at_ : Nat) (bad : Bool) : HProp := pt p (.cells [.slice a m c, .int .i64 at_, .bool bad].toArray 84 (0, 0))
abbrev RrS (p : Nat) (a : Option Addr) (c : Nat) (B : List UInt8) (s : RS) : HProp := RrPt p a B.length c (8 * B.length - s.rest.length) s.bad
section
variable {w0 w : World} {l : List HProp}
theorem ref1_Get {sl : Option Addr} {c : Nat} {bs : List UInt8} (h : St w0 l w) (hr : Reads w0 l 1 sl bs.length (bytesV bs)) (hn : bs.length ≤ 140737488355328) :
  Ret Tryz.prog 48 [.slice sl bs.length c] w fun v w' => v = .tuple [.int .u64 ((vget bs).1 : Nat), .int .i64 ((vget bs).2 : Nat)].toArray ∧ St w0 l w' := by
 refine enter Tryz.func48 rfl Tryz.results48 Tryz.ntmps48 rfl ?_
 refine c_seq (c_region ?_)
 refine r_v (q_assignI rfl) rfl ?_; refine r_v (q_assignI rfl) rfl ?_
 refine r_nil ?_
 refine c_seq (c_region ?_)
 refine r_v (q_assignI rfl) rfl ?_
 refine r_nil ?_
 refine c_seq (c_seq (c_region ?_))
 refine r_v (q_assignI rfl) rfl ?_
 refine r_nil ?_
 refine c_block ?_
 refine c_loop (Γ := Nat × Nat) (fun k => [(0, .slice sl bs.length c), (4, .int .u64 k.2), (5, .int .i64 k.1)])
  (fun k w => k.1 ≤ bs.length ∧ k.1 ≤ 10 ∧ k.2 < 2 ^ (7 * k.1) ∧ vgetA (bs.drop k.1) k.1 k.2 = vget bs ∧ St w0 l w) (fun k => bs.length - k.1) (0, 0) ⟨rfl, rfl, rfl, trivial⟩ ⟨Nat.zero_le _, by decide, by decide, rfl, h⟩ ?_
 clear h
 rintro ⟨i, u⟩ w e ⟨hi, hi10, hu, hv, h⟩
 dsimp only at hi hi10 hu hv ⊢
 refine c_seq (c_seq (c_region ?_))
 refine r_v (q_moveI rfl) rfl ?_; refine r_v (q_moveS rfl) rfl ?_; refine r_v (q_len rfl) rfl ?_; refine r_v (q_lss rfl rfl) rfl ?_
 by_cases hin : i < bs.length
 ·refine r_is (.bool true) (by simp; omega) ?_
  have hg := List.getElem?_eq_getElem hin
  have hdr := List.drop_eq_getElem_cons hin
  generalize bs[i] = x at hg hdr
  rw [hdr, vgetA] at hv
  refine r_v (q_moveB rfl) rfl ?_; refine r_gd rfl rfl ?_; refine r_v (q_moveI rfl) rfl ?_; refine r_gd rfl rfl ?_; refine r_v (q_lss rfl rfl) rfl ?_; refine r_v (q_pick1 rfl rfl rfl) rfl ?_
  by_cases hi9 : i ≤ 9
  ·refine r_is (.bool true) (by simp; omega) ?_
   refine r_nil (c_true rfl (c_skip ?_))
   obtain ⟨b, o, hsl⟩ := (hr.at_ h).some (by omega)
   have hx := x.toNat_lt
   refine c_seq (c_block ?_)
   refine c_seq (c_region ?_)
   refine r_v (q_moveS rfl) rfl ?_; refine r_v (q_moveI rfl) rfl ?_
   refine r_v (q_idx (b := b) (o := o) (m := bs.length) (c := c) (o' := o + i) (by rw [← hsl]; rfl) rfl rfl hin (by simp)) rfl ?_
   refine r_v (q_loadc (v := .int .u8 x.toNat) rfl ((hsl ▸ hr.at_ h).cell (bytesV_get hg))) rfl ?_
   refine r_v (q_assignI rfl) rfl ?_
   refine r_nil ?_
   refine c_seq (c_cut (Γ := Bool) (fun k => [(0, .slice sl bs.length c), (4, .int .u64 u), (5, .int .i64 i), (6, .int .u8 x.toNat), (34, .bool k)])
    (fun k w => (k = true ↔ ((i = 9 ∧ 1 < x.toNat) ∨ (0 < i ∧ x.toNat = 0))) ∧ St w0 l w) ?_ ?_)
   ·refine c_region ?_
    refine r_v (q_moveI rfl) rfl ?_; refine r_v (q_eql rfl rfl) rfl ?_
    by_cases h9 : i = 9
    ·refine r_is (.bool true) (by simp; omega) ?_
     refine r_v (q_moveB rfl) rfl ?_; refine r_gd rfl rfl ?_; refine r_v (q_moveI rfl) rfl ?_; refine r_gd rfl rfl ?_; refine r_v (q_gtr rfl rfl) rfl ?_
     by_cases h1 : 1 < x.toNat
     ·refine r_is (.bool true) (by simp; omega) ?_
      refine r_v (q_pick1 rfl rfl rfl) rfl ?_; refine r_v (q_moveB rfl) rfl ?_; refine r_gn rfl rfl rfl ?_; refine r_gn rfl rfl rfl ?_; refine r_gn rfl rfl rfl ?_; refine r_gu rfl rfl ?_; refine r_gu rfl rfl ?_; refine r_gn rfl rfl rfl ?_; refine r_v (q_pick1 rfl rfl rfl) rfl ?_
      exact r_nil ⟨true, ⟨rfl, rfl, rfl, rfl, rfl, trivial⟩, ⟨fun _ => .inl ⟨h9, h1⟩, fun _ => rfl⟩, h⟩
     ·refine r_is (.bool false) (by simp; omega) ?_
      refine r_v (q_pick1 rfl rfl rfl) rfl ?_; refine r_v (q_moveB rfl) rfl ?_; refine r_gd rfl rfl ?_; refine r_v (q_moveI rfl) rfl ?_; refine r_gd rfl rfl ?_; refine r_v (q_eql rfl rfl) rfl ?_
      by_cases h0 : x.toNat = 0
      ·refine r_is (.bool true) (by rw [h0]; rfl) ?_
       refine r_gd rfl rfl ?_; refine r_v (q_moveB rfl) rfl ?_; refine r_gd rfl rfl ?_; refine r_v (q_moveI rfl) rfl ?_; refine r_gd rfl rfl ?_; refine r_v (q_gtr rfl rfl) rfl ?_
       refine r_is (.bool true) (by simp; omega) ?_
       refine r_gd rfl rfl ?_; refine r_v (q_pick1 rfl rfl rfl) rfl ?_; refine r_v (q_pick0 rfl rfl rfl) rfl ?_
       exact r_nil ⟨true, ⟨rfl, rfl, rfl, rfl, rfl, trivial⟩, ⟨fun _ => .inr ⟨by omega, h0⟩, fun _ => rfl⟩, h⟩
      ·refine r_is (.bool false) (by congr 1; rw [beq_eq_false_iff_ne]; omega) ?_
       refine r_gd rfl rfl ?_; refine r_v (q_moveB rfl) rfl ?_; refine r_gn rfl rfl rfl ?_; refine r_gn rfl rfl rfl ?_; refine r_gd rfl rfl ?_; refine r_v (q_pick0 rfl rfl rfl) rfl ?_; refine r_v (q_pick0 rfl rfl rfl) rfl ?_
       exact r_nil ⟨false, ⟨rfl, rfl, rfl, rfl, rfl, trivial⟩, ⟨(fun h => by cases h), (fun h => by omega)⟩, h⟩
    ·refine r_is (.bool false) (by simp; omega) ?_
     refine r_v (q_moveB rfl) rfl ?_; refine r_gn rfl rfl rfl ?_; refine r_gn rfl rfl rfl ?_; refine r_v (q_pick0 rfl rfl rfl) rfl ?_; refine r_v (q_moveB rfl) rfl ?_; refine r_gd rfl rfl ?_; refine r_v (q_moveI rfl) rfl ?_; refine r_gd rfl rfl ?_; refine r_v (q_eql rfl rfl) rfl ?_
     by_cases h0 : x.toNat = 0
     ·refine r_is (.bool true) (by rw [h0]; rfl) ?_
      refine r_gd rfl rfl ?_; refine r_v (q_moveB rfl) rfl ?_; refine r_gd rfl rfl ?_; refine r_v (q_moveI rfl) rfl ?_; refine r_gd rfl rfl ?_; refine r_v (q_gtr rfl rfl) rfl ?_
      by_cases hp : 0 < i
      ·refine r_is (.bool true) (by simp; omega) ?_
       refine r_gd rfl rfl ?_; refine r_v (q_pick1 rfl rfl rfl) rfl ?_; refine r_v (q_pick0 rfl rfl rfl) rfl ?_
       exact r_nil ⟨true, ⟨rfl, rfl, rfl, rfl, rfl, trivial⟩, ⟨fun _ => .inr ⟨by omega, h0⟩, fun _ => rfl⟩, h⟩
      ·refine r_is (.bool false) (by simp; omega) ?_
       refine r_gd rfl rfl ?_; refine r_v (q_pick1 rfl rfl rfl) rfl ?_; refine r_v (q_pick0 rfl rfl rfl) rfl ?_
       exact r_nil ⟨false, ⟨rfl, rfl, rfl, rfl, rfl, trivial⟩, ⟨(fun h => by cases h), (fun h => by omega)⟩, h⟩
     ·refine r_is (.bool false) (by congr 1; rw [beq_eq_false_iff_ne]; omega) ?_
      refine r_gd rfl rfl ?_; refine r_v (q_moveB rfl) rfl ?_; refine r_gn rfl rfl rfl ?_; refine r_gn rfl rfl rfl ?_; refine r_gd rfl rfl ?_; refine r_v (q_pick0 rfl rfl rfl) rfl ?_; refine r_v (q_pick0 rfl rfl rfl) rfl ?_
      exact r_nil ⟨false, ⟨rfl, rfl, rfl, rfl, rfl, trivial⟩, ⟨(fun h => by cases h), (fun h => by omega)⟩, h⟩
   clear h
   rintro k w e ⟨hk, h⟩
   refine c_cond k rfl (fun hc => ?_) (fun hc => ?_)
   ·rw [if_pos (.inr (hk.1 hc))] at hv
    refine c_seq (c_region ?_)
    refine r_v (q_assignI rfl) rfl ?_; refine r_v (q_assignI rfl) rfl ?_
    exact r_nil (c_ret (bq2 ⟨by rw [← hv]; rfl, h⟩))
   have hnb : ¬ ((i = 9 ∧ 1 < x.toNat) ∨ (0 < i ∧ x.toNat = 0)) := fun hb => by rw [hk.2 hb] at hc; cases hc
   rw [if_neg (by omega)] at hv
   have hm : x.toNat % 128 * 2 ^ (7 * i) ≤ 127 * 2 ^ (7 * i) := Nat.mul_le_mul_right _ (by omega)
   have h63 : (2 : Nat) ^ (7 * i) ≤ 2 ^ 63 := Nat.pow_le_pow_right (by decide) (by omega)
   have hu64 : u < 18446744073709551616 := by omega
   have hb : x.toNat % 128 * 2 ^ (7 * i) < 18446744073709551616 := by
    rcases Nat.lt_or_ge i 9 with h2 | h2
    ·have h3 : (2 : Nat) ^ (7 * i) ≤ 2 ^ 56 := Nat.pow_le_pow_right (by decide) (by omega)
     omega
    ·obtain rfl : i = 9 := by omega
     have h4 : x.toNat % 128 * 2 ^ (7 * 9) ≤ 1 * 2 ^ (7 * 9) := Nat.mul_le_mul_right _ (by omega)
     have h5 : (2 : Nat) ^ (7 * 9) = 9223372036854775808 := by decide
     omega
   refine c_skip ?_
   refine c_seq (c_region ?_)
   refine r_v (q_moveI rfl) rfl ?_; refine r_v (q_moveI rfl) rfl ?_; refine r_v (q_and rfl rfl) rfl ?_
   refine r_is (.int .u8 ((x.toNat % 128 : Nat) : Int)) (by rw [show bitOp .and .u8 (x.toNat : Int) 127 = ((x.toNat &&& 127 : Nat) : Int) from (bit_u8 hx (by decide)).1, show x.toNat &&& 127 = x.toNat % 128 from and_low x.toNat 7]) ?_
   refine r_v (q_conv rfl) rfl ?_
   refine r_is (.int .u64 ((x.toNat % 128 : Nat) : Int)) (by rw [wrap_u64, Nat.mod_eq_of_lt (by omega)]) ?_
   refine r_v (q_moveI rfl) rfl ?_; refine r_v (q_mul rfl rfl) rfl ?_
   refine r_is (.int .i64 ((7 * i : Nat) : Int)) (by rw [wrap64 (by omega) (by omega)]; rfl) ?_
   refine r_v (q_conv rfl) rfl ?_
   refine r_is (.int .u64 ((7 * i : Nat) : Int)) (by rw [wrap_u64, Nat.mod_eq_of_lt (by omega)]) ?_
   refine r_v (q_is (v' := .int .u64 ((x.toNat % 128 * 2 ^ (7 * i) : Nat) : Int)) (q_shl rfl rfl (by omega)) (by rw [shl_u64 _ _ (by omega), Nat.mod_eq_of_lt hb])) rfl ?_
   refine r_v (q_or rfl rfl) rfl ?_
   refine r_is (.int .u64 ((u + x.toNat % 128 * 2 ^ (7 * i) : Nat) : Int)) (by rw [(bit_u64 hu64 hb).2.1, or_shift hu]) ?_
   refine r_v (q_assignI rfl) rfl ?_
   refine r_nil ?_
   refine c_seq (c_region ?_)
   refine r_v (q_moveI rfl) rfl ?_; refine r_v (q_lss rfl rfl) rfl ?_
   refine r_nil ?_
   refine c_cond (decide ((x.toNat : Int) < 128)) rfl (fun hc => ?_) (fun hc => ?_)
   ·have hx7 : x.toNat < 128 := by simp at hc; omega
    rw [if_pos hx7] at hv
    refine c_seq (c_region ?_)
    refine r_v (q_moveI rfl) rfl ?_; refine r_v (q_moveI rfl) rfl ?_; refine r_v (q_add rfl rfl) rfl ?_
    refine r_is (.int .i64 ((i + 1 : Nat) : Int)) (by rw [wrap64 (by omega) (by omega)]; rfl) ?_
    refine r_v (q_assignI rfl) rfl ?_; refine r_v (q_assignI rfl) rfl ?_
    refine r_nil (c_ret (bq2 ⟨?_, h⟩))
    rw [← hv]
    show Value.tuple [Value.int .u64 ((u + x.toNat % 128 * 2 ^ (7 * i) : Nat) : Int), _].toArray = _
    rw [Nat.mod_eq_of_lt hx7]; rfl
   ·rw [if_neg (by simp at hc; omega)] at hv
    refine c_skip ?_
    refine c_region ?_
    refine r_v (q_moveI rfl) rfl ?_; refine r_v (q_add rfl rfl) rfl ?_
    refine r_is (.int .i64 ((i + 1 : Nat) : Int)) (by rw [wrap64 (by omega) (by omega)]; rfl) ?_
    refine r_v (q_assignI rfl) rfl ?_
    refine r_nil ⟨(i + 1, u + x.toNat % 128 * 2 ^ (7 * i)), ⟨rfl, rfl, rfl, trivial⟩, ⟨by dsimp only; omega, by dsimp only; omega, ?_, hv, h⟩, by dsimp only; omega⟩
    have hp : (2 : Nat) ^ (7 * (i + 1)) = 128 * 2 ^ (7 * i) := by rw [Nat.mul_add, Nat.pow_add, Nat.mul_comm]
    dsimp only
    rw [hp]
    omega
  ·refine r_is (.bool false) (by simp; omega) ?_
   rw [if_pos (.inl (by omega))] at hv
   refine r_nil (c_false rfl (c_exit ?_))
   refine c_seq (c_region ?_)
   refine r_v (q_assignI rfl) rfl ?_; refine r_v (q_assignI rfl) rfl ?_
   exact r_nil (c_ret (bq2 ⟨by rw [← hv]; rfl, h⟩))
 ·refine r_is (.bool false) (by simp; omega) ?_
  obtain rfl : i = bs.length := by omega
  rw [List.drop_length, vgetA] at hv
  refine r_v (q_moveB rfl) rfl ?_; refine r_gn rfl rfl rfl ?_; refine r_gn rfl rfl rfl ?_; refine r_v (q_pick0 rfl rfl rfl) rfl ?_
  refine r_nil (c_false rfl (c_exit ?_))
  refine c_seq (c_region ?_)
  refine r_v (q_assignI rfl) rfl ?_; refine r_v (q_assignI rfl) rfl ?_
  exact r_nil (c_ret (bq2 ⟨by rw [← hv]; rfl, h⟩))
theorem ref4_held (n : Int) (h : St w0 l w) : Ret Tryz.prog 91 [.int .i64 n] w fun v w' => v = .int .i64 (askN n) ∧ St w0 l w' := by
 refine enter Tryz.func91 rfl Tryz.results91 Tryz.ntmps91 rfl ?_
 refine c_seq (c_region ?_)
 refine r_v (q_assignI rfl) rfl ?_
 refine r_nil ?_
 refine c_seq (c_region ?_)
 refine r_v (q_moveI rfl) rfl ?_; refine r_v (q_max rfl rfl) rfl ?_; refine r_v (q_min rfl rfl) rfl ?_
 refine r_is (.int .i64 (askN n)) (by unfold askN; congr 1; omega) ?_
 refine r_v (q_assignI rfl) rfl ?_
 exact r_nil (c_ret (bq1 ⟨rfl, h⟩))
theorem rr_Left {p : Nat} {a : Option Addr} {c at_ : Nat} {bad : Bool} {m : Nat} (hat : at_ ≤ 8 * m) (hB : m ≤ 140737488355328) (h : St w0 (RrPt p a m c at_ bad :: l) w) :
  Ret Tryz.prog 128 [.pointer (some ⟨p, 0, none⟩)] w fun v w' => v = .int .i64 ((if bad = true then 0 else 8 * m - at_ : Nat) : Int) ∧ St w0 (RrPt p a m c at_ bad :: l) w' := by
 refine enter Tryz.func128 rfl Tryz.results128 Tryz.ntmps128 rfl ?_
 refine c_seq (c_region ?_)
 refine r_v (q_assignI rfl) rfl ?_
 refine r_nil ?_
 refine c_seq (c_seq (c_region ?_))
 refine r_v (q_moveP rfl) rfl ?_; refine r_v (q_nil rfl) rfl ?_; refine r_v (q_fa rfl) rfl ?_
 refine r_v (q_load (v := .bool bad) rfl (h.b 0 rfl) rfl) rfl ?_
 cases bad with
 | true =>
  refine r_nil (c_true rfl ?_)
  refine c_seq (c_region ?_)
  refine r_v (q_assignI rfl) rfl ?_
  exact r_nil (c_ret (bq1 ⟨rfl, h⟩))
 | false =>
  refine r_nil (c_false rfl (c_skip ?_))
  refine c_seq (c_any none (fun w => St w0 _ w) (by kernel_rfl) (by kernel_rfl) h.drew fun w h => ?_)
  refine cur_pure rfl rfl rfl rfl (fun _ => h) (fun _ => flt_v rfl (q_moveP rfl)) ?_; refine cur_pure rfl rfl rfl rfl (fun _ => h) (fun _ => flt_v rfl (q_nil rfl)) ?_; refine cur_pure rfl rfl rfl rfl (fun _ => h) (fun _ => flt_v rfl (q_fa rfl)) ?_; refine cur_float rfl rfl rfl rfl h (fun _ h => flt_v rfl (q_load rfl (h.b 0) rfl)) ?_; refine cur_pure rfl rfl rfl rfl (fun _ => h) (fun _ => flt_v rfl (q_len rfl)) ?_
  refine cur_pure rfl rfl rfl rfl (fun _ => h) (fun _ => flt_v rfl (q_is (v' := .int .i64 ((8 * m : Nat) : Int)) (q_mul rfl rfl) (by rw [wrap64 (by omega) (by omega)]; rfl))) ?_
  refine cur_pure rfl rfl rfl rfl (fun _ => h) (fun _ => flt_v rfl (q_moveP rfl)) ?_; refine cur_pure rfl rfl rfl rfl (fun _ => h) (fun _ => flt_v rfl (q_nil rfl)) ?_; refine cur_pure rfl rfl rfl rfl (fun _ => h) (fun _ => flt_v rfl (q_fa rfl)) ?_; refine cur_float rfl rfl rfl rfl h (fun _ h => flt_v rfl (q_load rfl (h.b 0) rfl)) ?_
  refine cur_pure rfl rfl rfl rfl (fun _ => h) (fun _ => flt_v rfl (q_is (v' := .int .i64 ((8 * m - at_ : Nat) : Int)) (q_sub rfl rfl) (by rw [wrap64 (by omega) (by omega)]; congr 1; omega))) ?_
  refine cur_pure rfl rfl rfl rfl (fun _ => h) (fun _ => flt_v rfl (q_assignI rfl)) ?_
  exact cur_end (c_ret (bq1 ⟨rfl, h⟩))
theorem rr_Get {p : Nat} {a : Option Addr} {c : Nat} {B : List UInt8} {s : RS} (n : Int) (hs : Suf B s) (hB : B.length ≤ 140737488355328) (hr : Reads w0 l 1 a B.length (bytesV B)) (h : St w0 (RrS p a c B s :: l) w) :
  Ret Tryz.prog 92 [.pointer (some ⟨p, 0, none⟩), .int .i64 n] w fun v w' => v = .int .u64 ((s.get (heldN n)).1 : Nat) ∧ St w0 (RrS p a c B (s.get (heldN n)).2 :: l) w' := by
 obtain ⟨rest, bad⟩ := s
 obtain ⟨hrl, hrest⟩ := hs
 dsimp only at hrl hrest h
 have hm := heldN_le n
 have hbl := bitsB_len B
 refine enter Tryz.func92 rfl Tryz.results92 Tryz.ntmps92 rfl ?_
 refine c_seq (c_region ?_)
 refine r_v (q_assignI rfl) rfl ?_
 refine r_nil ?_
 refine c_seq (c_region ?_)
 refine r_v (q_moveI rfl) rfl ?_; refine r_v (q_max rfl rfl) rfl ?_; refine r_v (q_min rfl rfl) rfl ?_
 refine r_is (.int .i64 (heldN n)) (by unfold heldN; congr 1; omega) ?_
 generalize heldN n = m at hm ⊢
 refine r_v (q_assignI rfl) rfl ?_
 refine r_nil ?_
 have bads : ∀ {e : Env} {w : World}, (RS.get ⟨rest, bad⟩ m = (0, ⟨rest, true⟩)) → e 0 = .pointer (some ⟨p, 0, none⟩) → St w0 (RrPt p a B.length c (8 * B.length - rest.length) bad :: l) w → True := fun _ _ _ => trivial
 clear bads
 refine c_cut (Γ := Unit) (fun _ => [(0, .pointer (some ⟨p, 0, none⟩)), (1, .int .i64 m)]) (fun _ w => bad = false ∧ m ≤ rest.length ∧ St w0 (RrPt p a B.length c (8 * B.length - rest.length) false :: l) w) ?_ ?_
 ·have key : bad = true ∨ rest.length < m → RS.get ⟨rest, bad⟩ m = (0, ⟨rest, true⟩) := fun hh => by unfold RS.get; exact if_pos hh
  refine c_seq (c_region ?_)
  refine r_v (q_moveP rfl) rfl ?_; refine r_v (q_nil rfl) rfl ?_; refine r_v (q_fa rfl) rfl ?_
  refine r_v (q_load (v := .bool bad) rfl (h.b 0 rfl) rfl) rfl ?_
  cases bad with
  | true =>
   refine r_v (q_moveB rfl) rfl ?_; refine r_gn rfl rfl rfl ?_; refine r_gn rfl rfl rfl ?_; refine r_gn rfl rfl rfl ?_; refine r_gn rfl rfl rfl ?_; refine r_v (q_pick1 rfl rfl rfl) rfl ?_
   refine r_nil (c_true rfl ?_)
   rw [key (.inl rfl)]
   refine c_seq (c_region ?_)
   refine r_v (q_moveP rfl) rfl ?_; refine r_v (q_nil rfl) rfl ?_; refine r_v (q_fa rfl) rfl ?_
   refine r_c rfl (x_store 0 h rfl (show _ = Value.bool true from rfl) rfl rfl rfl rfl fun w h => ?_)
   refine r_nil ?_
   refine c_seq (c_region ?_)
   refine r_v (q_assignI rfl) rfl ?_
   exact r_nil (c_ret (bq1 ⟨rfl, h⟩))
  | false =>
   refine r_v (q_moveB rfl) rfl ?_; refine r_gd rfl rfl ?_; refine r_v (q_moveI rfl) rfl ?_; refine r_gd rfl rfl ?_; refine r_v (q_moveP rfl) rfl ?_; refine r_gd rfl rfl ?_
   refine r_c rfl (x_call rfl (rr_Left (by omega) hB h) ?_)
   rintro _ w ⟨rfl, h⟩
   refine r_gd rfl rfl ?_; refine r_v (q_gtr rfl rfl) rfl ?_; refine r_v (q_pick0 rfl rfl rfl) rfl ?_
   by_cases hl : rest.length < m
   ·refine r_is (.bool true) (by congr 1; rw [decide_eq_true_eq]; simp; omega) ?_
    refine r_nil (c_true rfl ?_)
    rw [key (.inr hl)]
    refine c_seq (c_region ?_)
    refine r_v (q_moveP rfl) rfl ?_; refine r_v (q_nil rfl) rfl ?_; refine r_v (q_fa rfl) rfl ?_
    refine r_c rfl (x_store 0 h rfl (show _ = Value.bool true from rfl) rfl rfl rfl rfl fun w h => ?_)
    refine r_nil ?_
    refine c_seq (c_region ?_)
    refine r_v (q_assignI rfl) rfl ?_
    exact r_nil (c_ret (bq1 ⟨rfl, h⟩))
   ·refine r_is (.bool false) (by congr 1; rw [decide_eq_false_iff_not]; simp; omega) ?_
    exact r_nil (c_false rfl (c_skip ⟨(), ⟨rfl, rfl, trivial⟩, rfl, by omega, h⟩))
 clear h
 rintro ⟨⟩ w e ⟨hbad, hml, h⟩
 have hget : RS.get ⟨rest, bad⟩ m = (num (rest.take m), ⟨rest.drop m, false⟩) := by unfold RS.get; rw [hbad]; exact if_neg (by dsimp only; simp; omega)
 rw [hget]
 refine c_seq (c_region ?_)
 refine r_v (q_assignI rfl) rfl ?_
 refine r_nil ?_
 refine c_seq (c_seq (c_region ?_))
 refine r_v (q_assignI rfl) rfl ?_
 refine r_nil ?_
 refine c_block ?_
 refine c_loop (Γ := Nat) (fun k => [(0, .pointer (some ⟨p, 0, none⟩)), (1, .int .i64 m), (5, .int .u64 (num (rest.take k) : Nat)), (6, .int .i64 k)]) (fun k w => k ≤ m ∧ St w0 (RrPt p a B.length c (8 * B.length - rest.length + k) false :: l) w) (fun k => m - k) 0 ⟨rfl, rfl, rfl, rfl, trivial⟩ ⟨Nat.zero_le _, h⟩ ?_
 clear h
 rintro k w e ⟨hk, h⟩
 refine c_seq (c_seq (c_region ?_))
 refine r_v (q_moveI rfl) rfl ?_; refine r_v (q_moveI rfl) rfl ?_; refine r_v (q_lss rfl rfl) rfl ?_
 refine r_nil ?_
 refine c_cond (decide ((k : Int) < (m : Int))) rfl (fun hc => ?_) (fun hc => ?_)
 ·have hlt : k < m := by simp at hc; omega
  have hrk : rest[k]? = (bitsB B)[8 * B.length - rest.length + k]? := by conv => lhs; rw [hrest, List.getElem?_drop]
  generalize hQ : 8 * B.length - rest.length + k = q at hrk h
  have hqB : q < 8 * B.length := by omega
  have hgb := List.getElem?_eq_getElem (show q / 8 < B.length by omega)
  generalize B[q / 8]'(by omega) = y at hgb
  have hbit := bitsB_get B q y hgb
  rw [hbit] at hrk
  generalize y.toNat.testBit (7 - q % 8) = bt at *
  have hnum := take_succ_num hrk
  have hnlt := num_lt (rest.take k)
  rw [List.length_take, Nat.min_eq_left (by omega)] at hnlt
  have h63 : (2 : Nat) ^ k ≤ 2 ^ 63 := Nat.pow_le_pow_right (by decide) (by omega)
  have hbt2 : y.toNat / 2 ^ (7 - q % 8) % 2 = bt.toNat := by
   have := bitsB_get B q y hgb
   rw [hbit] at this
   rw [testBit_toNat, ← Option.some.inj this]
  have hb1 : bt.toNat ≤ 1 := by cases bt <;> decide
  have hy := y.toNat_lt
  obtain ⟨b, o, hsl⟩ := (hr.cons.at_ h).some (by omega)
  refine c_skip ?_
  refine c_seq (c_block ?_)
  refine c_seq (c_any none (fun w => St w0 (RrPt p a B.length c q false :: l) w) (by kernel_rfl) (by kernel_rfl) h.drew fun w h => ?_)
  refine cur_pure rfl rfl rfl rfl (fun _ => h) (fun _ => flt_v rfl (q_moveI rfl)) ?_
  refine cur_pure rfl rfl rfl rfl (fun _ => h) (fun _ => flt_v rfl (q_is (v' := .int .u64 ((num (rest.take k) * 2 ^ 1 : Nat) : Int)) (q_shl rfl rfl (by omega)) (by rw [show IntKind.u64.wrap ((num (rest.take k) : Int) * 2 ^ (min (1 : Int).toNat IntKind.u64.bits)) = ((num (rest.take k) * 2 ^ 1 % 18446744073709551616 : Nat) : Int) from shl_u64 _ 1 (by decide), Nat.mod_eq_of_lt (by omega)]))) ?_
  refine cur_pure rfl rfl rfl rfl (fun _ => h) (fun _ => flt_v rfl (q_moveP rfl)) ?_; refine cur_pure rfl rfl rfl rfl (fun _ => h) (fun _ => flt_v rfl (q_nil rfl)) ?_; refine cur_pure rfl rfl rfl rfl (fun _ => h) (fun _ => flt_v rfl (q_fa rfl)) ?_; refine cur_float rfl rfl rfl rfl h (fun _ h => flt_v rfl (q_load rfl (h.b 0) rfl)) ?_; refine cur_pure rfl rfl rfl rfl (fun _ => h) (fun _ => flt_v rfl (q_moveP rfl)) ?_; refine cur_pure rfl rfl rfl rfl (fun _ => h) (fun _ => flt_v rfl (q_nil rfl)) ?_; refine cur_pure rfl rfl rfl rfl (fun _ => h) (fun _ => flt_v rfl (q_fa rfl)) ?_; refine cur_float rfl rfl rfl rfl h (fun _ h => flt_v rfl (q_load rfl (h.b 0) rfl)) ?_
  refine cur_pure rfl rfl rfl rfl (fun _ => h) (fun _ => flt_v rfl (q_is (v' := .int .i64 ((q / 8 : Nat) : Int)) (q_quo rfl rfl (by decide)) (by rw [show ((q : Nat) : Int).tdiv 8 = ((q / 8 : Nat) : Int) from tdiv_nat _ 8, wrap64 (by omega) (by omega)]))) ?_
  refine cur_pure rfl rfl rfl rfl (fun _ => h) (fun _ => flt_v rfl (q_idx (b := b) (o := o) (m := B.length) (c := c) (o' := o + q / 8) (by rw [← hsl]; rfl) rfl rfl (by omega) (by simp))) ?_
  refine cur_float rfl rfl rfl rfl h (fun _ h => flt_v rfl (q_loadc (v := .int .u8 y.toNat) rfl ((hsl ▸ hr.cons.at_ h).cell (bytesV_get hgb)))) ?_
  refine cur_pure rfl rfl rfl rfl (fun _ => h) (fun _ => flt_v rfl (q_moveP rfl)) ?_; refine cur_pure rfl rfl rfl rfl (fun _ => h) (fun _ => flt_v rfl (q_nil rfl)) ?_; refine cur_pure rfl rfl rfl rfl (fun _ => h) (fun _ => flt_v rfl (q_fa rfl)) ?_; refine cur_float rfl rfl rfl rfl h (fun _ h => flt_v rfl (q_load rfl (h.b 0) rfl)) ?_
  refine cur_pure rfl rfl rfl rfl (fun _ => h) (fun _ => flt_v rfl (q_is (v' := .int .i64 ((q % 8 : Nat) : Int)) (q_rem rfl rfl (by decide)) (congrArg (Value.int .i64) (tmod_nat _ 8)))) ?_
  refine cur_pure rfl rfl rfl rfl (fun _ => h) (fun _ => flt_v rfl (q_is (v' := .int .i64 ((7 - q % 8 : Nat) : Int)) (q_sub rfl rfl) (by rw [wrap64 (by omega) (by omega)]; congr 1; omega))) ?_
  refine cur_pure rfl rfl rfl rfl (fun _ => h) (fun _ => flt_v rfl (q_is (v' := .int .u64 ((7 - q % 8 : Nat) : Int)) (q_conv rfl) (by rw [wrap_u64, Nat.mod_eq_of_lt (by omega)]))) ?_
  refine cur_pure rfl rfl rfl rfl (fun _ => h) (fun _ => flt_v rfl (q_is (v' := .int .u8 ((y.toNat / 2 ^ (7 - q % 8) : Nat) : Int)) (q_shr rfl rfl (by omega)) (congrArg (Value.int .u8) (fdiv_nat y.toNat (7 - q % 8) _ (show 7 - q % 8 ≤ 8 by omega))))) ?_
  refine cur_pure rfl rfl rfl rfl (fun _ => h) (fun _ => flt_v rfl (q_is (v' := .int .u8 ((bt.toNat : Nat) : Int)) (q_and rfl rfl) (by
   rw [show bitOp .and .u8 ((y.toNat / 2 ^ (7 - q % 8) : Nat) : Int) 1 = ((y.toNat / 2 ^ (7 - q % 8) &&& 1 : Nat) : Int) from (bit_u8 (Nat.lt_of_le_of_lt (Nat.div_le_self _ _) hy) (by decide)).1, Nat.and_one_is_mod, hbt2]))) ?_
  refine cur_pure rfl rfl rfl rfl (fun _ => h) (fun _ => flt_v rfl (q_is (v' := .int .u64 ((bt.toNat : Nat) : Int)) (q_conv rfl) (by rw [wrap_u64, Nat.mod_eq_of_lt (by omega)]))) ?_
  refine cur_pure rfl rfl rfl rfl (fun _ => h) (fun _ => flt_v rfl (q_is (v' := .int .u64 ((num (rest.take (k + 1)) : Nat) : Int)) (q_or rfl rfl) (by
   rw [(bit_u64 (by omega) (by omega)).2.1, Nat.or_comm, or_shift (show bt.toNat < 2 ^ 1 by omega), hnum]; congr 2; omega))) ?_
  refine cur_pure rfl rfl rfl rfl (fun _ => h) (fun _ => flt_v rfl (q_assignI rfl)) ?_
  refine cur_end ?_
  refine c_region ?_
  refine r_v (q_moveP rfl) rfl ?_; refine r_v (q_nil rfl) rfl ?_; refine r_v (q_fa rfl) rfl ?_
  refine r_v (q_load (v := .int .i64 q) rfl (h.b 0 rfl) rfl) rfl ?_
  refine r_v (q_add rfl rfl) rfl ?_
  refine r_is (.int .i64 ((8 * B.length - rest.length + (k + 1) : Nat) : Int)) (by rw [wrap64 (by omega) (by omega)]; congr 1; omega) ?_
  refine r_v (q_nil rfl) rfl ?_; refine r_v (q_fa rfl) rfl ?_
  refine r_c rfl (x_store 0 h rfl (show _ = Value.int .i64 ((8 * B.length - rest.length + (k + 1) : Nat) : Int) from rfl) rfl rfl rfl rfl fun w h => ?_)
  refine r_nil ?_
  refine c_region ?_
  refine r_v (q_moveI rfl) rfl ?_; refine r_v (q_add rfl rfl) rfl ?_
  refine r_is (.int .i64 ((k + 1 : Nat) : Int)) (by rw [wrap64 (by omega) (by omega)]; rfl) ?_
  refine r_v (q_assignI rfl) rfl ?_
  exact r_nil ⟨k + 1, ⟨rfl, rfl, rfl, rfl, trivial⟩, ⟨hlt, h⟩, by omega⟩
 ·obtain rfl : k = m := by simp at hc; omega
  refine c_exit ?_
  refine c_seq (c_region ?_)
  refine r_v (q_moveI rfl) rfl ?_; refine r_v (q_assignI rfl) rfl ?_
  refine r_nil (c_ret (bq1 ⟨rfl, ?_⟩))
  show St w0 (RrPt p a B.length c (8 * B.length - (rest.drop k).length) false :: l) w
  rw [List.length_drop, show 8 * B.length - (rest.length - k) = 8 * B.length - rest.length + k by omega]
  exact h
theorem ref4_difference {p : Nat} {a : Option Addr} {c : Nat} {B : List UInt8} {s : RS} (hs : Suf B s) (hB : B.length ≤ 140737488355328) (hr : Reads w0 l 1 a B.length (bytesV B)) (h : St w0 (RrS p a c B s :: l) w) :
  Ret Tryz.prog 93 [.pointer (some ⟨p, 0, none⟩)] w fun v w' => v = .tuple [.int .i64 (nextT s).1, .bool (nextOk s)].toArray ∧ St w0 (RrS p a c B (nextT s).2 :: l) w' := by
 refine enter Tryz.func93 rfl Tryz.results93 Tryz.ntmps93 rfl ?_
 refine c_seq (c_region ?_)
 refine r_v (q_assignI rfl) rfl ?_; refine r_v (q_assignB rfl) rfl ?_
 refine r_nil ?_
 refine c_seq (c_region ?_)
 refine r_v (q_assignI rfl) rfl ?_
 refine r_nil ?_
 refine c_cut (Γ := Unit) (fun _ => [(0, .pointer (some ⟨p, 0, none⟩)), (4, .int .i64 ((aheadR 4 s).1 : Nat))]) (fun _ w => St w0 (RrS p a c B (aheadR 4 s).2 :: l) w) ?_ ?_
 ·refine c_block ?_
  refine c_loop (Γ := Nat × RS) (fun k => [(0, .pointer (some ⟨p, 0, none⟩)), (4, .int .i64 k.1)]) (fun k w => k.1 ≤ 4 ∧ Suf B k.2 ∧ aheadR 4 s = ((aheadR (4 - k.1) k.2).1 + k.1, (aheadR (4 - k.1) k.2).2) ∧ St w0 (RrS p a c B k.2 :: l) w) (fun k => 4 - k.1) (0, s) ⟨rfl, rfl, trivial⟩ ⟨Nat.zero_le _, hs, rfl, h⟩ ?_
  clear h
  rintro ⟨k, s'⟩ w e ⟨hk, hs', he, h⟩
  dsimp only at hk hs' he h ⊢
  refine c_seq (c_seq (c_region ?_))
  refine r_v (q_moveI rfl) rfl ?_; refine r_v (q_lss rfl rfl) rfl ?_
  by_cases hk4 : k < 4
  ·refine r_is (.bool true) (by simp; omega) ?_
   refine r_v (q_moveB rfl) rfl ?_; refine r_gd rfl rfl ?_; refine r_v (q_moveP rfl) rfl ?_; refine r_gd rfl rfl ?_
   refine r_c rfl (x_call rfl (rr_Get 1 hs' hB hr h) ?_)
   rintro _ w ⟨rfl, h⟩
   rw [heldN_one] at h ⊢
   rw [show 4 - k = (4 - (k + 1)) + 1 by omega] at he
   conv at he => rhs; rw [aheadR]
   refine r_gd rfl rfl ?_; refine r_v (q_eql rfl rfl) rfl ?_; refine r_v (q_pick1 rfl rfl rfl) rfl ?_
   by_cases h1 : (s'.get 1).1 = 1
   ·refine r_is (.bool true) (by rw [h1]; rfl) ?_
    rw [if_pos h1] at he
    refine r_nil (c_true rfl (c_skip ?_))
    refine c_block ?_
    refine c_region ?_
    refine r_v (q_moveI rfl) rfl ?_; refine r_v (q_add rfl rfl) rfl ?_
    refine r_is (.int .i64 ((k + 1 : Nat) : Int)) (by rw [wrap64 (by omega) (by omega)]; rfl) ?_
    refine r_v (q_assignI rfl) rfl ?_
    exact r_nil ⟨(k + 1, (s'.get 1).2), ⟨rfl, rfl, trivial⟩, ⟨hk4, hs'.get 1, by rw [he]; congr 1; dsimp only; omega, h⟩, by dsimp only; omega⟩
   ·refine r_is (.bool false) (by congr 1; rw [beq_eq_false_iff_ne]; omega) ?_
    rw [if_neg h1] at he
    dsimp only at he
    rw [he]
    refine r_nil (c_false rfl (c_exit ⟨(), ⟨rfl, ?_, trivial⟩, h⟩))
    show Value.int .i64 (k : Int) = _
    dsimp only
    rw [Nat.zero_add]
  ·refine r_is (.bool false) (by simp; omega) ?_
   obtain rfl : k = 4 := by omega
   rw [he]
   refine r_v (q_moveB rfl) rfl ?_; refine r_gn rfl rfl rfl ?_; refine r_gn rfl rfl rfl ?_; refine r_gn rfl rfl rfl ?_; refine r_v (q_pick0 rfl rfl rfl) rfl ?_
   refine r_nil (c_false rfl (c_exit ⟨(), ⟨rfl, ?_, trivial⟩, h⟩))
   show Value.int .i64 ((4 : Nat) : Int) = _
   rfl
 clear h
 rintro ⟨⟩ w e h
 have hle := aheadR_le 4 s
 have hnT : nextT s = (sext ((aheadR 4 s).2.get (longs (aheadR 4 s).1)).1 (longs (aheadR 4 s).1), ((aheadR 4 s).2.get (longs (aheadR 4 s).1)).2) := rfl
 have hnO : nextOk s = decide ((which (nextT s).1).bits = longs (aheadR 4 s).1) := rfl
 have hs1 := Suf.aheadR 4 hs
 generalize hk : (aheadR 4 s).1 = k at *
 generalize (aheadR 4 s).2 = s1 at *
 have hll := longs_le k
 refine c_seq (c_region ?_)
 refine r_v (q_abuild (m := 5) (r := i64V [0, 7, 9, 12, 64]) (by kernel_rfl)) rfl ?_
 refine r_c rfl (x_alloc h fun b w h => ?_)
 refine r_c rfl (x_storeA (vs := i64V [0, 7, 9, 12, 64]) 0 h rfl rfl rfl rfl rfl rfl rfl fun w h => ?_)
 replace h : St w0 (pt b (.cells (i64V [0, 7, 9, 12, 64]).toArray 161 (0, 0)) :: RrS p a c B s1 :: l) w := h
 refine r_nil ?_
 refine c_seq (c_region ?_)
 refine r_v (q_moveI rfl) rfl ?_
 refine r_v (q_aidx (m := 5) (o' := k) rfl rfl rfl (by omega) (by simp)) rfl ?_
 refine r_v (q_load (v := .int .i64 (longs k : Nat)) rfl (h.b 0 rfl) (longs_get hle)) rfl ?_
 refine r_v (q_assignI rfl) rfl ?_
 refine r_nil ?_
 refine c_seq (c_region ?_)
 refine r_v (q_moveP rfl) rfl ?_; refine r_v (q_moveI rfl) rfl ?_
 refine r_c rfl (x_call rfl (rr_Get (longs k : Nat) hs1 hB hr.cons (h.f 1)) ?_)
 rintro _ w ⟨rfl, h⟩
 rw [heldN_nat hll] at h ⊢
 replace h : St w0 (RrS p a c B (s1.get (longs k)).2 :: l) w := (h.f 1).drop
 have hglt := RS.get_lt s1 (longs k)
 have hg0 : longs k = 0 → (s1.get (longs k)).1 = 0 := fun hh => by rw [hh] at hglt ⊢; omega
 rw [hnT] at hnO ⊢
 generalize (s1.get (longs k)).1 = g at *
 generalize (s1.get (longs k)).2 = s2 at *
 dsimp only at hnO ⊢
 rw [hnO]
 have hlk : longs k = 0 ∨ longs k = 64 ∨ (1 ≤ longs k ∧ longs k ≤ 12) := by
  rcases (by omega : k = 0 ∨ k = 1 ∨ k = 2 ∨ k = 3 ∨ k = 4) with rfl | rfl | rfl | rfl | rfl <;> decide
 generalize longs k = n at *
 have hg64 : g < 18446744073709551616 := Nat.lt_of_lt_of_le hglt (show 2 ^ n ≤ 2 ^ 64 from Nat.pow_le_pow_right (by decide) hll)
 refine r_v (q_assignI rfl) rfl ?_
 refine r_nil ?_
 refine c_seq (c_region ?_)
 refine r_v (q_moveI rfl) rfl ?_; refine r_v (q_conv rfl) rfl ?_
 refine r_is (.int .i64 (sg g)) (by rw [wrap_sg hg64]) ?_
 refine r_v (q_assignI rfl) rfl ?_
 refine r_nil ?_
 refine c_cut (Γ := Unit) (fun _ => [(6, .int .i64 n), (8, .int .i64 (sext g n))]) (fun _ w => St w0 (RrS p a c B s2 :: l) w) ?_ ?_
 ·refine c_seq (c_region ?_)
  refine r_v (q_moveI rfl) rfl ?_; refine r_v (q_gtr rfl rfl) rfl ?_
  by_cases hn0 : n = 0
  ·refine r_is (.bool false) (by rw [hn0]; rfl) ?_
   refine r_v (q_moveB rfl) rfl ?_; refine r_gn rfl rfl rfl ?_; refine r_gn rfl rfl rfl ?_; refine r_v (q_pick0 rfl rfl rfl) rfl ?_; refine r_v (q_moveB rfl) rfl ?_; refine r_gn rfl rfl rfl ?_; refine r_gn rfl rfl rfl ?_; refine r_gn rfl rfl rfl ?_; refine r_gn rfl rfl rfl ?_; refine r_gn rfl rfl rfl ?_; refine r_gn rfl rfl rfl ?_; refine r_v (q_pick0 rfl rfl rfl) rfl ?_
   refine r_nil (c_false rfl (c_skip ⟨(), ⟨rfl, ?_, trivial⟩, h⟩))
   show Value.int .i64 (sg g) = _
   rw [hg0 hn0]; unfold sext; rw [if_pos hn0]; rfl
  refine r_is (.bool true) (by congr 1; rw [decide_eq_true_eq]; omega) ?_
  refine r_v (q_moveB rfl) rfl ?_; refine r_gd rfl rfl ?_; refine r_v (q_moveI rfl) rfl ?_; refine r_gd rfl rfl ?_; refine r_v (q_lss rfl rfl) rfl ?_
  by_cases hn64 : n = 64
  ·refine r_is (.bool false) (by rw [hn64]; rfl) ?_
   refine r_v (q_pick1 rfl rfl rfl) rfl ?_; refine r_v (q_moveB rfl) rfl ?_; refine r_gn rfl rfl rfl ?_; refine r_gn rfl rfl rfl ?_; refine r_gn rfl rfl rfl ?_; refine r_gn rfl rfl rfl ?_; refine r_gn rfl rfl rfl ?_; refine r_gn rfl rfl rfl ?_; refine r_v (q_pick0 rfl rfl rfl) rfl ?_
   refine r_nil (c_false rfl (c_skip ⟨(), ⟨rfl, ?_, trivial⟩, h⟩))
   show Value.int .i64 (sg g) = _
   rw [hn64]
   rfl
  have hn12 : 1 ≤ n ∧ n ≤ 12 := by omega
  have hg12 : 2 ^ n ≤ 2 ^ 12 := Nat.pow_le_pow_right (by decide) hn12.2
  have hsg : sg g = (g : Int) := by unfold sg; rw [if_pos (by omega)]
  have hpn : 2 ^ n = 2 * 2 ^ (n - 1) := by rw [← Nat.pow_succ']; congr 1; omega
  refine r_is (.bool true) (by congr 1; rw [decide_eq_true_eq]; omega) ?_
  refine r_v (q_pick1 rfl rfl rfl) rfl ?_; refine r_v (q_moveB rfl) rfl ?_; refine r_gd rfl rfl ?_; refine r_v (q_moveI rfl) rfl ?_; refine r_gd rfl rfl ?_; refine r_v (q_moveI rfl) rfl ?_; refine r_gd rfl rfl ?_; refine r_v (q_sub rfl rfl) rfl ?_
  refine r_is (.int .i64 ((n - 1 : Nat) : Int)) (by rw [wrap64 (by omega) (by omega)]; congr 1; omega) ?_
  refine r_gd rfl rfl ?_; refine r_v (q_conv rfl) rfl ?_
  refine r_is (.int .u64 ((n - 1 : Nat) : Int)) (by rw [wrap_u64, Nat.mod_eq_of_lt (by omega)]) ?_
  refine r_gd rfl rfl ?_
  refine r_v (q_is (v' := .int .u64 ((g / 2 ^ (n - 1) : Nat) : Int)) (q_shr rfl rfl (by omega)) (congrArg (Value.int .u64) (fdiv_nat g (n - 1) _ (show n - 1 ≤ 64 by omega)))) rfl ?_
  refine r_gd rfl rfl ?_; refine r_v (q_eql rfl rfl) rfl ?_; refine r_v (q_pick1 rfl rfl rfl) rfl ?_
  have hP := Nat.two_pow_pos (n - 1)
  by_cases hge : g < 2 ^ (n - 1)
  ·refine r_is (.bool false) (by rw [Nat.div_eq_of_lt hge]; rfl) ?_
   refine r_nil (c_false rfl (c_skip ⟨(), ⟨rfl, ?_, trivial⟩, h⟩))
   show Value.int .i64 (sg g) = _
   rw [hsg]; unfold sext; rw [if_neg hn0, if_pos hge]
  ·have hd1 : g / 2 ^ (n - 1) = 1 := by
    apply Nat.div_eq_of_lt_le <;> omega
   refine r_is (.bool true) (by rw [hd1]; rfl) ?_
   refine r_nil (c_true rfl ?_)
   refine c_region ?_
   refine r_v (q_moveI rfl) rfl ?_; refine r_v (q_conv rfl) rfl ?_
   refine r_is (.int .i64 (g : Int)) (by rw [wrap_sg hg64, hsg]) ?_
   refine r_v (q_moveI rfl) rfl ?_; refine r_v (q_conv rfl) rfl ?_
   refine r_is (.int .u64 (n : Int)) (by rw [wrap_u64, Nat.mod_eq_of_lt (by omega)]) ?_
   refine r_v (q_is (v' := .int .i64 ((2 ^ n : Nat) : Int)) (q_shl rfl rfl (by omega)) (by rw [shl_i64 (by omega) (by rw [Int.one_mul, two_pow_int]; exact ⟨by omega, by omega⟩), Int.one_mul, two_pow_int])) rfl ?_
   refine r_v (q_sub rfl rfl) rfl ?_
   refine r_is (.int .i64 (sext g n)) (by unfold sext; rw [if_neg hn0, if_neg hge, two_pow_int, wrap64 (by omega) (by omega)]) ?_
   refine r_v (q_assignI rfl) rfl ?_
   exact r_nil ⟨(), ⟨rfl, rfl, trivial⟩, h⟩
 clear h
 rintro ⟨⟩ w e h
 refine c_seq (c_region ?_)
 refine r_v (q_moveI rfl) rfl ?_
 refine r_c rfl (x_call rfl (ref4_kind (sext g n) h) ?_)
 rintro _ w ⟨rfl, h⟩
 refine r_v (q_moveT rfl) rfl ?_; refine r_v (q_ext rfl rfl) rfl ?_; refine r_v (q_ext rfl rfl) rfl ?_; refine r_v (q_ext rfl rfl) rfl ?_; refine r_v (q_assignI rfl) rfl ?_; refine r_v (q_assignI rfl) rfl ?_; refine r_v (q_assignI rfl) rfl ?_
 refine r_nil ?_
 refine c_seq (c_region ?_)
 refine r_v (q_moveI rfl) rfl ?_; refine r_v (q_moveI rfl) rfl ?_; refine r_v (q_moveI rfl) rfl ?_; refine r_v (q_eql rfl rfl) rfl ?_
 refine r_is (.bool (decide ((which (sext g n)).bits = n))) (by
  by_cases hh : (which (sext g n)).bits = n
  ·rw [hh]; simp
  ·rw [decide_eq_false hh]; congr 1; rw [beq_eq_false_iff_ne]; omega) ?_
 refine r_v (q_assignI rfl) rfl ?_; refine r_v (q_assignB rfl) rfl ?_
 exact r_nil (c_ret (bq2 ⟨rfl, h⟩))
theorem ref4_GetTimes {p : Nat} {a : Option Addr} {c : Nat} {B : List UInt8} {s : RS} (n : Int) (hs : Suf B s) (hB : B.length ≤ 140737488355328) (hr : Reads w0 l 1 a B.length (bytesV B)) (h : St w0 (RrS p a c B s :: l) w) :
  Ret Tryz.prog 49 [.pointer (some ⟨p, 0, none⟩), .int .i64 n] w fun v w' => ∃ ta tc s', v = .tuple [.slice ta (((timesDec (askN n) s).map Prod.fst).getD []).length tc, .bool (timesDec (askN n) s).isSome].toArray ∧ (∀ t ∈ ((timesDec (askN n) s).map Prod.fst).getD [], I64 t) ∧
   St w0 (Own 2 1 ta (((timesDec (askN n) s).map Prod.fst).getD []).length tc (i64V (((timesDec (askN n) s).map Prod.fst).getD [])) :: RrS p a c B s' :: l) w' := by
 have hm := askN_le n
 refine enter Tryz.func49 rfl Tryz.results49 Tryz.ntmps49 rfl ?_
 refine c_seq (c_region ?_)
 refine r_v (q_assignS rfl) rfl ?_; refine r_v (q_assignB rfl) rfl ?_
 refine r_nil ?_
 refine c_seq (c_region ?_)
 refine r_v (q_moveI rfl) rfl ?_
 refine r_c rfl (x_call rfl (ref4_held n h) ?_)
 rintro _ w ⟨rfl, h⟩
 generalize askN n = m at hm ⊢
 refine r_v (q_assignI rfl) rfl ?_
 refine r_nil ?_
 refine c_seq (c_region ?_)
 refine r_v (q_assignS rfl) rfl ?_
 refine r_nil ?_
 refine c_seq (c_region ?_)
 refine r_v (q_assignI rfl) rfl ?_
 refine r_nil ?_
 have fail : timesDec m s = none → (timesDec m s).isSome = false ∧ ((timesDec m s).map Prod.fst).getD [] = [] := fun hh => by rw [hh]; exact ⟨rfl, rfl⟩
 refine c_cut (Γ := List Int × Option Addr × Nat × RS) (fun q => [(0, .pointer (some ⟨p, 0, none⟩)), (6, .slice q.2.1 q.1.length q.2.2.1)])
  (fun q w => (q.2.2.2.bad = true → timesDec m s = none) ∧ (q.2.2.2.bad = false → (timesDec m s).map Prod.fst = some q.1) ∧ (∀ t ∈ q.1, I64 t) ∧ St w0 (Own 2 1 q.2.1 q.1.length q.2.2.1 (i64V q.1) :: RrS p a c B q.2.2.2 :: l) w) ?_ ?_
 ·refine c_seq (c_region ?_)
  refine r_v (q_assignI rfl) rfl ?_
  refine r_nil ?_
  refine c_block ?_
  refine c_loop (Γ := Nat × List Int × Nat × RS × Option Addr × Nat) (fun k => [(0, .pointer (some ⟨p, 0, none⟩)), (1, .int .i64 m), (6, .slice k.2.2.2.2.1 k.2.1.length k.2.2.2.2.2), (7, .int .u64 k.2.2.1), (8, .int .i64 k.1)])
   (fun k w => k.1 ≤ m ∧ k.2.1.length = k.1 ∧ k.2.2.1 < 18446744073709551616 ∧ Suf B k.2.2.2.1 ∧ (∀ t ∈ k.2.1, I64 t) ∧ (k.1 = 0 → k.2.2.2.1 = s ∧ k.2.2.1 = 0) ∧
    (0 < k.1 → (k.2.2.2.1.bad = true → timesDec m s = none) ∧ (k.2.2.2.1.bad = false → (timesDecA (m - k.1) (us (k.2.1.getD (k.1 - 1) 0)) k.2.2.1 k.2.2.2.1).map (fun r => k.2.1 ++ r.1) = (timesDec m s).map Prod.fst)) ∧
    St w0 (Own 2 1 k.2.2.2.2.1 k.2.1.length k.2.2.2.2.2 (i64V k.2.1) :: RrS p a c B k.2.2.2.1 :: l) w) (fun k => m - k.1) (0, [], 0, s, none, 0) ⟨rfl, rfl, rfl, rfl, rfl, trivial⟩ ⟨Nat.zero_le _, rfl, (by decide : (0 : Nat) < 18446744073709551616), hs, (fun _ h => by cases h), fun _ => ⟨rfl, rfl⟩, (fun h => absurd h (by decide : ¬ (0 : Nat) < 0)), St.ownNil _ _ h⟩ ?_
  clear h
  rintro ⟨i, out, last, s', oa, oc⟩ w e ⟨hi, hol, hlast, hs', hwf, h00, hnz, h⟩
  dsimp only at hi hol hlast hs' hwf h00 hnz h ⊢
  have stop : ¬ (i < m ∧ s'.bad = false) → (s'.bad = true → timesDec m s = none) ∧ (s'.bad = false → (timesDec m s).map Prod.fst = some out) := by
   intro hno
   rcases Nat.eq_zero_or_pos i with h0 | h0
   ·obtain ⟨e1, _⟩ := h00 h0
    have : out = [] := List.eq_nil_of_length_eq_zero (by omega)
    subst this e1
    refine ⟨fun hb => ?_, fun hb => ?_⟩
    ·cases m with
     | zero => rw [timesDec, if_pos hb]
     | succ m' => rw [timesDec, if_pos]; unfold RS.get; rw [if_pos (.inl hb)]
    ·have : m = 0 := by
      rcases Nat.eq_zero_or_pos m with h | h
      ·exact h
      ·exact absurd ⟨by omega, hb⟩ hno
     rw [this, timesDec, if_neg (by rw [hb]; simp)]; rfl
   ·obtain ⟨e1, e2⟩ := hnz h0
    refine ⟨e1, fun hb => ?_⟩
    have him : i = m := by
     rcases Nat.lt_or_ge i m with h | h
     ·exact absurd ⟨h, hb⟩ hno
     ·omega
    have := e2 hb
    rw [him, Nat.sub_self, timesDecA] at this
    rw [← this]; simp
  refine c_seq (c_seq (c_region ?_))
  refine r_v (q_moveI rfl) rfl ?_; refine r_v (q_moveI rfl) rfl ?_; refine r_v (q_lss rfl rfl) rfl ?_
  by_cases hlt : i < m
  ·refine r_is (.bool true) (by simp; omega) ?_
   refine r_v (q_moveB rfl) rfl ?_; refine r_gd rfl rfl ?_; refine r_v (q_moveP rfl) rfl ?_; refine r_gd rfl rfl ?_; refine r_v (q_nil rfl) rfl ?_; refine r_gd rfl rfl ?_; refine r_v (q_fa rfl) rfl ?_; refine r_gd rfl rfl ?_
   refine r_v (q_load (v := .bool s'.bad) rfl (h.b 1 rfl) rfl) rfl ?_
   cases hbad : s'.bad with
   | true =>
    refine r_gd rfl rfl ?_; refine r_v (q_not rfl) rfl ?_; refine r_v (q_pick1 rfl rfl rfl) rfl ?_
    obtain ⟨t1, t2⟩ := stop (by rw [hbad]; simp)
    exact r_nil (c_false rfl (c_exit ⟨(out, oa, oc, s'), ⟨rfl, rfl, trivial⟩, t1, t2, hwf, h⟩))
   | false =>
   refine r_gd rfl rfl ?_; refine r_v (q_not rfl) rfl ?_; refine r_v (q_pick1 rfl rfl rfl) rfl ?_
   refine r_nil (c_true rfl (c_skip ?_))
   refine c_cut (Γ := List Int × Nat × RS × Option Addr × Nat) (fun k => [(0, .pointer (some ⟨p, 0, none⟩)), (1, .int .i64 m), (6, .slice k.2.2.2.1 k.1.length k.2.2.2.2), (7, .int .u64 k.2.1), (8, .int .i64 i)])
    (fun k w => k.1.length = i + 1 ∧ k.2.1 < 18446744073709551616 ∧ Suf B k.2.2.1 ∧ (∀ t ∈ k.1, I64 t) ∧
     ((k.2.2.1.bad = true → timesDec m s = none) ∧ (k.2.2.1.bad = false → (timesDecA (m - (i + 1)) (us (k.1.getD i 0)) k.2.1 k.2.2.1).map (fun r => k.1 ++ r.1) = (timesDec m s).map Prod.fst)) ∧
     St w0 (Own 2 1 k.2.2.2.1 k.1.length k.2.2.2.2 (i64V k.1) :: RrS p a c B k.2.2.1 :: l) w) ?_ ?_
   ·refine c_block ?_
    refine c_seq (c_seq (c_region ?_))
    refine r_v (q_moveI rfl) rfl ?_; refine r_v (q_eql rfl rfl) rfl ?_
    by_cases hi0 : i = 0
    ·refine r_is (.bool true) (by subst hi0; rfl) ?_
     refine r_nil (c_true rfl ?_)
     obtain ⟨e1, e2⟩ := h00 hi0
     have hout : out = [] := List.eq_nil_of_length_eq_zero (by omega)
     subst hout e2
     refine c_seq (c_region ?_)
     refine r_v (q_moveS rfl) rfl ?_; refine r_v (q_moveP rfl) rfl ?_
     refine r_c rfl (x_call rfl (rr_Get 64 hs' hB hr.cons (h.f 1)) ?_)
     rintro _ w ⟨rfl, h⟩
     rw [show heldN 64 = 64 from rfl] at h ⊢
     have hg64 := RS.get_lt s' 64
     have htd : timesDec m s = if (s'.get 64).2.bad then none else (timesDecA (m - 1) (s'.get 64).1 0 (s'.get 64).2).map fun r => (sg (s'.get 64).1 :: r.1, r.2) := by
      rw [← e1, show m = (m - 1) + 1 by omega]; rfl
     have hs2 := hs'.get 64
     generalize (s'.get 64).1 = g at *
     generalize (s'.get 64).2 = s2 at *
     refine r_v (q_conv rfl) rfl ?_
     refine r_is (.int .i64 (sg g)) (by rw [wrap_sg hg64]) ?_
     refine r_app1 (v := .int .i64 (sg g)) (m3 := 1) (zs := i64V [sg g]) (h.f 1) rfl rfl rfl rfl rfl rfl rfl (by omega) (by omega) rfl rfl rfl rfl rfl fun b2 a2 c2 w _ h => ?_
     refine r_v (q_assignS rfl) rfl ?_
     refine r_nil ?_
     refine c_exit ⟨([sg g], 0, s2, a2, c2), ⟨rfl, rfl, rfl, rfl, rfl, trivial⟩, by rw [hi0]; rfl, (by decide : (0 : Nat) < 18446744073709551616), hs2, ?_, ⟨fun hb => ?_, fun hb => ?_⟩, h⟩
     ·intro t ht
      have : t = sg g := by simpa using ht
      rw [this]; exact sg_wf hg64
     ·rw [htd, if_pos hb]
     ·dsimp only at hb ⊢
      rw [htd, hb, if_neg (by simp), hi0]
      show (timesDecA (m - 1) (us (sg g)) 0 s2).map _ = _
      rw [us_sg hg64, Option.map_map]
      congr 1
    refine r_is (.bool false) (by simp; omega) ?_
    refine r_nil (c_false rfl (c_skip ?_))
    obtain ⟨_, e2⟩ := hnz (by omega)
    have e2 := e2 hbad
    have hgl := getLast_get (l := out) (n := i - 1) (by omega)
    generalize out.getD (i - 1) 0 = was at hgl e2
    rw [show m - i = (m - (i + 1)) + 1 by omega, timesDecA] at e2
    refine c_seq (c_region ?_)
    refine r_v (q_moveP rfl) rfl ?_
    refine r_c rfl (x_call rfl (ref4_difference hs' hB hr.cons (h.f 1)) ?_)
    rintro _ w ⟨rfl, h⟩
    have hs2 := hs'.nextT
    generalize hd : (nextT s').1 = d at *
    generalize (nextT s').2 = s2 at *
    refine r_v (q_moveT rfl) rfl ?_; refine r_v (q_ext rfl rfl) rfl ?_; refine r_v (q_ext rfl rfl) rfl ?_; refine r_v (q_assignI rfl) rfl ?_; refine r_v (q_assignB rfl) rfl ?_
    refine r_nil ?_
    refine c_seq (c_seq (c_region ?_))
    refine r_v (q_moveB rfl) rfl ?_; refine r_v (q_not rfl) rfl ?_
    cases hok : nextOk s' with
    | false =>
     rw [hok, if_neg (by simp), Option.map_none] at e2
     have hno : timesDec m s = none := by
      cases ht : timesDec m s with
      | none => rfl
      | some x => rw [ht] at e2; cases e2
     obtain ⟨f1, f2⟩ := fail hno
     rw [f1, f2]
     refine r_nil (c_true rfl ?_)
     refine c_seq (c_region ?_)
     refine r_v (q_assignS rfl) rfl ?_; refine r_v (q_assignB rfl) rfl ?_
     exact r_nil (c_ret (bq2 ⟨none, 0, s2, rfl, (fun _ h => by cases h), St.ownNil _ _ (h.f 1).drop⟩))
    | true =>
    refine r_nil (c_false rfl (c_skip ?_))
    have hsum : summ last (us d) < 18446744073709551616 := Nat.mod_lt _ (by decide)
    refine c_seq (c_region ?_)
    refine r_v (q_moveI rfl) rfl ?_; refine r_v (q_moveI rfl) rfl ?_; refine r_v (q_conv rfl) rfl ?_
    refine r_is (.int .u64 (us d : Nat)) (by rw [wrap_us]) ?_
    refine r_v (q_add rfl rfl) rfl ?_
    refine r_is (.int .u64 (summ last (us d) : Nat)) (by rw [wrap_summ]) ?_
    refine r_v (q_assignI rfl) rfl ?_
    refine r_nil ?_
    generalize summ last (us d) = st at hsum e2
    have hsum2 : summ (us was) st < 18446744073709551616 := Nat.mod_lt _ (by decide)
    obtain ⟨g, rfl⟩ := (h.f 1).own_some (by omega)
    refine c_region ?_
    refine r_v (q_moveS rfl) rfl ?_; refine r_v (q_moveS rfl) rfl ?_; refine r_v (q_moveI rfl) rfl ?_; refine r_v (q_sub rfl rfl) rfl ?_
    refine r_is (.int .i64 ((i - 1 : Nat) : Int)) (by rw [wrap64 (by omega) (by omega)]; congr 1; omega) ?_
    refine r_v (q_idx (o' := i - 1) rfl rfl rfl (by omega) (by simp)) rfl ?_
    refine r_v (q_loadc (v := .int .i64 was) rfl (by have := (h.f 1).own_rd.cell (i64V_get hgl); simpa using this)) rfl ?_
    refine r_v (q_conv rfl) rfl ?_
    refine r_is (.int .u64 (us was : Nat)) (by rw [wrap_us]) ?_
    refine r_v (q_moveI rfl) rfl ?_; refine r_v (q_add rfl rfl) rfl ?_
    refine r_is (.int .u64 (summ (us was) st : Nat)) (by rw [wrap_summ]) ?_
    refine r_v (q_conv rfl) rfl ?_
    generalize summ (us was) st = nx at hsum2 e2
    refine r_is (.int .i64 (sg nx)) (by rw [wrap_sg hsum2]) ?_
    refine r_app1 (v := .int .i64 (sg nx)) (m3 := (out ++ [sg nx]).length) (zs := i64V (out ++ [sg nx])) (h.f 1) rfl rfl rfl rfl rfl (by simp) (by simp [i64V, vcells]) (by simp; omega) (by simp; omega) rfl rfl rfl rfl rfl fun b2 a2 c2 w _ h => ?_
    refine r_v (q_assignS rfl) rfl ?_
    refine r_nil ⟨(out ++ [sg nx], st, s2, a2, c2), ⟨rfl, rfl, rfl, rfl, rfl, trivial⟩, by simp; omega, hsum, hs2, ?_, ⟨fun hb => ?_, fun hb => ?_⟩, h⟩
    ·intro t ht
     rcases List.mem_append.1 ht with ht | ht
     ·exact hwf t ht
     ·have : t = sg nx := by simpa using ht
      rw [this]; exact sg_wf hsum2
    ·dsimp only at hb
     rw [hok, hb, if_neg (by simp), Option.map_none] at e2
     cases ht : timesDec m s with
     | none => rfl
     | some x => rw [ht] at e2; cases e2
    ·dsimp only at hb ⊢
     rw [hok, hb, if_pos ⟨rfl, rfl⟩, Option.map_map] at e2
     have hgd : (out ++ [sg nx]).getD i 0 = sg nx := by rw [List.getD, List.getElem?_append_right (by omega), hol, Nat.sub_self]; rfl
     rw [hgd, us_sg hsum2, ← e2]
     congr 1
     funext r
     simp
   clear h
   rintro ⟨out', last', s2, oa', oc'⟩ w e ⟨k1, k2, k3, k4, k5, h⟩
   dsimp only at k1 k2 k3 k4 k5 h ⊢
   refine c_region ?_
   refine r_v (q_moveI rfl) rfl ?_; refine r_v (q_add rfl rfl) rfl ?_
   refine r_is (.int .i64 ((i + 1 : Nat) : Int)) (by rw [wrap64 (by omega) (by omega)]; rfl) ?_
   refine r_v (q_assignI rfl) rfl ?_
   exact r_nil ⟨(i + 1, out', last', s2, oa', oc'), ⟨rfl, rfl, rfl, rfl, rfl, trivial⟩, ⟨hlt, k1, k2, k3, k4, (fun h => by cases h), fun _ => k5, h⟩, by dsimp only; omega⟩
  ·refine r_is (.bool false) (by simp; omega) ?_
   refine r_v (q_moveB rfl) rfl ?_; refine r_gn rfl rfl rfl ?_; refine r_gn rfl rfl rfl ?_; refine r_gn rfl rfl rfl ?_; refine r_gn rfl rfl rfl ?_; refine r_gn rfl rfl rfl ?_; refine r_v (q_pick0 rfl rfl rfl) rfl ?_
   obtain ⟨t1, t2⟩ := stop (fun hh => hlt hh.1)
   exact r_nil (c_false rfl (c_exit ⟨(out, oa, oc, s'), ⟨rfl, rfl, trivial⟩, t1, t2, hwf, h⟩))
 clear h
 rintro ⟨out, oa, oc, s'⟩ w e ⟨t1, t2, hwf, h⟩
 dsimp only at t1 t2 hwf h ⊢
 refine c_seq (c_seq (c_region ?_))
 refine r_v (q_moveP rfl) rfl ?_; refine r_v (q_nil rfl) rfl ?_; refine r_v (q_fa rfl) rfl ?_
 refine r_v (q_load (v := .bool s'.bad) rfl (h.b 1 rfl) rfl) rfl ?_
 cases hbad : s'.bad with
 | true =>
  obtain ⟨f1, f2⟩ := fail (t1 hbad)
  rw [f1, f2]
  refine r_nil (c_true rfl ?_)
  refine c_seq (c_region ?_)
  refine r_v (q_assignS rfl) rfl ?_; refine r_v (q_assignB rfl) rfl ?_
  exact r_nil (c_ret (bq2 ⟨none, 0, s', rfl, (fun _ h => by cases h), St.ownNil _ _ h.drop⟩))
 | false =>
  have e1 := t2 hbad
  have e2 : (timesDec m s).isSome = true := by
   cases ht : timesDec m s with
   | none => rw [ht] at e1; cases e1
   | some x => rfl
  rw [e1, e2]
  refine r_nil (c_false rfl (c_skip ?_))
  refine c_seq (c_region ?_)
  refine r_v (q_moveS rfl) rfl ?_; refine r_v (q_assignS rfl) rfl ?_; refine r_v (q_assignB rfl) rfl ?_
  exact r_nil (c_ret (bq2 ⟨oa, oc, s', rfl, hwf, h⟩))
end
end Go.Proofs.YtjjacchnalemaaaGreatDoor
