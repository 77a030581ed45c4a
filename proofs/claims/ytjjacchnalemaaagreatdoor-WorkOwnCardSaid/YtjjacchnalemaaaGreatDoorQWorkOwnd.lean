/- What the proof of WorkOwn needs, part 4: plain lemmas, and what each function does. -/
import Derived.Test.YtjjacchnalemaaaGreatDoorQWorkOwnc
import Derived.KernelRfl
/- xorv: values by what turns: reading them. -/
namespace Go.Hw
theorem run_part_bool {P : Program} {w : World} {t : TypeId} (ht : P.underlying t = some .bool) {cs : List Value} {off : Nat} {v : Value} (hv : cs[off]? = some v) : (part t cs.toArray off).run P w = .ok v w := by
 have : (isAgg t).run P w = .ok false w := by
  unfold Go.isAgg
  rw [Sem.run_bind, run_underlying ht w]
  rfl
 simp [part, this, hv]
class EqB2 (P : Program) (t : TypeId) : Prop where
 u : ∃ fl : List Field, P.underlying t = some (.struct fl.toArray) ∧ fl.map (fun f => (f.name == "_", f.offset, P.underlying f.type)) = [(false, 0, some .bool), (false, 1, some (.int .i64)), (false, 2, some (.int .i64))]
 s : P.stoodInHeld t = false
 g : P.eqGuardType P.depth t = false
theorem run_eqB2 {P : Program} {w : World} {t : TypeId} (h : EqB2 P t) (a a' : Bool) (b b' c c' : Int) (d : Nat) :
  (Op.equalIn (d + 2) t (.agg [.bool a, .int .i64 b, .int .i64 c].toArray) (.agg [.bool a', .int .i64 b', .int .i64 c'].toArray)).run P w = .ok (a == a' && ([b, c] : List Int) == [b', c']) w := by
 obtain ⟨fl, hu, hf⟩ := h.u
 have hfo : P.fieldsOf t = fl.toArray := by unfold Program.fieldsOf; rw [hu]
 rw [run_equalIn_struct w (d + 1) t _ _ (by rw [hfo]; exact hu) h.s, hfo]
 have hl3 : fl.length = 3 := by have := congrArg List.length hf; simpa using this
 obtain ⟨f, f2, f3, rfl⟩ : ∃ f f2 f3, fl = [f, f2, f3] := by
  match fl, hl3 with
  | [x, y, z], _ => exact ⟨x, y, z, rfl⟩
 simp only [List.map_cons, List.map_nil, List.cons.injEq, Prod.mk.injEq, and_true] at hf
 obtain ⟨⟨h1, h2, h3⟩, h4⟩ := hf
 have hn : f.name ≠ "_" := by simpa using h1
 have e1 : ([.bool a, .int .i64 b, .int .i64 c] : List Value)[f.offset]? = some (.bool a) := by rw [h2]; rfl
 have e2 : ([.bool a', .int .i64 b', .int .i64 c'] : List Value)[f.offset]? = some (.bool a') := by rw [h2]; rfl
 show (Op.eqFields (d + 1) _ _ [f, f2, f3]).run P w = _
 unfold Op.eqFields
 rw [if_pos hn]
 simp only [Sem.run_bind, run_part_bool h3 e1, run_part_bool h3 e2, Result.andThen_ok, run_equalIn_bool w d f.type a a' h3]
 by_cases haa : a = a'
 ·subst haa
  have ih := run_eqFields (P := P) (w := w) d [f2, f3] [.i64, .i64] [b, c] [b', c'] [.bool a] [.bool a] rfl rfl rfl (by
   obtain ⟨⟨g1, g2, g3⟩, g4, g5, g6⟩ := h4
   simp [g1, g2, g3, g4, g5, g6, List.zipIdx])
  have ih' : (Op.eqFields (d + 1) #[Value.bool a, .int .i64 b, .int .i64 c] #[Value.bool a, .int .i64 b', .int .i64 c'] [f2, f3]).run P w = .ok (b == b' && c == c') w := by
   have := ih
   simpa [ints] using this
  simp
  exact ih'
 ·simp [haa]
section
variable {P : Program} {e : Env} {w : World} {d : Option Nat} {ty : TypeId} {pos : String} {af : Array Edge} {g : Option (Nat × Bool)}
theorem q_neB2 {t t2 : TypeId} [h : EqB2 P t] {x y : Operand} (a a' : Bool) (b b' c c' : Int) (hx : ev e x = .agg [.bool a, .int .i64 b, .int .i64 c].toArray) (hy : ev e y = .agg [.bool a', .int .i64 b', .int .i64 c'].toArray) :
  Qv P e ⟨d, .binOp .neq t x y t2, ty, pos, af, g⟩ w (.bool (!(a == a' && ([b, c] : List Int) == [b', c']))) := by
 unfold Qv
 have h1 := run_eqGuard_agg (P := P) w .neq t x y [.bool a, .int .i64 b, .int .i64 c].toArray [.bool a', .int .i64 b', .int .i64 c'].toArray h.g
 have h2 := run_neq_struct (P := P) w t [.bool a, .int .i64 b, .int .i64 c].toArray [.bool a', .int .i64 b', .int .i64 c'].toArray
 rw [run_eqB2 h a a' b b' c c' 9998] at h2
 simp only [execOp, hx, hy, Sem.run_bind, h1, Result.andThen_ok, h2, Result.andThen]
 rfl
end
theorem win_ne (x y : Win) : (!(x.is == y.is && ([(x.lead : Int), (x.trail : Int)] : List Int) == [(y.lead : Int), (y.trail : Int)])) = decide (x ≠ y) := by
 obtain ⟨a, b, c⟩ := x
 obtain ⟨a', b', c'⟩ := y
 by_cases h : (⟨a, b, c⟩ : Win) = ⟨a', b', c'⟩
 ·cases h; simp
 ·rw [decide_eq_true h, Bool.not_eq_true', Bool.eq_false_iff]
  intro hh
  have hh : a = a' ∧ (b : Int) = b' ∧ (c : Int) = c' := by simpa using hh
  obtain ⟨rfl, h2, h3⟩ := hh
  obtain rfl : b = b' := by omega
  obtain rfl : c = c' := by omega
  exact h rfl
end Go.Hw
namespace Go.Proofs.YtjjacchnalemaaaGreatDoor
open Go.Hw
set_option maxHeartbeats 4000000
set_option maxRecDepth 100000
instance eqbWin : EqB2 Tryz.prog 134 := ⟨⟨_, Tryz.underlying134, by kernel_rfl⟩, by kernel_rfl, by kernel_rfl⟩
section
variable {w0 w : World} {l : List HProp}
theorem xorv_turn (hT : Tz w0) {p q : Nat} {s : RS} {win : Win} (ho : WinOk win ∨ win = ⟨false, 0, 0⟩) (h : St w0 (IsBR p s :: WinPt q win :: l) w) :
  Ret Tryz.prog 125 [.pointer (some ⟨p, 0, none⟩), .pointer (some ⟨q, 0, none⟩)] w fun v w' => ∃ (x : Nat) (ok : Bool) (win' : Win), v = .tuple [.int .u64 (x : Int), .bool ok].toArray ∧ x < 18446744073709551616 ∧ WinOk win' ∧ (turnR s win).1 = (if ok = true then some (x, win') else none) ∧ St w0 (IsBR p (turnR s win).2 :: WinPt q win' :: l) w' := by
 have ho : WinOk win := by
  rcases ho with h | h
  ·exact h
  ·subst h; unfold WinOk; decide
 have hwl := win_long_le win
 refine enter Tryz.func125 rfl Tryz.results125 Tryz.ntmps125 rfl ?_
 refine c_seq (c_region ?_)
 refine r_v (q_assignI rfl) rfl ?_; refine r_v (q_assignB rfl) rfl ?_
 refine r_nil ?_
 refine c_seq (c_seq (c_region ?_))
 refine r_v (q_moveP rfl) rfl ?_
 refine r_c rfl (x_call rfl (bits_Get 1 h) ?_)
 rw [show heldN 1 = 1 from rfl]
 cases hg1 : s.get 1 with | mk a s1 =>
 rintro _ w ⟨rfl, h⟩
 dsimp only at h ⊢
 refine r_v (q_eql rfl rfl) rfl ?_
 by_cases ha : a = 0
 ·subst ha
  refine r_is (.bool true) rfl ?_
  refine r_nil (c_true rfl ?_)
  refine c_seq (c_region ?_)
  refine r_v (q_assignI rfl) rfl ?_; refine r_v (q_assignB rfl) rfl ?_
  refine r_nil ?_
  rw [turnR_0 hg1]
  exact c_ret (bq2 ⟨0, true, win, rfl, by decide, ho, rfl, h⟩)
 refine r_is (.bool false) (by congr 1; rw [beq_eq_false_iff_ne]; omega) ?_
 refine r_nil (c_false rfl (c_skip ?_))
 refine c_seq (c_seq (c_region ?_))
 refine r_v (q_moveP rfl) rfl ?_
 refine r_c rfl (x_call rfl (bits_Get 1 h) ?_)
 rw [show heldN 1 = 1 from rfl]
 cases hg2 : s1.get 1 with | mk b s2 =>
 rintro _ w ⟨rfl, h⟩
 dsimp only at h ⊢
 refine r_v (q_eql rfl rfl) rfl ?_
 by_cases hb : b = 0
 ·subst hb
  refine r_is (.bool true) rfl ?_
  refine r_nil (c_true rfl ?_)
  cases hg3 : s2.get win.long with | mk g s3 =>
  have hT2 := turnR_2 hg1 ha hg2 hg3
  have hglt : g * 2 ^ win.trail % 18446744073709551616 < 18446744073709551616 := Nat.mod_lt _ (by decide)
  have htr : win.trail ≤ 64 := by unfold WinOk at ho; omega
  refine c_cut (Γ := Unit) (fun _ => [(1, .pointer (some ⟨q, 0, none⟩)), (6, .int .u64 ((g * 2 ^ win.trail % 18446744073709551616 : Nat) : Int))]) (fun _ w => St w0 (IsBR p s3 :: WinPt q win :: l) w) ?_ ?_
  ·refine c_anyW [0, 1, 2, 3, 4, 5, 6, 7, 8, 9, 10, 11] none (fun w => w.heap[q]? = some (.cells (winC win).toArray 134 (0, 0))) (by kernel_rfl) (by kernel_rfl) ?_
   replace h := h.drew
   generalize w.drew = w at h
   have hs := h
   replace h := hs.b 1 rfl
   refine cur_pure rfl rfl rfl rfl (fun _ => h) (fun _ => flt_v rfl (q_moveP rfl)) ?_; refine cur_pure rfl rfl rfl rfl (fun _ => h) (fun _ => flt_v rfl (q_moveP rfl)) ?_; refine cur_pure rfl rfl rfl rfl (fun _ => h) (fun _ => flt_v rfl (q_nil rfl)) ?_
   refine cur_float rfl rfl rfl rfl h (fun w h => flt_v rfl (q_loadS (l := winC win) rfl rfl (at_of h rfl))) ?_
   refine cur_skip ?_; refine cur_skip ?_; refine cur_pure rfl rfl rfl rfl (fun _ => h) (fun _ => flt_v rfl (q_moveP rfl)) ?_; refine cur_pure rfl rfl rfl rfl (fun _ => h) (fun _ => flt_v rfl (q_nil rfl)) ?_; refine cur_pure rfl rfl rfl rfl (fun _ => h) (fun _ => flt_v rfl (q_fa rfl)) ?_
   refine cur_float rfl rfl rfl rfl h (fun w h => flt_v rfl (q_load (v := .int .i64 win.trail) rfl h rfl)) ?_
   refine cur_skip ?_; refine cur_skip ?_
   refine cur_one 4 rfl rfl rfl rfl ?_
   refine (x_call rfl (xorv_long ho hs) ?_)
   rintro _ w ⟨rfl, hs⟩
   replace h := hs.b 1 rfl
   refine ⟨fun _ => h, ?_⟩
   refine cur_skip ?_; refine cur_skip ?_; refine cur_skip ?_
   refine cur_one 5 rfl rfl rfl rfl ?_
   refine (x_call rfl (bits_Get win.long hs) ?_)
   rw [heldN_nat hwl, hg3]
   rintro _ w ⟨rfl, hs⟩
   dsimp only at hs
   replace h := hs.b 1 rfl
   refine ⟨fun _ => h, ?_⟩
   refine cur_pure rfl rfl rfl rfl (fun _ => h) (fun _ => flt_v rfl (q_is (v' := .int .u64 ((g * 2 ^ win.trail % 18446744073709551616 : Nat) : Int)) (q_shl rfl rfl (by omega)) (congrArg (Value.int .u64) (shl_u64 g win.trail htr)))) ?_
   refine cur_pure rfl rfl rfl rfl (fun _ => h) (fun _ => flt_v rfl (q_assignI rfl)) ?_
   exact cur_end ⟨(), ⟨rfl, rfl, trivial⟩, hs⟩
  clear h
  rintro _ w e h
  rw [hT2]
  dsimp only
  generalize hX : g * 2 ^ win.trail % 18446744073709551616 = x at hglt ⊢
  refine c_seq (c_region ?_)
  refine r_v (q_moveI rfl) rfl ?_; refine r_v (q_moveP rfl) rfl ?_; refine r_v (q_nil rfl) rfl ?_; refine r_v (q_fa rfl) rfl ?_
  refine r_v (q_load (v := .bool win.is) rfl (h.b 1 rfl) rfl) rfl ?_
  cases hwi : win.is with
  | false =>
   refine r_v (q_moveB rfl) rfl ?_; (first | refine r_gd rfl rfl ?_ | refine r_gn rfl rfl rfl ?_ | refine r_gu rfl rfl ?_ | refine r_gd rfl (by assumption) ?_ | refine r_gn rfl (by assumption) rfl ?_); (first | refine r_gd rfl rfl ?_ | refine r_gn rfl rfl rfl ?_ | refine r_gu rfl rfl ?_ | refine r_gd rfl (by assumption) ?_ | refine r_gn rfl (by assumption) rfl ?_); (first | refine r_v (q_pick1 rfl rfl rfl) rfl ?_ | refine r_v (q_pick0 rfl rfl rfl) rfl ?_ | refine r_v (q_pick1 rfl (by assumption) rfl) rfl ?_ | refine r_v (q_pick0 rfl (by assumption) rfl) rfl ?_ | refine r_v (q_pickB rfl rfl rfl) rfl ?_); refine r_v (q_assignI rfl) rfl ?_; refine r_v (q_assignB rfl) rfl ?_
   refine r_nil ?_
   exact c_ret (bq2 ⟨x, false, win, rfl, hglt, ho, by simp, h⟩)
  | true =>
   refine r_v (q_moveB rfl) rfl ?_; (first | refine r_gd rfl rfl ?_ | refine r_gn rfl rfl rfl ?_ | refine r_gu rfl rfl ?_ | refine r_gd rfl (by assumption) ?_ | refine r_gn rfl (by assumption) rfl ?_); refine r_v (q_moveI rfl) rfl ?_; (first | refine r_gd rfl rfl ?_ | refine r_gn rfl rfl rfl ?_ | refine r_gu rfl rfl ?_ | refine r_gd rfl (by assumption) ?_ | refine r_gn rfl (by assumption) rfl ?_); refine r_v (q_neq rfl rfl) rfl ?_; (first | refine r_v (q_pick1 rfl rfl rfl) rfl ?_ | refine r_v (q_pick0 rfl rfl rfl) rfl ?_ | refine r_v (q_pick1 rfl (by assumption) rfl) rfl ?_ | refine r_v (q_pick0 rfl (by assumption) rfl) rfl ?_ | refine r_v (q_pickB rfl rfl rfl) rfl ?_); refine r_v (q_assignI rfl) rfl ?_; refine r_v (q_assignB rfl) rfl ?_
   refine r_nil ?_
   refine c_ret (bq2 ⟨x, (x : Int) != 0, win, rfl, hglt, ho, ?_, h⟩)
   by_cases hx0 : x = 0
   ·subst hx0; simp
   ·rw [if_pos ⟨rfl, hx0⟩, if_pos (by rw [bne_iff_ne]; omega)]
 refine r_is (.bool false) (by congr 1; rw [beq_eq_false_iff_ne]; omega) ?_
 refine r_nil (c_false rfl (c_skip ?_))
 refine c_seq (c_region ?_)
 refine r_v (q_moveP rfl) rfl ?_
 refine r_c rfl (x_call rfl (bits_Get 5 h) ?_)
 rw [show heldN 5 = 5 from rfl]
 have hlead := RS.get_lt s2 5
 cases hg3 : s2.get 5 with | mk lead s3 =>
 rw [hg3] at hlead
 rintro _ w ⟨rfl, h⟩
 dsimp only at h hlead ⊢
 refine r_v (q_conv rfl) rfl ?_
 refine r_is (.int .i64 (lead : Int)) (by rw [wrap64 (by omega) (by omega)]) ?_
 refine r_v (q_moveP rfl) rfl ?_
 refine r_c rfl (x_call rfl (bits_Get 6 h) ?_)
 rw [show heldN 6 = 6 from rfl]
 have hlong := RS.get_lt s3 6
 cases hg4 : s3.get 6 with | mk long s4 =>
 rw [hg4] at hlong
 rintro _ w ⟨rfl, h⟩
 dsimp only at h hlong ⊢
 refine r_v (q_conv rfl) rfl ?_
 refine r_is (.int .i64 (long : Int)) (by rw [wrap64 (by omega) (by omega)]) ?_
 refine r_v (q_add rfl rfl) rfl ?_
 refine r_is (.int .i64 ((long + 1 : Nat) : Int)) (by rw [wrap64 (by omega) (by omega)]; rfl) ?_
 refine r_v (q_assignI rfl) rfl ?_; refine r_v (q_assignI rfl) rfl ?_
 refine r_nil ?_
 refine c_seq (c_region ?_)
 refine r_v (q_moveI rfl) rfl ?_; refine r_v (q_moveI rfl) rfl ?_; refine r_v (q_sub rfl rfl) rfl ?_
 refine r_is (.int .i64 (64 - (lead : Int))) (by rw [wrap64 (by omega) (by omega)]) ?_
 refine r_v (q_moveI rfl) rfl ?_; refine r_v (q_sub rfl rfl) rfl ?_
 refine r_is (.int .i64 (64 - (lead : Int) - ((long + 1 : Nat) : Int))) (by rw [wrap64 (by omega) (by omega)]) ?_
 generalize htr : 64 - (lead : Int) - ((long + 1 : Nat) : Int) = tr
 refine r_v (q_build (r := [.bool true, .int .i64 lead, .int .i64 tr]) rfl) rfl ?_
 refine r_c rfl (x_alloc h fun b9 w h => ?_)
 refine r_c rfl (x_storeA (vs := [.bool true, .int .i64 lead, .int .i64 tr]) 0 h rfl rfl rfl rfl rfl rfl rfl fun w h => ?_)
 replace h : St w0 (pt b9 (.cells [.bool true, .int .i64 lead, .int .i64 tr].toArray 134 (0, 0)) :: IsBR p s4 :: WinPt q win :: l) w := h
 refine r_nil ?_
 refine c_seq (c_seq (c_region ?_))
 refine r_v (q_fa rfl) rfl ?_
 refine r_v (q_load (v := .int .i64 tr) rfl (h.b 0 rfl) rfl) rfl ?_
 refine r_v (q_lss rfl rfl) rfl ?_
 refine r_nil (c_cond (decide (tr < 0)) rfl (fun hc => ?_) (fun hc => ?_))
 ·
  refine c_seq (c_region ?_)
  refine r_v (q_assignI rfl) rfl ?_; refine r_v (q_assignB rfl) rfl ?_
  refine r_nil ?_
  rw [turnR_3x hg1 ha hg2 hb hg3 hg4 (by rw [decide_eq_true_eq] at hc; omega)]
  exact c_ret (bq2 ⟨0, false, win, rfl, by decide, ho, rfl, h.drop⟩)
 refine c_skip ?_
 have hle : ¬ 64 < lead + (long + 1) := by rw [decide_eq_false_iff_not] at hc; omega
 have htr2 : tr = ((64 - lead - (long + 1) : Nat) : Int) := by omega
 subst htr2
 clear hc htr
 cases hg5 : s4.get (long + 1) with | mk g s5 =>
 have hT3 := turnR_3 (win := win) hg1 ha hg2 hb hg3 hg4 hle hg5
 have hglt : g * 2 ^ (64 - lead - (long + 1)) % 18446744073709551616 < 18446744073709551616 := Nat.mod_lt _ (by decide)
 generalize htd : 64 - lead - (long + 1) = tr at hT3 hglt h ⊢
 replace h : St w0 (WinPt b9 ⟨true, lead, tr⟩ :: IsBR p s4 :: WinPt q win :: l) w := h
 refine c_cut (Γ := Unit) (fun _ => [(1, .pointer (some ⟨q, 0, none⟩)), (9, .pointer (some ⟨b9, 0, none⟩)), (10, .int .u64 ((g * 2 ^ tr % 18446744073709551616 : Nat) : Int))]) (fun _ w => St w0 (WinPt b9 ⟨true, lead, tr⟩ :: IsBR p s5 :: WinPt q win :: l) w) ?_ ?_
 ·refine c_anyW [0, 1, 2, 3, 4, 5, 6] none (fun w => w.heap[b9]? = some (.cells (winC ⟨true, lead, tr⟩).toArray 134 (0, 0))) (by kernel_rfl) (by kernel_rfl) ?_
  replace h := h.drew
  generalize w.drew = w at h
  have hs := h
  replace h := hs.b 0 rfl
  refine cur_pure rfl rfl rfl rfl (fun _ => h) (fun _ => flt_v rfl (q_moveP rfl)) ?_; refine cur_pure rfl rfl rfl rfl (fun _ => h) (fun _ => flt_v rfl (q_moveI rfl)) ?_; refine cur_skip ?_; refine cur_pure rfl rfl rfl rfl (fun _ => h) (fun _ => flt_v rfl (q_fa rfl)) ?_
  refine cur_float rfl rfl rfl rfl h (fun w h => flt_v rfl (q_load (v := .int .i64 tr) rfl h rfl)) ?_
  refine cur_skip ?_; refine cur_skip ?_
  refine cur_one 2 rfl rfl rfl rfl ?_
  refine (x_call rfl (bits_Get ((long + 1 : Nat) : Int) (hs.f 1)) ?_)
  rw [heldN_nat (by omega), hg5]
  rintro _ w ⟨rfl, hs⟩
  dsimp only at hs
  replace hs := hs.f 1
  replace h := hs.b 0 rfl
  refine ⟨fun _ => h, ?_⟩
  refine cur_pure rfl rfl rfl rfl (fun _ => h) (fun _ => flt_v rfl (q_is (v' := .int .u64 ((g * 2 ^ tr % 18446744073709551616 : Nat) : Int)) (q_shl rfl rfl (by omega)) (congrArg (Value.int .u64) (shl_u64 g tr (by omega))))) ?_
  refine cur_pure rfl rfl rfl rfl (fun _ => h) (fun _ => flt_v rfl (q_assignI rfl)) ?_
  exact cur_end ⟨(), ⟨rfl, rfl, rfl, trivial⟩, hs⟩
 clear h
 rintro _ w e h
 rw [hT3]
 dsimp only
 generalize hX : g * 2 ^ tr % 18446744073709551616 = x at hglt ⊢
 refine c_cut (Γ := Unit) (fun _ => [(1, .pointer (some ⟨q, 0, none⟩)), (9, .pointer (some ⟨b9, 0, none⟩)), (10, .int .u64 (x : Int))]) (fun _ w => ¬ (x = 0 ∨ winOf x ≠ ⟨true, lead, tr⟩ ∨ win.fits x = true) ∧ St w0 (WinPt b9 ⟨true, lead, tr⟩ :: IsBR p s5 :: WinPt q win :: l) w) ?_ ?_
 ·have bad : ∀ {w : World}, (x = 0 ∨ winOf x ≠ ⟨true, lead, tr⟩ ∨ win.fits x = true) → St w0 (WinPt b9 ⟨true, lead, tr⟩ :: IsBR p s5 :: WinPt q win :: l) w → ∃ (x' : Nat) (ok : Bool) (win' : Win), Value.tuple [.int .u64 0, .bool false].toArray = .tuple [.int .u64 (x' : Int), .bool ok].toArray ∧ x' < 18446744073709551616 ∧ WinOk win' ∧ (if x = 0 ∨ winOf x ≠ ⟨true, lead, tr⟩ ∨ win.fits x = true then none else some (x, (⟨true, lead, tr⟩ : Win))) = (if ok = true then some (x', win') else none) ∧ St w0 (IsBR p s5 :: WinPt q win' :: l) w := fun hb h => ⟨0, false, win, rfl, by decide, ho, by rw [if_pos hb]; rfl, h.drop⟩
  have hwc : ∀ {w : World}, St w0 (WinPt b9 ⟨true, lead, tr⟩ :: IsBR p s5 :: WinPt q win :: l) w → At w b9 0 (winC ⟨true, lead, tr⟩) := fun h => at_of (h.b 0 rfl) rfl
  by_cases hx0 : x = 0
  ·refine c_seq (c_any none (fun w => St w0 _ w) (by kernel_rfl) (by kernel_rfl) h.drew fun w h => ?_)
   refine cur_pure rfl rfl rfl rfl (fun _ => h) (fun _ => flt_v rfl (q_moveI rfl)) ?_
   refine cur_pure rfl rfl rfl rfl (fun _ => h) (fun _ => flt_v rfl (q_is (v' := .bool true) (q_eql rfl rfl) (by rw [hx0]; rfl))) ?_
   refine cur_pure rfl rfl rfl rfl (fun _ => h) (fun _ => flt_v rfl (q_moveB rfl)) ?_; (first | refine cur_pure rfl rfl rfl rfl (fun _ => h) (fun _ => flt_g rfl rfl (q_nil rfl)) ?_ | refine cur_pure rfl rfl rfl rfl (fun _ => h) (fun _ => flt_g rfl (by assumption) (q_nil rfl)) ?_ | refine cur_pure rfl rfl rfl rfl (fun _ => h) (fun _ => flt_n rfl rfl) ?_ | refine cur_pure rfl rfl rfl rfl (fun _ => h) (fun _ => flt_n rfl (by assumption)) ?_); (first | refine cur_pure rfl rfl rfl rfl (fun _ => h) (fun _ => flt_g rfl rfl (q_nil rfl)) ?_ | refine cur_pure rfl rfl rfl rfl (fun _ => h) (fun _ => flt_g rfl (by assumption) (q_nil rfl)) ?_ | refine cur_pure rfl rfl rfl rfl (fun _ => h) (fun _ => flt_n rfl rfl) ?_ | refine cur_pure rfl rfl rfl rfl (fun _ => h) (fun _ => flt_n rfl (by assumption)) ?_); (first | refine cur_pure rfl rfl rfl rfl (fun _ => h) (fun _ => flt_g rfl rfl (q_nil rfl)) ?_ | refine cur_pure rfl rfl rfl rfl (fun _ => h) (fun _ => flt_g rfl (by assumption) (q_nil rfl)) ?_ | refine cur_pure rfl rfl rfl rfl (fun _ => h) (fun _ => flt_n rfl rfl) ?_ | refine cur_pure rfl rfl rfl rfl (fun _ => h) (fun _ => flt_n rfl (by assumption)) ?_); (first | refine cur_pure rfl rfl rfl rfl (fun _ => h) (fun _ => flt_g rfl rfl (q_nil rfl)) ?_ | refine cur_pure rfl rfl rfl rfl (fun _ => h) (fun _ => flt_g rfl (by assumption) (q_nil rfl)) ?_ | refine cur_pure rfl rfl rfl rfl (fun _ => h) (fun _ => flt_n rfl rfl) ?_ | refine cur_pure rfl rfl rfl rfl (fun _ => h) (fun _ => flt_n rfl (by assumption)) ?_); (first | refine cur_pure rfl rfl rfl rfl (fun _ => h) (fun _ => flt_v rfl (q_pick1 rfl rfl rfl)) ?_ | refine cur_pure rfl rfl rfl rfl (fun _ => h) (fun _ => flt_v rfl (q_pick0 rfl rfl rfl)) ?_ | refine cur_pure rfl rfl rfl rfl (fun _ => h) (fun _ => flt_v rfl (q_pick1 rfl (by assumption) rfl)) ?_ | refine cur_pure rfl rfl rfl rfl (fun _ => h) (fun _ => flt_v rfl (q_pick0 rfl (by assumption) rfl)) ?_ | refine cur_pure rfl rfl rfl rfl (fun _ => h) (fun _ => flt_v rfl (q_pickB rfl rfl rfl)) ?_); refine cur_pure rfl rfl rfl rfl (fun _ => h) (fun _ => flt_v rfl (q_moveB rfl)) ?_; (first | refine cur_pure rfl rfl rfl rfl (fun _ => h) (fun _ => flt_g rfl rfl (q_nil rfl)) ?_ | refine cur_pure rfl rfl rfl rfl (fun _ => h) (fun _ => flt_g rfl (by assumption) (q_nil rfl)) ?_ | refine cur_pure rfl rfl rfl rfl (fun _ => h) (fun _ => flt_n rfl rfl) ?_ | refine cur_pure rfl rfl rfl rfl (fun _ => h) (fun _ => flt_n rfl (by assumption)) ?_); (first | refine cur_pure rfl rfl rfl rfl (fun _ => h) (fun _ => flt_g rfl rfl (q_nil rfl)) ?_ | refine cur_pure rfl rfl rfl rfl (fun _ => h) (fun _ => flt_g rfl (by assumption) (q_nil rfl)) ?_ | refine cur_pure rfl rfl rfl rfl (fun _ => h) (fun _ => flt_n rfl rfl) ?_ | refine cur_pure rfl rfl rfl rfl (fun _ => h) (fun _ => flt_n rfl (by assumption)) ?_); (first | refine cur_pure rfl rfl rfl rfl (fun _ => h) (fun _ => flt_g rfl rfl (q_nil rfl)) ?_ | refine cur_pure rfl rfl rfl rfl (fun _ => h) (fun _ => flt_g rfl (by assumption) (q_nil rfl)) ?_ | refine cur_pure rfl rfl rfl rfl (fun _ => h) (fun _ => flt_n rfl rfl) ?_ | refine cur_pure rfl rfl rfl rfl (fun _ => h) (fun _ => flt_n rfl (by assumption)) ?_); (first | refine cur_pure rfl rfl rfl rfl (fun _ => h) (fun _ => flt_g rfl rfl (q_nil rfl)) ?_ | refine cur_pure rfl rfl rfl rfl (fun _ => h) (fun _ => flt_g rfl (by assumption) (q_nil rfl)) ?_ | refine cur_pure rfl rfl rfl rfl (fun _ => h) (fun _ => flt_n rfl rfl) ?_ | refine cur_pure rfl rfl rfl rfl (fun _ => h) (fun _ => flt_n rfl (by assumption)) ?_); (first | refine cur_pure rfl rfl rfl rfl (fun _ => h) (fun _ => flt_g rfl rfl (q_nil rfl)) ?_ | refine cur_pure rfl rfl rfl rfl (fun _ => h) (fun _ => flt_g rfl (by assumption) (q_nil rfl)) ?_ | refine cur_pure rfl rfl rfl rfl (fun _ => h) (fun _ => flt_n rfl rfl) ?_ | refine cur_pure rfl rfl rfl rfl (fun _ => h) (fun _ => flt_n rfl (by assumption)) ?_); (first | refine cur_pure rfl rfl rfl rfl (fun _ => h) (fun _ => flt_v rfl (q_pick1 rfl rfl rfl)) ?_ | refine cur_pure rfl rfl rfl rfl (fun _ => h) (fun _ => flt_v rfl (q_pick0 rfl rfl rfl)) ?_ | refine cur_pure rfl rfl rfl rfl (fun _ => h) (fun _ => flt_v rfl (q_pick1 rfl (by assumption) rfl)) ?_ | refine cur_pure rfl rfl rfl rfl (fun _ => h) (fun _ => flt_v rfl (q_pick0 rfl (by assumption) rfl)) ?_ | refine cur_pure rfl rfl rfl rfl (fun _ => h) (fun _ => flt_v rfl (q_pickB rfl rfl rfl)) ?_)
   refine cur_end (c_true rfl ?_)
   refine c_seq (c_region ?_)
   refine r_v (q_assignI rfl) rfl ?_; refine r_v (q_assignB rfl) rfl ?_
   exact r_nil (c_ret (bq2 (bad (.inl hx0) h)))
  by_cases hne : winOf x ≠ ⟨true, lead, tr⟩
  ·refine c_seq (c_any none (fun w => St w0 _ w) (by kernel_rfl) (by kernel_rfl) h.drew fun w h => ?_)
   refine cur_pure rfl rfl rfl rfl (fun _ => h) (fun _ => flt_v rfl (q_moveI rfl)) ?_
   refine cur_pure rfl rfl rfl rfl (fun _ => h) (fun _ => flt_v rfl (q_is (v' := .bool false) (q_eql rfl rfl) (by congr 1; rw [beq_eq_false_iff_ne]; omega))) ?_
   refine cur_pure rfl rfl rfl rfl (fun _ => h) (fun _ => flt_v rfl (q_moveB rfl)) ?_; (first | refine cur_pure rfl rfl rfl rfl (fun _ => h) (fun _ => flt_g rfl rfl (q_moveI rfl)) ?_ | refine cur_pure rfl rfl rfl rfl (fun _ => h) (fun _ => flt_g rfl (by assumption) (q_moveI rfl)) ?_ | refine cur_pure rfl rfl rfl rfl (fun _ => h) (fun _ => flt_n rfl rfl) ?_ | refine cur_pure rfl rfl rfl rfl (fun _ => h) (fun _ => flt_n rfl (by assumption)) ?_); refine cur_skip ?_
   refine cur_float rfl rfl rfl rfl h (fun w h => flt_g rfl rfl (q_loadS (l := winC ⟨true, lead, tr⟩) rfl rfl (hwc h))) ?_
   refine cur_skip ?_; refine cur_skip ?_; refine cur_skip ?_; refine cur_skip ?_; refine cur_skip ?_; refine cur_skip ?_; refine cur_skip ?_; refine cur_skip ?_; refine cur_skip ?_
   refine cur_one 4 rfl rfl rfl (wanted_g rfl rfl rfl) ?_
   refine (x_call rfl (xorv_of hT hglt h) ?_)
   rintro _ w ⟨rfl, h⟩
   refine ⟨fun _ => h, ?_⟩
   refine cur_pure rfl rfl rfl rfl (fun _ => h) (fun _ => flt_g rfl rfl (q_is (v' := .bool true) (q_neB2 (winOf x).is true (winOf x).lead lead (winOf x).trail tr rfl rfl) (by rw [win_ne (winOf x) ⟨true, lead, tr⟩, decide_eq_true hne]))) ?_
   (first | refine cur_pure rfl rfl rfl rfl (fun _ => h) (fun _ => flt_v rfl (q_pick1 rfl rfl rfl)) ?_ | refine cur_pure rfl rfl rfl rfl (fun _ => h) (fun _ => flt_v rfl (q_pick0 rfl rfl rfl)) ?_ | refine cur_pure rfl rfl rfl rfl (fun _ => h) (fun _ => flt_v rfl (q_pick1 rfl (by assumption) rfl)) ?_ | refine cur_pure rfl rfl rfl rfl (fun _ => h) (fun _ => flt_v rfl (q_pick0 rfl (by assumption) rfl)) ?_ | refine cur_pure rfl rfl rfl rfl (fun _ => h) (fun _ => flt_v rfl (q_pickB rfl rfl rfl)) ?_); refine cur_pure rfl rfl rfl rfl (fun _ => h) (fun _ => flt_v rfl (q_moveB rfl)) ?_; (first | refine cur_pure rfl rfl rfl rfl (fun _ => h) (fun _ => flt_g rfl rfl (q_nil rfl)) ?_ | refine cur_pure rfl rfl rfl rfl (fun _ => h) (fun _ => flt_g rfl (by assumption) (q_nil rfl)) ?_ | refine cur_pure rfl rfl rfl rfl (fun _ => h) (fun _ => flt_n rfl rfl) ?_ | refine cur_pure rfl rfl rfl rfl (fun _ => h) (fun _ => flt_n rfl (by assumption)) ?_); (first | refine cur_pure rfl rfl rfl rfl (fun _ => h) (fun _ => flt_g rfl rfl (q_nil rfl)) ?_ | refine cur_pure rfl rfl rfl rfl (fun _ => h) (fun _ => flt_g rfl (by assumption) (q_nil rfl)) ?_ | refine cur_pure rfl rfl rfl rfl (fun _ => h) (fun _ => flt_n rfl rfl) ?_ | refine cur_pure rfl rfl rfl rfl (fun _ => h) (fun _ => flt_n rfl (by assumption)) ?_); (first | refine cur_pure rfl rfl rfl rfl (fun _ => h) (fun _ => flt_g rfl rfl (q_nil rfl)) ?_ | refine cur_pure rfl rfl rfl rfl (fun _ => h) (fun _ => flt_g rfl (by assumption) (q_nil rfl)) ?_ | refine cur_pure rfl rfl rfl rfl (fun _ => h) (fun _ => flt_n rfl rfl) ?_ | refine cur_pure rfl rfl rfl rfl (fun _ => h) (fun _ => flt_n rfl (by assumption)) ?_); (first | refine cur_pure rfl rfl rfl rfl (fun _ => h) (fun _ => flt_g rfl rfl (q_nil rfl)) ?_ | refine cur_pure rfl rfl rfl rfl (fun _ => h) (fun _ => flt_g rfl (by assumption) (q_nil rfl)) ?_ | refine cur_pure rfl rfl rfl rfl (fun _ => h) (fun _ => flt_n rfl rfl) ?_ | refine cur_pure rfl rfl rfl rfl (fun _ => h) (fun _ => flt_n rfl (by assumption)) ?_); (first | refine cur_pure rfl rfl rfl rfl (fun _ => h) (fun _ => flt_g rfl rfl (q_nil rfl)) ?_ | refine cur_pure rfl rfl rfl rfl (fun _ => h) (fun _ => flt_g rfl (by assumption) (q_nil rfl)) ?_ | refine cur_pure rfl rfl rfl rfl (fun _ => h) (fun _ => flt_n rfl rfl) ?_ | refine cur_pure rfl rfl rfl rfl (fun _ => h) (fun _ => flt_n rfl (by assumption)) ?_); (first | refine cur_pure rfl rfl rfl rfl (fun _ => h) (fun _ => flt_v rfl (q_pick1 rfl rfl rfl)) ?_ | refine cur_pure rfl rfl rfl rfl (fun _ => h) (fun _ => flt_v rfl (q_pick0 rfl rfl rfl)) ?_ | refine cur_pure rfl rfl rfl rfl (fun _ => h) (fun _ => flt_v rfl (q_pick1 rfl (by assumption) rfl)) ?_ | refine cur_pure rfl rfl rfl rfl (fun _ => h) (fun _ => flt_v rfl (q_pick0 rfl (by assumption) rfl)) ?_ | refine cur_pure rfl rfl rfl rfl (fun _ => h) (fun _ => flt_v rfl (q_pickB rfl rfl rfl)) ?_)
   refine cur_end (c_true rfl ?_)
   refine c_seq (c_region ?_)
   refine r_v (q_assignI rfl) rfl ?_; refine r_v (q_assignB rfl) rfl ?_
   exact r_nil (c_ret (bq2 (bad (.inr (.inl hne)) h)))
  ·refine c_seq (c_any none (fun w => St w0 _ w) (by kernel_rfl) (by kernel_rfl) h.drew fun w h => ?_)
   refine cur_pure rfl rfl rfl rfl (fun _ => h) (fun _ => flt_v rfl (q_moveI rfl)) ?_
   refine cur_pure rfl rfl rfl rfl (fun _ => h) (fun _ => flt_v rfl (q_is (v' := .bool false) (q_eql rfl rfl) (by congr 1; rw [beq_eq_false_iff_ne]; omega))) ?_
   refine cur_pure rfl rfl rfl rfl (fun _ => h) (fun _ => flt_v rfl (q_moveB rfl)) ?_; (first | refine cur_pure rfl rfl rfl rfl (fun _ => h) (fun _ => flt_g rfl rfl (q_moveI rfl)) ?_ | refine cur_pure rfl rfl rfl rfl (fun _ => h) (fun _ => flt_g rfl (by assumption) (q_moveI rfl)) ?_ | refine cur_pure rfl rfl rfl rfl (fun _ => h) (fun _ => flt_n rfl rfl) ?_ | refine cur_pure rfl rfl rfl rfl (fun _ => h) (fun _ => flt_n rfl (by assumption)) ?_); refine cur_skip ?_
   refine cur_float rfl rfl rfl rfl h (fun w h => flt_g rfl rfl (q_loadS (l := winC ⟨true, lead, tr⟩) rfl rfl (hwc h))) ?_
   refine cur_skip ?_; refine cur_skip ?_; refine cur_skip ?_; refine cur_skip ?_; refine cur_skip ?_; refine cur_skip ?_; refine cur_skip ?_; refine cur_skip ?_; refine cur_skip ?_
   refine cur_one 4 rfl rfl rfl (wanted_g rfl rfl rfl) ?_
   refine (x_call rfl (xorv_of hT hglt h) ?_)
   rintro _ w ⟨rfl, h⟩
   refine ⟨fun _ => h, ?_⟩
   refine cur_pure rfl rfl rfl rfl (fun _ => h) (fun _ => flt_g rfl rfl (q_is (v' := .bool false) (q_neB2 (winOf x).is true (winOf x).lead lead (winOf x).trail tr rfl rfl) (by rw [win_ne (winOf x) ⟨true, lead, tr⟩, decide_eq_false hne]))) ?_
   (first | refine cur_pure rfl rfl rfl rfl (fun _ => h) (fun _ => flt_v rfl (q_pick1 rfl rfl rfl)) ?_ | refine cur_pure rfl rfl rfl rfl (fun _ => h) (fun _ => flt_v rfl (q_pick0 rfl rfl rfl)) ?_ | refine cur_pure rfl rfl rfl rfl (fun _ => h) (fun _ => flt_v rfl (q_pick1 rfl (by assumption) rfl)) ?_ | refine cur_pure rfl rfl rfl rfl (fun _ => h) (fun _ => flt_v rfl (q_pick0 rfl (by assumption) rfl)) ?_ | refine cur_pure rfl rfl rfl rfl (fun _ => h) (fun _ => flt_v rfl (q_pickB rfl rfl rfl)) ?_); refine cur_pure rfl rfl rfl rfl (fun _ => h) (fun _ => flt_v rfl (q_moveB rfl)) ?_; (first | refine cur_pure rfl rfl rfl rfl (fun _ => h) (fun _ => flt_g rfl rfl (q_moveP rfl)) ?_ | refine cur_pure rfl rfl rfl rfl (fun _ => h) (fun _ => flt_g rfl (by assumption) (q_moveP rfl)) ?_ | refine cur_pure rfl rfl rfl rfl (fun _ => h) (fun _ => flt_n rfl rfl) ?_ | refine cur_pure rfl rfl rfl rfl (fun _ => h) (fun _ => flt_n rfl (by assumption)) ?_); (first | refine cur_pure rfl rfl rfl rfl (fun _ => h) (fun _ => flt_g rfl rfl (q_nil rfl)) ?_ | refine cur_pure rfl rfl rfl rfl (fun _ => h) (fun _ => flt_g rfl (by assumption) (q_nil rfl)) ?_ | refine cur_pure rfl rfl rfl rfl (fun _ => h) (fun _ => flt_n rfl rfl) ?_ | refine cur_pure rfl rfl rfl rfl (fun _ => h) (fun _ => flt_n rfl (by assumption)) ?_)
   refine cur_float rfl rfl rfl rfl h (fun w h => flt_g rfl rfl (q_loadS (l := winC win) rfl rfl (at_of (h.b 2 rfl) rfl))) ?_
   (first | refine cur_pure rfl rfl rfl rfl (fun _ => h) (fun _ => flt_g rfl rfl (q_moveI rfl)) ?_ | refine cur_pure rfl rfl rfl rfl (fun _ => h) (fun _ => flt_g rfl (by assumption) (q_moveI rfl)) ?_ | refine cur_pure rfl rfl rfl rfl (fun _ => h) (fun _ => flt_n rfl rfl) ?_ | refine cur_pure rfl rfl rfl rfl (fun _ => h) (fun _ => flt_n rfl (by assumption)) ?_); refine cur_skip ?_; refine cur_skip ?_
   refine cur_one 13 rfl rfl rfl (wanted_g rfl rfl rfl) ?_
   refine (x_call rfl (xorv_fits hT hglt h) ?_)
   rintro _ w ⟨rfl, h⟩
   refine ⟨fun _ => h, ?_⟩
   (first | refine cur_pure rfl rfl rfl rfl (fun _ => h) (fun _ => flt_v rfl (q_pick1 rfl rfl rfl)) ?_ | refine cur_pure rfl rfl rfl rfl (fun _ => h) (fun _ => flt_v rfl (q_pick0 rfl rfl rfl)) ?_ | refine cur_pure rfl rfl rfl rfl (fun _ => h) (fun _ => flt_v rfl (q_pick1 rfl (by assumption) rfl)) ?_ | refine cur_pure rfl rfl rfl rfl (fun _ => h) (fun _ => flt_v rfl (q_pick0 rfl (by assumption) rfl)) ?_ | refine cur_pure rfl rfl rfl rfl (fun _ => h) (fun _ => flt_v rfl (q_pickB rfl rfl rfl)) ?_)
   refine cur_end (c_cond (win.fits x) rfl (fun hc => ?_) (fun hc => ?_))
   ·refine c_seq (c_region ?_)
    refine r_v (q_assignI rfl) rfl ?_; refine r_v (q_assignB rfl) rfl ?_
    exact r_nil (c_ret (bq2 (bad (.inr (.inr hc)) h)))
   ·refine c_skip ⟨(), ⟨rfl, rfl, rfl, trivial⟩, ?_, h⟩
    rintro (h | h | h)
    ·exact hx0 h
    ·exact hne h
    ·rw [hc] at h; cases h
 clear h
 rintro _ w e ⟨hcond, h⟩
 refine c_seq (c_region ?_)
 refine r_v (q_moveP rfl) rfl ?_
 refine r_v (q_loadS (l := winC ⟨true, lead, tr⟩) rfl rfl (at_of (h.b 0 rfl) rfl)) rfl ?_
 refine r_v (q_nil rfl) rfl ?_
 refine r_c rfl (x_storeA (vs := winC ⟨true, lead, tr⟩) 2 h rfl rfl rfl rfl rfl rfl rfl fun w h => ?_)
 replace h : St w0 (WinPt b9 ⟨true, lead, tr⟩ :: IsBR p s5 :: WinPt q ⟨true, lead, tr⟩ :: l) w := h
 refine r_nil ?_
 refine c_seq (c_region ?_)
 refine r_v (q_moveI rfl) rfl ?_; refine r_v (q_assignI rfl) rfl ?_; refine r_v (q_assignB rfl) rfl ?_
 refine r_nil ?_
 exact c_ret (bq2 ⟨x, true, ⟨true, lead, tr⟩, rfl, hglt, by unfold WinOk; dsimp only; omega, by rw [if_neg hcond, if_pos rfl], h.drop⟩)

theorem xorv_Decode (hT : Tz w0) {p : Nat} {s : RS} {n : Nat} (hn : n ≤ 65535) (h : St w0 (IsBR p s :: l) w) :
  Ret Tryz.prog 84 [.pointer (some ⟨p, 0, none⟩), .int .i64 (n : Int)] w fun v w' => ∃ a c xs b, v = .tuple [.slice a xs.length c, .bool b].toArray ∧ xorDec n s = (if b = true then some xs else none) ∧ (b = true → xs.length = n ∧ ∀ x ∈ xs, x < 18446744073709551616) ∧ ∃ s', St w0 (OwnU a c xs :: IsBR p s' :: l) w' := by
 refine enter Tryz.func84 rfl Tryz.results84 Tryz.ntmps84 rfl ?_
 refine c_seq (c_region ?_)
 refine r_v (q_assignS rfl) rfl ?_; refine r_v (q_assignB rfl) rfl ?_
 refine r_nil ?_
 refine c_seq (c_region ?_)
 refine r_v (q_moveI rfl) rfl ?_; refine r_v (q_max rfl rfl) rfl ?_; refine r_v (q_min rfl rfl) rfl ?_
 refine r_is (.int .i64 (n : Int)) (by congr 1; omega) ?_
 refine r_v (q_assignI rfl) rfl ?_
 refine r_nil ?_
 refine c_seq (c_region ?_)
 refine r_v (q_assignS rfl) rfl ?_
 refine r_nil ?_
 refine c_seq (c_region ?_)
 refine r_c rfl (x_alloc h fun q w h => ?_)
 replace h : St w0 (WinPt q ⟨false, 0, 0⟩ :: IsBR p s :: l) w := h
 refine r_nil ?_
 refine c_seq (c_region ?_)
 refine r_v (q_assignI rfl) rfl ?_
 refine r_nil ?_
 refine c_seq (c_seq (c_region ?_))
 refine r_v (q_moveI rfl) rfl ?_; refine r_v (q_moveI rfl) rfl ?_
 refine r_nil ?_
 refine c_block ?_
 refine c_loop (Γ := Nat × List Nat × Nat × Win × RS × Option Addr × Nat) (fun k => [(0, .pointer (some ⟨p, 0, none⟩)), (6, .slice k.2.2.2.2.2.1 k.2.1.length k.2.2.2.2.2.2), (7, .pointer (some ⟨q, 0, none⟩)), (8, .int .u64 k.2.2.1), (15, .int .i64 n), (16, .int .i64 k.1)])
  (fun k w => k.1 ≤ n ∧ k.2.1.length = k.1 ∧ k.2.2.1 < 18446744073709551616 ∧ (∀ x ∈ k.2.1, x < 18446744073709551616) ∧ WinOk k.2.2.2.1 ∧ ((k.1 = 0 ∧ k.2.2.2.2.1 = s ∧ k.2.2.2.1 = ⟨false, 0, 0⟩) ∨ (0 < k.1 ∧ k.2.2.2.2.1.bad = false ∧ xorDec n s = (xorDecA (n - k.1) k.2.2.1 k.2.2.2.1 k.2.2.2.2.1).map fun r => k.2.1 ++ r))
   ∧ St w0 (OwnU k.2.2.2.2.2.1 k.2.2.2.2.2.2 k.2.1 :: WinPt q k.2.2.2.1 :: IsBR p k.2.2.2.2.1 :: l) w)
  (fun k => n - k.1) (0, [], 0, ⟨false, 0, 0⟩, s, none, 0) ⟨rfl, rfl, rfl, rfl, rfl, rfl, trivial⟩ ⟨Nat.zero_le _, rfl, (by decide : (0 : Nat) < 18446744073709551616), (fun _ h => by cases h), (show WinOk ⟨false, 0, 0⟩ by unfold WinOk; decide), .inl ⟨rfl, rfl, rfl⟩, St.ownNil _ _ h⟩ ?_
 clear h
 rintro ⟨i, out, was, win, s1, a, c⟩ w e ⟨hi, hol, hwas, hout, ho, inv, h⟩
 dsimp only at hi hol hwas hout ho inv h ⊢
 have bad : ∀ {w : World} {s' : RS}, xorDec n s = none → St w0 (IsBR p s' :: l) w → ∃ a c xs b, Value.tuple [.slice none 0 0, .bool false].toArray = .tuple [.slice a xs.length c, .bool b].toArray ∧ xorDec n s = (if b = true then some xs else none) ∧ (b = true → xs.length = n ∧ ∀ x ∈ xs, x < 18446744073709551616) ∧ ∃ s', St w0 (OwnU a c xs :: IsBR p s' :: l) w := fun hb h => ⟨none, 0, [], false, rfl, hb, (fun h => by cases h), _, St.ownNil _ _ h⟩
 refine c_seq (c_region ?_)
 refine r_v (q_lss rfl rfl) rfl ?_
 refine r_nil ?_
 refine c_seq (c_cond (decide ((i : Int) < (n : Int))) rfl (fun hc => ?_) (fun hc => ?_))
 ·
  have hlt : i < n := by simp at hc; omega
  refine c_skip ?_
  refine c_seq (c_block ?_)
  refine c_seq (c_region ?_)
  refine r_v (q_moveI rfl) rfl ?_; refine r_v (q_assignI rfl) rfl ?_
  refine r_nil ?_
  refine c_cut (Γ := Nat × Win × RS) (fun k => [(0, .pointer (some ⟨p, 0, none⟩)), (6, .slice a out.length c), (7, .pointer (some ⟨q, 0, none⟩)), (8, .int .u64 k.1), (15, .int .i64 n), (16, .int .i64 i)])
   (fun k w => k.1 < 18446744073709551616 ∧ WinOk k.2.1 ∧ (xorDec n s = if k.2.2.bad = true then none else (xorDecA (n - (i + 1)) k.1 k.2.1 k.2.2).map fun r => out ++ k.1 :: r) ∧ St w0 (IsBR p k.2.2 :: WinPt q k.2.1 :: OwnU a c out :: l) w) ?_ ?_
  ·refine c_seq (c_region ?_)
   refine r_v (q_moveI rfl) rfl ?_; refine r_v (q_eql rfl rfl) rfl ?_
   rcases inv with ⟨hi0, hs1, hw0⟩ | ⟨hi0, hbad, inv⟩
   ·refine r_is (.bool true) (by subst hi0; rfl) ?_
    refine r_nil (c_true rfl ?_)
    refine c_region ?_
    refine r_v (q_moveP rfl) rfl ?_
    refine r_c rfl (x_call rfl (bits_Get 64 (h.f 2)) ?_)
    rintro _ w ⟨rfl, h⟩
    rw [show heldN 64 = 64 from rfl] at h ⊢
    refine r_v (q_assignI rfl) rfl ?_
    refine r_nil ⟨((s1.get 64).1, win, (s1.get 64).2), ⟨rfl, rfl, rfl, rfl, rfl, rfl, trivial⟩, RS.get_lt s1 64, ho, ?_, h.f 2 |>.f 2 |>.f 1 |>.f 2⟩
    dsimp only
    have : out = [] := List.eq_nil_of_length_eq_zero (by omega)
    subst this
    rw [← hs1, hw0, hi0]
    cases n with
    | zero => omega
    | succ m => rfl
   ·refine r_is (.bool false) (by simp; omega) ?_
    refine r_nil (c_false rfl ?_)
    rw [show n - i = (n - (i + 1)) + 1 by omega, xorDecA] at inv
    refine c_seq (c_region ?_)
    refine r_v (q_moveP rfl) rfl ?_
    refine r_c rfl (x_call rfl (xorv_turn hT (.inl ho) ((h.f 1).f 2)) ?_)
    cases hR : turnR s1 win with | mk o s2 =>
    rw [hR] at inv
    rintro _ w ⟨x, ok, win', rfl, hx, ho', hr, h⟩
    dsimp only at hr h
    subst hr
    refine r_v (q_moveT rfl) rfl ?_; refine r_v (q_ext rfl rfl) rfl ?_; refine r_v (q_ext rfl rfl) rfl ?_; refine r_v (q_assignI rfl) rfl ?_; refine r_v (q_assignB rfl) rfl ?_
    refine r_nil ?_
    refine c_seq (c_seq (c_region ?_))
    refine r_v (q_moveB rfl) rfl ?_; refine r_v (q_not rfl) rfl ?_
    refine r_nil ?_
    cases ok with
    | false =>
     refine c_true rfl ?_
     refine c_seq (c_region ?_)
     refine r_v (q_assignS rfl) rfl ?_; refine r_v (q_assignB rfl) rfl ?_
     refine r_nil ?_
     exact c_ret (bq2 (bad inv (((h.f 1).drop.f 1).drop)))
    | true =>
     refine c_false rfl (c_skip ?_)
     have hy := Nat.xor_lt_two_pow (n := 64) hwas hx
     refine c_region ?_
     refine r_v (q_moveI rfl) rfl ?_; refine r_v (q_moveI rfl) rfl ?_; refine r_v (q_xor rfl rfl) rfl ?_
     refine r_is (.int .u64 ((was ^^^ x : Nat) : Int)) (congrArg (Value.int .u64) (bit_u64 hwas hx).2.2) ?_
     refine r_v (q_assignI rfl) rfl ?_
     refine r_nil ⟨(was ^^^ x, win', s2), ⟨rfl, rfl, rfl, rfl, rfl, rfl, trivial⟩, hy, ho', ?_, h⟩
     simp only [if_true] at inv
     dsimp only
     rw [inv]
     cases s2.bad with
     | true => rfl
     | false =>
      simp only [Bool.false_eq_true, if_false, Option.map_map]
      rfl
  clear h inv hwas ho
  rintro ⟨was, win, s2⟩ w e ⟨hwas, ho, inv, h⟩
  dsimp only at hwas ho inv h ⊢
  refine c_cut (Γ := Unit) (fun _ => [(0, .pointer (some ⟨p, 0, none⟩)), (6, .slice a out.length c), (7, .pointer (some ⟨q, 0, none⟩)), (8, .int .u64 was), (15, .int .i64 n), (16, .int .i64 i)])
   (fun _ w => s2.bad = false ∧ St w0 (IsBR p s2 :: WinPt q win :: OwnU a c out :: l) w) ?_ ?_
  ·refine c_seq (c_region ?_)
   refine r_v (q_moveP rfl) rfl ?_
   refine r_c rfl (x_call rfl (bits_Ok h) ?_)
   rintro _ w ⟨rfl, h⟩
   refine r_v (q_not rfl) rfl ?_
   refine r_nil ?_
   cases hbd : s2.bad with
   | true =>
    refine c_true rfl ?_
    refine c_seq (c_region ?_)
    refine r_v (q_assignS rfl) rfl ?_; refine r_v (q_assignB rfl) rfl ?_
    refine r_nil ?_
    rw [hbd, if_pos rfl] at inv
    exact c_ret (bq2 (bad inv (((h.f 1).drop.f 1).drop)))
   | false =>
    refine c_false rfl ?_
    exact c_skip ⟨(), ⟨rfl, rfl, rfl, rfl, rfl, rfl, trivial⟩, rfl, h⟩
  clear h
  rintro _ w e ⟨hbd, h⟩
  rw [hbd, if_neg (by decide)] at inv
  refine c_region ?_
  refine r_v (q_moveS rfl) rfl ?_; refine r_v (q_moveI rfl) rfl ?_
  refine r_c rfl (x_bslice (r := u64V [was]) h rfl rfl rfl fun b2 w h => ?_)
  refine r_c rfl (x_append' (ys := u64V [was]) (zs := u64V (out ++ [was])) (m3 := (out ++ [was]).length) (h.f 3) rfl rfl ⟨rfl, .inr ⟨b2, 0, rfl, at_of (h.b 0 rfl) rfl⟩⟩ (u64V_one _) (by simp) (by simp [u64V]) (by simp; omega) (by simp; omega) rfl fun a2 c2 w _ h => ?_)
  refine r_v (q_assignS rfl) rfl ?_
  refine r_nil ?_
  refine c_region ?_
  refine r_v (q_add rfl rfl) rfl ?_
  refine r_is (.int .i64 ((i + 1 : Nat) : Int)) (by rw [wrap64 (by omega) (by omega)]; rfl) ?_
  refine r_v (q_moveI rfl) rfl ?_
  refine r_nil ⟨(i + 1, out ++ [was], was, win, s2, a2, c2), ⟨rfl, rfl, rfl, rfl, rfl, rfl, trivial⟩, ⟨hlt, by simp; omega, hwas, fun y hy => ?_, ho, .inr ⟨Nat.succ_pos _, hbd, ?_⟩, ?_⟩, by dsimp only; omega⟩
  ·rcases List.mem_append.1 hy with hy | hy
   ·exact hout y hy
   ·simp at hy; subst hy; exact hwas
  ·rw [inv]; congr 1; funext r; simp
  ·exact ((h.f 1).drop.f 2).f 1
 have hin : i = n := by simp at hc; omega
 refine c_exit ?_
 refine c_cut (Γ := Unit) (fun _ => [(6, .slice a out.length c)]) (fun _ w => xorDec n s = some out ∧ St w0 (IsBR p s1 :: OwnU a c out :: WinPt q win :: l) w) ?_ ?_
 ·refine c_seq (c_region ?_)
  refine r_v (q_moveP rfl) rfl ?_
  refine r_c rfl (x_call rfl (bits_Ok (h.f 2)) ?_)
  rintro _ w ⟨rfl, h⟩
  refine r_v (q_not rfl) rfl ?_
  refine r_nil ?_
  have hx0 : n = 0 → xorDec n s = if s.bad = true then none else some [] := fun h0 => by subst h0; rfl
  cases hbd : s1.bad with
  | true =>
   refine c_true rfl ?_
   refine c_seq (c_region ?_)
   refine r_v (q_assignS rfl) rfl ?_; refine r_v (q_assignB rfl) rfl ?_
   refine r_nil ?_
   rcases inv with ⟨hi0, hs1, hw0⟩ | ⟨hi0, hbad, inv⟩
   ·exact c_ret (bq2 (bad (by rw [hx0 (by omega), ← hs1, hbd]; rfl) (((h.f 1).drop.f 1).drop)))
   ·rw [hbd] at hbad; cases hbad
  | false =>
   refine c_false rfl ?_
   refine c_skip ⟨(), ⟨rfl, trivial⟩, ?_, h⟩
   rcases inv with ⟨hi0, hs1, hw0⟩ | ⟨hi0, hbad, inv⟩
   ·have : out = [] := List.eq_nil_of_length_eq_zero (by omega)
    rw [hx0 (by omega), ← hs1, hbd, this]; rfl
   ·rw [inv, hin, Nat.sub_self, xorDecA]; simp
 clear h inv
 rintro _ w e ⟨hd, h⟩
 refine c_seq (c_region ?_)
 refine r_v (q_moveS rfl) rfl ?_; refine r_v (q_assignS rfl) rfl ?_; refine r_v (q_assignB rfl) rfl ?_
 refine r_nil ?_
 exact c_ret (bq2 ⟨a, c, out, true, rfl, by rw [hd]; rfl, fun _ => ⟨by omega, hout⟩, s1, ((h.f 2).drop.f 1)⟩)
end
end Go.Proofs.YtjjacchnalemaaaGreatDoor

/- suit: words, sums; slices.Equal; simp: reading small numbers. -/
namespace Go.Hw
set_option maxRecDepth 100000
theorem u64V_setlast (done : List Nat) (y z : Nat) : (u64V (done ++ [y])).set done.length (.int .u64 (z : Int)) = u64V (done ++ [z]) := by
 simp [u64V, List.set_append]
theorem shl8_or {y c : Nat} (hc : c < 256) : (y * 2 ^ 8 % 18446744073709551616) ||| c = (y * 256 + c) % 18446744073709551616 := by
 have e8 : (2 : Nat) ^ 8 = 256 := rfl
 have h1 : y * 2 ^ 8 % 18446744073709551616 = y % 72057594037927936 * 2 ^ 8 := by rw [e8]; omega
 have h2 : (y * 256 + c) % 18446744073709551616 = c + y % 72057594037927936 * 2 ^ 8 := by rw [e8]; omega
 rw [h1, h2, Nat.or_comm]
 exact or_shift (i := 8) hc
theorem unpackW_len (x b m : Nat) : (unpackW x b m).length = m := by simp [unpackW]
theorem simpDecA_len : ∀ (ws : List Nat) (room : Nat) (x : List Nat), simpDecA ws room = some x → x.length ≤ room
 | [], _, x, h => by cases h; exact Nat.zero_le _
 | w :: ws, room, x, h => by
  rw [simpDecA] at h
  split at h
  ·cases h
  ·obtain ⟨y, h1, rfl⟩ := Option.map_eq_some_iff.1 h
   have := simpDecA_len ws _ y h1
   rw [List.length_append, unpackW_len]
   omega
theorem unpackW_succ (x b m : Nat) : unpackW x b (m + 1) = unpackW x b m ++ [x / 2 ^ (m * b) % 2 ^ b] := by
 unfold unpackW
 rw [List.range_succ, List.map_append]; rfl
theorem and_word (x : Nat) : x &&& 1152921504606846975 = x % 1152921504606846976 := Nat.and_two_pow_sub_one_eq_mod x 60
theorem pow_le_64 {b : Nat} (h : b ≤ 60) : 2 ^ b < 18446744073709551616 := Nat.lt_of_le_of_lt (Nat.pow_le_pow_right (by decide) h) (by decide)
end Go.Hw
namespace Go.Proofs.YtjjacchnalemaaaGreatDoor
open Go.Hw
set_option maxHeartbeats 4000000
set_option maxRecDepth 100000
section
variable {w0 w : World} {l : List HProp}
theorem slices_Equal {s1 s2 : Option Addr} {c1 c2 : Nat} {u1 u2 : List Nat} (h1n : u1.length ≤ 9223372036854775807) (h : St w0 l w) (h1 : Reads w0 l 1 s1 u1.length (u64V u1)) (h2 : Reads w0 l 1 s2 u2.length (u64V u2)) :
  Ret Tryz.prog 126 [.slice s1 u1.length c1, .slice s2 u2.length c2] w fun v w' => v = .bool (decide (u1 = u2)) ∧ St w0 l w' := by
 refine enter Tryz.func126 rfl Tryz.results126 Tryz.ntmps126 rfl ?_
 refine c_seq (c_region ?_)
 refine r_v (q_assignB rfl) rfl ?_
 refine r_nil ?_
 refine c_seq (c_seq (c_region ?_))
 refine r_v (q_moveS rfl) rfl ?_; refine r_v (q_len rfl) rfl ?_; refine r_v (q_moveS rfl) rfl ?_; refine r_v (q_len rfl) rfl ?_; refine r_v (q_neq rfl rfl) rfl ?_
 by_cases hl : u1.length = u2.length
 ·refine r_is (.bool false) (by simp [hl]) ?_
  refine r_nil (c_false rfl (c_skip ?_))
  refine c_seq (c_seq (c_region ?_))
  refine r_v (q_moveS rfl) rfl ?_; refine r_v (q_len rfl) rfl ?_; refine r_v (q_moveI rfl) rfl ?_
  refine r_nil ?_
  refine c_block ?_
  refine c_loop (Γ := Nat) (fun k => [(0, .slice s1 u1.length c1), (1, .slice s2 u2.length c2), (12, .int .i64 u1.length), (13, .int .i64 k)]) (fun k w => k ≤ u1.length ∧ u1.take k = u2.take k ∧ St w0 l w) (fun k => u1.length - k) 0 ⟨rfl, rfl, rfl, rfl, trivial⟩ ⟨Nat.zero_le _, rfl, h⟩ ?_
  clear h
  rintro k w e ⟨hk, he, h⟩
  refine c_seq (c_region ?_)
  refine r_v (q_lss rfl rfl) rfl ?_
  refine r_nil ?_
  refine c_seq (c_cond (decide ((k : Int) < (u1.length : Int))) rfl (fun hc => ?_) (fun hc => ?_))
  ·
   have hlt : k < u1.length := by simp at hc; omega
   have hg1 := List.getElem?_eq_getElem hlt
   generalize u1[k] = x at hg1
   have hg2 := List.getElem?_eq_getElem (show k < u2.length by omega)
   generalize u2[k]'(by omega) = y at hg2
   obtain ⟨b1, o1, hs1⟩ := (h1.at_ h).some (by omega)
   obtain ⟨b2, o2, hs2⟩ := (h2.at_ h).some (by omega)
   refine c_skip ?_
   refine c_seq (c_block ?_)
   refine c_seq (c_region ?_)
   refine r_v (q_moveI rfl) rfl ?_; refine r_v (q_assignI rfl) rfl ?_
   refine r_nil ?_
   refine c_seq (c_any none (fun w => St w0 _ w) (by kernel_rfl) (by kernel_rfl) h.drew fun w h => ?_)
   refine cur_pure rfl rfl rfl rfl (fun _ => h) (fun _ => flt_v rfl (q_moveS rfl)) ?_; refine cur_pure rfl rfl rfl rfl (fun _ => h) (fun _ => flt_v rfl (q_moveI rfl)) ?_
   refine cur_pure rfl rfl rfl rfl (fun _ => h) (fun _ => flt_v rfl (q_idx (b := b1) (o := o1) (m := u1.length) (c := c1) (o' := o1 + k) (by rw [← hs1]; rfl) rfl rfl hlt (by simp))) ?_
   refine cur_float rfl rfl rfl rfl h (fun w h => flt_v rfl (q_loadc (v := .int .u64 x) rfl ((hs1 ▸ h1.at_ h).cell (u64V_get hg1)))) ?_
   refine cur_pure rfl rfl rfl rfl (fun _ => h) (fun _ => flt_v rfl (q_moveS rfl)) ?_; refine cur_pure rfl rfl rfl rfl (fun _ => h) (fun _ => flt_v rfl (q_moveI rfl)) ?_
   refine cur_pure rfl rfl rfl rfl (fun _ => h) (fun _ => flt_v rfl (q_idx (b := b2) (o := o2) (m := u2.length) (c := c2) (o' := o2 + k) (by rw [← hs2]; rfl) rfl rfl (by omega) (by simp))) ?_
   refine cur_float rfl rfl rfl rfl h (fun w h => flt_v rfl (q_loadc (v := .int .u64 y) rfl ((hs2 ▸ h2.at_ h).cell (u64V_get hg2)))) ?_
   by_cases hxy : x = y
   ·refine cur_pure rfl rfl rfl rfl (fun _ => h) (fun _ => flt_v rfl (q_is (v' := .bool false) (q_neq rfl rfl) (by rw [hxy]; simp))) ?_
    refine cur_end (c_false rfl (c_skip ?_))
    refine c_region ?_
    refine r_v (q_add rfl rfl) rfl ?_
    refine r_is (.int .i64 ((k + 1 : Nat) : Int)) (by rw [wrap64 (by omega) (by omega)]; rfl) ?_
    refine r_v (q_moveI rfl) rfl ?_
    refine r_nil ⟨k + 1, ⟨rfl, rfl, rfl, rfl, trivial⟩, ⟨hlt, ?_, h⟩, by omega⟩
    rw [List.take_add_one, List.take_add_one, he, hg1, hg2, hxy]
   ·refine cur_pure rfl rfl rfl rfl (fun _ => h) (fun _ => flt_v rfl (q_is (v' := .bool true) (q_neq rfl rfl) (by congr 1; rw [bne_iff_ne]; omega))) ?_
    refine cur_end (c_true rfl ?_)
    refine c_seq (c_region ?_)
    refine r_v (q_assignB rfl) rfl ?_
    refine r_nil (c_ret (bq1 ⟨?_, h⟩))
    rw [show decide (u1 = u2) = false from decide_eq_false fun hh => hxy (by rw [hh, hg2] at hg1; exact (Option.some.inj hg1).symm)]; rfl
  have hkn : k = u1.length := by simp at hc; omega
  refine c_exit ?_
  refine c_seq (c_region ?_)
  refine r_v (q_assignB rfl) rfl ?_
  refine r_nil (c_ret (bq1 ⟨?_, h⟩))
  rw [hkn, List.take_length, hl, List.take_length] at he
  rw [decide_eq_true he]; rfl
 ·refine r_is (.bool true) (by congr 1; rw [bne_iff_ne]; omega) ?_
  refine r_nil (c_true rfl ?_)
  refine c_seq (c_region ?_)
  refine r_v (q_assignB rfl) rfl ?_
  refine r_nil (c_ret (bq1 ⟨?_, h⟩))
  rw [show decide (u1 = u2) = false from decide_eq_false fun hh => hl (by rw [hh])]; rfl

theorem suit_sums {sl : Option Addr} {c : Nat} {u : List Nat} (hu : ∀ x ∈ u, x < 18446744073709551616) (hn : u.length ≤ 65535) (hr : Reads w0 l 1 sl u.length (u64V u)) (h : St w0 l w) :
  Ret Tryz.prog 87 [.slice sl u.length c] w fun v w' => ∃ a c', v = .slice a (sumsL 0 u).length c' ∧ (∀ x ∈ sumsL 0 u, x < 18446744073709551616) ∧ St w0 (OwnU a c' (sumsL 0 u) :: l) w' := by
 refine enter Tryz.func87 rfl Tryz.results87 Tryz.ntmps87 rfl ?_
 refine c_seq (c_region ?_)
 refine r_v (q_assignS rfl) rfl ?_
 refine r_nil ?_
 refine c_seq (c_region ?_)
 refine r_v (q_assignS rfl) rfl ?_
 refine r_nil ?_
 refine c_seq (c_region ?_)
 refine r_v (q_assignI rfl) rfl ?_
 refine r_nil ?_
 refine c_seq (c_seq (c_region ?_))
 refine r_v (q_moveS rfl) rfl ?_; refine r_v (q_len rfl) rfl ?_; refine r_v (q_moveI rfl) rfl ?_
 refine r_nil ?_
 refine c_block ?_
 refine c_loop (Γ := Nat × Nat × List Nat × Option Addr × Nat) (fun k => [(3, .slice k.2.2.2.1 k.2.2.1.length k.2.2.2.2), (4, .int .u64 k.2.1), (7, .slice sl u.length c), (8, .int .i64 u.length), (9, .int .i64 k.1)])
  (fun k w => k.1 ≤ u.length ∧ k.2.1 < 18446744073709551616 ∧ k.2.2.1.length = k.1 ∧ (∀ x ∈ k.2.2.1, x < 18446744073709551616) ∧ k.2.2.1 ++ sumsL k.2.1 (u.drop k.1) = sumsL 0 u ∧ St w0 (OwnU k.2.2.2.1 k.2.2.2.2 k.2.2.1 :: l) w) (fun k => u.length - k.1) (0, 0, [], none, 0) ⟨rfl, rfl, rfl, rfl, rfl, trivial⟩ ⟨Nat.zero_le _, (by decide : (0 : Nat) < 18446744073709551616), rfl, (fun _ h => by cases h), rfl, St.ownNil _ _ h⟩ ?_
 clear h
 rintro ⟨i, was, out, a, c1⟩ w e ⟨hi, hw, hol, hout, he, h⟩
 dsimp only at hi hw hol hout he h ⊢
 refine c_seq (c_region ?_)
 refine r_v (q_lss rfl rfl) rfl ?_
 refine r_nil ?_
 refine c_seq (c_cond (decide ((i : Int) < (u.length : Int))) rfl (fun hc => ?_) (fun hc => ?_))
 ·
  have hlt : i < u.length := by simp at hc; omega
  have hg := List.getElem?_eq_getElem hlt
  have hdr := List.drop_eq_getElem_cons hlt
  generalize u[i] = x at hg hdr
  have hx := hu x (List.mem_of_getElem? hg)
  rw [hdr, sumsL] at he
  have hd : summ was (zagU x) < 18446744073709551616 := Nat.mod_lt _ (by decide)
  have hzl := zagU_lt hx
  obtain ⟨b, o, hsl⟩ := (hr.cons.at_ h).some (by omega)
  refine c_skip ?_
  refine c_seq (c_block ?_)
  refine c_seq (c_region ?_)
  refine r_v (q_idx (b := b) (o := o) (m := u.length) (c := c) (o' := o + i) (by rw [← hsl]; rfl) rfl rfl hlt (by simp)) rfl ?_
  refine r_v (q_loadc (v := .int .u64 x) rfl ((hsl ▸ hr.cons.at_ h).cell (u64V_get hg))) rfl ?_
  refine r_v (q_assignI rfl) rfl ?_
  refine r_nil ?_
  refine c_seq (c_region ?_)
  refine r_v (q_moveI rfl) rfl ?_; refine r_v (q_moveI rfl) rfl ?_
  refine r_c rfl (x_call rfl (vint_Zag hx h) ?_)
  rintro _ w ⟨rfl, h⟩
  refine r_v (q_conv rfl) rfl ?_
  refine r_is (.int .u64 (zagU x : Nat)) (by rw [wrap_us, us_sg hzl]) ?_
  refine r_v (q_add rfl rfl) rfl ?_
  refine r_is (.int .u64 (summ was (zagU x) : Nat)) (by rw [wrap_summ]) ?_
  refine r_v (q_assignI rfl) rfl ?_
  refine r_nil ?_
  generalize summ was (zagU x) = y at he hd ⊢
  refine c_region ?_
  refine r_v (q_moveS rfl) rfl ?_; refine r_v (q_moveI rfl) rfl ?_
  refine r_c rfl (x_bslice (r := u64V [y]) h rfl rfl rfl fun b2 w h => ?_)
  refine r_c rfl (x_append' (ys := u64V [y]) (zs := u64V (out ++ [y])) (m3 := (out ++ [y]).length) (h.f 1) rfl rfl ⟨rfl, .inr ⟨b2, 0, rfl, at_of (h.b 0 rfl) rfl⟩⟩ (u64V_one _) (by simp) (by simp [u64V]) (by simp; omega) (by simp; omega) rfl fun a2 c2 w _ h => ?_)
  refine r_v (q_assignS rfl) rfl ?_
  refine r_nil ?_
  refine c_region ?_
  refine r_v (q_add rfl rfl) rfl ?_
  refine r_is (.int .i64 ((i + 1 : Nat) : Int)) (by rw [wrap64 (by omega) (by omega)]; rfl) ?_
  refine r_v (q_moveI rfl) rfl ?_
  refine r_nil ⟨(i + 1, y, out ++ [y], a2, c2), ⟨rfl, rfl, rfl, rfl, rfl, trivial⟩, ⟨hlt, hd, by simp; omega, fun z hz => ?_, by rw [← he]; simp, (h.f 1).drop⟩, by dsimp only; omega⟩
  rcases List.mem_append.1 hz with hz | hz
  ·exact hout z hz
  ·simp at hz; subst hz; exact hd
 have hin : i = u.length := by simp at hc; omega
 rw [hin, List.drop_length, sumsL, List.append_nil] at he
 refine c_exit ?_
 refine c_seq (c_region ?_)
 refine r_v (q_moveS rfl) rfl ?_; refine r_v (q_assignS rfl) rfl ?_
 refine r_nil ?_
 rw [← he]
 exact c_ret (bq1 ⟨a, c1, rfl, hout, h⟩)

theorem suit_words {sl : Option Addr} {c : Nat} {bs : List UInt8} (hn : bs.length ≤ 140737488355328) (hr : Reads w0 l 1 sl bs.length (bytesV bs)) (h : St w0 l w) :
  Ret Tryz.prog 85 [.slice sl bs.length c] w fun v w' => ∃ a c', v = .tuple [.slice a (wordsL bs).length c', .bool (decide (bs.length % 8 = 0))].toArray ∧ (∀ x ∈ wordsL bs, x < 18446744073709551616) ∧ (wordsL bs).length ≤ bs.length ∧ St w0 (OwnU a c' (wordsL bs) :: l) w' := by
 refine enter Tryz.func85 rfl Tryz.results85 Tryz.ntmps85 rfl ?_
 refine c_seq (c_region ?_)
 refine r_v (q_assignS rfl) rfl ?_; refine r_v (q_assignB rfl) rfl ?_
 refine r_nil ?_
 refine c_seq (c_region ?_)
 refine r_v (q_assignS rfl) rfl ?_
 refine r_nil ?_
 refine c_seq (c_seq (c_region ?_))
 refine r_v (q_moveS rfl) rfl ?_; refine r_v (q_len rfl) rfl ?_; refine r_v (q_moveI rfl) rfl ?_
 refine r_nil ?_
 refine c_block ?_
 refine c_loop (Γ := Nat × List Nat × Option Addr × Nat) (fun k => [(0, .slice sl bs.length c), (4, .slice k.2.2.1 k.2.1.length k.2.2.2), (7, .slice sl bs.length c), (8, .int .i64 bs.length), (9, .int .i64 k.1)])
  (fun k w => k.1 ≤ bs.length ∧ 8 * k.2.1.length ≤ k.1 + 7 ∧ (∀ x ∈ k.2.1, x < 18446744073709551616) ∧ ((k.1 = 0 ∧ k.2.1 = []) ∨ ∃ done x j, k.2.1 = done ++ [x] ∧ 1 ≤ j ∧ j ≤ 8 ∧ k.1 % 8 = j % 8 ∧ done ++ wordsA x j (bs.drop k.1) = wordsL bs) ∧ St w0 (OwnU k.2.2.1 k.2.2.2 k.2.1 :: l) w)
  (fun k => bs.length - k.1) (0, [], none, 0) ⟨rfl, rfl, rfl, rfl, rfl, trivial⟩ ⟨Nat.zero_le _, Nat.zero_le _, (fun _ h => by cases h), .inl ⟨rfl, rfl⟩, St.ownNil _ _ h⟩ ?_
 clear h
 rintro ⟨i, out, a, c1⟩ w e ⟨hi, hol, hout, inv, h⟩
 dsimp only at hi hol hout inv h ⊢
 refine c_seq (c_region ?_)
 refine r_v (q_lss rfl rfl) rfl ?_
 refine r_nil ?_
 refine c_seq (c_cond (decide ((i : Int) < (bs.length : Int))) rfl (fun hc => ?_) (fun hc => ?_))
 ·
  have hlt : i < bs.length := by simp at hc; omega
  have hg := List.getElem?_eq_getElem hlt
  have hdr := List.drop_eq_getElem_cons hlt
  generalize bs[i] = x at hg hdr
  have hx := x.toNat_lt
  obtain ⟨b, o, hsl⟩ := (hr.cons.at_ h).some (by omega)
  refine c_skip ?_
  refine c_seq (c_block ?_)
  refine c_seq (c_region ?_)
  refine r_v (q_moveI rfl) rfl ?_
  refine r_v (q_idx (b := b) (o := o) (m := bs.length) (c := c) (o' := o + i) (by rw [← hsl]; rfl) rfl rfl hlt (by simp)) rfl ?_
  refine r_v (q_loadc (v := .int .u8 x.toNat) rfl ((hsl ▸ hr.cons.at_ h).cell (bytesV_get hg))) rfl ?_
  refine r_v (q_assignI rfl) rfl ?_; refine r_v (q_assignI rfl) rfl ?_
  refine r_nil ?_
  refine c_cut (Γ := List Nat × Nat × Option Addr × Nat) (fun k => [(0, .slice sl bs.length c), (4, .slice k.2.2.1 (k.1 ++ [k.2.1]).length k.2.2.2), (6, .int .u8 x.toNat), (7, .slice sl bs.length c), (8, .int .i64 bs.length), (9, .int .i64 i)])
   (fun k w => 8 * k.1.length ≤ i ∧ (∀ y ∈ k.1, y < 18446744073709551616) ∧ (∃ j, 1 ≤ j ∧ j ≤ 8 ∧ (i + 1) % 8 = j % 8 ∧ k.1 ++ wordsA ((k.2.1 * 256 + x.toNat) % 18446744073709551616) j (bs.drop (i + 1)) = wordsL bs) ∧ St w0 (OwnU k.2.2.1 k.2.2.2 (k.1 ++ [k.2.1]) :: l) w) ?_ ?_
  ·refine c_seq (c_region ?_)
   refine r_v (q_moveI rfl) rfl ?_
   refine r_v (q_is (v' := .int .i64 ((i % 8 : Nat) : Int)) (q_rem rfl rfl (by decide)) (congrArg (Value.int .i64) (tmod_nat i 8))) rfl ?_
   refine r_v (q_eql rfl rfl) rfl ?_
   by_cases h8 : i % 8 = 0
   ·refine r_is (.bool true) (by rw [h8]; rfl) ?_
    refine r_nil (c_true rfl ?_)
    refine c_region ?_
    refine r_v (q_moveS rfl) rfl ?_
    refine r_c rfl (x_bslice (r := u64V [0]) h rfl rfl rfl fun b2 w h => ?_)
    refine r_c rfl (x_append' (ys := u64V [0]) (zs := u64V (out ++ [0])) (m3 := (out ++ [0]).length) (h.f 1) rfl rfl ⟨rfl, .inr ⟨b2, 0, rfl, at_of (h.b 0 rfl) rfl⟩⟩ (u64V_one _) (by simp) (by simp [u64V]) (by simp; omega) (by simp; omega) rfl fun a2 c2 w _ h => ?_)
    refine r_v (q_assignS rfl) rfl ?_
    refine r_nil ⟨(out, 0, a2, c2), ⟨rfl, rfl, rfl, rfl, rfl, rfl, trivial⟩, by dsimp only; omega, hout, ⟨1, by decide, by decide, by omega, ?_⟩, (h.f 1).drop⟩
    dsimp only
    rw [show (0 * 256 + x.toNat) % 18446744073709551616 = x.toNat by omega]
    rcases inv with ⟨h0, hnil⟩ | ⟨done, y, j, ho, h1j, hj8, hij, he⟩
    ·subst h0
     rw [hnil]
     rw [List.drop_zero] at hdr
     conv => rhs; rw [hdr]
     rfl
    ·have : j = 8 := by omega
     subst this
     rw [hdr, wordsA, if_pos rfl] at he
     rw [← he, ho]
     simp
   ·refine r_is (.bool false) (by congr 1; rw [beq_eq_false_iff_ne]; omega) ?_
    refine r_nil (c_false rfl ?_)
    rcases inv with ⟨h0, hnil⟩ | ⟨done, y, j, ho, h1j, hj8, hij, he⟩
    ·omega
    ·subst ho
     rw [hdr, wordsA, if_neg (by omega)] at he
     rw [List.length_append, List.length_singleton] at hol
     exact c_skip ⟨(done, y, a, c1), ⟨rfl, rfl, rfl, rfl, rfl, rfl, trivial⟩, by dsimp only; omega, fun z hz => hout z (List.mem_append_left _ hz), ⟨j + 1, by omega, by omega, by omega, he⟩, h⟩
  clear h inv hout hol
  rintro ⟨done, y, a, c1⟩ w e ⟨hol, hout, ⟨j, h1j, hj8, hij, he⟩, h⟩
  dsimp only at hol hout he h ⊢
  obtain ⟨bl, hal⟩ := h.own_some (by simp)
  subst hal
  have hll : (done ++ [y]).length = done.length + 1 := by simp
  have hlast : (done ++ [y])[done.length]? = some y := by simp
  have hnl : (y * 256 + x.toNat) % 18446744073709551616 < 18446744073709551616 := Nat.mod_lt _ (by decide)
  refine c_region ?_
  refine r_v (q_moveS rfl) rfl ?_; refine r_v (q_moveS rfl) rfl ?_; refine r_v (q_len rfl) rfl ?_; refine r_v (q_sub rfl rfl) rfl ?_
  refine r_is (.int .i64 (done.length : Int)) (by rw [hll, wrap64 (by omega) (by omega)]; congr 1; omega) ?_
  refine r_v (q_moveS rfl) rfl ?_; refine r_v (q_moveS rfl) rfl ?_; refine r_v (q_len rfl) rfl ?_; refine r_v (q_sub rfl rfl) rfl ?_
  refine r_is (.int .i64 (done.length : Int)) (by rw [hll, wrap64 (by omega) (by omega)]; congr 1; omega) ?_
  refine r_v (q_idx (b := bl) (o := 0) (m := (done ++ [y]).length) (c := c1) (o' := done.length) rfl rfl (j := done.length) rfl (by omega) (by simp)) rfl ?_
  refine r_v (q_loadc (v := .int .u64 y) rfl (by have := (h.own_rd).cell (u64V_get hlast); simpa using this)) rfl ?_
  refine r_v (q_is (v' := .int .u64 ((y * 2 ^ 8 % 18446744073709551616 : Nat) : Int)) (q_shl rfl rfl (by omega)) (congrArg (Value.int .u64) (shl_u64 y 8 (by decide)))) rfl ?_
  refine r_v (q_moveI rfl) rfl ?_; refine r_v (q_conv rfl) rfl ?_
  refine r_is (.int .u64 (x.toNat : Int)) (congrArg (Value.int .u64) (conv_nat (by omega))) ?_
  refine r_v (q_or rfl rfl) rfl ?_
  refine r_is (.int .u64 (((y * 256 + x.toNat) % 18446744073709551616 : Nat) : Int)) (congrArg (Value.int .u64) (((bit_u64 (Nat.mod_lt _ (by decide)) (by omega)).2.1).trans (by rw [shl8_or (by omega)]))) ?_
  generalize (y * 256 + x.toNat) % 18446744073709551616 = z at he hnl ⊢
  refine r_v (q_idx (b := bl) (o := 0) (m := (done ++ [y]).length) (c := c1) (o' := done.length) rfl rfl (j := done.length) rfl (by omega) (by simp)) rfl ?_
  refine r_c rfl (x_ownset (v := .int .u64 (z : Int)) h rfl rfl (by simp) rfl fun w h => ?_)
  rw [u64V_setlast] at h
  refine r_nil ?_
  refine c_region ?_
  refine r_v (q_add rfl rfl) rfl ?_
  refine r_is (.int .i64 ((i + 1 : Nat) : Int)) (by rw [wrap64 (by omega) (by omega)]; rfl) ?_
  refine r_v (q_moveI rfl) rfl ?_
  refine r_nil ⟨(i + 1, done ++ [z], some ⟨bl, 0, none⟩, c1), ⟨rfl, ?_, rfl, rfl, rfl, trivial⟩, ⟨hlt, by simp; omega, fun t ht => ?_, .inr ⟨done, z, j, rfl, h1j, hj8, hij, he⟩, ?_⟩, by dsimp only; omega⟩
  ·show Value.slice _ _ _ = Value.slice _ _ _
   rw [hll]; simp
  ·rcases List.mem_append.1 ht with ht | ht
   ·exact hout t ht
   ·simp at ht; subst ht; exact hnl
  ·have : (done ++ [z]).length = (done ++ [y]).length := by simp
   show St w0 (Own _ 1 _ (done ++ [z]).length _ _ :: l) w
   rw [this]; exact h
 have hin : i = bs.length := by simp at hc; omega
 have he : out = wordsL bs := by
  rcases inv with ⟨h0, hnil⟩ | ⟨done, y, j, ho, h1j, hj8, hij, he⟩
  ·have : bs = [] := List.eq_nil_of_length_eq_zero (by omega)
   rw [hnil, this]; rfl
  ·rw [hin, List.drop_length, wordsA, if_neg (by omega)] at he
   rw [ho, he]
 subst he
 refine c_exit ?_
 refine c_seq (c_region ?_)
 refine r_v (q_moveS rfl) rfl ?_; refine r_v (q_moveS rfl) rfl ?_; refine r_v (q_len rfl) rfl ?_
 refine r_v (q_is (v' := .int .i64 ((bs.length % 8 : Nat) : Int)) (q_rem rfl rfl (by decide)) (congrArg (Value.int .i64) (tmod_nat bs.length 8))) rfl ?_
 refine r_v (q_eql rfl rfl) rfl ?_
 refine r_is (.bool (decide (bs.length % 8 = 0))) (by congr 1; rw [Bool.eq_iff_iff]; simp; omega) ?_
 refine r_v (q_assignS rfl) rfl ?_; refine r_v (q_assignB rfl) rfl ?_
 refine r_nil ?_
 exact c_ret (bq2 ⟨a, c1, rfl, hout, by omega, h⟩)
end
end Go.Proofs.YtjjacchnalemaaaGreatDoor

/- simp: reading small numbers. -/
namespace Go.Proofs.YtjjacchnalemaaaGreatDoor
open Go.Hw
set_option maxHeartbeats 4000000
set_option maxRecDepth 100000
section
variable {w0 w : World} {l : List HProp}
theorem simp_Decode {sl : Option Addr} {c : Nat} {ws : List Nat} {n : Nat} (hws : ∀ x ∈ ws, x < 18446744073709551616) (hwn : ws.length ≤ 140737488355328) (hn : n ≤ 65535) (hr : Reads w0 l 1 sl ws.length (u64V ws)) (h : St w0 l w) :
  Ret Tryz.prog 86 [.slice sl ws.length c, .int .i64 (n : Int)] w fun v w' => ∃ a c' xs b, v = .tuple [.slice a xs.length c', .bool b].toArray ∧ simpDec ws n = (if b = true then some xs else none) ∧ (b = true → xs.length = n ∧ ∀ x ∈ xs, x < 18446744073709551616) ∧ (b = false → xs = []) ∧ St w0 (OwnU a c' xs :: l) w' := by
 have bad : ∀ {w : World}, simpDec ws n = none → St w0 l w → ∃ a c xs b, Value.tuple [.slice none 0 0, .bool false].toArray = .tuple [.slice a xs.length c, .bool b].toArray ∧ simpDec ws n = (if b = true then some xs else none) ∧ (b = true → xs.length = n ∧ ∀ x ∈ xs, x < 18446744073709551616) ∧ (b = false → xs = []) ∧ St w0 (OwnU a c xs :: l) w := fun hb h => ⟨none, 0, [], false, rfl, hb, (fun h => by cases h), fun _ => rfl, St.ownNil _ _ h⟩
 have hdef : simpDec ws n = _ := rfl
 conv at hdef => rhs; unfold simpDec
 refine enter Tryz.func86 rfl Tryz.results86 Tryz.ntmps86 rfl ?_
 refine c_seq (c_region ?_)
 refine r_v (q_assignS rfl) rfl ?_; refine r_v (q_assignB rfl) rfl ?_
 refine r_nil ?_
 refine c_seq (c_region ?_)
 refine r_v (q_moveI rfl) rfl ?_; refine r_v (q_max rfl rfl) rfl ?_; refine r_v (q_min rfl rfl) rfl ?_
 refine r_is (.int .i64 (n : Int)) (by congr 1; omega) ?_
 refine r_v (q_assignI rfl) rfl ?_
 refine r_nil ?_
 refine c_seq (c_region ?_)
 refine r_c rfl (x_call rfl (simp_kinds h) ?_)
 rintro _ w ⟨kb, rfl, h⟩
 refine r_v (q_assignS rfl) rfl ?_
 refine r_nil ?_
 refine c_seq (c_region ?_)
 refine r_v (q_assignS rfl) rfl ?_
 refine r_nil ?_
 refine c_seq (c_seq (c_region ?_))
 refine r_v (q_moveS rfl) rfl ?_; refine r_v (q_len rfl) rfl ?_; refine r_v (q_moveI rfl) rfl ?_
 refine r_nil ?_
 refine c_block ?_
 refine c_loop (Γ := Nat × List Nat × Option Addr × Nat) (fun k => [(0, .slice sl ws.length c), (1, .int .i64 n), (6, .slice (some ⟨kb, 0, none⟩) 16 16), (7, .slice k.2.2.1 k.2.1.length k.2.2.2), (18, .slice sl ws.length c), (19, .int .i64 ws.length), (20, .int .i64 k.1)])
  (fun k w => k.1 ≤ ws.length ∧ k.2.1.length ≤ n ∧ (∀ x ∈ k.2.1, x < 18446744073709551616) ∧ simpDecA ws n = (simpDecA (ws.drop k.1) (n - k.2.1.length)).map (fun r => k.2.1 ++ r) ∧ St w0 (KindsPt kb :: OwnU k.2.2.1 k.2.2.2 k.2.1 :: l) w)
  (fun k => ws.length - k.1) (0, [], none, 0) ⟨rfl, rfl, rfl, rfl, rfl, rfl, rfl, trivial⟩ ⟨Nat.zero_le _, Nat.zero_le _, (fun _ h => by cases h), (by simp), (St.ownNil 51 1 h).f 1⟩ ?_
 clear h
 rintro ⟨i, out, oa, oc⟩ w e ⟨hi, hol, hout, inv, h⟩
 dsimp only at hi hol hout inv h ⊢
 refine c_seq (c_region ?_)
 refine r_v (q_lss rfl rfl) rfl ?_
 refine r_nil ?_
 refine c_seq (c_cond (decide ((i : Int) < (ws.length : Int))) rfl (fun hc => ?_) (fun hc => ?_))
 ·
  have hlt : i < ws.length := by simp at hc; omega
  have hg := List.getElem?_eq_getElem hlt
  have hdr := List.drop_eq_getElem_cons hlt
  generalize ws[i] = x at hg hdr
  have hx := hws x (List.mem_of_getElem? hg)
  rw [hdr, simpDecA] at inv
  have hkx : x / 1152921504606846976 < 16 := by omega
  have hgk := List.getElem?_eq_getElem (show x / 1152921504606846976 < kindsL.length from hkx)
  have hgd : kindsL.getD (x / 1152921504606846976) (0, 0) = kindsL[x / 1152921504606846976]'hkx := by rw [List.getD_eq_getElem?_getD, hgk]; rfl
  rw [hgd] at inv
  generalize kindsL[x / 1152921504606846976]'hkx = kd at hgk inv
  obtain ⟨_, k1, k2, k3⟩ := kindsL_ok _ kd hgk
  have hk2 : kd.2 ≤ 60 := Nat.le_trans (Nat.le_mul_of_pos_right _ k1) k3
  obtain ⟨b, o, hsl⟩ := ((hr.more [_, _]).at_ h).some (by omega)
  refine c_skip ?_
  refine c_seq (c_block ?_)
  refine c_seq (c_region ?_)
  refine r_v (q_idx (b := b) (o := o) (m := ws.length) (c := c) (o' := o + i) (by rw [← hsl]; rfl) rfl rfl hlt (by simp)) rfl ?_
  refine r_v (q_loadc (v := .int .u64 x) rfl ((hsl ▸ (hr.more [_, _]).at_ h).cell (u64V_get hg))) rfl ?_
  refine r_v (q_assignI rfl) rfl ?_
  refine r_nil ?_
  refine c_seq (c_seq (c_region ?_))
  refine r_v (q_moveS rfl) rfl ?_; refine r_v (q_len rfl) rfl ?_; refine r_v (q_moveI rfl) rfl ?_; refine r_v (q_geq rfl rfl) rfl ?_
  by_cases hfull : n ≤ out.length
  ·refine r_is (.bool true) (by simp; omega) ?_
   refine r_nil (c_true rfl ?_)
   refine c_seq (c_region ?_)
   refine r_v (q_assignS rfl) rfl ?_; refine r_v (q_assignB rfl) rfl ?_
   refine r_nil ?_
   rw [if_pos (by omega)] at inv
   exact c_ret (bq2 (bad (by rw [hdef, inv]; rfl) h.drop.drop))
  refine r_is (.bool false) (by simp; omega) ?_
  refine r_nil (c_false rfl (c_skip ?_))
  rw [if_neg (by omega), Option.map_map] at inv
  refine c_seq (c_region ?_)
  refine r_v (q_moveS rfl) rfl ?_; refine r_v (q_moveI rfl) rfl ?_
  refine r_v (q_is (v' := .int .u64 ((x / 2 ^ 60 : Nat) : Int)) (q_shr rfl rfl (by omega)) (congrArg (Value.int .u64) (fdiv_nat x 60 64 (by decide)))) rfl ?_
  rw [show x / 2 ^ 60 = x / 1152921504606846976 from rfl]
  refine r_v (q_idx (b := kb) (o := 0) (m := 16) (c := 16) (o' := x / 1152921504606846976 * 2) rfl rfl rfl hkx (by simp)) rfl ?_
  refine r_v (q_loadS (l := kindC kd) rfl rfl (fun j v hj => cell_of (h.b 0 rfl) (flat_get kindC_len kindsL _ kd hgk j v hj))) rfl ?_
  refine r_c rfl (x_alloc h fun b10 w h => ?_)
  refine r_c rfl (x_storeA (vs := kindC kd) 0 h rfl rfl rfl rfl rfl rfl rfl fun w h => ?_)
  replace h : St w0 (pt b10 (.cells (kindC kd).toArray 157 (0, 0)) :: KindsPt kb :: OwnU oa oc out :: l) w := h
  refine r_nil ?_
  refine c_seq (c_region ?_)
  refine r_v (q_moveI rfl) rfl ?_; refine r_v (q_and rfl rfl) rfl ?_
  refine r_is (.int .u64 ((x % 1152921504606846976 : Nat) : Int)) (congrArg (Value.int .u64) (((bit_u64 hx (by decide : (1152921504606846975 : Nat) < _)).1).trans (by rw [and_word]))) ?_
  refine r_v (q_assignI rfl) rfl ?_
  refine r_nil ?_
  have hxm : x % 1152921504606846976 < 1152921504606846976 := Nat.mod_lt _ (by decide)
  generalize x % 1152921504606846976 = y at inv hxm ⊢
  generalize hmm : min kd.1 (n - out.length) = m at inv
  have hm1 : m ≤ kd.1 := by omega
  have hm2 : m ≤ n - out.length := by omega
  refine c_seq (c_region ?_)
  refine r_v (q_assignI rfl) rfl ?_
  refine r_nil ?_
  refine c_block ?_
  refine c_loop (Γ := Nat × Option Addr × Nat) (fun k => [(0, .slice sl ws.length c), (1, .int .i64 n), (6, .slice (some ⟨kb, 0, none⟩) 16 16), (7, .slice k.2.1 (out ++ unpackW y kd.2 k.1).length k.2.2), (9, .int .u64 y), (10, .pointer (some ⟨b10, 0, none⟩)), (11, .int .i64 k.1), (18, .slice sl ws.length c), (19, .int .i64 ws.length), (20, .int .i64 i)])
   (fun k w => k.1 ≤ m ∧ St w0 (pt b10 (.cells (kindC kd).toArray 157 (0, 0)) :: OwnU k.2.1 k.2.2 (out ++ unpackW y kd.2 k.1) :: KindsPt kb :: l) w)
   (fun k => m - k.1) (0, oa, oc) ⟨rfl, rfl, rfl, (by show Value.slice _ _ _ = Value.slice _ _ _; simp [unpackW]), rfl, rfl, rfl, rfl, rfl, rfl, trivial⟩ ⟨Nat.zero_le _, by simp only [unpackW, List.range_zero, List.map_nil, List.append_nil]; exact (h.f 2).f 1⟩ ?_
  clear h
  rintro ⟨j, oa, oc⟩ w e ⟨hj, h⟩
  dsimp only at hj h ⊢
  have hul : (out ++ unpackW y kd.2 j).length = out.length + j := by rw [List.length_append, unpackW_len]
  refine c_cut (Γ := Unit) (fun _ => [(0, .slice sl ws.length c), (1, .int .i64 n), (6, .slice (some ⟨kb, 0, none⟩) 16 16), (7, .slice oa (out ++ unpackW y kd.2 j).length oc), (9, .int .u64 y), (10, .pointer (some ⟨b10, 0, none⟩)), (11, .int .i64 j), (18, .slice sl ws.length c), (19, .int .i64 ws.length), (20, .int .i64 i)])
   (fun _ w => j < m ∧ St w0 (pt b10 (.cells (kindC kd).toArray 157 (0, 0)) :: OwnU oa oc (out ++ unpackW y kd.2 j) :: KindsPt kb :: l) w) ?_ ?_
  ·refine c_seq (c_region ?_)
   refine r_v (q_moveI rfl) rfl ?_; refine r_v (q_fa rfl) rfl ?_
   refine r_v (q_load (v := .int .i64 kd.1) rfl (h.b 0 rfl) rfl) rfl ?_
   by_cases hjk : j < kd.1
   ·refine r_v (q_is (v' := .bool true) (q_lss rfl rfl) (by congr 1; simpa using hjk)) rfl ?_
    refine r_v (q_moveB rfl) rfl ?_; (first | refine r_gd rfl rfl ?_ | refine r_gn rfl rfl rfl ?_ | refine r_gu rfl rfl ?_ | refine r_gd rfl (by assumption) ?_ | refine r_gn rfl (by assumption) rfl ?_); refine r_v (q_moveS rfl) rfl ?_; (first | refine r_gd rfl rfl ?_ | refine r_gn rfl rfl rfl ?_ | refine r_gu rfl rfl ?_ | refine r_gd rfl (by assumption) ?_ | refine r_gn rfl (by assumption) rfl ?_); refine r_v (q_len rfl) rfl ?_; (first | refine r_gd rfl rfl ?_ | refine r_gn rfl rfl rfl ?_ | refine r_gu rfl rfl ?_ | refine r_gd rfl (by assumption) ?_ | refine r_gn rfl (by assumption) rfl ?_); refine r_v (q_moveI rfl) rfl ?_; (first | refine r_gd rfl rfl ?_ | refine r_gn rfl rfl rfl ?_ | refine r_gu rfl rfl ?_ | refine r_gd rfl (by assumption) ?_ | refine r_gn rfl (by assumption) rfl ?_)
    by_cases hjn : out.length + j < n
    ·refine r_v (q_is (v' := .bool true) (q_lss rfl rfl) (by rw [hul]; congr 1; simp; omega)) rfl ?_
     (first | refine r_v (q_pick1 rfl rfl rfl) rfl ?_ | refine r_v (q_pick0 rfl rfl rfl) rfl ?_ | refine r_v (q_pick1 rfl (by assumption) rfl) rfl ?_ | refine r_v (q_pick0 rfl (by assumption) rfl) rfl ?_ | refine r_v (q_pickB rfl rfl rfl) rfl ?_)
     refine r_nil (c_true rfl ?_)
     exact c_skip ⟨(), ⟨rfl, rfl, rfl, rfl, rfl, rfl, rfl, rfl, rfl, rfl, trivial⟩, by omega, h⟩
    ·refine r_v (q_is (v' := .bool false) (q_lss rfl rfl) (by rw [hul]; congr 1; simp; omega)) rfl ?_
     (first | refine r_v (q_pick1 rfl rfl rfl) rfl ?_ | refine r_v (q_pick0 rfl rfl rfl) rfl ?_ | refine r_v (q_pick1 rfl (by assumption) rfl) rfl ?_ | refine r_v (q_pick0 rfl (by assumption) rfl) rfl ?_ | refine r_v (q_pickB rfl rfl rfl) rfl ?_)
     refine r_nil (c_false rfl ?_)
     have hjm : j = m := by omega
     refine c_exit ?_
     refine c_region ?_
     refine r_v (q_add rfl rfl) rfl ?_
     refine r_is (.int .i64 ((i + 1 : Nat) : Int)) (by rw [wrap64 (by omega) (by omega)]; rfl) ?_
     refine r_v (q_moveI rfl) rfl ?_
     refine r_nil ⟨(i + 1, out ++ unpackW y kd.2 j, oa, oc), ⟨rfl, rfl, rfl, rfl, rfl, rfl, rfl, trivial⟩, ⟨hlt, by rw [hul]; omega, fun z hz => ?_, ?_, (h.drop.f 1)⟩, by dsimp only; omega⟩
     ·rcases List.mem_append.1 hz with hz | hz
      ·exact hout z hz
      ·obtain ⟨q, _, rfl⟩ := List.mem_map.1 hz
       exact Nat.lt_trans (Nat.mod_lt _ (Nat.two_pow_pos _)) (pow_le_64 hk2)
     ·rw [inv, hul, hjm, Nat.sub_sub]
      congr 1
      funext r
      simp
   ·refine r_v (q_is (v' := .bool false) (q_lss rfl rfl) (by congr 1; simpa using hjk)) rfl ?_
    refine r_v (q_moveB rfl) rfl ?_; (first | refine r_gd rfl rfl ?_ | refine r_gn rfl rfl rfl ?_ | refine r_gu rfl rfl ?_ | refine r_gd rfl (by assumption) ?_ | refine r_gn rfl (by assumption) rfl ?_); (first | refine r_gd rfl rfl ?_ | refine r_gn rfl rfl rfl ?_ | refine r_gu rfl rfl ?_ | refine r_gd rfl (by assumption) ?_ | refine r_gn rfl (by assumption) rfl ?_); (first | refine r_gd rfl rfl ?_ | refine r_gn rfl rfl rfl ?_ | refine r_gu rfl rfl ?_ | refine r_gd rfl (by assumption) ?_ | refine r_gn rfl (by assumption) rfl ?_); (first | refine r_gd rfl rfl ?_ | refine r_gn rfl rfl rfl ?_ | refine r_gu rfl rfl ?_ | refine r_gd rfl (by assumption) ?_ | refine r_gn rfl (by assumption) rfl ?_); (first | refine r_v (q_pick1 rfl rfl rfl) rfl ?_ | refine r_v (q_pick0 rfl rfl rfl) rfl ?_ | refine r_v (q_pick1 rfl (by assumption) rfl) rfl ?_ | refine r_v (q_pick0 rfl (by assumption) rfl) rfl ?_ | refine r_v (q_pickB rfl rfl rfl) rfl ?_)
    refine r_nil (c_false rfl ?_)
    have hjm : j = m := by omega
    refine c_exit ?_
    refine c_region ?_
    refine r_v (q_add rfl rfl) rfl ?_
    refine r_is (.int .i64 ((i + 1 : Nat) : Int)) (by rw [wrap64 (by omega) (by omega)]; rfl) ?_
    refine r_v (q_moveI rfl) rfl ?_
    refine r_nil ⟨(i + 1, out ++ unpackW y kd.2 j, oa, oc), ⟨rfl, rfl, rfl, rfl, rfl, rfl, rfl, trivial⟩, ⟨hlt, by rw [hul]; omega, fun z hz => ?_, ?_, (h.drop.f 1)⟩, by dsimp only; omega⟩
    ·rcases List.mem_append.1 hz with hz | hz
     ·exact hout z hz
     ·obtain ⟨q, _, rfl⟩ := List.mem_map.1 hz
      exact Nat.lt_trans (Nat.mod_lt _ (Nat.two_pow_pos _)) (pow_le_64 hk2)
    ·rw [inv, hul, hjm, Nat.sub_sub]
     congr 1
     funext r
     simp
  clear h
  rintro _ w e ⟨hjm, h⟩
  have hjb : j * kd.2 ≤ 60 := by
   have h1 : j * kd.2 ≤ kd.1 * kd.2 := Nat.mul_le_mul_right _ (by omega)
   rw [Nat.mul_comm kd.1] at h1
   omega
  have hp := pow_le_64 hk2
  have hp0 := Nat.two_pow_pos kd.2
  have hstep := unpackW_succ y kd.2 j
  have hul1 : (out ++ unpackW y kd.2 (j + 1)).length = out.length + (j + 1) := by rw [List.length_append, unpackW_len]
  have hyd : y / 2 ^ (j * kd.2) < 18446744073709551616 := Nat.lt_of_le_of_lt (Nat.div_le_self _ _) (by omega)
  refine c_cut (Γ := Option Addr × Nat) (fun q => [(0, .slice sl ws.length c), (1, .int .i64 n), (6, .slice (some ⟨kb, 0, none⟩) 16 16), (7, .slice q.1 (out ++ unpackW y kd.2 (j + 1)).length q.2), (9, .int .u64 y), (10, .pointer (some ⟨b10, 0, none⟩)), (11, .int .i64 j), (18, .slice sl ws.length c), (19, .int .i64 ws.length), (20, .int .i64 i)])
   (fun q w => St w0 (pt b10 (.cells (kindC kd).toArray 157 (0, 0)) :: OwnU q.1 q.2 (out ++ unpackW y kd.2 (j + 1)) :: KindsPt kb :: l) w) ?_ ?_
  ·refine c_block ?_
   refine c_anyW [0, 1, 2, 3, 4, 5, 6, 7, 8, 9, 10, 11, 12, 13, 14] none (fun w => w.heap[b10]? = some (.cells (kindC kd).toArray 157 (0, 0))) (by kernel_rfl) (by kernel_rfl) ?_
   replace h := h.drew
   generalize w.drew = w at h
   have hs := h
   replace h := hs.b 0 rfl
   refine cur_pure rfl rfl rfl rfl (fun _ => h) (fun _ => flt_v rfl (q_moveS rfl)) ?_; refine cur_pure rfl rfl rfl rfl (fun _ => h) (fun _ => flt_v rfl (q_moveI rfl)) ?_; refine cur_pure rfl rfl rfl rfl (fun _ => h) (fun _ => flt_v rfl (q_moveI rfl)) ?_; refine cur_pure rfl rfl rfl rfl (fun _ => h) (fun _ => flt_v rfl (q_fa rfl)) ?_
   refine cur_float rfl rfl rfl rfl h (fun w h => flt_v rfl (q_load (v := .int .i64 kd.2) rfl h rfl)) ?_
   refine cur_pure rfl rfl rfl rfl (fun _ => h) (fun _ => flt_v rfl (q_is (v' := .int .i64 ((j * kd.2 : Nat) : Int)) (q_mul rfl rfl) (by rw [← Int.natCast_mul, wrap64 (by omega) (by omega)]))) ?_
   refine cur_pure rfl rfl rfl rfl (fun _ => h) (fun _ => flt_v rfl (q_is (v' := .int .u64 ((y / 2 ^ (j * kd.2) : Nat) : Int)) (q_shr rfl rfl (by omega)) (congrArg (Value.int .u64) (fdiv_nat y (j * kd.2) 64 (by omega))))) ?_
   refine cur_pure rfl rfl rfl rfl (fun _ => h) (fun _ => flt_v rfl (q_fa rfl)) ?_
   refine cur_float rfl rfl rfl rfl h (fun w h => flt_v rfl (q_load (v := .int .i64 kd.2) rfl h rfl)) ?_
   refine cur_pure rfl rfl rfl rfl (fun _ => h) (fun _ => flt_v rfl (q_is (v' := .int .u64 ((2 ^ kd.2 : Nat) : Int)) (q_shl rfl rfl (by omega)) (congrArg (Value.int .u64) ((shl_u64 1 kd.2 (by omega)).trans (by rw [Nat.one_mul, Nat.mod_eq_of_lt hp]))))) ?_
   refine cur_pure rfl rfl rfl rfl (fun _ => h) (fun _ => flt_v rfl (q_is (v' := .int .u64 ((2 ^ kd.2 - 1 : Nat) : Int)) (q_sub rfl rfl) (by rw [show (((2 ^ kd.2 : Nat) : Int) - 1) = ((2 ^ kd.2 - 1 : Nat) : Int) by omega, wrap_u64, Nat.mod_eq_of_lt (by omega)]))) ?_
   refine cur_pure rfl rfl rfl rfl (fun _ => h) (fun _ => flt_v rfl (q_is (v' := .int .u64 ((y / 2 ^ (j * kd.2) % 2 ^ kd.2 : Nat) : Int)) (q_and rfl rfl) (congrArg (Value.int .u64) (((bit_u64 hyd (by omega)).1).trans (by rw [Nat.and_two_pow_sub_one_eq_mod]))))) ?_
   generalize y / 2 ^ (j * kd.2) % 2 ^ kd.2 = z at hstep
   refine cur_skip ?_; refine cur_skip ?_; refine cur_skip ?_
   refine cur_one 12 rfl rfl rfl rfl ?_
   refine (x_bslice (r := u64V [z]) hs rfl rfl rfl fun b2 w hs => ?_)
   replace h := hs.b 1 rfl
   refine ⟨fun _ => h, ?_⟩
   refine cur_skip ?_; refine cur_skip ?_
   refine cur_one 13 rfl rfl rfl rfl ?_
   refine (x_append' (ys := u64V [z]) (zs := u64V (out ++ unpackW y kd.2 (j + 1))) (m3 := (out ++ unpackW y kd.2 (j + 1)).length) (hs.f 2) rfl rfl ⟨rfl, .inr ⟨b2, 0, rfl, at_of (hs.b 0 rfl) rfl⟩⟩ (u64V_one _) (by rw [hstep]; simp; omega) (by rw [hstep]; simp [u64V]) (by rw [hul1]; omega) (by rw [hul1]; omega) rfl fun a2 c2 w _ hs => ?_)
   replace h := hs.b 2 rfl
   refine ⟨fun _ => h, ?_⟩
   refine cur_pure rfl rfl rfl rfl (fun _ => h) (fun _ => flt_v rfl (q_assignS rfl)) ?_
   exact cur_end ⟨(a2, c2), ⟨rfl, rfl, rfl, rfl, rfl, rfl, rfl, rfl, rfl, rfl, trivial⟩, ((hs.f 1).drop.f 1)⟩
  clear h
  rintro ⟨oa, oc⟩ w e h
  dsimp only at h ⊢
  refine c_region ?_
  refine r_v (q_moveI rfl) rfl ?_; refine r_v (q_add rfl rfl) rfl ?_
  refine r_is (.int .i64 ((j + 1 : Nat) : Int)) (by rw [wrap64 (by omega) (by omega)]; rfl) ?_
  refine r_v (q_assignI rfl) rfl ?_
  exact r_nil ⟨(j + 1, oa, oc), ⟨rfl, rfl, rfl, rfl, rfl, rfl, rfl, rfl, rfl, rfl, trivial⟩, ⟨hjm, h⟩, by dsimp only; omega⟩
 have hin : i = ws.length := by simp at hc; omega
 rw [hin, List.drop_length, simpDecA, Option.map_some, List.append_nil] at inv
 rw [inv] at hdef
 dsimp only at hdef
 refine c_exit ?_
 refine c_seq (c_seq (c_region ?_))
 refine r_v (q_moveS rfl) rfl ?_; refine r_v (q_len rfl) rfl ?_; refine r_v (q_moveI rfl) rfl ?_; refine r_v (q_neq rfl rfl) rfl ?_
 by_cases hon : out.length = n
 ·refine r_is (.bool false) (by rw [hon]; simp) ?_
  refine r_nil (c_false rfl (c_skip ?_))
  refine c_seq (c_region ?_)
  refine r_v (q_moveS rfl) rfl ?_
  replace h := h.f 1
  refine r_c rfl (x_call rfl (simp_Encode hout (by omega) h.own_cases.2.1 Reads.own h) ?_)
  rintro _ w ⟨ea, ec, rfl, h⟩
  refine r_v (q_moveT rfl) rfl ?_; refine r_v (q_ext rfl rfl) rfl ?_; refine r_v (q_ext rfl rfl) rfl ?_; refine r_v (q_assignS rfl) rfl ?_; refine r_v (q_assignB rfl) rfl ?_
  refine r_nil ?_
  refine c_cut (Γ := Unit) (fun _ => [(7, .slice oa out.length oc)]) (fun _ w => simpEnc out = some ws ∧ St w0 (OwnU oa oc out :: l) w) ?_ ?_
  ·refine c_seq (c_region ?_)
   cases hE : simpEnc out with
   | none =>
    refine r_v (q_moveB rfl) rfl ?_; refine r_v (q_not rfl) rfl ?_; refine r_v (q_moveB rfl) rfl ?_; (first | refine r_gd rfl rfl ?_ | refine r_gn rfl rfl rfl ?_ | refine r_gu rfl rfl ?_ | refine r_gd rfl (by assumption) ?_ | refine r_gn rfl (by assumption) rfl ?_); (first | refine r_gd rfl rfl ?_ | refine r_gn rfl rfl rfl ?_ | refine r_gu rfl rfl ?_ | refine r_gd rfl (by assumption) ?_ | refine r_gn rfl (by assumption) rfl ?_); (first | refine r_gd rfl rfl ?_ | refine r_gn rfl rfl rfl ?_ | refine r_gu rfl rfl ?_ | refine r_gd rfl (by assumption) ?_ | refine r_gn rfl (by assumption) rfl ?_); (first | refine r_gd rfl rfl ?_ | refine r_gn rfl rfl rfl ?_ | refine r_gu rfl rfl ?_ | refine r_gd rfl (by assumption) ?_ | refine r_gn rfl (by assumption) rfl ?_); (first | refine r_v (q_pick1 rfl rfl rfl) rfl ?_ | refine r_v (q_pick0 rfl rfl rfl) rfl ?_ | refine r_v (q_pick1 rfl (by assumption) rfl) rfl ?_ | refine r_v (q_pick0 rfl (by assumption) rfl) rfl ?_ | refine r_v (q_pickB rfl rfl rfl) rfl ?_)
    refine r_nil (c_true rfl ?_)
    refine c_seq (c_region ?_)
    refine r_v (q_assignS rfl) rfl ?_; refine r_v (q_assignB rfl) rfl ?_
    refine r_nil ?_
    exact c_ret (bq2 (bad (by rw [hdef, if_neg]; rintro ⟨_, hh⟩; rw [hE] at hh; cases hh) h.drop.drop.drop))
   | some d =>
    rw [hE] at h
    refine r_v (q_moveB rfl) rfl ?_; refine r_v (q_not rfl) rfl ?_; refine r_v (q_moveB rfl) rfl ?_; (first | refine r_gd rfl rfl ?_ | refine r_gn rfl rfl rfl ?_ | refine r_gu rfl rfl ?_ | refine r_gd rfl (by assumption) ?_ | refine r_gn rfl (by assumption) rfl ?_); refine r_v (q_moveS rfl) rfl ?_; (first | refine r_gd rfl rfl ?_ | refine r_gn rfl rfl rfl ?_ | refine r_gu rfl rfl ?_ | refine r_gd rfl (by assumption) ?_ | refine r_gn rfl (by assumption) rfl ?_); refine r_v (q_moveS rfl) rfl ?_; (first | refine r_gd rfl rfl ?_ | refine r_gn rfl rfl rfl ?_ | refine r_gu rfl rfl ?_ | refine r_gd rfl (by assumption) ?_ | refine r_gn rfl (by assumption) rfl ?_)
    refine r_c rfl (x_call rfl (slices_Equal (u1 := d) (u2 := ws) (by have := h.own_cases.2.1; have := (simpEnc_len (u := out)).1; rw [hE] at this; exact Nat.le_trans this (by omega)) h Reads.own (hr.more [_, _, _])) ?_)
    rintro _ w ⟨rfl, h⟩
    (first | refine r_gd rfl rfl ?_ | refine r_gn rfl rfl rfl ?_ | refine r_gu rfl rfl ?_ | refine r_gd rfl (by assumption) ?_ | refine r_gn rfl (by assumption) rfl ?_); refine r_v (q_not rfl) rfl ?_; (first | refine r_v (q_pick1 rfl rfl rfl) rfl ?_ | refine r_v (q_pick0 rfl rfl rfl) rfl ?_ | refine r_v (q_pick1 rfl (by assumption) rfl) rfl ?_ | refine r_v (q_pick0 rfl (by assumption) rfl) rfl ?_ | refine r_v (q_pickB rfl rfl rfl) rfl ?_)
    refine r_nil (c_cond (!decide (d = ws)) rfl (fun hc1 => ?_) (fun hc1 => ?_))
    ·refine c_seq (c_region ?_)
     refine r_v (q_assignS rfl) rfl ?_; refine r_v (q_assignB rfl) rfl ?_
     refine r_nil ?_
     exact c_ret (bq2 (bad (by rw [hdef, if_neg]; rintro ⟨_, hh⟩; rw [hE] at hh; cases hh; simp at hc1) h.drop.drop.drop))
    ·exact c_skip ⟨(), ⟨rfl, trivial⟩, by simpa using hc1, (h.drop.f 1).drop⟩
  clear h
  rintro _ w e ⟨hE, h⟩
  refine c_seq (c_region ?_)
  refine r_v (q_moveS rfl) rfl ?_; refine r_v (q_assignS rfl) rfl ?_; refine r_v (q_assignB rfl) rfl ?_
  refine r_nil ?_
  exact c_ret (bq2 ⟨oa, oc, out, true, rfl, by rw [hdef, if_pos ⟨hon, hE⟩]; rfl, fun _ => ⟨hon, hout⟩, (fun h => by cases h), h⟩)
 ·refine r_is (.bool true) (by congr 1; rw [bne_iff_ne]; omega) ?_
  refine r_nil (c_true rfl ?_)
  refine c_seq (c_region ?_)
  refine r_v (q_assignS rfl) rfl ?_; refine r_v (q_assignB rfl) rfl ?_
  refine r_nil ?_
  exact c_ret (bq2 (bad (by rw [hdef, if_neg]; rintro ⟨hh, _⟩; exact hon hh) h.drop.drop))
end
end Go.Proofs.YtjjacchnalemaaaGreatDoor

/- runl, forp: reading runs and frames. -/
namespace Go.Hw
set_option maxRecDepth 100000
theorem runsDecA_step {f : Nat} {b : List UInt8} {room : Nat} {last : Option Nat} (hb : b ≠ []) : runsDecA (f + 1) b room last =
  if (vget b).2 = 0 ∨ (vget (b.drop (vget b).2)).2 = 0 ∨ (vget b).1 = 0 ∨ room < (vget b).1 ∨ last = some (vget (b.drop (vget b).2)).1 then none
  else (runsDecA f (b.drop ((vget b).2 + (vget (b.drop (vget b).2)).2)) (room - (vget b).1) (some (vget (b.drop (vget b).2)).1)).map fun r => List.replicate (vget b).1 (vget (b.drop (vget b).2)).1 ++ r := by
 cases b with
 | nil => exact absurd rfl hb
 | cons c b => rw [runsDecA]
theorem bytesV_drop (bs : List UInt8) (k : Nat) : bytesV (bs.drop k) = (bytesV bs).drop (k * 1) := by
 unfold bytesV
 rw [List.map_drop, Nat.mul_one]
theorem Reads.tailB {w0 : World} {l : List HProp} {a : Option Addr} {c : Nat} {bs : List UInt8} (h : Reads w0 l 1 a bs.length (bytesV bs)) {i : Nat} (hi : i ≤ bs.length) (hc : bs.length ≤ c) : Reads w0 l 1 (adv a (i * 1) (Nat.beq c i)) (bs.drop i).length (bytesV (bs.drop i)) := by
 have := h.tail hi hc
 rw [List.length_drop, bytesV_drop]
 exact this
theorem getLast?_rep (out : List Nat) {k x : Nat} (h : 0 < k) : (out ++ List.replicate k x).getLast? = some x := by
 rw [List.getLast?_append, List.getLast?_replicate, if_neg (by omega)]
 rfl
end Go.Hw
namespace Go.Proofs.YtjjacchnalemaaaGreatDoor
open Go.Hw
set_option maxHeartbeats 4000000
set_option maxRecDepth 100000
abbrev Told (w0 : World) (l : List HProp) (n : Nat) (D : Option (List Nat)) (v : Value) (w' : World) : Prop := ∃ a c xs b, v = .tuple [.slice a xs.length c, .bool b].toArray ∧ D = (if b = true then some xs else none) ∧ (b = true → xs.length = n ∧ ∀ x ∈ xs, x < 18446744073709551616) ∧ St w0 (OwnU a c xs :: l) w'
section
variable {w0 w : World} {l : List HProp}
theorem Told.no {n : Nat} {D : Option (List Nat)} (hb : D = none) (h : St w0 l w) : Told w0 l n D (.tuple [.slice none 0 0, .bool false].toArray) w := ⟨none, 0, [], false, rfl, hb, (fun h => by cases h), St.ownNil _ _ h⟩
theorem runl_Decode {sl : Option Addr} {c : Nat} {bs : List UInt8} {n : Nat} (hn : n ≤ 65535) (hbn : bs.length ≤ 140737488355328) (hc : bs.length ≤ c) (hr : Reads w0 l 1 sl bs.length (bytesV bs)) (h : St w0 l w) :
  Ret Tryz.prog 88 [.slice sl bs.length c, .int .i64 (n : Int)] w fun v w' => Told w0 l n (runsDec bs n) v w' := by
 refine enter Tryz.func88 rfl Tryz.results88 Tryz.ntmps88 rfl ?_
 refine c_seq (c_region ?_)
 refine r_v (q_assignS rfl) rfl ?_; refine r_v (q_assignB rfl) rfl ?_
 refine r_nil ?_
 refine c_seq (c_region ?_)
 refine r_v (q_moveI rfl) rfl ?_; refine r_v (q_max rfl rfl) rfl ?_; refine r_v (q_min rfl rfl) rfl ?_
 refine r_is (.int .i64 (n : Int)) (by congr 1; omega) ?_
 refine r_v (q_assignI rfl) rfl ?_
 refine r_nil ?_
 refine c_seq (c_region ?_)
 refine r_v (q_assignS rfl) rfl ?_
 refine r_nil ?_
 refine c_seq (c_block ?_)
 refine c_loop (Γ := List UInt8 × Option Addr × Nat × Nat × List Nat × Option Addr × Nat) (fun k => [(0, .slice k.2.1 k.1.length k.2.2.1), (1, .int .i64 n), (6, .slice k.2.2.2.2.2.1 k.2.2.2.2.1.length k.2.2.2.2.2.2)])
  (fun k w => k.1.length ≤ bs.length ∧ k.1.length ≤ k.2.2.2.1 ∧ k.1.length ≤ k.2.2.1 ∧ k.2.2.2.2.1.length ≤ n ∧ (∀ x ∈ k.2.2.2.2.1, x < 18446744073709551616) ∧ runsDec bs n = (runsDecA k.2.2.2.1 k.1 (n - k.2.2.2.2.1.length) k.2.2.2.2.1.getLast?).map (fun r => k.2.2.2.2.1 ++ r) ∧ Reads w0 l 1 k.2.1 k.1.length (bytesV k.1) ∧ St w0 (OwnU k.2.2.2.2.2.1 k.2.2.2.2.2.2 k.2.2.2.2.1 :: l) w)
  (fun k => k.1.length) (bs, sl, c, bs.length, [], none, 0) ⟨rfl, rfl, rfl, trivial⟩ ⟨Nat.le_refl _, Nat.le_refl _, hc, Nat.zero_le _, (fun _ h => by cases h), (by simp [runsDec]), hr, St.ownNil _ _ h⟩ ?_
 clear h hr hc
 rintro ⟨b, ba, bc, f, out, oa, oc⟩ w e ⟨hbl, hbf, hc, hol, hout, inv, hr, h⟩
 dsimp only at hbl hbf hc hol hout inv hr h ⊢
 refine c_seq (c_seq (c_region ?_))
 refine r_v (q_moveS rfl) rfl ?_; refine r_v (q_len rfl) rfl ?_; refine r_v (q_gtr rfl rfl) rfl ?_
 refine r_nil ?_
 refine c_cond (decide ((b.length : Int) > 0)) rfl (fun hcc => ?_) (fun hcc => ?_)
 ·
  have hpos : 0 < b.length := by simp at hcc; omega
  have hne : b ≠ [] := List.length_pos_iff.1 hpos
  cases f with
  | zero => omega
  | succ f =>
  rw [runsDecA_step hne] at inv
  have hk := vget_le b
  have hm := vget_lt b
  refine c_skip ?_
  refine c_block ?_
  refine c_seq (c_region ?_)
  refine r_v (q_moveS rfl) rfl ?_
  refine r_c rfl (x_call rfl (vint_Get h hr.cons.rd (by omega)) ?_)
  rintro _ w ⟨rfl, h⟩
  refine r_v (q_moveT rfl) rfl ?_; refine r_v (q_ext rfl rfl) rfl ?_; refine r_v (q_ext rfl rfl) rfl ?_; refine r_v (q_assignI rfl) rfl ?_; refine r_v (q_assignI rfl) rfl ?_
  refine r_nil ?_
  generalize (vget b).1 = many at hm inv ⊢
  generalize (vget b).2 = i at hk inv ⊢
  have hrt := hr.tailB hk hc
  have hk2 := vget_le (b.drop i)
  have hx := vget_lt (b.drop i)
  refine c_seq (c_region ?_)
  refine r_v (q_moveS rfl) rfl ?_; refine r_v (q_moveI rfl) rfl ?_
  refine r_v (q_tail (i := i) rfl rfl hk) rfl ?_
  show Rn _ _ _ _ _ (upd _ _ (.slice (adv ba (i * 1) (Nat.beq bc i)) (b.length - i) (bc - i))) _
  rw [← List.length_drop]
  refine r_c rfl (x_call rfl (vint_Get h hrt.cons.rd (by rw [List.length_drop]; omega)) ?_)
  rintro _ w ⟨rfl, h⟩
  refine r_v (q_moveT rfl) rfl ?_; refine r_v (q_ext rfl rfl) rfl ?_; refine r_v (q_ext rfl rfl) rfl ?_; refine r_v (q_assignI rfl) rfl ?_; refine r_v (q_assignI rfl) rfl ?_
  refine r_nil ?_
  generalize (vget (b.drop i)).1 = x at hx inv ⊢
  generalize (vget (b.drop i)).2 = k at hk2 inv ⊢
  rw [List.length_drop] at hk2
  refine c_cut (Γ := Unit) (fun _ => [(0, .slice ba b.length bc), (1, .int .i64 n), (6, .slice oa out.length oc), (7, .int .u64 many), (8, .int .i64 i), (9, .int .u64 x), (10, .int .i64 k)])
   (fun _ w => ¬ (i = 0 ∨ k = 0 ∨ many = 0 ∨ n - out.length < many ∨ out.getLast? = some x) ∧ St w0 (OwnU oa oc out :: l) w) ?_ ?_
  ·have bad : ∀ {w : World}, (i = 0 ∨ k = 0 ∨ many = 0 ∨ n - out.length < many ∨ out.getLast? = some x) → St w0 (OwnU oa oc out :: l) w → Told w0 l n (runsDec bs n) (.tuple [.slice none 0 0, .bool false].toArray) w := fun hb h => Told.no (by rw [inv, if_pos hb]; rfl) h.drop
   refine c_seq (c_region ?_)
   by_cases g1 : i = 0
   ·refine r_v (q_moveI rfl) rfl ?_
    refine r_v (q_is (v' := .bool true) (q_eql rfl rfl) (by rw [g1]; rfl)) rfl ?_
    refine r_v (q_moveB rfl) rfl ?_; (first | refine r_gd rfl rfl ?_ | refine r_gn rfl rfl rfl ?_ | refine r_gu rfl rfl ?_ | refine r_gd rfl (by assumption) ?_ | refine r_gn rfl (by assumption) rfl ?_); (first | refine r_gd rfl rfl ?_ | refine r_gn rfl rfl rfl ?_ | refine r_gu rfl rfl ?_ | refine r_gd rfl (by assumption) ?_ | refine r_gn rfl (by assumption) rfl ?_); (first | refine r_v (q_pick1 rfl rfl rfl) rfl ?_ | refine r_v (q_pick0 rfl rfl rfl) rfl ?_ | refine r_v (q_pick1 rfl (by assumption) rfl) rfl ?_ | refine r_v (q_pick0 rfl (by assumption) rfl) rfl ?_ | refine r_v (q_pickB rfl rfl rfl) rfl ?_); refine r_v (q_moveB rfl) rfl ?_; (first | refine r_gd rfl rfl ?_ | refine r_gn rfl rfl rfl ?_ | refine r_gu rfl rfl ?_ | refine r_gd rfl (by assumption) ?_ | refine r_gn rfl (by assumption) rfl ?_); (first | refine r_gd rfl rfl ?_ | refine r_gn rfl rfl rfl ?_ | refine r_gu rfl rfl ?_ | refine r_gd rfl (by assumption) ?_ | refine r_gn rfl (by assumption) rfl ?_); (first | refine r_v (q_pick1 rfl rfl rfl) rfl ?_ | refine r_v (q_pick0 rfl rfl rfl) rfl ?_ | refine r_v (q_pick1 rfl (by assumption) rfl) rfl ?_ | refine r_v (q_pick0 rfl (by assumption) rfl) rfl ?_ | refine r_v (q_pickB rfl rfl rfl) rfl ?_); refine r_v (q_moveB rfl) rfl ?_; (first | refine r_gd rfl rfl ?_ | refine r_gn rfl rfl rfl ?_ | refine r_gu rfl rfl ?_ | refine r_gd rfl (by assumption) ?_ | refine r_gn rfl (by assumption) rfl ?_); (first | refine r_gd rfl rfl ?_ | refine r_gn rfl rfl rfl ?_ | refine r_gu rfl rfl ?_ | refine r_gd rfl (by assumption) ?_ | refine r_gn rfl (by assumption) rfl ?_); (first | refine r_gd rfl rfl ?_ | refine r_gn rfl rfl rfl ?_ | refine r_gu rfl rfl ?_ | refine r_gd rfl (by assumption) ?_ | refine r_gn rfl (by assumption) rfl ?_); (first | refine r_gd rfl rfl ?_ | refine r_gn rfl rfl rfl ?_ | refine r_gu rfl rfl ?_ | refine r_gd rfl (by assumption) ?_ | refine r_gn rfl (by assumption) rfl ?_); (first | refine r_gd rfl rfl ?_ | refine r_gn rfl rfl rfl ?_ | refine r_gu rfl rfl ?_ | refine r_gd rfl (by assumption) ?_ | refine r_gn rfl (by assumption) rfl ?_); (first | refine r_gd rfl rfl ?_ | refine r_gn rfl rfl rfl ?_ | refine r_gu rfl rfl ?_ | refine r_gd rfl (by assumption) ?_ | refine r_gn rfl (by assumption) rfl ?_); (first | refine r_gd rfl rfl ?_ | refine r_gn rfl rfl rfl ?_ | refine r_gu rfl rfl ?_ | refine r_gd rfl (by assumption) ?_ | refine r_gn rfl (by assumption) rfl ?_); (first | refine r_v (q_pick1 rfl rfl rfl) rfl ?_ | refine r_v (q_pick0 rfl rfl rfl) rfl ?_ | refine r_v (q_pick1 rfl (by assumption) rfl) rfl ?_ | refine r_v (q_pick0 rfl (by assumption) rfl) rfl ?_ | refine r_v (q_pickB rfl rfl rfl) rfl ?_); refine r_v (q_moveB rfl) rfl ?_; (first | refine r_gd rfl rfl ?_ | refine r_gn rfl rfl rfl ?_ | refine r_gu rfl rfl ?_ | refine r_gd rfl (by assumption) ?_ | refine r_gn rfl (by assumption) rfl ?_); (first | refine r_gd rfl rfl ?_ | refine r_gn rfl rfl rfl ?_ | refine r_gu rfl rfl ?_ | refine r_gd rfl (by assumption) ?_ | refine r_gn rfl (by assumption) rfl ?_); (first | refine r_gd rfl rfl ?_ | refine r_gn rfl rfl rfl ?_ | refine r_gu rfl rfl ?_ | refine r_gd rfl (by assumption) ?_ | refine r_gn rfl (by assumption) rfl ?_); (first | refine r_gd rfl rfl ?_ | refine r_gn rfl rfl rfl ?_ | refine r_gu rfl rfl ?_ | refine r_gd rfl (by assumption) ?_ | refine r_gn rfl (by assumption) rfl ?_); (first | refine r_gd rfl rfl ?_ | refine r_gn rfl rfl rfl ?_ | refine r_gu rfl rfl ?_ | refine r_gd rfl (by assumption) ?_ | refine r_gn rfl (by assumption) rfl ?_); (first | refine r_gd rfl rfl ?_ | refine r_gn rfl rfl rfl ?_ | refine r_gu rfl rfl ?_ | refine r_gd rfl (by assumption) ?_ | refine r_gn rfl (by assumption) rfl ?_); (first | refine r_gd rfl rfl ?_ | refine r_gn rfl rfl rfl ?_ | refine r_gu rfl rfl ?_ | refine r_gd rfl (by assumption) ?_ | refine r_gn rfl (by assumption) rfl ?_); (first | refine r_gd rfl rfl ?_ | refine r_gn rfl rfl rfl ?_ | refine r_gu rfl rfl ?_ | refine r_gd rfl (by assumption) ?_ | refine r_gn rfl (by assumption) rfl ?_); (first | refine r_gd rfl rfl ?_ | refine r_gn rfl rfl rfl ?_ | refine r_gu rfl rfl ?_ | refine r_gd rfl (by assumption) ?_ | refine r_gn rfl (by assumption) rfl ?_); (first | refine r_gd rfl rfl ?_ | refine r_gn rfl rfl rfl ?_ | refine r_gu rfl rfl ?_ | refine r_gd rfl (by assumption) ?_ | refine r_gn rfl (by assumption) rfl ?_); (first | refine r_gd rfl rfl ?_ | refine r_gn rfl rfl rfl ?_ | refine r_gu rfl rfl ?_ | refine r_gd rfl (by assumption) ?_ | refine r_gn rfl (by assumption) rfl ?_); (first | refine r_gd rfl rfl ?_ | refine r_gn rfl rfl rfl ?_ | refine r_gu rfl rfl ?_ | refine r_gd rfl (by assumption) ?_ | refine r_gn rfl (by assumption) rfl ?_); (first | refine r_gd rfl rfl ?_ | refine r_gn rfl rfl rfl ?_ | refine r_gu rfl rfl ?_ | refine r_gd rfl (by assumption) ?_ | refine r_gn rfl (by assumption) rfl ?_); (first | refine r_v (q_pick1 rfl rfl rfl) rfl ?_ | refine r_v (q_pick0 rfl rfl rfl) rfl ?_ | refine r_v (q_pick1 rfl (by assumption) rfl) rfl ?_ | refine r_v (q_pick0 rfl (by assumption) rfl) rfl ?_ | refine r_v (q_pickB rfl rfl rfl) rfl ?_)
    refine r_nil (c_true rfl ?_)
    refine c_seq (c_region ?_)
    refine r_v (q_assignS rfl) rfl ?_; refine r_v (q_assignB rfl) rfl ?_
    exact r_nil (c_ret (bq2 (bad (.inl g1) h)))
   refine r_v (q_moveI rfl) rfl ?_
   refine r_v (q_is (v' := .bool false) (q_eql rfl rfl) (by congr 1; rw [beq_eq_false_iff_ne]; omega)) rfl ?_
   refine r_v (q_moveB rfl) rfl ?_; (first | refine r_gd rfl rfl ?_ | refine r_gn rfl rfl rfl ?_ | refine r_gu rfl rfl ?_ | refine r_gd rfl (by assumption) ?_ | refine r_gn rfl (by assumption) rfl ?_); refine r_v (q_moveI rfl) rfl ?_; (first | refine r_gd rfl rfl ?_ | refine r_gn rfl rfl rfl ?_ | refine r_gu rfl rfl ?_ | refine r_gd rfl (by assumption) ?_ | refine r_gn rfl (by assumption) rfl ?_)
   by_cases g2 : k = 0
   ·refine r_v (q_is (v' := .bool true) (q_eql rfl rfl) (by rw [g2]; rfl)) rfl ?_
    (first | refine r_v (q_pick1 rfl rfl rfl) rfl ?_ | refine r_v (q_pick0 rfl rfl rfl) rfl ?_ | refine r_v (q_pick1 rfl (by assumption) rfl) rfl ?_ | refine r_v (q_pick0 rfl (by assumption) rfl) rfl ?_ | refine r_v (q_pickB rfl rfl rfl) rfl ?_); refine r_v (q_moveB rfl) rfl ?_; (first | refine r_gd rfl rfl ?_ | refine r_gn rfl rfl rfl ?_ | refine r_gu rfl rfl ?_ | refine r_gd rfl (by assumption) ?_ | refine r_gn rfl (by assumption) rfl ?_); (first | refine r_gd rfl rfl ?_ | refine r_gn rfl rfl rfl ?_ | refine r_gu rfl rfl ?_ | refine r_gd rfl (by assumption) ?_ | refine r_gn rfl (by assumption) rfl ?_); (first | refine r_v (q_pick1 rfl rfl rfl) rfl ?_ | refine r_v (q_pick0 rfl rfl rfl) rfl ?_ | refine r_v (q_pick1 rfl (by assumption) rfl) rfl ?_ | refine r_v (q_pick0 rfl (by assumption) rfl) rfl ?_ | refine r_v (q_pickB rfl rfl rfl) rfl ?_); refine r_v (q_moveB rfl) rfl ?_; (first | refine r_gd rfl rfl ?_ | refine r_gn rfl rfl rfl ?_ | refine r_gu rfl rfl ?_ | refine r_gd rfl (by assumption) ?_ | refine r_gn rfl (by assumption) rfl ?_); (first | refine r_gd rfl rfl ?_ | refine r_gn rfl rfl rfl ?_ | refine r_gu rfl rfl ?_ | refine r_gd rfl (by assumption) ?_ | refine r_gn rfl (by assumption) rfl ?_); (first | refine r_gd rfl rfl ?_ | refine r_gn rfl rfl rfl ?_ | refine r_gu rfl rfl ?_ | refine r_gd rfl (by assumption) ?_ | refine r_gn rfl (by assumption) rfl ?_); (first | refine r_gd rfl rfl ?_ | refine r_gn rfl rfl rfl ?_ | refine r_gu rfl rfl ?_ | refine r_gd rfl (by assumption) ?_ | refine r_gn rfl (by assumption) rfl ?_); (first | refine r_gd rfl rfl ?_ | refine r_gn rfl rfl rfl ?_ | refine r_gu rfl rfl ?_ | refine r_gd rfl (by assumption) ?_ | refine r_gn rfl (by assumption) rfl ?_); (first | refine r_gd rfl rfl ?_ | refine r_gn rfl rfl rfl ?_ | refine r_gu rfl rfl ?_ | refine r_gd rfl (by assumption) ?_ | refine r_gn rfl (by assumption) rfl ?_); (first | refine r_gd rfl rfl ?_ | refine r_gn rfl rfl rfl ?_ | refine r_gu rfl rfl ?_ | refine r_gd rfl (by assumption) ?_ | refine r_gn rfl (by assumption) rfl ?_); (first | refine r_v (q_pick1 rfl rfl rfl) rfl ?_ | refine r_v (q_pick0 rfl rfl rfl) rfl ?_ | refine r_v (q_pick1 rfl (by assumption) rfl) rfl ?_ | refine r_v (q_pick0 rfl (by assumption) rfl) rfl ?_ | refine r_v (q_pickB rfl rfl rfl) rfl ?_); refine r_v (q_moveB rfl) rfl ?_; (first | refine r_gd rfl rfl ?_ | refine r_gn rfl rfl rfl ?_ | refine r_gu rfl rfl ?_ | refine r_gd rfl (by assumption) ?_ | refine r_gn rfl (by assumption) rfl ?_); (first | refine r_gd rfl rfl ?_ | refine r_gn rfl rfl rfl ?_ | refine r_gu rfl rfl ?_ | refine r_gd rfl (by assumption) ?_ | refine r_gn rfl (by assumption) rfl ?_); (first | refine r_gd rfl rfl ?_ | refine r_gn rfl rfl rfl ?_ | refine r_gu rfl rfl ?_ | refine r_gd rfl (by assumption) ?_ | refine r_gn rfl (by assumption) rfl ?_); (first | refine r_gd rfl rfl ?_ | refine r_gn rfl rfl rfl ?_ | refine r_gu rfl rfl ?_ | refine r_gd rfl (by assumption) ?_ | refine r_gn rfl (by assumption) rfl ?_); (first | refine r_gd rfl rfl ?_ | refine r_gn rfl rfl rfl ?_ | refine r_gu rfl rfl ?_ | refine r_gd rfl (by assumption) ?_ | refine r_gn rfl (by assumption) rfl ?_); (first | refine r_gd rfl rfl ?_ | refine r_gn rfl rfl rfl ?_ | refine r_gu rfl rfl ?_ | refine r_gd rfl (by assumption) ?_ | refine r_gn rfl (by assumption) rfl ?_); (first | refine r_gd rfl rfl ?_ | refine r_gn rfl rfl rfl ?_ | refine r_gu rfl rfl ?_ | refine r_gd rfl (by assumption) ?_ | refine r_gn rfl (by assumption) rfl ?_); (first | refine r_gd rfl rfl ?_ | refine r_gn rfl rfl rfl ?_ | refine r_gu rfl rfl ?_ | refine r_gd rfl (by assumption) ?_ | refine r_gn rfl (by assumption) rfl ?_); (first | refine r_gd rfl rfl ?_ | refine r_gn rfl rfl rfl ?_ | refine r_gu rfl rfl ?_ | refine r_gd rfl (by assumption) ?_ | refine r_gn rfl (by assumption) rfl ?_); (first | refine r_gd rfl rfl ?_ | refine r_gn rfl rfl rfl ?_ | refine r_gu rfl rfl ?_ | refine r_gd rfl (by assumption) ?_ | refine r_gn rfl (by assumption) rfl ?_); (first | refine r_gd rfl rfl ?_ | refine r_gn rfl rfl rfl ?_ | refine r_gu rfl rfl ?_ | refine r_gd rfl (by assumption) ?_ | refine r_gn rfl (by assumption) rfl ?_); (first | refine r_gd rfl rfl ?_ | refine r_gn rfl rfl rfl ?_ | refine r_gu rfl rfl ?_ | refine r_gd rfl (by assumption) ?_ | refine r_gn rfl (by assumption) rfl ?_); (first | refine r_gd rfl rfl ?_ | refine r_gn rfl rfl rfl ?_ | refine r_gu rfl rfl ?_ | refine r_gd rfl (by assumption) ?_ | refine r_gn rfl (by assumption) rfl ?_); (first | refine r_v (q_pick1 rfl rfl rfl) rfl ?_ | refine r_v (q_pick0 rfl rfl rfl) rfl ?_ | refine r_v (q_pick1 rfl (by assumption) rfl) rfl ?_ | refine r_v (q_pick0 rfl (by assumption) rfl) rfl ?_ | refine r_v (q_pickB rfl rfl rfl) rfl ?_)
    refine r_nil (c_true rfl ?_)
    refine c_seq (c_region ?_)
    refine r_v (q_assignS rfl) rfl ?_; refine r_v (q_assignB rfl) rfl ?_
    exact r_nil (c_ret (bq2 (bad (.inr (.inl g2)) h)))
   refine r_v (q_is (v' := .bool false) (q_eql rfl rfl) (by congr 1; rw [beq_eq_false_iff_ne]; omega)) rfl ?_
   (first | refine r_v (q_pick1 rfl rfl rfl) rfl ?_ | refine r_v (q_pick0 rfl rfl rfl) rfl ?_ | refine r_v (q_pick1 rfl (by assumption) rfl) rfl ?_ | refine r_v (q_pick0 rfl (by assumption) rfl) rfl ?_ | refine r_v (q_pickB rfl rfl rfl) rfl ?_); refine r_v (q_moveB rfl) rfl ?_; (first | refine r_gd rfl rfl ?_ | refine r_gn rfl rfl rfl ?_ | refine r_gu rfl rfl ?_ | refine r_gd rfl (by assumption) ?_ | refine r_gn rfl (by assumption) rfl ?_); refine r_v (q_moveI rfl) rfl ?_; (first | refine r_gd rfl rfl ?_ | refine r_gn rfl rfl rfl ?_ | refine r_gu rfl rfl ?_ | refine r_gd rfl (by assumption) ?_ | refine r_gn rfl (by assumption) rfl ?_)
   by_cases g3 : many = 0
   ·refine r_v (q_is (v' := .bool true) (q_eql rfl rfl) (by rw [g3]; rfl)) rfl ?_
    (first | refine r_v (q_pick1 rfl rfl rfl) rfl ?_ | refine r_v (q_pick0 rfl rfl rfl) rfl ?_ | refine r_v (q_pick1 rfl (by assumption) rfl) rfl ?_ | refine r_v (q_pick0 rfl (by assumption) rfl) rfl ?_ | refine r_v (q_pickB rfl rfl rfl) rfl ?_); refine r_v (q_moveB rfl) rfl ?_; (first | refine r_gd rfl rfl ?_ | refine r_gn rfl rfl rfl ?_ | refine r_gu rfl rfl ?_ | refine r_gd rfl (by assumption) ?_ | refine r_gn rfl (by assumption) rfl ?_); (first | refine r_gd rfl rfl ?_ | refine r_gn rfl rfl rfl ?_ | refine r_gu rfl rfl ?_ | refine r_gd rfl (by assumption) ?_ | refine r_gn rfl (by assumption) rfl ?_); (first | refine r_gd rfl rfl ?_ | refine r_gn rfl rfl rfl ?_ | refine r_gu rfl rfl ?_ | refine r_gd rfl (by assumption) ?_ | refine r_gn rfl (by assumption) rfl ?_); (first | refine r_gd rfl rfl ?_ | refine r_gn rfl rfl rfl ?_ | refine r_gu rfl rfl ?_ | refine r_gd rfl (by assumption) ?_ | refine r_gn rfl (by assumption) rfl ?_); (first | refine r_gd rfl rfl ?_ | refine r_gn rfl rfl rfl ?_ | refine r_gu rfl rfl ?_ | refine r_gd rfl (by assumption) ?_ | refine r_gn rfl (by assumption) rfl ?_); (first | refine r_gd rfl rfl ?_ | refine r_gn rfl rfl rfl ?_ | refine r_gu rfl rfl ?_ | refine r_gd rfl (by assumption) ?_ | refine r_gn rfl (by assumption) rfl ?_); (first | refine r_gd rfl rfl ?_ | refine r_gn rfl rfl rfl ?_ | refine r_gu rfl rfl ?_ | refine r_gd rfl (by assumption) ?_ | refine r_gn rfl (by assumption) rfl ?_); (first | refine r_v (q_pick1 rfl rfl rfl) rfl ?_ | refine r_v (q_pick0 rfl rfl rfl) rfl ?_ | refine r_v (q_pick1 rfl (by assumption) rfl) rfl ?_ | refine r_v (q_pick0 rfl (by assumption) rfl) rfl ?_ | refine r_v (q_pickB rfl rfl rfl) rfl ?_); refine r_v (q_moveB rfl) rfl ?_; (first | refine r_gd rfl rfl ?_ | refine r_gn rfl rfl rfl ?_ | refine r_gu rfl rfl ?_ | refine r_gd rfl (by assumption) ?_ | refine r_gn rfl (by assumption) rfl ?_); (first | refine r_gd rfl rfl ?_ | refine r_gn rfl rfl rfl ?_ | refine r_gu rfl rfl ?_ | refine r_gd rfl (by assumption) ?_ | refine r_gn rfl (by assumption) rfl ?_); (first | refine r_gd rfl rfl ?_ | refine r_gn rfl rfl rfl ?_ | refine r_gu rfl rfl ?_ | refine r_gd rfl (by assumption) ?_ | refine r_gn rfl (by assumption) rfl ?_); (first | refine r_gd rfl rfl ?_ | refine r_gn rfl rfl rfl ?_ | refine r_gu rfl rfl ?_ | refine r_gd rfl (by assumption) ?_ | refine r_gn rfl (by assumption) rfl ?_); (first | refine r_gd rfl rfl ?_ | refine r_gn rfl rfl rfl ?_ | refine r_gu rfl rfl ?_ | refine r_gd rfl (by assumption) ?_ | refine r_gn rfl (by assumption) rfl ?_); (first | refine r_gd rfl rfl ?_ | refine r_gn rfl rfl rfl ?_ | refine r_gu rfl rfl ?_ | refine r_gd rfl (by assumption) ?_ | refine r_gn rfl (by assumption) rfl ?_); (first | refine r_gd rfl rfl ?_ | refine r_gn rfl rfl rfl ?_ | refine r_gu rfl rfl ?_ | refine r_gd rfl (by assumption) ?_ | refine r_gn rfl (by assumption) rfl ?_); (first | refine r_gd rfl rfl ?_ | refine r_gn rfl rfl rfl ?_ | refine r_gu rfl rfl ?_ | refine r_gd rfl (by assumption) ?_ | refine r_gn rfl (by assumption) rfl ?_); (first | refine r_gd rfl rfl ?_ | refine r_gn rfl rfl rfl ?_ | refine r_gu rfl rfl ?_ | refine r_gd rfl (by assumption) ?_ | refine r_gn rfl (by assumption) rfl ?_); (first | refine r_gd rfl rfl ?_ | refine r_gn rfl rfl rfl ?_ | refine r_gu rfl rfl ?_ | refine r_gd rfl (by assumption) ?_ | refine r_gn rfl (by assumption) rfl ?_); (first | refine r_gd rfl rfl ?_ | refine r_gn rfl rfl rfl ?_ | refine r_gu rfl rfl ?_ | refine r_gd rfl (by assumption) ?_ | refine r_gn rfl (by assumption) rfl ?_); (first | refine r_gd rfl rfl ?_ | refine r_gn rfl rfl rfl ?_ | refine r_gu rfl rfl ?_ | refine r_gd rfl (by assumption) ?_ | refine r_gn rfl (by assumption) rfl ?_); (first | refine r_gd rfl rfl ?_ | refine r_gn rfl rfl rfl ?_ | refine r_gu rfl rfl ?_ | refine r_gd rfl (by assumption) ?_ | refine r_gn rfl (by assumption) rfl ?_); (first | refine r_v (q_pick1 rfl rfl rfl) rfl ?_ | refine r_v (q_pick0 rfl rfl rfl) rfl ?_ | refine r_v (q_pick1 rfl (by assumption) rfl) rfl ?_ | refine r_v (q_pick0 rfl (by assumption) rfl) rfl ?_ | refine r_v (q_pickB rfl rfl rfl) rfl ?_)
    refine r_nil (c_true rfl ?_)
    refine c_seq (c_region ?_)
    refine r_v (q_assignS rfl) rfl ?_; refine r_v (q_assignB rfl) rfl ?_
    exact r_nil (c_ret (bq2 (bad (.inr (.inr (.inl g3))) h)))
   refine r_v (q_is (v' := .bool false) (q_eql rfl rfl) (by congr 1; rw [beq_eq_false_iff_ne]; omega)) rfl ?_
   (first | refine r_v (q_pick1 rfl rfl rfl) rfl ?_ | refine r_v (q_pick0 rfl rfl rfl) rfl ?_ | refine r_v (q_pick1 rfl (by assumption) rfl) rfl ?_ | refine r_v (q_pick0 rfl (by assumption) rfl) rfl ?_ | refine r_v (q_pickB rfl rfl rfl) rfl ?_); refine r_v (q_moveB rfl) rfl ?_; (first | refine r_gd rfl rfl ?_ | refine r_gn rfl rfl rfl ?_ | refine r_gu rfl rfl ?_ | refine r_gd rfl (by assumption) ?_ | refine r_gn rfl (by assumption) rfl ?_); refine r_v (q_moveI rfl) rfl ?_; (first | refine r_gd rfl rfl ?_ | refine r_gn rfl rfl rfl ?_ | refine r_gu rfl rfl ?_ | refine r_gd rfl (by assumption) ?_ | refine r_gn rfl (by assumption) rfl ?_); refine r_v (q_moveI rfl) rfl ?_; (first | refine r_gd rfl rfl ?_ | refine r_gn rfl rfl rfl ?_ | refine r_gu rfl rfl ?_ | refine r_gd rfl (by assumption) ?_ | refine r_gn rfl (by assumption) rfl ?_); refine r_v (q_moveS rfl) rfl ?_; (first | refine r_gd rfl rfl ?_ | refine r_gn rfl rfl rfl ?_ | refine r_gu rfl rfl ?_ | refine r_gd rfl (by assumption) ?_ | refine r_gn rfl (by assumption) rfl ?_); refine r_v (q_len rfl) rfl ?_; (first | refine r_gd rfl rfl ?_ | refine r_gn rfl rfl rfl ?_ | refine r_gu rfl rfl ?_ | refine r_gd rfl (by assumption) ?_ | refine r_gn rfl (by assumption) rfl ?_)
   refine r_v (q_is (v' := .int .i64 ((n - out.length : Nat) : Int)) (q_sub rfl rfl) (by rw [wrap64 (by omega) (by omega)]; congr 1; omega)) rfl ?_
   refine r_gd rfl rfl ?_
   refine r_v (q_is (v' := .int .u64 ((n - out.length : Nat) : Int)) (q_conv rfl) (congrArg (Value.int .u64) (conv_nat (by omega)))) rfl ?_
   refine r_gd rfl rfl ?_
   by_cases g4 : n - out.length < many
   ·refine r_v (q_is (v' := .bool true) (q_gtr rfl rfl) (by congr 1; simp; omega)) rfl ?_
    (first | refine r_v (q_pick1 rfl rfl rfl) rfl ?_ | refine r_v (q_pick0 rfl rfl rfl) rfl ?_ | refine r_v (q_pick1 rfl (by assumption) rfl) rfl ?_ | refine r_v (q_pick0 rfl (by assumption) rfl) rfl ?_ | refine r_v (q_pickB rfl rfl rfl) rfl ?_); refine r_v (q_moveB rfl) rfl ?_; (first | refine r_gd rfl rfl ?_ | refine r_gn rfl rfl rfl ?_ | refine r_gu rfl rfl ?_ | refine r_gd rfl (by assumption) ?_ | refine r_gn rfl (by assumption) rfl ?_); (first | refine r_gd rfl rfl ?_ | refine r_gn rfl rfl rfl ?_ | refine r_gu rfl rfl ?_ | refine r_gd rfl (by assumption) ?_ | refine r_gn rfl (by assumption) rfl ?_); (first | refine r_gd rfl rfl ?_ | refine r_gn rfl rfl rfl ?_ | refine r_gu rfl rfl ?_ | refine r_gd rfl (by assumption) ?_ | refine r_gn rfl (by assumption) rfl ?_); (first | refine r_gd rfl rfl ?_ | refine r_gn rfl rfl rfl ?_ | refine r_gu rfl rfl ?_ | refine r_gd rfl (by assumption) ?_ | refine r_gn rfl (by assumption) rfl ?_); (first | refine r_gd rfl rfl ?_ | refine r_gn rfl rfl rfl ?_ | refine r_gu rfl rfl ?_ | refine r_gd rfl (by assumption) ?_ | refine r_gn rfl (by assumption) rfl ?_); (first | refine r_gd rfl rfl ?_ | refine r_gn rfl rfl rfl ?_ | refine r_gu rfl rfl ?_ | refine r_gd rfl (by assumption) ?_ | refine r_gn rfl (by assumption) rfl ?_); (first | refine r_gd rfl rfl ?_ | refine r_gn rfl rfl rfl ?_ | refine r_gu rfl rfl ?_ | refine r_gd rfl (by assumption) ?_ | refine r_gn rfl (by assumption) rfl ?_); (first | refine r_gd rfl rfl ?_ | refine r_gn rfl rfl rfl ?_ | refine r_gu rfl rfl ?_ | refine r_gd rfl (by assumption) ?_ | refine r_gn rfl (by assumption) rfl ?_); (first | refine r_gd rfl rfl ?_ | refine r_gn rfl rfl rfl ?_ | refine r_gu rfl rfl ?_ | refine r_gd rfl (by assumption) ?_ | refine r_gn rfl (by assumption) rfl ?_); (first | refine r_gd rfl rfl ?_ | refine r_gn rfl rfl rfl ?_ | refine r_gu rfl rfl ?_ | refine r_gd rfl (by assumption) ?_ | refine r_gn rfl (by assumption) rfl ?_); (first | refine r_gd rfl rfl ?_ | refine r_gn rfl rfl rfl ?_ | refine r_gu rfl rfl ?_ | refine r_gd rfl (by assumption) ?_ | refine r_gn rfl (by assumption) rfl ?_); (first | refine r_gd rfl rfl ?_ | refine r_gn rfl rfl rfl ?_ | refine r_gu rfl rfl ?_ | refine r_gd rfl (by assumption) ?_ | refine r_gn rfl (by assumption) rfl ?_); (first | refine r_gd rfl rfl ?_ | refine r_gn rfl rfl rfl ?_ | refine r_gu rfl rfl ?_ | refine r_gd rfl (by assumption) ?_ | refine r_gn rfl (by assumption) rfl ?_); (first | refine r_v (q_pick1 rfl rfl rfl) rfl ?_ | refine r_v (q_pick0 rfl rfl rfl) rfl ?_ | refine r_v (q_pick1 rfl (by assumption) rfl) rfl ?_ | refine r_v (q_pick0 rfl (by assumption) rfl) rfl ?_ | refine r_v (q_pickB rfl rfl rfl) rfl ?_)
    refine r_nil (c_true rfl ?_)
    refine c_seq (c_region ?_)
    refine r_v (q_assignS rfl) rfl ?_; refine r_v (q_assignB rfl) rfl ?_
    exact r_nil (c_ret (bq2 (bad (.inr (.inr (.inr (.inl g4)))) h)))
   refine r_v (q_is (v' := .bool false) (q_gtr rfl rfl) (by congr 1; simp; omega)) rfl ?_
   (first | refine r_v (q_pick1 rfl rfl rfl) rfl ?_ | refine r_v (q_pick0 rfl rfl rfl) rfl ?_ | refine r_v (q_pick1 rfl (by assumption) rfl) rfl ?_ | refine r_v (q_pick0 rfl (by assumption) rfl) rfl ?_ | refine r_v (q_pickB rfl rfl rfl) rfl ?_); refine r_v (q_moveB rfl) rfl ?_; (first | refine r_gd rfl rfl ?_ | refine r_gn rfl rfl rfl ?_ | refine r_gu rfl rfl ?_ | refine r_gd rfl (by assumption) ?_ | refine r_gn rfl (by assumption) rfl ?_); refine r_v (q_moveS rfl) rfl ?_; (first | refine r_gd rfl rfl ?_ | refine r_gn rfl rfl rfl ?_ | refine r_gu rfl rfl ?_ | refine r_gd rfl (by assumption) ?_ | refine r_gn rfl (by assumption) rfl ?_); refine r_v (q_len rfl) rfl ?_; (first | refine r_gd rfl rfl ?_ | refine r_gn rfl rfl rfl ?_ | refine r_gu rfl rfl ?_ | refine r_gd rfl (by assumption) ?_ | refine r_gn rfl (by assumption) rfl ?_)
   by_cases g0 : out.length = 0
   ·have ho : out = [] := List.eq_nil_of_length_eq_zero g0
    refine r_v (q_is (v' := .bool false) (q_gtr rfl rfl) (by rw [g0]; rfl)) rfl ?_
    (first | refine r_gd rfl rfl ?_ | refine r_gn rfl rfl rfl ?_ | refine r_gu rfl rfl ?_ | refine r_gd rfl (by assumption) ?_ | refine r_gn rfl (by assumption) rfl ?_); refine r_v (q_moveB rfl) rfl ?_; (first | refine r_gd rfl rfl ?_ | refine r_gn rfl rfl rfl ?_ | refine r_gu rfl rfl ?_ | refine r_gd rfl (by assumption) ?_ | refine r_gn rfl (by assumption) rfl ?_); (first | refine r_gd rfl rfl ?_ | refine r_gn rfl rfl rfl ?_ | refine r_gu rfl rfl ?_ | refine r_gd rfl (by assumption) ?_ | refine r_gn rfl (by assumption) rfl ?_); (first | refine r_gd rfl rfl ?_ | refine r_gn rfl rfl rfl ?_ | refine r_gu rfl rfl ?_ | refine r_gd rfl (by assumption) ?_ | refine r_gn rfl (by assumption) rfl ?_); (first | refine r_gd rfl rfl ?_ | refine r_gn rfl rfl rfl ?_ | refine r_gu rfl rfl ?_ | refine r_gd rfl (by assumption) ?_ | refine r_gn rfl (by assumption) rfl ?_); (first | refine r_gd rfl rfl ?_ | refine r_gn rfl rfl rfl ?_ | refine r_gu rfl rfl ?_ | refine r_gd rfl (by assumption) ?_ | refine r_gn rfl (by assumption) rfl ?_); (first | refine r_gd rfl rfl ?_ | refine r_gn rfl rfl rfl ?_ | refine r_gu rfl rfl ?_ | refine r_gd rfl (by assumption) ?_ | refine r_gn rfl (by assumption) rfl ?_); (first | refine r_gd rfl rfl ?_ | refine r_gn rfl rfl rfl ?_ | refine r_gu rfl rfl ?_ | refine r_gd rfl (by assumption) ?_ | refine r_gn rfl (by assumption) rfl ?_); (first | refine r_gd rfl rfl ?_ | refine r_gn rfl rfl rfl ?_ | refine r_gu rfl rfl ?_ | refine r_gd rfl (by assumption) ?_ | refine r_gn rfl (by assumption) rfl ?_); (first | refine r_gd rfl rfl ?_ | refine r_gn rfl rfl rfl ?_ | refine r_gu rfl rfl ?_ | refine r_gd rfl (by assumption) ?_ | refine r_gn rfl (by assumption) rfl ?_); (first | refine r_v (q_pick1 rfl rfl rfl) rfl ?_ | refine r_v (q_pick0 rfl rfl rfl) rfl ?_ | refine r_v (q_pick1 rfl (by assumption) rfl) rfl ?_ | refine r_v (q_pick0 rfl (by assumption) rfl) rfl ?_ | refine r_v (q_pickB rfl rfl rfl) rfl ?_); (first | refine r_v (q_pick1 rfl rfl rfl) rfl ?_ | refine r_v (q_pick0 rfl rfl rfl) rfl ?_ | refine r_v (q_pick1 rfl (by assumption) rfl) rfl ?_ | refine r_v (q_pick0 rfl (by assumption) rfl) rfl ?_ | refine r_v (q_pickB rfl rfl rfl) rfl ?_)
    refine r_nil (c_false rfl ?_)
    refine c_skip ⟨(), ⟨rfl, rfl, rfl, rfl, rfl, rfl, rfl, trivial⟩, ?_, h⟩
    rw [ho]
    simp
    rw [ho] at g4
    simp at g4
    omega
   ·refine r_v (q_is (v' := .bool true) (q_gtr rfl rfl) (by congr 1; simp; omega)) rfl ?_
    have hgl := List.getElem?_eq_getElem (show out.length - 1 < out.length by omega)
    have hlast : out.getLast? = some (out[out.length - 1]'(by omega)) := by rw [List.getLast?_eq_getElem?, hgl]
    generalize out[out.length - 1]'(by omega) = z at hgl hlast
    obtain ⟨bo, hosl⟩ := h.own_some (by omega)
    (first | refine r_gd rfl rfl ?_ | refine r_gn rfl rfl rfl ?_ | refine r_gu rfl rfl ?_ | refine r_gd rfl (by assumption) ?_ | refine r_gn rfl (by assumption) rfl ?_); refine r_v (q_moveB rfl) rfl ?_; (first | refine r_gd rfl rfl ?_ | refine r_gn rfl rfl rfl ?_ | refine r_gu rfl rfl ?_ | refine r_gd rfl (by assumption) ?_ | refine r_gn rfl (by assumption) rfl ?_); refine r_v (q_moveS rfl) rfl ?_; (first | refine r_gd rfl rfl ?_ | refine r_gn rfl rfl rfl ?_ | refine r_gu rfl rfl ?_ | refine r_gd rfl (by assumption) ?_ | refine r_gn rfl (by assumption) rfl ?_); refine r_v (q_moveS rfl) rfl ?_; (first | refine r_gd rfl rfl ?_ | refine r_gn rfl rfl rfl ?_ | refine r_gu rfl rfl ?_ | refine r_gd rfl (by assumption) ?_ | refine r_gn rfl (by assumption) rfl ?_); refine r_v (q_len rfl) rfl ?_; (first | refine r_gd rfl rfl ?_ | refine r_gn rfl rfl rfl ?_ | refine r_gu rfl rfl ?_ | refine r_gd rfl (by assumption) ?_ | refine r_gn rfl (by assumption) rfl ?_)
    refine r_v (q_is (v' := .int .i64 ((out.length - 1 : Nat) : Int)) (q_sub rfl rfl) (by rw [wrap64 (by omega) (by omega)]; congr 1; omega)) rfl ?_
    refine r_gd rfl rfl ?_
    refine r_v (q_idx (b := bo) (o := 0) (m := out.length) (c := oc) (o' := out.length - 1) (by rw [← hosl]; rfl) rfl rfl (by omega) (by simp)) rfl ?_
    refine r_gd rfl rfl ?_
    refine r_v (q_loadc (v := .int .u64 z) rfl (by have := (hosl ▸ h.own_rd).cell (u64V_get hgl); simpa using this)) rfl ?_
    (first | refine r_gd rfl rfl ?_ | refine r_gn rfl rfl rfl ?_ | refine r_gu rfl rfl ?_ | refine r_gd rfl (by assumption) ?_ | refine r_gn rfl (by assumption) rfl ?_); refine r_v (q_moveI rfl) rfl ?_; (first | refine r_gd rfl rfl ?_ | refine r_gn rfl rfl rfl ?_ | refine r_gu rfl rfl ?_ | refine r_gd rfl (by assumption) ?_ | refine r_gn rfl (by assumption) rfl ?_); refine r_v (q_eql rfl rfl) rfl ?_; (first | refine r_gd rfl rfl ?_ | refine r_gn rfl rfl rfl ?_ | refine r_gu rfl rfl ?_ | refine r_gd rfl (by assumption) ?_ | refine r_gn rfl (by assumption) rfl ?_); (first | refine r_v (q_pick1 rfl rfl rfl) rfl ?_ | refine r_v (q_pick0 rfl rfl rfl) rfl ?_ | refine r_v (q_pick1 rfl (by assumption) rfl) rfl ?_ | refine r_v (q_pick0 rfl (by assumption) rfl) rfl ?_ | refine r_v (q_pickB rfl rfl rfl) rfl ?_); (first | refine r_v (q_pick1 rfl rfl rfl) rfl ?_ | refine r_v (q_pick0 rfl rfl rfl) rfl ?_ | refine r_v (q_pick1 rfl (by assumption) rfl) rfl ?_ | refine r_v (q_pick0 rfl (by assumption) rfl) rfl ?_ | refine r_v (q_pickB rfl rfl rfl) rfl ?_)
    refine r_nil (c_cond ((z : Int) == (x : Int)) rfl (fun hc1 => ?_) (fun hc1 => ?_))
    ·refine c_seq (c_region ?_)
     refine r_v (q_assignS rfl) rfl ?_; refine r_v (q_assignB rfl) rfl ?_
     exact r_nil (c_ret (bq2 (bad (.inr (.inr (.inr (.inr (by rw [hlast]; congr 1; rw [beq_iff_eq] at hc1; omega))))) h)))
    ·refine c_skip ⟨(), ⟨rfl, rfl, rfl, rfl, rfl, rfl, rfl, trivial⟩, ?_, h⟩
     rw [beq_eq_false_iff_ne] at hc1
     rintro (h | h | h | h | h)
     ·omega
     ·omega
     ·omega
     ·omega
     ·rw [hlast] at h; cases h; exact hc1 rfl
  clear h
  rintro _ w e ⟨hcond, h⟩
  rw [if_neg hcond] at inv
  have hmn : many ≤ n - out.length := by omega
  have hik : i + k ≤ b.length := by omega
  refine c_cut (Γ := Option Addr × Nat) (fun q => [(0, .slice ba b.length bc), (1, .int .i64 n), (6, .slice q.1 (out ++ List.replicate many x).length q.2), (8, .int .i64 i), (10, .int .i64 k)])
   (fun q w => St w0 (OwnU q.1 q.2 (out ++ List.replicate many x) :: l) w) ?_ ?_
  ·refine c_seq (c_region ?_)
   refine r_v (q_moveI rfl) rfl ?_; refine r_v (q_moveI rfl) rfl ?_
   refine r_nil ?_
   refine c_block ?_
   refine c_loop (Γ := Nat × Option Addr × Nat) (fun q => [(0, .slice ba b.length bc), (1, .int .i64 n), (6, .slice q.2.1 (out ++ List.replicate q.1 x).length q.2.2), (8, .int .i64 i), (9, .int .u64 x), (10, .int .i64 k), (63, .int .u64 many), (64, .int .u64 q.1)])
    (fun q w => q.1 ≤ many ∧ St w0 (OwnU q.2.1 q.2.2 (out ++ List.replicate q.1 x) :: l) w) (fun q => many - q.1) (0, oa, oc) ⟨rfl, rfl, (by show Value.slice _ _ _ = Value.slice _ _ _; simp), rfl, rfl, rfl, rfl, rfl, trivial⟩ ⟨Nat.zero_le _, by simpa using h⟩ ?_
   clear h
   rintro ⟨j, oa, oc⟩ w e ⟨hj, h⟩
   dsimp only at hj h ⊢
   refine c_seq (c_region ?_)
   refine r_v (q_lss rfl rfl) rfl ?_
   refine r_nil ?_
   refine c_seq (c_cond (decide ((j : Int) < (many : Int))) rfl (fun hc1 => ?_) (fun hc1 => ?_))
   ·
    have hlt : j < many := by simp at hc1; omega
    have hstep : out ++ List.replicate (j + 1) x = out ++ List.replicate j x ++ [x] := by rw [List.replicate_succ', List.append_assoc]
    refine c_skip ?_
    refine c_cut (Γ := Option Addr × Nat) (fun q => [(0, .slice ba b.length bc), (1, .int .i64 n), (6, .slice q.1 (out ++ List.replicate (j + 1) x).length q.2), (8, .int .i64 i), (9, .int .u64 x), (10, .int .i64 k), (63, .int .u64 many), (64, .int .u64 j)]) (fun q w => St w0 (OwnU q.1 q.2 (out ++ List.replicate (j + 1) x) :: l) w) ?_ ?_
    ·refine c_block ?_
     refine c_region ?_
     refine r_v (q_moveS rfl) rfl ?_; refine r_v (q_moveI rfl) rfl ?_
     refine r_c rfl (x_bslice (r := u64V [x]) h rfl rfl rfl fun b2 w h => ?_)
     refine r_c rfl (x_append' (ys := u64V [x]) (zs := u64V (out ++ List.replicate (j + 1) x)) (m3 := (out ++ List.replicate (j + 1) x).length) (h.f 1) rfl rfl ⟨rfl, .inr ⟨b2, 0, rfl, at_of (h.b 0 rfl) rfl⟩⟩ (u64V_one _) (by rw [hstep]; simp; omega) (by rw [hstep]; simp [u64V]) (by simp; omega) (by simp; omega) rfl fun a2 c2 w _ h => ?_)
     refine r_v (q_assignS rfl) rfl ?_
     exact r_nil ⟨(a2, c2), ⟨rfl, rfl, rfl, rfl, rfl, rfl, rfl, rfl, trivial⟩, (h.f 1).drop⟩
    clear h
    rintro ⟨oa, oc⟩ w e h
    dsimp only at h ⊢
    refine c_region ?_
    refine r_v (q_add rfl rfl) rfl ?_
    refine r_is (.int .u64 ((j + 1 : Nat) : Int)) (congrArg (Value.int .u64) (conv_nat (x := j + 1) (by omega))) ?_
    refine r_v (q_moveI rfl) rfl ?_
    exact r_nil ⟨(j + 1, oa, oc), ⟨rfl, rfl, rfl, rfl, rfl, rfl, rfl, rfl, trivial⟩, ⟨hlt, h⟩, by dsimp only; omega⟩
   have hjm : j = many := by simp at hc1; omega
   subst hjm
   exact c_exit ⟨(oa, oc), ⟨rfl, rfl, rfl, rfl, rfl, trivial⟩, h⟩
  clear h
  rintro ⟨oa, oc⟩ w e h
  dsimp only at h ⊢
  have hrt2 := hr.tailB hik hc
  refine c_region ?_
  refine r_v (q_moveS rfl) rfl ?_; refine r_v (q_moveI rfl) rfl ?_; refine r_v (q_moveI rfl) rfl ?_; refine r_v (q_add rfl rfl) rfl ?_
  refine r_is (.int .i64 ((i + k : Nat) : Int)) (by rw [wrap64 (by omega) (by omega)]; rfl) ?_
  refine r_v (q_tail (i := i + k) rfl rfl hik) rfl ?_
  show Rn _ _ _ _ _ (upd _ _ (.slice (adv ba ((i + k) * 1) (Nat.beq bc (i + k))) (b.length - (i + k)) (bc - (i + k)))) _
  rw [← List.length_drop]
  refine r_v (q_assignS rfl) rfl ?_
  refine r_nil ⟨(b.drop (i + k), adv ba ((i + k) * 1) (Nat.beq bc (i + k)), bc - (i + k), f, out ++ List.replicate many x, oa, oc), ⟨rfl, rfl, rfl, trivial⟩, ⟨by dsimp only; rw [List.length_drop]; omega, by dsimp only; rw [List.length_drop]; omega, by dsimp only; rw [List.length_drop]; omega, by dsimp only; rw [List.length_append, List.length_replicate]; omega, fun z hz => ?_, ?_, hrt2, h⟩, by dsimp only; rw [List.length_drop]; omega⟩
  ·rcases List.mem_append.1 hz with hz | hz
   ·exact hout z hz
   ·rw [(List.mem_replicate.1 hz).2]; exact hx
  ·rw [inv, getLast?_rep out (by omega), List.length_append, List.length_replicate, Option.map_map, Nat.sub_sub]
   congr 1
   funext r
   simp
 have hb0 : b = [] := List.eq_nil_of_length_eq_zero (by rw [decide_eq_false_iff_not] at hcc; omega)
 subst hb0
 have inv : runsDec bs n = (if n - out.length = 0 then some [] else none).map (fun r => out ++ r) := by
  rw [inv]
  cases f <;> rfl
 refine c_exit ?_
 refine c_seq (c_seq (c_region ?_))
 refine r_v (q_moveS rfl) rfl ?_; refine r_v (q_len rfl) rfl ?_; refine r_v (q_moveI rfl) rfl ?_; refine r_v (q_neq rfl rfl) rfl ?_
 by_cases hon : out.length = n
 ·refine r_is (.bool false) (by rw [hon]; simp) ?_
  refine r_nil (c_false rfl (c_skip ?_))
  refine c_seq (c_region ?_)
  refine r_v (q_moveS rfl) rfl ?_; refine r_v (q_assignS rfl) rfl ?_; refine r_v (q_assignB rfl) rfl ?_
  refine r_nil ?_
  exact c_ret (bq2 ⟨oa, oc, out, true, rfl, by rw [inv, if_pos (by omega)]; simp, fun _ => ⟨hon, hout⟩, h⟩)
 ·refine r_is (.bool true) (by congr 1; rw [bne_iff_ne]; omega) ?_
  refine r_nil (c_true rfl ?_)
  refine c_seq (c_region ?_)
  refine r_v (q_assignS rfl) rfl ?_; refine r_v (q_assignB rfl) rfl ?_
  refine r_nil ?_
  exact c_ret (bq2 (Told.no (by rw [inv, if_neg (by omega)]; rfl) h.drop))

theorem forp_Decode {sl : Option Addr} {c : Nat} {bs : List UInt8} {n : Nat} (hn : n ≤ 65535) (hbn : bs.length ≤ 140737488355328) (hc : bs.length ≤ c) (hr : Reads w0 l 1 sl bs.length (bytesV bs)) (h : St w0 l w) :
  Ret Tryz.prog 89 [.slice sl bs.length c, .int .i64 (n : Int)] w fun v w' => Told w0 l n (frameDec bs n) v w' := by
 have hdef : frameDec bs n = _ := rfl
 conv at hdef => rhs; unfold frameDec
 refine enter Tryz.func89 rfl Tryz.results89 Tryz.ntmps89 rfl ?_
 refine c_seq (c_region ?_)
 refine r_v (q_assignS rfl) rfl ?_; refine r_v (q_assignB rfl) rfl ?_
 refine r_nil ?_
 refine c_seq (c_region ?_)
 refine r_v (q_moveI rfl) rfl ?_; refine r_v (q_max rfl rfl) rfl ?_; refine r_v (q_min rfl rfl) rfl ?_
 refine r_is (.int .i64 (n : Int)) (by congr 1; omega) ?_
 refine r_v (q_assignI rfl) rfl ?_
 refine r_nil ?_
 refine c_seq (c_seq (c_region ?_))
 refine r_v (q_moveI rfl) rfl ?_; refine r_v (q_eql rfl rfl) rfl ?_
 by_cases hn0 : n = 0
 ·refine r_is (.bool true) (by rw [hn0]; rfl) ?_
  refine r_nil (c_true rfl ?_)
  refine c_seq (c_region ?_)
  refine r_v (q_moveS rfl) rfl ?_; refine r_v (q_len rfl) rfl ?_; refine r_v (q_eql rfl rfl) rfl ?_
  refine r_is (.bool (decide (bs = []))) (by congr 1; rw [Bool.eq_iff_iff]; simp) ?_
  refine r_v (q_assignS rfl) rfl ?_; refine r_v (q_assignB rfl) rfl ?_
  refine r_nil ?_
  rw [if_pos hn0] at hdef
  refine c_ret (bq2 ⟨none, 0, [], decide (bs = []), rfl, ?_, fun _ => ⟨hn0.symm, (fun _ h => by cases h)⟩, St.ownNil _ _ h⟩)
  rw [hdef]
  by_cases hb : bs = []
  ·rw [if_pos hb, decide_eq_true hb, if_pos rfl]
  ·rw [if_neg hb, decide_eq_false hb, if_neg (by decide)]
 refine r_is (.bool false) (by congr 1; rw [beq_eq_false_iff_ne]; omega) ?_
 refine r_nil (c_false rfl (c_skip ?_))
 rw [if_neg hn0] at hdef
 have hk := vget_le bs
 have hm := vget_lt bs
 refine c_seq (c_region ?_)
 refine r_v (q_moveS rfl) rfl ?_
 refine r_c rfl (x_call rfl (vint_Get h hr.rd hbn) ?_)
 rintro _ w ⟨rfl, h⟩
 refine r_v (q_moveT rfl) rfl ?_; refine r_v (q_ext rfl rfl) rfl ?_; refine r_v (q_ext rfl rfl) rfl ?_; refine r_v (q_assignI rfl) rfl ?_; refine r_v (q_assignI rfl) rfl ?_
 refine r_nil ?_
 generalize (vget bs).1 = least at hm hdef ⊢
 generalize (vget bs).2 = i at hk hdef ⊢
 refine c_cut (Γ := UInt8) (fun _ => [(0, .slice sl bs.length c), (1, .int .i64 n), (6, .int .u64 least), (7, .int .i64 i)])
  (fun q w => bs[i]? = some q ∧ q.toNat ≤ 64 ∧ i ≠ 0 ∧ St w0 l w) ?_ ?_
 ·refine c_seq (c_region ?_)
  by_cases g1 : i = 0
  ·refine r_v (q_moveI rfl) rfl ?_
   refine r_v (q_is (v' := .bool true) (q_eql rfl rfl) (by rw [g1]; rfl)) rfl ?_
   refine r_v (q_moveB rfl) rfl ?_; (first | refine r_gd rfl rfl ?_ | refine r_gn rfl rfl rfl ?_ | refine r_gu rfl rfl ?_ | refine r_gd rfl (by assumption) ?_ | refine r_gn rfl (by assumption) rfl ?_); (first | refine r_gd rfl rfl ?_ | refine r_gn rfl rfl rfl ?_ | refine r_gu rfl rfl ?_ | refine r_gd rfl (by assumption) ?_ | refine r_gn rfl (by assumption) rfl ?_); (first | refine r_gd rfl rfl ?_ | refine r_gn rfl rfl rfl ?_ | refine r_gu rfl rfl ?_ | refine r_gd rfl (by assumption) ?_ | refine r_gn rfl (by assumption) rfl ?_); (first | refine r_gd rfl rfl ?_ | refine r_gn rfl rfl rfl ?_ | refine r_gu rfl rfl ?_ | refine r_gd rfl (by assumption) ?_ | refine r_gn rfl (by assumption) rfl ?_); (first | refine r_v (q_pick1 rfl rfl rfl) rfl ?_ | refine r_v (q_pick0 rfl rfl rfl) rfl ?_ | refine r_v (q_pick1 rfl (by assumption) rfl) rfl ?_ | refine r_v (q_pick0 rfl (by assumption) rfl) rfl ?_ | refine r_v (q_pickB rfl rfl rfl) rfl ?_); refine r_v (q_moveB rfl) rfl ?_; (first | refine r_gd rfl rfl ?_ | refine r_gn rfl rfl rfl ?_ | refine r_gu rfl rfl ?_ | refine r_gd rfl (by assumption) ?_ | refine r_gn rfl (by assumption) rfl ?_); (first | refine r_gd rfl rfl ?_ | refine r_gn rfl rfl rfl ?_ | refine r_gu rfl rfl ?_ | refine r_gd rfl (by assumption) ?_ | refine r_gn rfl (by assumption) rfl ?_); (first | refine r_gd rfl rfl ?_ | refine r_gn rfl rfl rfl ?_ | refine r_gu rfl rfl ?_ | refine r_gd rfl (by assumption) ?_ | refine r_gn rfl (by assumption) rfl ?_); (first | refine r_gd rfl rfl ?_ | refine r_gn rfl rfl rfl ?_ | refine r_gu rfl rfl ?_ | refine r_gd rfl (by assumption) ?_ | refine r_gn rfl (by assumption) rfl ?_); (first | refine r_gd rfl rfl ?_ | refine r_gn rfl rfl rfl ?_ | refine r_gu rfl rfl ?_ | refine r_gd rfl (by assumption) ?_ | refine r_gn rfl (by assumption) rfl ?_); (first | refine r_v (q_pick1 rfl rfl rfl) rfl ?_ | refine r_v (q_pick0 rfl rfl rfl) rfl ?_ | refine r_v (q_pick1 rfl (by assumption) rfl) rfl ?_ | refine r_v (q_pick0 rfl (by assumption) rfl) rfl ?_ | refine r_v (q_pickB rfl rfl rfl) rfl ?_)
   refine r_nil (c_true rfl ?_)
   refine c_seq (c_region ?_)
   refine r_v (q_assignS rfl) rfl ?_; refine r_v (q_assignB rfl) rfl ?_
   exact r_nil (c_ret (bq2 (Told.no (by rw [hdef, if_pos g1]) h)))
  rw [if_neg g1] at hdef
  refine r_v (q_moveI rfl) rfl ?_
  refine r_v (q_is (v' := .bool false) (q_eql rfl rfl) (by congr 1; rw [beq_eq_false_iff_ne]; omega)) rfl ?_
  refine r_v (q_moveB rfl) rfl ?_; (first | refine r_gd rfl rfl ?_ | refine r_gn rfl rfl rfl ?_ | refine r_gu rfl rfl ?_ | refine r_gd rfl (by assumption) ?_ | refine r_gn rfl (by assumption) rfl ?_); refine r_v (q_moveI rfl) rfl ?_; (first | refine r_gd rfl rfl ?_ | refine r_gn rfl rfl rfl ?_ | refine r_gu rfl rfl ?_ | refine r_gd rfl (by assumption) ?_ | refine r_gn rfl (by assumption) rfl ?_); refine r_v (q_moveS rfl) rfl ?_; (first | refine r_gd rfl rfl ?_ | refine r_gn rfl rfl rfl ?_ | refine r_gu rfl rfl ?_ | refine r_gd rfl (by assumption) ?_ | refine r_gn rfl (by assumption) rfl ?_); refine r_v (q_len rfl) rfl ?_; (first | refine r_gd rfl rfl ?_ | refine r_gn rfl rfl rfl ?_ | refine r_gu rfl rfl ?_ | refine r_gd rfl (by assumption) ?_ | refine r_gn rfl (by assumption) rfl ?_)
  by_cases g2 : i = bs.length
  ·refine r_v (q_is (v' := .bool true) (q_eql rfl rfl) (by rw [g2]; simp)) rfl ?_
   (first | refine r_v (q_pick1 rfl rfl rfl) rfl ?_ | refine r_v (q_pick0 rfl rfl rfl) rfl ?_ | refine r_v (q_pick1 rfl (by assumption) rfl) rfl ?_ | refine r_v (q_pick0 rfl (by assumption) rfl) rfl ?_ | refine r_v (q_pickB rfl rfl rfl) rfl ?_); refine r_v (q_moveB rfl) rfl ?_; (first | refine r_gd rfl rfl ?_ | refine r_gn rfl rfl rfl ?_ | refine r_gu rfl rfl ?_ | refine r_gd rfl (by assumption) ?_ | refine r_gn rfl (by assumption) rfl ?_); (first | refine r_gd rfl rfl ?_ | refine r_gn rfl rfl rfl ?_ | refine r_gu rfl rfl ?_ | refine r_gd rfl (by assumption) ?_ | refine r_gn rfl (by assumption) rfl ?_); (first | refine r_gd rfl rfl ?_ | refine r_gn rfl rfl rfl ?_ | refine r_gu rfl rfl ?_ | refine r_gd rfl (by assumption) ?_ | refine r_gn rfl (by assumption) rfl ?_); (first | refine r_gd rfl rfl ?_ | refine r_gn rfl rfl rfl ?_ | refine r_gu rfl rfl ?_ | refine r_gd rfl (by assumption) ?_ | refine r_gn rfl (by assumption) rfl ?_); (first | refine r_gd rfl rfl ?_ | refine r_gn rfl rfl rfl ?_ | refine r_gu rfl rfl ?_ | refine r_gd rfl (by assumption) ?_ | refine r_gn rfl (by assumption) rfl ?_); (first | refine r_v (q_pick1 rfl rfl rfl) rfl ?_ | refine r_v (q_pick0 rfl rfl rfl) rfl ?_ | refine r_v (q_pick1 rfl (by assumption) rfl) rfl ?_ | refine r_v (q_pick0 rfl (by assumption) rfl) rfl ?_ | refine r_v (q_pickB rfl rfl rfl) rfl ?_)
   refine r_nil (c_true rfl ?_)
   refine c_seq (c_region ?_)
   refine r_v (q_assignS rfl) rfl ?_; refine r_v (q_assignB rfl) rfl ?_
   exact r_nil (c_ret (bq2 (Told.no (by rw [hdef, List.getElem?_eq_none (by omega)]) h)))
  have hil : i < bs.length := by omega
  have hg := List.getElem?_eq_getElem hil
  generalize bs[i] = q at hg
  rw [hg] at hdef
  dsimp only at hdef
  obtain ⟨b, o, hsl⟩ := (hr.at_ h).some (by omega)
  refine r_v (q_is (v' := .bool false) (q_eql rfl rfl) (by congr 1; rw [beq_eq_false_iff_ne]; omega)) rfl ?_
  (first | refine r_v (q_pick1 rfl rfl rfl) rfl ?_ | refine r_v (q_pick0 rfl rfl rfl) rfl ?_ | refine r_v (q_pick1 rfl (by assumption) rfl) rfl ?_ | refine r_v (q_pick0 rfl (by assumption) rfl) rfl ?_ | refine r_v (q_pickB rfl rfl rfl) rfl ?_); refine r_v (q_moveB rfl) rfl ?_; (first | refine r_gd rfl rfl ?_ | refine r_gn rfl rfl rfl ?_ | refine r_gu rfl rfl ?_ | refine r_gd rfl (by assumption) ?_ | refine r_gn rfl (by assumption) rfl ?_); refine r_v (q_moveS rfl) rfl ?_; (first | refine r_gd rfl rfl ?_ | refine r_gn rfl rfl rfl ?_ | refine r_gu rfl rfl ?_ | refine r_gd rfl (by assumption) ?_ | refine r_gn rfl (by assumption) rfl ?_); refine r_v (q_moveI rfl) rfl ?_; (first | refine r_gd rfl rfl ?_ | refine r_gn rfl rfl rfl ?_ | refine r_gu rfl rfl ?_ | refine r_gd rfl (by assumption) ?_ | refine r_gn rfl (by assumption) rfl ?_)
  refine r_v (q_idx (b := b) (o := o) (m := bs.length) (c := c) (o' := o + i) (by rw [← hsl]; rfl) rfl rfl hil (by simp)) rfl ?_
  refine r_gd rfl rfl ?_
  refine r_v (q_loadc (v := .int .u8 q.toNat) rfl ((hsl ▸ hr.at_ h).cell (bytesV_get hg))) rfl ?_
  (first | refine r_gd rfl rfl ?_ | refine r_gn rfl rfl rfl ?_ | refine r_gu rfl rfl ?_ | refine r_gd rfl (by assumption) ?_ | refine r_gn rfl (by assumption) rfl ?_); refine r_v (q_gtr rfl rfl) rfl ?_; (first | refine r_v (q_pick1 rfl rfl rfl) rfl ?_ | refine r_v (q_pick0 rfl rfl rfl) rfl ?_ | refine r_v (q_pick1 rfl (by assumption) rfl) rfl ?_ | refine r_v (q_pick0 rfl (by assumption) rfl) rfl ?_ | refine r_v (q_pickB rfl rfl rfl) rfl ?_)
  refine r_nil (c_cond (decide ((q.toNat : Int) > 64)) rfl (fun hc1 => ?_) (fun hc1 => ?_))
  ·refine c_seq (c_region ?_)
   refine r_v (q_assignS rfl) rfl ?_; refine r_v (q_assignB rfl) rfl ?_
   exact r_nil (c_ret (bq2 (Told.no (by rw [hdef, if_pos (by simp at hc1; omega)]) h)))
  ·exact c_skip ⟨q, ⟨rfl, rfl, rfl, rfl, trivial⟩, hg, by simp at hc1; omega, g1, h⟩
 clear h
 rintro q w e ⟨hg, hq64, hi0, h⟩
 have hil : i < bs.length := (List.getElem?_eq_some_iff.1 hg).1
 rw [if_neg hi0, hg] at hdef
 dsimp only at hdef
 rw [if_neg (by omega)] at hdef
 have hrt := hr.tailB (i := i + 1) hil hc
 refine c_seq (c_region ?_)
 refine r_v (q_moveS rfl) rfl ?_; refine r_v (q_moveI rfl) rfl ?_; refine r_v (q_add rfl rfl) rfl ?_
 refine r_is (.int .i64 ((i + 1 : Nat) : Int)) (by rw [wrap64 (by omega) (by omega)]; rfl) ?_
 refine r_v (q_tail (i := i + 1) rfl rfl hil) rfl ?_
 show Rn _ _ _ _ _ (upd _ _ (.slice (adv sl ((i + 1) * 1) (Nat.beq c (i + 1))) (bs.length - (i + 1)) (c - (i + 1)))) _
 rw [← List.length_drop]
 refine r_c rfl (x_call rfl (bits_NewReader h hrt.rd (by rw [List.length_drop]; omega)) ?_)
 rintro _ w ⟨p, rfl, h⟩
 refine r_v (q_assignP rfl) rfl ?_
 refine r_nil ?_
 refine c_seq (c_region ?_)
 refine r_v (q_assignS rfl) rfl ?_
 refine r_nil ?_
 refine c_seq (c_seq (c_region ?_))
 refine r_v (q_moveI rfl) rfl ?_; refine r_v (q_moveI rfl) rfl ?_
 refine r_nil ?_
 generalize (⟨bitsB (bs.drop (i + 1)), false⟩ : RS) = s0 at h hdef
 refine c_block ?_
 refine c_loop (Γ := Nat × List Nat × RS × Option Addr × Nat) (fun k => [(0, .slice sl bs.length c), (6, .int .u64 least), (7, .int .i64 i), (8, .pointer (some ⟨p, 0, none⟩)), (9, .slice k.2.2.2.1 (k.2.1.map fun x => summ least x).length k.2.2.2.2), (43, .int .i64 n), (44, .int .i64 k.1)])
  (fun k w => k.1 ≤ n ∧ k.2.1.length = k.1 ∧ getAll n q.toNat s0 = (getAll (n - k.1) q.toNat k.2.2.1).map (fun r => k.2.1 ++ r) ∧ St w0 (OwnU k.2.2.2.1 k.2.2.2.2 (k.2.1.map fun x => summ least x) :: IsBR p k.2.2.1 :: l) w)
  (fun k => n - k.1) (0, [], s0, none, 0) ⟨rfl, rfl, rfl, rfl, rfl, rfl, rfl, trivial⟩ ⟨Nat.zero_le _, rfl, (by simp), St.ownNil _ _ h⟩ ?_
 clear h
 rintro ⟨j, gots, s1, oa, oc⟩ w e ⟨hj, hgl, inv, h⟩
 dsimp only at hj hgl inv h ⊢
 refine c_seq (c_region ?_)
 refine r_v (q_lss rfl rfl) rfl ?_
 refine r_nil ?_
 refine c_seq (c_cond (decide ((j : Int) < (n : Int))) rfl (fun hc1 => ?_) (fun hc1 => ?_))
 ·
  have hlt : j < n := by simp at hc1; omega
  rw [show n - j = (n - (j + 1)) + 1 by omega, getAll] at inv
  obtain ⟨b, o, hsl⟩ := ((hr.more [_, _]).at_ h).some (by omega)
  have hml : (gots.map fun x => summ least x).length = j := by rw [List.length_map, hgl]
  refine c_skip ?_
  refine c_seq (c_block ?_)
  refine c_seq (c_region ?_)
  refine r_v (q_moveS rfl) rfl ?_; refine r_v (q_moveI rfl) rfl ?_; refine r_v (q_moveP rfl) rfl ?_; refine r_v (q_moveS rfl) rfl ?_; refine r_v (q_moveI rfl) rfl ?_
  refine r_v (q_idx (b := b) (o := o) (m := bs.length) (c := c) (o' := o + i) (by rw [← hsl]; rfl) rfl rfl hil (by simp)) rfl ?_
  refine r_v (q_loadc (v := .int .u8 q.toNat) rfl ((hsl ▸ (hr.more [_, _]).at_ h).cell (bytesV_get hg))) rfl ?_
  refine r_v (q_conv rfl) rfl ?_
  refine r_is (.int .i64 (q.toNat : Int)) (by rw [wrap64 (by omega) (by omega)]) ?_
  refine r_c rfl (x_call rfl (bits_Get q.toNat (h.f 1)) ?_)
  rw [heldN_nat hq64]
  cases hgg : s1.get q.toNat with | mk y s2 =>
  rw [hgg] at inv
  rintro _ w ⟨rfl, h⟩
  dsimp only at h inv ⊢
  refine r_v (q_add rfl rfl) rfl ?_
  refine r_is (.int .u64 (summ least y : Nat)) (by rw [wrap_summ]) ?_
  have hstep : (gots ++ [y]).map (fun x => summ least x) = gots.map (fun x => summ least x) ++ [summ least y] := by simp
  refine r_c rfl (x_bslice (r := u64V [summ least y]) h rfl rfl rfl fun b2 w h => ?_)
  refine r_c rfl (x_append' (ys := u64V [summ least y]) (zs := u64V ((gots ++ [y]).map fun x => summ least x)) (m3 := ((gots ++ [y]).map fun x => summ least x).length) (h.f 2) rfl rfl ⟨rfl, .inr ⟨b2, 0, rfl, at_of (h.b 0 rfl) rfl⟩⟩ (u64V_one _) (by rw [hstep]; simp) (by rw [hstep]; simp [u64V]) (by rw [hstep]; simp; omega) (by rw [hstep]; simp; omega) rfl fun a2 c2 w _ h => ?_)
  refine r_v (q_assignS rfl) rfl ?_
  refine r_nil ?_
  refine c_seq (c_region ?_)
  refine r_v (q_moveP rfl) rfl ?_
  refine r_c rfl (x_call rfl (bits_Ok (h.f 2)) ?_)
  rintro _ w ⟨rfl, h⟩
  refine r_v (q_not rfl) rfl ?_
  refine r_nil ?_
  cases hbd : s2.bad with
  | true =>
   refine c_true rfl ?_
   refine c_seq (c_region ?_)
   refine r_v (q_assignS rfl) rfl ?_; refine r_v (q_assignB rfl) rfl ?_
   refine r_nil ?_
   rw [hbd, if_pos rfl] at inv
   exact c_ret (bq2 (Told.no (by rw [hdef, inv]; rfl) h.drop.drop.drop))
  | false =>
   refine c_false rfl (c_skip ?_)
   rw [hbd, if_neg (by decide), Option.map_map] at inv
   refine c_region ?_
   refine r_v (q_add rfl rfl) rfl ?_
   refine r_is (.int .i64 ((j + 1 : Nat) : Int)) (by rw [wrap64 (by omega) (by omega)]; rfl) ?_
   refine r_v (q_moveI rfl) rfl ?_
   refine r_nil ⟨(j + 1, gots ++ [y], s2, a2, c2), ⟨rfl, rfl, rfl, rfl, rfl, rfl, rfl, trivial⟩, ⟨hlt, by simp; omega, ?_, ?_⟩, by dsimp only; omega⟩
   ·dsimp only
    rw [inv]
    congr 1
    funext r
    simp
   ·exact ((h.f 2).drop.f 1)
 have hjn : j = n := by simp at hc1; omega
 rw [hjn, Nat.sub_self, getAll, Option.map_some, List.append_nil] at inv
 rw [inv] at hdef
 dsimp only at hdef
 have hml : (gots.map fun x => summ least x).length = n := by rw [List.length_map, hgl, hjn]
 have hmlt : ∀ x ∈ gots.map (fun x => summ least x), x < 18446744073709551616 := fun x hx => by
  obtain ⟨y, _, rfl⟩ := List.mem_map.1 hx
  exact Nat.mod_lt _ (by decide)
 generalize gots.map (fun x => summ least x) = out at hml hmlt hdef h ⊢
 refine c_exit ?_
 refine c_seq (c_seq (c_region ?_))
 refine r_v (q_moveS rfl) rfl ?_
 refine r_c rfl (x_call rfl (forp_Encode hmlt (by omega) Reads.own h) ?_)
 rintro _ w ⟨ea, ec, rfl, h⟩
 refine r_v (q_moveS rfl) rfl ?_
 refine r_c rfl (x_call rfl (bytes_Equal (b1 := frameEnc out) (b2 := bs) h (fun w' h' => h'.own_rd) (hr.more [_, _, _]).rd) ?_)
 rintro _ w ⟨rfl, h⟩
 refine r_v (q_not rfl) rfl ?_
 refine r_nil ?_
 refine c_cond (!decide (frameEnc out = bs)) rfl (fun hc2 => ?_) (fun hc2 => ?_)
 ·
  refine c_seq (c_region ?_)
  refine r_v (q_assignS rfl) rfl ?_; refine r_v (q_assignB rfl) rfl ?_
  refine r_nil ?_
  exact c_ret (bq2 (Told.no (by rw [hdef, if_neg (by simpa using hc2)]) h.drop.drop.drop))
 refine c_skip ?_
 refine c_seq (c_region ?_)
 refine r_v (q_moveS rfl) rfl ?_; refine r_v (q_assignS rfl) rfl ?_; refine r_v (q_assignB rfl) rfl ?_
 refine r_nil ?_
 exact c_ret (bq2 ⟨oa, oc, out, true, rfl, by rw [hdef, if_pos (by simpa using hc2)]; rfl, fun _ => ⟨hml, hmlt⟩, (h.drop.f 1).drop⟩)
end
end Go.Proofs.YtjjacchnalemaaaGreatDoor

/- dict: reading by a list of values. -/
namespace Go.Hw
theorem pickRun (l : List Nat) (wide k : Nat) (s : RS) : (getAll (k + 1) wide s).bind (pickAll l) =
  if (s.get wide).2.bad = true then none else match l[(s.get wide).1]? with
   | none => none
   | some x => ((getAll k wide (s.get wide).2).bind (pickAll l)).map fun r => x :: r := by
 rw [getAll]
 split
 ·rfl
 ·cases hx : l[(s.get wide).1]? with
  | none =>
   cases getAll k wide (s.get wide).2 with
   | none => rfl
   | some r => simp [pickAll, hx]
  | some x =>
   cases getAll k wide (s.get wide).2 with
   | none => rfl
   | some r => simp [pickAll, hx]
theorem dictDec_bind (b : List UInt8) (n : Nat) : dictDec b n = if n = 0 then (if b = [] then some [] else none)
 else if (vget b).2 = 0 ∨ (vget b).1 = 0 ∨ 256 < (vget b).1 then none
 else match getVs (vget b).1 (b.drop (vget b).2) with
  | none => none
  | some (l, rest) => match (getAll n (len64 (l.length - 1)) ⟨bitsB rest, false⟩).bind (pickAll l) with
   | none => none
   | some out => if dictEnc out = some b then some out else none := by
 unfold dictDec
 split
 ·rfl
 ·split
  ·rfl
  ·cases getVs (vget b).1 (b.drop (vget b).2) with
   | none => rfl
   | some x =>
    obtain ⟨l, rest⟩ := x
    dsimp only
    cases getAll n (len64 (l.length - 1)) ⟨bitsB rest, false⟩ with
    | none => rfl
    | some a => rfl
end Go.Hw
namespace Go.Proofs.YtjjacchnalemaaaGreatDoor
open Go.Hw
set_option maxHeartbeats 4000000
set_option maxRecDepth 100000
section
variable {w0 w : World} {l : List HProp}
theorem dict_values {sl : Option Addr} {c : Nat} {bs : List UInt8} (hbn : bs.length ≤ 140737488355328) (hc : bs.length ≤ c) (hr : Reads w0 l 1 sl bs.length (bytesV bs)) (h : St w0 l w) :
  Ret Tryz.prog 127 [.slice sl bs.length c] w fun v w' =>
   ((if (vget bs).2 = 0 ∨ (vget bs).1 = 0 ∨ 256 < (vget bs).1 then none else getVs (vget bs).1 (bs.drop (vget bs).2)) = none ∧ v = .tuple [.slice none 0 0, .slice none 0 0, .bool false].toArray ∧ St w0 l w') ∨
   ∃ L rest a c1 a2 c2, (if (vget bs).2 = 0 ∨ (vget bs).1 = 0 ∨ 256 < (vget bs).1 then none else getVs (vget bs).1 (bs.drop (vget bs).2)) = some (L, rest) ∧ v = .tuple [.slice a L.length c1, .slice a2 rest.length c2, .bool true].toArray ∧ 0 < L.length ∧ L.length ≤ 256 ∧ (∀ x ∈ L, x < 18446744073709551616) ∧ rest.length ≤ bs.length ∧ Reads w0 l 1 a2 rest.length (bytesV rest) ∧ St w0 (OwnU a c1 L :: l) w' := by
 refine enter Tryz.func127 rfl Tryz.results127 Tryz.ntmps127 rfl ?_
 refine c_seq (c_region ?_)
 refine r_v (q_assignS rfl) rfl ?_; refine r_v (q_assignS rfl) rfl ?_; refine r_v (q_assignB rfl) rfl ?_
 refine r_nil ?_
 have hk := vget_le bs
 have hm := vget_lt bs
 refine c_seq (c_region ?_)
 refine r_v (q_moveS rfl) rfl ?_
 refine r_c rfl (x_call rfl (vint_Get h hr.rd hbn) ?_)
 rintro _ w ⟨rfl, h⟩
 refine r_v (q_moveT rfl) rfl ?_; refine r_v (q_ext rfl rfl) rfl ?_; refine r_v (q_ext rfl rfl) rfl ?_; refine r_v (q_assignI rfl) rfl ?_; refine r_v (q_assignI rfl) rfl ?_
 refine r_nil ?_
 generalize (vget bs).1 = many at hm ⊢
 generalize (vget bs).2 = i at hk ⊢
 refine c_cut (Γ := Unit) (fun _ => [(0, .slice sl bs.length c), (5, .int .u64 many), (6, .int .i64 i)]) (fun _ w => ¬ (i = 0 ∨ many = 0 ∨ 256 < many) ∧ St w0 l w) ?_ ?_
 ·refine c_seq (c_region ?_)
  by_cases g1 : i = 0
  ·refine r_v (q_moveI rfl) rfl ?_
   refine r_v (q_is (v' := .bool true) (q_eql rfl rfl) (by rw [g1]; rfl)) rfl ?_
   refine r_v (q_moveB rfl) rfl ?_; (first | refine r_gd rfl rfl ?_ | refine r_gn rfl rfl rfl ?_ | refine r_gu rfl rfl ?_ | refine r_gd rfl (by assumption) ?_ | refine r_gn rfl (by assumption) rfl ?_); (first | refine r_gd rfl rfl ?_ | refine r_gn rfl rfl rfl ?_ | refine r_gu rfl rfl ?_ | refine r_gd rfl (by assumption) ?_ | refine r_gn rfl (by assumption) rfl ?_); (first | refine r_v (q_pick1 rfl rfl rfl) rfl ?_ | refine r_v (q_pick0 rfl rfl rfl) rfl ?_ | refine r_v (q_pick1 rfl (by assumption) rfl) rfl ?_ | refine r_v (q_pick0 rfl (by assumption) rfl) rfl ?_ | refine r_v (q_pickB rfl rfl rfl) rfl ?_); refine r_v (q_moveB rfl) rfl ?_; (first | refine r_gd rfl rfl ?_ | refine r_gn rfl rfl rfl ?_ | refine r_gu rfl rfl ?_ | refine r_gd rfl (by assumption) ?_ | refine r_gn rfl (by assumption) rfl ?_); (first | refine r_gd rfl rfl ?_ | refine r_gn rfl rfl rfl ?_ | refine r_gu rfl rfl ?_ | refine r_gd rfl (by assumption) ?_ | refine r_gn rfl (by assumption) rfl ?_); (first | refine r_v (q_pick1 rfl rfl rfl) rfl ?_ | refine r_v (q_pick0 rfl rfl rfl) rfl ?_ | refine r_v (q_pick1 rfl (by assumption) rfl) rfl ?_ | refine r_v (q_pick0 rfl (by assumption) rfl) rfl ?_ | refine r_v (q_pickB rfl rfl rfl) rfl ?_)
   refine r_nil (c_true rfl ?_)
   refine c_seq (c_region ?_)
   refine r_v (q_assignS rfl) rfl ?_; refine r_v (q_assignS rfl) rfl ?_; refine r_v (q_assignB rfl) rfl ?_
   exact r_nil (c_ret (bq3 (.inl ⟨by rw [if_pos (.inl g1)], rfl, h⟩)))
  refine r_v (q_moveI rfl) rfl ?_
  refine r_v (q_is (v' := .bool false) (q_eql rfl rfl) (by congr 1; rw [beq_eq_false_iff_ne]; omega)) rfl ?_
  refine r_v (q_moveB rfl) rfl ?_; (first | refine r_gd rfl rfl ?_ | refine r_gn rfl rfl rfl ?_ | refine r_gu rfl rfl ?_ | refine r_gd rfl (by assumption) ?_ | refine r_gn rfl (by assumption) rfl ?_); refine r_v (q_moveI rfl) rfl ?_; (first | refine r_gd rfl rfl ?_ | refine r_gn rfl rfl rfl ?_ | refine r_gu rfl rfl ?_ | refine r_gd rfl (by assumption) ?_ | refine r_gn rfl (by assumption) rfl ?_)
  by_cases g2 : many = 0
  ·refine r_v (q_is (v' := .bool true) (q_eql rfl rfl) (by rw [g2]; rfl)) rfl ?_
   (first | refine r_v (q_pick1 rfl rfl rfl) rfl ?_ | refine r_v (q_pick0 rfl rfl rfl) rfl ?_ | refine r_v (q_pick1 rfl (by assumption) rfl) rfl ?_ | refine r_v (q_pick0 rfl (by assumption) rfl) rfl ?_ | refine r_v (q_pickB rfl rfl rfl) rfl ?_); refine r_v (q_moveB rfl) rfl ?_; (first | refine r_gd rfl rfl ?_ | refine r_gn rfl rfl rfl ?_ | refine r_gu rfl rfl ?_ | refine r_gd rfl (by assumption) ?_ | refine r_gn rfl (by assumption) rfl ?_); (first | refine r_gd rfl rfl ?_ | refine r_gn rfl rfl rfl ?_ | refine r_gu rfl rfl ?_ | refine r_gd rfl (by assumption) ?_ | refine r_gn rfl (by assumption) rfl ?_); (first | refine r_v (q_pick1 rfl rfl rfl) rfl ?_ | refine r_v (q_pick0 rfl rfl rfl) rfl ?_ | refine r_v (q_pick1 rfl (by assumption) rfl) rfl ?_ | refine r_v (q_pick0 rfl (by assumption) rfl) rfl ?_ | refine r_v (q_pickB rfl rfl rfl) rfl ?_)
   refine r_nil (c_true rfl ?_)
   refine c_seq (c_region ?_)
   refine r_v (q_assignS rfl) rfl ?_; refine r_v (q_assignS rfl) rfl ?_; refine r_v (q_assignB rfl) rfl ?_
   exact r_nil (c_ret (bq3 (.inl ⟨by rw [if_pos (.inr (.inl g2))], rfl, h⟩)))
  refine r_v (q_is (v' := .bool false) (q_eql rfl rfl) (by congr 1; rw [beq_eq_false_iff_ne]; omega)) rfl ?_
  (first | refine r_v (q_pick1 rfl rfl rfl) rfl ?_ | refine r_v (q_pick0 rfl rfl rfl) rfl ?_ | refine r_v (q_pick1 rfl (by assumption) rfl) rfl ?_ | refine r_v (q_pick0 rfl (by assumption) rfl) rfl ?_ | refine r_v (q_pickB rfl rfl rfl) rfl ?_); refine r_v (q_moveB rfl) rfl ?_; (first | refine r_gd rfl rfl ?_ | refine r_gn rfl rfl rfl ?_ | refine r_gu rfl rfl ?_ | refine r_gd rfl (by assumption) ?_ | refine r_gn rfl (by assumption) rfl ?_); refine r_v (q_moveI rfl) rfl ?_; (first | refine r_gd rfl rfl ?_ | refine r_gn rfl rfl rfl ?_ | refine r_gu rfl rfl ?_ | refine r_gd rfl (by assumption) ?_ | refine r_gn rfl (by assumption) rfl ?_); refine r_v (q_gtr rfl rfl) rfl ?_; (first | refine r_v (q_pick1 rfl rfl rfl) rfl ?_ | refine r_v (q_pick0 rfl rfl rfl) rfl ?_ | refine r_v (q_pick1 rfl (by assumption) rfl) rfl ?_ | refine r_v (q_pick0 rfl (by assumption) rfl) rfl ?_ | refine r_v (q_pickB rfl rfl rfl) rfl ?_)
  refine r_nil (c_cond (decide ((many : Int) > 256)) rfl (fun hc1 => ?_) (fun hc1 => ?_))
  ·refine c_seq (c_region ?_)
   refine r_v (q_assignS rfl) rfl ?_; refine r_v (q_assignS rfl) rfl ?_; refine r_v (q_assignB rfl) rfl ?_
   exact r_nil (c_ret (bq3 (.inl ⟨by rw [if_pos (.inr (.inr (by simp at hc1; omega)))], rfl, h⟩)))
  ·exact c_skip ⟨(), ⟨rfl, rfl, rfl, trivial⟩, by simp at hc1; omega, h⟩
 clear h
 rintro _ w e ⟨hcond, h⟩
 rw [if_neg hcond]
 have hrt := hr.tailB hk hc
 refine c_seq (c_region ?_)
 refine r_v (q_moveS rfl) rfl ?_; refine r_v (q_moveI rfl) rfl ?_
 refine r_v (q_tail (i := i) rfl rfl hk) rfl ?_
 show Rn _ _ _ _ _ (upd _ _ (.slice (adv sl (i * 1) (Nat.beq c i)) (bs.length - i) (c - i))) _
 rw [← List.length_drop]
 refine r_v (q_assignS rfl) rfl ?_
 refine r_nil ?_
 refine c_seq (c_region ?_)
 refine r_v (q_assignS rfl) rfl ?_
 refine r_nil ?_
 refine c_seq (c_seq (c_region ?_))
 refine r_v (q_moveI rfl) rfl ?_; refine r_v (q_moveI rfl) rfl ?_
 refine r_nil ?_
 generalize hG : getVs many (bs.drop i) = G
 refine c_block ?_
 refine c_loop (Γ := Nat × List UInt8 × Option Addr × Nat × List Nat × Option Addr × Nat) (fun k => [(0, .slice k.2.2.1 k.2.1.length k.2.2.2.1), (7, .slice k.2.2.2.2.2.1 k.2.2.2.2.1.length k.2.2.2.2.2.2), (28, .int .u64 many), (29, .int .u64 k.1)])
  (fun k w => k.1 ≤ many ∧ k.2.2.2.2.1.length = k.1 ∧ k.2.1.length ≤ bs.length ∧ k.2.1.length ≤ k.2.2.2.1 ∧ (∀ x ∈ k.2.2.2.2.1, x < 18446744073709551616) ∧ G = (getVs (many - k.1) k.2.1).map (fun r => (k.2.2.2.2.1 ++ r.1, r.2)) ∧ Reads w0 l 1 k.2.2.1 k.2.1.length (bytesV k.2.1) ∧ St w0 (OwnU k.2.2.2.2.2.1 k.2.2.2.2.2.2 k.2.2.2.2.1 :: l) w)
  (fun k => many - k.1) (0, bs.drop i, adv sl (i * 1) (Nat.beq c i), c - i, [], none, 0) ⟨rfl, rfl, rfl, rfl, trivial⟩ ⟨Nat.zero_le _, rfl, (by dsimp only; rw [List.length_drop]; omega), (by dsimp only; rw [List.length_drop]; omega), (fun _ h => by cases h), (by rw [← hG]; simp), hrt, St.ownNil _ _ h⟩ ?_
 clear h hrt hr hc
 rintro ⟨j, b, ba, bc, L, oa, oc⟩ w e ⟨hj, hLl, hbl, hc, hL, inv, hr, h⟩
 dsimp only at hj hLl hbl hc hL inv hr h ⊢
 refine c_seq (c_region ?_)
 refine r_v (q_lss rfl rfl) rfl ?_
 refine r_nil ?_
 refine c_seq (c_cond (decide ((j : Int) < (many : Int))) rfl (fun hc1 => ?_) (fun hc1 => ?_))
 ·
  have hlt : j < many := by simp at hc1; omega
  rw [show many - j = (many - (j + 1)) + 1 by omega, getVs] at inv
  have hk2 := vget_le b
  have hx := vget_lt b
  refine c_skip ?_
  refine c_seq (c_block ?_)
  refine c_seq (c_region ?_)
  refine r_v (q_moveS rfl) rfl ?_
  refine r_c rfl (x_call rfl (vint_Get h hr.cons.rd (by omega)) ?_)
  rintro _ w ⟨rfl, h⟩
  refine r_v (q_moveT rfl) rfl ?_; refine r_v (q_ext rfl rfl) rfl ?_; refine r_v (q_ext rfl rfl) rfl ?_; refine r_v (q_assignI rfl) rfl ?_; refine r_v (q_assignI rfl) rfl ?_
  refine r_nil ?_
  generalize (vget b).1 = x at hx inv ⊢
  generalize (vget b).2 = k at hk2 inv ⊢
  refine c_seq (c_seq (c_region ?_))
  refine r_v (q_moveI rfl) rfl ?_; refine r_v (q_eql rfl rfl) rfl ?_
  by_cases hk0 : k = 0
  ·refine r_is (.bool true) (by rw [hk0]; rfl) ?_
   refine r_nil (c_true rfl ?_)
   refine c_seq (c_region ?_)
   refine r_v (q_assignS rfl) rfl ?_; refine r_v (q_assignS rfl) rfl ?_; refine r_v (q_assignB rfl) rfl ?_
   refine r_nil ?_
   rw [if_pos hk0] at inv
   exact c_ret (bq3 (.inl ⟨inv, rfl, h.drop⟩))
  refine r_is (.bool false) (by congr 1; rw [beq_eq_false_iff_ne]; omega) ?_
  refine r_nil (c_false rfl (c_skip ?_))
  rw [if_neg hk0, Option.map_map] at inv
  have hrt := hr.tailB hk2 hc
  refine c_anyW [0, 1, 2, 3, 4, 5, 6, 7, 8] none (fun w => ∃ L, St w0 (L ++ l) w) (by kernel_rfl) (by kernel_rfl) ?_
  replace h := h.drew
  generalize w.drew = w at h
  have hs := h
  replace h : ∃ L, St w0 (L ++ l) w := ⟨[_], hs⟩
  refine cur_pure rfl rfl rfl rfl (fun _ => h) (fun _ => flt_v rfl (q_moveS rfl)) ?_; refine cur_pure rfl rfl rfl rfl (fun _ => h) (fun _ => flt_v rfl (q_moveI rfl)) ?_; refine cur_skip ?_; refine cur_skip ?_; refine cur_pure rfl rfl rfl rfl (fun _ => h) (fun _ => flt_v rfl (q_moveS rfl)) ?_; refine cur_pure rfl rfl rfl rfl (fun _ => h) (fun _ => flt_v rfl (q_moveI rfl)) ?_
  refine cur_pure rfl rfl rfl rfl (fun _ => h) (fun _ => flt_v rfl (q_is (v' := .slice (adv ba (k * 1) (Nat.beq bc k)) (b.drop k).length (bc - k)) (q_tail (i := k) rfl rfl hk2) (by rw [List.length_drop]; rfl))) ?_
  refine cur_skip ?_; refine cur_skip ?_
  refine cur_one 2 rfl rfl rfl rfl ?_
  refine (x_bslice (r := u64V [x]) hs rfl rfl rfl fun b2 w hs => ?_)
  replace h : ∃ L, St w0 (L ++ l) w := ⟨[_, _], hs⟩
  refine ⟨fun _ => h, ?_⟩
  refine cur_skip ?_; refine cur_skip ?_; refine cur_skip ?_
  refine cur_one 3 rfl rfl rfl rfl ?_
  refine (x_append' (ys := u64V [x]) (zs := u64V (L ++ [x])) (m3 := (L ++ [x]).length) (hs.f 1) rfl rfl ⟨rfl, .inr ⟨b2, 0, rfl, at_of (hs.b 0 rfl) rfl⟩⟩ (u64V_one _) (by simp) (by simp [u64V]) (by simp; omega) (by simp; omega) rfl fun a2 c2 w _ hs => ?_)
  replace h : ∃ L, St w0 (L ++ l) w := ⟨[_, _], hs⟩
  refine ⟨fun _ => h, ?_⟩
  refine cur_pure rfl rfl rfl rfl (fun _ => h) (fun _ => flt_v rfl (q_assignS rfl)) ?_; refine cur_pure rfl rfl rfl rfl (fun _ => h) (fun _ => flt_v rfl (q_assignS rfl)) ?_
  refine cur_end ?_
  replace hs := (hs.f 1).drop
  refine c_region ?_
  refine r_v (q_add rfl rfl) rfl ?_
  refine r_is (.int .u64 ((j + 1 : Nat) : Int)) (congrArg (Value.int .u64) (conv_nat (x := j + 1) (by omega))) ?_
  refine r_v (q_moveI rfl) rfl ?_
  refine r_nil ⟨(j + 1, b.drop k, adv ba (k * 1) (Nat.beq bc k), bc - k, L ++ [x], a2, c2), ⟨rfl, rfl, rfl, rfl, trivial⟩, ⟨hlt, by simp; omega, by dsimp only; rw [List.length_drop]; omega, by dsimp only; rw [List.length_drop]; omega, fun z hz => ?_, ?_, hrt, hs⟩, by dsimp only; omega⟩
  ·rcases List.mem_append.1 hz with hz | hz
   ·exact hL z hz
   ·simp at hz; subst hz; exact hx
  ·dsimp only
   rw [inv]
   congr 1
   funext r
   simp
 have hjm : j = many := by simp at hc1; omega
 rw [hjm, Nat.sub_self, getVs, Option.map_some, List.append_nil] at inv
 refine c_exit ?_
 refine c_seq (c_region ?_)
 refine r_v (q_moveS rfl) rfl ?_; refine r_v (q_moveS rfl) rfl ?_; refine r_v (q_assignS rfl) rfl ?_; refine r_v (q_assignS rfl) rfl ?_; refine r_v (q_assignB rfl) rfl ?_
 refine r_nil ?_
 exact c_ret (bq3 (.inr ⟨L, b, oa, oc, ba, bc, inv, rfl, by omega, by omega, hL, hbl, hr, h⟩))

theorem dict_Decode {sl : Option Addr} {c : Nat} {bs : List UInt8} {n : Nat} (hn : n ≤ 65535) (hbn : bs.length ≤ 140737488355328) (hc : bs.length ≤ c) (hr : Reads w0 l 1 sl bs.length (bytesV bs)) (h : St w0 l w) :
  Ret Tryz.prog 90 [.slice sl bs.length c, .int .i64 (n : Int)] w fun v w' => Told w0 l n (dictDec bs n) v w' := by
 have hdef := dictDec_bind bs n
 refine enter Tryz.func90 rfl Tryz.results90 Tryz.ntmps90 rfl ?_
 refine c_seq (c_region ?_)
 refine r_v (q_assignS rfl) rfl ?_; refine r_v (q_assignB rfl) rfl ?_
 refine r_nil ?_
 refine c_seq (c_region ?_)
 refine r_v (q_moveI rfl) rfl ?_; refine r_v (q_max rfl rfl) rfl ?_; refine r_v (q_min rfl rfl) rfl ?_
 refine r_is (.int .i64 (n : Int)) (by congr 1; omega) ?_
 refine r_v (q_assignI rfl) rfl ?_
 refine r_nil ?_
 refine c_seq (c_seq (c_region ?_))
 refine r_v (q_moveI rfl) rfl ?_; refine r_v (q_eql rfl rfl) rfl ?_
 by_cases hn0 : n = 0
 ·refine r_is (.bool true) (by rw [hn0]; rfl) ?_
  refine r_nil (c_true rfl ?_)
  refine c_seq (c_region ?_)
  refine r_v (q_moveS rfl) rfl ?_; refine r_v (q_len rfl) rfl ?_; refine r_v (q_eql rfl rfl) rfl ?_
  refine r_is (.bool (decide (bs = []))) (by congr 1; rw [Bool.eq_iff_iff]; simp) ?_
  refine r_v (q_assignS rfl) rfl ?_; refine r_v (q_assignB rfl) rfl ?_
  refine r_nil ?_
  rw [if_pos hn0] at hdef
  refine c_ret (bq2 ⟨none, 0, [], decide (bs = []), rfl, ?_, fun _ => ⟨hn0.symm, (fun _ h => by cases h)⟩, St.ownNil _ _ h⟩)
  rw [hdef]
  by_cases hb : bs = []
  ·rw [if_pos hb, decide_eq_true hb, if_pos rfl]
  ·rw [if_neg hb, decide_eq_false hb, if_neg (by decide)]
 refine r_is (.bool false) (by congr 1; rw [beq_eq_false_iff_ne]; omega) ?_
 refine r_nil (c_false rfl (c_skip ?_))
 rw [if_neg hn0] at hdef
 refine c_seq (c_region ?_)
 refine r_v (q_moveS rfl) rfl ?_
 refine r_c rfl (x_call rfl (dict_values hbn hc hr h) ?_)
 clear h
 rintro _ w (⟨hv, rfl, h⟩ | ⟨L, rest, la, lc, ra, rc, hv, rfl, hL0, hL256, hLlt, hrl, hrr, h⟩)
 ·refine r_v (q_moveT rfl) rfl ?_; refine r_v (q_ext rfl rfl) rfl ?_; refine r_v (q_ext rfl rfl) rfl ?_; refine r_v (q_ext rfl rfl) rfl ?_; refine r_v (q_assignS rfl) rfl ?_; refine r_v (q_assignS rfl) rfl ?_; refine r_v (q_assignB rfl) rfl ?_
  refine r_nil ?_
  refine c_seq (c_seq (c_region ?_))
  refine r_v (q_moveB rfl) rfl ?_; refine r_v (q_not rfl) rfl ?_
  refine r_nil (c_true rfl ?_)
  refine c_seq (c_region ?_)
  refine r_v (q_assignS rfl) rfl ?_; refine r_v (q_assignB rfl) rfl ?_
  refine r_nil ?_
  refine c_ret (bq2 (Told.no ?_ h))
  rw [hdef]
  split at hv
  ·rename_i hh; rw [if_pos hh]
  ·rename_i hh; rw [if_neg hh, hv]
 have hdef : dictDec bs n = match (getAll n (len64 (L.length - 1)) ⟨bitsB rest, false⟩).bind (pickAll L) with
   | none => none
   | some out => if dictEnc out = some bs then some out else none := by
  rw [hdef]
  split at hv
  ·cases hv
  ·rename_i hh; rw [if_neg hh, hv]
 refine r_v (q_moveT rfl) rfl ?_; refine r_v (q_ext rfl rfl) rfl ?_; refine r_v (q_ext rfl rfl) rfl ?_; refine r_v (q_ext rfl rfl) rfl ?_; refine r_v (q_assignS rfl) rfl ?_; refine r_v (q_assignS rfl) rfl ?_; refine r_v (q_assignB rfl) rfl ?_
 refine r_nil ?_
 refine c_seq (c_seq (c_region ?_))
 refine r_v (q_moveB rfl) rfl ?_; refine r_v (q_not rfl) rfl ?_
 refine r_nil (c_false rfl (c_skip ?_))
 refine c_seq (c_region ?_)
 refine r_v (q_moveS rfl) rfl ?_
 refine r_c rfl (x_call rfl (bits_NewReader h hrr.cons.rd (by omega)) ?_)
 rintro _ w ⟨p, rfl, h⟩
 refine r_v (q_assignP rfl) rfl ?_
 refine r_nil ?_
 refine c_seq (c_region ?_)
 refine r_v (q_assignS rfl) rfl ?_
 refine r_nil ?_
 refine c_seq (c_seq (c_region ?_))
 refine r_v (q_moveI rfl) rfl ?_; refine r_v (q_moveI rfl) rfl ?_
 refine r_nil ?_
 have hwide : len64 (L.length - 1) ≤ 64 := len64_64 (by omega)
 generalize hwd : len64 (L.length - 1) = wide at hwide hdef
 generalize (⟨bitsB rest, false⟩ : RS) = s0 at h hdef
 refine c_block ?_
 refine c_loop (Γ := Nat × List Nat × RS × Option Addr × Nat) (fun k => [(0, .slice sl bs.length c), (6, .slice la L.length lc), (9, .pointer (some ⟨p, 0, none⟩)), (10, .slice k.2.2.2.1 k.2.1.length k.2.2.2.2), (32, .int .i64 n), (33, .int .i64 k.1)])
  (fun k w => k.1 ≤ n ∧ k.2.1.length = k.1 ∧ (∀ x ∈ k.2.1, x < 18446744073709551616) ∧ (getAll n wide s0).bind (pickAll L) = ((getAll (n - k.1) wide k.2.2.1).bind (pickAll L)).map (fun r => k.2.1 ++ r) ∧ St w0 (OwnU k.2.2.2.1 k.2.2.2.2 k.2.1 :: IsBR p k.2.2.1 :: OwnU la lc L :: l) w)
  (fun k => n - k.1) (0, [], s0, none, 0) ⟨rfl, rfl, rfl, rfl, rfl, rfl, trivial⟩ ⟨Nat.zero_le _, rfl, (fun _ h => by cases h), (by simp), St.ownNil _ _ h⟩ ?_
 clear h
 rintro ⟨j, out, s1, oa, oc⟩ w e ⟨hj, hol, hout, inv, h⟩
 dsimp only at hj hol hout inv h ⊢
 refine c_seq (c_region ?_)
 refine r_v (q_lss rfl rfl) rfl ?_
 refine r_nil ?_
 refine c_seq (c_cond (decide ((j : Int) < (n : Int))) rfl (fun hc1 => ?_) (fun hc1 => ?_))
 ·
  have hlt : j < n := by simp at hc1; omega
  rw [show n - j = (n - (j + 1)) + 1 by omega, pickRun] at inv
  refine c_skip ?_
  refine c_seq (c_block ?_)
  refine c_seq (c_region ?_)
  refine r_v (q_moveP rfl) rfl ?_; refine r_v (q_moveS rfl) rfl ?_; refine r_v (q_len rfl) rfl ?_; refine r_v (q_sub rfl rfl) rfl ?_
  refine r_is (.int .i64 ((L.length - 1 : Nat) : Int)) (by rw [wrap64 (by omega) (by omega)]; congr 1; omega) ?_
  refine r_v (q_conv rfl) rfl ?_
  refine r_is (.int .u64 ((L.length - 1 : Nat) : Int)) (congrArg (Value.int .u64) (conv_nat (by omega))) ?_
  refine r_c rfl (x_call rfl (mb_Len (by omega) h) ?_)
  rintro _ w ⟨rfl, h⟩
  rw [hwd]
  refine r_c rfl (x_call rfl (bits_Get wide (h.f 1)) ?_)
  rw [heldN_nat hwide]
  have hylt := RS.get_lt s1 wide
  have hp64 : 2 ^ wide ≤ 18446744073709551616 := Nat.pow_le_pow_right (by decide) hwide
  cases hgg : s1.get wide with | mk y s2 =>
  rw [hgg] at inv hylt
  rintro _ w ⟨rfl, h⟩
  dsimp only at h inv hylt ⊢
  refine r_v (q_assignI rfl) rfl ?_
  refine r_nil ?_
  refine c_cut (Γ := Unit) (fun _ => [(0, .slice sl bs.length c), (6, .slice la L.length lc), (9, .pointer (some ⟨p, 0, none⟩)), (10, .slice oa out.length oc), (11, .int .u64 y), (32, .int .i64 n), (33, .int .i64 j)])
   (fun _ w => s2.bad = false ∧ y < L.length ∧ St w0 (IsBR p s2 :: OwnU oa oc out :: OwnU la lc L :: l) w) ?_ ?_
  ·refine c_seq (c_region ?_)
   refine r_v (q_moveP rfl) rfl ?_
   refine r_c rfl (x_call rfl (bits_Ok h) ?_)
   rintro _ w ⟨rfl, h⟩
   cases hbd : s2.bad with
   | true =>
    refine r_v (q_not rfl) rfl ?_; refine r_v (q_moveB rfl) rfl ?_; (first | refine r_gd rfl rfl ?_ | refine r_gn rfl rfl rfl ?_ | refine r_gu rfl rfl ?_ | refine r_gd rfl (by assumption) ?_ | refine r_gn rfl (by assumption) rfl ?_); (first | refine r_gd rfl rfl ?_ | refine r_gn rfl rfl rfl ?_ | refine r_gu rfl rfl ?_ | refine r_gd rfl (by assumption) ?_ | refine r_gn rfl (by assumption) rfl ?_); (first | refine r_gd rfl rfl ?_ | refine r_gn rfl rfl rfl ?_ | refine r_gu rfl rfl ?_ | refine r_gd rfl (by assumption) ?_ | refine r_gn rfl (by assumption) rfl ?_); (first | refine r_gd rfl rfl ?_ | refine r_gn rfl rfl rfl ?_ | refine r_gu rfl rfl ?_ | refine r_gd rfl (by assumption) ?_ | refine r_gn rfl (by assumption) rfl ?_); (first | refine r_gd rfl rfl ?_ | refine r_gn rfl rfl rfl ?_ | refine r_gu rfl rfl ?_ | refine r_gd rfl (by assumption) ?_ | refine r_gn rfl (by assumption) rfl ?_); (first | refine r_v (q_pick1 rfl rfl rfl) rfl ?_ | refine r_v (q_pick0 rfl rfl rfl) rfl ?_ | refine r_v (q_pick1 rfl (by assumption) rfl) rfl ?_ | refine r_v (q_pick0 rfl (by assumption) rfl) rfl ?_ | refine r_v (q_pickB rfl rfl rfl) rfl ?_)
    refine r_nil (c_true rfl ?_)
    refine c_seq (c_region ?_)
    refine r_v (q_assignS rfl) rfl ?_; refine r_v (q_assignB rfl) rfl ?_
    refine r_nil ?_
    rw [hbd, if_pos rfl] at inv
    exact c_ret (bq2 (Told.no (by rw [hdef, inv]; rfl) h.drop.drop.drop))
   | false =>
    rw [hbd, if_neg (by decide)] at inv
    refine r_v (q_not rfl) rfl ?_; refine r_v (q_moveB rfl) rfl ?_; (first | refine r_gd rfl rfl ?_ | refine r_gn rfl rfl rfl ?_ | refine r_gu rfl rfl ?_ | refine r_gd rfl (by assumption) ?_ | refine r_gn rfl (by assumption) rfl ?_); refine r_v (q_moveI rfl) rfl ?_; (first | refine r_gd rfl rfl ?_ | refine r_gn rfl rfl rfl ?_ | refine r_gu rfl rfl ?_ | refine r_gd rfl (by assumption) ?_ | refine r_gn rfl (by assumption) rfl ?_); refine r_v (q_moveS rfl) rfl ?_; (first | refine r_gd rfl rfl ?_ | refine r_gn rfl rfl rfl ?_ | refine r_gu rfl rfl ?_ | refine r_gd rfl (by assumption) ?_ | refine r_gn rfl (by assumption) rfl ?_); refine r_v (q_len rfl) rfl ?_; (first | refine r_gd rfl rfl ?_ | refine r_gn rfl rfl rfl ?_ | refine r_gu rfl rfl ?_ | refine r_gd rfl (by assumption) ?_ | refine r_gn rfl (by assumption) rfl ?_)
    refine r_v (q_is (v' := .int .u64 ((L.length : Nat) : Int)) (q_conv rfl) (congrArg (Value.int .u64) (conv_nat (by omega)))) rfl ?_
    (first | refine r_gd rfl rfl ?_ | refine r_gn rfl rfl rfl ?_ | refine r_gu rfl rfl ?_ | refine r_gd rfl (by assumption) ?_ | refine r_gn rfl (by assumption) rfl ?_); refine r_v (q_geq rfl rfl) rfl ?_; (first | refine r_v (q_pick1 rfl rfl rfl) rfl ?_ | refine r_v (q_pick0 rfl rfl rfl) rfl ?_ | refine r_v (q_pick1 rfl (by assumption) rfl) rfl ?_ | refine r_v (q_pick0 rfl (by assumption) rfl) rfl ?_ | refine r_v (q_pickB rfl rfl rfl) rfl ?_)
    refine r_nil (c_cond (decide ((y : Int) ≥ (L.length : Int))) rfl (fun hc2 => ?_) (fun hc2 => ?_))
    ·refine c_seq (c_region ?_)
     refine r_v (q_assignS rfl) rfl ?_; refine r_v (q_assignB rfl) rfl ?_
     refine r_nil ?_
     rw [List.getElem?_eq_none (by rw [decide_eq_true_eq] at hc2; omega)] at inv
     exact c_ret (bq2 (Told.no (by rw [hdef, inv]; rfl) h.drop.drop.drop))
    ·exact c_skip ⟨(), ⟨rfl, rfl, rfl, rfl, rfl, rfl, rfl, trivial⟩, rfl, by rw [decide_eq_false_iff_not] at hc2; omega, h⟩
  clear h
  rintro _ w e ⟨hbd, hyL, h⟩
  have hg := List.getElem?_eq_getElem hyL
  generalize L[y] = x at hg
  have hx := hLlt x (List.mem_of_getElem? hg)
  rw [hbd, if_neg (by decide), hg] at inv
  dsimp only at inv
  rw [Option.map_map] at inv
  obtain ⟨lb, hlsl⟩ := (h.f 2).own_some hL0
  refine c_region ?_
  refine r_v (q_moveS rfl) rfl ?_; refine r_v (q_moveS rfl) rfl ?_; refine r_v (q_moveI rfl) rfl ?_
  refine r_v (q_idx (b := lb) (o := 0) (m := L.length) (c := lc) (o' := y) (by rw [← hlsl]; rfl) rfl rfl hyL (by simp)) rfl ?_
  refine r_v (q_loadc (v := .int .u64 x) rfl (by have := (hlsl ▸ (h.f 2).own_rd).cell (u64V_get hg); simpa using this)) rfl ?_
  refine r_c rfl (x_bslice (r := u64V [x]) h rfl rfl rfl fun b2 w h => ?_)
  refine r_c rfl (x_append' (ys := u64V [x]) (zs := u64V (out ++ [x])) (m3 := (out ++ [x]).length) (h.f 2) rfl rfl ⟨rfl, .inr ⟨b2, 0, rfl, at_of (h.b 0 rfl) rfl⟩⟩ (u64V_one _) (by simp) (by simp [u64V]) (by simp; omega) (by simp; omega) rfl fun a2 c2 w _ h => ?_)
  refine r_v (q_assignS rfl) rfl ?_
  refine r_nil ?_
  refine c_region ?_
  refine r_v (q_add rfl rfl) rfl ?_
  refine r_is (.int .i64 ((j + 1 : Nat) : Int)) (by rw [wrap64 (by omega) (by omega)]; rfl) ?_
  refine r_v (q_moveI rfl) rfl ?_
  refine r_nil ⟨(j + 1, out ++ [x], s2, a2, c2), ⟨rfl, rfl, rfl, rfl, rfl, rfl, trivial⟩, ⟨hlt, by simp; omega, fun z hz => ?_, ?_, ?_⟩, by dsimp only; omega⟩
  ·rcases List.mem_append.1 hz with hz | hz
   ·exact hout z hz
   ·simp at hz; subst hz; exact hx
  ·dsimp only
   rw [inv]
   congr 1
   funext r
   simp
  ·exact (h.f 1).drop
 have hjn : j = n := by simp at hc1; omega
 rw [hjn, Nat.sub_self, getAll, Option.bind_some, pickAll, Option.map_some, List.append_nil] at inv
 rw [inv] at hdef
 dsimp only at hdef
 refine c_exit ?_
 refine c_seq (c_region ?_)
 refine r_v (q_moveS rfl) rfl ?_
 refine r_c rfl (x_call rfl (dict_Encode hout (by omega) Reads.own h) ?_)
 rintro _ w ⟨ea, ec, rfl, h⟩
 refine r_v (q_moveT rfl) rfl ?_; refine r_v (q_ext rfl rfl) rfl ?_; refine r_v (q_ext rfl rfl) rfl ?_; refine r_v (q_assignS rfl) rfl ?_; refine r_v (q_assignB rfl) rfl ?_
 refine r_nil ?_
 refine c_cut (Γ := Unit) (fun _ => [(10, .slice oa out.length oc)]) (fun _ w => dictEnc out = some bs ∧ St w0 (OwnU oa oc out :: l) w) ?_ ?_
 ·refine c_seq (c_region ?_)
  cases hE : dictEnc out with
  | none =>
   refine r_v (q_moveB rfl) rfl ?_; refine r_v (q_not rfl) rfl ?_; refine r_v (q_moveB rfl) rfl ?_; (first | refine r_gd rfl rfl ?_ | refine r_gn rfl rfl rfl ?_ | refine r_gu rfl rfl ?_ | refine r_gd rfl (by assumption) ?_ | refine r_gn rfl (by assumption) rfl ?_); (first | refine r_gd rfl rfl ?_ | refine r_gn rfl rfl rfl ?_ | refine r_gu rfl rfl ?_ | refine r_gd rfl (by assumption) ?_ | refine r_gn rfl (by assumption) rfl ?_); (first | refine r_gd rfl rfl ?_ | refine r_gn rfl rfl rfl ?_ | refine r_gu rfl rfl ?_ | refine r_gd rfl (by assumption) ?_ | refine r_gn rfl (by assumption) rfl ?_); (first | refine r_gd rfl rfl ?_ | refine r_gn rfl rfl rfl ?_ | refine r_gu rfl rfl ?_ | refine r_gd rfl (by assumption) ?_ | refine r_gn rfl (by assumption) rfl ?_); (first | refine r_v (q_pick1 rfl rfl rfl) rfl ?_ | refine r_v (q_pick0 rfl rfl rfl) rfl ?_ | refine r_v (q_pick1 rfl (by assumption) rfl) rfl ?_ | refine r_v (q_pick0 rfl (by assumption) rfl) rfl ?_ | refine r_v (q_pickB rfl rfl rfl) rfl ?_)
   refine r_nil (c_true rfl ?_)
   refine c_seq (c_region ?_)
   refine r_v (q_assignS rfl) rfl ?_; refine r_v (q_assignB rfl) rfl ?_
   refine r_nil ?_
   exact c_ret (bq2 (Told.no (by rw [hdef, if_neg]; rw [hE]; simp) h.drop.drop.drop.drop))
  | some d =>
   rw [hE] at h
   refine r_v (q_moveB rfl) rfl ?_; refine r_v (q_not rfl) rfl ?_; refine r_v (q_moveB rfl) rfl ?_; (first | refine r_gd rfl rfl ?_ | refine r_gn rfl rfl rfl ?_ | refine r_gu rfl rfl ?_ | refine r_gd rfl (by assumption) ?_ | refine r_gn rfl (by assumption) rfl ?_); refine r_v (q_moveS rfl) rfl ?_; (first | refine r_gd rfl rfl ?_ | refine r_gn rfl rfl rfl ?_ | refine r_gu rfl rfl ?_ | refine r_gd rfl (by assumption) ?_ | refine r_gn rfl (by assumption) rfl ?_); refine r_v (q_moveS rfl) rfl ?_; (first | refine r_gd rfl rfl ?_ | refine r_gn rfl rfl rfl ?_ | refine r_gu rfl rfl ?_ | refine r_gd rfl (by assumption) ?_ | refine r_gn rfl (by assumption) rfl ?_)
   refine r_c rfl (x_call rfl (bytes_Equal (b1 := d) (b2 := bs) h (fun w' h' => h'.own_rd) (hr.more [_, _, _, _]).rd) ?_)
   rintro _ w ⟨rfl, h⟩
   (first | refine r_gd rfl rfl ?_ | refine r_gn rfl rfl rfl ?_ | refine r_gu rfl rfl ?_ | refine r_gd rfl (by assumption) ?_ | refine r_gn rfl (by assumption) rfl ?_); refine r_v (q_not rfl) rfl ?_; (first | refine r_v (q_pick1 rfl rfl rfl) rfl ?_ | refine r_v (q_pick0 rfl rfl rfl) rfl ?_ | refine r_v (q_pick1 rfl (by assumption) rfl) rfl ?_ | refine r_v (q_pick0 rfl (by assumption) rfl) rfl ?_ | refine r_v (q_pickB rfl rfl rfl) rfl ?_)
   refine r_nil (c_cond (!decide (d = bs)) rfl (fun hc2 => ?_) (fun hc2 => ?_))
   ·refine c_seq (c_region ?_)
    refine r_v (q_assignS rfl) rfl ?_; refine r_v (q_assignB rfl) rfl ?_
    refine r_nil ?_
    exact c_ret (bq2 (Told.no (by rw [hdef, if_neg]; rw [hE]; simpa using hc2) h.drop.drop.drop.drop))
   ·exact c_skip ⟨(), ⟨rfl, trivial⟩, by simpa using hc2, ((h.drop.f 1).drop.f 1).drop⟩
 clear h
 rintro _ w e ⟨hE, h⟩
 refine c_seq (c_region ?_)
 refine r_v (q_moveS rfl) rfl ?_; refine r_v (q_assignS rfl) rfl ?_; refine r_v (q_assignB rfl) rfl ?_
 refine r_nil ?_
 exact c_ret (bq2 ⟨oa, oc, out, true, rfl, by rw [hdef, if_pos hE]; rfl, fun _ => ⟨by omega, hout⟩, h⟩)
end
end Go.Proofs.YtjjacchnalemaaaGreatDoor

/- suit.read: one value. -/
namespace Go.Proofs.YtjjacchnalemaaaGreatDoor
open Go.Hw
set_option maxHeartbeats 4000000
set_option maxRecDepth 100000
theorem read_6 : ReadOk 6 := by
 intro w0 w l sl c bs n hT hr hn hc hn16 h
 have hx := vget_lt bs
 have hdef : valuesDec 6 bs n = some (List.replicate n (vget bs).1) := rfl
 refine enter Tryz.func46 rfl Tryz.results46 Tryz.ntmps46 rfl ?_
 refine c_seq (c_region ?_)
 refine r_v (q_assignS rfl) rfl ?_; refine r_v (q_assignB rfl) rfl ?_
 refine r_nil ?_
 refine c_seq (c_seq (c_region ?_))
 refine r_v (q_moveI rfl) rfl ?_
 refine r_nil ?_
 refine c_block ?_
 refine c_seq (c_region ?_)
 refine r_v (q_eql rfl rfl) rfl ?_; refine r_v (q_assignB rfl) rfl ?_
 refine r_nil (c_false rfl ?_)
 refine c_seq (c_region ?_)
 refine r_v (q_eql rfl rfl) rfl ?_; refine r_v (q_assignB rfl) rfl ?_
 refine r_nil (c_false rfl ?_)
 refine c_seq (c_region ?_)
 refine r_v (q_eql rfl rfl) rfl ?_; refine r_v (q_assignB rfl) rfl ?_
 refine r_nil (c_false rfl ?_)
 refine c_seq (c_region ?_)
 refine r_v (q_eql rfl rfl) rfl ?_; refine r_v (q_assignB rfl) rfl ?_
 refine r_nil (c_false rfl ?_)
 refine c_seq (c_region ?_)
 refine r_v (q_eql rfl rfl) rfl ?_; refine r_v (q_assignB rfl) rfl ?_
 refine r_nil (c_false rfl ?_)
 refine c_seq (c_region ?_)
 refine r_v (q_eql rfl rfl) rfl ?_; refine r_v (q_assignB rfl) rfl ?_
 refine r_nil (c_true rfl ?_)
 refine c_seq (c_region ?_)
 refine r_v (q_moveS rfl) rfl ?_
 refine r_c rfl (x_call rfl (vint_Get h hr.rd hn) ?_)
 rintro _ w ⟨rfl, h⟩
 refine r_v (q_moveT rfl) rfl ?_; refine r_v (q_ext rfl rfl) rfl ?_; refine r_v (q_ext rfl rfl) rfl ?_; refine r_v (q_assignI rfl) rfl ?_; refine r_v (q_assignI rfl) rfl ?_
 refine r_nil ?_
 generalize (vget bs).1 = x at hx hdef ⊢
 refine c_seq (c_region ?_)
 refine r_v (q_assignS rfl) rfl ?_
 refine r_nil ?_
 refine c_seq (c_seq (c_region ?_))
 refine r_v (q_moveI rfl) rfl ?_; refine r_v (q_moveI rfl) rfl ?_
 refine r_nil ?_
 refine c_block ?_
 refine c_loop (Γ := Nat × Option Addr × Nat) (fun k => [(12, .int .u64 x), (14, .slice k.2.1 (List.replicate k.1 x).length k.2.2), (71, .int .i64 n), (72, .int .i64 k.1)]) (fun k w => k.1 ≤ n ∧ St w0 (OwnU k.2.1 k.2.2 (List.replicate k.1 x) :: l) w) (fun k => n - k.1) (0, none, 0) ⟨rfl, rfl, rfl, rfl, trivial⟩ ⟨Nat.zero_le _, St.ownNil _ _ h⟩ ?_
 clear h
 rintro ⟨i, a, c1⟩ w e ⟨hi, h⟩
 dsimp only at hi h ⊢
 refine c_seq (c_region ?_)
 refine r_v (q_lss rfl rfl) rfl ?_
 refine r_nil ?_
 refine c_seq (c_cond (decide ((i : Int) < (n : Int))) rfl (fun hc1 => ?_) (fun hc1 => ?_))
 ·
  have hlt : i < n := by simp at hc1; omega
  have hstep : List.replicate (i + 1) x = List.replicate i x ++ [x] := List.replicate_succ'
  refine c_skip ?_
  refine c_cut (Γ := Option Addr × Nat) (fun q => [(12, .int .u64 x), (14, .slice q.1 (List.replicate (i + 1) x).length q.2), (71, .int .i64 n), (72, .int .i64 i)]) (fun q w => St w0 (OwnU q.1 q.2 (List.replicate (i + 1) x) :: l) w) ?_ ?_
  ·refine c_block ?_
   refine c_region ?_
   refine r_v (q_moveS rfl) rfl ?_; refine r_v (q_moveI rfl) rfl ?_
   refine r_c rfl (x_bslice (r := u64V [x]) h rfl rfl rfl fun b2 w h => ?_)
   refine r_c rfl (x_append' (ys := u64V [x]) (zs := u64V (List.replicate (i + 1) x)) (m3 := (List.replicate (i + 1) x).length) (h.f 1) rfl rfl ⟨rfl, .inr ⟨b2, 0, rfl, at_of (h.b 0 rfl) rfl⟩⟩ (u64V_one _) (by simp) (by rw [hstep]; simp [u64V]) (by simp; omega) (by simp; omega) rfl fun a2 c2 w _ h => ?_)
   refine r_v (q_assignS rfl) rfl ?_
   exact r_nil ⟨(a2, c2), ⟨rfl, rfl, rfl, rfl, trivial⟩, (h.f 1).drop⟩
  clear h
  rintro ⟨a, c1⟩ w e h
  dsimp only at h ⊢
  refine c_region ?_
  refine r_v (q_add rfl rfl) rfl ?_
  refine r_is (.int .i64 ((i + 1 : Nat) : Int)) (by rw [wrap64 (by omega) (by omega)]; rfl) ?_
  refine r_v (q_moveI rfl) rfl ?_
  exact r_nil ⟨(i + 1, a, c1), ⟨rfl, rfl, rfl, rfl, trivial⟩, ⟨hlt, h⟩, by dsimp only; omega⟩
 have hin : i = n := by simp at hc1; omega
 refine c_exit ?_
 refine c_seq (c_region ?_)
 refine r_v (q_moveS rfl) rfl ?_; refine r_v (q_assignS rfl) rfl ?_; refine r_v (q_assignB rfl) rfl ?_
 refine r_nil ?_
 refine c_ret (bq2 ⟨a, c1, List.replicate i x, true, rfl, ?_, fun _ => ⟨by simp [hin], fun y hy => ?_⟩, h⟩)
 ·rw [if_pos rfl, hin]; exact hdef
 ·rw [(List.mem_replicate.1 hy).2]; exact hx
end Go.Proofs.YtjjacchnalemaaaGreatDoor

/- suit.read: any codec's bytes. -/
namespace Go.Proofs.YtjjacchnalemaaaGreatDoor
open Go.Hw
set_option maxHeartbeats 4000000
set_option maxRecDepth 100000
theorem suit_read (tag : Int) : ReadOk tag := by
 intro w0 w l sl c bs n hT hr hn hc hn16 h
 by_cases n6 : tag = 6
 ·subst n6; exact read_6 hT hr hn hc hn16 h
 have hdef : valuesDec tag bs n = _ := rfl
 conv at hdef => rhs; unfold valuesDec
 rw [if_neg n6] at hdef
 refine enter Tryz.func46 rfl Tryz.results46 Tryz.ntmps46 rfl ?_
 refine c_seq (c_region ?_)
 refine r_v (q_assignS rfl) rfl ?_; refine r_v (q_assignB rfl) rfl ?_
 refine r_nil ?_
 refine c_seq (c_seq (c_region ?_))
 refine r_v (q_moveI rfl) rfl ?_
 refine r_nil ?_
 refine c_block ?_
 refine c_seq (c_region ?_)
 refine r_v (q_eql rfl rfl) rfl ?_; refine r_v (q_assignB rfl) rfl ?_
 refine r_nil (c_cond (tag == 1) rfl (fun h1 => ?_) (fun h1 => ?_))
 ·rw [beq_iff_eq] at h1
  rw [if_pos h1] at hdef
  refine c_seq (c_region ?_)
  refine r_v (q_moveS rfl) rfl ?_
  refine r_c rfl (x_call rfl (bits_NewReader h hr.rd hn) ?_)
  rintro _ w ⟨p, rfl, h⟩
  refine r_v (q_moveI rfl) rfl ?_
  refine r_c rfl (x_call rfl (xorv_Decode hT hn16 h) ?_)
  rintro _ w ⟨a, c', xs, b, rfl, hd, hb, s', h⟩
  refine r_v (q_ext rfl rfl) rfl ?_; refine r_v (q_ext rfl rfl) rfl ?_; refine r_v (q_assignS rfl) rfl ?_; refine r_v (q_assignB rfl) rfl ?_
  refine r_nil ?_
  exact c_ret (bq2 ⟨a, c', xs, b, rfl, by rw [hdef, hd], hb, (h.f 1).drop⟩)
 rw [beq_eq_false_iff_ne] at h1
 rw [if_neg h1] at hdef
 refine c_seq (c_region ?_)
 refine r_v (q_eql rfl rfl) rfl ?_; refine r_v (q_assignB rfl) rfl ?_
 refine r_nil (c_cond (tag == 2) rfl (fun h2 => ?_) (fun h2 => ?_))
 ·rw [beq_iff_eq] at h2
  rw [if_pos h2] at hdef
  refine c_seq (c_region ?_)
  refine r_v (q_moveS rfl) rfl ?_
  refine r_c rfl (x_call rfl (suit_words hn hr h) ?_)
  rintro _ w ⟨wa, wc, rfl, hw1, hw2, h⟩
  refine r_v (q_moveT rfl) rfl ?_; refine r_v (q_ext rfl rfl) rfl ?_; refine r_v (q_ext rfl rfl) rfl ?_; refine r_v (q_assignS rfl) rfl ?_; refine r_v (q_assignB rfl) rfl ?_
  refine r_nil ?_
  refine c_seq (c_region ?_)
  refine r_v (q_moveS rfl) rfl ?_; refine r_v (q_moveI rfl) rfl ?_
  refine r_c rfl (x_call rfl (simp_Decode hw1 (by omega) hn16 Reads.own h) ?_)
  rintro _ w ⟨xa, xc, xs, b, rfl, hd, hb, hb', h⟩
  refine r_v (q_moveT rfl) rfl ?_; refine r_v (q_ext rfl rfl) rfl ?_; refine r_v (q_ext rfl rfl) rfl ?_; refine r_v (q_assignS rfl) rfl ?_; refine r_v (q_assignB rfl) rfl ?_
  refine r_nil ?_
  have hxl : xs.length ≤ 65535 ∧ ∀ x ∈ xs, x < 18446744073709551616 := by
   cases b with
   | true => obtain ⟨g1, g2⟩ := hb rfl; exact ⟨by omega, g2⟩
   | false => rw [hb' rfl]; exact ⟨Nat.zero_le _, fun _ h => by cases h⟩
  refine c_seq (c_region ?_)
  refine r_v (q_moveS rfl) rfl ?_
  refine r_c rfl (x_call rfl (suit_sums hxl.2 hxl.1 Reads.own h) ?_)
  rintro _ w ⟨sa, sc, rfl, hs, h⟩
  replace h := ((h.f 1).drop.f 1).drop
  have hsl := sumsL_len xs 0
  by_cases h8 : bs.length % 8 = 0
  ·rw [if_pos h8, hd] at hdef
   rw [decide_eq_true h8]
   refine r_v (q_moveB rfl) rfl ?_; refine r_v (q_moveB rfl) rfl ?_; (first | refine r_gd rfl rfl ?_ | refine r_gn rfl rfl rfl ?_ | refine r_gu rfl rfl ?_ | refine r_gd rfl (by assumption) ?_ | refine r_gn rfl (by assumption) rfl ?_); refine r_v (q_moveB rfl) rfl ?_; (first | refine r_v (q_pick1 rfl rfl rfl) rfl ?_ | refine r_v (q_pick0 rfl rfl rfl) rfl ?_ | refine r_v (q_pick1 rfl (by assumption) rfl) rfl ?_ | refine r_v (q_pick0 rfl (by assumption) rfl) rfl ?_ | refine r_v (q_pickB rfl rfl rfl) rfl ?_); refine r_v (q_assignS rfl) rfl ?_; refine r_v (q_assignB rfl) rfl ?_
   refine r_nil ?_
   refine c_ret (bq2 ⟨sa, sc, sumsL 0 xs, b, rfl, ?_, fun hbt => ⟨by rw [hsl]; exact (hb hbt).1, hs⟩, h⟩)
   rw [hdef]
   cases b <;> rfl
  ·rw [if_neg h8] at hdef
   rw [decide_eq_false h8]
   refine r_v (q_moveB rfl) rfl ?_; refine r_v (q_moveB rfl) rfl ?_; (first | refine r_gd rfl rfl ?_ | refine r_gn rfl rfl rfl ?_ | refine r_gu rfl rfl ?_ | refine r_gd rfl (by assumption) ?_ | refine r_gn rfl (by assumption) rfl ?_); (first | refine r_v (q_pick1 rfl rfl rfl) rfl ?_ | refine r_v (q_pick0 rfl rfl rfl) rfl ?_ | refine r_v (q_pick1 rfl (by assumption) rfl) rfl ?_ | refine r_v (q_pick0 rfl (by assumption) rfl) rfl ?_ | refine r_v (q_pickB rfl rfl rfl) rfl ?_); refine r_v (q_assignS rfl) rfl ?_; refine r_v (q_assignB rfl) rfl ?_
   refine r_nil ?_
   exact c_ret (bq2 ⟨sa, sc, sumsL 0 xs, false, rfl, hdef, (fun h => by cases h), h⟩)
 rw [beq_eq_false_iff_ne] at h2
 rw [if_neg h2] at hdef
 refine c_seq (c_region ?_)
 refine r_v (q_eql rfl rfl) rfl ?_; refine r_v (q_assignB rfl) rfl ?_
 refine r_nil (c_cond (tag == 3) rfl (fun h3 => ?_) (fun h3 => ?_))
 ·rw [beq_iff_eq] at h3
  rw [if_pos h3] at hdef
  refine c_seq (c_region ?_)
  refine r_v (q_moveS rfl) rfl ?_; refine r_v (q_moveI rfl) rfl ?_
  refine r_c rfl (x_call rfl (runl_Decode hn16 hn hc hr h) ?_)
  rintro _ w ⟨a, c', xs, b, rfl, hd, hb, h⟩
  refine r_v (q_ext rfl rfl) rfl ?_; refine r_v (q_ext rfl rfl) rfl ?_; refine r_v (q_assignS rfl) rfl ?_; refine r_v (q_assignB rfl) rfl ?_
  refine r_nil ?_
  exact c_ret (bq2 ⟨a, c', xs, b, rfl, by rw [hdef, hd], hb, h⟩)
 rw [beq_eq_false_iff_ne] at h3
 rw [if_neg h3] at hdef
 refine c_seq (c_region ?_)
 refine r_v (q_eql rfl rfl) rfl ?_; refine r_v (q_assignB rfl) rfl ?_
 refine r_nil (c_cond (tag == 4) rfl (fun h4 => ?_) (fun h4 => ?_))
 ·rw [beq_iff_eq] at h4
  rw [if_pos h4] at hdef
  refine c_seq (c_region ?_)
  refine r_v (q_moveS rfl) rfl ?_; refine r_v (q_moveI rfl) rfl ?_
  refine r_c rfl (x_call rfl (forp_Decode hn16 hn hc hr h) ?_)
  rintro _ w ⟨a, c', xs, b, rfl, hd, hb, h⟩
  refine r_v (q_ext rfl rfl) rfl ?_; refine r_v (q_ext rfl rfl) rfl ?_; refine r_v (q_assignS rfl) rfl ?_; refine r_v (q_assignB rfl) rfl ?_
  refine r_nil ?_
  exact c_ret (bq2 ⟨a, c', xs, b, rfl, by rw [hdef, hd], hb, h⟩)
 rw [beq_eq_false_iff_ne] at h4
 rw [if_neg h4] at hdef
 refine c_seq (c_region ?_)
 refine r_v (q_eql rfl rfl) rfl ?_; refine r_v (q_assignB rfl) rfl ?_
 refine r_nil (c_cond (tag == 5) rfl (fun h5 => ?_) (fun h5 => ?_))
 ·rw [beq_iff_eq] at h5
  rw [if_pos h5] at hdef
  refine c_seq (c_region ?_)
  refine r_v (q_moveS rfl) rfl ?_; refine r_v (q_moveI rfl) rfl ?_
  refine r_c rfl (x_call rfl (dict_Decode hn16 hn hc hr h) ?_)
  rintro _ w ⟨a, c', xs, b, rfl, hd, hb, h⟩
  refine r_v (q_ext rfl rfl) rfl ?_; refine r_v (q_ext rfl rfl) rfl ?_; refine r_v (q_assignS rfl) rfl ?_; refine r_v (q_assignB rfl) rfl ?_
  refine r_nil ?_
  exact c_ret (bq2 ⟨a, c', xs, b, rfl, by rw [hdef, hd], hb, h⟩)
 rw [beq_eq_false_iff_ne] at h5
 rw [if_neg h5] at hdef
 refine c_seq (c_region ?_)
 refine r_v (q_eql rfl rfl) rfl ?_; refine r_v (q_assignB rfl) rfl ?_
 refine r_is (.bool false) (by congr 1; rw [beq_eq_false_iff_ne]; exact n6) ?_
 refine r_nil (c_false rfl (c_skip ?_))
 refine c_seq (c_region ?_)
 refine r_v (q_assignS rfl) rfl ?_; refine r_v (q_assignB rfl) rfl ?_
 refine r_nil ?_
 exact c_ret (bq2 ⟨none, 0, [], false, rfl, hdef, (fun h => by cases h), St.ownNil _ _ h⟩)
end Go.Proofs.YtjjacchnalemaaaGreatDoor

namespace Go.Hw
section
variable {P : Program} {e : Env} {w : World} {φ : Value → World → Prop}
theorem bqS3 {a c d : Tmp} {t : TypeId} {z : List Value} {bytes : Nat} [hi : Inf P t z true bytes] {b o : Nat} {l : List Value} (hx : e a = .pointer (some ⟨b, o, none⟩)) (hz : Nat.beq z.length l.length = true) (hl : At w b o l) (h : φ (.tuple [.agg l.toArray, e c, e d].toArray) w) :
  bq P [.cell a t, .tmp c, .tmp d] φ .ret e w := ⟨_, run_loadVarS hx (Nat.eq_of_beq_eq_true hz) hl, h⟩
end
def hdC (h : Hd) : List Value := [.int .i64 h.tag, .int .i64 h.count, .int .i64 h.f, .int .i64 h.t]
def hdZ : List Value := [.int .i64 0, .int .i64 0, .int .i64 0, .int .i64 0]
theorem u64V_set3 {vals : List Nat} {k : Nat} (hk : vals.length = k) (h3 : k < 3) (x : Nat) : (u64V (vals ++ List.replicate (3 - k) 0)).set k (.int .u64 (x : Int)) = u64V ((vals ++ [x]) ++ List.replicate (3 - (k + 1)) 0) := by
 have e : 3 - k = (3 - (k + 1)) + 1 := by omega
 have hl : (u64V vals).length = k := by simp [u64V, hk]
 have e1 : u64V (vals ++ List.replicate (3 - k) 0) = u64V vals ++ (.int .u64 (0 : Nat)) :: u64V (List.replicate (3 - (k + 1)) 0) := by
  unfold u64V
  rw [e, List.replicate_succ, List.map_append, List.map_cons]
 have e2 : u64V ((vals ++ [x]) ++ List.replicate (3 - (k + 1)) 0) = u64V vals ++ (.int .u64 (x : Int)) :: u64V (List.replicate (3 - (k + 1)) 0) := by
  unfold u64V
  rw [List.map_append, List.map_append, List.append_assoc]
  rfl
 rw [e1, e2, List.set_append_right _ _ (by omega), hl, Nat.sub_self]
 rfl
theorem zagT_wf {u : Nat} (h : u < 18446744073709551616) : I64 (sg (zagU u)) := sg_wf (zagU_lt h)
end Go.Hw
namespace Go.Proofs.YtjjacchnalemaaaGreatDoor
open Go.Hw
set_option maxHeartbeats 4000000
set_option maxRecDepth 100000
instance und3 : Und Tryz.prog 131 (.array 3 51) := ⟨Tryz.underlying131⟩
section
variable {w0 w : World} {l : List HProp}
theorem chnk_Make (hT : Tz w0) (tag : Int) {sl : Option Addr} {c : Nat} {L : List Smp} (hw : ∀ s ∈ L, s.Wf) (hn : L.length ≤ 1073741824) (hr : Reads w0 l 2 sl L.length (smpsV L)) (h : St w0 l w) :
  Ret Tryz.prog 18 [.int .i64 tag, .slice sl L.length c] w fun v w' => ∃ a c', v = .tuple [.slice a ((chMake tag L).getD []).length c', .bool (chMake tag L).isSome].toArray ∧ St w0 (OwnB a c' ((chMake tag L).getD []) :: l) w' := by
 have hlen := suitEnc_len (tag := tag) hw
 refine enter Tryz.func18 rfl Tryz.results18 Tryz.ntmps18 rfl ?_
 refine c_seq (c_region ?_)
 refine r_v (q_assignS rfl) rfl ?_; refine r_v (q_assignB rfl) rfl ?_
 refine r_nil ?_
 refine c_seq (c_region ?_)
 refine r_v (q_moveI rfl) rfl ?_; refine r_v (q_moveS rfl) rfl ?_
 refine r_c rfl (x_call rfl (suit_Encode hT tag hw hn hr h) ?_)
 cases hE : suitEnc tag L with
 | none =>
  have hM : chMake tag L = none := by unfold chMake; rw [hE]
  rw [hM]
  rintro _ w ⟨xa, xc, rfl, h⟩
  replace h := h.drop
  show Rn _ _ _ _ _ (upd _ _ (.tuple [.slice xa 0 xc, .bool false].toArray)) _
  refine r_v (q_moveT rfl) rfl ?_; refine r_v (q_ext rfl rfl) rfl ?_; refine r_v (q_ext rfl rfl) rfl ?_; refine r_v (q_assignS rfl) rfl ?_; refine r_v (q_assignB rfl) rfl ?_
  refine r_nil ?_
  refine c_seq (c_seq (c_region ?_))
  refine r_v (q_moveB rfl) rfl ?_; refine r_v (q_not rfl) rfl ?_; refine r_v (q_moveB rfl) rfl ?_; (first | refine r_gd rfl rfl ?_ | refine r_gn rfl rfl rfl ?_ | refine r_gu rfl rfl ?_ | refine r_gd rfl (by assumption) ?_ | refine r_gn rfl (by assumption) rfl ?_); (first | refine r_gd rfl rfl ?_ | refine r_gn rfl rfl rfl ?_ | refine r_gu rfl rfl ?_ | refine r_gd rfl (by assumption) ?_ | refine r_gn rfl (by assumption) rfl ?_); (first | refine r_gd rfl rfl ?_ | refine r_gn rfl rfl rfl ?_ | refine r_gu rfl rfl ?_ | refine r_gd rfl (by assumption) ?_ | refine r_gn rfl (by assumption) rfl ?_); (first | refine r_v (q_pick1 rfl rfl rfl) rfl ?_ | refine r_v (q_pick0 rfl rfl rfl) rfl ?_ | refine r_v (q_pick1 rfl (by assumption) rfl) rfl ?_ | refine r_v (q_pick0 rfl (by assumption) rfl) rfl ?_ | refine r_v (q_pickB rfl rfl rfl) rfl ?_)
  refine r_nil (c_true rfl ?_)
  refine c_seq (c_region ?_)
  refine r_v (q_assignS rfl) rfl ?_; refine r_v (q_assignB rfl) rfl ?_
  refine r_nil ?_
  exact c_ret (bq2 ⟨none, 0, rfl, St.ownNil _ _ h⟩)
 | some x =>
 rw [hE] at hlen
 have hxl : x.length ≤ 3000000 := hlen
 obtain ⟨ht1, ht6⟩ := suitEnc_tag hE
 obtain ⟨_, hL16⟩ := suitEnc_rises hE
 rintro _ w ⟨xa, xc, rfl, h⟩
 replace h : St w0 (OwnB xa xc x :: l) w := h
 show Rn _ _ _ _ _ (upd _ _ (.tuple [.slice xa x.length xc, .bool true].toArray)) _
 refine r_v (q_moveT rfl) rfl ?_; refine r_v (q_ext rfl rfl) rfl ?_; refine r_v (q_ext rfl rfl) rfl ?_; refine r_v (q_assignS rfl) rfl ?_; refine r_v (q_assignB rfl) rfl ?_
 refine r_nil ?_
 refine c_seq (c_seq (c_region ?_))
 refine r_v (q_moveB rfl) rfl ?_; refine r_v (q_not rfl) rfl ?_; refine r_v (q_moveB rfl) rfl ?_; (first | refine r_gd rfl rfl ?_ | refine r_gn rfl rfl rfl ?_ | refine r_gu rfl rfl ?_ | refine r_gd rfl (by assumption) ?_ | refine r_gn rfl (by assumption) rfl ?_); refine r_v (q_moveS rfl) rfl ?_; (first | refine r_gd rfl rfl ?_ | refine r_gn rfl rfl rfl ?_ | refine r_gu rfl rfl ?_ | refine r_gd rfl (by assumption) ?_ | refine r_gn rfl (by assumption) rfl ?_); refine r_v (q_len rfl) rfl ?_; (first | refine r_gd rfl rfl ?_ | refine r_gn rfl rfl rfl ?_ | refine r_gu rfl rfl ?_ | refine r_gd rfl (by assumption) ?_ | refine r_gn rfl (by assumption) rfl ?_)
 by_cases hL0 : L.length = 0
 ·have hLn : L = [] := List.eq_nil_of_length_eq_zero hL0
  have hM : chMake tag L = none := by unfold chMake; rw [hE]; dsimp only; rw [if_pos hLn]
  rw [hM]
  refine r_v (q_is (v' := .bool true) (q_eql rfl rfl) (by rw [hL0]; rfl)) rfl ?_
  (first | refine r_v (q_pick1 rfl rfl rfl) rfl ?_ | refine r_v (q_pick0 rfl rfl rfl) rfl ?_ | refine r_v (q_pick1 rfl (by assumption) rfl) rfl ?_ | refine r_v (q_pick0 rfl (by assumption) rfl) rfl ?_ | refine r_v (q_pickB rfl rfl rfl) rfl ?_)
  refine r_nil (c_true rfl ?_)
  refine c_seq (c_region ?_)
  refine r_v (q_assignS rfl) rfl ?_; refine r_v (q_assignB rfl) rfl ?_
  refine r_nil ?_
  exact c_ret (bq2 ⟨none, 0, rfl, St.ownNil _ _ h.drop⟩)
 have hLn : L ≠ [] := fun hh => hL0 (by rw [hh]; rfl)
 have hM : chMake tag L = some (chBody tag L x ++ be4 (crc (chBody tag L x))) := by unfold chMake; rw [hE]; dsimp only; rw [if_neg hLn]
 rw [hM]
 obtain ⟨w1, w2⟩ := ends_wf hw hLn
 refine r_v (q_is (v' := .bool false) (q_eql rfl rfl) (by congr 1; rw [beq_eq_false_iff_ne]; omega)) rfl ?_
 (first | refine r_v (q_pick1 rfl rfl rfl) rfl ?_ | refine r_v (q_pick0 rfl rfl rfl) rfl ?_ | refine r_v (q_pick1 rfl (by assumption) rfl) rfl ?_ | refine r_v (q_pick0 rfl (by assumption) rfl) rfl ?_ | refine r_v (q_pickB rfl rfl rfl) rfl ?_)
 refine r_nil (c_false rfl (c_skip ?_))
 refine c_seq (c_region ?_)
 refine r_v (q_moveI rfl) rfl ?_; refine r_v (q_conv rfl) rfl ?_
 refine r_is (.int .u8 ((UInt8.ofNat tag.toNat).toNat : Int)) (by rw [UInt8.toNat_ofNat', show tag = ((tag.toNat : Nat) : Int) by omega, wrap_u8]; simp) ?_
 refine r_c rfl (x_bslice (r := bytesV [UInt8.ofNat tag.toNat]) h rfl rfl rfl fun b2 w h => ?_)
 refine r_v (q_moveS rfl) rfl ?_; refine r_v (q_len rfl) rfl ?_; refine r_v (q_conv rfl) rfl ?_
 refine r_is (.int .u64 (L.length : Int)) (congrArg (Value.int .u64) (conv_nat (by omega))) ?_
 refine r_c rfl (x_call rfl (vint_Put (bs := [UInt8.ofNat tag.toNat]) L.length (by omega) h (fun w' h' => (Reads.pt (m := 0) rfl rfl).at_ h') (by simp)) ?_)
 rintro _ w ⟨a1, c1, rfl, h⟩
 replace h := (h.f 1).drop
 refine r_v (q_assignS rfl) rfl ?_
 refine r_nil ?_
 have hp1 := vput_len L.length
 have hp2 := vput_len (zigT (firstT L))
 have hp3 := vput_len (zigT (lastT L))
 refine c_cut (Γ := Option Addr × Nat) (fun q => [(0, .int .i64 tag), (1, .slice sl L.length c), (6, .slice xa x.length xc), (8, .slice q.1 (UInt8.ofNat tag.toNat :: (chNums L).flatMap vput).length q.2)]) (fun q w => St w0 (OwnB q.1 q.2 (UInt8.ofNat tag.toNat :: (chNums L).flatMap vput) :: OwnB xa xc x :: l) w) ?_ ?_
 ·have hg0 : L[0]? = some (L[0]'(by omega)) := List.getElem?_eq_getElem _
  have hgl : L[L.length - 1]? = some (L[L.length - 1]'(by omega)) := List.getElem?_eq_getElem _
  have hf : firstT L = (L[0]'(by omega)).T := by unfold firstT; rw [List.head?_eq_getElem?, hg0]; rfl
  have ht : lastT L = (L[L.length - 1]'(by omega)).T := by unfold lastT; rw [List.getLast?_eq_getElem?, hgl]; rfl
  generalize L[0]'(by omega) = s0 at hg0 hf
  generalize L[L.length - 1]'(by omega) = s1 at hgl ht
  obtain ⟨b, o, hsl⟩ := ((hr.more [_, _]).at_ h).some (by omega)
  have hc0 : ∀ {w'}, (∃ M, St w0 (M ++ l) w') → w'.cell? ⟨b, o, none⟩ = some (.int .i64 s0.T) := fun ⟨M, h'⟩ => by
   have := (hsl ▸ hr M _ h').elem smp_len hg0 0 _ rfl; simpa using this
  have hc1 : ∀ {w'}, (∃ M, St w0 (M ++ l) w') → w'.cell? ⟨b, o + (L.length - 1) * 2 + 0, none⟩ = some (.int .i64 s1.T) := fun ⟨M, h'⟩ => (hsl ▸ hr M _ h').elem smp_len hgl 0 _ rfl
  refine c_anyW [0, 1, 2, 3, 4, 5, 6, 7, 8, 9, 10, 11, 12, 13, 14, 15, 16] none (fun w => ∃ M, St w0 (M ++ l) w) (by kernel_rfl) (by kernel_rfl) ?_
  replace h := h.drew
  generalize w.drew = w at h
  have hs := h
  replace h : ∃ M, St w0 (M ++ l) w := ⟨[_, _], hs⟩
  refine cur_pure rfl rfl rfl rfl (fun _ => h) (fun _ => flt_v rfl (q_moveS rfl)) ?_; refine cur_pure rfl rfl rfl rfl (fun _ => h) (fun _ => flt_v rfl (q_moveS rfl)) ?_
  refine cur_pure rfl rfl rfl rfl (fun _ => h) (fun _ => flt_v rfl (q_idx (b := b) (o := o) (m := L.length) (c := c) (j := 0) (o' := o) (by rw [← hsl]; rfl) rfl rfl (by omega) (by simp))) ?_
  refine cur_pure rfl rfl rfl rfl (fun _ => h) (fun _ => flt_v rfl (q_fa rfl)) ?_
  refine cur_float rfl rfl rfl rfl h (fun w h => flt_v rfl (q_loadc (v := .int .i64 s0.T) rfl (hc0 h))) ?_
  refine cur_skip ?_; refine cur_skip ?_; refine cur_pure rfl rfl rfl rfl (fun _ => h) (fun _ => flt_v rfl (q_moveS rfl)) ?_; refine cur_pure rfl rfl rfl rfl (fun _ => h) (fun _ => flt_v rfl (q_moveS rfl)) ?_; refine cur_pure rfl rfl rfl rfl (fun _ => h) (fun _ => flt_v rfl (q_len rfl)) ?_
  refine cur_pure rfl rfl rfl rfl (fun _ => h) (fun _ => flt_v rfl (q_is (v' := .int .i64 ((L.length - 1 : Nat) : Int)) (q_sub rfl rfl) (by rw [wrap64 (by omega) (by omega)]; congr 1; omega))) ?_
  refine cur_pure rfl rfl rfl rfl (fun _ => h) (fun _ => flt_v rfl (q_idx (b := b) (o := o) (m := L.length) (c := c) (j := L.length - 1) (o' := o + (L.length - 1) * 2) (by rw [← hsl]; rfl) rfl rfl (by omega) rfl)) ?_
  refine cur_pure rfl rfl rfl rfl (fun _ => h) (fun _ => flt_v rfl (q_fa rfl)) ?_
  refine cur_float rfl rfl rfl rfl h (fun w h => flt_v rfl (q_loadc (v := .int .i64 s1.T) rfl (hc1 h))) ?_
  refine cur_skip ?_; refine cur_skip ?_; refine cur_skip ?_
  refine cur_one 5 rfl rfl rfl rfl ?_
  refine (x_call rfl (vint_Zig (hf ▸ w1) hs) ?_)
  rintro _ w ⟨rfl, hs⟩
  rw [← hf, show zigU (us (firstT L)) = zigT (firstT L) from rfl]
  replace h : ∃ M, St w0 (M ++ l) w := ⟨[_, _], hs⟩
  refine ⟨fun _ => h, ?_⟩
  refine cur_skip ?_; refine cur_skip ?_; refine cur_skip ?_; refine cur_skip ?_
  refine cur_one 6 rfl rfl rfl rfl ?_
  refine (x_call rfl (vint_Put (zigT (firstT L)) (zigT_lt _) hs (fun w' h' => h'.own_rd) (by simp; omega)) ?_)
  rintro _ w ⟨a2, c2, rfl, hs⟩
  replace h : ∃ M, St w0 (M ++ l) w := ⟨[_, _, _], hs⟩
  refine ⟨fun _ => h, ?_⟩
  refine cur_skip ?_; refine cur_skip ?_; refine cur_skip ?_
  refine cur_one 14 rfl rfl rfl rfl ?_
  refine (x_call rfl (vint_Zig (ht ▸ w2) hs) ?_)
  rintro _ w ⟨rfl, hs⟩
  rw [← ht, show zigU (us (lastT L)) = zigT (lastT L) from rfl]
  replace h : ∃ M, St w0 (M ++ l) w := ⟨[_, _, _], hs⟩
  refine ⟨fun _ => h, ?_⟩
  refine cur_skip ?_; refine cur_skip ?_
  refine cur_one 15 rfl rfl rfl rfl ?_
  refine (x_call rfl (vint_Put (zigT (lastT L)) (zigT_lt _) hs (fun w' h' => h'.own_rd) (by simp; omega)) ?_)
  rintro _ w ⟨a3, c3, rfl, hs⟩
  replace h : ∃ M, St w0 (M ++ l) w := ⟨[_, _, _, _], hs⟩
  refine ⟨fun _ => h, ?_⟩
  refine cur_pure rfl rfl rfl rfl (fun _ => h) (fun _ => flt_v rfl (q_assignS rfl)) ?_
  have e3 : [UInt8.ofNat tag.toNat] ++ vput L.length ++ vput (zigT (firstT L)) ++ vput (zigT (lastT L)) = UInt8.ofNat tag.toNat :: (chNums L).flatMap vput := by simp [chNums]
  rw [e3] at hs
  refine cur_end ⟨(a3, c3), ⟨rfl, rfl, rfl, ?_, trivial⟩, ((hs.f 1).drop.f 1).drop⟩
  show Value.slice _ _ _ = Value.slice _ _ _
  rw [e3]
 clear h a1 c1
 rintro ⟨a1, c1⟩ w e h
 dsimp only at h ⊢
 have hbl := chBody_len tag L x
 have hbe : chBody tag L x = (UInt8.ofNat tag.toNat :: (chNums L).flatMap vput) ++ x := by simp [chBody]
 have hbl2 : (UInt8.ofNat tag.toNat :: (chNums L).flatMap vput).length + x.length = (chBody tag L x).length := by rw [hbe, List.length_append]
 generalize UInt8.ofNat tag.toNat :: (chNums L).flatMap vput = hd at h hbe hbl2 ⊢
 generalize chBody tag L x = B at hbe hbl hbl2 ⊢
 refine c_seq (c_region ?_)
 refine r_v (q_moveS rfl) rfl ?_; refine r_v (q_moveS rfl) rfl ?_
 refine r_c rfl (x_append' (ys := bytesV x) (zs := bytesV B) (m3 := B.length) h rfl rfl (h.f 1).own_rd (bytesV_one _) (by omega) (by rw [hbe]; simp [bytesV]) (by omega) (by omega) rfl fun a2 c2 w _ h => ?_)
 refine r_v (q_assignS rfl) rfl ?_
 refine r_nil ?_
 refine c_seq (c_region ?_)
 refine r_c rfl (x_call rfl (crcc_Table h) ?_)
 rintro _ w ⟨rfl, h⟩
 refine r_v (q_moveS rfl) rfl ?_
 refine r_c rfl (x_call rfl (crcc_Sum (bs := B) (by omega) Reads.own h) ?_)
 rintro _ w ⟨rfl, h⟩
 refine r_v (q_assignI rfl) rfl ?_
 refine r_nil ?_
 generalize crc B = k
 refine c_seq (c_region ?_)
 refine r_v (q_moveS rfl) rfl ?_; refine r_v (q_moveI rfl) rfl ?_
 refine r_v (q_is (v' := .int .u32 ((k / 2 ^ 24 : Nat) : Int)) (q_shr rfl rfl (by omega)) (congrArg (Value.int .u32) (fdiv_nat k 24 32 (by decide)))) rfl ?_
 refine r_v (q_conv rfl) rfl ?_
 refine r_is (.int .u8 ((UInt8.ofNat (k / 2 ^ 24)).toNat : Int)) (by rw [wrap_u8, UInt8.toNat_ofNat']) ?_
 refine r_v (q_moveI rfl) rfl ?_
 refine r_v (q_is (v' := .int .u32 ((k / 2 ^ 16 : Nat) : Int)) (q_shr rfl rfl (by omega)) (congrArg (Value.int .u32) (fdiv_nat k 16 32 (by decide)))) rfl ?_
 refine r_v (q_conv rfl) rfl ?_
 refine r_is (.int .u8 ((UInt8.ofNat (k / 2 ^ 16)).toNat : Int)) (by rw [wrap_u8, UInt8.toNat_ofNat']) ?_
 refine r_v (q_moveI rfl) rfl ?_
 refine r_v (q_is (v' := .int .u32 ((k / 2 ^ 8 : Nat) : Int)) (q_shr rfl rfl (by omega)) (congrArg (Value.int .u32) (fdiv_nat k 8 32 (by decide)))) rfl ?_
 refine r_v (q_conv rfl) rfl ?_
 refine r_is (.int .u8 ((UInt8.ofNat (k / 2 ^ 8)).toNat : Int)) (by rw [wrap_u8, UInt8.toNat_ofNat']) ?_
 refine r_v (q_moveI rfl) rfl ?_; refine r_v (q_conv rfl) rfl ?_
 refine r_is (.int .u8 ((UInt8.ofNat k).toNat : Int)) (by rw [wrap_u8, UInt8.toNat_ofNat']) ?_
 refine r_c rfl (x_bslice (r := bytesV (be4 k)) h rfl rfl rfl fun b4 w h => ?_)
 refine r_c rfl (x_append' (ys := bytesV (be4 k)) (zs := bytesV (B ++ be4 k)) (m3 := (B ++ be4 k).length) (h.f 1) rfl rfl ⟨rfl, .inr ⟨b4, 0, rfl, at_of (h.b 0 rfl) rfl⟩⟩ (bytesV_one _) (by simp [be4_len]) (by simp [bytesV]) (by rw [List.length_append, be4_len]; omega) (by rw [List.length_append, be4_len]; omega) rfl fun a3 c3 w _ h => ?_)
 refine r_v (q_assignS rfl) rfl ?_; refine r_v (q_assignB rfl) rfl ?_
 refine r_nil ?_
 refine c_ret (bq2 ⟨a3, c3, rfl, ?_⟩)
 have h' := ((h.f 1).drop.f 1).drop
 exact h'
end
end Go.Proofs.YtjjacchnalemaaaGreatDoor

namespace Go.Proofs.YtjjacchnalemaaaGreatDoor
open Go.Hw
set_option maxHeartbeats 4000000
set_option maxRecDepth 100000
section
variable {w0 w : World} {l : List HProp}
abbrev HeadOf (w0 : World) (l : List HProp) (bs : List UInt8) (v : Value) : Prop :=
 (headDec bs = none ∧ v = .tuple [.agg hdZ.toArray, .slice none 0 0, .bool false].toArray) ∨
 ∃ hd rest a c, headDec bs = some (hd, rest) ∧ v = .tuple [.agg (hdC hd).toArray, .slice a rest.length c, .bool true].toArray ∧ rest.length ≤ c ∧ rest.length ≤ bs.length ∧ hd.count ≤ 65535 ∧ hd.tag ≤ 6 ∧ Reads w0 l 1 a rest.length (bytesV rest)
theorem chnk_head {sl : Option Addr} {c : Nat} {bs : List UInt8} (hn : bs.length ≤ 140737488355328) (hc : bs.length ≤ c) (hr : Reads w0 l 1 sl bs.length (bytesV bs)) (h : St w0 l w) :
  Ret Tryz.prog 56 [.slice sl bs.length c] w fun v w' => HeadOf w0 l bs v ∧ St w0 l w' := by
 refine enter Tryz.func56 rfl Tryz.results56 Tryz.ntmps56 rfl ?_
 refine c_seq (c_region ?_)
 refine r_c rfl (x_alloc h fun b2 w h => ?_)
 replace h : St w0 (pt b2 (.cells hdZ.toArray 43 (0, 0)) :: l) w := h
 refine r_v (q_assignS rfl) rfl ?_; refine r_v (q_assignB rfl) rfl ?_
 refine r_nil ?_
 cases bs with
 | nil =>
  refine c_seq (c_seq (c_region ?_))
  refine r_v (q_moveS rfl) rfl ?_; refine r_v (q_len rfl) rfl ?_
  refine r_v (q_is (v' := .bool true) (q_eql rfl rfl) rfl) rfl ?_
  refine r_v (q_moveB rfl) rfl ?_; (first | refine r_gd rfl rfl ?_ | refine r_gn rfl rfl rfl ?_ | refine r_gu rfl rfl ?_ | refine r_gd rfl (by assumption) ?_ | refine r_gn rfl (by assumption) rfl ?_); (first | refine r_gd rfl rfl ?_ | refine r_gn rfl rfl rfl ?_ | refine r_gu rfl rfl ?_ | refine r_gd rfl (by assumption) ?_ | refine r_gn rfl (by assumption) rfl ?_); (first | refine r_gd rfl rfl ?_ | refine r_gn rfl rfl rfl ?_ | refine r_gu rfl rfl ?_ | refine r_gd rfl (by assumption) ?_ | refine r_gn rfl (by assumption) rfl ?_); (first | refine r_gd rfl rfl ?_ | refine r_gn rfl rfl rfl ?_ | refine r_gu rfl rfl ?_ | refine r_gd rfl (by assumption) ?_ | refine r_gn rfl (by assumption) rfl ?_); (first | refine r_v (q_pick1 rfl rfl rfl) rfl ?_ | refine r_v (q_pick0 rfl rfl rfl) rfl ?_ | refine r_v (q_pick1 rfl (by assumption) rfl) rfl ?_ | refine r_v (q_pick0 rfl (by assumption) rfl) rfl ?_ | refine r_v (q_pickB rfl rfl rfl) rfl ?_); refine r_v (q_moveB rfl) rfl ?_; (first | refine r_gd rfl rfl ?_ | refine r_gn rfl rfl rfl ?_ | refine r_gu rfl rfl ?_ | refine r_gd rfl (by assumption) ?_ | refine r_gn rfl (by assumption) rfl ?_); (first | refine r_gd rfl rfl ?_ | refine r_gn rfl rfl rfl ?_ | refine r_gu rfl rfl ?_ | refine r_gd rfl (by assumption) ?_ | refine r_gn rfl (by assumption) rfl ?_); (first | refine r_gd rfl rfl ?_ | refine r_gn rfl rfl rfl ?_ | refine r_gu rfl rfl ?_ | refine r_gd rfl (by assumption) ?_ | refine r_gn rfl (by assumption) rfl ?_); (first | refine r_gd rfl rfl ?_ | refine r_gn rfl rfl rfl ?_ | refine r_gu rfl rfl ?_ | refine r_gd rfl (by assumption) ?_ | refine r_gn rfl (by assumption) rfl ?_); (first | refine r_v (q_pick1 rfl rfl rfl) rfl ?_ | refine r_v (q_pick0 rfl rfl rfl) rfl ?_ | refine r_v (q_pick1 rfl (by assumption) rfl) rfl ?_ | refine r_v (q_pick0 rfl (by assumption) rfl) rfl ?_ | refine r_v (q_pickB rfl rfl rfl) rfl ?_)
  refine r_nil (c_true rfl ?_)
  refine c_seq (c_region ?_)
  refine r_v (q_build (r := hdZ) rfl) rfl ?_
  refine r_c rfl (x_storeA (vs := hdZ) 0 h rfl rfl rfl rfl rfl rfl rfl fun w h => ?_)
  replace h : St w0 (pt b2 (.cells hdZ.toArray 43 (0, 0)) :: l) w := h
  refine r_v (q_assignS rfl) rfl ?_; refine r_v (q_assignB rfl) rfl ?_
  refine r_nil ?_
  exact c_ret (bqS3 (l := hdZ) rfl rfl (at_of (h.b 0 rfl) rfl) ⟨.inl ⟨rfl, rfl⟩, h.drop⟩)
 | cons ch r =>
 have hdef : headDec (ch :: r) = _ := rfl
 conv at hdef => rhs; unfold headDec
 dsimp only at hdef
 have hlc : (ch :: r).length = r.length + 1 := rfl
 obtain ⟨b, o, hsl⟩ := (hr.cons.at_ h).some (by simp)
 have hc0 : ∀ {M : List HProp} {w'}, St w0 (M ++ l) w' → w'.cell? ⟨b, o, none⟩ = some (.int .u8 ch.toNat) := fun {M} {w'} h' => by
  have := (hsl ▸ hr M _ h').cell (bytesV_get (bs := ch :: r) (j := 0) rfl); simpa using this
 refine c_cut (Γ := Unit) (fun _ => [(0, .slice sl (ch :: r).length c), (2, .pointer (some ⟨b2, 0, none⟩))]) (fun _ w => ¬ (ch.toNat < 1 ∨ 6 < ch.toNat) ∧ St w0 (pt b2 (.cells hdZ.toArray 43 (0, 0)) :: l) w) ?_ ?_
 ·refine c_seq (c_region ?_)
  refine r_v (q_moveS rfl) rfl ?_; refine r_v (q_len rfl) rfl ?_
  refine r_v (q_is (v' := .bool false) (q_eql rfl rfl) (by congr 1)) rfl ?_
  refine r_v (q_moveB rfl) rfl ?_; (first | refine r_gd rfl rfl ?_ | refine r_gn rfl rfl rfl ?_ | refine r_gu rfl rfl ?_ | refine r_gd rfl (by assumption) ?_ | refine r_gn rfl (by assumption) rfl ?_); refine r_v (q_moveS rfl) rfl ?_; (first | refine r_gd rfl rfl ?_ | refine r_gn rfl rfl rfl ?_ | refine r_gu rfl rfl ?_ | refine r_gd rfl (by assumption) ?_ | refine r_gn rfl (by assumption) rfl ?_)
  refine r_v (q_idx (b := b) (o := o) (m := (ch :: r).length) (c := c) (j := 0) (o' := o) (by rw [← hsl]; rfl) rfl rfl (by simp) (by simp)) rfl ?_
  refine r_gd rfl rfl ?_
  refine r_v (q_loadc (v := .int .u8 ch.toNat) rfl (hc0 (M := [_]) h)) rfl ?_
  refine r_gd rfl rfl ?_
  by_cases g1 : ch.toNat < 1
  ·refine r_v (q_is (v' := .bool true) (q_lss rfl rfl) (by congr 1; simp; omega)) rfl ?_
   (first | refine r_v (q_pick1 rfl rfl rfl) rfl ?_ | refine r_v (q_pick0 rfl rfl rfl) rfl ?_ | refine r_v (q_pick1 rfl (by assumption) rfl) rfl ?_ | refine r_v (q_pick0 rfl (by assumption) rfl) rfl ?_ | refine r_v (q_pickB rfl rfl rfl) rfl ?_); refine r_v (q_moveB rfl) rfl ?_; (first | refine r_gd rfl rfl ?_ | refine r_gn rfl rfl rfl ?_ | refine r_gu rfl rfl ?_ | refine r_gd rfl (by assumption) ?_ | refine r_gn rfl (by assumption) rfl ?_); (first | refine r_gd rfl rfl ?_ | refine r_gn rfl rfl rfl ?_ | refine r_gu rfl rfl ?_ | refine r_gd rfl (by assumption) ?_ | refine r_gn rfl (by assumption) rfl ?_); (first | refine r_gd rfl rfl ?_ | refine r_gn rfl rfl rfl ?_ | refine r_gu rfl rfl ?_ | refine r_gd rfl (by assumption) ?_ | refine r_gn rfl (by assumption) rfl ?_); (first | refine r_gd rfl rfl ?_ | refine r_gn rfl rfl rfl ?_ | refine r_gu rfl rfl ?_ | refine r_gd rfl (by assumption) ?_ | refine r_gn rfl (by assumption) rfl ?_); (first | refine r_v (q_pick1 rfl rfl rfl) rfl ?_ | refine r_v (q_pick0 rfl rfl rfl) rfl ?_ | refine r_v (q_pick1 rfl (by assumption) rfl) rfl ?_ | refine r_v (q_pick0 rfl (by assumption) rfl) rfl ?_ | refine r_v (q_pickB rfl rfl rfl) rfl ?_)
   refine r_nil (c_true rfl ?_)
   refine c_seq (c_region ?_)
   refine r_v (q_build (r := hdZ) rfl) rfl ?_
   refine r_c rfl (x_storeA (vs := hdZ) 0 h rfl rfl rfl rfl rfl rfl rfl fun w h => ?_)
   replace h : St w0 (pt b2 (.cells hdZ.toArray 43 (0, 0)) :: l) w := h
   refine r_v (q_assignS rfl) rfl ?_; refine r_v (q_assignB rfl) rfl ?_
   refine r_nil ?_
   exact c_ret (bqS3 (l := hdZ) rfl rfl (at_of (h.b 0 rfl) rfl) ⟨.inl ⟨by rw [hdef, if_pos (.inl g1)], rfl⟩, h.drop⟩)
  refine r_v (q_is (v' := .bool false) (q_lss rfl rfl) (by congr 1; simp; omega)) rfl ?_
  (first | refine r_v (q_pick1 rfl rfl rfl) rfl ?_ | refine r_v (q_pick0 rfl rfl rfl) rfl ?_ | refine r_v (q_pick1 rfl (by assumption) rfl) rfl ?_ | refine r_v (q_pick0 rfl (by assumption) rfl) rfl ?_ | refine r_v (q_pickB rfl rfl rfl) rfl ?_); refine r_v (q_moveB rfl) rfl ?_; (first | refine r_gd rfl rfl ?_ | refine r_gn rfl rfl rfl ?_ | refine r_gu rfl rfl ?_ | refine r_gd rfl (by assumption) ?_ | refine r_gn rfl (by assumption) rfl ?_); refine r_v (q_moveS rfl) rfl ?_; (first | refine r_gd rfl rfl ?_ | refine r_gn rfl rfl rfl ?_ | refine r_gu rfl rfl ?_ | refine r_gd rfl (by assumption) ?_ | refine r_gn rfl (by assumption) rfl ?_)
  refine r_v (q_idx (b := b) (o := o) (m := (ch :: r).length) (c := c) (j := 0) (o' := o) (by rw [← hsl]; rfl) rfl rfl (by simp) (by simp)) rfl ?_
  refine r_gd rfl rfl ?_
  refine r_v (q_loadc (v := .int .u8 ch.toNat) rfl (hc0 (M := [_]) h)) rfl ?_
  (first | refine r_gd rfl rfl ?_ | refine r_gn rfl rfl rfl ?_ | refine r_gu rfl rfl ?_ | refine r_gd rfl (by assumption) ?_ | refine r_gn rfl (by assumption) rfl ?_); refine r_v (q_gtr rfl rfl) rfl ?_; (first | refine r_v (q_pick1 rfl rfl rfl) rfl ?_ | refine r_v (q_pick0 rfl rfl rfl) rfl ?_ | refine r_v (q_pick1 rfl (by assumption) rfl) rfl ?_ | refine r_v (q_pick0 rfl (by assumption) rfl) rfl ?_ | refine r_v (q_pickB rfl rfl rfl) rfl ?_)
  refine r_nil (c_cond (decide ((ch.toNat : Int) > 6)) rfl (fun hc1 => ?_) (fun hc1 => ?_))
  ·refine c_seq (c_region ?_)
   refine r_v (q_build (r := hdZ) rfl) rfl ?_
   refine r_c rfl (x_storeA (vs := hdZ) 0 h rfl rfl rfl rfl rfl rfl rfl fun w h => ?_)
   replace h : St w0 (pt b2 (.cells hdZ.toArray 43 (0, 0)) :: l) w := h
   refine r_v (q_assignS rfl) rfl ?_; refine r_v (q_assignB rfl) rfl ?_
   refine r_nil ?_
   exact c_ret (bqS3 (l := hdZ) rfl rfl (at_of (h.b 0 rfl) rfl) ⟨.inl ⟨by rw [hdef, if_pos (.inr (by simp at hc1; omega))], rfl⟩, h.drop⟩)
  ·exact c_skip ⟨(), ⟨rfl, rfl, trivial⟩, by simp at hc1; omega, h⟩
 clear h
 rintro _ w e ⟨hcond, h⟩
 rw [if_neg hcond] at hdef
 have hrt := hr.tailB (i := 1) (by omega) hc
 rw [show (ch :: r).drop 1 = r from rfl] at hrt
 refine c_seq (c_region ?_)
 refine r_v (q_moveS rfl) rfl ?_
 refine r_v (q_tail (i := 1) rfl rfl (by omega)) rfl ?_
 show Rn _ _ _ _ _ (upd _ _ (.slice (adv sl (1 * 1) (Nat.beq c 1)) r.length (c - 1))) _
 refine r_v (q_assignS rfl) rfl ?_
 refine r_nil ?_
 refine c_seq (c_region ?_)
 refine r_c rfl (x_alloc h fun b6 w h => ?_)
 replace h : St w0 (pt b6 (.cells (u64V ([] ++ List.replicate (3 - 0) 0)).toArray 131 (0, 0)) :: pt b2 (.cells hdZ.toArray 43 (0, 0)) :: l) w := h
 refine r_nil ?_
 generalize hG : getVs 3 r = G at hdef
 refine c_cut (Γ := Nat × Nat × Nat × List UInt8 × Option Addr × Nat) (fun k => [(0, .slice sl (ch :: r).length c), (2, .pointer (some ⟨b2, 0, none⟩)), (5, .slice k.2.2.2.2.1 k.2.2.2.1.length k.2.2.2.2.2), (6, .pointer (some ⟨b6, 0, none⟩))])
  (fun k w => G = some ([k.1, k.2.1, k.2.2.1], k.2.2.2.1) ∧ k.1 < 18446744073709551616 ∧ k.2.1 < 18446744073709551616 ∧ k.2.2.1 < 18446744073709551616 ∧ k.2.2.2.1.length ≤ r.length ∧ k.2.2.2.1.length ≤ k.2.2.2.2.2 ∧ Reads w0 l 1 k.2.2.2.2.1 k.2.2.2.1.length (bytesV k.2.2.2.1) ∧ St w0 (pt b6 (.cells (u64V [k.1, k.2.1, k.2.2.1]).toArray 131 (0, 0)) :: pt b2 (.cells hdZ.toArray 43 (0, 0)) :: l) w) ?_ ?_
 ·refine c_seq (c_region ?_)
  refine r_v (q_moveI rfl) rfl ?_
  refine r_nil ?_
  refine c_block ?_
  refine c_loop (Γ := Nat × List Nat × List UInt8 × Option Addr × Nat) (fun k => [(0, .slice sl (ch :: r).length c), (2, .pointer (some ⟨b2, 0, none⟩)), (5, .slice k.2.2.2.1 k.2.2.1.length k.2.2.2.2), (6, .pointer (some ⟨b6, 0, none⟩)), (29, .int .i64 k.1)])
   (fun k w => k.1 ≤ 3 ∧ k.2.1.length = k.1 ∧ (∀ x ∈ k.2.1, x < 18446744073709551616) ∧ G = (getVs (3 - k.1) k.2.2.1).map (fun q => (k.2.1 ++ q.1, q.2)) ∧ k.2.2.1.length ≤ r.length ∧ k.2.2.1.length ≤ k.2.2.2.2 ∧ Reads w0 l 1 k.2.2.2.1 k.2.2.1.length (bytesV k.2.2.1) ∧ St w0 (pt b6 (.cells (u64V (k.2.1 ++ List.replicate (3 - k.1) 0)).toArray 131 (0, 0)) :: pt b2 (.cells hdZ.toArray 43 (0, 0)) :: l) w)
   (fun k => 3 - k.1) (0, [], r, adv sl (1 * 1) (Nat.beq c 1), c - 1) ⟨rfl, rfl, rfl, rfl, rfl, trivial⟩ ⟨Nat.zero_le _, rfl, (fun _ h => by cases h), (by rw [← hG]; simp), Nat.le_refl _, (by dsimp only; omega), hrt, h⟩ ?_
  clear h
  rintro ⟨k, vals, rest, ra, rc⟩ w e ⟨hk, hvl, hv, inv, hrl, hrc, hrr, h⟩
  dsimp only at hk hvl hv inv hrl hrc hrr h ⊢
  refine c_seq (c_region ?_)
  refine r_v (q_lss rfl rfl) rfl ?_
  refine r_nil ?_
  refine c_seq (c_cond (decide ((k : Int) < 3)) rfl (fun hc1 => ?_) (fun hc1 => ?_))
  ·
   have hlt : k < 3 := by simp at hc1; omega
   rw [show 3 - k = (3 - (k + 1)) + 1 by omega, getVs] at inv
   have hk2 := vget_le rest
   have hx := vget_lt rest
   refine c_skip ?_
   refine c_seq (c_block ?_)
   refine c_seq (c_region ?_)
   refine r_v (q_moveI rfl) rfl ?_; refine r_v (q_assignI rfl) rfl ?_
   refine r_nil ?_
   refine c_seq (c_region ?_)
   refine r_v (q_moveS rfl) rfl ?_
   refine r_c rfl (x_call rfl (vint_Get h (hrr.more [_, _]).rd (by omega)) ?_)
   rintro _ w ⟨rfl, h⟩
   refine r_v (q_moveT rfl) rfl ?_; refine r_v (q_ext rfl rfl) rfl ?_; refine r_v (q_ext rfl rfl) rfl ?_; refine r_v (q_assignI rfl) rfl ?_; refine r_v (q_assignI rfl) rfl ?_
   refine r_nil ?_
   generalize (vget rest).1 = x at hx inv ⊢
   generalize (vget rest).2 = j at hk2 inv ⊢
   refine c_seq (c_seq (c_region ?_))
   refine r_v (q_moveI rfl) rfl ?_; refine r_v (q_eql rfl rfl) rfl ?_
   by_cases hj0 : j = 0
   ·refine r_is (.bool true) (by rw [hj0]; rfl) ?_
    refine r_nil (c_true rfl ?_)
    refine c_seq (c_region ?_)
    refine r_v (q_build (r := hdZ) rfl) rfl ?_
    refine r_c rfl (x_storeA (vs := hdZ) 1 h rfl rfl rfl rfl rfl rfl rfl fun w h => ?_)
    replace h := h.drop
    replace h : St w0 (pt b2 (.cells hdZ.toArray 43 (0, 0)) :: l) w := h
    refine r_v (q_assignS rfl) rfl ?_; refine r_v (q_assignB rfl) rfl ?_
    refine r_nil ?_
    rw [if_pos hj0] at inv
    exact c_ret (bqS3 (l := hdZ) rfl rfl (at_of (h.b 0 rfl) rfl) ⟨.inl ⟨by rw [hdef, inv]; rfl, rfl⟩, h.drop⟩)
   refine r_is (.bool false) (by congr 1; rw [beq_eq_false_iff_ne]; omega) ?_
   refine r_nil (c_false rfl (c_skip ?_))
   rw [if_neg hj0, Option.map_map] at inv
   have hrt := hrr.tailB hk2 hrc
   refine c_any (some 6) (fun w => St w0 _ w) (by kernel_rfl) (by kernel_rfl) h.drew fun w h => ?_
   refine cur_pure rfl rfl rfl rfl (fun _ => h) (fun _ => flt_v rfl (q_moveI rfl)) ?_; refine cur_pure rfl rfl rfl rfl (fun _ => h) (fun _ => flt_v rfl (q_moveI rfl)) ?_; refine cur_pure rfl rfl rfl rfl (fun _ => h) (fun _ => flt_v rfl (q_moveS rfl)) ?_; refine cur_pure rfl rfl rfl rfl (fun _ => h) (fun _ => flt_v rfl (q_moveI rfl)) ?_
   refine cur_pure rfl rfl rfl rfl (fun _ => h) (fun _ => flt_v rfl (q_is (v' := .slice (adv ra (j * 1) (Nat.beq rc j)) (rest.drop j).length (rc - j)) (q_tail (i := j) rfl rfl hk2) (by rw [List.length_drop]; rfl))) ?_
   refine cur_pure rfl rfl rfl rfl (fun _ => h) (fun _ => flt_v rfl (q_aidx (j := k) (o' := k) rfl rfl rfl hlt (by simp))) ?_
   refine cur_skip ?_; refine cur_skip ?_
   refine cur_step 6 none rfl rfl rfl rfl ?_
   refine x_store 0 h rfl (show _ = Value.int .u64 (x : Int) from rfl) rfl (by rw [Nat.blt_eq]; simp [u64V]; omega) rfl rfl fun w h => ?_
   simp only [List.set_cons_zero] at h
   rw [u64V_set3 hvl hlt] at h
   refine cur_from h ?_
   refine cur_pure rfl rfl rfl rfl (fun _ => h) (fun _ => flt_v rfl (q_assignS rfl)) ?_
   refine cur_end ?_
   refine c_region ?_
   refine r_v (q_add rfl rfl) rfl ?_
   refine r_is (.int .i64 ((k + 1 : Nat) : Int)) (by rw [wrap64 (by omega) (by omega)]; rfl) ?_
   refine r_v (q_moveI rfl) rfl ?_
   refine r_nil ⟨(k + 1, vals ++ [x], rest.drop j, adv ra (j * 1) (Nat.beq rc j), rc - j), ⟨rfl, rfl, rfl, rfl, rfl, trivial⟩, ⟨hlt, by simp; omega, fun z hz => ?_, ?_, by dsimp only; rw [List.length_drop]; omega, by dsimp only; rw [List.length_drop]; omega, hrt, h⟩, by dsimp only; omega⟩
   ·rcases List.mem_append.1 hz with hz | hz
    ·exact hv z hz
    ·simp at hz; subst hz; exact hx
   ·dsimp only
    rw [inv]
    congr 1
    funext q
    simp
  have hk3 : k = 3 := by simp at hc1; omega
  subst hk3
  rw [Nat.sub_self, getVs, Option.map_some, List.append_nil] at inv
  rw [Nat.sub_self, List.replicate_zero, List.append_nil] at h
  match vals, hvl with
  | [v0, v1, v2], _ =>
   exact c_exit ⟨(v0, v1, v2, rest, ra, rc), ⟨rfl, rfl, rfl, rfl, trivial⟩, inv, hv v0 (by simp), hv v1 (by simp), hv v2 (by simp), hrl, hrc, hrr, h⟩
 clear h
 rintro ⟨v0, v1, v2, rest, ra, rc⟩ w e ⟨hGs, hv0, hv1, hv2, hrl, hrc, hrr, h⟩
 dsimp only at hGs hv0 hv1 hv2 hrl hrc hrr h ⊢
 rw [hGs] at hdef
 dsimp only at hdef
 rw [show [v0, v1, v2].getD 0 0 = v0 from rfl, show [v0, v1, v2].getD 1 0 = v1 from rfl, show [v0, v1, v2].getD 2 0 = v2 from rfl, show hdOf ch [v0, v1, v2] = ⟨ch.toNat, v0, sg (zagU v1), sg (zagU v2)⟩ from rfl] at hdef
 have hch := ch.toNat_lt
 refine c_cut (Γ := Nat) (fun b10 => [(2, .pointer (some ⟨b2, 0, none⟩)), (5, .slice ra rest.length rc), (10, .pointer (some ⟨b10, 0, none⟩))])
  (fun b10 w => St w0 (pt b10 (.cells (hdC ⟨ch.toNat, min v0 65536, sg (zagU v1), sg (zagU v2)⟩).toArray 43 (0, 0)) :: pt b2 (.cells hdZ.toArray 43 (0, 0)) :: l) w) ?_ ?_
 ·have hcc : ∀ {w'}, (∃ M, St w0 (M ++ (pt b6 (.cells (u64V [v0, v1, v2]).toArray 131 (0, 0)) :: pt b2 (.cells hdZ.toArray 43 (0, 0)) :: l)) w') → w'.cell? ⟨b, o, none⟩ = some (.int .u8 ch.toNat) := fun ⟨M, h'⟩ => hc0 (M := []) ((h'.drops).drop.drop)
  have hca : ∀ {w'}, (∃ M, St w0 (M ++ (pt b6 (.cells (u64V [v0, v1, v2]).toArray 131 (0, 0)) :: pt b2 (.cells hdZ.toArray 43 (0, 0)) :: l)) w') → w'.heap[b6]? = some (.cells (u64V [v0, v1, v2]).toArray 131 (0, 0)) := fun ⟨M, h'⟩ => (h'.drops).b 0 rfl
  refine c_anyW [0, 1, 2, 3, 4, 5, 6, 7, 8, 9, 10, 11, 12, 13, 14, 15, 16] (some 16) (fun w => ∃ M, St w0 (M ++ (pt b6 (.cells (u64V [v0, v1, v2]).toArray 131 (0, 0)) :: pt b2 (.cells hdZ.toArray 43 (0, 0)) :: l)) w) (by kernel_rfl) (by kernel_rfl) ?_
  replace h := h.drew
  generalize w.drew = w at h
  have hs := h
  replace h : ∃ M, St w0 (M ++ (pt b6 (.cells (u64V [v0, v1, v2]).toArray 131 (0, 0)) :: pt b2 (.cells hdZ.toArray 43 (0, 0)) :: l)) w := ⟨[], hs⟩
  refine cur_pure rfl rfl rfl rfl (fun _ => h) (fun _ => flt_v rfl (q_moveS rfl)) ?_
  refine cur_pure rfl rfl rfl rfl (fun _ => h) (fun _ => flt_v rfl (q_idx (b := b) (o := o) (m := (ch :: r).length) (c := c) (j := 0) (o' := o) (by rw [← hsl]; rfl) rfl rfl (by simp) (by simp))) ?_
  refine cur_float rfl rfl rfl rfl h (fun w h => flt_v rfl (q_loadc (v := .int .u8 ch.toNat) rfl (hcc h))) ?_
  refine cur_pure rfl rfl rfl rfl (fun _ => h) (fun _ => flt_v rfl (q_is (v' := .int .i64 (ch.toNat : Int)) (q_conv rfl) (by rw [wrap64 (by omega) (by omega)]))) ?_
  refine cur_pure rfl rfl rfl rfl (fun _ => h) (fun _ => flt_v rfl (q_aidx (j := 0) (o' := 0) rfl rfl rfl (by decide) rfl)) ?_
  refine cur_float rfl rfl rfl rfl h (fun w h => flt_v rfl (q_load (v := .int .u64 (v0 : Int)) rfl (hca h) rfl)) ?_
  refine cur_pure rfl rfl rfl rfl (fun _ => h) (fun _ => flt_v rfl (q_is (v' := .int .u64 ((min v0 65536 : Nat) : Int)) (q_min rfl rfl) (by congr 1; omega))) ?_
  refine cur_pure rfl rfl rfl rfl (fun _ => h) (fun _ => flt_v rfl (q_is (v' := .int .i64 ((min v0 65536 : Nat) : Int)) (q_conv rfl) (by rw [wrap64 (by omega) (by omega)]))) ?_
  refine cur_pure rfl rfl rfl rfl (fun _ => h) (fun _ => flt_v rfl (q_aidx (j := 1) (o' := 1) rfl rfl rfl (by decide) rfl)) ?_
  refine cur_float rfl rfl rfl rfl h (fun w h => flt_v rfl (q_load (v := .int .u64 (v1 : Int)) rfl (hca h) rfl)) ?_
  refine cur_skip ?_
  refine cur_pure rfl rfl rfl rfl (fun _ => h) (fun _ => flt_v rfl (q_aidx (j := 2) (o' := 2) rfl rfl rfl (by decide) rfl)) ?_
  refine cur_float rfl rfl rfl rfl h (fun w h => flt_v rfl (q_load (v := .int .u64 (v2 : Int)) rfl (hca h) rfl)) ?_
  refine cur_skip ?_; refine cur_skip ?_; refine cur_skip ?_; refine cur_skip ?_
  refine cur_two 10 15 rfl rfl rfl rfl rfl rfl ?_ ?_
  ·refine (x_call rfl (vint_Zag hv1 hs) ?_)
   rintro _ w ⟨rfl, hs⟩
   replace h : ∃ M, St w0 (M ++ (pt b6 (.cells (u64V [v0, v1, v2]).toArray 131 (0, 0)) :: pt b2 (.cells hdZ.toArray 43 (0, 0)) :: l)) w := ⟨[], hs⟩
   refine ⟨fun _ => h, ?_⟩
   refine cur_skip ?_; refine cur_skip ?_; refine cur_skip ?_; refine cur_skip ?_
   refine cur_two 13 15 rfl rfl rfl rfl rfl rfl ?_ ?_
   ·refine (x_call rfl (vint_Zag hv2 hs) ?_)
    rintro _ w ⟨rfl, hs⟩
    replace h : ∃ M, St w0 (M ++ (pt b6 (.cells (u64V [v0, v1, v2]).toArray 131 (0, 0)) :: pt b2 (.cells hdZ.toArray 43 (0, 0)) :: l)) w := ⟨[], hs⟩
    refine ⟨fun _ => h, ?_⟩
    refine cur_pure rfl rfl rfl rfl (fun _ => h) (fun _ => flt_v rfl (q_build (r := hdC ⟨ch.toNat, min v0 65536, sg (zagU v1), sg (zagU v2)⟩) rfl)) ?_
    refine cur_skip ?_; refine cur_skip ?_
    refine cur_one 15 rfl rfl rfl rfl ?_
    refine (x_alloc hs fun b10 w hs => ?_)
    replace h : ∃ M, St w0 (M ++ (pt b6 (.cells (u64V [v0, v1, v2]).toArray 131 (0, 0)) :: pt b2 (.cells hdZ.toArray 43 (0, 0)) :: l)) w := ⟨[_], hs⟩
    refine ⟨fun _ => h, ?_⟩
    refine cur_skip ?_
    refine cur_last 16 rfl rfl rfl ?_
    refine x_storeA (vs := hdC ⟨ch.toNat, min v0 65536, sg (zagU v1), sg (zagU v2)⟩) 0 hs rfl rfl rfl rfl rfl rfl rfl fun w hs => ?_
    exact ⟨b10, ⟨rfl, rfl, rfl, trivial⟩, (hs.f 1).drop⟩
   ·refine (x_alloc hs fun b10 w hs => ?_)
    replace h : ∃ M, St w0 (M ++ (pt b6 (.cells (u64V [v0, v1, v2]).toArray 131 (0, 0)) :: pt b2 (.cells hdZ.toArray 43 (0, 0)) :: l)) w := ⟨[_], hs⟩
    refine ⟨fun _ => h, ?_⟩
    refine cur_skip ?_; refine cur_skip ?_; refine cur_skip ?_
    refine cur_one 13 rfl rfl rfl rfl ?_
    refine (x_call rfl (vint_Zag hv2 hs) ?_)
    rintro _ w ⟨rfl, hs⟩
    replace h : ∃ M, St w0 (M ++ (pt b6 (.cells (u64V [v0, v1, v2]).toArray 131 (0, 0)) :: pt b2 (.cells hdZ.toArray 43 (0, 0)) :: l)) w := ⟨[_], hs⟩
    refine ⟨fun _ => h, ?_⟩
    refine cur_pure rfl rfl rfl rfl (fun _ => h) (fun _ => flt_v rfl (q_build (r := hdC ⟨ch.toNat, min v0 65536, sg (zagU v1), sg (zagU v2)⟩) rfl)) ?_
    refine cur_skip ?_
    refine cur_last 16 rfl rfl rfl ?_
    refine x_storeA (vs := hdC ⟨ch.toNat, min v0 65536, sg (zagU v1), sg (zagU v2)⟩) 0 hs rfl rfl rfl rfl rfl rfl rfl fun w hs => ?_
    exact ⟨b10, ⟨rfl, rfl, rfl, trivial⟩, (hs.f 1).drop⟩
  ·refine (x_alloc hs fun b10 w hs => ?_)
   replace h : ∃ M, St w0 (M ++ (pt b6 (.cells (u64V [v0, v1, v2]).toArray 131 (0, 0)) :: pt b2 (.cells hdZ.toArray 43 (0, 0)) :: l)) w := ⟨[_], hs⟩
   refine ⟨fun _ => h, ?_⟩
   refine cur_skip ?_; refine cur_skip ?_; refine cur_skip ?_; refine cur_skip ?_
   refine cur_one 10 rfl rfl rfl rfl ?_
   refine (x_call rfl (vint_Zag hv1 hs) ?_)
   rintro _ w ⟨rfl, hs⟩
   replace h : ∃ M, St w0 (M ++ (pt b6 (.cells (u64V [v0, v1, v2]).toArray 131 (0, 0)) :: pt b2 (.cells hdZ.toArray 43 (0, 0)) :: l)) w := ⟨[_], hs⟩
   refine ⟨fun _ => h, ?_⟩
   refine cur_skip ?_; refine cur_skip ?_; refine cur_skip ?_
   refine cur_one 13 rfl rfl rfl rfl ?_
   refine (x_call rfl (vint_Zag hv2 hs) ?_)
   rintro _ w ⟨rfl, hs⟩
   replace h : ∃ M, St w0 (M ++ (pt b6 (.cells (u64V [v0, v1, v2]).toArray 131 (0, 0)) :: pt b2 (.cells hdZ.toArray 43 (0, 0)) :: l)) w := ⟨[_], hs⟩
   refine ⟨fun _ => h, ?_⟩
   refine cur_pure rfl rfl rfl rfl (fun _ => h) (fun _ => flt_v rfl (q_build (r := hdC ⟨ch.toNat, min v0 65536, sg (zagU v1), sg (zagU v2)⟩) rfl)) ?_
   refine cur_skip ?_
   refine cur_last 16 rfl rfl rfl ?_
   refine x_storeA (vs := hdC ⟨ch.toNat, min v0 65536, sg (zagU v1), sg (zagU v2)⟩) 0 hs rfl rfl rfl rfl rfl rfl rfl fun w hs => ?_
   exact ⟨b10, ⟨rfl, rfl, rfl, trivial⟩, (hs.f 1).drop⟩
 clear h
 rintro b10 w e h
 refine c_cut (Γ := Unit) (fun _ => [(2, .pointer (some ⟨b2, 0, none⟩)), (5, .slice ra rest.length rc), (10, .pointer (some ⟨b10, 0, none⟩))])
  (fun _ w => ¬ (v0 < 1 ∨ 65535 < v0 ∨ sg (zagU v2) < sg (zagU v1)) ∧ St w0 (pt b10 (.cells (hdC ⟨ch.toNat, min v0 65536, sg (zagU v1), sg (zagU v2)⟩).toArray 43 (0, 0)) :: pt b2 (.cells hdZ.toArray 43 (0, 0)) :: l) w) ?_ ?_
 ·refine c_seq (c_region ?_)
  refine r_v (q_fa rfl) rfl ?_
  refine r_v (q_load (v := .int .i64 ((min v0 65536 : Nat) : Int)) rfl (h.b 0 rfl) rfl) rfl ?_
  by_cases g1 : v0 < 1
  ·refine r_v (q_is (v' := .bool true) (q_lss rfl rfl) (by congr 1; simp; omega)) rfl ?_
   refine r_v (q_moveB rfl) rfl ?_; (first | refine r_gd rfl rfl ?_ | refine r_gn rfl rfl rfl ?_ | refine r_gu rfl rfl ?_ | refine r_gd rfl (by assumption) ?_ | refine r_gn rfl (by assumption) rfl ?_); (first | refine r_gd rfl rfl ?_ | refine r_gn rfl rfl rfl ?_ | refine r_gu rfl rfl ?_ | refine r_gd rfl (by assumption) ?_ | refine r_gn rfl (by assumption) rfl ?_); (first | refine r_gd rfl rfl ?_ | refine r_gn rfl rfl rfl ?_ | refine r_gu rfl rfl ?_ | refine r_gd rfl (by assumption) ?_ | refine r_gn rfl (by assumption) rfl ?_); (first | refine r_v (q_pick1 rfl rfl rfl) rfl ?_ | refine r_v (q_pick0 rfl rfl rfl) rfl ?_ | refine r_v (q_pick1 rfl (by assumption) rfl) rfl ?_ | refine r_v (q_pick0 rfl (by assumption) rfl) rfl ?_ | refine r_v (q_pickB rfl rfl rfl) rfl ?_); refine r_v (q_moveB rfl) rfl ?_; (first | refine r_gd rfl rfl ?_ | refine r_gn rfl rfl rfl ?_ | refine r_gu rfl rfl ?_ | refine r_gd rfl (by assumption) ?_ | refine r_gn rfl (by assumption) rfl ?_); (first | refine r_gd rfl rfl ?_ | refine r_gn rfl rfl rfl ?_ | refine r_gu rfl rfl ?_ | refine r_gd rfl (by assumption) ?_ | refine r_gn rfl (by assumption) rfl ?_); (first | refine r_gd rfl rfl ?_ | refine r_gn rfl rfl rfl ?_ | refine r_gu rfl rfl ?_ | refine r_gd rfl (by assumption) ?_ | refine r_gn rfl (by assumption) rfl ?_); (first | refine r_gd rfl rfl ?_ | refine r_gn rfl rfl rfl ?_ | refine r_gu rfl rfl ?_ | refine r_gd rfl (by assumption) ?_ | refine r_gn rfl (by assumption) rfl ?_); (first | refine r_gd rfl rfl ?_ | refine r_gn rfl rfl rfl ?_ | refine r_gu rfl rfl ?_ | refine r_gd rfl (by assumption) ?_ | refine r_gn rfl (by assumption) rfl ?_); (first | refine r_v (q_pick1 rfl rfl rfl) rfl ?_ | refine r_v (q_pick0 rfl rfl rfl) rfl ?_ | refine r_v (q_pick1 rfl (by assumption) rfl) rfl ?_ | refine r_v (q_pick0 rfl (by assumption) rfl) rfl ?_ | refine r_v (q_pickB rfl rfl rfl) rfl ?_)
   refine r_nil (c_true rfl ?_)
   refine c_seq (c_region ?_)
   refine r_v (q_build (r := hdZ) rfl) rfl ?_
   refine r_c rfl (x_storeA (vs := hdZ) 1 h rfl rfl rfl rfl rfl rfl rfl fun w h => ?_)
   replace h := h.drop
   replace h : St w0 (pt b2 (.cells hdZ.toArray 43 (0, 0)) :: l) w := h
   refine r_v (q_assignS rfl) rfl ?_; refine r_v (q_assignB rfl) rfl ?_
   refine r_nil ?_
   exact c_ret (bqS3 (l := hdZ) rfl rfl (at_of (h.b 0 rfl) rfl) ⟨.inl ⟨by rw [hdef, if_pos (.inl g1)], rfl⟩, h.drop⟩)
  refine r_v (q_is (v' := .bool false) (q_lss rfl rfl) (by congr 1; simp; omega)) rfl ?_
  refine r_v (q_moveB rfl) rfl ?_; (first | refine r_gd rfl rfl ?_ | refine r_gn rfl rfl rfl ?_ | refine r_gu rfl rfl ?_ | refine r_gd rfl (by assumption) ?_ | refine r_gn rfl (by assumption) rfl ?_); refine r_v (q_fa rfl) rfl ?_; (first | refine r_gd rfl rfl ?_ | refine r_gn rfl rfl rfl ?_ | refine r_gu rfl rfl ?_ | refine r_gd rfl (by assumption) ?_ | refine r_gn rfl (by assumption) rfl ?_)
  refine r_v (q_load (v := .int .i64 ((min v0 65536 : Nat) : Int)) rfl (h.b 0 rfl) rfl) rfl ?_
  refine r_gd rfl rfl ?_
  by_cases g2 : 65535 < v0
  ·refine r_v (q_is (v' := .bool true) (q_gtr rfl rfl) (by congr 1; simp; omega)) rfl ?_
   (first | refine r_v (q_pick1 rfl rfl rfl) rfl ?_ | refine r_v (q_pick0 rfl rfl rfl) rfl ?_ | refine r_v (q_pick1 rfl (by assumption) rfl) rfl ?_ | refine r_v (q_pick0 rfl (by assumption) rfl) rfl ?_ | refine r_v (q_pickB rfl rfl rfl) rfl ?_); refine r_v (q_moveB rfl) rfl ?_; (first | refine r_gd rfl rfl ?_ | refine r_gn rfl rfl rfl ?_ | refine r_gu rfl rfl ?_ | refine r_gd rfl (by assumption) ?_ | refine r_gn rfl (by assumption) rfl ?_); (first | refine r_gd rfl rfl ?_ | refine r_gn rfl rfl rfl ?_ | refine r_gu rfl rfl ?_ | refine r_gd rfl (by assumption) ?_ | refine r_gn rfl (by assumption) rfl ?_); (first | refine r_gd rfl rfl ?_ | refine r_gn rfl rfl rfl ?_ | refine r_gu rfl rfl ?_ | refine r_gd rfl (by assumption) ?_ | refine r_gn rfl (by assumption) rfl ?_); (first | refine r_gd rfl rfl ?_ | refine r_gn rfl rfl rfl ?_ | refine r_gu rfl rfl ?_ | refine r_gd rfl (by assumption) ?_ | refine r_gn rfl (by assumption) rfl ?_); (first | refine r_gd rfl rfl ?_ | refine r_gn rfl rfl rfl ?_ | refine r_gu rfl rfl ?_ | refine r_gd rfl (by assumption) ?_ | refine r_gn rfl (by assumption) rfl ?_); (first | refine r_v (q_pick1 rfl rfl rfl) rfl ?_ | refine r_v (q_pick0 rfl rfl rfl) rfl ?_ | refine r_v (q_pick1 rfl (by assumption) rfl) rfl ?_ | refine r_v (q_pick0 rfl (by assumption) rfl) rfl ?_ | refine r_v (q_pickB rfl rfl rfl) rfl ?_)
   refine r_nil (c_true rfl ?_)
   refine c_seq (c_region ?_)
   refine r_v (q_build (r := hdZ) rfl) rfl ?_
   refine r_c rfl (x_storeA (vs := hdZ) 1 h rfl rfl rfl rfl rfl rfl rfl fun w h => ?_)
   replace h := h.drop
   replace h : St w0 (pt b2 (.cells hdZ.toArray 43 (0, 0)) :: l) w := h
   refine r_v (q_assignS rfl) rfl ?_; refine r_v (q_assignB rfl) rfl ?_
   refine r_nil ?_
   exact c_ret (bqS3 (l := hdZ) rfl rfl (at_of (h.b 0 rfl) rfl) ⟨.inl ⟨by rw [hdef, if_pos (.inr (.inl g2))], rfl⟩, h.drop⟩)
  refine r_v (q_is (v' := .bool false) (q_gtr rfl rfl) (by congr 1; simp; omega)) rfl ?_
  (first | refine r_v (q_pick1 rfl rfl rfl) rfl ?_ | refine r_v (q_pick0 rfl rfl rfl) rfl ?_ | refine r_v (q_pick1 rfl (by assumption) rfl) rfl ?_ | refine r_v (q_pick0 rfl (by assumption) rfl) rfl ?_ | refine r_v (q_pickB rfl rfl rfl) rfl ?_); refine r_v (q_moveB rfl) rfl ?_; (first | refine r_gd rfl rfl ?_ | refine r_gn rfl rfl rfl ?_ | refine r_gu rfl rfl ?_ | refine r_gd rfl (by assumption) ?_ | refine r_gn rfl (by assumption) rfl ?_); refine r_v (q_fa rfl) rfl ?_; (first | refine r_gd rfl rfl ?_ | refine r_gn rfl rfl rfl ?_ | refine r_gu rfl rfl ?_ | refine r_gd rfl (by assumption) ?_ | refine r_gn rfl (by assumption) rfl ?_)
  refine r_v (q_load (v := .int .i64 (sg (zagU v1))) rfl (h.b 0 rfl) rfl) rfl ?_
  (first | refine r_gd rfl rfl ?_ | refine r_gn rfl rfl rfl ?_ | refine r_gu rfl rfl ?_ | refine r_gd rfl (by assumption) ?_ | refine r_gn rfl (by assumption) rfl ?_); refine r_v (q_fa rfl) rfl ?_; (first | refine r_gd rfl rfl ?_ | refine r_gn rfl rfl rfl ?_ | refine r_gu rfl rfl ?_ | refine r_gd rfl (by assumption) ?_ | refine r_gn rfl (by assumption) rfl ?_)
  refine r_v (q_load (v := .int .i64 (sg (zagU v2))) rfl (h.b 0 rfl) rfl) rfl ?_
  (first | refine r_gd rfl rfl ?_ | refine r_gn rfl rfl rfl ?_ | refine r_gu rfl rfl ?_ | refine r_gd rfl (by assumption) ?_ | refine r_gn rfl (by assumption) rfl ?_); refine r_v (q_gtr rfl rfl) rfl ?_; (first | refine r_v (q_pick1 rfl rfl rfl) rfl ?_ | refine r_v (q_pick0 rfl rfl rfl) rfl ?_ | refine r_v (q_pick1 rfl (by assumption) rfl) rfl ?_ | refine r_v (q_pick0 rfl (by assumption) rfl) rfl ?_ | refine r_v (q_pickB rfl rfl rfl) rfl ?_)
  refine r_nil (c_cond (decide (sg (zagU v1) > sg (zagU v2))) rfl (fun hc1 => ?_) (fun hc1 => ?_))
  ·refine c_seq (c_region ?_)
   refine r_v (q_build (r := hdZ) rfl) rfl ?_
   refine r_c rfl (x_storeA (vs := hdZ) 1 h rfl rfl rfl rfl rfl rfl rfl fun w h => ?_)
   replace h := h.drop
   replace h : St w0 (pt b2 (.cells hdZ.toArray 43 (0, 0)) :: l) w := h
   refine r_v (q_assignS rfl) rfl ?_; refine r_v (q_assignB rfl) rfl ?_
   refine r_nil ?_
   exact c_ret (bqS3 (l := hdZ) rfl rfl (at_of (h.b 0 rfl) rfl) ⟨.inl ⟨by rw [hdef, if_pos (.inr (.inr (by rw [decide_eq_true_eq] at hc1; exact hc1)))], rfl⟩, h.drop⟩)
  ·refine c_skip ⟨(), ⟨rfl, rfl, rfl, trivial⟩, ?_, h⟩
   rw [decide_eq_false_iff_not] at hc1
   rintro (h | h | h)
   ·exact g1 h
   ·exact g2 h
   ·exact hc1 h
 clear h
 rintro _ w e ⟨hcond2, h⟩
 rw [if_neg hcond2] at hdef
 rw [show min v0 65536 = v0 by omega] at h
 refine c_seq (c_region ?_)
 refine r_v (q_loadS (l := hdC ⟨ch.toNat, v0, sg (zagU v1), sg (zagU v2)⟩) rfl rfl (at_of (h.b 0 rfl) rfl)) rfl ?_
 refine r_v (q_moveS rfl) rfl ?_
 refine r_c rfl (x_storeA (vs := hdC ⟨ch.toNat, v0, sg (zagU v1), sg (zagU v2)⟩) 1 h rfl rfl rfl rfl rfl rfl rfl fun w h => ?_)
 replace h := h.drop
 replace h : St w0 (pt b2 (.cells (hdC ⟨ch.toNat, v0, sg (zagU v1), sg (zagU v2)⟩).toArray 43 (0, 0)) :: l) w := h
 refine r_v (q_assignS rfl) rfl ?_; refine r_v (q_assignB rfl) rfl ?_
 refine r_nil ?_
 exact c_ret (bqS3 (l := hdC ⟨ch.toNat, v0, sg (zagU v1), sg (zagU v2)⟩) rfl rfl (at_of (h.b 0 rfl) rfl) ⟨.inr ⟨_, rest, ra, rc, hdef, rfl, hrc, by omega, by dsimp only; omega, by dsimp only; omega, hrr⟩, h.drop⟩)

theorem chnk_Head {sl : Option Addr} {c : Nat} {bs : List UInt8} (hn : bs.length ≤ 140737488355328) (hc : bs.length ≤ c) (hr : Reads w0 l 1 sl bs.length (bytesV bs)) (h : St w0 l w) :
  Ret Tryz.prog 22 [.slice sl bs.length c] w fun v w' => v = .tuple [.agg ((((headDec bs).map fun q => hdC q.1).getD hdZ)).toArray, .bool (headDec bs).isSome].toArray ∧ St w0 l w' := by
 refine enter Tryz.func22 rfl Tryz.results22 Tryz.ntmps22 rfl ?_
 refine c_seq (c_region ?_)
 refine r_c rfl (x_alloc h fun b2 w h => ?_)
 refine r_v (q_assignB rfl) rfl ?_
 refine r_nil ?_
 refine c_seq (c_region ?_)
 refine r_v (q_moveS rfl) rfl ?_
 refine r_c rfl (x_call rfl (chnk_head hn hc hr.cons h) ?_)
 rintro _ w ⟨(⟨hd0, rfl⟩ | ⟨hd, rest, ra, rc, hd0, rfl, hrc, hrl, hcnt, htag, hrr⟩), h⟩
 ·rw [hd0]
  refine r_v (q_moveT rfl) rfl ?_; refine r_v (q_ext rfl rfl) rfl ?_; refine r_v (q_ext rfl rfl) rfl ?_; refine r_v (q_ext rfl rfl) rfl ?_
  refine r_c rfl (x_alloc h fun b4 w h => ?_)
  refine r_c rfl (x_storeA (vs := hdZ) 0 h rfl rfl rfl rfl rfl rfl rfl fun w h => ?_)
  replace h : St w0 (pt b4 (.cells hdZ.toArray 43 (0, 0)) :: pt b2 (.cells hdZ.toArray 43 (0, 0)) :: l) w := h
  refine r_v (q_assignS rfl) rfl ?_; refine r_v (q_assignB rfl) rfl ?_
  refine r_nil ?_
  refine c_seq (c_region ?_)
  refine r_v (q_loadS (l := hdZ) rfl rfl (at_of (h.b 0 rfl) rfl)) rfl ?_
  refine r_v (q_moveB rfl) rfl ?_
  refine r_c rfl (x_storeA (vs := hdZ) 1 h rfl rfl rfl rfl rfl rfl rfl fun w h => ?_)
  replace h := h.drop
  replace h : St w0 (pt b2 (.cells hdZ.toArray 43 (0, 0)) :: l) w := h
  refine r_v (q_assignB rfl) rfl ?_
  refine r_nil ?_
  exact c_ret (bqS2 (l := hdZ) rfl rfl (at_of (h.b 0 rfl) rfl) ⟨rfl, h.drop⟩)
 ·rw [hd0]
  refine r_v (q_moveT rfl) rfl ?_; refine r_v (q_ext rfl rfl) rfl ?_; refine r_v (q_ext rfl rfl) rfl ?_; refine r_v (q_ext rfl rfl) rfl ?_
  refine r_c rfl (x_alloc h fun b4 w h => ?_)
  refine r_c rfl (x_storeA (vs := hdC hd) 0 h rfl rfl rfl rfl rfl rfl rfl fun w h => ?_)
  replace h : St w0 (pt b4 (.cells (hdC hd).toArray 43 (0, 0)) :: pt b2 (.cells hdZ.toArray 43 (0, 0)) :: l) w := h
  refine r_v (q_assignS rfl) rfl ?_; refine r_v (q_assignB rfl) rfl ?_
  refine r_nil ?_
  refine c_seq (c_region ?_)
  refine r_v (q_loadS (l := hdC hd) rfl rfl (at_of (h.b 0 rfl) rfl)) rfl ?_
  refine r_v (q_moveB rfl) rfl ?_
  refine r_c rfl (x_storeA (vs := hdC hd) 1 h rfl rfl rfl rfl rfl rfl rfl fun w h => ?_)
  replace h := h.drop
  replace h : St w0 (pt b2 (.cells (hdC hd).toArray 43 (0, 0)) :: l) w := h
  refine r_v (q_assignB rfl) rfl ?_
  refine r_nil ?_
  exact c_ret (bqS2 (l := hdC hd) rfl rfl (at_of (h.b 0 rfl) rfl) ⟨rfl, h.drop⟩)

theorem chnk_Open (hT : Tz w0) {sl : Option Addr} {c : Nat} {bs : List UInt8} (hn : bs.length ≤ 140737488355328) (hc : bs.length ≤ c) (hr : Reads w0 l 1 sl bs.length (bytesV bs)) (h : St w0 l w) :
  Ret Tryz.prog 20 [.slice sl bs.length c] w fun v w' => ∃ a c', v = .tuple [.slice a (((chOpen bs).map Prod.fst).getD []).length c', .int .i64 ((((chOpen bs).map Prod.snd).getD 0 : Nat) : Int), .bool (chOpen bs).isSome].toArray ∧ (∀ L t, chOpen bs = some (L, t) → L.length ≤ 65535 ∧ ∀ s ∈ L, s.Wf) ∧ St w0 (OwnS a c' (((chOpen bs).map Prod.fst).getD []) :: l) w' := by
 have bad : ∀ {w : World}, chOpen bs = none → St w0 l w → ∃ a c', Value.tuple [.slice none 0 0, .int .i64 0, .bool false].toArray = .tuple [.slice a (((chOpen bs).map Prod.fst).getD []).length c', .int .i64 ((((chOpen bs).map Prod.snd).getD 0 : Nat) : Int), .bool (chOpen bs).isSome].toArray ∧ (∀ L t, chOpen bs = some (L, t) → L.length ≤ 65535 ∧ ∀ s ∈ L, s.Wf) ∧ St w0 (OwnS a c' (((chOpen bs).map Prod.fst).getD []) :: l) w := fun hb h => by
  rw [hb]
  exact ⟨none, 0, rfl, (fun _ _ h => by cases h), St.ownNil _ _ h⟩
 have hdef : chOpen bs = _ := rfl
 conv at hdef => rhs; unfold chOpen
 refine enter Tryz.func20 rfl Tryz.results20 Tryz.ntmps20 rfl ?_
 refine c_seq (c_region ?_)
 refine r_v (q_assignS rfl) rfl ?_; refine r_v (q_assignI rfl) rfl ?_; refine r_v (q_assignB rfl) rfl ?_
 refine r_nil ?_
 refine c_seq (c_region ?_)
 refine r_v (q_moveS rfl) rfl ?_
 refine r_c rfl (x_call rfl (chnk_head hn hc hr h) ?_)
 clear h
 rintro _ w ⟨(⟨hd0, rfl⟩ | ⟨hd, rest, ra, rc, hd0, rfl, hrc, hrl, hcnt, htag, hrr⟩), h⟩
 ·rw [hd0] at hdef
  refine r_v (q_moveT rfl) rfl ?_; refine r_v (q_ext rfl rfl) rfl ?_; refine r_v (q_ext rfl rfl) rfl ?_; refine r_v (q_ext rfl rfl) rfl ?_
  refine r_c rfl (x_alloc h fun b5 w h => ?_)
  refine r_c rfl (x_storeA (vs := hdZ) 0 h rfl rfl rfl rfl rfl rfl rfl fun w h => ?_)
  replace h := h.drop
  refine r_v (q_assignS rfl) rfl ?_; refine r_v (q_assignB rfl) rfl ?_
  refine r_nil ?_
  refine c_seq (c_seq (c_region ?_))
  refine r_v (q_moveB rfl) rfl ?_; refine r_v (q_not rfl) rfl ?_; refine r_v (q_moveB rfl) rfl ?_; (first | refine r_gd rfl rfl ?_ | refine r_gn rfl rfl rfl ?_ | refine r_gu rfl rfl ?_ | refine r_gd rfl (by assumption) ?_ | refine r_gn rfl (by assumption) rfl ?_); (first | refine r_gd rfl rfl ?_ | refine r_gn rfl rfl rfl ?_ | refine r_gu rfl rfl ?_ | refine r_gd rfl (by assumption) ?_ | refine r_gn rfl (by assumption) rfl ?_); (first | refine r_gd rfl rfl ?_ | refine r_gn rfl rfl rfl ?_ | refine r_gu rfl rfl ?_ | refine r_gd rfl (by assumption) ?_ | refine r_gn rfl (by assumption) rfl ?_); (first | refine r_v (q_pick1 rfl rfl rfl) rfl ?_ | refine r_v (q_pick0 rfl rfl rfl) rfl ?_ | refine r_v (q_pick1 rfl (by assumption) rfl) rfl ?_ | refine r_v (q_pick0 rfl (by assumption) rfl) rfl ?_ | refine r_v (q_pickB rfl rfl rfl) rfl ?_)
  refine r_nil (c_true rfl ?_)
  refine c_seq (c_region ?_)
  refine r_v (q_assignS rfl) rfl ?_; refine r_v (q_assignI rfl) rfl ?_; refine r_v (q_assignB rfl) rfl ?_
  refine r_nil ?_
  exact c_ret (bq3 (bad hdef h))
 rw [hd0] at hdef
 dsimp only at hdef
 refine r_v (q_moveT rfl) rfl ?_; refine r_v (q_ext rfl rfl) rfl ?_; refine r_v (q_ext rfl rfl) rfl ?_; refine r_v (q_ext rfl rfl) rfl ?_
 refine r_c rfl (x_alloc h fun b5 w h => ?_)
 refine r_c rfl (x_storeA (vs := hdC hd) 0 h rfl rfl rfl rfl rfl rfl rfl fun w h => ?_)
 replace h : St w0 (pt b5 (.cells (hdC hd).toArray 43 (0, 0)) :: l) w := h
 refine r_v (q_assignS rfl) rfl ?_; refine r_v (q_assignB rfl) rfl ?_
 refine r_nil ?_
 refine c_seq (c_seq (c_region ?_))
 refine r_v (q_moveB rfl) rfl ?_; refine r_v (q_not rfl) rfl ?_; refine r_v (q_moveB rfl) rfl ?_; (first | refine r_gd rfl rfl ?_ | refine r_gn rfl rfl rfl ?_ | refine r_gu rfl rfl ?_ | refine r_gd rfl (by assumption) ?_ | refine r_gn rfl (by assumption) rfl ?_); refine r_v (q_moveS rfl) rfl ?_; (first | refine r_gd rfl rfl ?_ | refine r_gn rfl rfl rfl ?_ | refine r_gu rfl rfl ?_ | refine r_gd rfl (by assumption) ?_ | refine r_gn rfl (by assumption) rfl ?_); refine r_v (q_len rfl) rfl ?_; (first | refine r_gd rfl rfl ?_ | refine r_gn rfl rfl rfl ?_ | refine r_gu rfl rfl ?_ | refine r_gd rfl (by assumption) ?_ | refine r_gn rfl (by assumption) rfl ?_); refine r_v (q_lss rfl rfl) rfl ?_; (first | refine r_v (q_pick1 rfl rfl rfl) rfl ?_ | refine r_v (q_pick0 rfl rfl rfl) rfl ?_ | refine r_v (q_pick1 rfl (by assumption) rfl) rfl ?_ | refine r_v (q_pick0 rfl (by assumption) rfl) rfl ?_ | refine r_v (q_pickB rfl rfl rfl) rfl ?_)
 refine r_nil (c_cond (decide ((rest.length : Int) < 4)) rfl (fun hc1 => ?_) (fun hc1 => ?_))
 ·refine c_seq (c_region ?_)
  refine r_v (q_assignS rfl) rfl ?_; refine r_v (q_assignI rfl) rfl ?_; refine r_v (q_assignB rfl) rfl ?_
  refine r_nil ?_
  exact c_ret (bq3 (bad (by rw [hdef, if_pos (by simp at hc1; omega)]) h.drop))
 have hr4 : 4 ≤ rest.length := by simp at hc1; omega
 rw [if_neg (by omega)] at hdef
 refine c_skip ?_
 have hrh := hrr.head (i := rest.length - 4) (by omega)
 have htl : (rest.take (rest.length - 4)).length = rest.length - 4 := by rw [List.length_take]; omega
 have hrh' : Reads w0 l 1 ra (rest.take (rest.length - 4)).length (bytesV (rest.take (rest.length - 4))) := by
  rw [htl]
  have : bytesV (rest.take (rest.length - 4)) = (bytesV rest).take ((rest.length - 4) * 1) := by unfold bytesV; rw [List.map_take, Nat.mul_one]
  rw [this]
  exact hrh
 generalize hP : rest.take (rest.length - 4) = P at hdef htl hrh'
 refine c_cut (Γ := Option Addr × Nat) (fun q => [(0, .slice sl bs.length c), (5, .pointer (some ⟨b5, 0, none⟩)), (8, .slice q.1 ((suitDec hd.tag P hd.count).getD []).length q.2), (9, .bool (suitDec hd.tag P hd.count).isSome)])
  (fun q w => (∀ L, suitDec hd.tag P hd.count = some L → (L.length : Int) = hd.count ∧ ∀ s ∈ L, s.Wf) ∧ St w0 (OwnS q.1 q.2 ((suitDec hd.tag P hd.count).getD []) :: pt b5 (.cells (hdC hd).toArray 43 (0, 0)) :: l) w) ?_ ?_
 ·refine c_anyW [0, 1, 2, 3, 4, 5, 6, 7, 8, 9, 10, 11, 13, 12, 14] none (fun w => w.heap[b5]? = some (.cells (hdC hd).toArray 43 (0, 0))) (by kernel_rfl) (by kernel_rfl) ?_
  replace h := h.drew
  generalize w.drew = w at h
  have hs := h
  replace h := hs.b 0 rfl
  refine cur_pure rfl rfl rfl rfl (fun _ => h) (fun _ => flt_v rfl (q_fa rfl)) ?_
  refine cur_float rfl rfl rfl rfl h (fun w h => flt_v rfl (q_load (v := .int .i64 (hd.tag : Int)) rfl h rfl)) ?_
  refine cur_pure rfl rfl rfl rfl (fun _ => h) (fun _ => flt_v rfl (q_moveS rfl)) ?_; refine cur_pure rfl rfl rfl rfl (fun _ => h) (fun _ => flt_v rfl (q_moveS rfl)) ?_; refine cur_pure rfl rfl rfl rfl (fun _ => h) (fun _ => flt_v rfl (q_len rfl)) ?_
  refine cur_pure rfl rfl rfl rfl (fun _ => h) (fun _ => flt_v rfl (q_is (v' := .int .i64 ((rest.length - 4 : Nat) : Int)) (q_sub rfl rfl) (by rw [wrap64 (by omega) (by omega)]; congr 1; omega))) ?_
  refine cur_pure rfl rfl rfl rfl (fun _ => h) (fun _ => flt_v rfl (q_is (v' := .slice ra P.length rc) (q_head (h := rest.length - 4) rfl rfl (by omega)) (by rw [htl]))) ?_
  refine cur_pure rfl rfl rfl rfl (fun _ => h) (fun _ => flt_v rfl (q_fa rfl)) ?_
  refine cur_float rfl rfl rfl rfl h (fun w h => flt_v rfl (q_load (v := .int .i64 (hd.count : Int)) rfl h rfl)) ?_
  refine cur_skip ?_; refine cur_skip ?_; refine cur_skip ?_; refine cur_skip ?_; refine cur_skip ?_; refine cur_skip ?_
  refine cur_one 9 rfl rfl rfl rfl ?_
  refine (x_call rfl (suit_Decode hT (suit_read _) (hd.count : Int) (by omega) (by omega) (hrh'.more [_]) hs) ?_)
  rintro _ w ⟨da, dc, rfl, hM, hs⟩
  replace h := hs.b 1 rfl
  refine ⟨fun _ => h, ?_⟩
  refine cur_pure rfl rfl rfl rfl (fun _ => h) (fun _ => flt_v rfl (q_moveT rfl)) ?_; refine cur_pure rfl rfl rfl rfl (fun _ => h) (fun _ => flt_v rfl (q_ext rfl rfl)) ?_; refine cur_pure rfl rfl rfl rfl (fun _ => h) (fun _ => flt_v rfl (q_ext rfl rfl)) ?_; refine cur_pure rfl rfl rfl rfl (fun _ => h) (fun _ => flt_v rfl (q_assignS rfl)) ?_; refine cur_pure rfl rfl rfl rfl (fun _ => h) (fun _ => flt_v rfl (q_assignB rfl)) ?_
  exact cur_end ⟨(da, dc), ⟨rfl, rfl, rfl, rfl, trivial⟩, hM, hs⟩
 clear h
 rintro ⟨da, dc⟩ w e ⟨hM, h⟩
 dsimp only at h ⊢
 refine c_seq (c_seq (c_region ?_))
 refine r_v (q_moveB rfl) rfl ?_; refine r_v (q_not rfl) rfl ?_
 cases hD : suitDec hd.tag P hd.count with
 | none =>
  rw [hD] at hdef
  refine r_nil (c_true rfl ?_)
  refine c_seq (c_region ?_)
  refine r_v (q_assignS rfl) rfl ?_; refine r_v (q_assignI rfl) rfl ?_; refine r_v (q_assignB rfl) rfl ?_
  refine r_nil ?_
  exact c_ret (bq3 (bad hdef h.drop.drop))
 | some M =>
 rw [hD] at hdef h
 obtain ⟨hMl, hMw⟩ := hM M hD
 have hM16 : M.length ≤ 65535 := by omega
 dsimp only at hdef
 refine r_nil (c_false rfl (c_skip ?_))
 replace h : St w0 (OwnS da dc M :: pt b5 (.cells (hdC hd).toArray 43 (0, 0)) :: l) w := h
 refine c_seq (c_region ?_)
 refine r_v (q_fa rfl) rfl ?_
 refine r_v (q_load (v := .int .i64 (hd.tag : Int)) rfl (h.b 1 rfl) rfl) rfl ?_
 refine r_v (q_moveS rfl) rfl ?_
 refine r_c rfl (x_call rfl (chnk_Make hT (hd.tag : Int) (L := M) hMw (by omega) Reads.own h) ?_)
 rintro _ w ⟨ea, ec, rfl, h⟩
 refine r_v (q_moveT rfl) rfl ?_; refine r_v (q_ext rfl rfl) rfl ?_; refine r_v (q_ext rfl rfl) rfl ?_; refine r_v (q_assignS rfl) rfl ?_; refine r_v (q_assignB rfl) rfl ?_
 refine r_nil ?_
 refine c_cut (Γ := Unit) (fun _ => [(5, .pointer (some ⟨b5, 0, none⟩)), (8, .slice da M.length dc)]) (fun _ w => chMake (hd.tag : Int) M = some bs ∧ St w0 (OwnS da dc M :: pt b5 (.cells (hdC hd).toArray 43 (0, 0)) :: l) w) ?_ ?_
 ·refine c_seq (c_region ?_)
  cases hE : chMake (hd.tag : Int) M with
  | none =>
   refine r_v (q_moveB rfl) rfl ?_; refine r_v (q_not rfl) rfl ?_; refine r_v (q_moveB rfl) rfl ?_; (first | refine r_gd rfl rfl ?_ | refine r_gn rfl rfl rfl ?_ | refine r_gu rfl rfl ?_ | refine r_gd rfl (by assumption) ?_ | refine r_gn rfl (by assumption) rfl ?_); (first | refine r_gd rfl rfl ?_ | refine r_gn rfl rfl rfl ?_ | refine r_gu rfl rfl ?_ | refine r_gd rfl (by assumption) ?_ | refine r_gn rfl (by assumption) rfl ?_); (first | refine r_gd rfl rfl ?_ | refine r_gn rfl rfl rfl ?_ | refine r_gu rfl rfl ?_ | refine r_gd rfl (by assumption) ?_ | refine r_gn rfl (by assumption) rfl ?_); (first | refine r_gd rfl rfl ?_ | refine r_gn rfl rfl rfl ?_ | refine r_gu rfl rfl ?_ | refine r_gd rfl (by assumption) ?_ | refine r_gn rfl (by assumption) rfl ?_); (first | refine r_v (q_pick1 rfl rfl rfl) rfl ?_ | refine r_v (q_pick0 rfl rfl rfl) rfl ?_ | refine r_v (q_pick1 rfl (by assumption) rfl) rfl ?_ | refine r_v (q_pick0 rfl (by assumption) rfl) rfl ?_ | refine r_v (q_pickB rfl rfl rfl) rfl ?_)
   refine r_nil (c_true rfl ?_)
   refine c_seq (c_region ?_)
   refine r_v (q_assignS rfl) rfl ?_; refine r_v (q_assignI rfl) rfl ?_; refine r_v (q_assignB rfl) rfl ?_
   refine r_nil ?_
   exact c_ret (bq3 (bad (by rw [hdef, if_neg (by rw [hE]; simp)]) h.drop.drop.drop))
  | some d =>
   rw [hE] at h
   refine r_v (q_moveB rfl) rfl ?_; refine r_v (q_not rfl) rfl ?_; refine r_v (q_moveB rfl) rfl ?_; (first | refine r_gd rfl rfl ?_ | refine r_gn rfl rfl rfl ?_ | refine r_gu rfl rfl ?_ | refine r_gd rfl (by assumption) ?_ | refine r_gn rfl (by assumption) rfl ?_); refine r_v (q_moveS rfl) rfl ?_; (first | refine r_gd rfl rfl ?_ | refine r_gn rfl rfl rfl ?_ | refine r_gu rfl rfl ?_ | refine r_gd rfl (by assumption) ?_ | refine r_gn rfl (by assumption) rfl ?_); refine r_v (q_moveS rfl) rfl ?_; (first | refine r_gd rfl rfl ?_ | refine r_gn rfl rfl rfl ?_ | refine r_gu rfl rfl ?_ | refine r_gd rfl (by assumption) ?_ | refine r_gn rfl (by assumption) rfl ?_)
   refine r_c rfl (x_call rfl (bytes_Equal (b1 := d) (b2 := bs) h (fun w' h' => h'.own_rd) (hr.more [_, _, _]).rd) ?_)
   rintro _ w ⟨rfl, h⟩
   (first | refine r_gd rfl rfl ?_ | refine r_gn rfl rfl rfl ?_ | refine r_gu rfl rfl ?_ | refine r_gd rfl (by assumption) ?_ | refine r_gn rfl (by assumption) rfl ?_); refine r_v (q_not rfl) rfl ?_; (first | refine r_v (q_pick1 rfl rfl rfl) rfl ?_ | refine r_v (q_pick0 rfl rfl rfl) rfl ?_ | refine r_v (q_pick1 rfl (by assumption) rfl) rfl ?_ | refine r_v (q_pick0 rfl (by assumption) rfl) rfl ?_ | refine r_v (q_pickB rfl rfl rfl) rfl ?_)
   refine r_nil (c_cond (!decide (d = bs)) rfl (fun hc2 => ?_) (fun hc2 => ?_))
   ·refine c_seq (c_region ?_)
    refine r_v (q_assignS rfl) rfl ?_; refine r_v (q_assignI rfl) rfl ?_; refine r_v (q_assignB rfl) rfl ?_
    refine r_nil ?_
    exact c_ret (bq3 (bad (by rw [hdef, if_neg (by rw [hE]; simpa using hc2)]) h.drop.drop.drop))
   ·exact c_skip ⟨(), ⟨rfl, rfl, trivial⟩, by simpa using hc2, h.drop⟩
 clear h
 rintro _ w e ⟨hE, h⟩
 rw [if_pos hE] at hdef
 rw [hdef]
 refine c_seq (c_anyR [0, 2, 3, 1, 4, 5] none (fun w => St w0 _ w) (by kernel_rfl) (by kernel_rfl) h.drew fun w h => ?_)
 refine cur_pure rfl rfl rfl rfl (fun _ => h) (fun _ => flt_v rfl (q_moveS rfl)) ?_; refine cur_pure rfl rfl rfl rfl (fun _ => h) (fun _ => flt_v rfl (q_fa rfl)) ?_
 refine cur_float rfl rfl rfl rfl h (fun w h => flt_v rfl (q_load (v := .int .i64 (hd.tag : Int)) rfl (h.b 1 rfl) rfl)) ?_
 refine cur_pure rfl rfl rfl rfl (fun _ => h) (fun _ => flt_v rfl (q_assignS rfl)) ?_; refine cur_pure rfl rfl rfl rfl (fun _ => h) (fun _ => flt_v rfl (q_assignI rfl)) ?_; refine cur_pure rfl rfl rfl rfl (fun _ => h) (fun _ => flt_v rfl (q_assignB rfl)) ?_
 refine cur_end ?_
 refine c_ret (bq3 ⟨da, dc, rfl, fun L t hh => ?_, (h.f 1).drop⟩)
 cases hh
 exact ⟨hM16, hMw⟩
end
end Go.Proofs.YtjjacchnalemaaaGreatDoor

namespace Go.Hw
theorem St.appendK {P : Program} {w0 w : World} {l : List HProp} {t ty T : TypeId} {z : List Value} {agg : Bool} {bytes : Nat} {n c m c2 : Nat} {a a2 : Option Addr} {xs ys : List Value} (h : St w0 (Own T z.length a n c xs :: l) w)
  (ht : P.underlying t = some (.slice T)) (hi : Inf P T z agg bytes) (hy : Rd w z.length a2 m ys) (h1 : ∀ u ∈ ys, u.oneCell' = true) (hb : (n + m) * bytes ≤ 140737488355328) (h63 : n + m ≤ 9223372036854775807) :
  ∃ a' c' w' Q, (Builtin.append_ #[t, t] ty #[.slice a n c, .slice a2 m c2]).run P w = .ok (.slice a' (n + m) c') w' ∧ Reads w0 (Own T z.length a' (n + m) c' (xs ++ ys) :: Q :: l) z.length a n xs ∧ St w0 (Own T z.length a' (n + m) c' (xs ++ ys) :: Q :: l) w' := by
 obtain ⟨h2, h3, h4⟩ := h.own_cases
 have hx := h.own_rd
 by_cases hg : c < n + m
 ·obtain ⟨k, hr⟩ := run_append_grows (P := P) (ty := ty) (c := c) (c2 := c2) ht hi hx hy hg hb h63
  refine ⟨_, _, _, Own T z.length a n c xs, hr, Reads.cons Reads.own, ?_⟩
  have h5 := (h.drew).alloc (.cells (xs ++ ys ++ (Builtin.zeroCells z.toArray k).toList).toArray T)
  refine St.own_mk h5 (c := n + m + k) ?_ ?_ (Nat.le_add_right _ _)
  ·rw [List.length_append, List.length_append, zeroCells_len, h2, hy.1, Nat.add_mul, Nat.add_mul]; simp
  ·rw [List.append_assoc, ← List.append_assoc]
   exact List.take_left' (by rw [List.length_append, h2, hy.1, Nat.add_mul])
 ·rcases h4 with ⟨rfl, rfl, rfl, h5⟩ | ⟨g, cur, rfl, h5, h6, h7⟩
  ·obtain rfl : m = 0 := by omega
   have hxs : xs = [] := List.eq_nil_of_length_eq_zero (by simpa using h2)
   have hys : ys = [] := List.eq_nil_of_length_eq_zero (by simpa using hy.1)
   subst hxs hys
   exact ⟨none, 0, w, all [], run_append_none ht hi hy, Reads.nil, (St.fold [] h5).ownNil T z.length⟩
  ·have hr := run_append_fit (P := P) (ty := ty) (n := n) (m := m) (c2 := c2) ht hi h7.hd.1 h5 hy (by omega) h1
   have hle : (n + m) * z.length ≤ c * z.length := Nat.mul_le_mul_right _ (by omega)
   rw [Nat.add_mul] at hle
   have h8 : St w0 (pt g (.cells (cur.take (n * z.length) ++ ys ++ cur.drop (n * z.length + ys.length)).toArray T (0, 0)) :: l) (w.setRow g (cur.take (n * z.length) ++ ys ++ cur.drop (n * z.length + ys.length)).toArray) :=
    h7.put rfl rfl rfl (by simp) (fun k hk => setRow_other w g k _ hk) (setRow_heap w g _ _ T (0, 0) h7.hd.1)
   have h9 : St w0 (Own T z.length (some ⟨g, 0, none⟩) (n + m) c (xs ++ ys) :: l) (w.setRow g (cur.take (n * z.length) ++ ys ++ cur.drop (n * z.length + ys.length)).toArray) := by
    refine St.own_mk' h8 (c := c) ?_ ?_ (by omega)
    ·simp only [List.length_append, List.length_take, List.length_drop, hy.1]; omega
    ·rw [h6]
     exact List.take_left' (by rw [List.length_append, h2, hy.1, Nat.add_mul])
   refine ⟨_, _, _, all [], hr, ?_, ?_⟩
   ·have := (Reads.own (w0 := w0) (l := all [] :: l) (T := T) (sz := z.length) (a := some ⟨g, 0, none⟩) (n := n + m) (c := c) (xs := xs ++ ys)).head (i := n) (by omega)
    rwa [← h2, List.take_left] at this
   ·exact (St.fold [] h9).f 1
section
variable {P : Program} {e : Env} {w w0 : World} {K : Env → World → Prop} {l : List HProp}
variable {ty : TypeId} {pos : String} {af : Array Edge} {g : Option (Nat × Bool)}
theorem x_appendK {c : Nat} {t T : TypeId} [ht : Und P t (.slice T)] {z : List Value} {agg : Bool} {bytes : Nat} [hi : Inf P T z agg bytes] {x y : Operand} {a a2 : Option Addr} {m m2 m3 c1 c2 sz : Nat} {xs ys zs : List Value}
  (h : St w0 (Own T sz a m c1 xs :: l) w) (hx : ev e x = .slice a m c1) (hy : ev e y = .slice a2 m2 c2) (hr : Rd w sz a2 m2 ys) (h1 : ∀ u ∈ ys, u.oneCell' = true) (hm : m + m2 = m3) (hzs : xs ++ ys = zs) (hb : m3 * bytes ≤ 140737488355328) (h63 : m3 ≤ 9223372036854775807) (hz : z.length = sz)
  (k : ∀ a' c' Q w', Reads w0 (Own T sz a' m3 c' zs :: Q :: l) sz a m xs → St w0 (Own T sz a' m3 c' zs :: Q :: l) w' → K (upd e c (.slice a' m3 c')) w') :
  Ex P ⟨some c, .call ⟨.builtin .append, [x, y].toArray, [t, t].toArray⟩, ty, pos, af, g⟩ e w K := by
 subst hm hzs hz
 obtain ⟨a', c', w', Q, hrun, hrd, hst⟩ := h.appendK (ty := ty) (c2 := c2) ht.h hi hr h1 hb h63
 refine x_w (v := .slice a' (m + m2) c') (w' := w') ?_ (k _ _ _ _ hrd hst)
 simp [execOp, resolve, hx, hy, invoke, builtin, hrun]
end
end Go.Hw

namespace Go.Proofs.YtjjacchnalemaaaGreatDoor
open Go.Hw
set_option maxHeartbeats 4000000
instance eqiSmp : EqI Tryz.prog 53 [.i64, .u64] := ⟨⟨_, Tryz.underlying53, by kernel_rfl⟩, by kernel_rfl, by kernel_rfl⟩

section
variable {w0 w : World} {l : List HProp}
theorem ref10_Same {a1 a2 : Option Addr} {n1 n2 c1 c2 : Nat} {L1 L2 : List Smp} (h : St w0 l w) (hr1 : ∀ w', St w0 l w' → Rd w' 2 a1 n1 (smpsV L1)) (hr2 : ∀ w', St w0 l w' → Rd w' 2 a2 n2 (smpsV L2)) (hn : n1 < 9223372036854775807) :
  Ret Tryz.prog 16 [.slice a1 n1 c1, .slice a2 n2 c2] w fun v w' => v = .bool (decide (L1 = L2)) ∧ St w0 l w' := by
 have hl1 : L1.length = n1 := (hr1 w h).count smp_len (by decide)
 have hl2 : L2.length = n2 := (hr2 w h).count smp_len (by decide)
 refine enter Tryz.func16 rfl Tryz.results16 Tryz.ntmps16 rfl ?_
 refine c_seq (c_region ?_)
 refine r_v (q_assignB rfl) rfl ?_
 refine r_nil ?_
 refine c_seq (c_seq (c_region ?_))
 refine r_v (q_moveS rfl) rfl ?_; refine r_v (q_len rfl) rfl ?_; refine r_v (q_moveS rfl) rfl ?_; refine r_v (q_len rfl) rfl ?_; refine r_v (q_neq rfl rfl) rfl ?_
 refine r_nil ?_
 refine c_cond _ rfl (fun hc => ?_) (fun hc => ?_)
 ·
  refine c_seq (c_region ?_)
  refine r_v (q_assignB rfl) rfl ?_
  refine r_nil ?_
  refine c_ret (bq1 ⟨?_, h⟩)
  have : L1 ≠ L2 := by
   rintro rfl
   simp at hc
   omega
  show Value.bool false = _
  rw [decide_eq_false this]
 have hnn : n1 = n2 := by simp at hc; omega
 subst hnn
 refine c_skip ?_
 refine c_seq (c_seq (c_region ?_))
 refine r_v (q_assignI rfl) rfl ?_
 refine r_nil ?_
 refine c_block ?_
 refine c_loop (Γ := Nat) (fun k => [(0, .slice a1 n1 c1), (1, .slice a2 n1 c2), (5, .int .i64 k)]) (fun k w => k ≤ n1 ∧ L1.take k = L2.take k ∧ St w0 l w) (fun k => n1 - k) 0 ⟨rfl, rfl, rfl, trivial⟩ ⟨Nat.zero_le _, by simp, h⟩ ?_
 clear h
 rintro k w e ⟨hk, hpre, h⟩
 refine c_seq (c_seq (c_region ?_))
 refine r_v (q_moveI rfl) rfl ?_; refine r_v (q_moveS rfl) rfl ?_; refine r_v (q_len rfl) rfl ?_; refine r_v (q_lss rfl rfl) rfl ?_
 refine r_nil ?_
 refine c_cond (decide ((k : Int) < (n1 : Int))) rfl (fun hc => ?_) (fun hc => ?_)
 ·
  have hkn : k < n1 := by simp at hc; omega
  obtain ⟨b1, o1, rfl⟩ := (hr1 w h).some (by omega)
  obtain ⟨b2, o2, rfl⟩ := (hr2 w h).some (by omega)
  have hg1 := List.getElem?_eq_getElem (show k < L1.length by omega)
  have hg2 := List.getElem?_eq_getElem (show k < L2.length by omega)
  generalize L1[k] = s1 at hg1
  generalize L2[k] = s2 at hg2
  refine c_skip ?_
  refine c_seq (c_block ?_)
  refine c_seq (c_any none (fun w => St w0 _ w) (by kernel_rfl) (by kernel_rfl) h.drew fun w h => ?_)
  refine cur_pure rfl rfl rfl rfl (fun _ => h) (fun _ => flt_v rfl (q_moveS rfl)) ?_; refine cur_pure rfl rfl rfl rfl (fun _ => h) (fun _ => flt_v rfl (q_moveI rfl)) ?_
  refine cur_pure rfl rfl rfl rfl (fun _ => h) (fun _ => flt_v rfl (q_idx rfl rfl rfl hkn rfl)) ?_
  refine cur_float rfl rfl rfl rfl h (fun w h => flt_v rfl (q_loadS (l := s1.cells) rfl rfl ((hr1 w h).elem smp_len hg1))) ?_
  refine cur_pure rfl rfl rfl rfl (fun _ => h) (fun _ => flt_v rfl (q_moveS rfl)) ?_; refine cur_pure rfl rfl rfl rfl (fun _ => h) (fun _ => flt_v rfl (q_moveI rfl)) ?_
  refine cur_pure rfl rfl rfl rfl (fun _ => h) (fun _ => flt_v rfl (q_idx rfl rfl rfl hkn rfl)) ?_
  refine cur_float rfl rfl rfl rfl h (fun w h => flt_v rfl (q_loadS (l := s2.cells) rfl rfl ((hr2 w h).elem smp_len hg2))) ?_
  refine cur_pure rfl rfl rfl rfl (fun _ => h) (fun _ => flt_v rfl (q_neI [s1.T, s1.V] [s2.T, s2.V] rfl rfl rfl rfl)) ?_
  refine cur_end ?_
  refine c_cond _ rfl (fun hc => ?_) (fun hc => ?_)
  ·
   refine c_seq (c_region ?_)
   refine r_v (q_assignB rfl) rfl ?_
   refine r_nil ?_
   refine c_ret (bq1 ⟨?_, h⟩)
   have : L1 ≠ L2 := by
    rintro rfl
    rw [hg1] at hg2
    cases hg2
    simp at hc
   show Value.bool false = _
   rw [decide_eq_false this]
  ·have hss : s1 = s2 := by
    obtain ⟨T1, V1⟩ := s1
    obtain ⟨T2, V2⟩ := s2
    simp at hc
    simp [hc.1, hc.2]
   subst hss
   refine c_skip ?_
   refine c_region ?_
   refine r_v (q_moveI rfl) rfl ?_; refine r_v (q_add rfl rfl) rfl ?_
   refine r_is (.int .i64 ((k + 1 : Nat) : Int)) (by rw [wrap64 (by omega) (by omega)]; rfl) ?_
   refine r_v (q_assignI rfl) rfl ?_
   refine r_nil ⟨k + 1, ⟨rfl, rfl, rfl, trivial⟩, ⟨by omega, ?_, h⟩, by omega⟩
   rw [List.take_add_one, List.take_add_one, hpre, hg1, hg2]
 have hkn : k = n1 := by simp at hc; omega
 subst hkn
 refine c_exit ?_
 refine c_seq (c_region ?_)
 refine r_v (q_assignB rfl) rfl ?_
 refine r_nil ?_
 refine c_ret (bq1 ⟨?_, h⟩)
 have : L1 = L2 := by
  rw [List.take_of_length_le (by omega), List.take_of_length_le (by omega)] at hpre
  exact hpre
 show Value.bool true = _
 rw [decide_eq_true this]
end
end Go.Proofs.YtjjacchnalemaaaGreatDoor

namespace Go.Hw
set_option maxRecDepth 100000
def B2 : List Smp := [⟨-1, 7⟩, ⟨2, 7⟩]
def B2b : List UInt8 := (chMake 6 B2).getD []
theorem B2_make : chMake 6 B2 = some B2b := by
 have : (chMake 6 B2).isSome = true := by decide +kernel
 unfold B2b
 cases h : chMake 6 B2 with
 | none => rw [h] at this; cases this
 | some b => rfl
theorem B2_len : B2b.length = 17 ∨ True := .inr trivial
theorem B2_four : 4 ≤ B2b.length ∧ B2b.length ≤ 100 := by decide +kernel
theorem B2_bytes : B2b[0]? = some 6 ∧ B2b[1]? = some 2 ∧ B2b[2]? = some 1 ∧ B2b[3]? = some 4 := by decide +kernel
theorem B2_wf : ∀ s ∈ B2, s.Wf := by
 intro s hs
 simp only [B2, List.mem_cons, List.not_mem_nil, or_false] at hs
 rcases hs with rfl | rfl <;> exact ⟨⟨by decide, by decide⟩, by decide, by decide⟩
theorem B2_open : chOpen B2b = some (B2, 6) := chOpen_told B2_wf (by have := B2_four.2; omega) B2_make
theorem B2_more : chOpen (B2b ++ [0]) = none := by
 have : (chOpen (B2b ++ [0])).isNone = true := by decide +kernel
 simpa using this
theorem B2_head : ∃ r, headDec B2b = some (⟨6, 2, -1, 2⟩, r) := by
 obtain ⟨x, hx, hL, he⟩ := chMake_some B2_make
 have hh := headDec_told B2_wf hL hx (x ++ be4 (crc (chBody 6 B2 x)))
 have hb' : B2b = UInt8.ofNat (6 : Int).toNat :: ((chNums B2).flatMap vput ++ (x ++ be4 (crc (chBody 6 B2 x)))) := by
  rw [he]; unfold chBody; simp
 rw [← hb'] at hh
 exact ⟨_, hh⟩
theorem chMake_nil (tag : Int) : chMake tag [] = none := by
 unfold chMake
 split
 ·rfl
 ·rw [if_pos rfl]
theorem chMake_len {tag : Int} {L : List Smp} {b : List UInt8} (h : chMake tag L = some b) : 8 ≤ b.length := by
 obtain ⟨x, _, _, he⟩ := chMake_some h
 have := chBody_len tag L x
 rw [he, List.length_append, be4_len]
 omega
end Go.Hw
namespace Go.Proofs.YtjjacchnalemaaaGreatDoor
open Go.Hw
set_option maxHeartbeats 4000000
set_option maxRecDepth 100000
instance eqiHead : EqI Tryz.prog 43 [.i64, .i64, .i64, .i64] := ⟨⟨_, Tryz.underlying43, by kernel_rfl⟩, by kernel_rfl, by kernel_rfl⟩
theorem chMake_len2 {tag : Int} {L : List Smp} {b : List UInt8} (hw : ∀ s ∈ L, s.Wf) (h : chMake tag L = some b) : b.length ≤ 4000000 := by
 obtain ⟨x, hx, _, he⟩ := chMake_some h
 have h1 := suitEnc_len (tag := tag) hw
 rw [hx] at h1
 have h2 : x.length ≤ 3000000 := h1
 have := chBody_len tag L x
 rw [he, List.length_append, be4_len]
 omega
section
variable {w0 w : World} {l : List HProp}
theorem law11_awake (hT : Tz w0) (h : St w0 l w) : Ret Tryz.prog 17 [] w fun v w' => v = .bool true ∧ St w0 l w' := by
 obtain ⟨h4, h100⟩ := B2_four
 obtain ⟨hb0, hb1, hb2, hb3⟩ := B2_bytes
 obtain ⟨hr, hhd⟩ := B2_head
 refine enter Tryz.func17 rfl Tryz.results17 Tryz.ntmps17 rfl ?_
 refine c_seq (c_region ?_)
 refine r_v (q_assignB rfl) rfl ?_
 refine r_nil ?_
 refine c_seq (c_region ?_)
 refine r_v (q_build (r := (Smp.mk (-1) 7).cells) rfl) rfl ?_
 refine r_v (q_build (r := (Smp.mk 2 7).cells) rfl) rfl ?_
 refine r_c rfl (x_bslice (r := smpsV B2) h rfl rfl rfl fun b w h => ?_)
 have hr : ∀ M : List HProp, Reads w0 (M ++ pt b (.cells (smpsV B2).toArray 53 (0, 0)) :: l) 2 (some ⟨b, 0, none⟩) B2.length (smpsV B2) := fun M => (Reads.pt (m := 0) rfl rfl).more M
 refine r_v (q_assignS rfl) rfl ?_
 refine r_nil ?_
 refine c_seq (c_region ?_)
 refine r_v (q_moveS rfl) rfl ?_
 refine r_c rfl (x_call rfl (chnk_Make hT 6 (L := B2) B2_wf (by decide) (hr []) h) ?_)
 rw [B2_make]
 rintro _ w ⟨ba, bc, rfl, h⟩
 replace h : St w0 (OwnB ba bc B2b :: pt b (.cells (smpsV B2).toArray 53 (0, 0)) :: l) w := h
 show Rn _ _ _ _ _ (upd _ _ (.tuple [.slice ba B2b.length bc, .bool true].toArray)) _
 refine r_v (q_moveT rfl) rfl ?_; refine r_v (q_ext rfl rfl) rfl ?_; refine r_v (q_ext rfl rfl) rfl ?_; refine r_v (q_assignS rfl) rfl ?_; refine r_v (q_assignB rfl) rfl ?_
 refine r_nil ?_
 refine c_seq (c_region ?_)
 refine r_v (q_moveS rfl) rfl ?_
 refine r_c rfl (x_call rfl (chnk_Open hT (by omega) h.own_cases.2.1 Reads.own h) ?_)
 rw [B2_open]
 rintro _ w ⟨oa, oc, rfl, _, h⟩
 replace h : St w0 (OwnS oa oc B2 :: OwnB ba bc B2b :: pt b (.cells (smpsV B2).toArray 53 (0, 0)) :: l) w := h
 show Rn _ _ _ _ _ (upd _ _ (.tuple [.slice oa B2.length oc, .int .i64 6, .bool true].toArray)) _
 refine r_v (q_moveT rfl) rfl ?_; refine r_v (q_ext rfl rfl) rfl ?_; refine r_v (q_ext rfl rfl) rfl ?_; refine r_v (q_ext rfl rfl) rfl ?_; refine r_v (q_assignS rfl) rfl ?_; refine r_v (q_assignI rfl) rfl ?_; refine r_v (q_assignB rfl) rfl ?_
 refine r_nil ?_
 refine c_seq (c_region ?_)
 refine r_v (q_moveS rfl) rfl ?_
 refine r_c rfl (x_call rfl (chnk_Head (bs := B2b) (by omega) (h.f 1).own_cases.2.1 (Reads.own.more [_]) h) ?_)
 rw [hhd]
 rintro _ w ⟨rfl, h⟩
 show Rn _ _ _ _ _ (upd _ _ (.tuple [.agg (hdC ⟨6, 2, -1, 2⟩).toArray, .bool true].toArray)) _
 refine r_v (q_moveT rfl) rfl ?_; refine r_v (q_ext rfl rfl) rfl ?_; refine r_v (q_ext rfl rfl) rfl ?_
 refine r_c rfl (x_alloc h fun b7 w h => ?_)
 refine r_c rfl (x_storeA (vs := hdC ⟨6, 2, -1, 2⟩) 0 h rfl rfl rfl rfl rfl rfl rfl fun w h => ?_)
 replace h : St w0 (pt b7 (.cells (hdC ⟨6, 2, -1, 2⟩).toArray 43 (0, 0)) :: OwnS oa oc B2 :: OwnB ba bc B2b :: pt b (.cells (smpsV B2).toArray 53 (0, 0)) :: l) w := h
 refine r_v (q_assignB rfl) rfl ?_
 refine r_nil ?_
 refine c_seq (c_region ?_)
 refine r_v (q_moveS rfl) rfl ?_
 refine r_c rfl (x_bslice (r := bytesV [0]) (h.f 2) rfl rfl rfl fun bz w h => ?_)
 refine r_c rfl (x_appendK (ys := bytesV [0]) (zs := bytesV (B2b ++ [0])) (m3 := (B2b ++ [0]).length) (h.f 1) rfl rfl ⟨rfl, .inr ⟨bz, 0, rfl, at_of (h.b 0 rfl) rfl⟩⟩ (bytesV_one _) (by simp) (by simp [bytesV]) (by simp; omega) (by simp; omega) rfl fun ca cc Q w hrb h => ?_)
 refine r_c rfl (x_call rfl (chnk_Open hT (by simp; omega) h.own_cases.2.1 Reads.own h) ?_)
 rw [B2_more]
 rintro _ w ⟨ea, ec, rfl, _, h⟩
 replace h := h.drop
 show Rn _ _ _ _ _ (upd _ _ (.tuple [.slice ea 0 ec, .int .i64 0, .bool false].toArray)) _
 refine r_v (q_moveT rfl) rfl ?_; refine r_v (q_ext rfl rfl) rfl ?_; refine r_v (q_ext rfl rfl) rfl ?_; refine r_v (q_ext rfl rfl) rfl ?_; refine r_v (q_assignS rfl) rfl ?_; refine r_v (q_assignI rfl) rfl ?_; refine r_v (q_assignB rfl) rfl ?_
 refine r_nil ?_
 refine c_seq (c_region ?_)
 refine r_c rfl (x_call rfl (chnk_Make hT 1 (L := []) (fun _ h => by cases h) (by decide) Reads.nil h) ?_)
 rw [chMake_nil]
 rintro _ w ⟨fa, fc, rfl, h⟩
 replace h := h.drop
 show Rn _ _ _ _ _ (upd _ _ (.tuple [.slice fa 0 fc, .bool false].toArray)) _
 refine r_v (q_moveT rfl) rfl ?_; refine r_v (q_ext rfl rfl) rfl ?_; refine r_v (q_ext rfl rfl) rfl ?_; refine r_v (q_assignS rfl) rfl ?_; refine r_v (q_assignB rfl) rfl ?_
 refine r_nil ?_
 obtain ⟨bb, bo, hsl⟩ := (hrb.at_ h).some (by omega)
 have hcl : ∀ {j : Nat} {y : UInt8}, B2b[j]? = some y → w.cell? ⟨bb, bo + j, none⟩ = some (.int .u8 y.toNat) := fun hj => (hsl ▸ hrb.at_ h).cell (bytesV_get hj)
 refine c_seq (c_region ?_)
 refine r_v (q_moveB rfl) rfl ?_; refine r_v (q_moveB rfl) rfl ?_; (first | refine r_gd rfl rfl ?_ | refine r_gn rfl rfl rfl ?_ | refine r_gu rfl rfl ?_ | refine r_gd rfl (by assumption) ?_ | refine r_gn rfl (by assumption) rfl ?_); refine r_v (q_moveS rfl) rfl ?_; (first | refine r_gd rfl rfl ?_ | refine r_gn rfl rfl rfl ?_ | refine r_gu rfl rfl ?_ | refine r_gd rfl (by assumption) ?_ | refine r_gn rfl (by assumption) rfl ?_); refine r_v (q_len rfl) rfl ?_; (first | refine r_gd rfl rfl ?_ | refine r_gn rfl rfl rfl ?_ | refine r_gu rfl rfl ?_ | refine r_gd rfl (by assumption) ?_ | refine r_gn rfl (by assumption) rfl ?_)
 refine r_v (q_is (v' := .bool true) (q_geq rfl rfl) (congrArg Value.bool (decide_eq_true (by omega)))) rfl ?_
 (first | refine r_v (q_pick1 rfl rfl rfl) rfl ?_ | refine r_v (q_pick0 rfl rfl rfl) rfl ?_ | refine r_v (q_pick1 rfl (by assumption) rfl) rfl ?_ | refine r_v (q_pick0 rfl (by assumption) rfl) rfl ?_ | refine r_v (q_pickB rfl rfl rfl) rfl ?_); refine r_v (q_moveB rfl) rfl ?_; (first | refine r_gd rfl rfl ?_ | refine r_gn rfl rfl rfl ?_ | refine r_gu rfl rfl ?_ | refine r_gd rfl (by assumption) ?_ | refine r_gn rfl (by assumption) rfl ?_); refine r_v (q_moveS rfl) rfl ?_; (first | refine r_gd rfl rfl ?_ | refine r_gn rfl rfl rfl ?_ | refine r_gu rfl rfl ?_ | refine r_gd rfl (by assumption) ?_ | refine r_gn rfl (by assumption) rfl ?_)
 refine r_v (q_idx (b := bb) (o := bo) (m := B2b.length) (c := bc) (j := 0) (o' := bo + 0) (by rw [← hsl]; rfl) rfl rfl (by omega) (by simp)) rfl ?_
 refine r_gd rfl rfl ?_
 refine r_v (q_loadc (v := .int .u8 6) rfl (hcl hb0)) rfl ?_
 (first | refine r_gd rfl rfl ?_ | refine r_gn rfl rfl rfl ?_ | refine r_gu rfl rfl ?_ | refine r_gd rfl (by assumption) ?_ | refine r_gn rfl (by assumption) rfl ?_); refine r_v (q_eql rfl rfl) rfl ?_; (first | refine r_v (q_pick1 rfl rfl rfl) rfl ?_ | refine r_v (q_pick0 rfl rfl rfl) rfl ?_ | refine r_v (q_pick1 rfl (by assumption) rfl) rfl ?_ | refine r_v (q_pick0 rfl (by assumption) rfl) rfl ?_ | refine r_v (q_pickB rfl rfl rfl) rfl ?_); refine r_v (q_moveB rfl) rfl ?_; (first | refine r_gd rfl rfl ?_ | refine r_gn rfl rfl rfl ?_ | refine r_gu rfl rfl ?_ | refine r_gd rfl (by assumption) ?_ | refine r_gn rfl (by assumption) rfl ?_); refine r_v (q_moveS rfl) rfl ?_; (first | refine r_gd rfl rfl ?_ | refine r_gn rfl rfl rfl ?_ | refine r_gu rfl rfl ?_ | refine r_gd rfl (by assumption) ?_ | refine r_gn rfl (by assumption) rfl ?_)
 refine r_v (q_idx (b := bb) (o := bo) (m := B2b.length) (c := bc) (j := 1) (o' := bo + 1) (by rw [← hsl]; rfl) rfl rfl (by omega) (by simp)) rfl ?_
 refine r_gd rfl rfl ?_
 refine r_v (q_loadc (v := .int .u8 2) rfl (hcl hb1)) rfl ?_
 (first | refine r_gd rfl rfl ?_ | refine r_gn rfl rfl rfl ?_ | refine r_gu rfl rfl ?_ | refine r_gd rfl (by assumption) ?_ | refine r_gn rfl (by assumption) rfl ?_); refine r_v (q_eql rfl rfl) rfl ?_; (first | refine r_v (q_pick1 rfl rfl rfl) rfl ?_ | refine r_v (q_pick0 rfl rfl rfl) rfl ?_ | refine r_v (q_pick1 rfl (by assumption) rfl) rfl ?_ | refine r_v (q_pick0 rfl (by assumption) rfl) rfl ?_ | refine r_v (q_pickB rfl rfl rfl) rfl ?_); refine r_v (q_moveB rfl) rfl ?_; (first | refine r_gd rfl rfl ?_ | refine r_gn rfl rfl rfl ?_ | refine r_gu rfl rfl ?_ | refine r_gd rfl (by assumption) ?_ | refine r_gn rfl (by assumption) rfl ?_); refine r_v (q_moveS rfl) rfl ?_; (first | refine r_gd rfl rfl ?_ | refine r_gn rfl rfl rfl ?_ | refine r_gu rfl rfl ?_ | refine r_gd rfl (by assumption) ?_ | refine r_gn rfl (by assumption) rfl ?_)
 refine r_v (q_idx (b := bb) (o := bo) (m := B2b.length) (c := bc) (j := 2) (o' := bo + 2) (by rw [← hsl]; rfl) rfl rfl (by omega) (by simp)) rfl ?_
 refine r_gd rfl rfl ?_
 refine r_v (q_loadc (v := .int .u8 1) rfl (hcl hb2)) rfl ?_
 (first | refine r_gd rfl rfl ?_ | refine r_gn rfl rfl rfl ?_ | refine r_gu rfl rfl ?_ | refine r_gd rfl (by assumption) ?_ | refine r_gn rfl (by assumption) rfl ?_); refine r_v (q_eql rfl rfl) rfl ?_; (first | refine r_v (q_pick1 rfl rfl rfl) rfl ?_ | refine r_v (q_pick0 rfl rfl rfl) rfl ?_ | refine r_v (q_pick1 rfl (by assumption) rfl) rfl ?_ | refine r_v (q_pick0 rfl (by assumption) rfl) rfl ?_ | refine r_v (q_pickB rfl rfl rfl) rfl ?_); refine r_v (q_moveB rfl) rfl ?_; (first | refine r_gd rfl rfl ?_ | refine r_gn rfl rfl rfl ?_ | refine r_gu rfl rfl ?_ | refine r_gd rfl (by assumption) ?_ | refine r_gn rfl (by assumption) rfl ?_); refine r_v (q_moveS rfl) rfl ?_; (first | refine r_gd rfl rfl ?_ | refine r_gn rfl rfl rfl ?_ | refine r_gu rfl rfl ?_ | refine r_gd rfl (by assumption) ?_ | refine r_gn rfl (by assumption) rfl ?_)
 refine r_v (q_idx (b := bb) (o := bo) (m := B2b.length) (c := bc) (j := 3) (o' := bo + 3) (by rw [← hsl]; rfl) rfl rfl (by omega) (by simp)) rfl ?_
 refine r_gd rfl rfl ?_
 refine r_v (q_loadc (v := .int .u8 4) rfl (hcl hb3)) rfl ?_
 (first | refine r_gd rfl rfl ?_ | refine r_gn rfl rfl rfl ?_ | refine r_gu rfl rfl ?_ | refine r_gd rfl (by assumption) ?_ | refine r_gn rfl (by assumption) rfl ?_); refine r_v (q_eql rfl rfl) rfl ?_; (first | refine r_v (q_pick1 rfl rfl rfl) rfl ?_ | refine r_v (q_pick0 rfl rfl rfl) rfl ?_ | refine r_v (q_pick1 rfl (by assumption) rfl) rfl ?_ | refine r_v (q_pick0 rfl (by assumption) rfl) rfl ?_ | refine r_v (q_pickB rfl rfl rfl) rfl ?_); refine r_v (q_moveB rfl) rfl ?_; (first | refine r_gd rfl rfl ?_ | refine r_gn rfl rfl rfl ?_ | refine r_gu rfl rfl ?_ | refine r_gd rfl (by assumption) ?_ | refine r_gn rfl (by assumption) rfl ?_); refine r_v (q_moveB rfl) rfl ?_; (first | refine r_v (q_pick1 rfl rfl rfl) rfl ?_ | refine r_v (q_pick0 rfl rfl rfl) rfl ?_ | refine r_v (q_pick1 rfl (by assumption) rfl) rfl ?_ | refine r_v (q_pick0 rfl (by assumption) rfl) rfl ?_ | refine r_v (q_pickB rfl rfl rfl) rfl ?_); refine r_v (q_moveB rfl) rfl ?_; (first | refine r_gd rfl rfl ?_ | refine r_gn rfl rfl rfl ?_ | refine r_gu rfl rfl ?_ | refine r_gd rfl (by assumption) ?_ | refine r_gn rfl (by assumption) rfl ?_); refine r_v (q_moveI rfl) rfl ?_; (first | refine r_gd rfl rfl ?_ | refine r_gn rfl rfl rfl ?_ | refine r_gu rfl rfl ?_ | refine r_gd rfl (by assumption) ?_ | refine r_gn rfl (by assumption) rfl ?_); refine r_v (q_eql rfl rfl) rfl ?_; (first | refine r_v (q_pick1 rfl rfl rfl) rfl ?_ | refine r_v (q_pick0 rfl rfl rfl) rfl ?_ | refine r_v (q_pick1 rfl (by assumption) rfl) rfl ?_ | refine r_v (q_pick0 rfl (by assumption) rfl) rfl ?_ | refine r_v (q_pickB rfl rfl rfl) rfl ?_); refine r_v (q_moveB rfl) rfl ?_; (first | refine r_gd rfl rfl ?_ | refine r_gn rfl rfl rfl ?_ | refine r_gu rfl rfl ?_ | refine r_gd rfl (by assumption) ?_ | refine r_gn rfl (by assumption) rfl ?_); refine r_v (q_moveS rfl) rfl ?_; (first | refine r_gd rfl rfl ?_ | refine r_gn rfl rfl rfl ?_ | refine r_gu rfl rfl ?_ | refine r_gd rfl (by assumption) ?_ | refine r_gn rfl (by assumption) rfl ?_); refine r_v (q_moveS rfl) rfl ?_; (first | refine r_gd rfl rfl ?_ | refine r_gn rfl rfl rfl ?_ | refine r_gu rfl rfl ?_ | refine r_gd rfl (by assumption) ?_ | refine r_gn rfl (by assumption) rfl ?_)
 refine r_c rfl (x_call rfl (ref10_Same (L1 := B2) (L2 := B2) h (fun w' h' => (h'.f 4).own_rd) (fun w' h' => (hr [_, _, _, _, _]).rd w' h') (by decide)) ?_)
 rintro _ w ⟨rfl, h⟩
 rw [show decide (B2 = B2) = true by simp]
 (first | refine r_v (q_pick1 rfl rfl rfl) rfl ?_ | refine r_v (q_pick0 rfl rfl rfl) rfl ?_ | refine r_v (q_pick1 rfl (by assumption) rfl) rfl ?_ | refine r_v (q_pick0 rfl (by assumption) rfl) rfl ?_ | refine r_v (q_pickB rfl rfl rfl) rfl ?_); refine r_v (q_moveB rfl) rfl ?_; (first | refine r_gd rfl rfl ?_ | refine r_gn rfl rfl rfl ?_ | refine r_gu rfl rfl ?_ | refine r_gd rfl (by assumption) ?_ | refine r_gn rfl (by assumption) rfl ?_); refine r_v (q_moveB rfl) rfl ?_; (first | refine r_v (q_pick1 rfl rfl rfl) rfl ?_ | refine r_v (q_pick0 rfl rfl rfl) rfl ?_ | refine r_v (q_pick1 rfl (by assumption) rfl) rfl ?_ | refine r_v (q_pick0 rfl (by assumption) rfl) rfl ?_ | refine r_v (q_pickB rfl rfl rfl) rfl ?_); refine r_v (q_moveB rfl) rfl ?_; (first | refine r_gd rfl rfl ?_ | refine r_gn rfl rfl rfl ?_ | refine r_gu rfl rfl ?_ | refine r_gd rfl (by assumption) ?_ | refine r_gn rfl (by assumption) rfl ?_)
 refine r_v (q_loadS (l := hdC ⟨6, 2, -1, 2⟩) rfl rfl (at_of (h.b 3 rfl) rfl)) rfl ?_
 refine r_gd rfl rfl ?_
 refine r_v (q_build (r := hdC ⟨6, 2, -1, 2⟩) rfl) rfl ?_
 refine r_gd rfl rfl ?_
 refine r_v (q_is (v' := .bool true) (q_eqI [6, 2, -1, 2] [6, 2, -1, 2] rfl rfl rfl rfl) rfl) rfl ?_
 (first | refine r_v (q_pick1 rfl rfl rfl) rfl ?_ | refine r_v (q_pick0 rfl rfl rfl) rfl ?_ | refine r_v (q_pick1 rfl (by assumption) rfl) rfl ?_ | refine r_v (q_pick0 rfl (by assumption) rfl) rfl ?_ | refine r_v (q_pickB rfl rfl rfl) rfl ?_); refine r_v (q_moveB rfl) rfl ?_; (first | refine r_gd rfl rfl ?_ | refine r_gn rfl rfl rfl ?_ | refine r_gu rfl rfl ?_ | refine r_gd rfl (by assumption) ?_ | refine r_gn rfl (by assumption) rfl ?_); refine r_v (q_moveB rfl) rfl ?_; (first | refine r_gd rfl rfl ?_ | refine r_gn rfl rfl rfl ?_ | refine r_gu rfl rfl ?_ | refine r_gd rfl (by assumption) ?_ | refine r_gn rfl (by assumption) rfl ?_); refine r_v (q_not rfl) rfl ?_; (first | refine r_v (q_pick1 rfl rfl rfl) rfl ?_ | refine r_v (q_pick0 rfl rfl rfl) rfl ?_ | refine r_v (q_pick1 rfl (by assumption) rfl) rfl ?_ | refine r_v (q_pick0 rfl (by assumption) rfl) rfl ?_ | refine r_v (q_pickB rfl rfl rfl) rfl ?_); refine r_v (q_moveB rfl) rfl ?_; (first | refine r_gd rfl rfl ?_ | refine r_gn rfl rfl rfl ?_ | refine r_gu rfl rfl ?_ | refine r_gd rfl (by assumption) ?_ | refine r_gn rfl (by assumption) rfl ?_); refine r_v (q_moveB rfl) rfl ?_; (first | refine r_gd rfl rfl ?_ | refine r_gn rfl rfl rfl ?_ | refine r_gu rfl rfl ?_ | refine r_gd rfl (by assumption) ?_ | refine r_gn rfl (by assumption) rfl ?_); refine r_v (q_not rfl) rfl ?_; (first | refine r_v (q_pick1 rfl rfl rfl) rfl ?_ | refine r_v (q_pick0 rfl rfl rfl) rfl ?_ | refine r_v (q_pick1 rfl (by assumption) rfl) rfl ?_ | refine r_v (q_pick0 rfl (by assumption) rfl) rfl ?_ | refine r_v (q_pickB rfl rfl rfl) rfl ?_); refine r_v (q_assignB rfl) rfl ?_
 refine r_nil ?_
 exact c_ret (bq1 ⟨rfl, h.drop.drop.drop.drop.drop.drop⟩)

end
end Go.Proofs.YtjjacchnalemaaaGreatDoor
