/- xorv: values by what turns: reading them. -/
import Derived.Test.YtjjacchnalemaaaDoorDec
import Derived.Test.YtjjacchnalemaaaDoorXorv
namespace Go.Hw
theorem run_part_bool {P : Program} {w : World} {t : TypeId} (ht : P.underlying t = some .bool) {cs : List Value} {off : Nat} {v : Value} (hv : cs[off]? = some v) : (part t cs.toArray off).run P w = .ok v w := by
  have : (isAgg t).run P w = .ok false w := by
    unfold Go.isAgg
    rw [Sem.run_bind, run_underlying ht w]
    rfl
  simp [part, this, hv]
/-- A struct of a bool and two numbers. -/
class EqB2 (P : Program) (t : TypeId) : Prop where
  u : ∃ fl : List Field, P.underlying t = some (.struct fl.toArray) ∧ fl.map (fun f => (f.name == "_", f.offset, P.underlying f.type)) = [(false, 0, some .bool), (false, 1, some (.int .i64)), (false, 2, some (.int .i64))]
  s : P.stoodInHeld t = false
  g : P.eqGuardType P.depth t = false
theorem run_eqB2 {P : Program} {w : World} {t : TypeId} (h : EqB2 P t) (a a' : Bool) (b b' c c' : Int) (d : Nat) :
    (Op.equalIn (d + 2) t (.agg [.bool a, .int .i64 b, .int .i64 c].toArray) (.agg [.bool a', .int .i64 b', .int .i64 c'].toArray)).run P w = .ok (a == a' && ([b, c] : List Int) == [b', c']) w := by
  obtain ⟨fl, hu, hf⟩ := h.u
  have hfo : P.fieldsOf t = fl.toArray := by unfold Program.fieldsOf; rw [hu]
  rw [run_equalIn_struct w (d + 1) t _ _ (by rw [hfo]; exact hu) h.s, hfo]
  have hl3 : fl.length = 3 := by have := congrArg List.length hf; simpa using this
  obtain ⟨f, f2, f3, rfl⟩ : ∃ f f2 f3, fl = [f, f2, f3] := by
    match fl, hl3 with
    | [x, y, z], _ => exact ⟨x, y, z, rfl⟩
  simp only [List.map_cons, List.map_nil, List.cons.injEq, Prod.mk.injEq, and_true] at hf
  obtain ⟨⟨h1, h2, h3⟩, h4⟩ := hf
  have hn : f.name ≠ "_" := by simpa using h1
  have e1 : ([.bool a, .int .i64 b, .int .i64 c] : List Value)[f.offset]? = some (.bool a) := by rw [h2]; rfl
  have e2 : ([.bool a', .int .i64 b', .int .i64 c'] : List Value)[f.offset]? = some (.bool a') := by rw [h2]; rfl
  show (Op.eqFields (d + 1) _ _ [f, f2, f3]).run P w = _
  unfold Op.eqFields
  rw [if_pos hn]
  simp only [Sem.run_bind, run_part_bool h3 e1, run_part_bool h3 e2, Result.andThen_ok, run_equalIn_bool w d f.type a a' h3]
  by_cases haa : a = a'
  · subst haa
    have ih := run_eqFields (P := P) (w := w) d [f2, f3] [.i64, .i64] [b, c] [b', c'] [.bool a] [.bool a] rfl rfl rfl (by
      obtain ⟨⟨g1, g2, g3⟩, g4, g5, g6⟩ := h4
      simp [g1, g2, g3, g4, g5, g6, List.zipIdx])
    have ih' : (Op.eqFields (d + 1) #[Value.bool a, .int .i64 b, .int .i64 c] #[Value.bool a, .int .i64 b', .int .i64 c'] [f2, f3]).run P w = .ok (b == b' && c == c') w := by
      have := ih
      simpa [ints] using this
    simp
    exact ih'
  · simp [haa]
section
variable {P : Program} {e : Env} {w : World} {d : Option Nat} {ty : TypeId} {pos : String} {af : Array Edge} {g : Option (Nat × Bool)}
theorem q_neB2 {t t2 : TypeId} [h : EqB2 P t] {x y : Operand} (a a' : Bool) (b b' c c' : Int) (hx : ev e x = .agg [.bool a, .int .i64 b, .int .i64 c].toArray) (hy : ev e y = .agg [.bool a', .int .i64 b', .int .i64 c'].toArray) :
    Qv P e ⟨d, .binOp .neq t x y t2, ty, pos, af, g⟩ w (.bool (!(a == a' && ([b, c] : List Int) == [b', c']))) := by
  unfold Qv
  have h1 := run_eqGuard_agg (P := P) w .neq t x y [.bool a, .int .i64 b, .int .i64 c].toArray [.bool a', .int .i64 b', .int .i64 c'].toArray h.g
  have h2 := run_neq_struct (P := P) w t [.bool a, .int .i64 b, .int .i64 c].toArray [.bool a', .int .i64 b', .int .i64 c'].toArray
  rw [run_eqB2 h a a' b b' c c' 9998] at h2
  simp only [execOp, hx, hy, Sem.run_bind, h1, Result.andThen_ok, h2, Result.andThen]
  rfl
end
theorem win_ne (x y : Win) : (!(x.is == y.is && ([(x.lead : Int), (x.trail : Int)] : List Int) == [(y.lead : Int), (y.trail : Int)])) = decide (x ≠ y) := by
  obtain ⟨a, b, c⟩ := x
  obtain ⟨a', b', c'⟩ := y
  by_cases h : (⟨a, b, c⟩ : Win) = ⟨a', b', c'⟩
  · cases h; simp
  · rw [decide_eq_true h, Bool.not_eq_true', Bool.eq_false_iff]
    intro hh
    have hh : a = a' ∧ (b : Int) = b' ∧ (c : Int) = c' := by simpa using hh
    obtain ⟨rfl, h2, h3⟩ := hh
    obtain rfl : b = b' := by omega
    obtain rfl : c = c' := by omega
    exact h rfl
end Go.Hw
namespace Go.Proofs.YtjjacchnalemaaaDoor
open Go.Hw
set_option maxHeartbeats 4000000
set_option maxRecDepth 100000
instance eqbWin : EqB2 Tryd.prog 132 := ⟨⟨_, Tryd.underlying132, by kernel_rfl⟩, by kernel_rfl, by kernel_rfl⟩
section
variable {w0 w : World} {l : List HProp}
theorem xorv_turn (hT : Tz w0) {p q : Nat} {s : RS} {win : Win} (ho : WinOk win ∨ win = ⟨false, 0, 0⟩) (h : St w0 (IsBR p s :: WinPt q win :: l) w) :
    Ret Tryd.prog 112 [.pointer (some ⟨p, 0, none⟩), .pointer (some ⟨q, 0, none⟩)] w fun v w' => ∃ (x : Nat) (ok : Bool) (win' : Win), v = .tuple [.int .u64 (x : Int), .bool ok].toArray ∧ x < 18446744073709551616 ∧ WinOk win' ∧ (turnR s win).1 = (if ok = true then some (x, win') else none) ∧ St w0 (IsBR p (turnR s win).2 :: WinPt q win' :: l) w' := by
  have ho : WinOk win := by
    rcases ho with h | h
    · exact h
    · subst h; unfold WinOk; decide
  have hwl := win_long_le win
  refine enter Tryd.func112 rfl Tryd.results112 Tryd.ntmps112 rfl ?_
  refine c_seq (c_region ?_)
  refine r_v (q_assignI rfl) rfl ?_; refine r_v (q_assignB rfl) rfl ?_
  refine r_nil ?_
  refine c_seq (c_seq (c_region ?_))
  refine r_v (q_moveP rfl) rfl ?_
  refine r_c rfl (x_call rfl (bits_Get 1 h) ?_)
  rw [show heldN 1 = 1 from rfl]
  cases hg1 : s.get 1 with | mk a s1 =>
  rintro _ w ⟨rfl, h⟩
  dsimp only at h ⊢
  refine r_v (q_eql rfl rfl) rfl ?_
  by_cases ha : a = 0
  · subst ha
    refine r_is (.bool true) rfl ?_
    refine r_nil (c_true rfl ?_)
    refine c_seq (c_region ?_)
    refine r_v (q_assignI rfl) rfl ?_; refine r_v (q_assignB rfl) rfl ?_
    refine r_nil ?_
    rw [turnR_0 hg1]
    exact c_ret (bq2 ⟨0, true, win, rfl, by decide, ho, rfl, h⟩)
  refine r_is (.bool false) (by congr 1; rw [beq_eq_false_iff_ne]; omega) ?_
  refine r_nil (c_false rfl (c_skip ?_))
  refine c_seq (c_seq (c_region ?_))
  refine r_v (q_moveP rfl) rfl ?_
  refine r_c rfl (x_call rfl (bits_Get 1 h) ?_)
  rw [show heldN 1 = 1 from rfl]
  cases hg2 : s1.get 1 with | mk b s2 =>
  rintro _ w ⟨rfl, h⟩
  dsimp only at h ⊢
  refine r_v (q_eql rfl rfl) rfl ?_
  by_cases hb : b = 0
  · subst hb
    refine r_is (.bool true) rfl ?_
    refine r_nil (c_true rfl ?_)
    cases hg3 : s2.get win.long with | mk g s3 =>
    have hT2 := turnR_2 hg1 ha hg2 hg3
    have hglt : g * 2 ^ win.trail % 18446744073709551616 < 18446744073709551616 := Nat.mod_lt _ (by decide)
    have htr : win.trail ≤ 64 := by unfold WinOk at ho; omega
    refine c_cut (Γ := Unit) (fun _ => [(1, .pointer (some ⟨q, 0, none⟩)), (6, .int .u64 ((g * 2 ^ win.trail % 18446744073709551616 : Nat) : Int))]) (fun _ w => St w0 (IsBR p s3 :: WinPt q win :: l) w) ?_ ?_
    · refine c_anyW [0, 1, 2, 3, 4, 5, 6, 7, 8, 9, 10, 11] none (fun w => w.heap[q]? = some (.cells (winC win).toArray 132 (0, 0))) (by kernel_rfl) (by kernel_rfl) ?_
      replace h := h.drew
      generalize w.drew = w at h
      have hs := h
      replace h := hs.b 1 rfl
      refine cur_pure rfl rfl rfl rfl (fun _ => h) (fun _ => flt_v rfl (q_moveP rfl)) ?_; refine cur_pure rfl rfl rfl rfl (fun _ => h) (fun _ => flt_v rfl (q_moveP rfl)) ?_; refine cur_pure rfl rfl rfl rfl (fun _ => h) (fun _ => flt_v rfl (q_nil rfl)) ?_
      refine cur_float rfl rfl rfl rfl h (fun w h => flt_v rfl (q_loadS (l := winC win) rfl rfl (at_of h rfl))) ?_
      refine cur_skip ?_; refine cur_skip ?_; refine cur_pure rfl rfl rfl rfl (fun _ => h) (fun _ => flt_v rfl (q_moveP rfl)) ?_; refine cur_pure rfl rfl rfl rfl (fun _ => h) (fun _ => flt_v rfl (q_nil rfl)) ?_; refine cur_pure rfl rfl rfl rfl (fun _ => h) (fun _ => flt_v rfl (q_fa rfl)) ?_
      refine cur_float rfl rfl rfl rfl h (fun w h => flt_v rfl (q_load (v := .int .i64 win.trail) rfl h rfl)) ?_
      refine cur_skip ?_; refine cur_skip ?_
      refine cur_one 4 rfl rfl rfl rfl ?_
      refine (x_call rfl (xorv_long ho hs) ?_)
      rintro _ w ⟨rfl, hs⟩
      replace h := hs.b 1 rfl
      refine ⟨fun _ => h, ?_⟩
      refine cur_skip ?_; refine cur_skip ?_; refine cur_skip ?_
      refine cur_one 5 rfl rfl rfl rfl ?_
      refine (x_call rfl (bits_Get win.long hs) ?_)
      rw [heldN_nat hwl, hg3]
      rintro _ w ⟨rfl, hs⟩
      dsimp only at hs
      replace h := hs.b 1 rfl
      refine ⟨fun _ => h, ?_⟩
      refine cur_pure rfl rfl rfl rfl (fun _ => h) (fun _ => flt_v rfl (q_is (v' := .int .u64 ((g * 2 ^ win.trail % 18446744073709551616 : Nat) : Int)) (q_shl rfl rfl (by omega)) (congrArg (Value.int .u64) (shl_u64 g win.trail htr)))) ?_
      refine cur_pure rfl rfl rfl rfl (fun _ => h) (fun _ => flt_v rfl (q_assignI rfl)) ?_
      exact cur_end ⟨(), ⟨rfl, rfl, trivial⟩, hs⟩
    clear h
    rintro _ w e h
    rw [hT2]
    dsimp only
    generalize hX : g * 2 ^ win.trail % 18446744073709551616 = x at hglt ⊢
    refine c_seq (c_region ?_)
    refine r_v (q_moveI rfl) rfl ?_; refine r_v (q_moveP rfl) rfl ?_; refine r_v (q_nil rfl) rfl ?_; refine r_v (q_fa rfl) rfl ?_
    refine r_v (q_load (v := .bool win.is) rfl (h.b 1 rfl) rfl) rfl ?_
    cases hwi : win.is with
    | false =>
      refine r_v (q_moveB rfl) rfl ?_; (first | refine r_gd rfl rfl ?_ | refine r_gn rfl rfl rfl ?_ | refine r_gu rfl rfl ?_ | refine r_gd rfl (by assumption) ?_ | refine r_gn rfl (by assumption) rfl ?_); (first | refine r_gd rfl rfl ?_ | refine r_gn rfl rfl rfl ?_ | refine r_gu rfl rfl ?_ | refine r_gd rfl (by assumption) ?_ | refine r_gn rfl (by assumption) rfl ?_); (first | refine r_v (q_pick1 rfl rfl rfl) rfl ?_ | refine r_v (q_pick0 rfl rfl rfl) rfl ?_ | refine r_v (q_pick1 rfl (by assumption) rfl) rfl ?_ | refine r_v (q_pick0 rfl (by assumption) rfl) rfl ?_ | refine r_v (q_pickB rfl rfl rfl) rfl ?_); refine r_v (q_assignI rfl) rfl ?_; refine r_v (q_assignB rfl) rfl ?_
      refine r_nil ?_
      exact c_ret (bq2 ⟨x, false, win, rfl, hglt, ho, by simp, h⟩)
    | true =>
      refine r_v (q_moveB rfl) rfl ?_; (first | refine r_gd rfl rfl ?_ | refine r_gn rfl rfl rfl ?_ | refine r_gu rfl rfl ?_ | refine r_gd rfl (by assumption) ?_ | refine r_gn rfl (by assumption) rfl ?_); refine r_v (q_moveI rfl) rfl ?_; (first | refine r_gd rfl rfl ?_ | refine r_gn rfl rfl rfl ?_ | refine r_gu rfl rfl ?_ | refine r_gd rfl (by assumption) ?_ | refine r_gn rfl (by assumption) rfl ?_); refine r_v (q_neq rfl rfl) rfl ?_; (first | refine r_v (q_pick1 rfl rfl rfl) rfl ?_ | refine r_v (q_pick0 rfl rfl rfl) rfl ?_ | refine r_v (q_pick1 rfl (by assumption) rfl) rfl ?_ | refine r_v (q_pick0 rfl (by assumption) rfl) rfl ?_ | refine r_v (q_pickB rfl rfl rfl) rfl ?_); refine r_v (q_assignI rfl) rfl ?_; refine r_v (q_assignB rfl) rfl ?_
      refine r_nil ?_
      refine c_ret (bq2 ⟨x, (x : Int) != 0, win, rfl, hglt, ho, ?_, h⟩)
      by_cases hx0 : x = 0
      · subst hx0; simp
      · rw [if_pos ⟨rfl, hx0⟩, if_pos (by rw [bne_iff_ne]; omega)]
  refine r_is (.bool false) (by congr 1; rw [beq_eq_false_iff_ne]; omega) ?_
  refine r_nil (c_false rfl (c_skip ?_))
  refine c_seq (c_region ?_)
  refine r_v (q_moveP rfl) rfl ?_
  refine r_c rfl (x_call rfl (bits_Get 5 h) ?_)
  rw [show heldN 5 = 5 from rfl]
  have hlead := RS.get_lt s2 5
  cases hg3 : s2.get 5 with | mk lead s3 =>
  rw [hg3] at hlead
  rintro _ w ⟨rfl, h⟩
  dsimp only at h hlead ⊢
  refine r_v (q_conv rfl) rfl ?_
  refine r_is (.int .i64 (lead : Int)) (by rw [wrap64 (by omega) (by omega)]) ?_
  refine r_v (q_moveP rfl) rfl ?_
  refine r_c rfl (x_call rfl (bits_Get 6 h) ?_)
  rw [show heldN 6 = 6 from rfl]
  have hlong := RS.get_lt s3 6
  cases hg4 : s3.get 6 with | mk long s4 =>
  rw [hg4] at hlong
  rintro _ w ⟨rfl, h⟩
  dsimp only at h hlong ⊢
  refine r_v (q_conv rfl) rfl ?_
  refine r_is (.int .i64 (long : Int)) (by rw [wrap64 (by omega) (by omega)]) ?_
  refine r_v (q_add rfl rfl) rfl ?_
  refine r_is (.int .i64 ((long + 1 : Nat) : Int)) (by rw [wrap64 (by omega) (by omega)]; rfl) ?_
  refine r_v (q_assignI rfl) rfl ?_; refine r_v (q_assignI rfl) rfl ?_
  refine r_nil ?_
  refine c_seq (c_region ?_)
  refine r_v (q_moveI rfl) rfl ?_; refine r_v (q_moveI rfl) rfl ?_; refine r_v (q_sub rfl rfl) rfl ?_
  refine r_is (.int .i64 (64 - (lead : Int))) (by rw [wrap64 (by omega) (by omega)]) ?_
  refine r_v (q_moveI rfl) rfl ?_; refine r_v (q_sub rfl rfl) rfl ?_
  refine r_is (.int .i64 (64 - (lead : Int) - ((long + 1 : Nat) : Int))) (by rw [wrap64 (by omega) (by omega)]) ?_
  generalize htr : 64 - (lead : Int) - ((long + 1 : Nat) : Int) = tr
  refine r_v (q_build (r := [.bool true, .int .i64 lead, .int .i64 tr]) rfl) rfl ?_
  refine r_c rfl (x_alloc h fun b9 w h => ?_)
  refine r_c rfl (x_storeA (vs := [.bool true, .int .i64 lead, .int .i64 tr]) 0 h rfl rfl rfl rfl rfl rfl rfl fun w h => ?_)
  replace h : St w0 (pt b9 (.cells [.bool true, .int .i64 lead, .int .i64 tr].toArray 132 (0, 0)) :: IsBR p s4 :: WinPt q win :: l) w := h
  refine r_nil ?_
  refine c_seq (c_seq (c_region ?_))
  refine r_v (q_fa rfl) rfl ?_
  refine r_v (q_load (v := .int .i64 tr) rfl (h.b 0 rfl) rfl) rfl ?_
  refine r_v (q_lss rfl rfl) rfl ?_
  refine r_nil (c_cond (decide (tr < 0)) rfl (fun hc => ?_) (fun hc => ?_))
  ·
    refine c_seq (c_region ?_)
    refine r_v (q_assignI rfl) rfl ?_; refine r_v (q_assignB rfl) rfl ?_
    refine r_nil ?_
    rw [turnR_3x hg1 ha hg2 hb hg3 hg4 (by rw [decide_eq_true_eq] at hc; omega)]
    exact c_ret (bq2 ⟨0, false, win, rfl, by decide, ho, rfl, h.drop⟩)
  refine c_skip ?_
  have hle : ¬ 64 < lead + (long + 1) := by rw [decide_eq_false_iff_not] at hc; omega
  have htr2 : tr = ((64 - lead - (long + 1) : Nat) : Int) := by omega
  subst htr2
  clear hc htr
  cases hg5 : s4.get (long + 1) with | mk g s5 =>
  have hT3 := turnR_3 (win := win) hg1 ha hg2 hb hg3 hg4 hle hg5
  have hglt : g * 2 ^ (64 - lead - (long + 1)) % 18446744073709551616 < 18446744073709551616 := Nat.mod_lt _ (by decide)
  generalize htd : 64 - lead - (long + 1) = tr at hT3 hglt h ⊢
  replace h : St w0 (WinPt b9 ⟨true, lead, tr⟩ :: IsBR p s4 :: WinPt q win :: l) w := h
  refine c_cut (Γ := Unit) (fun _ => [(1, .pointer (some ⟨q, 0, none⟩)), (9, .pointer (some ⟨b9, 0, none⟩)), (10, .int .u64 ((g * 2 ^ tr % 18446744073709551616 : Nat) : Int))]) (fun _ w => St w0 (WinPt b9 ⟨true, lead, tr⟩ :: IsBR p s5 :: WinPt q win :: l) w) ?_ ?_
  · refine c_anyW [0, 1, 2, 3, 4, 5, 6] none (fun w => w.heap[b9]? = some (.cells (winC ⟨true, lead, tr⟩).toArray 132 (0, 0))) (by kernel_rfl) (by kernel_rfl) ?_
    replace h := h.drew
    generalize w.drew = w at h
    have hs := h
    replace h := hs.b 0 rfl
    refine cur_pure rfl rfl rfl rfl (fun _ => h) (fun _ => flt_v rfl (q_moveP rfl)) ?_; refine cur_pure rfl rfl rfl rfl (fun _ => h) (fun _ => flt_v rfl (q_moveI rfl)) ?_; refine cur_skip ?_; refine cur_pure rfl rfl rfl rfl (fun _ => h) (fun _ => flt_v rfl (q_fa rfl)) ?_
    refine cur_float rfl rfl rfl rfl h (fun w h => flt_v rfl (q_load (v := .int .i64 tr) rfl h rfl)) ?_
    refine cur_skip ?_; refine cur_skip ?_
    refine cur_one 2 rfl rfl rfl rfl ?_
    refine (x_call rfl (bits_Get ((long + 1 : Nat) : Int) (hs.f 1)) ?_)
    rw [heldN_nat (by omega), hg5]
    rintro _ w ⟨rfl, hs⟩
    dsimp only at hs
    replace hs := hs.f 1
    replace h := hs.b 0 rfl
    refine ⟨fun _ => h, ?_⟩
    refine cur_pure rfl rfl rfl rfl (fun _ => h) (fun _ => flt_v rfl (q_is (v' := .int .u64 ((g * 2 ^ tr % 18446744073709551616 : Nat) : Int)) (q_shl rfl rfl (by omega)) (congrArg (Value.int .u64) (shl_u64 g tr (by omega))))) ?_
    refine cur_pure rfl rfl rfl rfl (fun _ => h) (fun _ => flt_v rfl (q_assignI rfl)) ?_
    exact cur_end ⟨(), ⟨rfl, rfl, rfl, trivial⟩, hs⟩
  clear h
  rintro _ w e h
  rw [hT3]
  dsimp only
  generalize hX : g * 2 ^ tr % 18446744073709551616 = x at hglt ⊢
  refine c_cut (Γ := Unit) (fun _ => [(1, .pointer (some ⟨q, 0, none⟩)), (9, .pointer (some ⟨b9, 0, none⟩)), (10, .int .u64 (x : Int))]) (fun _ w => ¬ (x = 0 ∨ winOf x ≠ ⟨true, lead, tr⟩ ∨ win.fits x = true) ∧ St w0 (WinPt b9 ⟨true, lead, tr⟩ :: IsBR p s5 :: WinPt q win :: l) w) ?_ ?_
  · have bad : ∀ {w : World}, (x = 0 ∨ winOf x ≠ ⟨true, lead, tr⟩ ∨ win.fits x = true) → St w0 (WinPt b9 ⟨true, lead, tr⟩ :: IsBR p s5 :: WinPt q win :: l) w → ∃ (x' : Nat) (ok : Bool) (win' : Win), Value.tuple [.int .u64 0, .bool false].toArray = .tuple [.int .u64 (x' : Int), .bool ok].toArray ∧ x' < 18446744073709551616 ∧ WinOk win' ∧ (if x = 0 ∨ winOf x ≠ ⟨true, lead, tr⟩ ∨ win.fits x = true then none else some (x, (⟨true, lead, tr⟩ : Win))) = (if ok = true then some (x', win') else none) ∧ St w0 (IsBR p s5 :: WinPt q win' :: l) w := fun hb h => ⟨0, false, win, rfl, by decide, ho, by rw [if_pos hb]; rfl, h.drop⟩
    have hwc : ∀ {w : World}, St w0 (WinPt b9 ⟨true, lead, tr⟩ :: IsBR p s5 :: WinPt q win :: l) w → At w b9 0 (winC ⟨true, lead, tr⟩) := fun h => at_of (h.b 0 rfl) rfl
    by_cases hx0 : x = 0
    · refine c_seq (c_any none (fun w => St w0 _ w) (by kernel_rfl) (by kernel_rfl) h.drew fun w h => ?_)
      refine cur_pure rfl rfl rfl rfl (fun _ => h) (fun _ => flt_v rfl (q_moveI rfl)) ?_
      refine cur_pure rfl rfl rfl rfl (fun _ => h) (fun _ => flt_v rfl (q_is (v' := .bool true) (q_eql rfl rfl) (by rw [hx0]; rfl))) ?_
      refine cur_pure rfl rfl rfl rfl (fun _ => h) (fun _ => flt_v rfl (q_moveB rfl)) ?_; (first | refine cur_pure rfl rfl rfl rfl (fun _ => h) (fun _ => flt_g rfl rfl (q_nil rfl)) ?_ | refine cur_pure rfl rfl rfl rfl (fun _ => h) (fun _ => flt_g rfl (by assumption) (q_nil rfl)) ?_ | refine cur_pure rfl rfl rfl rfl (fun _ => h) (fun _ => flt_n rfl rfl) ?_ | refine cur_pure rfl rfl rfl rfl (fun _ => h) (fun _ => flt_n rfl (by assumption)) ?_); (first | refine cur_pure rfl rfl rfl rfl (fun _ => h) (fun _ => flt_g rfl rfl (q_nil rfl)) ?_ | refine cur_pure rfl rfl rfl rfl (fun _ => h) (fun _ => flt_g rfl (by assumption) (q_nil rfl)) ?_ | refine cur_pure rfl rfl rfl rfl (fun _ => h) (fun _ => flt_n rfl rfl) ?_ | refine cur_pure rfl rfl rfl rfl (fun _ => h) (fun _ => flt_n rfl (by assumption)) ?_); (first | refine cur_pure rfl rfl rfl rfl (fun _ => h) (fun _ => flt_g rfl rfl (q_nil rfl)) ?_ | refine cur_pure rfl rfl rfl rfl (fun _ => h) (fun _ => flt_g rfl (by assumption) (q_nil rfl)) ?_ | refine cur_pure rfl rfl rfl rfl (fun _ => h) (fun _ => flt_n rfl rfl) ?_ | refine cur_pure rfl rfl rfl rfl (fun _ => h) (fun _ => flt_n rfl (by assumption)) ?_); (first | refine cur_pure rfl rfl rfl rfl (fun _ => h) (fun _ => flt_g rfl rfl (q_nil rfl)) ?_ | refine cur_pure rfl rfl rfl rfl (fun _ => h) (fun _ => flt_g rfl (by assumption) (q_nil rfl)) ?_ | refine cur_pure rfl rfl rfl rfl (fun _ => h) (fun _ => flt_n rfl rfl) ?_ | refine cur_pure rfl rfl rfl rfl (fun _ => h) (fun _ => flt_n rfl (by assumption)) ?_); (first | refine cur_pure rfl rfl rfl rfl (fun _ => h) (fun _ => flt_v rfl (q_pick1 rfl rfl rfl)) ?_ | refine cur_pure rfl rfl rfl rfl (fun _ => h) (fun _ => flt_v rfl (q_pick0 rfl rfl rfl)) ?_ | refine cur_pure rfl rfl rfl rfl (fun _ => h) (fun _ => flt_v rfl (q_pick1 rfl (by assumption) rfl)) ?_ | refine cur_pure rfl rfl rfl rfl (fun _ => h) (fun _ => flt_v rfl (q_pick0 rfl (by assumption) rfl)) ?_ | refine cur_pure rfl rfl rfl rfl (fun _ => h) (fun _ => flt_v rfl (q_pickB rfl rfl rfl)) ?_); refine cur_pure rfl rfl rfl rfl (fun _ => h) (fun _ => flt_v rfl (q_moveB rfl)) ?_; (first | refine cur_pure rfl rfl rfl rfl (fun _ => h) (fun _ => flt_g rfl rfl (q_nil rfl)) ?_ | refine cur_pure rfl rfl rfl rfl (fun _ => h) (fun _ => flt_g rfl (by assumption) (q_nil rfl)) ?_ | refine cur_pure rfl rfl rfl rfl (fun _ => h) (fun _ => flt_n rfl rfl) ?_ | refine cur_pure rfl rfl rfl rfl (fun _ => h) (fun _ => flt_n rfl (by assumption)) ?_); (first | refine cur_pure rfl rfl rfl rfl (fun _ => h) (fun _ => flt_g rfl rfl (q_nil rfl)) ?_ | refine cur_pure rfl rfl rfl rfl (fun _ => h) (fun _ => flt_g rfl (by assumption) (q_nil rfl)) ?_ | refine cur_pure rfl rfl rfl rfl (fun _ => h) (fun _ => flt_n rfl rfl) ?_ | refine cur_pure rfl rfl rfl rfl (fun _ => h) (fun _ => flt_n rfl (by assumption)) ?_); (first | refine cur_pure rfl rfl rfl rfl (fun _ => h) (fun _ => flt_g rfl rfl (q_nil rfl)) ?_ | refine cur_pure rfl rfl rfl rfl (fun _ => h) (fun _ => flt_g rfl (by assumption) (q_nil rfl)) ?_ | refine cur_pure rfl rfl rfl rfl (fun _ => h) (fun _ => flt_n rfl rfl) ?_ | refine cur_pure rfl rfl rfl rfl (fun _ => h) (fun _ => flt_n rfl (by assumption)) ?_); (first | refine cur_pure rfl rfl rfl rfl (fun _ => h) (fun _ => flt_g rfl rfl (q_nil rfl)) ?_ | refine cur_pure rfl rfl rfl rfl (fun _ => h) (fun _ => flt_g rfl (by assumption) (q_nil rfl)) ?_ | refine cur_pure rfl rfl rfl rfl (fun _ => h) (fun _ => flt_n rfl rfl) ?_ | refine cur_pure rfl rfl rfl rfl (fun _ => h) (fun _ => flt_n rfl (by assumption)) ?_); (first | refine cur_pure rfl rfl rfl rfl (fun _ => h) (fun _ => flt_g rfl rfl (q_nil rfl)) ?_ | refine cur_pure rfl rfl rfl rfl (fun _ => h) (fun _ => flt_g rfl (by assumption) (q_nil rfl)) ?_ | refine cur_pure rfl rfl rfl rfl (fun _ => h) (fun _ => flt_n rfl rfl) ?_ | refine cur_pure rfl rfl rfl rfl (fun _ => h) (fun _ => flt_n rfl (by assumption)) ?_); (first | refine cur_pure rfl rfl rfl rfl (fun _ => h) (fun _ => flt_v rfl (q_pick1 rfl rfl rfl)) ?_ | refine cur_pure rfl rfl rfl rfl (fun _ => h) (fun _ => flt_v rfl (q_pick0 rfl rfl rfl)) ?_ | refine cur_pure rfl rfl rfl rfl (fun _ => h) (fun _ => flt_v rfl (q_pick1 rfl (by assumption) rfl)) ?_ | refine cur_pure rfl rfl rfl rfl (fun _ => h) (fun _ => flt_v rfl (q_pick0 rfl (by assumption) rfl)) ?_ | refine cur_pure rfl rfl rfl rfl (fun _ => h) (fun _ => flt_v rfl (q_pickB rfl rfl rfl)) ?_)
      refine cur_end (c_true rfl ?_)
      refine c_seq (c_region ?_)
      refine r_v (q_assignI rfl) rfl ?_; refine r_v (q_assignB rfl) rfl ?_
      exact r_nil (c_ret (bq2 (bad (.inl hx0) h)))
    by_cases hne : winOf x ≠ ⟨true, lead, tr⟩
    · refine c_seq (c_any none (fun w => St w0 _ w) (by kernel_rfl) (by kernel_rfl) h.drew fun w h => ?_)
      refine cur_pure rfl rfl rfl rfl (fun _ => h) (fun _ => flt_v rfl (q_moveI rfl)) ?_
      refine cur_pure rfl rfl rfl rfl (fun _ => h) (fun _ => flt_v rfl (q_is (v' := .bool false) (q_eql rfl rfl) (by congr 1; rw [beq_eq_false_iff_ne]; omega))) ?_
      refine cur_pure rfl rfl rfl rfl (fun _ => h) (fun _ => flt_v rfl (q_moveB rfl)) ?_; (first | refine cur_pure rfl rfl rfl rfl (fun _ => h) (fun _ => flt_g rfl rfl (q_moveI rfl)) ?_ | refine cur_pure rfl rfl rfl rfl (fun _ => h) (fun _ => flt_g rfl (by assumption) (q_moveI rfl)) ?_ | refine cur_pure rfl rfl rfl rfl (fun _ => h) (fun _ => flt_n rfl rfl) ?_ | refine cur_pure rfl rfl rfl rfl (fun _ => h) (fun _ => flt_n rfl (by assumption)) ?_); refine cur_skip ?_
      refine cur_float rfl rfl rfl rfl h (fun w h => flt_g rfl rfl (q_loadS (l := winC ⟨true, lead, tr⟩) rfl rfl (hwc h))) ?_
      refine cur_skip ?_; refine cur_skip ?_; refine cur_skip ?_; refine cur_skip ?_; refine cur_skip ?_; refine cur_skip ?_; refine cur_skip ?_; refine cur_skip ?_; refine cur_skip ?_
      refine cur_one 4 rfl rfl rfl (wanted_g rfl rfl rfl) ?_
      refine (x_call rfl (xorv_of hT hglt h) ?_)
      rintro _ w ⟨rfl, h⟩
      refine ⟨fun _ => h, ?_⟩
      refine cur_pure rfl rfl rfl rfl (fun _ => h) (fun _ => flt_g rfl rfl (q_is (v' := .bool true) (q_neB2 (winOf x).is true (winOf x).lead lead (winOf x).trail tr rfl rfl) (by rw [win_ne (winOf x) ⟨true, lead, tr⟩, decide_eq_true hne]))) ?_
      (first | refine cur_pure rfl rfl rfl rfl (fun _ => h) (fun _ => flt_v rfl (q_pick1 rfl rfl rfl)) ?_ | refine cur_pure rfl rfl rfl rfl (fun _ => h) (fun _ => flt_v rfl (q_pick0 rfl rfl rfl)) ?_ | refine cur_pure rfl rfl rfl rfl (fun _ => h) (fun _ => flt_v rfl (q_pick1 rfl (by assumption) rfl)) ?_ | refine cur_pure rfl rfl rfl rfl (fun _ => h) (fun _ => flt_v rfl (q_pick0 rfl (by assumption) rfl)) ?_ | refine cur_pure rfl rfl rfl rfl (fun _ => h) (fun _ => flt_v rfl (q_pickB rfl rfl rfl)) ?_); refine cur_pure rfl rfl rfl rfl (fun _ => h) (fun _ => flt_v rfl (q_moveB rfl)) ?_; (first | refine cur_pure rfl rfl rfl rfl (fun _ => h) (fun _ => flt_g rfl rfl (q_nil rfl)) ?_ | refine cur_pure rfl rfl rfl rfl (fun _ => h) (fun _ => flt_g rfl (by assumption) (q_nil rfl)) ?_ | refine cur_pure rfl rfl rfl rfl (fun _ => h) (fun _ => flt_n rfl rfl) ?_ | refine cur_pure rfl rfl rfl rfl (fun _ => h) (fun _ => flt_n rfl (by assumption)) ?_); (first | refine cur_pure rfl rfl rfl rfl (fun _ => h) (fun _ => flt_g rfl rfl (q_nil rfl)) ?_ | refine cur_pure rfl rfl rfl rfl (fun _ => h) (fun _ => flt_g rfl (by assumption) (q_nil rfl)) ?_ | refine cur_pure rfl rfl rfl rfl (fun _ => h) (fun _ => flt_n rfl rfl) ?_ | refine cur_pure rfl rfl rfl rfl (fun _ => h) (fun _ => flt_n rfl (by assumption)) ?_); (first | refine cur_pure rfl rfl rfl rfl (fun _ => h) (fun _ => flt_g rfl rfl (q_nil rfl)) ?_ | refine cur_pure rfl rfl rfl rfl (fun _ => h) (fun _ => flt_g rfl (by assumption) (q_nil rfl)) ?_ | refine cur_pure rfl rfl rfl rfl (fun _ => h) (fun _ => flt_n rfl rfl) ?_ | refine cur_pure rfl rfl rfl rfl (fun _ => h) (fun _ => flt_n rfl (by assumption)) ?_); (first | refine cur_pure rfl rfl rfl rfl (fun _ => h) (fun _ => flt_g rfl rfl (q_nil rfl)) ?_ | refine cur_pure rfl rfl rfl rfl (fun _ => h) (fun _ => flt_g rfl (by assumption) (q_nil rfl)) ?_ | refine cur_pure rfl rfl rfl rfl (fun _ => h) (fun _ => flt_n rfl rfl) ?_ | refine cur_pure rfl rfl rfl rfl (fun _ => h) (fun _ => flt_n rfl (by assumption)) ?_); (first | refine cur_pure rfl rfl rfl rfl (fun _ => h) (fun _ => flt_g rfl rfl (q_nil rfl)) ?_ | refine cur_pure rfl rfl rfl rfl (fun _ => h) (fun _ => flt_g rfl (by assumption) (q_nil rfl)) ?_ | refine cur_pure rfl rfl rfl rfl (fun _ => h) (fun _ => flt_n rfl rfl) ?_ | refine cur_pure rfl rfl rfl rfl (fun _ => h) (fun _ => flt_n rfl (by assumption)) ?_); (first | refine cur_pure rfl rfl rfl rfl (fun _ => h) (fun _ => flt_v rfl (q_pick1 rfl rfl rfl)) ?_ | refine cur_pure rfl rfl rfl rfl (fun _ => h) (fun _ => flt_v rfl (q_pick0 rfl rfl rfl)) ?_ | refine cur_pure rfl rfl rfl rfl (fun _ => h) (fun _ => flt_v rfl (q_pick1 rfl (by assumption) rfl)) ?_ | refine cur_pure rfl rfl rfl rfl (fun _ => h) (fun _ => flt_v rfl (q_pick0 rfl (by assumption) rfl)) ?_ | refine cur_pure rfl rfl rfl rfl (fun _ => h) (fun _ => flt_v rfl (q_pickB rfl rfl rfl)) ?_)
      refine cur_end (c_true rfl ?_)
      refine c_seq (c_region ?_)
      refine r_v (q_assignI rfl) rfl ?_; refine r_v (q_assignB rfl) rfl ?_
      exact r_nil (c_ret (bq2 (bad (.inr (.inl hne)) h)))
    · refine c_seq (c_any none (fun w => St w0 _ w) (by kernel_rfl) (by kernel_rfl) h.drew fun w h => ?_)
      refine cur_pure rfl rfl rfl rfl (fun _ => h) (fun _ => flt_v rfl (q_moveI rfl)) ?_
      refine cur_pure rfl rfl rfl rfl (fun _ => h) (fun _ => flt_v rfl (q_is (v' := .bool false) (q_eql rfl rfl) (by congr 1; rw [beq_eq_false_iff_ne]; omega))) ?_
      refine cur_pure rfl rfl rfl rfl (fun _ => h) (fun _ => flt_v rfl (q_moveB rfl)) ?_; (first | refine cur_pure rfl rfl rfl rfl (fun _ => h) (fun _ => flt_g rfl rfl (q_moveI rfl)) ?_ | refine cur_pure rfl rfl rfl rfl (fun _ => h) (fun _ => flt_g rfl (by assumption) (q_moveI rfl)) ?_ | refine cur_pure rfl rfl rfl rfl (fun _ => h) (fun _ => flt_n rfl rfl) ?_ | refine cur_pure rfl rfl rfl rfl (fun _ => h) (fun _ => flt_n rfl (by assumption)) ?_); refine cur_skip ?_
      refine cur_float rfl rfl rfl rfl h (fun w h => flt_g rfl rfl (q_loadS (l := winC ⟨true, lead, tr⟩) rfl rfl (hwc h))) ?_
      refine cur_skip ?_; refine cur_skip ?_; refine cur_skip ?_; refine cur_skip ?_; refine cur_skip ?_; refine cur_skip ?_; refine cur_skip ?_; refine cur_skip ?_; refine cur_skip ?_
      refine cur_one 4 rfl rfl rfl (wanted_g rfl rfl rfl) ?_
      refine (x_call rfl (xorv_of hT hglt h) ?_)
      rintro _ w ⟨rfl, h⟩
      refine ⟨fun _ => h, ?_⟩
      refine cur_pure rfl rfl rfl rfl (fun _ => h) (fun _ => flt_g rfl rfl (q_is (v' := .bool false) (q_neB2 (winOf x).is true (winOf x).lead lead (winOf x).trail tr rfl rfl) (by rw [win_ne (winOf x) ⟨true, lead, tr⟩, decide_eq_false hne]))) ?_
      (first | refine cur_pure rfl rfl rfl rfl (fun _ => h) (fun _ => flt_v rfl (q_pick1 rfl rfl rfl)) ?_ | refine cur_pure rfl rfl rfl rfl (fun _ => h) (fun _ => flt_v rfl (q_pick0 rfl rfl rfl)) ?_ | refine cur_pure rfl rfl rfl rfl (fun _ => h) (fun _ => flt_v rfl (q_pick1 rfl (by assumption) rfl)) ?_ | refine cur_pure rfl rfl rfl rfl (fun _ => h) (fun _ => flt_v rfl (q_pick0 rfl (by assumption) rfl)) ?_ | refine cur_pure rfl rfl rfl rfl (fun _ => h) (fun _ => flt_v rfl (q_pickB rfl rfl rfl)) ?_); refine cur_pure rfl rfl rfl rfl (fun _ => h) (fun _ => flt_v rfl (q_moveB rfl)) ?_; (first | refine cur_pure rfl rfl rfl rfl (fun _ => h) (fun _ => flt_g rfl rfl (q_moveP rfl)) ?_ | refine cur_pure rfl rfl rfl rfl (fun _ => h) (fun _ => flt_g rfl (by assumption) (q_moveP rfl)) ?_ | refine cur_pure rfl rfl rfl rfl (fun _ => h) (fun _ => flt_n rfl rfl) ?_ | refine cur_pure rfl rfl rfl rfl (fun _ => h) (fun _ => flt_n rfl (by assumption)) ?_); (first | refine cur_pure rfl rfl rfl rfl (fun _ => h) (fun _ => flt_g rfl rfl (q_nil rfl)) ?_ | refine cur_pure rfl rfl rfl rfl (fun _ => h) (fun _ => flt_g rfl (by assumption) (q_nil rfl)) ?_ | refine cur_pure rfl rfl rfl rfl (fun _ => h) (fun _ => flt_n rfl rfl) ?_ | refine cur_pure rfl rfl rfl rfl (fun _ => h) (fun _ => flt_n rfl (by assumption)) ?_)
      refine cur_float rfl rfl rfl rfl h (fun w h => flt_g rfl rfl (q_loadS (l := winC win) rfl rfl (at_of (h.b 2 rfl) rfl))) ?_
      (first | refine cur_pure rfl rfl rfl rfl (fun _ => h) (fun _ => flt_g rfl rfl (q_moveI rfl)) ?_ | refine cur_pure rfl rfl rfl rfl (fun _ => h) (fun _ => flt_g rfl (by assumption) (q_moveI rfl)) ?_ | refine cur_pure rfl rfl rfl rfl (fun _ => h) (fun _ => flt_n rfl rfl) ?_ | refine cur_pure rfl rfl rfl rfl (fun _ => h) (fun _ => flt_n rfl (by assumption)) ?_); refine cur_skip ?_; refine cur_skip ?_
      refine cur_one 13 rfl rfl rfl (wanted_g rfl rfl rfl) ?_
      refine (x_call rfl (xorv_fits hT hglt h) ?_)
      rintro _ w ⟨rfl, h⟩
      refine ⟨fun _ => h, ?_⟩
      (first | refine cur_pure rfl rfl rfl rfl (fun _ => h) (fun _ => flt_v rfl (q_pick1 rfl rfl rfl)) ?_ | refine cur_pure rfl rfl rfl rfl (fun _ => h) (fun _ => flt_v rfl (q_pick0 rfl rfl rfl)) ?_ | refine cur_pure rfl rfl rfl rfl (fun _ => h) (fun _ => flt_v rfl (q_pick1 rfl (by assumption) rfl)) ?_ | refine cur_pure rfl rfl rfl rfl (fun _ => h) (fun _ => flt_v rfl (q_pick0 rfl (by assumption) rfl)) ?_ | refine cur_pure rfl rfl rfl rfl (fun _ => h) (fun _ => flt_v rfl (q_pickB rfl rfl rfl)) ?_)
      refine cur_end (c_cond (win.fits x) rfl (fun hc => ?_) (fun hc => ?_))
      · refine c_seq (c_region ?_)
        refine r_v (q_assignI rfl) rfl ?_; refine r_v (q_assignB rfl) rfl ?_
        exact r_nil (c_ret (bq2 (bad (.inr (.inr hc)) h)))
      · refine c_skip ⟨(), ⟨rfl, rfl, rfl, trivial⟩, ?_, h⟩
        rintro (h | h | h)
        · exact hx0 h
        · exact hne h
        · rw [hc] at h; cases h
  clear h
  rintro _ w e ⟨hcond, h⟩
  refine c_seq (c_region ?_)
  refine r_v (q_moveP rfl) rfl ?_
  refine r_v (q_loadS (l := winC ⟨true, lead, tr⟩) rfl rfl (at_of (h.b 0 rfl) rfl)) rfl ?_
  refine r_v (q_nil rfl) rfl ?_
  refine r_c rfl (x_storeA (vs := winC ⟨true, lead, tr⟩) 2 h rfl rfl rfl rfl rfl rfl rfl fun w h => ?_)
  replace h : St w0 (WinPt b9 ⟨true, lead, tr⟩ :: IsBR p s5 :: WinPt q ⟨true, lead, tr⟩ :: l) w := h
  refine r_nil ?_
  refine c_seq (c_region ?_)
  refine r_v (q_moveI rfl) rfl ?_; refine r_v (q_assignI rfl) rfl ?_; refine r_v (q_assignB rfl) rfl ?_
  refine r_nil ?_
  exact c_ret (bq2 ⟨x, true, ⟨true, lead, tr⟩, rfl, hglt, by unfold WinOk; dsimp only; omega, by rw [if_neg hcond, if_pos rfl], h.drop⟩)

theorem xorv_Decode (hT : Tz w0) {p : Nat} {s : RS} {n : Nat} (hn : n ≤ 65535) (h : St w0 (IsBR p s :: l) w) :
    Ret Tryd.prog 80 [.pointer (some ⟨p, 0, none⟩), .int .i64 (n : Int)] w fun v w' => ∃ a c xs b, v = .tuple [.slice a xs.length c, .bool b].toArray ∧ xorDec n s = (if b = true then some xs else none) ∧ (b = true → xs.length = n ∧ ∀ x ∈ xs, x < 18446744073709551616) ∧ ∃ s', St w0 (OwnU a c xs :: IsBR p s' :: l) w' := by
  refine enter Tryd.func80 rfl Tryd.results80 Tryd.ntmps80 rfl ?_
  refine c_seq (c_region ?_)
  refine r_v (q_assignS rfl) rfl ?_; refine r_v (q_assignB rfl) rfl ?_
  refine r_nil ?_
  refine c_seq (c_region ?_)
  refine r_v (q_moveI rfl) rfl ?_; refine r_v (q_max rfl rfl) rfl ?_; refine r_v (q_min rfl rfl) rfl ?_
  refine r_is (.int .i64 (n : Int)) (by congr 1; omega) ?_
  refine r_v (q_assignI rfl) rfl ?_
  refine r_nil ?_
  refine c_seq (c_region ?_)
  refine r_v (q_assignS rfl) rfl ?_
  refine r_nil ?_
  refine c_seq (c_region ?_)
  refine r_c rfl (x_alloc h fun q w h => ?_)
  replace h : St w0 (WinPt q ⟨false, 0, 0⟩ :: IsBR p s :: l) w := h
  refine r_nil ?_
  refine c_seq (c_region ?_)
  refine r_v (q_assignI rfl) rfl ?_
  refine r_nil ?_
  refine c_seq (c_seq (c_region ?_))
  refine r_v (q_moveI rfl) rfl ?_; refine r_v (q_moveI rfl) rfl ?_
  refine r_nil ?_
  refine c_block ?_
  refine c_loop (Γ := Nat × List Nat × Nat × Win × RS × Option Addr × Nat) (fun k => [(0, .pointer (some ⟨p, 0, none⟩)), (6, .slice k.2.2.2.2.2.1 k.2.1.length k.2.2.2.2.2.2), (7, .pointer (some ⟨q, 0, none⟩)), (8, .int .u64 k.2.2.1), (15, .int .i64 n), (16, .int .i64 k.1)])
    (fun k w => k.1 ≤ n ∧ k.2.1.length = k.1 ∧ k.2.2.1 < 18446744073709551616 ∧ (∀ x ∈ k.2.1, x < 18446744073709551616) ∧ WinOk k.2.2.2.1 ∧ ((k.1 = 0 ∧ k.2.2.2.2.1 = s ∧ k.2.2.2.1 = ⟨false, 0, 0⟩) ∨ (0 < k.1 ∧ k.2.2.2.2.1.bad = false ∧ xorDec n s = (xorDecA (n - k.1) k.2.2.1 k.2.2.2.1 k.2.2.2.2.1).map fun r => k.2.1 ++ r))
      ∧ St w0 (OwnU k.2.2.2.2.2.1 k.2.2.2.2.2.2 k.2.1 :: WinPt q k.2.2.2.1 :: IsBR p k.2.2.2.2.1 :: l) w)
    (fun k => n - k.1) (0, [], 0, ⟨false, 0, 0⟩, s, none, 0) ⟨rfl, rfl, rfl, rfl, rfl, rfl, trivial⟩ ⟨Nat.zero_le _, rfl, (by decide : (0 : Nat) < 18446744073709551616), (fun _ h => by cases h), (show WinOk ⟨false, 0, 0⟩ by unfold WinOk; decide), .inl ⟨rfl, rfl, rfl⟩, St.ownNil _ _ h⟩ ?_
  clear h
  rintro ⟨i, out, was, win, s1, a, c⟩ w e ⟨hi, hol, hwas, hout, ho, inv, h⟩
  dsimp only at hi hol hwas hout ho inv h ⊢
  have bad : ∀ {w : World} {s' : RS}, xorDec n s = none → St w0 (IsBR p s' :: l) w → ∃ a c xs b, Value.tuple [.slice none 0 0, .bool false].toArray = .tuple [.slice a xs.length c, .bool b].toArray ∧ xorDec n s = (if b = true then some xs else none) ∧ (b = true → xs.length = n ∧ ∀ x ∈ xs, x < 18446744073709551616) ∧ ∃ s', St w0 (OwnU a c xs :: IsBR p s' :: l) w := fun hb h => ⟨none, 0, [], false, rfl, hb, (fun h => by cases h), _, St.ownNil _ _ h⟩
  refine c_seq (c_region ?_)
  refine r_v (q_lss rfl rfl) rfl ?_
  refine r_nil ?_
  refine c_seq (c_cond (decide ((i : Int) < (n : Int))) rfl (fun hc => ?_) (fun hc => ?_))
  ·
    have hlt : i < n := by simp at hc; omega
    refine c_skip ?_
    refine c_seq (c_block ?_)
    refine c_seq (c_region ?_)
    refine r_v (q_moveI rfl) rfl ?_; refine r_v (q_assignI rfl) rfl ?_
    refine r_nil ?_
    refine c_cut (Γ := Nat × Win × RS) (fun k => [(0, .pointer (some ⟨p, 0, none⟩)), (6, .slice a out.length c), (7, .pointer (some ⟨q, 0, none⟩)), (8, .int .u64 k.1), (15, .int .i64 n), (16, .int .i64 i)])
      (fun k w => k.1 < 18446744073709551616 ∧ WinOk k.2.1 ∧ (xorDec n s = if k.2.2.bad = true then none else (xorDecA (n - (i + 1)) k.1 k.2.1 k.2.2).map fun r => out ++ k.1 :: r) ∧ St w0 (IsBR p k.2.2 :: WinPt q k.2.1 :: OwnU a c out :: l) w) ?_ ?_
    · refine c_seq (c_region ?_)
      refine r_v (q_moveI rfl) rfl ?_; refine r_v (q_eql rfl rfl) rfl ?_
      rcases inv with ⟨hi0, hs1, hw0⟩ | ⟨hi0, hbad, inv⟩
      · refine r_is (.bool true) (by subst hi0; rfl) ?_
        refine r_nil (c_true rfl ?_)
        refine c_region ?_
        refine r_v (q_moveP rfl) rfl ?_
        refine r_c rfl (x_call rfl (bits_Get 64 (h.f 2)) ?_)
        rintro _ w ⟨rfl, h⟩
        rw [show heldN 64 = 64 from rfl] at h ⊢
        refine r_v (q_assignI rfl) rfl ?_
        refine r_nil ⟨((s1.get 64).1, win, (s1.get 64).2), ⟨rfl, rfl, rfl, rfl, rfl, rfl, trivial⟩, RS.get_lt s1 64, ho, ?_, h.f 2 |>.f 2 |>.f 1 |>.f 2⟩
        dsimp only
        have : out = [] := List.eq_nil_of_length_eq_zero (by omega)
        subst this
        rw [← hs1, hw0, hi0]
        cases n with
        | zero => omega
        | succ m => rfl
      · refine r_is (.bool false) (by simp; omega) ?_
        refine r_nil (c_false rfl ?_)
        rw [show n - i = (n - (i + 1)) + 1 by omega, xorDecA] at inv
        refine c_seq (c_region ?_)
        refine r_v (q_moveP rfl) rfl ?_
        refine r_c rfl (x_call rfl (xorv_turn hT (.inl ho) ((h.f 1).f 2)) ?_)
        cases hR : turnR s1 win with | mk o s2 =>
        rw [hR] at inv
        rintro _ w ⟨x, ok, win', rfl, hx, ho', hr, h⟩
        dsimp only at hr h
        subst hr
        refine r_v (q_moveT rfl) rfl ?_; refine r_v (q_ext rfl rfl) rfl ?_; refine r_v (q_ext rfl rfl) rfl ?_; refine r_v (q_assignI rfl) rfl ?_; refine r_v (q_assignB rfl) rfl ?_
        refine r_nil ?_
        refine c_seq (c_seq (c_region ?_))
        refine r_v (q_moveB rfl) rfl ?_; refine r_v (q_not rfl) rfl ?_
        refine r_nil ?_
        cases ok with
        | false =>
          refine c_true rfl ?_
          refine c_seq (c_region ?_)
          refine r_v (q_assignS rfl) rfl ?_; refine r_v (q_assignB rfl) rfl ?_
          refine r_nil ?_
          exact c_ret (bq2 (bad inv (((h.f 1).drop.f 1).drop)))
        | true =>
          refine c_false rfl (c_skip ?_)
          have hy := Nat.xor_lt_two_pow (n := 64) hwas hx
          refine c_region ?_
          refine r_v (q_moveI rfl) rfl ?_; refine r_v (q_moveI rfl) rfl ?_; refine r_v (q_xor rfl rfl) rfl ?_
          refine r_is (.int .u64 ((was ^^^ x : Nat) : Int)) (congrArg (Value.int .u64) (bit_u64 hwas hx).2.2) ?_
          refine r_v (q_assignI rfl) rfl ?_
          refine r_nil ⟨(was ^^^ x, win', s2), ⟨rfl, rfl, rfl, rfl, rfl, rfl, trivial⟩, hy, ho', ?_, h⟩
          simp only [if_true] at inv
          dsimp only
          rw [inv]
          cases s2.bad with
          | true => rfl
          | false =>
            simp only [Bool.false_eq_true, if_false, Option.map_map]
            rfl
    clear h inv hwas ho
    rintro ⟨was, win, s2⟩ w e ⟨hwas, ho, inv, h⟩
    dsimp only at hwas ho inv h ⊢
    refine c_cut (Γ := Unit) (fun _ => [(0, .pointer (some ⟨p, 0, none⟩)), (6, .slice a out.length c), (7, .pointer (some ⟨q, 0, none⟩)), (8, .int .u64 was), (15, .int .i64 n), (16, .int .i64 i)])
      (fun _ w => s2.bad = false ∧ St w0 (IsBR p s2 :: WinPt q win :: OwnU a c out :: l) w) ?_ ?_
    · refine c_seq (c_region ?_)
      refine r_v (q_moveP rfl) rfl ?_
      refine r_c rfl (x_call rfl (bits_Ok h) ?_)
      rintro _ w ⟨rfl, h⟩
      refine r_v (q_not rfl) rfl ?_
      refine r_nil ?_
      cases hbd : s2.bad with
      | true =>
        refine c_true rfl ?_
        refine c_seq (c_region ?_)
        refine r_v (q_assignS rfl) rfl ?_; refine r_v (q_assignB rfl) rfl ?_
        refine r_nil ?_
        rw [hbd, if_pos rfl] at inv
        exact c_ret (bq2 (bad inv (((h.f 1).drop.f 1).drop)))
      | false =>
        refine c_false rfl ?_
        exact c_skip ⟨(), ⟨rfl, rfl, rfl, rfl, rfl, rfl, trivial⟩, rfl, h⟩
    clear h
    rintro _ w e ⟨hbd, h⟩
    rw [hbd, if_neg (by decide)] at inv
    refine c_region ?_
    refine r_v (q_moveS rfl) rfl ?_; refine r_v (q_moveI rfl) rfl ?_
    refine r_c rfl (x_bslice (r := u64V [was]) h rfl rfl rfl fun b2 w h => ?_)
    refine r_c rfl (x_append' (ys := u64V [was]) (zs := u64V (out ++ [was])) (m3 := (out ++ [was]).length) (h.f 3) rfl rfl ⟨rfl, .inr ⟨b2, 0, rfl, at_of (h.b 0 rfl) rfl⟩⟩ (u64V_one _) (by simp) (by simp [u64V]) (by simp; omega) (by simp; omega) rfl fun a2 c2 w _ h => ?_)
    refine r_v (q_assignS rfl) rfl ?_
    refine r_nil ?_
    refine c_region ?_
    refine r_v (q_add rfl rfl) rfl ?_
    refine r_is (.int .i64 ((i + 1 : Nat) : Int)) (by rw [wrap64 (by omega) (by omega)]; rfl) ?_
    refine r_v (q_moveI rfl) rfl ?_
    refine r_nil ⟨(i + 1, out ++ [was], was, win, s2, a2, c2), ⟨rfl, rfl, rfl, rfl, rfl, rfl, trivial⟩, ⟨hlt, by simp; omega, hwas, fun y hy => ?_, ho, .inr ⟨Nat.succ_pos _, hbd, ?_⟩, ?_⟩, by dsimp only; omega⟩
    · rcases List.mem_append.1 hy with hy | hy
      · exact hout y hy
      · simp at hy; subst hy; exact hwas
    · rw [inv]; congr 1; funext r; simp
    · exact ((h.f 1).drop.f 2).f 1
  have hin : i = n := by simp at hc; omega
  refine c_exit ?_
  refine c_cut (Γ := Unit) (fun _ => [(6, .slice a out.length c)]) (fun _ w => xorDec n s = some out ∧ St w0 (IsBR p s1 :: OwnU a c out :: WinPt q win :: l) w) ?_ ?_
  · refine c_seq (c_region ?_)
    refine r_v (q_moveP rfl) rfl ?_
    refine r_c rfl (x_call rfl (bits_Ok (h.f 2)) ?_)
    rintro _ w ⟨rfl, h⟩
    refine r_v (q_not rfl) rfl ?_
    refine r_nil ?_
    have hx0 : n = 0 → xorDec n s = if s.bad = true then none else some [] := fun h0 => by subst h0; rfl
    cases hbd : s1.bad with
    | true =>
      refine c_true rfl ?_
      refine c_seq (c_region ?_)
      refine r_v (q_assignS rfl) rfl ?_; refine r_v (q_assignB rfl) rfl ?_
      refine r_nil ?_
      rcases inv with ⟨hi0, hs1, hw0⟩ | ⟨hi0, hbad, inv⟩
      · exact c_ret (bq2 (bad (by rw [hx0 (by omega), ← hs1, hbd]; rfl) (((h.f 1).drop.f 1).drop)))
      · rw [hbd] at hbad; cases hbad
    | false =>
      refine c_false rfl ?_
      refine c_skip ⟨(), ⟨rfl, trivial⟩, ?_, h⟩
      rcases inv with ⟨hi0, hs1, hw0⟩ | ⟨hi0, hbad, inv⟩
      · have : out = [] := List.eq_nil_of_length_eq_zero (by omega)
        rw [hx0 (by omega), ← hs1, hbd, this]; rfl
      · rw [inv, hin, Nat.sub_self, xorDecA]; simp
  clear h inv
  rintro _ w e ⟨hd, h⟩
  refine c_seq (c_region ?_)
  refine r_v (q_moveS rfl) rfl ?_; refine r_v (q_assignS rfl) rfl ?_; refine r_v (q_assignB rfl) rfl ?_
  refine r_nil ?_
  exact c_ret (bq2 ⟨a, c, out, true, rfl, by rw [hd]; rfl, fun _ => ⟨by omega, hout⟩, s1, ((h.f 2).drop.f 1)⟩)
end
end Go.Proofs.YtjjacchnalemaaaDoor
