/- What the proof of ProgBusy needs, part 6: plain lemmas, and what each function does. -/
import Derived.Test.YtngdfdangkdgcaaGreatDoorQProgBusye
set_option linter.unusedVariables false
set_option linter.unusedSimpArgs false
set_option linter.unnecessarySimpa false
set_option maxRecDepth 100000
set_option maxHeartbeats 4000000
namespace Go.Proofs.YtngdfdangkdgcaaGreatDoor
open Go.Hw _root_.Go.Proofs.Tryz
section
section
variable {w0 w : World} {l : List HProp} {t p : Nat} {r : Run} {s : Shd} {q : RunQ}
theorem Run.mine_eq (r : Run) (s : Shd) : r.mine s = s.t.mine r.o.iter r.who := rfl
theorem Run.free_eq (r : Run) (s : Shd) : r.free s = ({ r with using_ := false }, { s with t := s.t.free r.o.iter r.who }) := by
 unfold Run.free Tb.free
 rw [Run.mine_eq]
 cases s.t.mine r.o.iter r.who <;> rfl
theorem Run.use_eq (r : Run) (s : Shd) : r.use s = if (s.t.use r.o.iter r.who).1 = 0 then ({ r with using_ := true }, { s with t := (s.t.use r.o.iter r.who).2 }, 1, true)
  else if (s.t.use r.o.iter r.who).1 = 8 then (r, s, 0, false) else ((r.refuse s 3).1, (r.refuse s 3).2.1, (r.refuse s 3).2.2, false) := by
 unfold Run.use
 cases hg : mget r.o.iter s.t.l with
 | none =>
  have e : s.t.use r.o.iter r.who = (3, s.t) := by unfold Tb.use; rw [hg]
  rw [e]; rfl
 | some o =>
  dsimp only
  by_cases hc : o.used = true ∧ o.who ≠ r.who
  ·have e : s.t.use r.o.iter r.who = (8, s.t) := by unfold Tb.use; rw [hg]; dsimp only; rw [if_pos hc]
   rw [if_pos hc, e]; rfl
  ·have e : s.t.use r.o.iter r.who = (0, ⟨s.t.last, mset r.o.iter { o with used := true, who := r.who } s.t.l⟩) := by unfold Tb.use; rw [hg]; dsimp only; rw [if_neg hc]
   rw [if_neg hc, e]; rfl
theorem Tb.use_same (T : Tb) (id who : Int) : (T.use id who).1 = 0 ∨ (T.use id who).2 = T ∧ ((T.use id who).1 = 8 ∨ (T.use id who).1 = 3) := by
 unfold Tb.use
 cases mget id T.l with
 | none => exact .inr ⟨rfl, .inr rfl⟩
 | some o =>
  dsimp only
  split
  ·exact .inr ⟨rfl, .inl rfl⟩
  ·exact .inl rfl
theorem vp (h : St w0 (IsRun t r :: IsSh p s :: l) w) : ∃ q, St w0 (RunPt t r q :: IsSh p s :: (r.rows q ++ l)) w := by
 obtain ⟨q, h⟩ := (St.run (r := r)).1 h
 exact ⟨q, h.o [0, 10]⟩
theorem j7 (h : St w0 (RunPt t r q :: IsSh p s :: (r.rows q ++ l)) w) : St w0 (IsRun t r :: IsSh p s :: l) w := (St.run (r := r)).2 ⟨q, h.o [0, 2, 3, 4, 5, 6, 7, 8, 9, 10]⟩
theorem ms (h : St w0 (RunPt t r q :: IsSh p s :: l) w) :
  Ret prog 69 [.pz t, .pz p] w fun v w' => v = .tuple #[] ∧ St w0 (RunPt t (r.free s).1 q :: IsSh p (r.free s).2 :: l) w' := by
 rw [Run.free_eq]
 obtain ⟨k, h⟩ := (St.shd (s := s)).1 (h.f 1)
 replace h : St w0 (IsTab k.t s.t.V :: RunPt t r q :: ShPt p k :: IsDir k.d s.d :: IsCache k.c s.c :: IsStore k.b s.b :: l) w := h.o [4, 5]
 refine en func69 results69 ntmps69 ?_
 refine qf ?_
 refine jm [0, 1, 2, 3, 4, 5, 6, 7, 8, 9, 10, 11, 12, 13] none (fun w => St w0 (RunPt t r q :: ShPt p k :: IsDir k.d s.d :: IsCache k.c s.c :: IsStore k.b s.b :: l) w) O1 O1 ?_
 have hs := h.drew
 clear h
 generalize w.drew = w1 at hs ⊢
 have h := hs.drop
 refine Y3 ?_
 refine qj rfl rfl rfl rfl h (fun _ h => qh rfl (qq (v := .pointer (some ⟨k.t, 0, none⟩)) rfl (h.b 1 rfl) rfl)) ?_
 refine Y1o ?_
 refine qj rfl rfl rfl rfl h (fun _ h => qh rfl (qq (v := .iz r.o.iter) rfl (h.b 0 rfl) rfl)) ?_
 refine Y3 ?_
 refine qj rfl rfl rfl rfl h (fun _ h => qh rfl (qq (v := .iz r.who) rfl (h.b 0 rfl) rfl)) ?_
 refine Yg ?_
 refine qd 13 rfl rfl rfl rfl ?_
 refine qg rfl (qgh r.o.iter r.who hs) ?_
 clear h hs
 rintro _ w ⟨rfl, hs⟩
 have h := hs.drop
 refine ⟨fun _ => h, ?_⟩
 refine qn ?_
 refine Y2l ?_
 refine r_c rfl (qb 1 hs rfl (show _ = Value.bool false from rfl) rfl rfl rfl rfl fun w h => ?_)
 replace h : St w0 (IsTab k.t (s.t.free r.o.iter r.who).V :: RunPt t { r with using_ := false } q :: ShPt p k :: IsDir k.d s.d :: IsCache k.c s.c :: IsStore k.b s.b :: l) w := h
 refine qv (bq0n ⟨rfl, ?_⟩)
 exact ((St.shd (s := { s with t := s.t.free r.o.iter r.who })).2 ⟨k, h.o [2, 3, 4, 5, 0]⟩).f 1
theorem ce (h : St w0 (IsRun t r :: IsSh p s :: l) w) :
  Ret prog 66 [.pz t, .pz p] w fun v w' => v = .tuple [.iz (r.use s).2.2.1, .bool (r.use s).2.2.2].toArray ∧ St w0 (IsRun t (r.use s).1 :: IsSh p (r.use s).2.1 :: l) w' := by
 have key := Run.use_eq r s
 have hu := Tb.use_same s.t r.o.iter r.who
 obtain ⟨z, hz⟩ : ∃ z, s.t.use r.o.iter r.who = z := ⟨_, rfl⟩
 obtain ⟨q, h⟩ := vp h
 obtain ⟨k, h⟩ := (St.shd (s := s)).1 (h.f 1)
 replace h : St w0 (IsTab k.t s.t.V :: RunPt t r q :: ShPt p k :: IsDir k.d s.d :: IsCache k.c s.c :: IsStore k.b s.b :: (r.rows q ++ l)) w := h.o [4, 5]
 refine en func66 results66 ntmps66 ?_
 refine Y3z ?_; refine qf ?_; refine qf ?_
 refine jm [0, 1, 2, 3, 4, 5, 6, 7, 8, 9, 10, 11, 12, 13] none (fun w => St w0 (RunPt t r q :: ShPt p k :: IsDir k.d s.d :: IsCache k.c s.c :: IsStore k.b s.b :: (r.rows q ++ l)) w) O1 O1 ?_
 have hs := h.drew
 clear h
 generalize w.drew = w1 at hs ⊢
 have h := hs.drop
 refine Y3 ?_
 refine qj rfl rfl rfl rfl h (fun _ h => qh rfl (qq (v := .pointer (some ⟨k.t, 0, none⟩)) rfl (h.b 1 rfl) rfl)) ?_
 refine Y1o ?_
 refine qj rfl rfl rfl rfl h (fun _ h => qh rfl (qq (v := .iz r.o.iter) rfl (h.b 0 rfl) rfl)) ?_
 refine Y3 ?_
 refine qj rfl rfl rfl rfl h (fun _ h => qh rfl (qq (v := .iz r.who) rfl (h.b 0 rfl) rfl)) ?_
 refine Yg ?_
 refine qd 13 rfl rfl rfl rfl ?_
 refine qg rfl (tb_Use r.o.iter r.who hs) ?_
 clear h hs
 rw [hz] at key hu ⊢
 obtain ⟨e, T'⟩ := z
 dsimp only at key hu ⊢
 rintro _ w ⟨rfl, hs⟩
 have h := hs.drop
 refine ⟨fun _ => h, ?_⟩
 refine qn ?_
 refine Yh ?_; refine Y2w ?_
 by_cases h0 : e = 0
 ·rw [if_pos h0] at key
  rw [key]
  refine qz (.bool true) (by congr 1; rw [beq_iff_eq]; exact h0) ?_
  refine Y2k ?_; refine Y5 ?_
  refine r_c rfl (qb 1 hs rfl (show _ = Value.bool true from rfl) rfl rfl rfl rfl fun w h => ?_)
  replace h : St w0 (IsTab k.t T'.V :: RunPt t { r with using_ := true } q :: ShPt p k :: IsDir k.d s.d :: IsCache k.c s.c :: IsStore k.b s.b :: (r.rows q ++ l)) w := h
  have h1 : St w0 (IsSh p { s with t := T' } :: RunPt t { r with using_ := true } q :: (r.rows q ++ l)) w := (St.shd (s := { s with t := T' })).2 ⟨k, h.o [2, 3, 4, 5, 0]⟩
  refine Yn ?_; refine Y6 ?_; refine Y7 ?_
  exact qv (qk (bq2 ⟨rfl, j7 (r := { r with using_ := true }) (h1.f 1)⟩))
 rw [if_neg h0] at key
 obtain ⟨hT, he⟩ := hu.resolve_left h0
 subst hT
 have h1 : St w0 (IsSh p s :: RunPt t r q :: (r.rows q ++ l)) w := (St.shd (s := s)).2 ⟨k, hs.o [2, 3, 4, 5, 0]⟩
 have h2 := j7 (h1.f 1)
 refine qz (.bool false) (by congr 1; rw [beq_eq_false_iff_ne]; exact h0) ?_
 refine Y2r ?_
 by_cases h8 : e = 8
 ·rw [if_pos h8] at key
  rw [key]
  refine qz (.bool true) (by congr 1; rw [beq_iff_eq]; exact h8) ?_
  refine Y2k ?_; refine Y13 ?_; refine Y7 ?_
  exact qv (qk (bq2 ⟨rfl, h2⟩))
 rw [if_neg h8] at key
 rw [key]
 refine qz (.bool false) (by congr 1; rw [beq_eq_false_iff_ne]; exact h8) ?_
 refine Ya ?_; refine Y1r ?_; refine Ym ?_
 refine r_c rfl (qg rfl (gf 3 h2) ?_)
 clear h h1 h2 hs
 rintro _ w ⟨rfl, h⟩
 refine Y6 ?_; refine Y7 ?_
 exact qv (qk (bq2 ⟨rfl, h⟩))
theorem Run.hand_eq (r : Run) (s : Shd) (L : List Smp) : r.hand s L = ({ r with using_ := false, over := true, res := ⟨0, 0, L⟩ }, { s with t := (s.t.move r.o.iter r.who (L.length : Int)).free r.o.iter r.who }, 2) := by
 have h1 : (match r.mine s with | none => s | some o => { s with t := ⟨s.t.last, mset r.o.iter { o with told := wI (o.told + max (L.length : Int) 0) } s.t.l⟩ }) = { s with t := s.t.move r.o.iter r.who (L.length : Int) } := by
  unfold Tb.move
  rw [Run.mine_eq]
  cases s.t.mine r.o.iter r.who <;> rfl
 unfold Run.hand
 dsimp only
 have h2 : ∀ s1 : Shd, ((r.free s1).1.stop (r.free s1).2 ⟨0, 0, L⟩ 2) = ({ r with using_ := false, over := true, res := ⟨0, 0, L⟩ }, { s1 with t := s1.t.free r.o.iter r.who }, 2) := by
  intro s1
  rw [Run.free_eq]; rfl
 rw [h2]
 have h3 := congrArg (fun s1 : Shd => (({ s1 with t := s1.t.free r.o.iter r.who } : Shd))) h1
 exact congrArg (fun s1 : Shd => (({ r with using_ := false, over := true, res := ⟨0, 0, L⟩ } : Run), s1, (2 : Int))) h3
theorem mn {L : List Smp} {a : Option Addr} {c : Nat} (hn : L.length <= 1048576) (hr : Reads w0 (r.rows q ++ l) 2 a L.length (smpsV L)) (h : St w0 (RunPt t r q :: IsSh p s :: (r.rows q ++ l)) w) :
  Ret prog 67 [.pz t, .pz p, .slice a L.length c] w fun v w' => v = .iz (r.hand s L).2.2 ∧ St w0 (IsRun t (r.hand s L).1 :: IsSh p (r.hand s L).2.1 :: l) w' := by
 rw [Run.hand_eq]
 obtain ⟨k, h⟩ := (St.shd (s := s)).1 (h.f 1)
 replace h : St w0 (IsTab k.t s.t.V :: RunPt t r q :: ShPt p k :: IsDir k.d s.d :: IsCache k.c s.c :: IsStore k.b s.b :: (r.rows q ++ l)) w := h.o [4, 5]
 refine en func67 results67 ntmps67 ?_
 refine Yr ?_; refine qf ?_
 refine jm [0, 1, 2, 3, 4, 5, 6, 7, 8, 9, 10, 11, 12, 13, 14, 15] none (fun w => St w0 (RunPt t r q :: ShPt p k :: IsDir k.d s.d :: IsCache k.c s.c :: IsStore k.b s.b :: (r.rows q ++ l)) w) O1 O1 ?_
 have hs := h.drew
 clear h
 generalize w.drew = w1 at hs ⊢
 have h := hs.drop
 refine Y3 ?_
 refine qj rfl rfl rfl rfl h (fun _ h => qh rfl (qq (v := .pointer (some ⟨k.t, 0, none⟩)) rfl (h.b 1 rfl) rfl)) ?_
 refine Y1o ?_
 refine qj rfl rfl rfl rfl h (fun _ h => qh rfl (qq (v := .iz r.o.iter) rfl (h.b 0 rfl) rfl)) ?_
 refine Y3 ?_
 refine qj rfl rfl rfl rfl h (fun _ h => qh rfl (qq (v := .iz r.who) rfl (h.b 0 rfl) rfl)) ?_
 refine Y1x ?_; refine Y2x ?_; refine Yg ?_
 refine qd 15 rfl rfl rfl rfl ?_
 refine qg rfl (qgd r.o.iter r.who (L.length : Int) hs) ?_
 clear h hs
 rintro _ w ⟨rfl, hs⟩
 have h := hs.drop
 refine ⟨fun _ => h, ?_⟩
 refine qn ?_
 clear h
 obtain ⟨s1, hs1⟩ : ∃ s1 : Shd, s1 = { s with t := s.t.move r.o.iter r.who (L.length : Int) } := ⟨_, rfl⟩
 have h : St w0 (RunPt t r q :: IsSh p s1 :: (r.rows q ++ l)) w := by
  rw [hs1]
  exact ((St.shd (s := { s with t := s.t.move r.o.iter r.who (L.length : Int) })).2 ⟨k, hs.o [2, 3, 4, 5, 0]⟩).f 1
 clear hs
 refine Y10 ?_
 refine r_c rfl (qg rfl (ms h) ?_)
 clear h
 rw [Run.free_eq]
 rintro _ w ⟨rfl, h⟩
 dsimp only at h
 refine Y1a ?_; refine Yj ?_
 refine r_c rfl (qg rfl (uq (xs := smpsV L) h (fun w' h' => ((hr.cons).cons).at_ h') (jt _) O0) ?_)
 clear h
 rintro _ w ⟨o, oc, rfl, _, h⟩
 refine r_v (qc (r := (⟨0, 0, L⟩ : Res).C o oc) rfl) rfl ?_
 have h1 : St w0 (IsRun t { r with using_ := false } :: OwnS o oc L :: IsSh p { s1 with t := s1.t.free r.o.iter r.who } :: l) w := (j7 (r := { r with using_ := false }) (l := OwnS o oc L :: l) (h.o [1, 2, 3, 4, 5, 6, 7, 8, 9, 10, 11])).o [0, 2]
 refine r_c rfl (qg rfl (gw (res := ⟨0, 0, L⟩) 2 h1) ?_)
 clear h h1
 rintro _ w ⟨rfl, h⟩
 refine Y6 ?_
 rw [hs1] at h
 exact qv (qk (bq1 ⟨rfl, h⟩))
end
end
section
section
variable {w0 w : World} {l : List HProp} {t p : Nat} {r : Run} {s : Shd} {q : RunQ}
structure Run.OpenOk (r : Run) (s : Shd) : Prop where
 fits : Dir.Fits s.d
 free : mget (s.t.last + 1) s.t.l = none
 last0 : 0 <= s.t.last
 last1 : s.t.last < 4611686018427387904
theorem qjy {D : List Plc} {id : Int} {sl : SlotV} (h : Dir.look D id = some sl) : ∃ p ∈ D, p.s = sl := by
 unfold Dir.look at h
 cases ha : Dir.at_ D id with
 | none => rw [ha] at h; cases h
 | some x =>
  rw [ha] at h
  dsimp only at h
  split at h
  ·cases h
  ·refine ⟨x, ?_, Uk h⟩
   unfold Dir.at_ at ha
   split at ha
   ·exact Uj ha
   ·cases ha
theorem aj (hok : r.OpenOk s) (h : St w0 (IsRun t r :: IsSh p s :: l) w) :
  Ret prog 39 [.pz t, .pz p] w fun v w' => v = .iz (r.open_ s).2.2 ∧ St w0 (IsRun t (r.open_ s).1 :: IsSh p (r.open_ s).2.1 :: l) w' := by
 obtain ⟨hfits, hfree, hl0, hl1⟩ := hok
 have key : r.open_ s = match Dir.look s.d r.o.series with
  | none => (r, s, 0)
  | some sl => if sl.there = false then r.refuse s 3 else if s.t.l.length ≥ 8 then r.refuse s 5 else match s.b.hold [] (sl.snap r.o.F r.o.To).parts with
   | (false, b) => r.stop { s with b := b } ⟨7, 0, []⟩ 3
   | (true, b) => r.stop { s with b := b, t := ⟨s.t.last + 1, mset (s.t.last + 1) ⟨r.o.series, 0, sl.snap r.o.F r.o.To, false, 0⟩ s.t.l⟩ } ⟨0, s.t.last + 1, []⟩ 2 := by
  unfold Run.open_
  cases Dir.look s.d r.o.series with
  | none => rfl
  | some sl =>
   dsimp only
   split
   ·rfl
   ·split
    ·rfl
    ·cases s.b.hold [] (sl.snap r.o.F r.o.To).parts with | mk g b => cases g <;> rfl
 obtain ⟨q, h⟩ := vp h
 obtain ⟨k, h⟩ := (St.shd (s := s)).1 (h.f 1)
 have hfold : ∀ {w : World} {b : Sto} {T : Tb}, St w0 (ShPt p k :: IsDir k.d s.d :: IsCache k.c s.c :: IsStore k.b b :: IsTab k.t T.V :: RunPt t r q :: (r.rows q ++ l)) w -> St w0 (IsRun t r :: IsSh p { s with b := b, t := T } :: l) w := by
  intro w b T h
  exact j7 (((St.shd (s := { s with b := b, t := T })).2 ⟨k, h⟩).f 1)
 replace h : St w0 (IsDir k.d s.d :: ShPt p k :: RunPt t r q :: IsCache k.c s.c :: IsStore k.b s.b :: IsTab k.t s.t.V :: (r.rows q ++ l)) w := h.o [1, 0, 5, 2, 3, 4]
 obtain ⟨X, hX⟩ : ∃ X, (Dir.look s.d r.o.series).getD SlotV.zero = X := ⟨_, rfl⟩
 refine en func39 results39 ntmps39 ?_
 refine Yr ?_
 refine qt (Γ := Q4 × Nat) (fun g => [(0, .pz t), (1, .pz p), (5, .pointer (some ⟨g.2, 0, none⟩)), (6, .bool (Dir.look s.d r.o.series).isSome)])
  (fun g w => St w0 (OwnS g.1.a4 g.1.c4 X.opn :: OwnPr g.1.a5 g.1.c5 X.chunks :: pt g.2 (.cells (g.1.cells X).toArray 85 (0, 0)) :: IsDir k.d s.d :: ShPt p k :: RunPt t r q :: IsCache k.c s.c :: IsStore k.b s.b :: IsTab k.t s.t.V :: (r.rows q ++ l)) w) ?_ ?_
 ·refine vo [0, 1, 2, 3, 4, 5, 6, 7, 8, 9, 10, 11, 14, 12, 13, 15] (some 14) (fun w => St w0 (IsDir k.d s.d :: ShPt p k :: RunPt t r q :: IsCache k.c s.c :: IsStore k.b s.b :: IsTab k.t s.t.V :: (r.rows q ++ l)) w) O1 O1 h.drew fun w h => ?_
  refine Y3 ?_
  refine qj rfl rfl rfl rfl h (fun _ h => qh rfl (qq (v := .pointer (some ⟨k.d, 0, none⟩)) rfl (h.b 1 rfl) rfl)) ?_
  refine Y1o ?_
  refine qj rfl rfl rfl rfl h (fun _ h => qh rfl (qq (v := .iz r.o.series) rfl (h.b 2 rfl) rfl)) ?_
  refine Y4i ?_
  refine j4 9 13 rfl rfl rfl rfl rfl rfl ?_ ?_
  ·refine qg rfl (vy hfits r.o.series h) ?_
   clear h
   rintro _ w ⟨g, rfl, h1⟩
   rw [hX] at h1 ⊢
   have h := h1.drop.drop
   refine ⟨fun _ => h, ?_⟩
   refine Y29 ?_; refine Y11 ?_
   refine qd 13 rfl rfl rfl rfl ?_
   refine qp h1 fun b5 w h1 => ?_
   clear h
   have h := h1.drop.drop.drop
   refine ⟨fun _ => h, ?_⟩
   refine Yq ?_
   refine jy 14 none rfl rfl rfl rfl ?_
   refine qy (vs := g.cells X) 0 h1 rfl rfl rfl rfl rfl rfl rfl fun w h => ?_
   refine jz h ?_
   refine Y1d ?_
   exact qn ⟨(g, b5), zz4, h.o [1, 2, 0]⟩
  ·refine qp h fun b5 w h1 => ?_
   clear h
   have h := h1.drop
   refine ⟨fun _ => h, ?_⟩
   refine Y2q ?_
   refine qd 9 rfl rfl rfl rfl ?_
   refine qg rfl (vy hfits r.o.series (h1.f 1)) ?_
   clear h h1
   rintro _ w ⟨g, rfl, h1⟩
   rw [hX] at h1 ⊢
   have h := (h1.x [3]).drop.drop
   refine ⟨fun _ => h, ?_⟩
   refine Y29 ?_; refine Yq ?_
   refine jy 14 none rfl rfl rfl rfl ?_
   refine qy (vs := g.cells X) 3 h1 rfl rfl rfl rfl rfl rfl rfl fun w h => ?_
   refine jz h ?_
   refine Y1d ?_
   exact qn ⟨(g, b5), zz4, h.o [0, 1, 3, 2]⟩
 clear h
 rintro ⟨g, b5⟩ w e h
 dsimp only at h
 refine Y38 ?_; refine Y1 ?_
 cases hl : Dir.look s.d r.o.series with
 | none =>
  rw [hl] at key
  replace key : r.open_ s = (r, s, 0) := key
  rw [key]
  refine Y1g ?_; refine Y2k ?_; refine Y13 ?_
  exact qv (qk (bq1 ⟨rfl, hfold (b := s.b) (T := s.t) ((h.x [0, 1, 2]).o [1, 0, 3, 4, 5, 2])⟩))
 | some sl =>
 rw [hl] at key hX
 replace hX : sl = X := hX
 subst hX
 obtain ⟨pl, hpl, hps⟩ := qjy hl
 have hsz := hfits pl hpl
 rw [hps] at hsz
 dsimp only at key
 refine Y1g ?_; refine Y39 ?_; refine Y26 ?_
 refine r_v (qq (v := .bool sl.there) rfl (h.b 2 rfl) rfl) rfl ?_
 by_cases ht : sl.there = false
 ·rw [if_pos ht] at key
  rw [key, ht]
  refine Yx ?_; refine Y2k ?_
  have h1 := hfold (b := s.b) (T := s.t) ((h.x [0, 1, 2]).o [1, 0, 3, 4, 5, 2])
  refine Ym ?_
  refine r_c rfl (qg rfl (gf 3 h1) ?_)
  clear h h1
  rintro _ w ⟨rfl, h⟩
  refine Y6 ?_
  exact qv (qk (bq1 ⟨rfl, h⟩))
 rw [if_neg ht] at key
 have ht' : sl.there = true := by simpa using ht
 rw [ht']
 refine Yx ?_; refine Y39 ?_; refine Y5 ?_
 refine r_v (qq (v := .pointer (some ⟨k.t, 0, none⟩)) rfl (h.b 4 rfl) rfl) rfl ?_
 refine r_c rfl (qg rfl (qjk (T := s.t) (h.f 8)) ?_)
 clear h
 rintro _ w ⟨rfl, h⟩
 replace h : St w0 (OwnS g.a4 g.c4 sl.opn :: OwnPr g.a5 g.c5 sl.chunks :: pt b5 (.cells (g.cells sl).toArray 85 (0, 0)) :: IsDir k.d s.d :: ShPt p k :: RunPt t r q :: IsCache k.c s.c :: IsStore k.b s.b :: IsTab k.t s.t.V :: (r.rows q ++ l)) w := h.o [1, 2, 3, 4, 5, 6, 7, 8, 0]
 refine Y1m ?_
 by_cases h8 : s.t.l.length ≥ 8
 ·rw [if_pos h8] at key
  rw [key]
  refine qz (.bool true) O3 ?_
  refine Y2k ?_
  have h1 := hfold (b := s.b) (T := s.t) ((h.x [0, 1, 2]).o [1, 0, 3, 4, 5, 2])
  refine Ym ?_
  refine r_c rfl (qg rfl (gf 5 h1) ?_)
  clear h h1
  rintro _ w ⟨rfl, h⟩
  refine Y6 ?_
  exact qv (qk (bq1 ⟨rfl, h⟩))
 rw [if_neg h8] at key
 refine qz (.bool false) O4 ?_
 refine Ya ?_; refine Y1r ?_
 obtain ⟨x, hx⟩ : ∃ x, sl.snap r.o.F r.o.To = x := ⟨_, rfl⟩
 rw [hx] at key
 have hxp : x.parts.length <= 1048576 := by rw [<- hx]; exact Uy (partsIn_le _ _ _) hsz.2
 have hxt : x.tail.length <= 1048576 := by rw [<- hx]; exact Uy (tailIn_le _ _ _) hsz.1
 have hof : ∀ {w : World} {M : List HProp}, St w0 (M ++ OwnS g.a4 g.c4 sl.opn :: OwnPr g.a5 g.c5 sl.chunks :: pt b5 (.cells (g.cells sl).toArray 85 (0, 0)) :: IsDir k.d s.d :: ShPt p k :: RunPt t r q :: IsCache k.c s.c :: IsStore k.b s.b :: IsTab k.t s.t.V :: (r.rows q ++ l)) w ->
   Ret prog 62 [.agg (g.cells sl).toArray, .iz r.o.F, .iz r.o.To] w fun v w' => ∃ a1 a2, v = .agg (x.V.cells a1 x.parts.length a2 x.tail.length).toArray ∧
    St w0 (OwnPr a1 x.parts.length x.parts :: OwnS a2 x.tail.length x.tail :: (M ++ OwnS g.a4 g.c4 sl.opn :: OwnPr g.a5 g.c5 sl.chunks :: pt b5 (.cells (g.cells sl).toArray 85 (0, 0)) :: IsDir k.d s.d :: ShPt p k :: RunPt t r q :: IsCache k.c s.c :: IsStore k.b s.b :: IsTab k.t s.t.V :: (r.rows q ++ l))) w' := by
  intro w M h
  subst hx
  exact ip r.o.F r.o.To h (fun w' h' => (Reads.own.more M).at_ h') (fun w' h' => ((Reads.own.more [_]).more M).at_ h') O0 O0
 refine qt (Γ := (Option Addr × Option Addr) × Nat) (fun g => [(0, .pz t), (1, .pz p), (7, .pointer (some ⟨g.2, 0, none⟩))])
  (fun g w => St w0 (OwnPr g.1.1 x.parts.length x.parts :: OwnS g.1.2 x.tail.length x.tail :: pt g.2 (.cells (x.V.cells g.1.1 x.parts.length g.1.2 x.tail.length).toArray 87 (0, 0)) :: IsDir k.d s.d :: ShPt p k :: RunPt t r q :: IsCache k.c s.c :: IsStore k.b s.b :: IsTab k.t s.t.V :: (r.rows q ++ l)) w) ?_ ?_
 ·refine jh (some 13) (fun w => St w0 (OwnS g.a4 g.c4 sl.opn :: OwnPr g.a5 g.c5 sl.chunks :: pt b5 (.cells (g.cells sl).toArray 85 (0, 0)) :: IsDir k.d s.d :: ShPt p k :: RunPt t r q :: IsCache k.c s.c :: IsStore k.b s.b :: IsTab k.t s.t.V :: (r.rows q ++ l)) w) O1 O1 h.drew fun w h => ?_
  refine qj rfl rfl rfl rfl h (fun _ h => qh rfl (qx (l := g.cells sl) rfl rfl (qw (h.b 2 rfl) rfl))) ?_
  refine Y1o ?_
  refine qj rfl rfl rfl rfl h (fun _ h => qh rfl (qq (v := .iz r.o.F) rfl (h.b 5 rfl) rfl)) ?_
  refine Y1o ?_
  refine qj rfl rfl rfl rfl h (fun _ h => qh rfl (qq (v := .iz r.o.To) rfl (h.b 5 rfl) rfl)) ?_
  refine Y11 ?_
  refine j4 11 12 rfl rfl rfl rfl rfl rfl ?_ ?_
  ·refine qg rfl (hof (M := []) h) ?_
   clear h
   rintro _ w ⟨a1, a2, rfl, h1⟩
   have h := h1.drop.drop
   refine ⟨fun _ => h, ?_⟩
   refine Yq ?_
   refine qd 12 rfl rfl rfl rfl ?_
   refine qp h1 fun b7 w h1 => ?_
   clear h
   have h := h1.drop.drop.drop
   refine ⟨fun _ => h, ?_⟩
   refine Yg ?_
   refine jk 13 rfl rfl rfl ?_
   refine qy (vs := x.V.cells a1 x.parts.length a2 x.tail.length) 0 h1 rfl rfl rfl rfl rfl rfl rfl fun w h => ?_
   exact ⟨((a1, a2), b7), zz3, (h.x [3, 4, 5]).o [1, 2, 0]⟩
  ·refine qp h fun b7 w h1 => ?_
   clear h
   have h := h1.drop
   refine ⟨fun _ => h, ?_⟩
   refine Yq ?_
   refine qd 11 rfl rfl rfl rfl ?_
   refine qg rfl (hof (M := [_]) h1) ?_
   clear h h1
   rintro _ w ⟨a1, a2, rfl, h1⟩
   have h := h1.drop.drop.drop
   refine ⟨fun _ => h, ?_⟩
   refine Yg ?_
   refine jk 13 rfl rfl rfl ?_
   refine qy (vs := x.V.cells a1 x.parts.length a2 x.tail.length) 2 h1 rfl rfl rfl rfl rfl rfl rfl fun w h => ?_
   exact ⟨((a1, a2), b7), zz3, h.x [3, 4, 5]⟩
 clear h hof
 rintro ⟨⟨a1, a2⟩, b7⟩ w e h
 dsimp only at h
 replace h : St w0 (IsStore k.b s.b :: OwnPr a1 x.parts.length x.parts :: OwnS a2 x.tail.length x.tail :: pt b7 (.cells (x.V.cells a1 x.parts.length a2 x.tail.length).toArray 87 (0, 0)) :: IsDir k.d s.d :: ShPt p k :: RunPt t r q :: IsCache k.c s.c :: IsTab k.t s.t.V :: (r.rows q ++ l)) w := h.o [7]
 refine qf (qf ?_)
 refine jm [0, 1, 2, 3, 4, 5, 6] none (fun w => St w0 (OwnPr a1 x.parts.length x.parts :: OwnS a2 x.tail.length x.tail :: pt b7 (.cells (x.V.cells a1 x.parts.length a2 x.tail.length).toArray 87 (0, 0)) :: IsDir k.d s.d :: ShPt p k :: RunPt t r q :: IsCache k.c s.c :: IsTab k.t s.t.V :: (r.rows q ++ l)) w) O1 O1 ?_
 have hs := h.drew
 clear h
 generalize w.drew = w1 at hs ⊢
 have h := hs.drop
 refine Y3 ?_
 refine qj rfl rfl rfl rfl h (fun _ h => qh rfl (qq (v := .pointer (some ⟨k.b, 0, none⟩)) rfl (h.b 4 rfl) rfl)) ?_
 refine qj rfl rfl rfl rfl h (fun _ h => qh rfl (qx (l := x.V.cells a1 x.parts.length a2 x.tail.length) rfl rfl (qw (h.b 2 rfl) rfl))) ?_
 refine Yq ?_
 refine qd 5 rfl rfl rfl rfl ?_
 refine qg rfl (sa (x := x.V) (Ps := x.parts) rfl (by show x.parts.length < _; omega) (by show x.parts.length <= _; exact Ug _) hs (fun w' h' => h'.own_rd)) ?_
 clear h hs
 rintro _ w ⟨rfl, hs⟩
 have h := hs.drop
 refine ⟨fun _ => h, ?_⟩
 cases hh : s.b.hold [] x.parts with
 | mk gg b =>
 rw [hh] at key hs
 dsimp only at hs
 cases gg with
 | false =>
  replace key : r.open_ s = r.stop { s with b := b } ⟨7, 0, []⟩ 3 := key
  rw [key]
  refine cpv rfl rfl rfl rfl h rfl (y8 rfl) ?_
  refine qn ?_
  clear h
  have h := hfold (b := b) (T := s.t) ((hs.x [1, 2, 3]).o [2, 1, 4, 0, 5, 3])
  clear hs
  refine Y1k ?_; refine Ym ?_
  refine r_v (qc (r := (⟨7, 0, []⟩ : Res).C none 0) rfl) rfl ?_
  refine r_c rfl (qg rfl (gw (res := ⟨7, 0, []⟩) 3 ((h.ownNil 57 2).f 1)) ?_)
  clear h
  rintro _ w ⟨rfl, h⟩
  refine Y6 ?_
  exact qv (qk (bq1 ⟨rfl, h⟩))
 | true =>
  replace key : r.open_ s = r.stop { s with b := b, t := ⟨s.t.last + 1, mset (s.t.last + 1) ⟨r.o.series, 0, x, false, 0⟩ s.t.l⟩ } ⟨0, s.t.last + 1, []⟩ 2 := key
  rw [key]
  refine cpv rfl rfl rfl rfl h rfl (y8 rfl) ?_
  refine qn ?_
  clear h
  refine Y1r ?_
  replace hs : St w0 (IsTab k.t s.t.V :: IsStore k.b b :: OwnPr a1 x.parts.length x.parts :: OwnS a2 x.tail.length x.tail :: pt b7 (.cells (x.V.cells a1 x.parts.length a2 x.tail.length).toArray 87 (0, 0)) :: IsDir k.d s.d :: ShPt p k :: RunPt t r q :: IsCache k.c s.c :: (r.rows q ++ l)) w := hs.o [8]
  refine qf ?_
  refine jm [0, 1, 2, 3, 4, 5, 6, 7, 8, 9, 10, 11, 12, 14, 13, 15] none (fun w => St w0 (IsStore k.b b :: OwnPr a1 x.parts.length x.parts :: OwnS a2 x.tail.length x.tail :: pt b7 (.cells (x.V.cells a1 x.parts.length a2 x.tail.length).toArray 87 (0, 0)) :: IsDir k.d s.d :: ShPt p k :: RunPt t r q :: IsCache k.c s.c :: (r.rows q ++ l)) w) O1 O1 ?_
  have hz := hs.drew
  clear hs
  generalize w.drew = w1 at hz ⊢
  have h := hz.drop
  refine Y3 ?_
  refine qj rfl rfl rfl rfl h (fun _ h => qh rfl (qq (v := .pointer (some ⟨k.t, 0, none⟩)) rfl (h.b 5 rfl) rfl)) ?_
  refine Y1o ?_
  refine qj rfl rfl rfl rfl h (fun _ h => qh rfl (qq (v := .iz r.o.series) rfl (h.b 6 rfl) rfl)) ?_
  refine qj rfl rfl rfl rfl h (fun _ h => qh rfl (qx (l := x.V.cells a1 x.parts.length a2 x.tail.length) rfl rfl (qw (h.b 3 rfl) rfl))) ?_
  refine Y2q ?_
  refine qd 10 rfl rfl rfl rfl ?_
  refine qg rfl (qgb (x := x) r.o.series hz O0 hfree hl0 hl1 O0 O0 (Reads.own.more [_]) (Reads.own.more [_, _])) ?_
  clear h hz
  rintro _ w ⟨rfl, hz⟩
  have h := hz.drop
  refine ⟨fun _ => h, ?_⟩
  refine Y29 ?_; refine Y2s ?_; refine Y1d ?_
  refine qn ?_
  clear h
  have h := hfold (b := b) (T := ⟨s.t.last + 1, mset (s.t.last + 1) ⟨r.o.series, 0, x, false, 0⟩ s.t.l⟩) ((hz.x [2, 3, 4]).o [3, 2, 5, 1, 0, 4])
  clear hz
  refine Y40 ?_
  refine r_v (qc (r := (⟨0, s.t.last + 1, []⟩ : Res).C none 0) rfl) rfl ?_
  refine r_c rfl (qg rfl (gw (res := ⟨0, s.t.last + 1, []⟩) 2 ((h.ownNil 57 2).f 1)) ?_)
  clear h
  rintro _ w ⟨rfl, h⟩
  refine Y6 ?_
  exact qv (qk (bq1 ⟨rfl, h⟩))
end
end
section
section
variable {w0 w : World} {l : List HProp} {t p : Nat} {r : Run} {s : Shd} {q : RunQ}
def Tb.Fits (T : Tb) : Prop := ∀ id o, mget id T.l = some o -> o.x.parts.length <= 1048576 ∧ o.x.tail.length <= 1048576 ∧ 0 <= o.told ∧ o.told <= 1152921504606846976
theorem qjz {r r2 : Run} {s s2 : Shd} {d : Int} (hz : r.use s = (r2, s2, d, true)) : ∃ o, mget r.o.iter s.t.l = some o ∧ s2.t.mine r2.o.iter r2.who = some { o with used := true, who := r.who } ∧ s2.b = s.b ∧ r2 = { r with using_ := true } ∧ s2 = { s with t := ⟨s.t.last, mset r.o.iter { o with used := true, who := r.who } s.t.l⟩ } := by
 unfold Run.use at hz
 cases hg : mget r.o.iter s.t.l with
 | none => rw [hg] at hz; cases hz
 | some o =>
  rw [hg] at hz
  dsimp only at hz
  split at hz
  ·cases hz
  ·cases hz
   refine ⟨o, rfl, ?_, rfl, rfl, rfl⟩
   unfold Tb.mine
   dsimp only
   rw [jq, if_pos rfl]
   dsimp only
   rw [if_pos ⟨rfl, rfl⟩]
theorem ag (hfit : s.t.Fits) (h : St w0 (IsRun t r :: IsSh p s :: l) w) :
  Ret prog 41 [.pz t, .pz p] w fun v w' => v = .iz (r.shut s).2.2 ∧ St w0 (IsRun t (r.shut s).1 :: IsSh p (r.shut s).2.1 :: l) w' := by
 obtain ⟨⟨r2, s2, d, ok⟩, hz⟩ : ∃ z, r.use s = z := ⟨_, rfl⟩
 have key : r.shut s = if ok then ({ r2 with using_ := false } : Run).stop { s2 with t := ⟨s2.t.last, mdel r2.o.iter s2.t.l⟩, b := s2.b.leave (((s2.t.mine r2.o.iter r2.who).map (·.x)).getD Snp.zero).parts } ⟨0, 0, []⟩ 2 else (r2, s2, d) := by
  unfold Run.shut
  rw [hz]
  cases ok <;> rfl
 rw [key]
 refine en func41 results41 ntmps41 ?_
 refine Yr ?_; refine Y10 ?_
 refine r_c rfl (qg rfl (ce h) ?_)
 clear h
 rintro _ w ⟨rfl, h⟩
 rw [hz] at h ⊢
 dsimp only at h ⊢
 refine Y48 ?_; refine Y2v ?_
 cases ok with
 | false =>
  refine Y1g ?_; refine Yd ?_; refine Y8 ?_; refine Y6 ?_
  exact qv (qk (bq1 ⟨rfl, h⟩))
 | true =>
 refine Y1g ?_; refine Yb ?_
 obtain ⟨o, hgo, hm, hb, hr2, hs2⟩ := qjz hz
 rw [if_pos rfl]
 rw [hm]
 have hpar := (hfit _ _ hgo).1
 obtain ⟨X, hX⟩ : ∃ X, o.x = X := ⟨_, rfl⟩
 show Cd _ _ _ _ _ _
 rw [hX] at hpar
 obtain ⟨q, h⟩ := vp h
 obtain ⟨k, h⟩ := (St.shd (s := s2)).1 (h.f 1)
 replace h : St w0 (IsTab k.t s2.t.V :: RunPt t r2 q :: ShPt p k :: IsDir k.d s2.d :: IsCache k.c s2.c :: IsStore k.b s2.b :: (r2.rows q ++ l)) w := h.o [4, 5]
 have hclose : ∀ {w : World} {M : List HProp}, St w0 (IsTab k.t s2.t.V :: M) w -> Ret prog 72 [.pointer (some ⟨k.t, 0, none⟩), .iz r2.o.iter, .iz r2.who] w fun v w' =>
   ∃ a1 c1 a2 c2, v = .tuple [.agg (X.V.cells a1 c1 a2 c2).toArray, .bool true].toArray ∧ St w0 (OwnPr a1 c1 X.parts :: OwnS a2 c2 X.tail :: IsTab k.t (Tb.V ⟨s2.t.last, mdel r2.o.iter s2.t.l⟩) :: M) w' := by
  intro w M h
  subst hX
  exact qju r2.o.iter r2.who (o := { o with used := true, who := r.who }) hm h
 refine qt (Γ := (Option Addr × Nat × Option Addr × Nat) × Nat) (fun g => [(0, .pz t), (1, .pz p), (7, .pointer (some ⟨g.2, 0, none⟩))])
  (fun g w => St w0 (OwnPr g.1.1 g.1.2.1 X.parts :: OwnS g.1.2.2.1 g.1.2.2.2 X.tail :: pt g.2 (.cells (X.V.cells g.1.1 g.1.2.1 g.1.2.2.1 g.1.2.2.2).toArray 87 (0, 0)) :: IsTab k.t (Tb.V ⟨s2.t.last, mdel r2.o.iter s2.t.l⟩) :: RunPt t r2 q :: ShPt p k :: IsDir k.d s2.d :: IsCache k.c s2.c :: IsStore k.b s2.b :: (r2.rows q ++ l)) w) ?_ ?_
 ·refine jm [0, 1, 2, 3, 4, 5, 6, 7, 8, 9, 10, 11, 12, 13, 14, 15, 18, 16, 17, 19] (some 18) (fun w => St w0 (RunPt t r2 q :: ShPt p k :: IsDir k.d s2.d :: IsCache k.c s2.c :: IsStore k.b s2.b :: (r2.rows q ++ l)) w) O1 O1 ?_
  have hs := h.drew
  clear h
  generalize w.drew = w1 at hs ⊢
  have h := hs.drop
  refine Y3 ?_
  refine qj rfl rfl rfl rfl h (fun _ h => qh rfl (qq (v := .pointer (some ⟨k.t, 0, none⟩)) rfl (h.b 1 rfl) rfl)) ?_
  refine Y1o ?_
  refine qj rfl rfl rfl rfl h (fun _ h => qh rfl (qq (v := .iz r2.o.iter) rfl (h.b 0 rfl) rfl)) ?_
  refine Y3 ?_
  refine qj rfl rfl rfl rfl h (fun _ h => qh rfl (qq (v := .iz r2.who) rfl (h.b 0 rfl) rfl)) ?_
  refine Y4i ?_
  refine j4 13 17 rfl rfl rfl rfl rfl rfl ?_ ?_
  ·refine qg rfl (hclose hs) ?_
   clear h hs
   rintro _ w ⟨a1, c1, a2, c2, rfl, h1⟩
   have h := h1.drop.drop.drop
   refine ⟨fun _ => h, ?_⟩
   refine Y29 ?_; refine Y11 ?_
   refine qd 17 rfl rfl rfl rfl ?_
   refine qp h1 fun b7 w h1 => ?_
   clear h
   have h := h1.drop.drop.drop.drop
   refine ⟨fun _ => h, ?_⟩
   refine Yq ?_
   refine jy 18 none rfl rfl rfl rfl ?_
   refine qy (vs := X.V.cells a1 c1 a2 c2) 0 h1 rfl rfl rfl rfl rfl rfl rfl fun w h => ?_
   refine jz h ?_
   refine Y1d ?_
   exact qn ⟨((a1, c1, a2, c2), b7), zz3, h.o [1, 2, 0]⟩
  ·refine qp hs fun b7 w h1 => ?_
   clear h hs
   have h := h1.drop.drop
   refine ⟨fun _ => h, ?_⟩
   refine Y2q ?_
   refine qd 13 rfl rfl rfl rfl ?_
   refine qg rfl (hclose (h1.f 1)) ?_
   clear h h1
   rintro _ w ⟨a1, c1, a2, c2, rfl, h1⟩
   have h := h1.drop.drop.drop.drop
   refine ⟨fun _ => h, ?_⟩
   refine Y29 ?_; refine Yq ?_
   refine jy 18 none rfl rfl rfl rfl ?_
   refine qy (vs := X.V.cells a1 c1 a2 c2) 3 h1 rfl rfl rfl rfl rfl rfl rfl fun w h => ?_
   refine jz h ?_
   refine Y1d ?_
   exact qn ⟨((a1, c1, a2, c2), b7), zz3, h.o [0, 1, 3]⟩
 clear h hclose
 rintro ⟨⟨a1, c1, a2, c2⟩, b7⟩ w e h
 dsimp only at h
 refine Y5 ?_
 refine r_c rfl (qb 4 h rfl (show _ = Value.bool false from rfl) rfl rfl rfl rfl fun w h => ?_)
 replace h : St w0 (OwnPr a1 c1 X.parts :: OwnS a2 c2 X.tail :: pt b7 (.cells (X.V.cells a1 c1 a2 c2).toArray 87 (0, 0)) :: IsTab k.t (Tb.V ⟨s2.t.last, mdel r2.o.iter s2.t.l⟩) :: RunPt t { r2 with using_ := false } q :: ShPt p k :: IsDir k.d s2.d :: IsCache k.c s2.c :: IsStore k.b s2.b :: (r2.rows q ++ l)) w := h
 replace h : St w0 (IsStore k.b s2.b :: OwnPr a1 c1 X.parts :: OwnS a2 c2 X.tail :: pt b7 (.cells (X.V.cells a1 c1 a2 c2).toArray 87 (0, 0)) :: IsTab k.t (Tb.V ⟨s2.t.last, mdel r2.o.iter s2.t.l⟩) :: RunPt t { r2 with using_ := false } q :: ShPt p k :: IsDir k.d s2.d :: IsCache k.c s2.c :: (r2.rows q ++ l)) w := h.o [8]
 refine Y2e ?_
 refine jm [0, 1, 2, 3, 4, 5] none (fun w => St w0 (OwnPr a1 c1 X.parts :: OwnS a2 c2 X.tail :: pt b7 (.cells (X.V.cells a1 c1 a2 c2).toArray 87 (0, 0)) :: IsTab k.t (Tb.V ⟨s2.t.last, mdel r2.o.iter s2.t.l⟩) :: RunPt t { r2 with using_ := false } q :: ShPt p k :: IsDir k.d s2.d :: IsCache k.c s2.c :: (r2.rows q ++ l)) w) O1 O1 ?_
 have hs := h.drew
 clear h
 generalize w.drew = w1 at hs ⊢
 have h := hs.drop
 refine Y3 ?_
 refine qj rfl rfl rfl rfl h (fun _ h => qh rfl (qq (v := .pointer (some ⟨k.b, 0, none⟩)) rfl (h.b 5 rfl) rfl)) ?_
 refine qj rfl rfl rfl rfl h (fun _ h => qh rfl (qx (l := X.V.cells a1 c1 a2 c2) rfl rfl (qw (h.b 2 rfl) rfl))) ?_
 refine Yg ?_
 refine qd 5 rfl rfl rfl rfl ?_
 refine qg rfl (dz (x := X.V) (Ps := X.parts) rfl (by show X.parts.length < _; omega) hs (fun w' h' => h'.own_rd)) ?_
 clear h hs
 rintro _ w ⟨rfl, hs⟩
 have h := hs.drop
 refine ⟨fun _ => h, ?_⟩
 refine qn ?_
 clear h
 obtain ⟨s3, hs3⟩ : ∃ s3 : Shd, s3 = { s2 with t := ⟨s2.t.last, mdel r2.o.iter s2.t.l⟩, b := s2.b.leave X.parts } := ⟨_, rfl⟩
 have h1 : St w0 (IsSh p s3 :: RunPt t { r2 with using_ := false } q :: (r2.rows q ++ l)) w := by
  rw [hs3]
  exact (St.shd (s := { s2 with t := ⟨s2.t.last, mdel r2.o.iter s2.t.l⟩, b := s2.b.leave X.parts })).2 ⟨k, (hs.x [1, 2, 3]).o [3, 4, 5, 0, 1]⟩
 have h := j7 (r := { r2 with using_ := false }) (h1.f 1)
 clear h1 hs
 refine Ym ?_
 refine r_v (qc (r := (⟨0, 0, []⟩ : Res).C none 0) rfl) rfl ?_
 refine r_c rfl (qg rfl (gw (res := ⟨0, 0, []⟩) 2 ((h.ownNil 57 2).f 1)) ?_)
 clear h
 rintro _ w ⟨rfl, h⟩
 refine Y6 ?_
 rw [hs3] at h
 subst hX
 exact qv (qk (bq1 ⟨rfl, h⟩))
end
end
section
section
variable {w0 w : World} {l : List HProp} {t p : Nat} {r : Run} {s : Shd} {q : RunQ}
theorem Tk.leave1 (x : Tk) (C D : Cac) : (x.leave C).1 = (x.leave D).1 := by
 unfold Tk.leave
 split <;> rfl
theorem qgs {A B C D : HProp} (h : St w0 (D :: A :: B :: C :: RunPt t r q :: (r.rows q ++ l)) w) : St w0 (RunPt t r q :: D :: (r.rows q ++ (A :: B :: C :: l))) w := by
 have h1 : St w0 (D :: A :: B :: C :: RunPt t r q :: OneH q.one r.one :: OwnS q.s.a4 q.s.c4 r.slot.opn :: OwnPr q.s.a5 q.s.c5 r.slot.chunks :: OwnS q.n.a4 q.n.c4 r.next.opn :: OwnPr q.n.a5 q.n.c5 r.next.chunks :: OwnPr q.pa q.pc r.x.parts :: OwnS q.ta q.tc r.x.tail :: OwnS q.ga q.gc r.got :: OwnS q.ra q.rc r.res.list :: l) w := h
 exact h1.o [4, 0, 5, 6, 7, 8, 9, 10, 11, 12, 13]
theorem cr {A D : HProp} (h : St w0 (A :: RunPt t r q :: D :: (r.rows q ++ l)) w) : St w0 (RunPt t r q :: D :: (r.rows q ++ (A :: l))) w := by
 have h1 : St w0 (A :: RunPt t r q :: D :: OneH q.one r.one :: OwnS q.s.a4 q.s.c4 r.slot.opn :: OwnPr q.s.a5 q.s.c5 r.slot.chunks :: OwnS q.n.a4 q.n.c4 r.next.opn :: OwnPr q.n.a5 q.n.c5 r.next.chunks :: OwnPr q.pa q.pc r.x.parts :: OwnS q.ta q.tc r.x.tail :: OwnS q.ga q.gc r.got :: OwnS q.ra q.rc r.res.list :: l) w := h
 exact h1.o [1, 2, 3, 4, 5, 6, 7, 8, 9, 10, 11]
def Run.fail (r : Run) (s : Shd) : Run × Shd := match r.one with
 | none => (r, s)
 | some x => ({ r with one := some (x.leave s.c).1 }, { s with c := (x.leave s.c).2 })
def Run.told_ (r : Run) (X : On) (n : Int) : List Smp :=
 let L := if r.i = (X.x.parts.length : Int) then r.got ++ X.x.tail else r.got
 let L := L.drop (min r.told (L.length : Int)).toNat
 L.take (min n (L.length : Int)).toNat
structure Run.TellOk (r : Run) (s : Shd) : Prop where
 fits : s.t.Fits
 part : r.ph = 2 -> r.PartOk s (s.t.on r.o.iter).series ∧ (r.part s (s.t.on r.o.iter).series).2.1.c.Ok
 got : r.got.length <= 1048576
 told : r.ph ≠ 0 -> r.ph ≠ 2 -> 0 <= r.told
theorem Run.tell_eq (r : Run) (s : Shd) : r.tell s =
  if r.ph = 0 then if (r.use s).2.2.2 then
    if min (max r.o.N 0) 1000 = 0 then ({ (r.use s).1 with x := (s.t.on r.o.iter).x, told := (s.t.on r.o.iter).told, ph := 2 } : Run).hand (r.use s).2.1 []
    else ({ (r.use s).1 with x := (s.t.on r.o.iter).x, told := (s.t.on r.o.iter).told, ph := if (s.t.on r.o.iter).x.parts.length = 0 then 3 else 2 }, (r.use s).2.1, 1)
   else ((r.use s).1, (r.use s).2.1, (r.use s).2.2.1)
  else if r.ph = 2 then
   if (r.part s (s.t.on r.o.iter).series).2.2 ≠ 0 then
    (((r.part s (s.t.on r.o.iter).series).1.fail (r.part s (s.t.on r.o.iter).series).2.1).1.free ((r.part s (s.t.on r.o.iter).series).1.fail (r.part s (s.t.on r.o.iter).series).2.1).2).1.stop
     (((r.part s (s.t.on r.o.iter).series).1.fail (r.part s (s.t.on r.o.iter).series).2.1).1.free ((r.part s (s.t.on r.o.iter).series).1.fail (r.part s (s.t.on r.o.iter).series).2.1).2).2 ⟨(r.part s (s.t.on r.o.iter).series).2.2, 0, []⟩ 3
   else ({ (r.part s (s.t.on r.o.iter).series).1 with ph := if (r.part s (s.t.on r.o.iter).series).1.i = ((s.t.on r.o.iter).x.parts.length : Int) ∨ ((r.part s (s.t.on r.o.iter).series).1.got.length : Int) ≥ wI ((r.part s (s.t.on r.o.iter).series).1.told + min (max r.o.N 0) 1000) then 3 else 2 }, (r.part s (s.t.on r.o.iter).series).2.1, 1)
  else r.hand s (r.told_ (s.t.on r.o.iter) (min (max r.o.N 0) 1000)) := by
 unfold Run.tell
 have e : (mget r.o.iter s.t.l).getD ⟨0, 0, Snp.zero, false, 0⟩ = s.t.on r.o.iter := rfl
 rw [e]
 generalize s.t.on r.o.iter = X
 dsimp only
 by_cases p0 : r.ph = 0
 ·rw [if_pos p0, if_pos p0]
  generalize r.use s = z
  obtain ⟨a, b, c, d⟩ := z
  cases d <;> rfl
 ·rw [if_neg p0, if_neg p0]
  by_cases p2 : r.ph = 2
  ·rw [if_pos p2, if_pos p2]
   generalize r.part s X.series = z
   obtain ⟨a, b, c⟩ := z
   dsimp only
   by_cases hc : c ≠ 0
   ·rw [if_pos hc, if_pos hc]
    unfold Run.fail
    cases ho : a.one with
    | none => rfl
    | some x =>
     dsimp only
     rw [Tk.leave1 x (x.leave b.c).2 b.c]
   ·rw [if_neg hc, if_neg hc]
  ·rw [if_neg p2, if_neg p2]; rfl
theorem av (hT : Tz w0) (hok : r.TellOk s) (h : St w0 (IsRun t r :: IsSh p s :: l) w) :
  Ret prog 40 [.pz t, .pz p] w fun v w' => v = .iz (r.tell s).2.2 ∧ St w0 (IsRun t (r.tell s).1 :: IsSh p (r.tell s).2.1 :: l) w' := by
 obtain ⟨hfit, hpart, hgot, htold⟩ := hok
 have key := Run.tell_eq r s
 have hXf : (s.t.on r.o.iter).x.parts.length <= 1048576 ∧ (s.t.on r.o.iter).x.tail.length <= 1048576 := by
  unfold Tb.on
  cases hg : mget r.o.iter s.t.l with
  | none => exact ⟨Ud _, Ud _⟩
  | some o => exact ⟨(hfit _ _ hg).1, (hfit _ _ hg).2.1⟩
 obtain ⟨X, hX⟩ : ∃ X, s.t.on r.o.iter = X := ⟨_, rfl⟩
 obtain ⟨n, hn⟩ : ∃ n, min (max r.o.N 0) 1000 = n := ⟨_, rfl⟩
 have hn1 : 0 <= n ∧ n <= 1000 := by omega
 rw [hX] at key hpart hXf
 rw [hn] at key
 obtain ⟨q, h⟩ := vp h
 refine en func40 results40 ntmps40 ?_
 refine Yr ?_; refine Y3o ?_
 refine r_v (qq (v := .iz r.o.N) rfl (h.b 0 rfl) rfl) rfl ?_
 refine Y4z ?_
 refine qz (.iz n) (by rw [<- hn]) ?_
 refine Y4 ?_
 obtain ⟨k, h⟩ := (St.shd (s := s)).1 (h.f 1)
 replace h : St w0 (IsTab k.t s.t.V :: RunPt t r q :: ShPt p k :: IsDir k.d s.d :: IsCache k.c s.c :: IsStore k.b s.b :: (r.rows q ++ l)) w := h.o [4, 5]
 have hat : ∀ {w : World} {M : List HProp}, St w0 (IsTab k.t s.t.V :: M) w -> Ret prog 65 [.pointer (some ⟨k.t, 0, none⟩), .iz r.o.iter] w fun v w' =>
   ∃ a1 c1 a2 c2, v = .tuple [.iz X.series, .agg (X.x.V.cells a1 c1 a2 c2).toArray, .iz X.told, .bool (mget r.o.iter s.t.l).isSome].toArray ∧ St w0 (OwnPr a1 c1 X.x.parts :: OwnS a2 c2 X.x.tail :: IsTab k.t s.t.V :: M) w' := by
  intro w M h
  subst hX
  exact tb_At r.o.iter h
 refine qt (Γ := (Option Addr × Nat × Option Addr × Nat) × Nat) (fun g => [(0, .pz t), (1, .pz p), (5, .iz n), (6, .iz X.series), (7, .pointer (some ⟨g.2, 0, none⟩)), (8, .iz X.told)])
  (fun g w => St w0 (OwnPr g.1.1 g.1.2.1 X.x.parts :: OwnS g.1.2.2.1 g.1.2.2.2 X.x.tail :: pt g.2 (.cells (X.x.V.cells g.1.1 g.1.2.1 g.1.2.2.1 g.1.2.2.2).toArray 87 (0, 0)) :: IsTab k.t s.t.V :: RunPt t r q :: ShPt p k :: IsDir k.d s.d :: IsCache k.c s.c :: IsStore k.b s.b :: (r.rows q ++ l)) w) ?_ ?_
 ·refine jm [0, 1, 2, 3, 4, 5, 6, 7, 8, 9, 10, 11, 14, 16, 18, 12, 13, 15, 17, 19] (some 17) (fun w => St w0 (RunPt t r q :: ShPt p k :: IsDir k.d s.d :: IsCache k.c s.c :: IsStore k.b s.b :: (r.rows q ++ l)) w) O1 O1 ?_
  have hs := h.drew
  clear h
  generalize w.drew = w1 at hs ⊢
  have h := hs.drop
  refine Y3 ?_
  refine qj rfl rfl rfl rfl h (fun _ h => qh rfl (qq (v := .pointer (some ⟨k.t, 0, none⟩)) rfl (h.b 1 rfl) rfl)) ?_
  refine Y1o ?_
  refine qj rfl rfl rfl rfl h (fun _ h => qh rfl (qq (v := .iz r.o.iter) rfl (h.b 0 rfl) rfl)) ?_
  refine Y16 ?_; refine Y4i ?_
  refine j4 9 15 rfl rfl rfl rfl rfl rfl ?_ ?_
  ·refine qg rfl (hat hs) ?_
   clear h hs
   rintro _ w ⟨a1, c1, a2, c2, rfl, h1⟩
   have h := h1.drop.drop.drop
   refine ⟨fun _ => h, ?_⟩
   refine Y29 ?_; refine Y4x ?_; refine Y3m ?_
   refine qd 15 rfl rfl rfl rfl ?_
   refine qp h1 fun b7 w h1 => ?_
   clear h
   have h := h1.drop.drop.drop.drop
   refine ⟨fun _ => h, ?_⟩
   refine Y2s ?_; refine Y11 ?_
   refine jy 17 none rfl rfl rfl rfl ?_
   refine qy (vs := X.x.V.cells a1 c1 a2 c2) 0 h1 rfl rfl rfl rfl rfl rfl rfl fun w h => ?_
   refine jz h ?_
   refine Y2s ?_; refine Y1d ?_
   exact qn ⟨((a1, c1, a2, c2), b7), zz6, h.o [1, 2, 0]⟩
  ·refine qp hs fun b7 w h1 => ?_
   clear h hs
   have h := h1.drop.drop
   refine ⟨fun _ => h, ?_⟩
   refine Y16 ?_; refine Y2q ?_
   refine qd 9 rfl rfl rfl rfl ?_
   refine qg rfl (hat (h1.f 1)) ?_
   clear h h1
   rintro _ w ⟨a1, c1, a2, c2, rfl, h1⟩
   have h := h1.drop.drop.drop.drop
   refine ⟨fun _ => h, ?_⟩
   refine Y29 ?_; refine Y4x ?_; refine Y2s ?_; refine Y11 ?_
   refine jy 17 none rfl rfl rfl rfl ?_
   refine qy (vs := X.x.V.cells a1 c1 a2 c2) 3 h1 rfl rfl rfl rfl rfl rfl rfl fun w h => ?_
   refine jz h ?_
   refine Y2s ?_; refine Y1d ?_
   exact qn ⟨((a1, c1, a2, c2), b7), zz6, h.o [0, 1, 3]⟩
 clear h hat
 rintro ⟨⟨a1, c1, a2, c2⟩, b7⟩ w e h
 dsimp only at h
 have h0 : St w0 (IsSh p s :: OwnPr a1 c1 X.x.parts :: OwnS a2 c2 X.x.tail :: pt b7 (.cells (X.x.V.cells a1 c1 a2 c2).toArray 87 (0, 0)) :: RunPt t r q :: (r.rows q ++ l)) w :=
  (St.shd (s := s)).2 ⟨k, h.o [5, 6, 7, 8, 3]⟩
 clear h
 have h := qgs h0
 clear h0
 obtain ⟨E, hE⟩ : ∃ E, (OwnPr a1 c1 X.x.parts :: OwnS a2 c2 X.x.tail :: pt b7 (.cells (X.x.V.cells a1 c1 a2 c2).toArray 87 (0, 0)) :: l) = E := ⟨_, rfl⟩
 have hx3 : ∀ {A B : HProp} {w : World}, St w0 (A :: B :: E) w -> St w0 (A :: B :: l) w := by
  intro A B w h
  rw [<- hE] at h
  exact h.x [2, 3, 4]
 rw [hE] at h
 refine Y2n ?_
 refine r_v (qq (v := .iz r.ph) rfl (h.b 0 rfl) rfl) rfl ?_
 refine Y4e ?_
 by_cases p0 : r.ph = 0
 ·rw [if_pos p0] at key
  refine qz (.bool true) (by congr 1; rw [beq_iff_eq]; exact p0) ?_
  refine Y43 ?_
  refine r_c rfl (qg rfl (ce (j7 h)) ?_)
  clear h
  rintro _ w ⟨rfl, h⟩
  obtain ⟨⟨r2, s2, d, ok⟩, hz⟩ : ∃ z, r.use s = z := ⟨_, rfl⟩
  rw [hz] at h key ⊢
  dsimp only at h key ⊢
  refine Y48 ?_; refine Y2v ?_
  cases ok with
  | false =>
   rw [if_neg O2] at key
   rw [key]
   refine Y1g ?_; refine Yd ?_; refine Y8 ?_; refine Y6 ?_
   exact qv (qk (bq1 ⟨rfl, hx3 h⟩))
  | true =>
  rw [if_pos rfl] at key
  refine Y1g ?_; refine Yb ?_
  obtain ⟨q2, h⟩ := (St.run (r := r2)).1 h
  rw [<- hE] at h
  refine Y10 ?_; refine Y22 ?_
  refine r_v (qx (l := X.x.V.cells a1 c1 a2 c2) rfl rfl (qw (h.b 13 rfl) rfl)) rfl ?_
  refine Y0 ?_; refine Yi ?_
  refine r_c rfl (qy (vs := X.x.V.cells a1 c1 a2 c2) 0 h rfl rfl rfl rfl rfl rfl rfl fun w h => ?_)
  replace h : St w0 (RunPt t { r2 with x := X.x } { q2 with pa := a1, pc := c1, ta := a2, tc := c2 } :: OneH q2.one r2.one :: OwnS q2.s.a4 q2.s.c4 r2.slot.opn :: OwnPr q2.s.a5 q2.s.c5 r2.slot.chunks :: OwnS q2.n.a4 q2.n.c4 r2.next.opn :: OwnPr q2.n.a5 q2.n.c5 r2.next.chunks :: OwnPr q2.pa q2.pc r2.x.parts :: OwnS q2.ta q2.tc r2.x.tail :: OwnS q2.ga q2.gc r2.got :: OwnS q2.ra q2.rc r2.res.list :: IsSh p s2 :: OwnPr a1 c1 X.x.parts :: OwnS a2 c2 X.x.tail :: pt b7 (.cells (X.x.V.cells a1 c1 a2 c2).toArray 87 (0, 0)) :: l) w := h
  refine Yi ?_
  refine r_c rfl (qb 0 h rfl (show _ = Value.iz X.told from rfl) rfl rfl rfl rfl fun w h => ?_)
  replace h : St w0 (RunPt t { r2 with x := X.x, told := X.told } { q2 with pa := a1, pc := c1, ta := a2, tc := c2 } :: OneH q2.one r2.one :: OwnS q2.s.a4 q2.s.c4 r2.slot.opn :: OwnPr q2.s.a5 q2.s.c5 r2.slot.chunks :: OwnS q2.n.a4 q2.n.c4 r2.next.opn :: OwnPr q2.n.a5 q2.n.c5 r2.next.chunks :: OwnPr q2.pa q2.pc r2.x.parts :: OwnS q2.ta q2.tc r2.x.tail :: OwnS q2.ga q2.gc r2.got :: OwnS q2.ra q2.rc r2.res.list :: IsSh p s2 :: OwnPr a1 c1 X.x.parts :: OwnS a2 c2 X.x.tail :: pt b7 (.cells (X.x.V.cells a1 c1 a2 c2).toArray 87 (0, 0)) :: l) w := h
  refine Yi ?_
  refine r_c rfl (qb 0 h rfl (show _ = Value.iz 2 from rfl) rfl rfl rfl rfl fun w h => ?_)
  obtain ⟨R, hR⟩ : ∃ R : Run, R = { r2 with x := X.x, told := X.told, ph := 2 } := ⟨_, rfl⟩
  obtain ⟨Q, hQ⟩ : ∃ Q : RunQ, Q = { q2 with pa := a1, pc := c1, ta := a2, tc := c2 } := ⟨_, rfl⟩
  replace h : St w0 (RunPt t R Q :: IsSh p s2 :: (R.rows Q ++ (pt b7 (.cells (X.x.V.cells a1 c1 a2 c2).toArray 87 (0, 0)) :: l))) w := by
   rw [hR, hQ]; exact (h.x [6, 7]).o [0, 8, 1, 2, 3, 4, 5, 9, 10, 6, 7]
  refine Y2e ?_; refine Y8 ?_; refine Yp ?_
  by_cases hn0 : n = 0
  ·rw [if_pos hn0, <- hR] at key
   rw [key]
   refine qz (.bool true) (by congr 1; rw [beq_iff_eq]; exact hn0) ?_
   refine Yd ?_; refine Y10 ?_
   refine r_c rfl (qg rfl (mn (L := []) (Ud _) Reads.nil h) ?_)
   clear h
   rintro _ w ⟨rfl, h⟩
   refine Y6 ?_
   exact qv (qk (bq1 ⟨rfl, h.x [2]⟩))
  rw [if_neg hn0] at key
  replace key : r.tell s = ({ R with ph := if X.x.parts.length = 0 then 3 else 2 }, s2, 1) := by rw [key, hR]
  rw [key]
  refine qz (.bool false) (by congr 1; rw [beq_eq_false_iff_ne]; exact hn0) ?_
  refine Yb ?_
  refine qt (Γ := Unit) (fun _ => []) (fun _ w => St w0 (IsRun t { R with ph := if X.x.parts.length = 0 then 3 else 2 } :: IsSh p s2 :: pt b7 (.cells (X.x.V.cells a1 c1 a2 c2).toArray 87 (0, 0)) :: l) w) ?_ ?_
  ·refine Y26 ?_
   refine r_v (qq (v := .slice a1 X.x.parts.length c1) rfl (h.b 11 rfl) rfl) rfl ?_
   refine Y15 ?_; refine Yp ?_
   by_cases h0 : X.x.parts.length = 0
   ·refine qz (.bool true) O13 ?_
    refine Yd ?_; refine Y2l ?_
    refine r_c rfl (qb 0 h rfl (show _ = Value.iz 3 from rfl) rfl rfl rfl rfl fun w h => ?_)
    refine qv ⟨(), trivial, ?_⟩
    rw [if_pos h0]
    exact j7 (r := { R with ph := 3 }) h
   ·refine qz (.bool false) O5 ?_
    refine qv (qe rfl (qa ⟨(), trivial, ?_⟩))
    rw [if_neg h0]
    have e2 : ({ R with ph := 2 } : Run) = R := by rw [hR]
    rw [e2]
    exact j7 h
  clear h
  rintro _ w e h
  refine Y13 ?_
  exact qv (qk (bq1 ⟨rfl, h.x [2]⟩))
 rw [if_neg p0] at key
 refine qz (.bool false) (by congr 1; rw [beq_eq_false_iff_ne]; exact p0) ?_
 refine Y2r ?_
 by_cases p2 : r.ph = 2
 ·rw [if_pos p2] at key
  obtain ⟨hp1, hp2⟩ := hpart p2
  have hph := i0 r s X.series
  refine qz (.bool true) (by congr 1; rw [beq_iff_eq]; exact p2) ?_
  refine Y2k ?_; refine qf ?_; refine Y10 ?_; refine Y0 ?_
  refine r_c rfl (qg rfl (mb hT X.series hp1 (j7 h)) ?_)
  clear h
  rintro _ w ⟨rfl, h⟩
  obtain ⟨⟨r2, s2, e2⟩, hz⟩ : ∃ z, r.part s X.series = z := ⟨_, rfl⟩
  rw [hz] at h hp2 hph key ⊢
  dsimp only at h hp2 hph key ⊢
  refine Y3t ?_; refine Y1q ?_
  by_cases he : e2 = 0
  ·rw [if_neg (fun hh => hh he)] at key
   refine qz (.bool false) (by rw [he]; rfl) ?_
   refine Yb ?_
   obtain ⟨q2, h⟩ := vp h
   rw [<- hE] at h
   obtain ⟨fin, hfin⟩ : ∃ fin : Bool, decide (r2.i = (X.x.parts.length : Int) ∨ (r2.got.length : Int) ≥ wI (r2.told + n)) = fin := ⟨_, rfl⟩
   replace key : r.tell s = ({ r2 with ph := if fin then 3 else 2 }, s2, 1) := by
    rw [key, <- hfin]
    by_cases hc : r2.i = (X.x.parts.length : Int) ∨ (r2.got.length : Int) ≥ wI (r2.told + n)
    ·rw [if_pos hc, if_pos O20]
    ·rw [if_neg hc, if_neg O20]
   rw [key]
   refine qt (Γ := Unit) (fun _ => []) (fun _ w => St w0 (IsRun t { r2 with ph := if fin then 3 else 2 } :: IsSh p s2 :: OwnPr a1 c1 X.x.parts :: OwnS a2 c2 X.x.tail :: pt b7 (.cells (X.x.V.cells a1 c1 a2 c2).toArray 87 (0, 0)) :: l) w) ?_ ?_
   ·refine qt (Γ := Unit) (fun _ => [(0, .pz t), (124, .bool fin)]) (fun _ w => St w0 (RunPt t r2 q2 :: IsSh p s2 :: (r2.rows q2 ++ (OwnPr a1 c1 X.x.parts :: OwnS a2 c2 X.x.tail :: pt b7 (.cells (X.x.V.cells a1 c1 a2 c2).toArray 87 (0, 0)) :: l))) w) ?_ ?_
    ·refine jh none (fun w => St w0 (RunPt t r2 q2 :: IsSh p s2 :: (r2.rows q2 ++ (OwnPr a1 c1 X.x.parts :: OwnS a2 c2 X.x.tail :: pt b7 (.cells (X.x.V.cells a1 c1 a2 c2).toArray 87 (0, 0)) :: l))) w) O1 O1 h.drew fun w h => ?_
     refine Y3 ?_
     refine qj rfl rfl rfl rfl h (fun _ h => qh rfl (qq (v := .iz r2.i) rfl (h.b 0 rfl) rfl)) ?_
     refine Yv ?_
     refine qj rfl rfl rfl rfl h (fun _ h => qh rfl (qq (v := .slice a1 X.x.parts.length c1) rfl (h.b 13 rfl) rfl)) ?_
     refine Y2x ?_
     by_cases hi : r2.i = (X.x.parts.length : Int)
     ·refine cpv rfl rfl rfl rfl h rfl (qr (v' := .bool true) (j9 rfl rfl) (by congr 1; rw [beq_iff_eq]; exact hi)) ?_
      have e9 : true = fin := by rw [<- hfin]; simp [hi]
      subst e9
      refine Yz ?_; refine qu rfl rfl rfl rfl (fun _ => h) (fun _ => qo rfl rfl) (qu rfl rfl rfl rfl (fun _ => h) (fun _ => qo rfl rfl) (qu rfl rfl rfl rfl (fun _ => h) (fun _ => qo rfl rfl) (qu rfl rfl rfl rfl (fun _ => h) (fun _ => qo rfl rfl) (qu rfl rfl rfl rfl (fun _ => h) (fun _ => qo rfl rfl) (qu rfl rfl rfl rfl (fun _ => h) (fun _ => qo rfl rfl) ?_))))); refine qu rfl rfl rfl rfl (fun _ => h) (fun _ => qo rfl rfl) (qu rfl rfl rfl rfl (fun _ => h) (fun _ => qo rfl rfl) (qu rfl rfl rfl rfl (fun _ => h) (fun _ => qo rfl rfl) (qu rfl rfl rfl rfl (fun _ => h) (fun _ => qo rfl rfl) (qu rfl rfl rfl rfl (fun _ => h) (fun _ => qo rfl rfl) (qu rfl rfl rfl rfl (fun _ => h) (fun _ => qo rfl rfl) ?_))))); refine cpv rfl rfl rfl rfl h rfl (ji rfl rfl rfl) ?_
      exact qn ⟨(), zz2, h⟩
     ·refine cpv rfl rfl rfl rfl h rfl (qr (v' := .bool false) (j9 rfl rfl) (by congr 1; rw [beq_eq_false_iff_ne]; exact hi)) ?_
      have e9 : decide ((r2.got.length : Int) ≥ wI (r2.told + n)) = fin := by rw [<- hfin]; simp [hi]
      refine Yz ?_; refine qu rfl rfl rfl rfl (fun _ => h) (fun _ => ql rfl rfl (jr rfl)) (qu rfl rfl rfl rfl (fun _ => h) (fun _ => ql rfl rfl (v7 rfl)) (qu rfl rfl rfl rfl (fun _ => h) (fun _ => ql rfl rfl (vm rfl)) ?_))
      refine qj rfl rfl rfl rfl h (fun _ h => ql rfl rfl (qq (v := .slice q2.ga r2.got.length q2.gc) rfl (h.b 0 rfl) rfl)) ?_
      refine qu rfl rfl rfl rfl (fun _ => h) (fun _ => ql rfl rfl (t9 rfl)) (qu rfl rfl rfl rfl (fun _ => h) (fun _ => ql rfl rfl (jr rfl)) (qu rfl rfl rfl rfl (fun _ => h) (fun _ => ql rfl rfl (v7 rfl)) (qu rfl rfl rfl rfl (fun _ => h) (fun _ => ql rfl rfl (vm rfl)) ?_)))
      refine qj rfl rfl rfl rfl h (fun _ h => ql rfl rfl (qq (v := .iz r2.told) rfl (h.b 0 rfl) rfl)) ?_
      refine qu rfl rfl rfl rfl (fun _ => h) (fun _ => ql rfl rfl (ku rfl)) (qu rfl rfl rfl rfl (fun _ => h) (fun _ => ql rfl rfl (vt rfl rfl)) ?_)
      refine qu rfl rfl rfl rfl (fun _ => h) (fun _ => ql rfl rfl (qr (v' := .bool fin) (yr rfl rfl) (congrArg Value.bool e9))) ?_
      refine cpv rfl rfl rfl rfl h rfl (jl rfl rfl rfl) ?_
      exact qn ⟨(), zz2, h⟩
    clear h
    rintro _ w e h
    refine qi fin rfl (fun hs => ?_) (fun hs => ?_)
    ·refine Y2l ?_
     refine r_c rfl (qb 0 h rfl (show _ = Value.iz 3 from rfl) rfl rfl rfl rfl fun w h => ?_)
     refine qv ⟨(), trivial, ?_⟩
     rw [if_pos hs]; exact j7 (r := { r2 with ph := 3 }) h
    ·refine qa ⟨(), trivial, ?_⟩
     rw [if_neg (by rw [hs]; decide)]
     have e2 : ({ r2 with ph := 2 } : Run) = r2 := by
      rw [p2] at hph
      obtain ⟨_, _, ph, _, _, _, _, _, _, _, _, _, _, _, _, _⟩ := r2
      dsimp only at hph; subst hph; rfl
     rw [e2]; exact j7 h
   clear h
   rintro _ w e h
   refine Y13 ?_
   exact qv (qk (bq1 ⟨rfl, h.x [2, 3, 4]⟩))
  ·rw [if_pos he] at key
   rw [key]
   refine qz (.bool true) (by congr 1; rw [bne_iff_ne]; exact he) ?_
   refine Yd ?_
   obtain ⟨z, hz2⟩ : ∃ z, r2.fail s2 = z := ⟨_, rfl⟩
   refine qt (Γ := Unit) (fun _ => [(0, .pz t), (1, .pz p), (12, .iz e2)]) (fun _ w => St w0 (IsRun t z.1 :: IsSh p z.2 :: E) w) ?_ ?_
   ·have h0 := h
    obtain ⟨q2, h⟩ := (St.run (r := r2)).1 h
    refine Y5 ?_
    refine r_v (qq (v := .pointer q2.one) rfl (h.b 0 rfl) rfl) rfl ?_
    unfold Run.fail at hz2
    cases ho : r2.one with
    | none =>
     rw [ho] at h hz2
     obtain ⟨h1, h⟩ := St.one0.1 (h.f 1)
     rw [h1]
     refine r_v (ve rfl rfl) rfl ?_
     refine qv (qe rfl (qa ⟨(), zz3, ?_⟩))
     rw [<- hz2]
     exact h0
    | some x =>
     clear h0
     rw [ho] at h hz2
     obtain ⟨tk, h1, h⟩ := St.one1.1 (h.f 1)
     have hone : (r2.C q2)[36]? = some (.pz tk) := congrArg (fun o => some (Value.pointer o)) h1
     rw [h1]
     refine r_v (ve rfl rfl) rfl ?_
     refine Yd ?_
     obtain ⟨u, h⟩ := (St.shd (s := s2)).1 (h.f 10)
     replace h : St w0 (IsTk tk x :: IsCache u.c s2.c :: RunPt t r2 q2 :: ShPt p u :: IsDir u.d s2.d :: IsStore u.b s2.b :: IsTab u.t s2.t.V :: rowL r2 q2 E) w := h.o [5, 2, 6, 0, 1, 3, 4]
     refine jm [0, 1, 2, 3, 4, 5, 6, 7, 8] none (fun w => St w0 (RunPt t r2 q2 :: ShPt p u :: IsDir u.d s2.d :: IsStore u.b s2.b :: IsTab u.t s2.t.V :: rowL r2 q2 E) w) O1 O1 ?_
     have hs := h.drew
     clear h
     generalize w.drew = w1 at hs ⊢
     have h := hs.drop.drop
     refine Y3 ?_
     refine qj rfl rfl rfl rfl h (fun _ h => qh rfl (qq (v := .pz tk) rfl (h.b 0 rfl) hone)) ?_
     refine Y3 ?_
     refine qj rfl rfl rfl rfl h (fun _ h => qh rfl (qq (v := .pointer (some ⟨u.c, 0, none⟩)) rfl (h.b 1 rfl) rfl)) ?_
     refine Yg ?_
     refine qd 8 rfl rfl rfl rfl ?_
     refine qg rfl (dl hp2 hs) ?_
     clear h hs
     intro _ w hs
     have h := hs.drop.drop
     refine ⟨fun _ => h, ?_⟩
     refine qn ⟨(), zz3, ?_⟩
     rw [<- hz2]
     have h1' : St w0 (ShPt p u :: IsDir u.d s2.d :: IsCache u.c (x.leave s2.c).2 :: IsStore u.b s2.b :: IsTab u.t s2.t.V :: IsTk tk (x.leave s2.c).1 :: RunPt t r2 q2 :: rowL r2 q2 E) w := hs.o [3, 4, 1, 5, 6, 0, 2]
     have h2 : St w0 (IsSh p { s2 with c := (x.leave s2.c).2 } :: IsTk tk (x.leave s2.c).1 :: RunPt t r2 q2 :: rowL r2 q2 E) w := (St.shd (s := { s2 with c := (x.leave s2.c).2 })).2 ⟨u, h1'⟩
     have h3 : St w0 (OneH q2.one (some (x.leave s2.c).1) :: IsSh p { s2 with c := (x.leave s2.c).2 } :: RunPt t r2 q2 :: rowL r2 q2 E) w := St.one1.2 ⟨tk, h1, h2.f 1⟩
     exact (St.run (r := { r2 with one := some (x.leave s2.c).1 })).2 ⟨q2, h3.o [2, 0, 3, 4, 5, 6, 7, 8, 9, 10, 1]⟩
   clear h hp2 hph
   rintro _ w e h
   rw [hz2]
   obtain ⟨r3, s3⟩ := z
   dsimp only at h ⊢
   obtain ⟨q3, h⟩ := vp h
   refine Y10 ?_
   refine r_c rfl (qg rfl (ms h) ?_)
   clear h
   rintro _ w ⟨rfl, h⟩
   have h1 : St w0 (IsRun t (r3.free s3).1 :: IsSh p (r3.free s3).2 :: E) w := j7 (r := (r3.free s3).1) (q := q3) h
   clear h
   refine Y1a ?_; refine Y0 ?_
   refine r_v (qc (r := (⟨e2, 0, []⟩ : Res).C none 0) rfl) rfl ?_
   refine r_c rfl (qg rfl (gw (res := ⟨e2, 0, []⟩) 3 ((h1.ownNil 57 2).f 1)) ?_)
   clear h1
   rintro _ w ⟨rfl, h⟩
   refine Y6 ?_
   exact qv (qk (bq1 ⟨rfl, hx3 h⟩))
 rw [if_neg p2] at key
 rw [key]
 have ht0 := htold p0 p2
 refine qz (.bool false) (by congr 1; rw [beq_eq_false_iff_ne]; exact p2) ?_
 refine Ya ?_; refine Y1r ?_
 rw [<- hE] at h
 refine Y5 ?_
 refine r_v (qq (v := .slice q.ga r.got.length q.gc) rfl (h.b 0 rfl) rfl) rfl ?_
 refine Yw ?_
 obtain ⟨L, hL⟩ : ∃ L, (if r.i = (X.x.parts.length : Int) then r.got ++ X.x.tail else r.got) = L := ⟨_, rfl⟩
 have hLn : L.length <= 2097152 := by
  rw [<- hL]
  split
  ·rw [Ua]; omega
  ·omega
 refine qt (Γ := (Option Addr × Nat) × HProp) (fun g => [(0, .pz t), (1, .pz p), (5, .iz n), (13, .slice g.1.1 L.length g.1.2)])
  (fun g w => Reads w0 (r.rows q ++ (g.2 :: OwnPr a1 c1 X.x.parts :: OwnS a2 c2 X.x.tail :: pt b7 (.cells (X.x.V.cells a1 c1 a2 c2).toArray 87 (0, 0)) :: l)) 2 g.1.1 L.length (smpsV L) ∧ L.length <= g.1.2 ∧
   St w0 (RunPt t r q :: IsSh p s :: (r.rows q ++ (g.2 :: OwnPr a1 c1 X.x.parts :: OwnS a2 c2 X.x.tail :: pt b7 (.cells (X.x.V.cells a1 c1 a2 c2).toArray 87 (0, 0)) :: l))) w) ?_ ?_
 ·refine qf ?_
  refine jh none (fun w => St w0 (RunPt t r q :: IsSh p s :: (r.rows q ++ (OwnPr a1 c1 X.x.parts :: OwnS a2 c2 X.x.tail :: pt b7 (.cells (X.x.V.cells a1 c1 a2 c2).toArray 87 (0, 0)) :: l))) w) O1 O1 h.drew fun w h => ?_
  refine Y3 ?_
  refine qj rfl rfl rfl rfl h (fun _ h => qh rfl (qq (v := .iz r.i) rfl (h.b 0 rfl) rfl)) ?_
  refine Yv ?_
  refine qj rfl rfl rfl rfl h (fun _ h => qh rfl (qq (v := .slice a1 X.x.parts.length c1) rfl (h.b 13 rfl) rfl)) ?_
  refine Y2x ?_
  by_cases hi : r.i = (X.x.parts.length : Int)
  ·rw [if_pos hi] at hL
   refine cpv rfl rfl rfl rfl h rfl (qr (v' := .bool true) (j9 rfl rfl) (by congr 1; rw [beq_iff_eq]; exact hi)) ?_
   refine qn ?_
   refine Y1k ?_; refine Y3j ?_
   refine r_v (qx (l := X.x.V.cells a1 c1 a2 c2) rfl rfl (qw (h.b 13 rfl) rfl)) rfl ?_
   have hwf : X.x.V.Wf := ⟨v9 _, jt _, by show X.x.parts.length * 40 <= _; omega, by show X.x.tail.length * 16 <= _; omega⟩
   refine r_c rfl (qg rfl (si hwf h (fun w' h' => (h'.f 12).own_rd)) ?_)
   clear h
   rintro _ w ⟨ta, tc, rfl, h⟩
   replace h : St w0 (OwnS ta tc X.x.tail :: RunPt t r q :: IsSh p s :: (r.rows q ++ (OwnPr a1 c1 X.x.parts :: OwnS a2 c2 X.x.tail :: pt b7 (.cells (X.x.V.cells a1 c1 a2 c2).toArray 87 (0, 0)) :: l))) w := h
   refine r_c rfl (jg (r := [.slice q.ga r.got.length q.gc, .slice ta X.x.tail.length tc]) h rfl rfl rfl fun b w h => ?_)
   refine r_c rfl (qg rfl (wj (A := r.got) (B := X.x.tail) O0 O0 (Reads.own.more [_, _, _, _, _, _, _, _, _, _]) Reads.own h) ?_)
   clear h
   rintro _ w ⟨o, oc, rfl, h⟩
   rw [hL] at h ⊢
   refine Yo ?_
   replace h : St w0 (OwnS o oc L :: RunPt t r q :: IsSh p s :: (r.rows q ++ (OwnPr a1 c1 X.x.parts :: OwnS a2 c2 X.x.tail :: pt b7 (.cells (X.x.V.cells a1 c1 a2 c2).toArray 87 (0, 0)) :: l))) w := h.x [1]
   exact qv ⟨((o, oc), _), zz4, Reads.own.more (r.rows q), h.own_cases.2.1, cr h⟩
  ·rw [if_neg hi] at hL
   subst hL
   refine cpv rfl rfl rfl rfl h rfl (qr (v' := .bool false) (j9 rfl rfl) (by congr 1; rw [beq_eq_false_iff_ne]; exact hi)) ?_
   refine qn ?_
   refine Y1r ?_
   exact ⟨((q.ga, q.gc), Own 57 2 none 0 0 []), zz4, Reads.own.more [_, _, _, _, _, _, _], (h.f 9).own_cases.2.1, cr (h.ownNil 57 2)⟩
 clear h hx3
 rintro ⟨⟨a, c⟩, D⟩ w e ⟨hrd, hcap, h⟩
 dsimp only at hrd hcap h
 obtain ⟨i, hi⟩ : ∃ i, (min r.told (L.length : Int)).toNat = i := ⟨_, rfl⟩
 have hil : i <= L.length := by omega
 obtain ⟨j, hj⟩ : ∃ j, (min n ((L.drop i).length : Int)).toNat = j := ⟨_, rfl⟩
 have hdl : (L.drop i).length = L.length - i := Uq
 have hjl : j <= L.length - i := by omega
 have hjc : j <= c - i := by omega
 have hkey : r.told_ X n = (L.drop i).take j := by
  unfold Run.told_
  rw [hL]
  dsimp only
  rw [hi, hj]
 have hlen : ((L.drop i).take j).length = j := by rw [Us]; omega
 rw [hkey]
 refine Ye ?_; refine Y1t ?_
 refine r_v (qq (v := .iz r.told) rfl (h.b 0 rfl) rfl) rfl ?_
 refine Y17 ?_; refine Y4j ?_
 refine qz (.iz (i : Int)) (by congr 1; omega) ?_
 refine r_v (gl (i := i) rfl rfl hil) rfl ?_
 refine Yw ?_; refine Y10 ?_; refine Yj ?_; refine Y0 ?_; refine Y17 ?_; refine Y4j ?_
 refine qz (.iz (j : Int)) (by congr 1; omega) ?_
 refine r_v (qr (v' := .slice (adv a (i * 2) (Nat.beq c i)) ((L.drop i).take j).length (c - i)) (kz (h := j) rfl rfl hjc) (by rw [hlen]; rfl)) rfl ?_
 have hr2 : Reads w0 (r.rows q ++ (D :: OwnPr a1 c1 X.x.parts :: OwnS a2 c2 X.x.tail :: pt b7 (.cells (X.x.V.cells a1 c1 a2 c2).toArray 87 (0, 0)) :: l)) 2 (adv a (i * 2) (Nat.beq c i)) ((L.drop i).take j).length (smpsV ((L.drop i).take j)) := by
  have := (hrd.tail hil hcap).head hjl
  rw [mj, mq] at this
  rw [hlen]; exact this
 refine r_c rfl (qg rfl (mn (L := (L.drop i).take j) O0 hr2 h) ?_)
 clear h
 rintro _ w ⟨rfl, h⟩
 refine Y6 ?_
 exact qv (qk (bq1 ⟨rfl, h.x [2, 3, 4, 5]⟩))
end
end
section
section
variable {w0 w : World} {l : List HProp} {t p : Nat} {r : Run} {s : Shd} {q : RunQ}
theorem qjx (o : Opr) (h : St w0 l w) : Ret prog 36 [.agg o.C.toArray] w fun v w' => v = .bool (Run.bad o) ∧ St w0 l w' := by
 refine en func36 results36 ntmps36 ?_
 refine Y1 ?_
 refine r_c rfl (jv h (show _ = Value.agg o.C.toArray from rfl) fun b w h => ?_)
 replace h : St w0 (pt b (.cells o.C.toArray 33 (0, 0)) :: l) w := h
 refine Ya ?_; refine Y2v ?_; refine Yk ?_
 refine r_v (qq (v := .iz o.kind) rfl (h.b 0 rfl) rfl) rfl ?_
 refine Y4p ?_
 obtain ⟨kin, hkin⟩ : ∃ kin : Bool, decide (1 <= o.kind ∧ o.kind <= 5) = kin := ⟨_, rfl⟩
 refine qt (Γ := Unit) (fun _ => [(1, .pz b), (5, .bool kin)]) (fun _ w => St w0 (pt b (.cells o.C.toArray 33 (0, 0)) :: l) w) ?_ ?_
 ·refine Y2w ?_
  by_cases h1 : o.kind = 1
  ·refine qz (.bool true) (by congr 1; rw [beq_iff_eq]; exact h1) ?_
   refine Y7 ?_
   exact qv (vq rfl (qa ⟨(), ⟨rfl, by rw [<- hkin, h1]; rfl, trivial⟩, h⟩))
  refine qz (.bool false) (by congr 1; rw [beq_eq_false_iff_ne]; exact h1) ?_
  refine Y2r ?_
  by_cases h2 : o.kind = 2
  ·refine qz (.bool true) (by congr 1; rw [beq_iff_eq]; exact h2) ?_
   refine Y7 ?_
   exact qv (vq rfl (qa ⟨(), ⟨rfl, by rw [<- hkin, h2]; rfl, trivial⟩, h⟩))
  refine qz (.bool false) (by congr 1; rw [beq_eq_false_iff_ne]; exact h2) ?_
  refine Y2r ?_
  by_cases h3 : o.kind = 3
  ·refine qz (.bool true) (by congr 1; rw [beq_iff_eq]; exact h3) ?_
   refine Y7 ?_
   exact qv (vq rfl (qa ⟨(), ⟨rfl, by rw [<- hkin, h3]; rfl, trivial⟩, h⟩))
  refine qz (.bool false) (by congr 1; rw [beq_eq_false_iff_ne]; exact h3) ?_
  refine Y2r ?_
  by_cases h4 : o.kind = 4
  ·refine qz (.bool true) (by congr 1; rw [beq_iff_eq]; exact h4) ?_
   refine Y7 ?_
   exact qv (vq rfl (qa ⟨(), ⟨rfl, by rw [<- hkin, h4]; rfl, trivial⟩, h⟩))
  refine qz (.bool false) (by congr 1; rw [beq_eq_false_iff_ne]; exact h4) ?_
  refine Y39 ?_; refine j2 ?_; refine Yp ?_
  refine qz (.bool kin) (by
   rw [<- hkin]
   by_cases h5 : o.kind = 5
   ·rw [h5]; rfl
   ·congr 1
    rw [show decide (1 <= o.kind ∧ o.kind <= 5) = false from by rw [decide_eq_false_iff_not]; omega, beq_eq_false_iff_ne]
    exact h5) ?_
  refine Y7 ?_
  exact qv ⟨(), zz2, h⟩
 clear h
 rintro _ w e h
 have hbad : Run.bad o = if kin then decide (o.series < 0) || decide (o.series ≥ 16) else !(o.kind == 6) && !(o.kind == 7) := by
  unfold Run.bad
  rw [<- hkin]
  by_cases hc : 1 <= o.kind ∧ o.kind <= 5
  ·rw [if_pos hc, if_pos O20]
  ·rw [if_neg hc, if_neg O20]
 refine qi kin rfl (fun hk => ?_) (fun hk => ?_)
 ·rw [if_pos hk] at hbad
  refine Y26 ?_
  refine r_v (qq (v := .iz o.series) rfl (h.b 0 rfl) rfl) rfl ?_
  refine Y1u ?_
  by_cases h1 : o.series < 0
  ·refine qz (.bool true) (by congr 1; rw [decide_eq_true_eq]; exact h1) ?_
   have e9 : Run.bad o = true := by rw [hbad, decide_eq_true h1]; rfl
   refine Y2f ?_; refine Y2m ?_
   exact qv (qk (bq1 ⟨congrArg Value.bool e9.symm, h.drop⟩))
  ·refine qz (.bool false) (by congr 1; rw [decide_eq_false_iff_not]; exact h1) ?_
   have e9 : Run.bad o = decide (o.series ≥ 16) := by rw [hbad, decide_eq_false h1, Bool.false_or]
   refine Y1e ?_
   refine r_v (qq (v := .iz o.series) rfl (h.b 0 rfl) rfl) rfl ?_
   refine Yc ?_; refine Y1m ?_; refine Y2h ?_
   exact qv (qk (bq1 ⟨congrArg Value.bool e9.symm, h.drop⟩))
 ·rw [if_neg (by rw [hk]; decide)] at hbad
  refine Yl ?_; refine Y26 ?_
  refine r_v (qq (v := .iz o.kind) rfl (h.b 0 rfl) rfl) rfl ?_
  refine Y1q ?_
  by_cases h1 : o.kind = 6
  ·refine qz (.bool false) (by rw [h1]; rfl) ?_
   have e9 : Run.bad o = false := by rw [hbad, h1]; rfl
   refine Y2f ?_; refine Y2h ?_
   exact qv (qk (bq1 ⟨congrArg Value.bool e9.symm, h.drop⟩))
  ·refine qz (.bool true) (by congr 1; rw [bne_iff_ne]; exact h1) ?_
   have e9 : Run.bad o = (o.kind != 7) := by rw [hbad, beq_eq_false_iff_ne.2 h1]; rfl
   refine Y1e ?_
   refine r_v (qq (v := .iz o.kind) rfl (h.b 0 rfl) rfl) rfl ?_
   refine Yc ?_; refine Y1q ?_; refine Y2m ?_
   exact qv (qk (bq1 ⟨congrArg Value.bool e9.symm, h.drop⟩))
structure Run.StepOk (r : Run) (s : Shd) : Prop where
 read : r.over = false -> Run.bad r.o = false -> r.o.kind = 2 -> r.ReadOk s
 open_ : r.over = false -> Run.bad r.o = false -> r.o.kind = 5 -> r.OpenOk s
 tell : r.over = false -> Run.bad r.o = false -> r.o.kind = 6 -> r.TellOk s
 shut : r.over = false -> Run.bad r.o = false -> r.o.kind = 7 -> s.t.Fits
 write : r.over = false -> Run.bad r.o = false -> r.o.kind ≠ 2 -> r.o.kind ≠ 5 -> r.o.kind ≠ 6 -> r.o.kind ≠ 7 -> r.WriteOk s
theorem ue (hT : Tz w0) (hok : r.StepOk s) (h : St w0 (IsRun t r :: IsSh p s :: l) w) :
  Ret prog 15 [.pz t, .pz p] w fun v w' => v = .iz (r.step s).2.2 ∧ St w0 (IsRun t (r.step s).1 :: IsSh p (r.step s).2.1 :: l) w' := by
 obtain ⟨k2, k5, k6, k7, kw⟩ := hok
 have key : r.step s = if r.over then (r, s, 0) else if Run.bad r.o then r.refuse s 4 else if r.o.kind = 2 then r.read s else if r.o.kind = 5 then r.open_ s else if r.o.kind = 6 then r.tell s else if r.o.kind = 7 then r.shut s else r.write s := rfl
 have h0 := h
 obtain ⟨q, h⟩ := vp h
 refine en func15 results15 ntmps15 ?_
 refine Yr ?_; refine Y38 ?_; refine Y5 ?_
 refine r_v (qq (v := .bool r.over) rfl (h.b 0 rfl) rfl) rfl ?_
 refine Y7 ?_
 cases ho : r.over with
 | true =>
  rw [ho, if_pos rfl] at key
  rw [key]
  refine Yd ?_; refine Y13 ?_
  exact qv (qk (bq1 ⟨rfl, h0⟩))
 | false =>
 rw [ho, if_neg O2] at key
 refine Y24 ?_; refine Y5 ?_
 refine r_v (qx (l := r.o.C) rfl rfl (qw (h.b 0 rfl) rfl)) rfl ?_
 refine r_c rfl (qg rfl (qjx r.o h0) ?_)
 clear h h0
 rintro _ w ⟨rfl, h⟩
 refine Y7 ?_
 cases hb : Run.bad r.o with
 | true =>
  rw [hb, if_pos rfl] at key
  rw [key]
  refine Yd ?_; refine Ym ?_
  refine r_c rfl (qg rfl (gf 4 h) ?_)
  clear h
  rintro _ w ⟨rfl, h⟩
  refine Y6 ?_
  exact qv (qk (bq1 ⟨rfl, h⟩))
 | false =>
 rw [hb, if_neg O2] at key
 refine Yb ?_
 have h0 := h
 clear h
 obtain ⟨q, h⟩ := vp h0
 refine Y2n ?_; refine Yk ?_
 refine r_v (qq (v := .iz r.o.kind) rfl (h.b 0 rfl) rfl) rfl ?_
 clear h
 refine Y4e ?_
 by_cases h2 : r.o.kind = 2
 ·rw [if_pos h2] at key
  rw [key]
  refine qz (.bool true) (by congr 1; rw [beq_iff_eq]; exact h2) ?_
  refine Y43 ?_
  refine r_c rfl (qg rfl (aq hT (k2 ho hb h2) h0) ?_)
  clear h0
  rintro _ w ⟨rfl, h⟩
  refine Y6 ?_
  exact qv (qk (bq1 ⟨rfl, h⟩))
 rw [if_neg h2] at key
 refine qz (.bool false) (by congr 1; rw [beq_eq_false_iff_ne]; exact h2) ?_
 refine Y2r ?_
 by_cases h5 : r.o.kind = 5
 ·rw [if_pos h5] at key
  rw [key]
  refine qz (.bool true) (by congr 1; rw [beq_iff_eq]; exact h5) ?_
  refine Y43 ?_
  refine r_c rfl (qg rfl (aj (k5 ho hb h5) h0) ?_)
  clear h0
  rintro _ w ⟨rfl, h⟩
  refine Y6 ?_
  exact qv (qk (bq1 ⟨rfl, h⟩))
 rw [if_neg h5] at key
 refine qz (.bool false) (by congr 1; rw [beq_eq_false_iff_ne]; exact h5) ?_
 refine Y2r ?_
 by_cases h6 : r.o.kind = 6
 ·rw [if_pos h6] at key
  rw [key]
  refine qz (.bool true) (by congr 1; rw [beq_iff_eq]; exact h6) ?_
  refine Y43 ?_
  refine r_c rfl (qg rfl (av hT (k6 ho hb h6) h0) ?_)
  clear h0
  rintro _ w ⟨rfl, h⟩
  refine Y6 ?_
  exact qv (qk (bq1 ⟨rfl, h⟩))
 rw [if_neg h6] at key
 refine qz (.bool false) (by congr 1; rw [beq_eq_false_iff_ne]; exact h6) ?_
 refine Y2r ?_
 by_cases h7 : r.o.kind = 7
 ·rw [if_pos h7] at key
  rw [key]
  refine qz (.bool true) (by congr 1; rw [beq_iff_eq]; exact h7) ?_
  refine Y43 ?_
  refine r_c rfl (qg rfl (ag (k7 ho hb h7) h0) ?_)
  clear h0
  rintro _ w ⟨rfl, h⟩
  refine Y6 ?_
  exact qv (qk (bq1 ⟨rfl, h⟩))
 rw [if_neg h7] at key
 rw [key]
 refine qz (.bool false) (by congr 1; rw [beq_eq_false_iff_ne]; exact h7) ?_
 refine Ya ?_; refine Y1r ?_; refine Y10 ?_
 refine r_c rfl (qg rfl (tj hT (kw ho hb h2 h5 h6 h7) h0) ?_)
 clear h0
 rintro _ w ⟨rfl, h⟩
 refine Y6 ?_
 exact qv (qk (bq1 ⟨rfl, h⟩))
def Run.out (r : Run) : Res := if r.over then r.res else ⟨0, 0, []⟩
theorem yu (hn : r.res.list.length <= 1073741824) (h : St w0 (IsRun t r :: l) w) :
  Ret prog 19 [.pz t] w fun v w' => ∃ a c, v = .tuple [.agg (r.out.C a c).toArray, .bool r.over].toArray ∧ St w0 (OwnS a c r.out.list :: IsRun t r :: l) w' := by
 refine en func19 results19 ntmps19 ?_
 refine Y1 ?_
 refine r_c rfl (qp h fun b w h => ?_)
 refine Ya ?_; refine Y2v ?_
 obtain ⟨q, h⟩ := (St.run (r := r)).1 (h.f 1)
 refine Y1t ?_
 refine r_v (qq (v := .bool r.over) rfl (h.b 0 rfl) rfl) rfl ?_
 cases ho : r.over with
 | false =>
  have e1 : r.out = ⟨0, 0, []⟩ := by unfold Run.out; rw [ho]; rfl
  rw [e1]
  refine Yx ?_; refine Y27 ?_
  refine r_v (qc (r := (⟨0, 0, []⟩ : Res).C none 0) rfl) rfl ?_
  refine r_c rfl (qy (vs := (⟨0, 0, []⟩ : Res).C none 0) 10 h rfl rfl rfl rfl rfl rfl rfl fun w h => ?_)
  refine Y7 ?_
  have h1 : St w0 (IsRun t r :: l) w := (St.run (r := r)).2 ⟨q, h.x [10]⟩
  exact qv (qk (bqS2 (l := (⟨0, 0, []⟩ : Res).C none 0) rfl rfl (qw (h.b 10 rfl) rfl) ⟨none, 0, rfl, h1.ownNil 57 2⟩))
 | true =>
  have e1 : r.out = r.res := by unfold Run.out; rw [ho]; rfl
  rw [e1]
  refine Y41 ?_; refine Y5 ?_
  refine r_v (qx (l := r.res.C q.ra q.rc) rfl rfl (qw (h.b 0 rfl) rfl)) rfl ?_
  refine r_c rfl (qp h fun b4 w h => ?_)
  refine r_c rfl (qy (vs := r.res.C q.ra q.rc) 0 h rfl rfl rfl rfl rfl rfl rfl fun w h => ?_)
  replace h : St w0 (pt b4 (.cells (r.res.C q.ra q.rc).toArray 28 (0, 0)) :: RunPt t r q :: OneH q.one r.one :: OwnS q.s.a4 q.s.c4 r.slot.opn :: OwnPr q.s.a5 q.s.c5 r.slot.chunks :: OwnS q.n.a4 q.n.c4 r.next.opn :: OwnPr q.n.a5 q.n.c5 r.next.chunks :: OwnPr q.pa q.pc r.x.parts :: OwnS q.ta q.tc r.x.tail :: OwnS q.ga q.gc r.got :: OwnS q.ra q.rc r.res.list :: pt b _ :: l) w := h
  refine Y3n ?_
  refine r_v (qq (v := .slice q.ra r.res.list.length q.rc) rfl (h.b 0 rfl) rfl) rfl ?_
  refine r_c rfl (qg rfl (uq (xs := smpsV r.res.list) h (fun w' h' => (h'.f 10).own_rd) (jt _) O0) ?_)
  clear h
  rintro _ w ⟨a, c, rfl, _, h⟩
  refine Yk ?_
  refine r_c rfl (qb 1 h rfl (show _ = Value.slice a r.res.list.length c from rfl) rfl rfl rfl rfl fun w h => ?_)
  replace h : St w0 (OwnS a c r.res.list :: pt b4 (.cells (r.res.C a c).toArray 28 (0, 0)) :: RunPt t r q :: OneH q.one r.one :: OwnS q.s.a4 q.s.c4 r.slot.opn :: OwnPr q.s.a5 q.s.c5 r.slot.chunks :: OwnS q.n.a4 q.n.c4 r.next.opn :: OwnPr q.n.a5 q.n.c5 r.next.chunks :: OwnPr q.pa q.pc r.x.parts :: OwnS q.ta q.tc r.x.tail :: OwnS q.ga q.gc r.got :: OwnS q.ra q.rc r.res.list :: pt b _ :: l) w := h
  refine Yn ?_
  refine r_v (qx (l := r.res.C a c) rfl rfl (qw (h.b 1 rfl) rfl)) rfl ?_
  refine r_c rfl (qy (vs := r.res.C a c) 12 h rfl rfl rfl rfl rfl rfl rfl fun w h => ?_)
  refine Y7 ?_
  have h1 : St w0 (IsRun t r :: OwnS a c r.res.list :: l) w := (St.run (r := r)).2 ⟨q, (h.x [1, 12]).o [1, 2, 3, 4, 5, 6, 7, 8, 9, 10]⟩
  exact qv (qk (bqS2 (l := r.res.C a c) rfl rfl (qw (h.b 12 rfl) rfl) ⟨a, c, rfl, h1.f 1⟩))
end
end
section
structure Sto.Ok (S : Sto) : Prop where
 b1 : S.budget <= 1073741824
 y0 : 0 <= S.bytes
 c0 : 0 <= S.charged
 sum : S.bytes + S.charged <= S.budget
 l0 : 0 <= S.last
 l1 : S.last < 4611686018427387904
abbrev Sto.room (S : Sto) : Int := S.budget - S.bytes - S.charged
section
variable {w0 w : World} {l : List HProp} {p m : Nat} {S : Sto}
theorem Sto.Ok.used (o : S.Ok) : IntKind.i64.wrap (S.bytes + S.charged) = S.bytes + S.charged := by
 obtain ⟨h1, h2, h3, h4, h5, h6⟩ := o
 exact jp O0 O0
theorem Sto.Ok.free (o : S.Ok) : IntKind.i64.wrap (S.budget - IntKind.i64.wrap (S.bytes + S.charged)) = S.room := by
 rw [o.used]
 obtain ⟨h1, h2, h3, h4, h5, h6⟩ := o
 rw [jp O0 O0]
 show S.budget - (S.bytes + S.charged) = S.budget - S.bytes - S.charged
 omega
theorem Sto.Ok.next (o : S.Ok) : IntKind.i64.wrap (S.last + 1) = S.last + 1 := by
 obtain ⟨h1, h2, h3, h4, h5, h6⟩ := o
 exact jp O0 O0
theorem Sto.charge_ok (o : S.Ok) {n : Int} (hn : -4611686018427387904 <= n) (hm : n <= S.room) : S.charge n = { S with charged := S.charged + max n (-S.charged) } := by
 obtain ⟨h1, h2, h3, h4, h5, h6⟩ := o
 have e0 : IntKind.i64.wrap (0 - S.charged) = -S.charged := by rw [jp O0 O0]; omega
 have hmax : (if n < -S.charged then -S.charged else n) = max n (-S.charged) := by rw [Int.max_def]; split <;> split <;> omega
 unfold Sto.charge
 simp only [e0, hmax]
 rw [jp O0 (by unfold Sto.room at hm; omega)]
theorem wv (o : S.Ok) (h : St w0 (IsStore p S :: l) w) : Ret prog 18 [.pz p] w fun v w' => v = .iz (S.bytes + S.charged) ∧ St w0 (IsStore p S :: l) w' := by
 have := fo h
 rw [o.used] at this
 exact this
end
end
end Go.Proofs.YtngdfdangkdgcaaGreatDoor
namespace Go.Hw
section
section
variable {α κ β : Type} [DecidableEq κ]
def sumF (f : α -> Nat) : List α -> Nat
 | [] => 0
 | x :: l => f x + sumF f l
theorem sumF_set (f : α -> Nat) {x y : α} : ∀ {l : List α} {i : Nat}, l[i]? = some x -> sumF f (l.set i y) + f x = sumF f l + f y
 | [], i, h => by simp at h
 | z :: l, 0, h => by
  simp at h
  subst h
  simp only [Vf, sumF]; omega
 | z :: l, i + 1, h => by
  have := sumF_set f (y := y) (l := l) (i := i) O15
  simp only [Vm, sumF]; omega
theorem sumF_le (f : α -> Nat) {l : List α} {x : α} (h : x ∈ l) : f x <= sumF f l := by
 induction l with
 | nil => cases h
 | cons y l ih =>
  rcases Uo.1 h with rfl | h
  ·simp only [sumF]; omega
  ·have := ih h
   simp only [sumF]; omega
def sumM (f : β -> Nat) (m : List (κ × β)) : Nat := sumF (fun p => f p.2) m
theorem sumM_new (f : β -> Nat) {k : κ} {v : β} {m : List (κ × β)} (h : mget k m = none) : sumM f (mset k v m) = sumM f m + f v := by
 unfold sumM
 induction m with
 | nil => simp [mset, sumF]
 | cons p m ih =>
  obtain ⟨j, u⟩ := p
  rw [mget] at h
  split at h
  ·cases h
  ·rename_i hj
   rw [mset, if_neg hj]
   simp only [sumF]
   have := ih h
   omega
theorem sumM_set (f : β -> Nat) {k : κ} {v x : β} {m : List (κ × β)} (h : mget k m = some x) : sumM f (mset k v m) + f x = sumM f m + f v := by
 unfold sumM
 induction m with
 | nil => cases h
 | cons p m ih =>
  obtain ⟨j, u⟩ := p
  rw [mget] at h
  split at h
  ·rename_i hj
   cases h
   rw [mset, if_pos hj]
   simp only [sumF]; omega
  ·rename_i hj
   rw [mset, if_neg hj]
   simp only [sumF]
   have := ih h
   omega
theorem sumM_del (f : β -> Nat) {k : κ} {x : β} {m : List (κ × β)} (h : mget k m = some x) : sumM f (mdel k m) + f x = sumM f m := by
 unfold sumM
 induction m with
 | nil => cases h
 | cons p m ih =>
  obtain ⟨j, u⟩ := p
  rw [mget] at h
  split at h
  ·rename_i hj
   cases h
   rw [mdel, if_pos hj]
   simp only [sumF]; omega
  ·rename_i hj
   rw [mdel, if_neg hj]
   simp only [sumF]
   have := ih h
   omega
theorem i3 (f : β -> Nat) {k : κ} {x : β} {m : List (κ × β)} (h : mget k m = some x) : f x <= sumM f m := by
 have := sumM_del f h
 omega
theorem uk {k : κ} {x : β} {m : List (κ × β)} (h : mget k m = some x) : k ∈ keys m := by
 refine Wg fun hk => ?_
 rw [mget_none.2 hk] at h
 cases h
end
def rc (id : Int) (ps : List Prt) : Nat := (ps.map (·.blob)).count id
theorem uy (id : Int) : rc id [] = 0 := rfl
theorem yi (id : Int) (p : Prt) (ps : List Prt) : rc id (p :: ps) = rc id ps + if p.blob = id then 1 else 0 := by
 unfold rc
 rw [Ux, List.count_cons]
 congr 1
 by_cases h : p.blob = id
 ·simp [h]
 ·simp [h]
theorem mp (id : Int) (ps qs : List Prt) : rc id (ps ++ qs) = rc id ps + rc id qs := by
 unfold rc
 rw [Wd, List.count_append]
theorem tx {p : Prt} {ps : List Prt} (h : p ∈ ps) : 0 < rc p.blob ps := by
 unfold rc
 rw [List.count_pos_iff]
 exact Vb.2 ⟨p, h, rfl⟩
theorem mc (id : Int) (ps : List Prt) : rc id ps <= ps.length := by
 unfold rc
 have := List.count_le_length (a := id) (l := ps.map (·.blob))
 rwa [Ve] at this
end
end Go.Hw
namespace Go.Proofs.YtngdfdangkdgcaaGreatDoor
open Go.Hw _root_.Go.Proofs.Tryz
section
structure Blb where
 tag : Int
 L : List Smp
structure Blb.Ok (b : Blb) (bs : List UInt8) : Prop where
 make : chMake b.tag b.L = some bs
 ne : b.L ≠ []
 wf : ∀ x ∈ b.L, x.Wf
 rise : rises b.L = true
 len : b.L.length <= 65535
 t1 : 1 <= b.tag
 t6 : b.tag <= 6
theorem Blb.Ok.few {b : Blb} {bs : List UInt8} (h : b.Ok bs) : bs.length <= 4000000 := chMake_len2 h.wf h.make
theorem Blb.Ok.opens {b : Blb} {bs : List UInt8} (h : b.Ok bs) : chOpen bs = some (b.L, b.tag.toNat) := chOpen_told h.wf (by have := h.few; omega) h.make
abbrev M40 : Nat := 1099511627776
structure StoInv (S : Sto) (cnt : Int -> Nat) (ch : Nat) (G : Int -> Blb) : Prop where
 nd : (keys S.l).Nodup
 rng : ∀ id, id ∈ keys S.l -> 1 <= id ∧ id <= S.last
 has : ∀ id e, mget id S.l = some e -> e.holds = (cnt id : Int) ∧ (G id).Ok e.bs
 pos : ∀ id, 0 < cnt id ↔ (mget id S.l).isSome = true
 big : ∀ id, cnt id <= M40
 sum : S.bytes = (sumM (fun e : Kept => e.bs.length) S.l : Nat)
 chg : S.charged = 16 * (ch : Int)
 ok : S.Ok
variable {S : Sto} {cnt cnt' : Int -> Nat} {ch : Nat} {G : Int -> Blb}
theorem StoInv.alive (h : StoInv S cnt ch G) {id : Int} (hp : 0 < cnt id) : ∃ e, mget id S.l = some e ∧ (G id).Ok e.bs ∧ 1 <= id ∧ id <= S.last := by
 obtain ⟨e, he⟩ := Vp.1 ((h.pos id).1 hp)
 exact ⟨e, he, (h.has id e he).2, h.rng id (uk he)⟩
theorem StoInv.eqv (h : StoInv S cnt ch G) (hc : ∀ id, cnt' id = cnt id) : StoInv S cnt' ch G := by
 have : cnt' = cnt := funext hc
 rw [this]; exact h
theorem StoInv.hold1 (h : StoInv S cnt ch G) {id : Int} {e : Kept} (he : mget id S.l = some e) (hc : ∀ j, cnt' j = cnt j + if id = j then 1 else 0) (hb : ∀ j, cnt' j <= M40) : StoInv (S.put id ⟨e.bs, IntKind.i64.wrap (e.holds + 1)⟩) cnt' ch G := by
 obtain ⟨h1, h2⟩ := h.has id e he
 have hk : id ∈ keys S.l := uk he
 have hbig := hb id
 rw [hc, if_pos rfl] at hbig
 have hw : IntKind.i64.wrap (e.holds + 1) = ((cnt id + 1 : Nat) : Int) := by rw [h1, jp O0 (by unfold M40 at hbig; omega)]; omega
 refine ⟨gn h.nd, fun j hj => ?_, fun j x hx => ?_, fun j => ?_, hb, ?_, h.chg, ⟨h.ok.b1, h.ok.y0, h.ok.c0, h.ok.sum, h.ok.l0, h.ok.l1⟩⟩
 ·have hj' : j ∈ keys (mset id (⟨e.bs, IntKind.i64.wrap (e.holds + 1)⟩ : Kept) S.l) := hj
  rw [vj, if_pos hk] at hj'
  exact h.rng j hj'
 ·have hx' : mget j (mset id (⟨e.bs, IntKind.i64.wrap (e.holds + 1)⟩ : Kept) S.l) = some x := hx
  rw [jq] at hx'
  split at hx'
  ·rename_i hj
   subst hj
   obtain rfl := Uk hx'
   rw [hc, if_pos rfl]
   exact ⟨hw, h2⟩
  ·rename_i hj
   rw [hc, if_neg (fun e => hj e.symm)]
   exact h.has j x hx'
 ·show _ ↔ (mget j (mset id (⟨e.bs, IntKind.i64.wrap (e.holds + 1)⟩ : Kept) S.l)).isSome = true
  rw [jq]
  by_cases hj : j = id
  ·subst hj
   rw [hc, if_pos rfl, if_pos rfl]
   exact ⟨fun _ => rfl, fun _ => by omega⟩
  ·rw [hc, if_neg (fun e => hj e.symm), if_neg hj]
   exact h.pos j
 ·have := sumM_set (fun e : Kept => e.bs.length) (v := ⟨e.bs, IntKind.i64.wrap (e.holds + 1)⟩) he
  show S.bytes = (sumM (fun e : Kept => e.bs.length) (mset id ⟨e.bs, IntKind.i64.wrap (e.holds + 1)⟩ S.l) : Nat)
  rw [h.sum]
  have h3 : sumM (fun e : Kept => e.bs.length) (mset id ⟨e.bs, IntKind.i64.wrap (e.holds + 1)⟩ S.l) = sumM (fun e : Kept => e.bs.length) S.l := by (try dsimp only at this); omega
  rw [h3]
theorem StoInv.hold : ∀ {ps : List Prt} {S : Sto} {cnt : Int -> Nat} (dn : List Prt), StoInv S cnt ch G -> (∀ p ∈ ps, 0 < cnt p.blob) -> (∀ j, cnt' j = cnt j + rc j ps) -> (∀ j, cnt' j <= M40) ->
  (S.hold dn ps).1 = true ∧ StoInv (S.hold dn ps).2 cnt' ch G ∧ (S.hold dn ps).2.last = S.last ∧ (S.hold dn ps).2.budget = S.budget ∧ (S.hold dn ps).2.bytes = S.bytes
 | [], S, cnt, dn, h, _, hc, _ => ⟨rfl, h.eqv fun j => by rw [hc, uy]; rfl, rfl, rfl, rfl⟩
 | p :: ps, S, cnt, dn, h, hp, hc, hb => by
  obtain ⟨e, he, _⟩ := h.alive (hp p (Ub ..))
  have h1 := h.hold1 (cnt' := fun j => cnt j + if p.blob = j then 1 else 0) he (fun j => rfl) (fun j => by have := hb j; rw [hc, yi] at this; (try dsimp only); omega)
  have h2 := StoInv.hold (ps := ps) (dn ++ [p]) h1 (fun q hq => by have := hp q (Ue _ hq); (try dsimp only); omega) (fun j => by rw [hc, yi]; (try dsimp only); omega) hb
  rw [Sto.hold, he]
  exact h2
theorem StoInv.left1 (h : StoInv S cnt ch G) {id : Int} {e : Kept} (he : mget id S.l = some e) (hc : ∀ j, cnt j = cnt' j + if id = j then 1 else 0) : StoInv (S.left id e) cnt' ch G ∧ (S.left id e).last = S.last ∧ (S.left id e).budget = S.budget := by
 obtain ⟨h1, h2⟩ := h.has id e he
 have hk : id ∈ keys S.l := uk he
 have hcid := hc id
 rw [if_pos rfl] at hcid
 have hbig := h.big id
 have hw : IntKind.i64.wrap (e.holds - 1) = (cnt' id : Int) := by rw [h1, jp O0 (by unfold M40 at hbig; omega)]; omega
 have hb : ∀ j, cnt' j <= M40 := fun j => by have := hc j; have := h.big j; omega
 have hle := i3 (fun e : Kept => e.bs.length) he
 have hsum := h.sum
 unfold Sto.left
 rw [hw]
 by_cases h0 : (cnt' id : Int) = 0
 ·rw [if_pos h0]
  have hwb : IntKind.i64.wrap (S.bytes - e.bs.length) = S.bytes - e.bs.length := by
   obtain ⟨k1, k2, k3, k4, _, _⟩ := h.ok
   (try dsimp only at hle)
   exact jp O0 O0
  rw [hwb]
  refine ⟨⟨ky h.nd, fun j hj => h.rng j ?_, fun j x hx => ?_, fun j => ?_, hb, ?_, h.chg, ?_⟩, rfl, rfl⟩
  ·have hj' : j ∈ keys (mdel id S.l) := hj
   rw [yw] at hj'
   exact Ww hj'
  ·have hx' : mget j (mdel id S.l) = some x := hx
   rw [j3 _ _ _ h.nd] at hx'
   split at hx'
   ·cases hx'
   ·rename_i hj
    have := h.has j x hx'
    rw [hc j, if_neg (fun e => hj e.symm)] at this
    exact this
  ·show _ ↔ (mget j (mdel id S.l)).isSome = true
   rw [j3 _ _ _ h.nd]
   by_cases hj : j = id
   ·subst hj
    rw [if_pos rfl]
    exact ⟨fun _ => by omega, fun hh => by cases hh⟩
   ·rw [if_neg hj, <- h.pos j, hc j, if_neg (fun e => hj e.symm)]; rfl
  ·show S.bytes - e.bs.length = _
   have := sumM_del (fun e : Kept => e.bs.length) he
   rw [hsum]
   (try dsimp only at this ⊢)
   omega
  ·obtain ⟨k1, k2, k3, k4, k5, k6⟩ := h.ok
   (try dsimp only at hle)
   exact ⟨k1, O_t, k3, O_t, k5, k6⟩
 ·rw [if_neg h0]
  refine ⟨⟨gn h.nd, fun j hj => ?_, fun j x hx => ?_, fun j => ?_, hb, ?_, h.chg, ⟨h.ok.b1, h.ok.y0, h.ok.c0, h.ok.sum, h.ok.l0, h.ok.l1⟩⟩, rfl, rfl⟩
  ·have hj' : j ∈ keys (mset id (⟨e.bs, (cnt' id : Int)⟩ : Kept) S.l) := hj
   rw [vj, if_pos hk] at hj'
   exact h.rng j hj'
  ·have hx' : mget j (mset id (⟨e.bs, (cnt' id : Int)⟩ : Kept) S.l) = some x := hx
   rw [jq] at hx'
   split at hx'
   ·rename_i hj
    subst hj
    obtain rfl := Uk hx'
    exact ⟨rfl, h2⟩
   ·rename_i hj
    have := h.has j x hx'
    rw [hc j, if_neg (fun e => hj e.symm)] at this
    exact this
  ·show _ ↔ (mget j (mset id (⟨e.bs, (cnt' id : Int)⟩ : Kept) S.l)).isSome = true
   rw [jq]
   by_cases hj : j = id
   ·subst hj
    rw [if_pos rfl]
    exact ⟨fun _ => rfl, fun _ => by omega⟩
   ·rw [if_neg hj, <- h.pos j, hc j, if_neg (fun e => hj e.symm)]; rfl
  ·have := sumM_set (fun e : Kept => e.bs.length) (v := ⟨e.bs, (cnt' id : Int)⟩) he
   show S.bytes = (sumM (fun e : Kept => e.bs.length) (mset id ⟨e.bs, (cnt' id : Int)⟩ S.l) : Nat)
   have h3 : sumM (fun e : Kept => e.bs.length) (mset id ⟨e.bs, (cnt' id : Int)⟩ S.l) = sumM (fun e : Kept => e.bs.length) S.l := by (try dsimp only at this); omega
   rw [h3, hsum]
theorem StoInv.leave : ∀ {ps : List Prt} {S : Sto} {cnt : Int -> Nat}, StoInv S cnt ch G -> (∀ j, cnt j = cnt' j + rc j ps) -> StoInv (S.leave ps) cnt' ch G ∧ (S.leave ps).last = S.last ∧ (S.leave ps).budget = S.budget
 | [], S, cnt, h, hc => ⟨h.eqv fun j => by rw [hc, uy]; rfl, rfl, rfl⟩
 | p :: ps, S, cnt, h, hc => by
  have hcp := hc p.blob
  rw [yi, if_pos rfl] at hcp
  obtain ⟨e, he, _⟩ := h.alive (id := p.blob) O0
  obtain ⟨h1, h2, h3⟩ := h.left1 (cnt' := fun j => cnt' j + rc j ps) he (fun j => by rw [hc, yi]; (try dsimp only); omega)
  obtain ⟨k1, k2, k3⟩ := StoInv.leave (ps := ps) h1 (fun j => rfl)
  rw [Sto.leave, he]
  exact ⟨k1, k2.trans h2, k3.trans h3⟩
theorem StoInv.add (h : StoInv S cnt ch G) {G' : Int -> Blb} {bs : List UInt8} (hl : S.last < M40) (hok : (G' (S.last + 1)).Ok bs) (hG : ∀ id, id <= S.last -> G' id = G id) (hc : ∀ j, cnt' j = cnt j + if S.last + 1 = j then 1 else 0) :
  (S.add bs = none ∧ S.room < bs.length) ∨ ∃ S', S.add bs = some (S', S.last + 1) ∧ StoInv S' cnt' ch G' ∧ S'.last = S.last + 1 ∧ S'.budget = S.budget ∧ (bs.length : Int) <= S.room := by
 have hfew := hok.few
 have hfr := h.ok.free
 have hnx := h.ok.next
 have hnk : S.last + 1 ∉ keys S.l := fun hk => by have := (h.rng _ hk).2; omega
 have hmn : mget (S.last + 1) S.l = none := mget_none.2 hnk
 have hc0 : cnt (S.last + 1) = 0 := by
  have := h.pos (S.last + 1)
  rw [hmn] at this
  have : ¬ 0 < cnt (S.last + 1) := fun hp => by have := this.1 hp; cases this
  omega
 unfold Sto.add wI
 rw [hfr, hnx]
 by_cases hr : S.room < bs.length
 ·exact .inl ⟨if_pos hr, hr⟩
 ·rw [if_neg hr]
  have hroom : (bs.length : Int) <= S.budget - S.bytes - S.charged := by have : S.room = S.budget - S.bytes - S.charged := rfl; omega
  obtain ⟨k1, k2, k3, k4, k5, k6⟩ := h.ok
  have hwb : IntKind.i64.wrap (S.bytes + bs.length) = S.bytes + bs.length := jp O0 O0
  rw [hwb]
  refine .inr ⟨_, rfl, ⟨gn h.nd, fun j hj => ?_, fun j x hx => ?_, fun j => ?_, fun j => ?_, ?_, h.chg, ?_⟩, rfl, rfl, O_o⟩
  ·have hj' : j ∈ keys (mset (S.last + 1) (⟨bs, 1⟩ : Kept) S.l) := hj
   rw [vj, if_neg hnk, Ws] at hj'
   rcases hj' with hj' | hj'
   ·have := h.rng j hj'
    exact ⟨this.1, by show j <= S.last + 1; omega⟩
   ·rw [Vc] at hj'
    subst hj'
    exact ⟨O_o, Uu _⟩
  ·have hx' : mget j (mset (S.last + 1) (⟨bs, 1⟩ : Kept) S.l) = some x := hx
   rw [jq] at hx'
   split at hx'
   ·rename_i hj
    subst hj
    obtain rfl := Uk hx'
    rw [hc, if_pos rfl, hc0]
    exact ⟨rfl, hok⟩
   ·rename_i hj
    rw [hc, if_neg (fun e => hj e.symm), hG j (h.rng j (uk hx')).2]
    exact h.has j x hx'
  ·show _ ↔ (mget j (mset (S.last + 1) (⟨bs, 1⟩ : Kept) S.l)).isSome = true
   rw [jq]
   by_cases hj : j = S.last + 1
   ·subst hj
    rw [if_pos rfl, hc, if_pos rfl]
    exact ⟨fun _ => rfl, fun _ => by omega⟩
   ·rw [if_neg hj, hc, if_neg (fun e => hj e.symm)]
    exact h.pos j
  ·rw [hc]
   have := h.big j
   split
   ·rename_i hj; rw [<- hj, hc0]; unfold M40; omega
   ·exact this
  ·show S.bytes + bs.length = (sumM (fun e : Kept => e.bs.length) (mset (S.last + 1) ⟨bs, 1⟩ S.l) : Nat)
   rw [sumM_new _ hmn, h.sum]; rfl
  ·exact ⟨k1, O_t, k3, O_t, O_t, by dsimp only; unfold M40 at hl; omega⟩
theorem StoInv.charge (h : StoInv S cnt ch G) (k : Nat) (hk : k <= 1000000) :
  (S.chg (16 * (k : Int)) = (false, S) ∧ S.room < 16 * (k : Int)) ∨ ∃ S', S.chg (16 * (k : Int)) = (true, S') ∧ S' = { S with charged := S.charged + 16 * (k : Int) } ∧ StoInv S' cnt (ch + k) G ∧ 16 * (k : Int) <= S.room := by
 have hfr := h.ok.free
 have hch := h.chg
 obtain ⟨k1, k2, k3, k4, k5, k6⟩ := h.ok
 have hroom : S.room = S.budget - S.bytes - S.charged := rfl
 unfold Sto.chg wI
 rw [hfr]
 by_cases hc : 16 * (k : Int) > 0 ∧ 16 * (k : Int) > S.room
 ·exact .inl ⟨if_pos hc, hc.2⟩
 ·rw [if_neg hc]
  have hr : 16 * (k : Int) <= S.room := by
   refine Wg fun hn => hc ⟨?_, ?_⟩ <;> omega
  have hm : max (16 * (k : Int)) (-S.charged) = 16 * (k : Int) := by omega
  have e := Sto.charge_ok h.ok (n := 16 * (k : Int)) O0 hr
  rw [hm] at e
  refine .inr ⟨_, by rw [e], rfl, ⟨h.nd, h.rng, h.has, h.pos, h.big, h.sum, O_t, ⟨k1, k2, O_t, O_t, k5, k6⟩⟩, hr⟩
theorem StoInv.free (h : StoInv S cnt ch G) (k : Nat) (hk : k <= ch) (h6 : k <= 1000000) : S.chg (-(16 * (k : Int))) = (true, { S with charged := S.charged - 16 * (k : Int) }) ∧ StoInv { S with charged := S.charged - 16 * (k : Int) } cnt (ch - k) G := by
 have hfr := h.ok.free
 have hch := h.chg
 obtain ⟨k1, k2, k3, k4, k5, k6⟩ := h.ok
 have hroom : S.room = S.budget - S.bytes - S.charged := rfl
 unfold Sto.chg wI
 rw [hfr, if_neg O0]
 have hm : max (-(16 * (k : Int))) (-S.charged) = -(16 * (k : Int)) := by omega
 have e := Sto.charge_ok h.ok (n := -(16 * (k : Int))) O0 O0
 rw [hm] at e
 refine ⟨by rw [e]; rfl, ⟨h.nd, h.rng, h.has, h.pos, h.big, h.sum, O_t, ⟨k1, k2, O_t, O_t, k5, k6⟩⟩⟩
end
section
abbrev RiseP (L : List Smp) : Prop := L.Pairwise fun x y => x.T < y.T
theorem risesA_P : ∀ (l : List Smp) (t : Int), risesA t l = true ↔ (∀ s ∈ l, t < s.T) ∧ RiseP l
 | [], t => by simp [risesA]
 | s :: r, t => by
  have ih := risesA_P r s.T
  rw [risesA, Ur, decide_eq_true_eq, ih, show RiseP (s :: r) ↔ _ from List.pairwise_cons]
  constructor
  ·rintro ⟨h1, h2, h3⟩
   refine ⟨fun x hx => ?_, h2, h3⟩
   rcases Uo.1 hx with rfl | hx
   ·exact h1
   ·exact Int.lt_trans h1 (h2 x hx)
  ·rintro ⟨h1, h2, h3⟩
   exact ⟨h1 s (Ub ..), h2, h3⟩
theorem qgm : ∀ l : List Smp, rises l = true ↔ RiseP l
 | [] => by simp [rises]
 | s :: r => by rw [rises, risesA_P, show RiseP (s :: r) ↔ _ from List.pairwise_cons]
theorem lastT_snoc (L : List Smp) (x : Smp) : lastT (L ++ [x]) = x.T := by unfold lastT; simp
theorem xn {L : List Smp} (h : RiseP L) : ∀ s ∈ L, firstT L <= s.T ∧ s.T <= lastT L := by
 intro s hs
 constructor
 ·cases L with
  | nil => cases hs
  | cons x r =>
   show x.T <= s.T
   rcases Uo.1 hs with rfl | hs
   ·exact Uu _
   ·exact Int.le_of_lt ((List.pairwise_cons.1 h).1 s hs)
 ·have hne : L ≠ [] := fun e => by rw [e] at hs; cases hs
  have e := List.dropLast_concat_getLast hne
  rw [<- e] at hs h ⊢
  rw [lastT_snoc]
  rcases Ws.1 hs with hs | hs
  ·exact Int.le_of_lt ((List.pairwise_append.1 h).2.2 s hs _ (Vc.2 rfl))
  ·rw [Vc] at hs
   rw [hs]; exact Uu _
theorem au {L : List Smp} {x : Smp} (h : RiseP L) (hx : L = [] ∨ lastT L < x.T) : RiseP (L ++ [x]) := by
 refine List.pairwise_append.2 ⟨h, List.pairwise_singleton _ _, fun a ha b hb => ?_⟩
 rw [Vc] at hb
 rw [hb]
 rcases hx with rfl | hx
 ·cases ha
 ·exact Int.lt_of_le_of_lt (xn h a ha).2 hx
theorem d9 (L M : List Smp) (f t : Int) : within (L ++ M) f t = within L f t ++ within M f t := by unfold within; rw [Kl]
variable {G G' : Int -> Blb} {b b' : Int}
def rowsOf (G : Int -> Blb) (ps : List Prt) : List Smp := ps.flatMap fun p => (G p.blob).L
theorem rowsOf_cons (p : Prt) (ps : List Prt) : rowsOf G (p :: ps) = (G p.blob).L ++ rowsOf G ps := rfl
theorem rowsOf_append (ps qs : List Prt) : rowsOf G (ps ++ qs) = rowsOf G ps ++ rowsOf G qs := by unfold rowsOf; rw [Xm]
structure PrtOk (G : Int -> Blb) (b : Int) (p : Prt) : Prop where
 id1 : 1 <= p.blob
 idl : p.blob <= b
 ne : (G p.blob).L ≠ []
 wf : ∀ x ∈ (G p.blob).L, x.Wf
 rise : RiseP (G p.blob).L
 len : (G p.blob).L.length <= 8
 tag : p.tag = (G p.blob).tag
 count : p.count = ((G p.blob).L.length : Int)
 frm : p.frm = firstT (G p.blob).L
 upto : p.upto = lastT (G p.blob).L
theorem PrtOk.more {p : Prt} (h : PrtOk G b p) (hb : b <= b') (hG : ∀ id, id <= b -> G' id = G id) : PrtOk G' b' p := by
 have e := hG _ h.idl
 exact ⟨h.id1, Vy h.idl hb, by rw [e]; exact h.ne, by rw [e]; exact h.wf, by rw [e]; exact h.rise, by rw [e]; exact h.len, by rw [e]; exact h.tag, by rw [e]; exact h.count, by rw [e]; exact h.frm, by rw [e]; exact h.upto⟩
theorem rowsOf_same {ps : List Prt} (h : ∀ p ∈ ps, PrtOk G b p) (hG : ∀ id, id <= b -> G' id = G id) : rowsOf G' ps = rowsOf G ps := by
 induction ps with
 | nil => rfl
 | cons p ps ih =>
  rw [rowsOf_cons, rowsOf_cons, ih fun q hq => h q (Ue _ hq), hG _ (h p (Ub ..)).idl]
theorem fj {p : Prt} (h : PrtOk G b p) {f t : Int} (hn : ¬ max p.frm f <= min p.upto t) : within (G p.blob).L f t = [] := by
 refine List.filter_eq_nil_iff.2 fun s hs hc => hn ?_
 obtain ⟨h1, h2⟩ := xn h.rise s hs
 rw [<- h.frm] at h1
 rw [<- h.upto] at h2
 simp only [Ur, decide_eq_true_eq] at hc
 omega
theorem nb {ps : List Prt} (h : ∀ p ∈ ps, PrtOk G b p) (f t : Int) : within (rowsOf G ps) f t = (partsIn f t ps).flatMap fun p => within (G p.blob).L f t := by
 induction ps with
 | nil => rfl
 | cons p ps ih =>
  have ih := ih fun q hq => h q (Ue _ hq)
  rw [rowsOf_cons, d9, ih]
  unfold partsIn
  by_cases hc : max p.frm f <= min p.upto t
  ·rw [List.filter_cons_of_pos O20, Uh]
  ·rw [List.filter_cons_of_neg O20, fj (h p (Ub ..)) hc, Up]
def SlotV.all (G : Int -> Blb) (s : SlotV) : List Smp := rowsOf G s.chunks ++ s.opn
structure SlotOk (G : Int -> Blb) (b : Int) (s : SlotV) : Prop where
 no : s.there = false -> s.opn = [] ∧ s.chunks = []
 yes : s.there = true -> s.any = true ∧ s.all G ≠ [] ∧ s.last = lastT (s.all G)
 few : s.opn.length <= 7
 closed : s.closed = true -> s.opn = []
 wf : ∀ x ∈ s.opn, x.Wf
 prts : ∀ p ∈ s.chunks, PrtOk G b p
 rise : RiseP (s.all G)
variable {s : SlotV}
theorem SlotOk.more (h : SlotOk G b s) (hb : b <= b') (hG : ∀ id, id <= b -> G' id = G id) : SlotOk G' b' s ∧ s.all G' = s.all G := by
 have e : s.all G' = s.all G := by unfold SlotV.all; rw [rowsOf_same h.prts hG]
 exact ⟨⟨h.no, by rw [e]; exact h.yes, h.few, h.closed, h.wf, fun p hp => (h.prts p hp).more hb hG, by rw [e]; exact h.rise⟩, e⟩
theorem SlotOk.ver (h : SlotOk G b s) (v : Int) : SlotOk G b { s with ver := v } := ⟨h.no, h.yes, h.few, h.closed, h.wf, h.prts, h.rise⟩
def Snp.all (G : Int -> Blb) (x : Snp) : List Smp := (x.parts.flatMap fun p => within (G p.blob).L x.frm x.upto) ++ x.tail
theorem SlotOk.snap (h : SlotOk G b s) (f t : Int) : (s.snap f t).all G = within (s.all G) f t := by
 unfold SlotV.all
 rw [d9, nb h.prts]
 rfl
theorem SlotOk.snap_prts (h : SlotOk G b s) (f t : Int) : ∀ p ∈ (s.snap f t).parts, PrtOk G b p := fun p hp => h.prts p (Xo.1 hp).1
theorem Snp.same {x : Snp} (h : ∀ p ∈ x.parts, PrtOk G b p) (hG : ∀ id, id <= b -> G' id = G id) : x.all G' = x.all G := by
 unfold Snp.all
 congr 1
 generalize x.parts = ps at h
 induction ps with
 | nil => rfl
 | cons p ps ih => rw [Uh, Uh, ih fun q hq => h q (Ue _ hq), hG _ (h p (Ub ..)).idl]
def SlotV.more (s : SlotV) (x : Smp) : SlotV := { (if s.there then s else { SlotV.zero with there := true, life := s.life }) with any := true, last := x.T, opn := s.opn ++ [x] }
theorem SlotOk.all_more (h : SlotOk G b s) (x : Smp) : (s.more x).all G = s.all G ++ [x] := by
 unfold SlotV.more SlotV.all
 cases ht : s.there with
 | true => dsimp only; rw [if_pos rfl, Um]
 | false =>
  obtain ⟨h1, h2⟩ := h.no ht
  rw [h1, h2]; rfl
theorem SlotOk.opn_more (h : SlotOk G b s) (x : Smp) : (s.more x).opn = s.opn ++ [x] ∧ (s.more x).chunks = s.chunks ∧ (s.more x).there = true ∧ (s.more x).any = true ∧ (s.more x).last = x.T ∧ (s.more x).life = s.life := by
 unfold SlotV.more
 cases ht : s.there with
 | true => exact ⟨rfl, rfl, ht, rfl, rfl, rfl⟩
 | false =>
  obtain ⟨h1, h2⟩ := h.no ht
  refine ⟨rfl, ?_, rfl, rfl, rfl, rfl⟩
  rw [h2]; rfl
def SlotV.shut (s : SlotV) (p : Prt) : SlotV := { s with chunks := s.chunks ++ [p], opn := [] }
theorem SlotV.all_shut (s : SlotV) {p : Prt} (hp : (G p.blob).L = s.opn) : (s.shut p).all G = s.all G := by
 unfold SlotV.shut SlotV.all
 rw [rowsOf_append, rowsOf_cons, hp]
 show _ ++ (s.opn ++ []) ++ [] = _
 rw [Uw, Uw]
def partOf (id : Int) (L : List Smp) : Prt := ⟨id, 1, (L.length : Int), firstT L, lastT L⟩
theorem made {L : List Smp} (hne : L ≠ []) (hwf : ∀ x ∈ L, x.Wf) (hr : RiseP L) (hl : L.length <= 65535) : ∃ bs, chMake 1 L = some bs ∧ Blb.Ok ⟨1, L⟩ bs ∧ (headDec bs).map (·.1) = some ⟨1, L.length, firstT L, lastT L⟩ := by
 have hrs := (qgm L).2 hr
 have hris : rising L = true := by unfold rising; rw [hrs, decide_eq_true hl]; rfl
 have henc : ∃ x, suitEnc 1 L = some x := by
  unfold suitEnc
  rw [if_pos hris]
  unfold valuesEnc
  rw [if_pos rfl]
  exact ⟨_, rfl⟩
 obtain ⟨x, hx⟩ := henc
 have hm : chMake 1 L = some (chBody 1 L x ++ be4 (crc (chBody 1 L x))) := by unfold chMake; rw [hx]; dsimp only; rw [if_neg hne]
 refine ⟨_, hm, ⟨hm, hne, hwf, hrs, hl, Uu _, show (1 : Int) <= 6 by decide⟩, ?_⟩
 have := headDec_told (tag := 1) hwf hne hx (x ++ be4 (crc (chBody 1 L x)))
 have e : chBody 1 L x ++ be4 (crc (chBody 1 L x)) = UInt8.ofNat (1 : Int).toNat :: ((chNums L).flatMap vput ++ (x ++ be4 (crc (chBody 1 L x)))) := by
  show UInt8.ofNat (1 : Int).toNat :: ((chNums L).flatMap vput ++ x) ++ _ = _
  rw [We, Um]
 rw [e, this]; rfl
def CodOk (tag : Int) : Prop := ReadOk tag ∧ ValOk tag
theorem cod_1 : CodOk 1 := ⟨read_1, val_1⟩
theorem Blb.Ok.tagOk {b : Blb} {bs : List UInt8} (h : b.Ok bs) (hc : CodOk b.tag) : TagOk bs := by
 obtain ⟨x, hx, _, he⟩ := chMake_some h.make
 have h1 := h.t1
 have ht := headDec_told (tag := b.tag) h.wf h.ne hx (x ++ be4 (crc (chBody b.tag b.L x)))
 have e : bs = UInt8.ofNat b.tag.toNat :: ((chNums b.L).flatMap vput ++ (x ++ be4 (crc (chBody b.tag b.L x)))) := by
  rw [he]
  show UInt8.ofNat b.tag.toNat :: ((chNums b.L).flatMap vput ++ x) ++ _ = _
  rw [We, Um]
 intro y hy
 rw [e, ht] at hy
 obtain rfl := Uk hy
 have e2 : ((b.tag.toNat : Nat) : Int) = b.tag := by omega
 show ReadOk ((b.tag.toNat : Nat) : Int) ∧ ValOk ((b.tag.toNat : Nat) : Int)
 rw [e2]; exact hc
end
section
variable {C : Cac} {S : Sto} {ps : List Key3} {al : Int -> Bool} {G G' : Int -> Blb} {b b' : Int} {x : Tk}
structure CacInv (C : Cac) (ps : List Key3) (al : Int -> Bool) (G : Int -> Blb) (b : Int) : Prop where
 good : C.Good ps.length
 pin : ∀ k a, C.pins k = some a -> a = (ps.count k : Int)
 res : ∀ k, k ∈ ps -> (C.pins k).isSome = true
 row : ∀ k L, mget k C.rows = some L -> al k.series = false -> k.blob <= b ∧ L = (G k.blob).L
theorem CacInv.more (h : CacInv C ps al G b) (hb : b <= b') (hG : ∀ id, id <= b -> G' id = G id) : CacInv C ps al G' b' := by
 refine ⟨h.good, h.pin, h.res, fun k L hk ha => ?_⟩
 obtain ⟨h1, h2⟩ := h.row k L hk ha
 exact ⟨Vy h1 hb, by rw [hG _ h1]; exact h2⟩
theorem CacInv.get (h : CacInv C ps al G b) (k : Key3) : CacInv (C.get k).1 ps al G b ∧ (C.get k).1.clk.most = C.clk.most ∧ (C.get k).2 = mget k C.rows ∧ ∀ j, (C.get k).1.pins j = C.pins j := by
 obtain ⟨g1, g2, g3, g4, g5⟩ := Cac.get_good h.good k
 have gp := Cac.get_pins h.good k
 exact ⟨⟨g1, fun j a hj => h.pin j a (by rw [<- gp]; exact hj), fun j hj => by rw [gp]; exact h.res j hj, fun j L hj => h.row j L (by rw [<- g3]; exact hj)⟩, g5, g4, gp⟩
theorem CacInv.pin1 (h : CacInv C ps al G b) {k : Key3} (hk : (C.pins k).isSome = true) : CacInv (C.pinN k 1).1 (k :: ps) al G b ∧ (C.pinN k 1).1.clk.most = C.clk.most := by
 obtain ⟨a, ha⟩ := Vp.1 hk
 have hge := h.good.ge ha
 have hc := h.pin k a ha
 obtain ⟨p1, p2, p3, p4, p5⟩ := Cac.pin_some h.good 1 ha
 have e := Cac.pin_at h.good 1 ha
 have hbig := h.good.big k a ha
 refine ⟨⟨p5.mono (by rw [Ui]; omega), fun j c hj => ?_, fun j hj => ?_, fun j L hj => h.row j L (by rw [<- p2]; exact hj)⟩, p3⟩
 ·rw [e] at hj
  rw [List.count_cons]
  split at hj
  ·rename_i hjk
   subst hjk
   have := Uk hj
   rw [if_pos O8]; omega
  ·rename_i hjk
   rw [if_neg (by simpa using fun e => hjk e.symm)]
   exact h.pin j c hj
 ·rw [e]
  split
  ·rfl
  ·rename_i hjk
   rcases Uo.1 hj with hj | hj
   ·exact absurd hj hjk
   ·exact h.res j hj
theorem CacInv.unpin1 {k : Key3} (h : CacInv C (k :: ps) al G b) : CacInv (C.unpin k).1 ps al G b ∧ (C.unpin k).1.clk.most = C.clk.most := by
 obtain ⟨a, ha⟩ := Vp.1 (h.res k (Ub ..))
 have hc := h.pin k a ha
 rw [List.count_cons, if_pos O8] at hc
 rw [Cac.unpin_pos h.good ha O0]
 obtain ⟨p1, p2, p3, p4, p5⟩ := Cac.pin_some h.good (-1) ha
 have e := Cac.pin_at h.good (-1) ha
 have hpin : ∀ j c, (C.pinN k (-1)).1.pins j = some c -> c = (ps.count j : Int) := by
  intro j c hj
  rw [e] at hj
  split at hj
  ·rename_i hjk
   subst hjk
   have := Uk hj
   omega
  ·rename_i hjk
   have := h.pin j c hj
   rw [List.count_cons, if_neg (by simpa using fun e => hjk e.symm)] at this
   exact this
 refine ⟨⟨p5.tight fun j c hj => ?_, hpin, fun j hj => ?_, fun j L hj => h.row j L (by rw [<- p2]; exact hj)⟩, p3⟩
 ·have h1 := hpin j c hj
  have h2 := List.count_le_length (a := j) (l := ps)
  omega
 ·rw [e]
  split
  ·rfl
  ·exact h.res j (Ue _ hj)
theorem CacInv.put (h : CacInv C ps al G b) {k : Key3} {L : List Smp} (hL : L.length <= 1073741824) (hk : k.blob <= b) (hG : L = (G k.blob).L) :
  (C.put k L = (C, false) ∧ C.clk.most <= (C.clk.res.length : Int) ∧ (∀ j a, C.pins j = some a -> a ≠ 0) ∧ C.pins k = none) ∨
  ((C.put k L).2 = true ∧ CacInv (C.put k L).1 ps al G b ∧ (C.put k L).1.clk.most = C.clk.most ∧ ((C.put k L).1.pins k).isSome = true) := by
 cases hp : C.pins k with
 | some a =>
  obtain ⟨p1, p2, p3, p4, p5⟩ := Cac.put_same h.good hL hp
  have gp : ∀ j, (C.put k L).1.pins j = C.pins j := fun j => by unfold Cac.pins; rw [p2]
  refine .inr ⟨p1, ⟨p5, fun j c hj => h.pin j c (by rw [<- gp]; exact hj), fun j hj => by rw [gp]; exact h.res j hj, fun j M hj ha => ?_⟩, p4, by rw [gp, hp]; rfl⟩
  rw [p3, jq] at hj
  split at hj
  ·rename_i e
   subst e
   exact ⟨hk, by rw [<- Uk hj]; exact hG⟩
  ·exact h.row j M hj ha
 | none =>
  by_cases hc : C.clk.most <= (C.clk.res.length : Int) ∧ ∀ j a, C.pins j = some a -> a ≠ 0
  ·exact .inl ⟨Cac.put_full h.good hp hc.1 hc.2, hc.1, hc.2, rfl⟩
  ·obtain ⟨p1, p2⟩ := Cac.put_in h.good (Kj _) hL hp hc
   refine .inr ⟨p1, ⟨p2.good, fun j c hj => ?_, fun j hj => ?_, fun j M hj ha => ?_⟩, p2.most, by rw [p2.here]; rfl⟩
   ·by_cases e : j = k
    ·subst e
     rw [p2.here] at hj
     obtain rfl := Uk hj
     have : ps.count j = 0 := List.count_eq_zero.2 fun hm => by have := h.res j hm; rw [hp] at this; cases this
     rw [this]; rfl
    ·exact h.pin j c (p2.from_ e hj)
   ·obtain ⟨a, ha⟩ := Vp.1 (h.res j hj)
    have e : j ≠ k := fun e => by rw [e, hp] at ha; cases ha
    have h1 := h.pin j a ha
    have h2 := List.count_pos_iff.2 hj
    rw [p2.pinned e ha O0]; rfl
   ·by_cases e : j = k
    ·subst e
     rw [p2.row] at hj
     exact ⟨hk, by rw [<- Uk hj]; exact hG⟩
    ·have h1 := p2.good.same j
     rw [hj] at h1
     obtain ⟨a, h2⟩ := Vp.1 h1.symm
     rw [p2.rowOf h.good e h2] at hj
     exact h.row j M hj ha
def TkI (G : Int -> Blb) (x : Tk) (pn : List Key3) (k : Nat) : Prop :=
 (x.PhA ∧ pn = [] ∧ k = 2 + m4 (G x.key.blob).L.length + m4 (within (G x.key.blob).L x.fr x.to).length) ∨
 (∃ r c, x.PhB c r false ∧ ((G x.key.blob).Ok c ∧ r <= (G x.key.blob).L.length) ∧ pn = [] ∧ k = m4 r + 1 + m4 (within (G x.key.blob).L x.fr x.to).length) ∨
 (x.PhC (some (G x.key.blob).L) ∧ pn = [] ∧ k = 1 + m4 (within (G x.key.blob).L x.fr x.to).length) ∨
 (x.PhD (within (G x.key.blob).L x.fr x.to) ∧ pn = [x.key] ∧ k = m4 ((within (G x.key.blob).L x.fr x.to).length - x.i))
theorem TkI.same {pn : List Key3} {k : Nat} (h : TkI G x pn k) (hG : G' x.key.blob = G x.key.blob) : TkI G' x pn k := by
 unfold TkI
 rw [hG]; exact h
theorem TkI.notdone {pn : List Key3} {k : Nat} (h : TkI G x pn k) : x.done = false := by
 rcases h with ⟨a, _⟩ | ⟨r, c, a, _⟩ | ⟨a, _⟩ | ⟨a, _⟩
 ·exact a.done
 ·exact a.done
 ·exact a.done
 ·exact a.done
theorem TkI.pos {pn : List Key3} {k : Nat} (h : TkI G x pn k) : 1 <= k := by
 rcases h with ⟨_, _, a⟩ | ⟨r, c, _, _, _, a⟩ | ⟨_, _, a⟩ | ⟨_, _, a⟩
 ·omega
 ·omega
 ·omega
 ·have := Rn0.m4_pos ((within (G x.key.blob).L x.fr x.to).length - x.i); omega
theorem zw (L : List Smp) (f t : Int) : (within L f t).length <= L.length := Wx _ _
theorem TkI.sizes {pn : List Key3} {k : Nat} (h : TkI G x pn k) (hl : (G x.key.blob).L.length <= 8) : x.row.length <= 8 ∧ x.out.length <= 8 ∧ k <= 6 := by
 have hw := zw (G x.key.blob).L x.fr x.to
 have m8 : ∀ n, n <= 8 -> m4 n <= 2 := fun n hn => by unfold m4; omega
 have h1 := m8 _ hl
 have h2 := m8 _ (Uy hw hl)
 rcases h with ⟨a, _, c⟩ | ⟨r, c, a, ok, _, d⟩ | ⟨a, _, c⟩ | ⟨a, _, c⟩
 ·rw [a.row, a.out]; exact ⟨Ud _, Ud _, O_o⟩
 ·rw [a.row, a.out]
  have := m8 r (Uy ok.2 hl)
  exact ⟨Ud _, Ud _, O_o⟩
 ·rw [a.row, a.out]; exact ⟨Ud _, Ud _, O_o⟩
 ·rw [a.row, a.out, Us]
  have := m8 ((within (G x.key.blob).L x.fr x.to).length - x.i) O0
  exact ⟨O_o, O_o, O_o⟩
theorem TkI.dec {pn : List Key3} {k : Nat} (h : TkI G x pn k) : ∀ d, x.d = some d -> x.pin = false -> x.dec = false -> (G x.key.blob).Ok d.bs := by
 intro d h1 h2 h3
 rcases h with ⟨a, _⟩ | ⟨r, c, a, ok, _⟩ | ⟨a, _⟩ | ⟨a, _⟩
 ·rw [a.d] at h1; cases h1
 ·obtain ⟨d', e1, e2, _⟩ := a.d
  rw [h1] at e1
  obtain rfl := Uk e1
  rw [e2]; exact ok.1
 ·rw [a.dec] at h3; cases h3
 ·rw [a.pin] at h2; cases h2
theorem TkI.new (s f fr to : Int) (bl : Int) : TkI G (Tk.new s f bl fr to) [] (2 + m4 (G bl).L.length + m4 (within (G bl).L fr to).length) := .inl ⟨Tk.new_A _ _ _ _ _, rfl, rfl⟩
theorem TkI.step {pn : List Key3} {k : Nat} (h : TkI G x pn k) (hC : CacInv C (pn ++ ps) al G b) (hal : al x.key.series = false) (hb : x.key.blob <= b) (hs : ∃ e, mget x.key.blob S.l = some e ∧ (G x.key.blob).Ok e.bs) (hl : (G x.key.blob).L.length <= 8) :
  ((x.step S C).2.2 = 0 ∧ (x.step S C).1.key = x.key ∧ (x.step S C).1.fr = x.fr ∧ (x.step S C).1.to = x.to ∧ (x.step S C).2.1.clk.most = C.clk.most ∧
   ((∃ pn' k', TkI G (x.step S C).1 pn' k' ∧ k' < k ∧ CacInv (x.step S C).2.1 (pn' ++ ps) al G b) ∨ ((x.step S C).1.PhE (within (G x.key.blob).L x.fr x.to) ∧ CacInv (x.step S C).2.1 ps al G b))) ∨
  (x.step S C = (x, C, 6) ∧ C.clk.most <= (C.clk.res.length : Int) ∧ (∀ j a, C.pins j = some a -> a ≠ 0) ∧ pn = []) := by
 rcases h with ⟨a, hpn, hk⟩ | ⟨r, c, a, hok, hpn, hk⟩ | ⟨a, hpn, hk⟩ | ⟨a, hpn, hk⟩
 ·subst hpn
  have hC0 : CacInv C ps al G b := hC
  obtain ⟨g1, g2, g3, g4⟩ := hC0.get x.key
  cases hg : (C.get x.key).2 with
  | some M =>
   have hrow := hC0.row x.key M (by rw [<- g3]; exact hg) hal
   have hM := hrow.2
   rw [Tk.stepA_hit a hg]
   have hres : ((C.get x.key).1.pins x.key).isSome = true := by
    rw [g4, <- hC0.good.same, <- g3, hg]; rfl
   obtain ⟨p1, p2⟩ := g1.pin1 hres
   have hD := Tk.pinned_D (x := x) M a.done a.out
   rw [hM] at hD
   refine .inl ⟨rfl, rfl, rfl, rfl, by dsimp only; rw [p2, g2], .inl ⟨[x.key], m4 (within (G x.key.blob).L x.fr x.to).length, .inr (.inr (.inr ⟨?_, rfl, ?_⟩)), ?_, p1⟩⟩
   ·rw [hM]; exact hD
   ·rfl
   ·omega
  | none =>
   obtain ⟨e, he, hok⟩ := hs
   obtain ⟨e1, e2⟩ := Tk.stepA_miss (S := S) a hg he
   have ho := hok.opens
   have hdl : decL e.bs = (G x.key.blob).L := by unfold decL; rw [ho]; rfl
   rw [hdl, ho] at e2
   rw [e1]
   refine .inl ⟨rfl, rfl, rfl, rfl, rfl, .inl ⟨[], m4 (G x.key.blob).L.length + 1 + m4 (within (G x.key.blob).L x.fr x.to).length, .inr (.inl ⟨_, e.bs, e2, ⟨hok, Ug _⟩, rfl, rfl⟩), O_o, hC0⟩⟩
 ·subst hpn
  obtain ⟨x', e1, e2, e3, e4, e5, e6⟩ := Tk.stepB (S := S) (C := C) a
  rw [e1]
  have hdl : decL c = (G x.key.blob).L := by unfold decL; rw [hok.1.opens]; rfl
  refine .inl ⟨rfl, e2, e3, e4, rfl, .inl ?_⟩
  by_cases hr : 4 < r
  ·have := m4_gt r hr
   refine ⟨[], m4 (r - 4) + 1 + m4 (within (G x.key.blob).L x.fr x.to).length, .inr (.inl ⟨r - 4, c, e5 hr, ?_⟩), O_o, hC⟩
   dsimp only
   rw [e2, e3, e4]
   exact ⟨⟨hok.1, by have := hok.2; omega⟩, rfl, rfl⟩
  ·have := m4_le r O0
   have h6 := e6 O0
   rw [hdl] at h6
   refine ⟨[], 1 + m4 (within (G x.key.blob).L x.fr x.to).length, .inr (.inr (.inl ?_)), O_o, hC⟩
   dsimp only
   rw [e2, e3, e4]
   exact ⟨h6, rfl, rfl⟩
 ·subst hpn
  have hC0 : CacInv C ps al G b := hC
  have e1 : x.step S C = if (C.put x.key (G x.key.blob).L).2 then (x.pinned (G x.key.blob).L, ((C.put x.key (G x.key.blob).L).1.pinN x.key 1).1, 0) else (x, (C.put x.key (G x.key.blob).L).1, 6) := Tk.stepC a
  rcases hC0.put (k := x.key) (L := (G x.key.blob).L) O0 hb rfl with ⟨p1, p2, p3, _⟩ | ⟨p1, p2, p3, p4⟩
  ·rw [p1] at e1
   exact .inr ⟨e1, p2, p3, rfl⟩
  ·rw [if_pos p1] at e1
   rw [e1]
   obtain ⟨q1, q2⟩ := p2.pin1 p4
   exact .inl ⟨rfl, rfl, rfl, rfl, by dsimp only; rw [q2, p3], .inl ⟨[x.key], m4 (within (G x.key.blob).L x.fr x.to).length, .inr (.inr (.inr ⟨Tk.pinned_D (x := x) _ a.done a.out, rfl, rfl⟩)), O_o, q1⟩⟩
 ·subst hpn
  obtain ⟨x', e1, e2, e3, _, e4, e5⟩ := Tk.stepD (S := S) (C := C) a
  by_cases hr : 4 < (within (G x.key.blob).L x.fr x.to).length - x.i
  ·obtain ⟨f1, f2, f3⟩ := e4 hr
   have := m4_gt _ hr
   rw [f3]
   refine .inl ⟨rfl, e1, e2, e3, rfl, .inl ⟨[x.key], m4 ((within (G x.key.blob).L x.fr x.to).length - x'.i), .inr (.inr (.inr ?_)), ?_, hC⟩⟩
   ·dsimp only
    rw [e1, e2, e3]
    exact ⟨f1, rfl, rfl⟩
   ·rw [f2, show (within (G x.key.blob).L x.fr x.to).length - (x.i + 4) = (within (G x.key.blob).L x.fr x.to).length - x.i - 4 by omega]; omega
  ·obtain ⟨f1, f3⟩ := e5 O0
   rw [f3]
   have hu := hC.unpin1 (k := x.key) (ps := ps)
   exact .inl ⟨rfl, e1, e2, e3, hu.2, .inr ⟨f1, hu.1⟩⟩
theorem TkI.leave {pn : List Key3} {k : Nat} (h : TkI G x pn k) (hC : CacInv C (pn ++ ps) al G b) : CacInv (x.leave C).2 ps al G b ∧ (x.leave C).2.clk.most = C.clk.most := by
 unfold Tk.leave
 rcases h with ⟨a, hpn, _⟩ | ⟨r, c, a, _, hpn, _⟩ | ⟨a, hpn, _⟩ | ⟨a, hpn, _⟩
 ·subst hpn; rw [a.pin]; exact ⟨hC, rfl⟩
 ·subst hpn; rw [a.pin]; exact ⟨hC, rfl⟩
 ·subst hpn; rw [a.pin]; exact ⟨hC, rfl⟩
 ·subst hpn; rw [a.pin]; exact hC.unpin1 (k := x.key) (ps := ps)
end
section
abbrev Flag := Int × Int × SlotV
variable {d : List Plc} {acc : List SlotV} {F : List Flag} {G G' : Int -> Blb} {b b' : Int} {n n' : Nat}
theorem um {α : Type} {l : List α} {i j : Nat} {x y : α} (h : (l.set i x)[j]? = some y) : (j = i ∧ y = x) ∨ (j ≠ i ∧ l[j]? = some y) := by
 rw [Zp] at h
 split at h
 ·rename_i e
  split at h
  ·exact .inl ⟨e.symm, (Uk h).symm⟩
  ·cases h
 ·rename_i e
  exact .inr ⟨fun e' => e e'.symm, h⟩
theorem uz {α : Type} {l : List α} {i : Nat} {x y : α} (h : l[i]? = some y) : (l.set i x)[i]? = some x := by
 rw [Zp, if_pos rfl, if_pos (Uf.1 h).1]
theorem gr {α : Type} {l : List α} {i j : Nat} {x : α} (h : j ≠ i) : (l.set i x)[j]? = l[j]? := by
 rw [Zp, if_neg fun e => h e.symm]
structure DirInv (d : List Plc) (acc : List SlotV) (F : List Flag) (G : Int -> Blb) (b : Int) (n : Nat) : Prop where
 len : d.length = 16
 alen : acc.length = 16
 ok : ∀ (i : Nat) (p : Plc), d[i]? = some p -> SlotOk G b p.s ∧ (p.s.chunks.length : Int) <= b ∧ 0 <= p.s.ver ∧ p.s.ver <= 2 * (n : Int) ∧ 0 <= p.s.life ∧ p.s.life <= n
 idle : ∀ (i : Nat) (p : Plc), d[i]? = some p -> p.taken = false -> p.s.ver.tmod 2 = 0 ∧ acc[i]? = some p.s
 busy : ∀ (i : Nat) (p : Plc), d[i]? = some p -> p.taken = true -> p.s.ver.tmod 2 = 1 ∧ ∃ f ∈ F, f.2.1 = (i : Int)
 nod : (F.map (·.2.1)).Nodup
 flg : ∀ f ∈ F, 0 <= f.2.1 ∧ f.2.1 < 16 ∧ ∃ p, d[f.2.1.toNat]? = some p ∧ p.taken = true ∧ p.who = f.1 ∧ acc[f.2.1.toNat]? = some f.2.2
 accs : ∀ x ∈ acc, (x.chunks.length : Int) <= b ∧ x.opn.length <= 8
theorem DirInv.mono (h : DirInv d acc F G b n) (hn : n <= n') : DirInv d acc F G b n' :=
 ⟨h.len, h.alen, fun i p hp => by obtain ⟨h1, h2, h3, h4, h5, h6⟩ := h.ok i p hp; exact ⟨h1, h2, h3, O_o, h5, O_o⟩, h.idle, h.busy, h.nod, h.flg, h.accs⟩
theorem DirInv.more (h : DirInv d acc F G b n) (hb : b <= b') (hG : ∀ id, id <= b -> G' id = G id) : DirInv d acc F G' b' n :=
 ⟨h.len, h.alen, fun i p hp => by obtain ⟨h1, h2, h3⟩ := h.ok i p hp; exact ⟨(h1.more hb hG).1, Vy h2 hb, h3⟩, h.idle, h.busy, h.nod, h.flg, fun x hx => ⟨Vy (h.accs x hx).1 hb, (h.accs x hx).2⟩⟩
theorem qjw {v : Int} (h0 : 0 <= v) (h : v.tmod 2 = 0) : (v + 1).tmod 2 = 1 := by
 rw [Zs O0] at h ⊢
 omega
theorem ay {v : Int} (h0 : 0 <= v) (h : v.tmod 2 = 1) : (v + 1).tmod 2 = 0 := by
 rw [Zs O0] at h ⊢
 omega
theorem DirInv.noflag (h : DirInv d acc F G b n) {i : Nat} {p : Plc} (hp : d[i]? = some p) (ht : p.taken = false) : (i : Int) ∉ F.map (·.2.1) := by
 intro hm
 obtain ⟨f, hf, he⟩ := Vb.1 hm
 obtain ⟨_, _, q, hq, hqt, _⟩ := h.flg f hf
 rw [he, show ((i : Int)).toNat = i from by omega, hp] at hq
 obtain rfl := Uk hq
 rw [ht] at hqt; cases hqt
theorem DirInv.take (h : DirInv d acc F G b n) {i : Nat} {p : Plc} (hp : d[i]? = some p) (ht : p.taken = false) (who : Int) : DirInv (d.set i ⟨{ p.s with ver := p.s.ver + 1 }, true, who⟩) acc ((who, (i : Int), p.s) :: F) G b (n + 1) := by
 obtain ⟨o1, o2, o3, o4, o5, o6⟩ := h.ok i p hp
 obtain ⟨v1, v2⟩ := h.idle i p hp ht
 have hi : i < 16 := by rw [<- h.len]; exact (Uf.1 hp).1
 have hno := h.noflag hp ht
 refine ⟨by rw [Vd]; exact h.len, h.alen, fun j q hq => ?_, fun j q hq hqt => ?_, fun j q hq hqt => ?_, ?_, fun f hf => ?_, fun x hx => by have := h.accs x hx; omega⟩
 ·rcases um hq with ⟨rfl, rfl⟩ | ⟨_, hq⟩
  ·exact ⟨o1.ver _, O_d, O_d, O_d, o5, O_d⟩
  ·obtain ⟨h1, h2, h3, h4, h5, h6⟩ := h.ok j q hq
   exact ⟨h1, O_o, h3, O_o, h5, O_o⟩
 ·rcases um hq with ⟨rfl, rfl⟩ | ⟨_, hq⟩
  ·cases hqt
  ·exact h.idle j q hq hqt
 ·rcases um hq with ⟨rfl, rfl⟩ | ⟨_, hq⟩
  ·exact ⟨qjw o3 v1, _, Ub .., rfl⟩
  ·obtain ⟨h1, f, hf, h2⟩ := h.busy j q hq hqt
   exact ⟨h1, f, Ue _ hf, h2⟩
 ·rw [Ux, Vw]
  exact ⟨hno, h.nod⟩
 ·rcases Uo.1 hf with rfl | hf
  ·exact ⟨O_d, O_d, _, uz hp, rfl, rfl, v2⟩
  ·obtain ⟨h1, h2, q, hq, h3, h4, h5⟩ := h.flg f hf
   have hne : f.2.1.toNat ≠ i := by
    rintro e
    rw [e, hp] at hq
    obtain rfl := Uk hq
    rw [ht] at h3; cases h3
   exact ⟨h1, h2, q, by rw [gr hne]; exact hq, h3, h4, h5⟩
theorem DirInv.account {who : Int} {i : Nat} {x y : SlotV} (h : DirInv d acc ((who, (i : Int), x) :: F) G b n) (h1 : (y.chunks.length : Int) <= b) (h2 : y.opn.length <= 8) : DirInv d (acc.set i y) ((who, (i : Int), y) :: F) G b n := by
 obtain ⟨k1, k2, p, hp, hpt, hpw, hpa⟩ := h.flg _ (Ub ..)
 dsimp only at k1 k2 hp hpw hpa
 rw [show ((i : Int)).toNat = i from by omega] at hp hpa
 have hnod := h.nod
 rw [Ux, Vw] at hnod
 refine ⟨h.len, by rw [Vd]; exact h.alen, h.ok, fun j q hq hqt => ?_, fun j q hq hqt => ?_, ?_, fun f hf => ?_, fun z hz => ?_⟩
 ·have hne : j ≠ i := by
   rintro rfl
   rw [hp] at hq
   obtain rfl := Uk hq
   rw [hpt] at hqt; cases hqt
  rw [gr hne]
  exact h.idle j q hq hqt
 ·obtain ⟨h1, f, hf, h2⟩ := h.busy j q hq hqt
  rcases Uo.1 hf with rfl | hf
  ·exact ⟨h1, _, Ub .., h2⟩
  ·exact ⟨h1, f, Ue _ hf, h2⟩
 ·rw [Ux, Vw]; exact hnod
 ·rcases Uo.1 hf with rfl | hf
  ·exact ⟨k1, k2, p, by dsimp only; rw [show ((i : Int)).toNat = i from by omega]; exact hp, hpt, hpw, by dsimp only; rw [show ((i : Int)).toNat = i from by omega]; exact uz hpa⟩
  ·obtain ⟨h1, h2, q, hq, h3, h4, h5⟩ := h.flg f (Ue _ hf)
   have hne : f.2.1.toNat ≠ i := by
    intro e
    refine hnod.1 (Vb.2 ⟨f, hf, ?_⟩)
    dsimp only; omega
   exact ⟨h1, h2, q, hq, h3, h4, by rw [gr hne]; exact h5⟩
 ·obtain ⟨j, hj⟩ := Zn.1 hz
  rcases um hj with ⟨_, rfl⟩ | ⟨_, hj⟩
  ·exact ⟨h1, h2⟩
  ·exact h.accs z (Uj hj)
theorem DirInv.give {who : Int} {i : Nat} {x : SlotV} (h : DirInv d acc ((who, (i : Int), x) :: F) G b n) {sl : SlotV} (hok : SlotOk G b sl) (hch : (sl.chunks.length : Int) <= b) (hl0 : 0 <= sl.life) (hl1 : sl.life <= n) :
  ∃ p, d[i]? = some p ∧ p.taken = true ∧ p.who = who ∧ acc[i]? = some x ∧ p.s.ver.tmod 2 = 1 ∧ 0 <= p.s.ver ∧ p.s.ver <= 2 * (n : Int) ∧ DirInv (d.set i ⟨{ sl with ver := p.s.ver + 1 }, false, 0⟩) (acc.set i { sl with ver := p.s.ver + 1 }) F G b (n + 1) := by
 obtain ⟨k1, k2, p, hp, hpt, hpw, hpa⟩ := h.flg _ (Ub ..)
 dsimp only at k1 k2 hp hpw hpa
 rw [show ((i : Int)).toNat = i from by omega] at hp hpa
 obtain ⟨o1, o2, o3, o4, o5, o6⟩ := h.ok i p hp
 have hodd := (h.busy i p hp hpt).1
 have hnod := h.nod
 rw [Ux, Vw] at hnod
 refine ⟨p, hp, hpt, hpw, hpa, hodd, o3, o4, ?_⟩
 refine ⟨by rw [Vd]; exact h.len, by rw [Vd]; exact h.alen, fun j q hq => ?_, fun j q hq hqt => ?_, fun j q hq hqt => ?_, hnod.2, fun f hf => ?_, fun z hz => ?_⟩
 ·rcases um hq with ⟨rfl, rfl⟩ | ⟨_, hq⟩
  ·exact ⟨hok.ver _, O_d, O_d, O_d, hl0, O_d⟩
  ·obtain ⟨h1, h2, h3, h4, h5, h6⟩ := h.ok j q hq
   exact ⟨h1, O_o, h3, O_o, h5, O_o⟩
 ·rcases um hq with ⟨rfl, rfl⟩ | ⟨hne, hq⟩
  ·exact ⟨ay o3 hodd, uz hpa⟩
  ·rw [gr hne]
   exact h.idle j q hq hqt
 ·rcases um hq with ⟨rfl, rfl⟩ | ⟨hne, hq⟩
  ·cases hqt
  ·obtain ⟨h1, f, hf, h2⟩ := h.busy j q hq hqt
   rcases Uo.1 hf with rfl | hf
   ·dsimp only at h2; omega
   ·exact ⟨h1, f, hf, h2⟩
 ·obtain ⟨h1, h2, q, hq, h3, h4, h5⟩ := h.flg f (Ue _ hf)
  have hne : f.2.1.toNat ≠ i := by
   intro e
   refine hnod.1 (Vb.2 ⟨f, hf, ?_⟩)
   dsimp only; omega
  exact ⟨h1, h2, q, by rw [gr hne]; exact hq, h3, h4, by rw [gr hne]; exact h5⟩
 ·obtain ⟨j, hj⟩ := Zn.1 hz
  rcases um hj with ⟨_, rfl⟩ | ⟨_, hj⟩
  ·exact ⟨O_d, by have := hok.few; dsimp only; omega⟩
  ·have := h.accs z (Uj hj)
   omega
structure SnpOk (G : Int -> Blb) (b : Int) (x : Snp) : Prop where
 prts : ∀ p ∈ x.parts, PrtOk G b p
 few : (x.parts.length : Int) <= b
 tail : x.tail.length <= 7
theorem SnpOk.more {x : Snp} (h : SnpOk G b x) (hb : b <= b') (hG : ∀ id, id <= b -> G' id = G id) : SnpOk G' b' x := ⟨fun p hp => (h.prts p hp).more hb hG, Vy h.few hb, h.tail⟩
structure TabInv (T : Tb) (U : List (Int × Int)) (al : Int -> Bool) (G : Int -> Blb) (b : Int) (n : Nat) : Prop where
 nd : (keys T.l).Nodup
 ids : ∀ id, id ∈ keys T.l -> 1 <= id ∧ id <= T.last
 last0 : 0 <= T.last
 last1 : T.last <= n
 len : T.l.length <= 8
 on : ∀ id o, mget id T.l = some o -> SnpOk G b o.x ∧ 0 <= o.told ∧ o.told <= ((o.x.all G).length : Int) ∧ al o.series = false ∧ (o.used = true -> (o.who, id) ∈ U)
 us : ∀ u, u ∈ U -> ∃ o, mget u.2 T.l = some o ∧ o.used = true ∧ o.who = u.1
 und : (U.map (·.2)).Nodup
variable {T : Tb} {U : List (Int × Int)} {al : Int -> Bool}
theorem TabInv.mono (h : TabInv T U al G b n) (hn : n <= n') : TabInv T U al G b n' :=
 ⟨h.nd, h.ids, h.last0, by have := h.last1; omega, h.len, h.on, h.us, h.und⟩
theorem TabInv.more (h : TabInv T U al G b n) (hb : b <= b') (hG : ∀ id, id <= b -> G' id = G id) : TabInv T U al G' b' n :=
 ⟨h.nd, h.ids, h.last0, h.last1, h.len, fun id o ho => by obtain ⟨h1, h2⟩ := h.on id o ho; exact ⟨h1.more hb hG, by rw [Snp.same h1.prts hG]; exact h2⟩, h.us, h.und⟩
theorem TabInv.open_ (h : TabInv T U al G b n) {x : Snp} {series : Int} (hx : SnpOk G b x) (hal : al series = false) (h8 : T.l.length < 8) :
  mget (T.last + 1) T.l = none ∧ TabInv ⟨T.last + 1, mset (T.last + 1) ⟨series, 0, x, false, 0⟩ T.l⟩ U al G b (n + 1) := by
 have hnk : T.last + 1 ∉ keys T.l := fun hk => by have := (h.ids _ hk).2; omega
 have hmn : mget (T.last + 1) T.l = none := mget_none.2 hnk
 refine ⟨hmn, gn h.nd, fun j hj => ?_, by have := h.last0; dsimp only; omega, by have := h.last1; dsimp only; omega, ?_, fun j o ho => ?_, fun u hu => ?_, h.und⟩
 ·have hj' : j ∈ keys (mset (T.last + 1) (⟨series, 0, x, false, 0⟩ : On) T.l) := hj
  rw [vj, if_neg hnk, Ws] at hj'
  rcases hj' with hj' | hj'
  ·have := h.ids j hj'
   exact ⟨this.1, O_d⟩
  ·rw [Vc] at hj'
   have := h.last0
   subst hj'
   exact ⟨O_o, Uu _⟩
 ·show (mset (T.last + 1) (⟨series, 0, x, false, 0⟩ : On) T.l).length <= 8
  rw [we, if_pos hmn]; omega
 ·have ho' : mget j (mset (T.last + 1) (⟨series, 0, x, false, 0⟩ : On) T.l) = some o := ho
  rw [jq] at ho'
  split at ho'
  ·obtain rfl := Uk ho'
   exact ⟨hx, Uu _, O_d, hal, fun hu => by cases hu⟩
  ·exact h.on j o ho'
 ·obtain ⟨o, ho, h1⟩ := h.us u hu
  refine ⟨o, ?_, h1⟩
  show mget u.2 (mset (T.last + 1) (⟨series, 0, x, false, 0⟩ : On) T.l) = some o
  rw [jq, if_neg]
  ·exact ho
  ·rintro e
   rw [e, hmn] at ho; cases ho
theorem TabInv.keys_set (h : TabInv T U al G b n) {id : Int} {o o' : On} (hg : mget id T.l = some o) : (keys (mset id o' T.l)).Nodup ∧ (∀ j, j ∈ keys (mset id o' T.l) -> 1 <= j ∧ j <= T.last) ∧ (mset id o' T.l).length <= 8 := by
 refine ⟨gn h.nd, fun j hj => ?_, ?_⟩
 ·rw [vj, if_pos (uk hg)] at hj
  exact h.ids j hj
 ·rw [we, if_neg (by rw [hg]; intro e; cases e)]; exact h.len
theorem TabInv.use (h : TabInv T U al G b n) {id who : Int} {o : On} (hg : mget id T.l = some o) (hu : o.used = false) : TabInv ⟨T.last, mset id { o with used := true, who := who } T.l⟩ ((who, id) :: U) al G b n := by
 obtain ⟨k1, k2, k3⟩ := h.keys_set (o' := { o with used := true, who := who }) hg
 obtain ⟨o1, o2, o3, o4, _⟩ := h.on id o hg
 have hno : ∀ u ∈ U, u.2 ≠ id := by
  rintro u hm rfl
  obtain ⟨o', ho', hu', _⟩ := h.us u hm
  rw [hg] at ho'
  obtain rfl := Uk ho'
  rw [hu] at hu'; cases hu'
 refine ⟨k1, k2, h.last0, h.last1, k3, fun j x hx => ?_, fun u hm => ?_, ?_⟩
 ·have hx' : mget j (mset id ({ o with used := true, who := who } : On) T.l) = some x := hx
  rw [jq] at hx'
  split at hx'
  ·rename_i e
   subst e
   obtain rfl := Uk hx'
   exact ⟨o1, o2, o3, o4, fun _ => Ub ..⟩
  ·obtain ⟨q1, q2, q3, q4, q5⟩ := h.on j x hx'
   exact ⟨q1, q2, q3, q4, fun hu => Ue _ (q5 hu)⟩
 ·rcases Uo.1 hm with rfl | hm
  ·refine ⟨{ o with used := true, who := who }, ?_, rfl, rfl⟩
   show mget id (mset id _ T.l) = _
   rw [jq, if_pos rfl]
  ·obtain ⟨x, hx, h1⟩ := h.us u hm
   refine ⟨x, ?_, h1⟩
   show mget u.2 (mset id _ T.l) = _
   rw [jq, if_neg (hno u hm)]; exact hx
 ·rw [Ux, Vw]
  refine ⟨fun hm => ?_, h.und⟩
  obtain ⟨u, hu1, hu2⟩ := Vb.1 hm
  exact hno u hu1 hu2
theorem TabInv.free {id who : Int} {o : On} (h : TabInv T ((who, id) :: U) al G b n) (hg : mget id T.l = some o) {told : Int} (ht0 : 0 <= told) (ht1 : told <= ((o.x.all G).length : Int)) : TabInv ⟨T.last, mset id { o with used := false, told := told } T.l⟩ U al G b n := by
 obtain ⟨k1, k2, k3⟩ := h.keys_set (o' := { o with used := false, told := told }) hg
 obtain ⟨o1, o2, o3, o4, _⟩ := h.on id o hg
 have hund := h.und
 rw [Ux, Vw] at hund
 have hno : ∀ u ∈ U, u.2 ≠ id := fun u hm e => hund.1 (Vb.2 ⟨u, hm, e⟩)
 refine ⟨k1, k2, h.last0, h.last1, k3, fun j x hx => ?_, fun u hm => ?_, hund.2⟩
 ·have hx' : mget j (mset id ({ o with used := false, told := told } : On) T.l) = some x := hx
  rw [jq] at hx'
  split at hx'
  ·obtain rfl := Uk hx'
   exact ⟨o1, ht0, ht1, o4, fun hu => by cases hu⟩
  ·rename_i hj
   obtain ⟨q1, q2, q3, q4, q5⟩ := h.on j x hx'
   refine ⟨q1, q2, q3, q4, fun hu => ?_⟩
   rcases Uo.1 (q5 hu) with e | e
   ·exact absurd (congrArg Prod.snd e) hj
   ·exact e
 ·obtain ⟨x, hx, h1⟩ := h.us u (Ue _ hm)
  refine ⟨x, ?_, h1⟩
  show mget u.2 (mset id _ T.l) = _
  rw [jq, if_neg (hno u hm)]; exact hx
theorem TabInv.close {id who : Int} (h : TabInv T ((who, id) :: U) al G b n) : TabInv ⟨T.last, mdel id T.l⟩ U al G b n := by
 obtain ⟨o, hg, _, _⟩ := h.us _ (Ub ..)
 dsimp only at hg
 have hund := h.und
 rw [Ux, Vw] at hund
 have hno : ∀ u ∈ U, u.2 ≠ id := fun u hm e => hund.1 (Vb.2 ⟨u, hm, e⟩)
 refine ⟨ky h.nd, fun j hj => ?_, h.last0, h.last1, ?_, fun j x hx => ?_, fun u hm => ?_, hund.2⟩
 ·have hj' : j ∈ keys (mdel id T.l) := hj
  rw [yw] at hj'
  exact h.ids j (Ww hj')
 ·have := n8 id T.l (by rw [hg]; intro e; cases e)
  have := h.len
  show (mdel id T.l).length <= 8
  omega
 ·have hx' : mget j (mdel id T.l) = some x := hx
  rw [j3 _ _ _ h.nd] at hx'
  split at hx'
  ·cases hx'
  ·rename_i hj
   obtain ⟨q1, q2, q3, q4, q5⟩ := h.on j x hx'
   refine ⟨q1, q2, q3, q4, fun hu => ?_⟩
   rcases Uo.1 (q5 hu) with e | e
   ·exact absurd (congrArg Prod.snd e) hj
   ·exact e
 ·obtain ⟨x, hx, h1⟩ := h.us u (Ue _ hm)
  refine ⟨x, ?_, h1⟩
  show mget u.2 (mdel id T.l) = _
  rw [j3 _ _ _ h.nd, if_neg (hno u hm)]; exact hx
structure Ag where
 who : Int
 flag : Option (Int × SlotV)
 held : List Prt
 pins : List Key3
 use : Option Int
 seen : Option (Int × SlotV)
def Ag.idle (who : Int) : Ag := ⟨who, none, [], [], none, none⟩
def Ag.flags (a : Ag) : List Flag := match a.flag with | none => [] | some f => [(a.who, f)]
def Ag.uses (a : Ag) : List (Int × Int) := match a.use with | none => [] | some id => [(a.who, id)]
def SeenOk (d : List Plc) (G : Int -> Blb) (b : Int) (f : Int × SlotV) : Prop := 0 <= f.1 ∧ f.1 < 16 ∧ SlotOk G b f.2 ∧ f.2.ver.tmod 2 = 0 ∧ ∃ p, d[f.1.toNat]? = some p ∧ f.2.ver <= p.s.ver ∧ (p.s.ver = f.2.ver -> p.s = f.2)
structure AgOk (a : Ag) (d : List Plc) (G : Int -> Blb) (b : Int) : Prop where
 held : ∀ p ∈ a.held, PrtOk G b p
 few : (a.held.length : Int) <= b
 pins : a.pins.length <= 100
 seen : ∀ f, a.seen = some f -> SeenOk d G b f
def cntOf (acc : List SlotV) (A : List Ag) (T : Tb) (id : Int) : Nat := sumF (fun x : SlotV => rc id x.chunks) acc + sumF (fun a : Ag => rc id a.held) A + sumM (fun o : On => rc id o.x.parts) T.l
def chOf (acc : List SlotV) : Nat := sumF (fun x : SlotV => x.opn.length) acc
structure Inv (s : Shd) (A : List Ag) (acc : List SlotV) (al : Int -> Bool) (G : Int -> Blb) (n : Nat) : Prop where
 dir : DirInv s.d acc (A.flatMap Ag.flags) G s.b.last n
 sto : StoInv s.b (cntOf acc A s.t) (chOf acc) G
 cac : CacInv s.c (A.flatMap Ag.pins) al G s.b.last
 tab : TabInv s.t (A.flatMap Ag.uses) al G s.b.last n
 ags : ∀ a ∈ A, AgOk a s.d G s.b.last
 whos : (A.map Ag.who).Nodup
 last : s.b.last <= 100000
 n30 : n <= 1000000000
 few : A.length <= 100
end
section
theorem sumF_bound {α : Type} {f : α -> Nat} {B : Nat} : ∀ {l : List α}, (∀ x ∈ l, f x <= B) -> sumF f l <= l.length * B
 | [], _ => Ud _
 | x :: l, h => by
  have h1 := h x (Ub ..)
  have h2 := sumF_bound (l := l) fun y hy => h y (Ue _ hy)
  rw [sumF, Ui, Zk]; omega
theorem ur {κ β : Type} [DecidableEq κ] {m : List (κ × β)} (hn : (keys m).Nodup) {p : κ × β} (hp : p ∈ m) : mget p.1 m = some p.2 := (gh hn).2 hp
variable {s : Shd} {a : Ag} {A : List Ag} {acc : List SlotV} {al : Int -> Bool} {G G' : Int -> Blb} {n n' : Nat}
theorem Inv.mono (h : Inv s A acc al G n) (hn : n <= n') (h30 : n' <= 1000000000) : Inv s A acc al G n' :=
 ⟨h.dir.mono hn, h.sto, h.cac, h.tab.mono hn, h.ags, h.whos, h.last, h30, h.few⟩
theorem Inv.cnt_le (h : Inv s A acc al G n) (id : Int) : cntOf acc A s.t id <= 13000000 := by
 have hn := h.last
 have h1 : sumF (fun x : SlotV => rc id x.chunks) acc <= acc.length * 100000 := sumF_bound fun x hx => Uy (mc _ _) (by have := (h.dir.accs x hx).1; omega)
 have h2 : sumF (fun a : Ag => rc id a.held) A <= A.length * 100000 := sumF_bound fun a ha => Uy (mc _ _) (by have := (h.ags a ha).few; omega)
 have h3 : sumM (fun o : On => rc id o.x.parts) s.t.l <= s.t.l.length * 100000 := sumF_bound fun p hp => Uy (mc _ _) (by have := (h.tab.on p.1 p.2 (ur h.tab.nd hp)).1.few; omega)
 have e2 := h.few
 have e3 := h.tab.len
 rw [h.dir.alen] at h1
 unfold cntOf
 omega
theorem Inv.b0 (h : Inv s A acc al G n) : (([] : List Prt).length : Int) <= s.b.last := h.sto.ok.l0
theorem SeenOk.set {d : List Plc} {b : Int} {f : Int × SlotV} (h : SeenOk d G b f) {i : Nat} {p q : Plc} (hp : d[i]? = some p) (hv : q.s.ver = p.s.ver + 1) : SeenOk (d.set i q) G b f := by
 obtain ⟨h1, h2, h3, h4, x, hx, h5, h6⟩ := h
 refine ⟨h1, h2, h3, h4, ?_⟩
 by_cases e : f.1.toNat = i
 ·rw [e, hp] at hx
  obtain rfl := Uk hx
  exact ⟨q, by rw [e]; exact uz hp, O_o, fun he => by omega⟩
 ·exact ⟨x, by rw [gr e]; exact hx, h5, h6⟩
theorem SeenOk.more {d : List Plc} {b b' : Int} {f : Int × SlotV} (h : SeenOk d G b f) (hb : b <= b') (hG : ∀ id, id <= b -> G' id = G id) : SeenOk d G' b' f := by
 obtain ⟨h1, h2, h3, h4⟩ := h
 exact ⟨h1, h2, (h3.more hb hG).1, h4⟩
theorem AgOk.set {d : List Plc} {b : Int} (h : AgOk a d G b) {i : Nat} {p q : Plc} (hp : d[i]? = some p) (hv : q.s.ver = p.s.ver + 1) : AgOk a (d.set i q) G b :=
 ⟨h.held, h.few, h.pins, fun f hf => (h.seen f hf).set hp hv⟩
theorem AgOk.more {d : List Plc} {b b' : Int} (h : AgOk a d G b) (hb : b <= b') (hG : ∀ id, id <= b -> G' id = G id) : AgOk a d G' b' :=
 ⟨fun p hp => (h.held p hp).more hb hG, Vy h.few hb, h.pins, fun f hf => (h.seen f hf).more hb hG⟩
theorem kc (ha : a.flag = none) : a.flags = [] := by unfold Ag.flags; rw [ha]
theorem ux {f : Int × SlotV} (ha : a.flag = some f) : a.flags = [(a.who, f)] := by unfold Ag.flags; rw [ha]
theorem u9 (ha : a.use = none) : a.uses = [] := by unfold Ag.uses; rw [ha]
theorem yl {id : Int} (ha : a.use = some id) : a.uses = [(a.who, id)] := by unfold Ag.uses; rw [ha]
theorem Inv.take (h : Inv s (a :: A) acc al G n) (ha : a.flag = none) {i : Nat} {p : Plc} (hp : s.d[i]? = some p) (ht : p.taken = false) (hn : n + 1 <= 1000000000) :
  Inv { s with d := s.d.set i ⟨{ p.s with ver := p.s.ver + 1 }, true, a.who⟩ } ({ a with flag := some ((i : Int), p.s) } :: A) acc al G (n + 1) := by
 have hd := h.dir
 rw [Uh, kc ha, Up] at hd
 refine ⟨?_, h.sto, h.cac, h.tab.mono (Nat.le_succ _), fun x hx => ?_, h.whos, h.last, hn, h.few⟩
 ·rw [Uh, ux rfl]
  exact hd.take hp ht a.who
 ·rcases Uo.1 hx with rfl | hx
  ·have := (h.ags a (Ub ..)).set (q := ⟨{ p.s with ver := p.s.ver + 1 }, true, a.who⟩) hp rfl
   exact ⟨this.held, this.few, this.pins, this.seen⟩
  ·exact (h.ags x (Ue _ hx)).set hp rfl
theorem ye {i : Nat} {x y : SlotV} (hx : acc[i]? = some x) (T : Tb) (id : Int) : cntOf (acc.set i y) A T id + rc id x.chunks = cntOf acc A T id + rc id y.chunks := by
 have := sumF_set (fun x : SlotV => rc id x.chunks) (y := y) hx
 unfold cntOf
 (try dsimp only at this)
 omega
theorem xf {i : Nat} {x y : SlotV} (hx : acc[i]? = some x) : chOf (acc.set i y) + x.opn.length = chOf acc + y.opn.length := sumF_set (fun x : SlotV => x.opn.length) (y := y) hx
theorem Inv.give (h : Inv s (a :: A) acc al G n) {i : Nat} {x sl : SlotV} (ha : a.flag = some ((i : Int), x)) (hok : SlotOk G s.b.last sl) (e1 : sl.chunks = x.chunks) (e2 : sl.opn = x.opn) (hl0 : 0 <= sl.life) (hl1 : sl.life <= n) (hn : n + 1 <= 1000000000) :
  ∃ p, s.d[i]? = some p ∧ p.taken = true ∧ p.who = a.who ∧ p.s.ver.tmod 2 = 1 ∧ 0 <= p.s.ver ∧ p.s.ver <= 2 * (n : Int) ∧ Inv { s with d := s.d.set i ⟨{ sl with ver := p.s.ver + 1 }, false, 0⟩ } ({ a with flag := none } :: A) (acc.set i { sl with ver := p.s.ver + 1 }) al G (n + 1) := by
 have hd := h.dir
 rw [Uh, ux ha] at hd
 have hxa := hd.accs x (by
  obtain ⟨_, _, p, _, _, _, hpa⟩ := hd.flg _ (Ub ..)
  exact Uj hpa)
 obtain ⟨p, hp, hpt, hpw, hpa, hodd, hv0, hv1, hd'⟩ := hd.give hok (by rw [e1]; exact hxa.1) hl0 hl1
 refine ⟨p, hp, hpt, hpw, hodd, hv0, hv1, ?_, ?_, h.cac, h.tab.mono (Nat.le_succ _), fun y hy => ?_, h.whos, h.last, hn, h.few⟩
 ·rw [Uh, kc rfl, Up]
  exact hd'
 ·have e3 : chOf (acc.set i { sl with ver := p.s.ver + 1 }) = chOf acc := by
   have := xf (y := { sl with ver := p.s.ver + 1 }) hpa
   exact Zx (this.trans (congrArg (fun l : List Smp => chOf acc + l.length) e2))
  rw [e3]
  refine h.sto.eqv fun id => ?_
  have := ye (y := { sl with ver := p.s.ver + 1 }) (A := a :: A) hpa s.t id
  exact Zx (this.trans (congrArg (fun l : List Prt => cntOf acc (a :: A) s.t id + rc id l) e1))
 ·rcases Uo.1 hy with rfl | hy
  ·have := (h.ags a (Ub ..)).set (q := ⟨{ sl with ver := p.s.ver + 1 }, false, 0⟩) hp rfl
   exact ⟨this.held, this.few, this.pins, this.seen⟩
  ·exact (h.ags y (Ue _ hy)).set hp rfl
theorem ns {x : SlotV} (hx : x ∈ acc) {p : Prt} (hp : p ∈ x.chunks) (T : Tb) : 0 < cntOf acc A T p.blob := by
 have h1 := sumF_le (fun x : SlotV => rc p.blob x.chunks) hx
 have h2 := tx hp
 unfold cntOf
 (try dsimp only at h1)
 omega
theorem qjh {p : Prt} (hp : p ∈ a.held) (T : Tb) : 0 < cntOf acc (a :: A) T p.blob := by
 have h2 := tx hp
 unfold cntOf
 rw [sumF]
 omega
theorem Inv.hold (h : Inv s (a :: A) acc al G n) (ha : a.held = []) {ps : List Prt} (h1 : ∀ p ∈ ps, PrtOk G s.b.last p) (h2 : ∀ p ∈ ps, 0 < cntOf acc (a :: A) s.t p.blob) (h3 : (ps.length : Int) <= s.b.last) :
  (s.b.hold [] ps).1 = true ∧ (s.b.hold [] ps).2.last = s.b.last ∧ Inv { s with b := (s.b.hold [] ps).2 } ({ a with held := ps } :: A) acc al G n := by
 have hc : ∀ j, cntOf acc ({ a with held := ps } :: A) s.t j = cntOf acc (a :: A) s.t j + rc j ps := by
  intro j
  unfold cntOf
  rw [sumF, sumF, ha, uy]
  (try dsimp only)
  omega
 have hn := h.n30
 obtain ⟨k1, k2, k3, k4, k5⟩ := h.sto.hold [] h2 hc fun j => by
  have e1 := h.cnt_le j
  have e2 := mc j ps
  have e3 := h.last
  rw [hc]
  unfold M40
  omega
 refine ⟨k1, k3, ?_, k2, ?_, ?_, fun x hx => ?_, h.whos, by dsimp only; rw [k3]; exact h.last, h.n30, h.few⟩
 ·dsimp only; rw [k3]; exact h.dir
 ·dsimp only; rw [k3]; exact h.cac
 ·dsimp only; rw [k3]; exact h.tab
 ·dsimp only
  rw [k3]
  rcases Uo.1 hx with rfl | hx
  ·exact ⟨h1, h3, (h.ags a (Ub ..)).pins, (h.ags a (Ub ..)).seen⟩
  ·exact h.ags x (Ue _ hx)
theorem Inv.unhold (h : Inv s (a :: A) acc al G n) {ps : List Prt} (ha : a.held = ps) : (s.b.leave ps).last = s.b.last ∧ Inv { s with b := s.b.leave ps } ({ a with held := [] } :: A) acc al G n := by
 have hc : ∀ j, cntOf acc (a :: A) s.t j = cntOf acc ({ a with held := [] } :: A) s.t j + rc j ps := by
  intro j
  unfold cntOf
  rw [sumF, sumF, ha, uy]
  (try dsimp only)
  omega
 obtain ⟨k1, k2, k3⟩ := h.sto.leave hc
 refine ⟨k2, ?_, k1, ?_, ?_, fun x hx => ?_, h.whos, by dsimp only; rw [k2]; exact h.last, h.n30, h.few⟩
 ·dsimp only; rw [k2]; exact h.dir
 ·dsimp only; rw [k2]; exact h.cac
 ·dsimp only; rw [k2]; exact h.tab
 ·dsimp only
  rw [k2]
  rcases Uo.1 hx with rfl | hx
  ·exact ⟨fun p hp => (by cases hp), h.b0, (h.ags a (Ub ..)).pins, (h.ags a (Ub ..)).seen⟩
  ·exact h.ags x (Ue _ hx)
theorem Inv.cache (h : Inv s (a :: A) acc al G n) {C : Cac} {pn : List Key3} (hp : pn.length <= 100) (hC : CacInv C (pn ++ A.flatMap Ag.pins) al G s.b.last) : Inv { s with c := C } ({ a with pins := pn } :: A) acc al G n := by
 refine ⟨h.dir, h.sto, ?_, h.tab, fun x hx => ?_, h.whos, h.last, h.n30, h.few⟩
 ·rw [Uh]; exact hC
 ·rcases Uo.1 hx with rfl | hx
  ·exact ⟨(h.ags a (Ub ..)).held, (h.ags a (Ub ..)).few, hp, (h.ags a (Ub ..)).seen⟩
  ·exact h.ags x (Ue _ hx)
theorem Inv.cac_in (h : Inv s (a :: A) acc al G n) : CacInv s.c (a.pins ++ A.flatMap Ag.pins) al G s.b.last := by
 have := h.cac
 rwa [Uh] at this
theorem Inv.see (h : Inv s (a :: A) acc al G n) {f : Option (Int × SlotV)} (hf : ∀ x, f = some x -> SeenOk s.d G s.b.last x) : Inv s ({ a with seen := f } :: A) acc al G n := by
 refine ⟨h.dir, h.sto, h.cac, h.tab, fun x hx => ?_, h.whos, h.last, h.n30, h.few⟩
 rcases Uo.1 hx with rfl | hx
 ·exact ⟨(h.ags a (Ub ..)).held, (h.ags a (Ub ..)).few, (h.ags a (Ub ..)).pins, hf⟩
 ·exact h.ags x (Ue _ hx)
theorem Inv.account (h : Inv s (a :: A) acc al G n) {i : Nat} {x y : SlotV} (ha : a.flag = some ((i : Int), x)) {S : Sto} (hS : StoInv S (cntOf (acc.set i y) (a :: A) s.t) (chOf (acc.set i y)) G') (hl : s.b.last <= S.last) (hl1 : S.last <= 100000)
  (hG : ∀ id, id <= s.b.last -> G' id = G id) (hn : n <= n') (hn3 : n' <= 1000000000) (h1 : (y.chunks.length : Int) <= S.last) (h2 : y.opn.length <= 8) : Inv { s with b := S } ({ a with flag := some ((i : Int), y) } :: A) (acc.set i y) al G' n' := by
 have hd := h.dir
 rw [Uh, ux ha] at hd
 refine ⟨?_, hS, h.cac.more hl hG, (h.tab.more hl hG).mono hn, fun z hz => ?_, h.whos, hl1, hn3, h.few⟩
 ·rw [Uh, ux rfl]
  exact ((hd.more hl hG).mono hn).account h1 h2
 ·rcases Uo.1 hz with rfl | hz
  ·exact ⟨fun p hp => ((h.ags a (Ub ..)).held p hp).more hl hG, Vy (h.ags a (Ub ..)).few hl, (h.ags a (Ub ..)).pins, fun f hf => ((h.ags a (Ub ..)).seen f hf).more hl hG⟩
  ·exact (h.ags z (Ue _ hz)).more hl hG
theorem Inv.opens (h : Inv s (a :: A) acc al G n) {x : Snp} {series : Int} (hx : SnpOk G s.b.last x) (ha : a.held = x.parts) (hal : al series = false) (h8 : s.t.l.length < 8) (hn : n + 1 <= 1000000000) :
  mget (s.t.last + 1) s.t.l = none ∧ Inv { s with t := ⟨s.t.last + 1, mset (s.t.last + 1) ⟨series, 0, x, false, 0⟩ s.t.l⟩ } ({ a with held := [] } :: A) acc al G (n + 1) := by
 obtain ⟨h1, h2⟩ := h.tab.open_ hx hal h8
 refine ⟨h1, h.dir.mono (Nat.le_succ _), h.sto.eqv fun id => ?_, h.cac, h2, fun z hz => ?_, h.whos, h.last, hn, h.few⟩
 ·unfold cntOf
  have := sumM_new (fun o : On => rc id o.x.parts) (v := ⟨series, 0, x, false, 0⟩) h1
  dsimp only at this ⊢
  rw [this, sumF, sumF, ha, uy]
  (try dsimp only)
  omega
 ·rcases Uo.1 hz with rfl | hz
  ·exact ⟨fun p hp => (by cases hp), h.b0, (h.ags a (Ub ..)).pins, (h.ags a (Ub ..)).seen⟩
  ·exact h.ags z (Ue _ hz)
theorem Inv.uses (h : Inv s (a :: A) acc al G n) (ha : a.use = none) {id : Int} {o : On} (hg : mget id s.t.l = some o) (hu : ¬ (o.used = true ∧ o.who ≠ a.who)) :
  o.used = false ∧ Inv { s with t := ⟨s.t.last, mset id { o with used := true, who := a.who } s.t.l⟩ } ({ a with use := some id } :: A) acc al G n := by
 have ht := h.tab
 rw [Uh, u9 ha, Up] at ht
 have huse : o.used = false := by
  cases hb : o.used with
  | false => rfl
  | true =>
   have hw : o.who = a.who := Wg fun hw => hu ⟨hb, hw⟩
   have hm := (ht.on id o hg).2.2.2.2 hb
   rw [Xf] at hm
   obtain ⟨x, hx, hxu⟩ := hm
   have hwx : x.who = a.who := by
    unfold Ag.uses at hxu
    split at hxu
    ·cases hxu
    ·rw [Vc] at hxu
     have := congrArg Prod.fst hxu
     dsimp only at this
     omega
   have hwh := h.whos
   rw [Ux, Vw] at hwh
   exact absurd (Vb.2 ⟨x, hx, hwx⟩) hwh.1
 refine ⟨huse, h.dir, h.sto.eqv fun j => ?_, h.cac, ?_, fun z hz => ?_, h.whos, h.last, h.n30, h.few⟩
 ·unfold cntOf
  have := sumM_set (fun o : On => rc j o.x.parts) (v := { o with used := true, who := a.who }) hg
  (try dsimp only at this ⊢)
  rw [sumF, sumF]
  (try dsimp only)
  omega
 ·rw [Uh, yl rfl]
  exact ht.use hg huse
 ·rcases Uo.1 hz with rfl | hz
  ·exact ⟨(h.ags a (Ub ..)).held, (h.ags a (Ub ..)).few, (h.ags a (Ub ..)).pins, (h.ags a (Ub ..)).seen⟩
  ·exact h.ags z (Ue _ hz)
theorem Inv.mine (h : Inv s (a :: A) acc al G n) {id : Int} (ha : a.use = some id) : ∃ o, mget id s.t.l = some o ∧ o.used = true ∧ o.who = a.who ∧ SnpOk G s.b.last o.x ∧ 0 <= o.told ∧ o.told <= ((o.x.all G).length : Int) ∧ al o.series = false := by
 have ht := h.tab
 rw [Uh, yl ha] at ht
 obtain ⟨o, h1, h2, h3⟩ := ht.us _ (Ub ..)
 obtain ⟨h4, h5, h6, h7, _⟩ := ht.on _ _ h1
 exact ⟨o, h1, h2, h3, h4, h5, h6, h7⟩
theorem Inv.frees (h : Inv s (a :: A) acc al G n) {id : Int} (ha : a.use = some id) {o : On} (hg : mget id s.t.l = some o) {told : Int} (h0 : 0 <= told) (h1 : told <= ((o.x.all G).length : Int)) :
  Inv { s with t := ⟨s.t.last, mset id { o with used := false, told := told } s.t.l⟩ } ({ a with use := none } :: A) acc al G n := by
 have ht := h.tab
 rw [Uh, yl ha] at ht
 refine ⟨h.dir, h.sto.eqv fun j => ?_, h.cac, ?_, fun z hz => ?_, h.whos, h.last, h.n30, h.few⟩
 ·unfold cntOf
  have := sumM_set (fun o : On => rc j o.x.parts) (v := { o with used := false, told := told }) hg
  (try dsimp only at this ⊢)
  rw [sumF, sumF]
  (try dsimp only)
  omega
 ·rw [Uh, u9 rfl, Up]
  exact ht.free hg h0 h1
 ·rcases Uo.1 hz with rfl | hz
  ·exact ⟨(h.ags a (Ub ..)).held, (h.ags a (Ub ..)).few, (h.ags a (Ub ..)).pins, (h.ags a (Ub ..)).seen⟩
  ·exact h.ags z (Ue _ hz)
theorem Inv.closes (h : Inv s (a :: A) acc al G n) {id : Int} (ha : a.use = some id) (hh : a.held = []) {o : On} (hg : mget id s.t.l = some o) : Inv { s with t := ⟨s.t.last, mdel id s.t.l⟩ } ({ a with use := none, held := o.x.parts } :: A) acc al G n := by
 have ht := h.tab
 rw [Uh, yl ha] at ht
 have hok := (ht.on id o hg).1
 refine ⟨h.dir, h.sto.eqv fun j => ?_, h.cac, ?_, fun z hz => ?_, h.whos, h.last, h.n30, h.few⟩
 ·unfold cntOf
  have := sumM_del (fun o : On => rc j o.x.parts) hg
  dsimp only at this ⊢
  rw [sumF, sumF, hh, uy]
  dsimp only
  omega
 ·rw [Uh, u9 rfl, Up]
  exact ht.close
 ·rcases Uo.1 hz with rfl | hz
  ·exact ⟨hok.prts, hok.few, (h.ags a (Ub ..)).pins, (h.ags a (Ub ..)).seen⟩
  ·exact h.ags z (Ue _ hz)
theorem Inv.enter (h : Inv s A acc al G n) {who : Int} (hw : who ∉ A.map Ag.who) (hf : A.length + 1 <= 100) : Inv s (Ag.idle who :: A) acc al G n := by
 refine ⟨h.dir, h.sto.eqv fun j => ?_, h.cac, h.tab, fun z hz => ?_, by rw [Ux, Vw]; exact ⟨hw, h.whos⟩, h.last, h.n30, hf⟩
 ·unfold cntOf
  rw [sumF]
  show _ + (0 + _) + _ = _
  omega
 ·rcases Uo.1 hz with rfl | hz
  ·exact ⟨fun p hp => (by cases hp), h.b0, Ud _, fun f hf => by cases hf⟩
  ·exact h.ags z hz
theorem Inv.exit (h : Inv s (a :: A) acc al G n) (h1 : a.flag = none) (h2 : a.held = []) (h3 : a.pins = []) (h4 : a.use = none) : Inv s A acc al G n := by
 have hd := h.dir
 have hc := h.cac
 have ht := h.tab
 rw [Uh, kc h1, Up] at hd
 rw [Uh, h3, Up] at hc
 rw [Uh, u9 h4, Up] at ht
 have hw := h.whos
 rw [Ux, Vw] at hw
 refine ⟨hd, h.sto.eqv fun j => ?_, hc, ht, fun z hz => h.ags z (Ue _ hz), hw.2, h.last, h.n30, by have := h.few; rw [Ui] at this; omega⟩
 unfold cntOf
 rw [sumF, h2, uy]
 omega
end
section
structure Mdl where
 ser : Int -> Option (Bool × List Smp)
 its : List (Int × List Smp)
 next : Int
def upS (f : Int -> Option (Bool × List Smp)) (i : Int) (x : Option (Bool × List Smp)) (j : Int) : Option (Bool × List Smp) := if j = i then x else f j
theorem upS_self (f : Int -> Option (Bool × List Smp)) (i : Int) : upS f i (f i) = f := by
 funext j
 unfold upS
 split
 ·rename_i e; rw [e]
 ·rfl
namespace Mdl
def new : Mdl := ⟨fun _ => none, [], 0⟩
def err (m : Mdl) (e : Int) : Mdl × Res := (m, ⟨e, 0, []⟩)
def act (m : Mdl) (o : Opr) : Mdl × Res :=
 if Run.bad o then m.err 4
 else if o.kind = 6 then match mget o.iter m.its with
  | none => m.err 3
  | some L => ({ m with its := mset o.iter (L.drop (min (max o.N 0) 1000).toNat) m.its }, ⟨0, 0, L.take (min (max o.N 0) 1000).toNat⟩)
 else if o.kind = 7 then match mget o.iter m.its with
  | none => m.err 3
  | some _ => ({ m with its := mdel o.iter m.its }, ⟨0, 0, []⟩)
 else match m.ser o.series with
  | none => if o.kind = 1 then ({ m with ser := upS m.ser o.series (some (false, [⟨o.T, (o.V : Int)⟩])) }, ⟨0, 0, []⟩) else m.err 3
  | some (cl, L) =>
   if o.kind = 1 then if cl then m.err 2 else if o.T <= lastT L then m.err 1 else ({ m with ser := upS m.ser o.series (some (false, L ++ [⟨o.T, (o.V : Int)⟩])) }, ⟨0, 0, []⟩)
   else if o.kind = 2 then (m, ⟨0, 0, within L o.F o.To⟩)
   else if o.kind = 3 then if cl then m.err 2 else ({ m with ser := upS m.ser o.series (some (true, L)) }, ⟨0, 0, []⟩)
   else if o.kind = 4 then ({ m with ser := upS m.ser o.series none }, ⟨0, 0, []⟩)
   else if m.its.length ≥ 8 then m.err 5
   else ({ m with its := m.its ++ [(m.next + 1, within L o.F o.To)], next := m.next + 1 }, ⟨0, m.next + 1, []⟩)
end Mdl
variable {s : Shd} {a : Ag} {A : List Ag} {acc : List SlotV} {al : Int -> Bool} {G G' : Int -> Blb} {n n' : Nat} {d : List Plc}
def SlotV.tells (G : Int -> Blb) (x : SlotV) : Option (Bool × List Smp) := if x.there then some (x.closed, x.all G) else none
def serOf (d : List Plc) (G : Int -> Blb) (i : Int) : Option (Bool × List Smp) := match Dir.at_ d i with
 | some p => p.s.tells G
 | none => none
def itsOf (l : List (Int × On)) (G : Int -> Blb) : List (Int × List Smp) := l.map fun p => (p.1, (p.2.x.all G).drop p.2.told.toNat)
def abs (s : Shd) (G : Int -> Blb) : Mdl := ⟨serOf s.d G, itsOf s.t.l G, s.t.last⟩
theorem nm {i : Nat} (hi : i < 16) : Dir.at_ d (i : Int) = d[i]? := by
 unfold Dir.at_
 rw [if_pos ⟨O_o, O_o⟩]
 congr 1
theorem qjd {i : Int} (h : ¬ (0 <= i ∧ i < 16)) : Dir.at_ d i = none := by unfold Dir.at_; rw [if_neg h]
theorem qjb {i : Int} (h0 : 0 <= i) (h1 : i < 16) : Dir.at_ d i = d[i.toNat]? := by unfold Dir.at_; rw [if_pos ⟨h0, h1⟩]
theorem at_set {i : Nat} {p q : Plc} (hp : d[i]? = some p) (j : Int) : Dir.at_ (d.set i q) j = if j = (i : Int) ∧ i < 16 then some q else Dir.at_ d j := by
 by_cases hj : 0 <= j ∧ j < 16
 ·rw [qjb hj.1 hj.2, qjb hj.1 hj.2]
  by_cases e : j = (i : Int)
  ·subst e
   rw [if_pos ⟨rfl, O_o⟩, show ((i : Int)).toNat = i from by omega]
   exact uz hp
  ·rw [if_neg (fun h => e h.1)]
   exact gr O0
 ·rw [qjd hj, qjd hj, if_neg]
  rintro ⟨e, h16⟩
  omega
theorem serOf_set {i : Nat} {p q : Plc} (hp : d[i]? = some p) (hi : i < 16) : serOf (d.set i q) G = upS (serOf d G) (i : Int) (q.s.tells G) := by
 funext j
 unfold serOf upS
 rw [at_set hp]
 by_cases e : j = (i : Int)
 ·rw [if_pos ⟨e, hi⟩, if_pos e]
 ·rw [if_neg (fun h => e h.1), if_neg e]
theorem serOf_at {i : Nat} {p : Plc} (hp : d[i]? = some p) (hi : i < 16) : serOf d G (i : Int) = p.s.tells G := by
 unfold serOf
 rw [nm hi, hp]
theorem serOf_ver {i : Nat} {p q : Plc} (hp : d[i]? = some p) (hi : i < 16) (hq : q.s.tells G = p.s.tells G) : serOf (d.set i q) G = serOf d G := by
 rw [serOf_set hp hi, hq, <- serOf_at hp hi, upS_self]
theorem Inv.lt16 (h : Inv s A acc al G n) {i : Nat} {p : Plc} (hp : s.d[i]? = some p) : i < 16 := by
 rw [<- h.dir.len]; exact (Uf.1 hp).1
theorem serOf_more (h : Inv s A acc al G n) (hG : ∀ id, id <= s.b.last -> G' id = G id) : serOf s.d G' = serOf s.d G := by
 funext j
 unfold serOf
 cases ha : Dir.at_ s.d j with
 | none => rfl
 | some p =>
  have hm : ∃ i : Nat, s.d[i]? = some p := by
   unfold Dir.at_ at ha
   split at ha
   ·exact ⟨_, ha⟩
   ·cases ha
  obtain ⟨i, hi⟩ := hm
  show p.s.tells G' = p.s.tells G
  unfold SlotV.tells
  rw [((h.dir.ok i p hi).1.more (Uu _) hG).2]
theorem itsOf_more (h : Inv s A acc al G n) (hG : ∀ id, id <= s.b.last -> G' id = G id) : itsOf s.t.l G' = itsOf s.t.l G := by
 unfold itsOf
 refine List.map_congr_left fun p hp => ?_
 rw [Snp.same (h.tab.on p.1 p.2 (ur h.tab.nd hp)).1.prts hG]
theorem qjs (h : Inv s A acc al G n) (hG : ∀ id, id <= s.b.last -> G' id = G id) : abs s G' = abs s G := by
 unfold abs
 rw [serOf_more h hG, itsOf_more h hG]
theorem itsOf_set {l : List (Int × On)} {id : Int} {o o' : On} (hg : mget id l = some o) : itsOf (mset id o' l) G = mset id ((o'.x.all G).drop o'.told.toNat) (itsOf l G) := (gt (fun o : On => (o.x.all G).drop o.told.toNat) id o' l).symm
theorem itsOf_get (l : List (Int × On)) (id : Int) : mget id (itsOf l G) = (mget id l).map fun o => (o.x.all G).drop o.told.toNat := gj (fun o : On => (o.x.all G).drop o.told.toNat) id l
theorem itsOf_same {l : List (Int × On)} {id : Int} {o o' : On} (hg : mget id l = some o) (hx : o'.x = o.x) (ht : o'.told = o.told) : itsOf (mset id o' l) G = itsOf l G := by
 rw [itsOf_set hg]
 refine yh ?_
 rw [itsOf_get, hg, hx, ht]; rfl
theorem itsOf_new {l : List (Int × On)} {id : Int} {o : On} (hg : mget id l = none) (ht : o.told = 0) : itsOf (mset id o l) G = itsOf l G ++ [(id, o.x.all G)] := by
 have h1 : mset id o l = l ++ [(id, o)] := by
  clear ht
  induction l with
  | nil => rfl
  | cons p l ih =>
   obtain ⟨j, u⟩ := p
   rw [mget] at hg
   split at hg
   ·cases hg
   ·rename_i hj
    rw [mset, if_neg hj, ih hg]; rfl
 rw [h1]
 unfold itsOf
 rw [Wd]
 show _ ++ [(id, (o.x.all G).drop o.told.toNat)] = _
 rw [ht]; rfl
theorem itsOf_del {l : List (Int × On)} (id : Int) : itsOf (mdel id l) G = mdel id (itsOf l G) := (v8 (fun o : On => (o.x.all G).drop o.told.toNat) id l).symm
theorem itsOf_len (l : List (Int × On)) : (itsOf l G).length = l.length := by unfold itsOf; rw [Ve]
end
end Go.Proofs.YtngdfdangkdgcaaGreatDoor
