/- What the proof of ProgIters needs, part 5: plain lemmas, and what each function does. -/
import Derived.Test.YtngdfdangkdgcaaGreatDoorQProgItersd
set_option linter.unusedVariables false
set_option linter.unusedSimpArgs false
set_option linter.unnecessarySimpa false
set_option maxRecDepth 100000
set_option maxHeartbeats 4000000
namespace Go.Proofs.YtngdfdangkdgcaaGreatDoor
open Go.Hw _root_.Go.Proofs.Tryz
section
section
variable {w0 w : World} {l : List HProp} {t p : Nat} {r : Run} {s : Shd} {q : RunQ}
theorem dire_LookQ {d : Nat} {D : List Plc} (hD : Dir.Fits D) (id : Int) (h : St w0 (IsDir d D :: l) w) : Ret prog 61 [.pz d, .iz id] w fun v w' => ∃ q4 : Q4, v = .tuple [.agg (q4.cells ((Dir.look D id).getD SlotV.zero)).toArray, .bool (Dir.look D id).isSome].toArray ∧ St w0 (OwnS q4.a4 q4.c4 ((Dir.look D id).getD SlotV.zero).opn :: OwnPr q4.a5 q4.c5 ((Dir.look D id).getD SlotV.zero).chunks :: IsDir d D :: l) w' := by
 have h1 := dire_Look id hD.big h
 cases hl : Dir.look D id with
 | none =>
  rw [hl] at h1
  refine h1.mono ?_
  rintro v w ⟨rfl, h⟩
  exact ⟨⟨none, 0, none, 0⟩, rfl, (h.ownNil 168 5).ownNil 57 2⟩
 | some sl =>
  rw [hl] at h1
  refine h1.mono ?_
  rintro v w ⟨a, b, rfl, h⟩
  exact ⟨⟨a, sl.opn.length, b, sl.chunks.length⟩, rfl, h⟩
theorem prog_look (hfits : Dir.Fits s.d) (hbeg : ∀ sl, Dir.look s.d r.o.series = some sl → r.BeginOk s sl) (h : St w0 (IsRun t r :: IsSh p s :: l) w) :
  Ret prog 56 [.pz t, .pz p] w fun v w' => v = .iz (r.look s).2.2 ∧ St w0 (IsRun t (r.look s).1 :: IsSh p (r.look s).2.1 :: l) w' := by
 have key : r.look s = if r.fails ≥ 3 then ((r.take s).1, (r.take s).2.1, if (r.take s).2.2 then 1 else 0) else match Dir.look s.d r.o.series with
  | none => (r, s, 0)
  | some sl => r.begin_ s sl := by
  unfold Run.look
  by_cases hf : r.fails ≥ 3
  ·rw [if_pos hf, if_pos hf]
   generalize r.take s = z
   obtain ⟨a, b, c⟩ := z
   cases c <;> rfl
  ·rw [if_neg hf, if_neg hf]
   cases Dir.look s.d r.o.series <;> rfl
 obtain ⟨q, h⟩ := (St.run (r := r)).1 h
 refine en func56 results56 ntmps56 ?_
 refine Yr ?_; refine Y2o ?_
 refine qh (qq (v := .iz r.fails) rfl (h.b 0 rfl) rfl) rfl ?_
 refine Y1m ?_
 by_cases hf : r.fails ≥ 3
 ·rw [if_pos hf] at key
  refine qz (.bool true) (by congr 1; rw [decide_eq_true_eq]; exact hf) ?_
  refine Ye ?_; refine qo ?_; refine Y10 ?_
  have h1 : St w0 (IsRun t r :: IsSh p s :: l) w := (St.run (r := r)).2 ⟨q, h⟩
  refine qw rfl (qg rfl (prog_take hfits h1) ?_)
  clear h h1
  rintro _ w ⟨rfl, h⟩
  rw [key]
  dsimp only
  cases htk : (r.take s).2.2 with
  | true =>
   refine Y44 ?_; refine Y13 ?_
   exact qv (qk (bq1 ⟨rfl, h⟩))
  | false =>
   refine Yy ?_; refine Ye ?_; refine Y13 ?_
   exact qv (qk (bq1 ⟨rfl, h⟩))
 rw [if_neg hf] at key
 refine qz (.bool false) (by congr 1; rw [decide_eq_false_iff_not]; exact hf) ?_
 refine Y9 ?_
 obtain ⟨k, h⟩ := (St.shd (s := s)).1 (h.f 10)
 obtain ⟨N, hN⟩ : ∃ N, (OneH q.one r.one :: OwnS q.s.a4 q.s.c4 r.slot.opn :: OwnPr q.s.a5 q.s.c5 r.slot.chunks :: OwnS q.n.a4 q.n.c4 r.next.opn :: OwnPr q.n.a5 q.n.c5 r.next.chunks :: OwnPr q.pa q.pc r.x.parts :: OwnS q.ta q.tc r.x.tail :: OwnS q.ga q.gc r.got :: OwnS q.ra q.rc r.res.list :: l) = N := ⟨_, rfl⟩
 replace h : St w0 (IsDir k.d s.d :: ShPt p k :: RunPt t r q :: IsCache k.c s.c :: IsStore k.b s.b :: IsTab k.t s.t.V :: N) w := by rw [← hN]; exact h.o [1, 0, 5, 2, 3, 4]
 obtain ⟨X, hX⟩ : ∃ X, (Dir.look s.d r.o.series).getD SlotV.zero = X := ⟨_, rfl⟩
 refine qi (Γ := Q4 × Nat) (fun g => [(0, .pz t), (1, .pz p), (5, .pointer (some ⟨g.2, 0, none⟩)), (6, .bool (Dir.look s.d r.o.series).isSome)])
  (fun g w => St w0 (OwnS g.1.a4 g.1.c4 X.opn :: OwnPr g.1.a5 g.1.c5 X.chunks :: pt g.2 (.cells (g.1.cells X).toArray 85 (0, 0)) :: IsDir k.d s.d :: ShPt p k :: RunPt t r q :: IsCache k.c s.c :: IsStore k.b s.b :: IsTab k.t s.t.V :: N) w) ?_ ?_
 ·refine c_anyR [0, 1, 2, 3, 4, 5, 6, 7, 8, 9, 10, 11, 14, 12, 13, 15] (some 14) (fun w => St w0 (IsDir k.d s.d :: ShPt p k :: RunPt t r q :: IsCache k.c s.c :: IsStore k.b s.b :: IsTab k.t s.t.V :: N) w) O1 O1 h.drew fun w h => ?_
  refine Y3 ?_
  refine qj rfl rfl rfl rfl h (fun _ h => qb rfl (qq (v := .pointer (some ⟨k.d, 0, none⟩)) rfl (h.b 1 rfl) rfl)) ?_
  refine Y1n ?_
  refine qj rfl rfl rfl rfl h (fun _ h => qb rfl (qq (v := .iz r.o.series) rfl (h.b 2 rfl) rfl)) ?_
  refine Y4k ?_
  refine j6 9 13 rfl rfl rfl rfl rfl rfl ?_ ?_
  ·refine qg rfl (dire_LookQ hfits r.o.series h) ?_
   clear h
   rintro _ w ⟨g, rfl, h1⟩
   rw [hX] at h1 ⊢
   have h := h1.drop.drop
   refine ⟨fun _ => h, ?_⟩
   refine Y2a ?_; refine Y11 ?_
   refine qm 13 rfl rfl rfl rfl ?_
   refine qc h1 fun b5 w h1 => ?_
   clear h
   have h := h1.drop.drop.drop
   refine ⟨fun _ => h, ?_⟩
   refine Yq ?_
   refine jz 14 none rfl rfl rfl rfl ?_
   refine qy (vs := g.cells X) 0 h1 rfl rfl rfl rfl rfl rfl rfl fun w h => ?_
   refine jx h ?_
   refine Y1f ?_
   exact qp ⟨(g, b5), zz4, h.o [1, 2, 0]⟩
  ·refine qc h fun b5 w h1 => ?_
   clear h
   have h := h1.drop
   refine ⟨fun _ => h, ?_⟩
   refine Y2q ?_
   refine qm 9 rfl rfl rfl rfl ?_
   refine qg rfl (dire_LookQ hfits r.o.series (h1.f 1)) ?_
   clear h h1
   rintro _ w ⟨g, rfl, h1⟩
   rw [hX] at h1 ⊢
   have h := (h1.x [3]).drop.drop
   refine ⟨fun _ => h, ?_⟩
   refine Y2a ?_; refine Yq ?_
   refine jz 14 none rfl rfl rfl rfl ?_
   refine qy (vs := g.cells X) 3 h1 rfl rfl rfl rfl rfl rfl rfl fun w h => ?_
   refine jx h ?_
   refine Y1f ?_
   exact qp ⟨(g, b5), zz4, h.o [0, 1, 3, 2]⟩
 clear h
 rintro ⟨g, b5⟩ w e h
 dsimp only at h
 replace h : St w0 (runL t r q (IsSh p s :: OwnS g.a4 g.c4 X.opn :: OwnPr g.a5 g.c5 X.chunks :: pt b5 (.cells (g.cells X).toArray 85 (0, 0)) :: l)) w := by
  have h1 : St w0 (ShPt p k :: IsDir k.d s.d :: IsCache k.c s.c :: IsStore k.b s.b :: IsTab k.t s.t.V :: OwnS g.a4 g.c4 X.opn :: OwnPr g.a5 g.c5 X.chunks :: pt b5 (.cells (g.cells X).toArray 85 (0, 0)) :: RunPt t r q :: N) w := h.o [4, 3, 6, 7, 8]
  have h2 : St w0 (IsSh p s :: OwnS g.a4 g.c4 X.opn :: OwnPr g.a5 g.c5 X.chunks :: pt b5 (.cells (g.cells X).toArray 85 (0, 0)) :: RunPt t r q :: N) w := (St.shd (s := s)).2 ⟨k, h1⟩
  rw [← hN] at h2
  exact h2.o [4, 5, 6, 7, 8, 9, 10, 11, 12, 13]
 refine Y2u ?_
 cases hl : Dir.look s.d r.o.series with
 | none =>
  rw [hl] at key
  replace key : r.look s = (r, s, 0) := key
  rw [key]
  refine Y1d ?_; refine Ye ?_; refine Y13 ?_
  have h1 : St w0 (IsRun t r :: IsSh p s :: OwnS g.a4 g.c4 X.opn :: OwnPr g.a5 g.c5 X.chunks :: pt b5 (.cells (g.cells X).toArray 85 (0, 0)) :: l) w := (St.run (r := r)).2 ⟨q, h⟩
  exact qv (qk (bq1 ⟨rfl, h1.x [2, 3, 4]⟩))
 | some sl =>
  rw [hl] at key hX
  replace key : r.look s = r.begin_ s sl := key
  obtain rfl : sl = X := hX
  rw [key]
  refine Y1d ?_; refine Y9 ?_; refine Y10 ?_
  refine qh (qx (l := g.cells sl) rfl rfl (qd (h.b 13 rfl) rfl)) rfl ?_
  refine qw rfl (qg rfl (prog_begin (hbeg sl hl) (Reads.own.more [_, _, _, _, _, _, _, _, _, _, _]) (Reads.own.more [_, _, _, _, _, _, _, _, _, _, _, _]) h) ?_)
  clear h
  rintro _ w ⟨rfl, h⟩
  refine Y7 ?_
  exact qv (qk (bq1 ⟨rfl, h.x [2, 3, 4]⟩))
structure Run.ReadOk (r : Run) (s : Shd) : Prop where
 fits : Dir.Fits s.d
 look : r.ph = 0 → ∀ sl, Dir.look s.d r.o.series = some sl → r.BeginOk s sl
 flagged : r.ph = 1 → r.BeginOk s r.slot
 part : r.ph = 2 → r.PartOk s r.o.series ∧ (r.part s r.o.series).1.LeaveOk (r.part s r.o.series).2.1
 last : r.ph ≠ 0 → r.ph ≠ 1 → r.ph ≠ 2 → r.AnswerOk s
theorem part_ph (r : Run) (s : Shd) (series : Int) : (r.part s series).1.ph = r.ph := by
 rw [Run.part_eq]
 split
 ·rfl
 ·split <;> rfl
theorem prog_read (hT : Tz w0) (hok : r.ReadOk s) (h : St w0 (IsRun t r :: IsSh p s :: l) w) :
  Ret prog 38 [.pz t, .pz p] w fun v w' => v = .iz (r.read s).2.2 ∧ St w0 (IsRun t (r.read s).1 :: IsSh p (r.read s).2.1 :: l) w' := by
 obtain ⟨hfits, hlook, hflag, hpart, hlast⟩ := hok
 obtain ⟨z, hz⟩ : ∃ z, r.part s r.o.series = z := ⟨_, rfl⟩
 obtain ⟨v, hv⟩ : ∃ v, r.leave s = v := ⟨_, rfl⟩
 have key : r.read s = if r.ph = 0 then r.look s else if r.ph = 1 then r.begin_ s r.slot else if r.ph = 2 then
   if z.2.2 ≠ 0 then (z.1.leave z.2.1).1.stop (z.1.leave z.2.1).2 ⟨z.2.2, 0, []⟩ 3 else ({ z.1 with ph := if z.1.i = (z.1.x.parts.length : Int) then 3 else 2 }, z.2.1, 1)
  else if r.flag then r.answer s else match Dir.look s.d r.o.series with
   | some sl => if sl.life = r.x.life ∧ sl.ver = r.x.ver then r.answer s else ({ v.1 with fails := wI (v.1.fails + 1), ph := 0 }, v.2, 1)
   | none => ({ v.1 with fails := wI (v.1.fails + 1), ph := 0 }, v.2, 1) := by
  rw [← hz, ← hv]
  unfold Run.read
  by_cases p0 : r.ph = 0
  ·rw [if_pos p0, if_pos p0]
  rw [if_neg p0, if_neg p0]
  by_cases p1 : r.ph = 1
  ·rw [if_pos p1, if_pos p1]
  rw [if_neg p1, if_neg p1]
  by_cases p2 : r.ph = 2
  ·rw [if_pos p2, if_pos p2]
  rw [if_neg p2, if_neg p2]
  cases r.flag with
  | true => rfl
  | false =>
   dsimp only
   cases Dir.look s.d r.o.series <;> rfl
 obtain ⟨q, h⟩ := (St.run (r := r)).1 h
 refine en func38 results38 ntmps38 ?_
 refine Yr ?_; refine Y2o ?_
 refine qh (qq (v := .iz r.ph) rfl (h.b 0 rfl) rfl) rfl ?_
 refine Y42 ?_
 by_cases p0 : r.ph = 0
 ·rw [if_pos p0] at key
  rw [key]
  refine qz (.bool true) (by congr 1; rw [beq_iff_eq]; exact p0) ?_
  refine Y45 ?_
  have h1 : St w0 (IsRun t r :: IsSh p s :: l) w := (St.run (r := r)).2 ⟨q, h⟩
  refine qw rfl (qg rfl (prog_look hfits (hlook p0) h1) ?_)
  clear h h1
  rintro _ w ⟨rfl, h⟩
  refine Y7 ?_
  exact qv (qk (bq1 ⟨rfl, h⟩))
 rw [if_neg p0] at key
 refine qz (.bool false) (by congr 1; rw [beq_eq_false_iff_ne]; exact p0) ?_
 refine Y2e ?_
 by_cases p1 : r.ph = 1
 ·rw [if_pos p1] at key
  rw [key]
  refine qz (.bool true) (by congr 1; rw [beq_iff_eq]; exact p1) ?_
  refine Y45 ?_; refine Y1s ?_
  refine qh (qx (l := q.s.cells r.slot) rfl rfl (qd (h.b 0 rfl) rfl)) rfl ?_
  refine qw rfl (qg rfl (prog_begin (hflag p1) (Reads.own.more [_, _]) (Reads.own.more [_, _, _]) h) ?_)
  clear h
  rintro _ w ⟨rfl, h⟩
  refine Y7 ?_
  exact qv (qk (bq1 ⟨rfl, h⟩))
 rw [if_neg p1] at key
 refine qz (.bool false) (by congr 1; rw [beq_eq_false_iff_ne]; exact p1) ?_
 refine Y2e ?_
 by_cases p2 : r.ph = 2
 ·rw [if_pos p2] at key
  obtain ⟨hp1, hp2⟩ := hpart p2
  have hph := part_ph r s r.o.series
  rw [hz] at hp2 hph
  refine qz (.bool true) (by congr 1; rw [beq_iff_eq]; exact p2) ?_
  refine Y2l ?_; refine qo ?_; refine Y10 ?_; refine Y1s ?_; refine Yj ?_
  refine qh (qq (v := .iz r.o.series) rfl (h.b 0 rfl) rfl) rfl ?_
  have h1 : St w0 (IsRun t r :: IsSh p s :: l) w := (St.run (r := r)).2 ⟨q, h⟩
  refine qw rfl (qg rfl (prog_part hT r.o.series hp1 h1) ?_)
  clear h h1
  rintro _ w ⟨rfl, h⟩
  rw [hz] at h ⊢
  obtain ⟨r2, s2, e2⟩ := z
  dsimp only at h hp2 hph key ⊢
  refine Y41 ?_; refine Y1y ?_
  by_cases he : e2 = 0
  ·rw [if_neg (fun hh => hh he)] at key
   rw [key]
   refine qz (.bool false) (by rw [he]; rfl) ?_
   refine Y9 ?_
   obtain ⟨q2, h⟩ := (St.run (r := r2)).1 h
   refine qi (Γ := Unit) (fun _ => []) (fun _ w => St w0 (runL t { r2 with ph := if r2.i = (r2.x.parts.length : Int) then 3 else 2 } q2 (IsSh p s2 :: l)) w) ?_ ?_
   ·refine qo ?_
    refine jb none (fun w => St w0 (runL t r2 q2 (IsSh p s2 :: l)) w) O1 O1 h.drew fun w h => ?_
    refine Y3 ?_
    refine qj rfl rfl rfl rfl h (fun _ h => qb rfl (qq (v := .iz r2.i) rfl (h.b 0 rfl) rfl)) ?_
    refine Y1n ?_
    refine qj rfl rfl rfl rfl h (fun _ h => qb rfl (qq (v := .slice q2.pa r2.x.parts.length q2.pc) rfl (h.b 0 rfl) rfl)) ?_
    refine Y2y ?_
    by_cases hi : r2.i = (r2.x.parts.length : Int)
    ·refine cpv rfl rfl rfl rfl h rfl (q9 (v' := .bool true) (gq rfl rfl) (by congr 1; rw [beq_iff_eq]; exact hi)) ?_
     refine qp ?_
     refine Y1l ?_; refine Y3a ?_
     refine qw rfl (qn 0 h rfl (show _ = Value.iz 3 from rfl) rfl rfl rfl rfl fun w h => ?_)
     refine qv ⟨(), trivial, ?_⟩
     rw [if_pos hi]; exact h
    ·refine cpv rfl rfl rfl rfl h rfl (q9 (v' := .bool false) (gq rfl rfl) (by congr 1; rw [beq_eq_false_iff_ne]; exact hi)) ?_
     refine qp ?_
     refine qa rfl (qr ⟨(), trivial, ?_⟩)
     rw [if_neg hi]
     have e2 : ({ r2 with ph := 2 } : Run) = r2 := by
      rw [p2] at hph
      obtain ⟨_, _, ph, _, _, _, _, _, _, _, _, _, _, _, _, _⟩ := r2
      dsimp only at hph; subst hph; rfl
     rw [e2]; exact h
   clear h
   rintro _ w e h
   refine Y13 ?_
   exact qv (qk (bq1 ⟨rfl, (St.run (r := { r2 with ph := if r2.i = (r2.x.parts.length : Int) then 3 else 2 })).2 ⟨q2, h⟩⟩))
  ·rw [if_pos he] at key
   rw [key]
   refine qz (.bool true) (by congr 1; rw [bne_iff_ne]; exact he) ?_
   refine Ye ?_; refine Y10 ?_
   refine qw rfl (qg rfl (prog_leave hp2 h) ?_)
   clear h
   rintro _ w ⟨rfl, h⟩
   refine Y1a ?_; refine Y0 ?_
   refine qh (qf (r := (⟨e2, 0, []⟩ : Res).C none 0) rfl) rfl ?_
   refine qw rfl (qg rfl (gh (res := ⟨e2, 0, []⟩) 3 ((h.ownNil 57 2).f 1)) ?_)
   clear h
   rintro _ w ⟨rfl, h⟩
   refine Y7 ?_
   exact qv (qk (bq1 ⟨rfl, h⟩))
 rw [if_neg p2] at key
 have hans := hlast p0 p1 p2
 refine qz (.bool false) (by congr 1; rw [beq_eq_false_iff_ne]; exact p2) ?_
 refine Ya ?_; refine Y1q ?_; refine Y2o ?_
 refine qh (qq (v := .bool r.flag) rfl (h.b 0 rfl) rfl) rfl ?_
 cases hfl : r.flag with
 | true =>
  rw [hfl] at key
  replace key : r.read s = r.answer s := key
  rw [key]
  refine Ye ?_; refine Y10 ?_
  have h1 : St w0 (IsRun t r :: IsSh p s :: l) w := (St.run (r := r)).2 ⟨q, h⟩
  refine qw rfl (qg rfl (prog_answer hans h1) ?_)
  clear h h1
  rintro _ w ⟨rfl, h⟩
  refine Y7 ?_
  exact qv (qk (bq1 ⟨rfl, h⟩))
 | false =>
 rw [hfl] at key
 refine Y9 ?_
 obtain ⟨same, hsame⟩ : ∃ same : Bool, (match Dir.look s.d r.o.series with | some sl => decide (sl.life = r.x.life ∧ sl.ver = r.x.ver) | none => false) = same := ⟨_, rfl⟩
 replace key : r.read s = if same then r.answer s else ({ v.1 with fails := wI (v.1.fails + 1), ph := 0 }, v.2, 1) := by
  rw [key, ← hsame]
  cases Dir.look s.d r.o.series with
  | none => rfl
  | some sl =>
   dsimp only
   by_cases hc : sl.life = r.x.life ∧ sl.ver = r.x.ver
   ·simp [hc]
   ·simp [hc]
 obtain ⟨k, h⟩ := (St.shd (s := s)).1 (h.f 10)
 obtain ⟨N, hN⟩ : ∃ N, (OneH q.one r.one :: OwnS q.s.a4 q.s.c4 r.slot.opn :: OwnPr q.s.a5 q.s.c5 r.slot.chunks :: OwnS q.n.a4 q.n.c4 r.next.opn :: OwnPr q.n.a5 q.n.c5 r.next.chunks :: OwnPr q.pa q.pc r.x.parts :: OwnS q.ta q.tc r.x.tail :: OwnS q.ga q.gc r.got :: OwnS q.ra q.rc r.res.list :: l) = N := ⟨_, rfl⟩
 replace h : St w0 (IsDir k.d s.d :: ShPt p k :: RunPt t r q :: IsCache k.c s.c :: IsStore k.b s.b :: IsTab k.t s.t.V :: N) w := by rw [← hN]; exact h.o [1, 0, 5, 2, 3, 4]
 obtain ⟨X, hX⟩ : ∃ X, (Dir.look s.d r.o.series).getD SlotV.zero = X := ⟨_, rfl⟩
 refine qo ?_
 refine qi (Γ := Q4 × Nat) (fun g => [(0, .pz t), (1, .pz p), (6, .pointer (some ⟨g.2, 0, none⟩)), (7, .bool (Dir.look s.d r.o.series).isSome)])
  (fun g w => St w0 (OwnS g.1.a4 g.1.c4 X.opn :: OwnPr g.1.a5 g.1.c5 X.chunks :: pt g.2 (.cells (g.1.cells X).toArray 85 (0, 0)) :: IsDir k.d s.d :: ShPt p k :: RunPt t r q :: IsCache k.c s.c :: IsStore k.b s.b :: IsTab k.t s.t.V :: N) w) ?_ ?_
 ·refine c_anyR [0, 1, 2, 3, 4, 5, 6, 7, 8, 9, 10, 11, 14, 12, 13, 15] (some 14) (fun w => St w0 (IsDir k.d s.d :: ShPt p k :: RunPt t r q :: IsCache k.c s.c :: IsStore k.b s.b :: IsTab k.t s.t.V :: N) w) O1 O1 h.drew fun w h => ?_
  refine Y3 ?_
  refine qj rfl rfl rfl rfl h (fun _ h => qb rfl (qq (v := .pointer (some ⟨k.d, 0, none⟩)) rfl (h.b 1 rfl) rfl)) ?_
  refine Y1n ?_
  refine qj rfl rfl rfl rfl h (fun _ h => qb rfl (qq (v := .iz r.o.series) rfl (h.b 2 rfl) rfl)) ?_
  refine Y4k ?_
  refine j6 9 13 rfl rfl rfl rfl rfl rfl ?_ ?_
  ·refine qg rfl (dire_LookQ hfits r.o.series h) ?_
   clear h
   rintro _ w ⟨g, rfl, h1⟩
   rw [hX] at h1 ⊢
   have h := h1.drop.drop
   refine ⟨fun _ => h, ?_⟩
   refine Y2a ?_; refine Y11 ?_
   refine qm 13 rfl rfl rfl rfl ?_
   refine qc h1 fun b5 w h1 => ?_
   clear h
   have h := h1.drop.drop.drop
   refine ⟨fun _ => h, ?_⟩
   refine Yq ?_
   refine jz 14 none rfl rfl rfl rfl ?_
   refine qy (vs := g.cells X) 0 h1 rfl rfl rfl rfl rfl rfl rfl fun w h => ?_
   refine jx h ?_
   refine Y1f ?_
   exact qp ⟨(g, b5), zz4, h.o [1, 2, 0]⟩
  ·refine qc h fun b5 w h1 => ?_
   clear h
   have h := h1.drop
   refine ⟨fun _ => h, ?_⟩
   refine Y2q ?_
   refine qm 9 rfl rfl rfl rfl ?_
   refine qg rfl (dire_LookQ hfits r.o.series (h1.f 1)) ?_
   clear h h1
   rintro _ w ⟨g, rfl, h1⟩
   rw [hX] at h1 ⊢
   have h := (h1.x [3]).drop.drop
   refine ⟨fun _ => h, ?_⟩
   refine Y2a ?_; refine Yq ?_
   refine jz 14 none rfl rfl rfl rfl ?_
   refine qy (vs := g.cells X) 3 h1 rfl rfl rfl rfl rfl rfl rfl fun w h => ?_
   refine jx h ?_
   refine Y1f ?_
   exact qp ⟨(g, b5), zz4, h.o [0, 1, 3, 2]⟩
 clear h
 rintro ⟨g, b5⟩ w e h
 dsimp only at h
 replace h : St w0 (runL t r q (IsSh p s :: OwnS g.a4 g.c4 X.opn :: OwnPr g.a5 g.c5 X.chunks :: pt b5 (.cells (g.cells X).toArray 85 (0, 0)) :: l)) w := by
  have h1 : St w0 (ShPt p k :: IsDir k.d s.d :: IsCache k.c s.c :: IsStore k.b s.b :: IsTab k.t s.t.V :: OwnS g.a4 g.c4 X.opn :: OwnPr g.a5 g.c5 X.chunks :: pt b5 (.cells (g.cells X).toArray 85 (0, 0)) :: RunPt t r q :: N) w := h.o [4, 3, 6, 7, 8]
  have h2 : St w0 (IsSh p s :: OwnS g.a4 g.c4 X.opn :: OwnPr g.a5 g.c5 X.chunks :: pt b5 (.cells (g.cells X).toArray 85 (0, 0)) :: RunPt t r q :: N) w := (St.shd (s := s)).2 ⟨k, h1⟩
  rw [← hN] at h2
  exact h2.o [4, 5, 6, 7, 8, 9, 10, 11, 12, 13]
 refine qi (Γ := Unit) (fun _ => [(0, .pz t), (1, .pz p), (99, .bool same)]) (fun _ w => St w0 (runL t r q (IsSh p s :: OwnS g.a4 g.c4 X.opn :: OwnPr g.a5 g.c5 X.chunks :: pt b5 (.cells (g.cells X).toArray 85 (0, 0)) :: l)) w) ?_ ?_
 ·refine jb none (fun w => St w0 (runL t r q (IsSh p s :: OwnS g.a4 g.c4 X.opn :: OwnPr g.a5 g.c5 X.chunks :: pt b5 (.cells (g.cells X).toArray 85 (0, 0)) :: l)) w) O1 O1 h.drew fun w h => ?_
  cases hl : Dir.look s.d r.o.series with
  | none =>
   rw [hl] at hsame
   replace hsame : same = false := hsame.symm
   subst hsame
   refine Yz ?_; refine Yz ?_; refine qu rfl rfl rfl rfl (fun _ => h) (fun _ => qt rfl rfl) (qu rfl rfl rfl rfl (fun _ => h) (fun _ => qt rfl rfl) (qu rfl rfl rfl rfl (fun _ => h) (fun _ => qt rfl rfl) (qu rfl rfl rfl rfl (fun _ => h) (fun _ => qt rfl rfl) (qu rfl rfl rfl rfl (fun _ => h) (fun _ => qt rfl rfl) (qu rfl rfl rfl rfl (fun _ => h) (fun _ => qt rfl rfl) ?_))))); refine qu rfl rfl rfl rfl (fun _ => h) (fun _ => qt rfl rfl) (qu rfl rfl rfl rfl (fun _ => h) (fun _ => qt rfl rfl) (cpv rfl rfl rfl rfl h rfl (je rfl rfl rfl) ?_)); refine Yz ?_; refine qu rfl rfl rfl rfl (fun _ => h) (fun _ => qt rfl rfl) (qu rfl rfl rfl rfl (fun _ => h) (fun _ => qt rfl rfl) (qu rfl rfl rfl rfl (fun _ => h) (fun _ => qt rfl rfl) (qu rfl rfl rfl rfl (fun _ => h) (fun _ => qt rfl rfl) (qu rfl rfl rfl rfl (fun _ => h) (fun _ => qt rfl rfl) (qu rfl rfl rfl rfl (fun _ => h) (fun _ => qt rfl rfl) ?_))))); refine qu rfl rfl rfl rfl (fun _ => h) (fun _ => qt rfl rfl) (qu rfl rfl rfl rfl (fun _ => h) (fun _ => qt rfl rfl) (cpv rfl rfl rfl rfl h rfl (je rfl rfl rfl) ?_))
   exact qp ⟨(), zz3, h⟩
  | some sl =>
   rw [hl] at hsame hX
   replace hsame : decide (sl.life = r.x.life ∧ sl.ver = r.x.ver) = same := hsame
   obtain rfl : sl = X := hX
   refine Yz ?_; refine Yz ?_; refine qu rfl rfl rfl rfl (fun _ => h) (fun _ => qe rfl rfl (q_fa rfl)) ?_
   refine qj rfl rfl rfl rfl h (fun _ h => qe rfl rfl (qq (v := .iz sl.life) rfl (h.b 13 rfl) rfl)) ?_
   refine qu rfl rfl rfl rfl (fun _ => h) (fun _ => qe rfl rfl (j1 rfl)) (qu rfl rfl rfl rfl (fun _ => h) (fun _ => qe rfl rfl (q_nil rfl)) (qu rfl rfl rfl rfl (fun _ => h) (fun _ => qe rfl rfl (q_fa rfl)) (qu rfl rfl rfl rfl (fun _ => h) (fun _ => qe rfl rfl (q_fa rfl)) ?_)))
   refine qj rfl rfl rfl rfl h (fun _ h => qe rfl rfl (qq (v := .iz r.x.life) rfl (h.b 0 rfl) rfl)) ?_
   by_cases h1 : sl.life = r.x.life
   ·refine qu rfl rfl rfl rfl (fun _ => h) (fun _ => qe rfl rfl (q9 (v' := .bool true) (gq rfl rfl) (by congr 1; rw [beq_iff_eq]; exact h1))) ?_
    refine cpv rfl rfl rfl rfl h rfl (jl rfl rfl rfl) ?_; refine Yz ?_; refine qu rfl rfl rfl rfl (fun _ => h) (fun _ => qe rfl rfl (q_fa rfl)) ?_
    refine qj rfl rfl rfl rfl h (fun _ h => qe rfl rfl (qq (v := .iz sl.ver) rfl (h.b 13 rfl) rfl)) ?_
    refine qu rfl rfl rfl rfl (fun _ => h) (fun _ => qe rfl rfl (j1 rfl)) (qu rfl rfl rfl rfl (fun _ => h) (fun _ => qe rfl rfl (q_nil rfl)) (qu rfl rfl rfl rfl (fun _ => h) (fun _ => qe rfl rfl (q_fa rfl)) (qu rfl rfl rfl rfl (fun _ => h) (fun _ => qe rfl rfl (q_fa rfl)) ?_)))
    refine qj rfl rfl rfl rfl h (fun _ h => qe rfl rfl (qq (v := .iz r.x.ver) rfl (h.b 0 rfl) rfl)) ?_
    have e9 : (sl.ver == r.x.ver) = same := by
     rw [← hsame]
     by_cases h2 : sl.ver = r.x.ver
     ·simp [h1, h2]
     ·simp [h1, h2]
    refine qu rfl rfl rfl rfl (fun _ => h) (fun _ => qe rfl rfl (q9 (v' := .bool same) (gq rfl rfl) (congrArg Value.bool e9))) ?_
    refine cpv rfl rfl rfl rfl h rfl (jl rfl rfl rfl) ?_
    exact qp ⟨(), zz3, h⟩
   ·refine qu rfl rfl rfl rfl (fun _ => h) (fun _ => qe rfl rfl (q9 (v' := .bool false) (gq rfl rfl) (by congr 1; rw [beq_eq_false_iff_ne]; exact h1))) ?_
    have e9 : same = false := by rw [← hsame]; simp [h1]
    subst e9
    refine cpv rfl rfl rfl rfl h rfl (jl rfl rfl rfl) ?_; refine Yz ?_; refine qu rfl rfl rfl rfl (fun _ => h) (fun _ => qt rfl rfl) (qu rfl rfl rfl rfl (fun _ => h) (fun _ => qt rfl rfl) (qu rfl rfl rfl rfl (fun _ => h) (fun _ => qt rfl rfl) (qu rfl rfl rfl rfl (fun _ => h) (fun _ => qt rfl rfl) (qu rfl rfl rfl rfl (fun _ => h) (fun _ => qt rfl rfl) (qu rfl rfl rfl rfl (fun _ => h) (fun _ => qt rfl rfl) ?_))))); refine qu rfl rfl rfl rfl (fun _ => h) (fun _ => qt rfl rfl) (qu rfl rfl rfl rfl (fun _ => h) (fun _ => qt rfl rfl) (cpv rfl rfl rfl rfl h rfl (je rfl rfl rfl) ?_))
    exact qp ⟨(), zz3, h⟩
 clear h
 rintro _ w e h
 have h1 : St w0 (IsRun t r :: IsSh p s :: OwnS g.a4 g.c4 X.opn :: OwnPr g.a5 g.c5 X.chunks :: pt b5 (.cells (g.cells X).toArray 85 (0, 0)) :: l) w := (St.run (r := r)).2 ⟨q, h⟩
 replace h : St w0 (IsRun t r :: IsSh p s :: l) w := h1.x [2, 3, 4]
 refine ql same rfl (fun hs => ?_) (fun hs => ?_)
 ·rw [if_pos hs] at key
  rw [key]
  refine Y10 ?_
  refine qw rfl (qg rfl (prog_answer hans h) ?_)
  clear h h1
  rintro _ w ⟨rfl, h⟩
  refine Y7 ?_
  exact qv (qk (bq1 ⟨rfl, h⟩))
 ·rw [if_neg (by rw [hs]; decide)] at key
  rw [key]
  refine Yk ?_; refine Y10 ?_
  refine qw rfl (qg rfl (prog_leave hans.leave h) ?_)
  clear h h1
  rintro _ w ⟨rfl, h⟩
  rw [hv] at h
  obtain ⟨r2, s2⟩ := v
  dsimp only at h ⊢
  obtain ⟨q2, h⟩ := (St.run' (r := r2)).1 h
  refine Y2 ?_; refine Y5 ?_
  refine qh (qq (v := .iz r2.fails) rfl (h.b 0 rfl) rfl) rfl ?_
  refine Y1b ?_; refine Yh ?_
  refine qw rfl (qn 0 h rfl (show _ = Value.iz (wI (r2.fails + 1)) from rfl) rfl rfl rfl rfl fun w h => ?_)
  replace h : St w0 (RunPt t { r2 with fails := wI (r2.fails + 1) } q2 :: (r2.rows q2 ++ (IsSh p s2 :: l))) w := h
  refine Y2 ?_; refine Y5 ?_
  refine qw rfl (qn 0 h rfl (show _ = Value.iz 0 from rfl) rfl rfl rfl rfl fun w h => ?_)
  refine Yl ?_; refine Y7 ?_
  exact qv (qk (bq1 ⟨rfl, (St.run' (r := { r2 with fails := wI (r2.fails + 1), ph := 0 })).2 ⟨q2, h⟩⟩))
end
end
section
section
variable {w0 w : World} {l : List HProp} {p t : Nat} {T : Tb} {r : Run} {s : Shd} {q : RunQ}
def On.zero : On := ⟨0, 0, Snp.zero, false, 0⟩
namespace Tb
def on (T : Tb) (id : Int) : On := (mget id T.l).getD ⟨0, 0, Snp.zero, false, 0⟩
def mine (T : Tb) (id who : Int) : Option On := match mget id T.l with
 | none => none
 | some o => if o.used = true ∧ o.who = who then some o else none
def use (T : Tb) (id who : Int) : Int × Tb := match mget id T.l with
 | none => (3, T)
 | some o => if o.used = true ∧ o.who ≠ who then (8, T) else (0, ⟨T.last, mset id { o with used := true, who := who } T.l⟩)
def free (T : Tb) (id who : Int) : Tb := match T.mine id who with
 | none => T
 | some o => ⟨T.last, mset id { o with used := false } T.l⟩
def move (T : Tb) (id who n : Int) : Tb := match T.mine id who with
 | none => T
 | some o => ⟨T.last, mset id { o with told := wI (o.told + max n 0) } T.l⟩
end Tb
theorem tb_get (id : Int) : mget id T.V.l = (mget id T.l).map On.V := gu On.V id T.l
theorem tb_set (id : Int) (o : On) : mset id o.V T.V.l = (Tb.V ⟨T.last, mset id o T.l⟩).l := gt On.V id o T.l
theorem tb_no {id who : Int} (hm : T.mine id who = none) : ∀ o, mget id T.V.l = some o → ¬ o.by who := by
 intro o ho hb
 rw [tb_get] at ho
 unfold Tb.mine at hm
 cases hg : mget id T.l with
 | none => rw [hg] at ho; cases ho
 | some x =>
  rw [hg] at ho hm
  obtain rfl : x.V = o := Un ho
  dsimp only at hm
  rw [if_pos (show x.used = true ∧ x.who = who from hb)] at hm
  cases hm
theorem tb_yes {id who : Int} {o : On} (hm : T.mine id who = some o) : mget id T.l = some o ∧ mget id T.V.l = some o.V ∧ o.V.by who := by
 rw [tb_get]
 unfold Tb.mine at hm
 cases hg : mget id T.l with
 | none => rw [hg] at hm; cases hm
 | some x =>
  rw [hg] at hm
  dsimp only at hm
  split at hm
  ·rename_i hc
   obtain rfl : x = o := Un hm
   exact ⟨rfl, rfl, hc⟩
  ·cases hm
theorem tb_At (id : Int) (h : St w0 (IsTab p T.V :: l) w) : Ret prog 65 [.pz p, .iz id] w fun v w' =>
  ∃ a1 c1 a2 c2, v = .tuple [.iz (T.on id).series, .agg ((T.on id).x.V.cells a1 c1 a2 c2).toArray, .iz (T.on id).told, .bool (mget id T.l).isSome].toArray ∧ St w0 (OwnPr a1 c1 (T.on id).x.parts :: OwnS a2 c2 (T.on id).x.tail :: IsTab p T.V :: l) w' := by
 unfold Tb.on
 cases hg : mget id T.l with
 | none =>
  refine (iter_At0 id h (by rw [tb_get, hg]; rfl)).mono ?_
  rintro v w ⟨rfl, h⟩
  exact ⟨none, 0, none, 0, rfl, (h.ownNil 57 2).ownNil 168 5⟩
 | some o =>
  refine (iter_At1 id (o := o.V) h (by rw [tb_get, hg]; rfl)).mono ?_
  rintro v w ⟨a1, c1, a2, c2, rfl, h⟩
  exact ⟨a1, c1, a2, c2, rfl, h⟩
theorem tb_Use (id who : Int) (h : St w0 (IsTab p T.V :: l) w) : Ret prog 100 [.pz p, .iz id, .iz who] w fun v w' =>
  v = .iz (T.use id who).1 ∧ St w0 (IsTab p (T.use id who).2.V :: l) w' := by
 unfold Tb.use
 cases hg : mget id T.l with
 | none => exact iter_Use0 id who h (by rw [tb_get, hg]; rfl)
 | some o =>
  dsimp only
  by_cases hc : o.used = true ∧ o.who ≠ who
  ·rw [if_pos hc]
   exact iter_UseW id who (o := o.V) h (by rw [tb_get, hg]; rfl) hc.1 hc.2
  ·rw [if_neg hc]
   refine (iter_Use1 id who (o := o.V) h (by rw [tb_get, hg]; rfl) (fun hu => Wu fun hw => hc ⟨hu, hw⟩)).mono ?_
   rintro v w ⟨rfl, h⟩
   have e := tb_set (T := T) id { o with used := true, who := who }
   refine ⟨rfl, ?_⟩
   show St w0 (IsTab p ⟨T.last, (Tb.V ⟨T.last, mset id { o with used := true, who := who } T.l⟩).l⟩ :: l) w
   rw [← e]; exact h
theorem tb_Free (id who : Int) (h : St w0 (IsTab p T.V :: l) w) : Ret prog 102 [.pz p, .iz id, .iz who] w fun v w' =>
  v = .bool (T.mine id who).isSome ∧ St w0 (IsTab p (T.free id who).V :: l) w' := by
 unfold Tb.free
 cases hm : T.mine id who with
 | none => exact iter_Free0 id who h (tb_no hm)
 | some o =>
  obtain ⟨_, h1, h2⟩ := tb_yes hm
  refine (iter_Free1 id who h h1 h2).mono ?_
  rintro v w ⟨rfl, h⟩
  have e := tb_set (T := T) id { o with used := false }
  refine ⟨rfl, ?_⟩
  show St w0 (IsTab p ⟨T.last, (Tb.V ⟨T.last, mset id { o with used := false } T.l⟩).l⟩ :: l) w
  rw [← e]; exact h
theorem tb_Move (id who n : Int) (h : St w0 (IsTab p T.V :: l) w) : Ret prog 101 [.pz p, .iz id, .iz who, .iz n] w fun v w' =>
  v = .bool (T.mine id who).isSome ∧ St w0 (IsTab p (T.move id who n).V :: l) w' := by
 unfold Tb.move
 cases hm : T.mine id who with
 | none => exact iter_Move0 id who n h (tb_no hm)
 | some o =>
  obtain ⟨_, h1, h2⟩ := tb_yes hm
  refine (iter_Move1 id who n h h1 h2).mono ?_
  rintro v w ⟨rfl, h⟩
  have e := tb_set (T := T) id { o with told := wI (o.told + max n 0) }
  refine ⟨rfl, ?_⟩
  show St w0 (IsTab p ⟨T.last, (Tb.V ⟨T.last, mset id { o with told := wI (o.told + max n 0) } T.l⟩).l⟩ :: l) w
  rw [← e]; exact h
theorem tb_Close (id who : Int) {o : On} (hm : T.mine id who = some o) (h : St w0 (IsTab p T.V :: l) w) : Ret prog 72 [.pz p, .iz id, .iz who] w fun v w' =>
  ∃ a1 c1 a2 c2, v = .tuple [.agg (o.x.V.cells a1 c1 a2 c2).toArray, .bool true].toArray ∧ St w0 (OwnPr a1 c1 o.x.parts :: OwnS a2 c2 o.x.tail :: IsTab p (Tb.V ⟨T.last, mdel id T.l⟩) :: l) w' := by
 obtain ⟨_, h1, h2⟩ := tb_yes hm
 refine (iter_Close1 id who h h1 h2).mono ?_
 rintro v w ⟨a1, c1, a2, c2, rfl, h⟩
 refine ⟨a1, c1, a2, c2, rfl, ?_⟩
 have e : (Tb.V ⟨T.last, mdel id T.l⟩).l = mdel id T.V.l := (mdel_map On.V id T.l).symm
 show St w0 (_ :: _ :: IsTab p ⟨T.last, (Tb.V ⟨T.last, mdel id T.l⟩).l⟩ :: l) w
 rw [e]; exact h
theorem tb_Count (h : St w0 (IsTab p T.V :: l) w) : Ret prog 21 [.pz p] w fun v w' => v = .iz (T.l.length : Int) ∧ St w0 (IsTab p T.V :: l) w' := by
 refine (iter_Count h).mono ?_
 rintro v w ⟨rfl, h⟩
 exact ⟨by show Value.iz ((T.l.map fun p => (p.1, p.2.V)).length : Int) = _; rw [Vq], h⟩
theorem tb_Open {x : Snp} {a1 a2 : Option Addr} {c1 c2 : Nat} (series : Int) (h : St w0 (IsTab p T.V :: l) w) (h8 : T.l.length < 8) (hfree : mget (T.last + 1) T.l = none) (hl0 : 0 ≤ T.last) (hl1 : T.last < 4611686018427387904)
  (hp : x.parts.length * 40 ≤ 140737488355328) (ht : x.tail.length * 16 ≤ 140737488355328) (hr1 : Reads w0 l 5 a1 x.parts.length (prtsV x.parts)) (hr2 : Reads w0 l 2 a2 x.tail.length (smpsV x.tail)) :
  Ret prog 64 [.pz p, .iz series, .agg (x.V.cells a1 c1 a2 c2).toArray] w fun v w' =>
  v = .tuple [.iz (T.last + 1), .bool true].toArray ∧ St w0 (IsTab p (Tb.V ⟨T.last + 1, mset (T.last + 1) ⟨series, 0, x, false, 0⟩ T.l⟩) :: l) w' := by
 have hw : x.V.Wf := ⟨prts_one _, ji _, hp, ht⟩
 refine (iter_Open1 hw series h (by show (T.l.map fun p => (p.1, p.2.V)).length < 8; rw [Vq]; exact h8) (by show mget (T.last + 1) T.V.l = none; rw [tb_get, hfree]; rfl) hl0 hl1 (fun w' h' => hr1.at_ h') (fun w' h' => hr2.at_ h')).mono ?_
 rintro v w ⟨rfl, h⟩
 refine ⟨rfl, ?_⟩
 have e := tb_set (T := T) (T.last + 1) ⟨series, 0, x, false, 0⟩
 show St w0 (IsTab p ⟨T.last + 1, (Tb.V ⟨T.last, mset (T.last + 1) ⟨series, 0, x, false, 0⟩ T.l⟩).l⟩ :: l) w
 rw [← e]; exact h
end
end
section
section
variable {w0 w : World} {l : List HProp} {t p : Nat} {r : Run} {s : Shd} {q : RunQ}
theorem Run.mine_eq (r : Run) (s : Shd) : r.mine s = s.t.mine r.o.iter r.who := rfl
theorem Run.free_eq (r : Run) (s : Shd) : r.free s = ({ r with using_ := false }, { s with t := s.t.free r.o.iter r.who }) := by
 unfold Run.free Tb.free
 rw [Run.mine_eq]
 cases s.t.mine r.o.iter r.who <;> rfl
theorem Run.use_eq (r : Run) (s : Shd) : r.use s = if (s.t.use r.o.iter r.who).1 = 0 then ({ r with using_ := true }, { s with t := (s.t.use r.o.iter r.who).2 }, 1, true)
  else if (s.t.use r.o.iter r.who).1 = 8 then (r, s, 0, false) else ((r.refuse s 3).1, (r.refuse s 3).2.1, (r.refuse s 3).2.2, false) := by
 unfold Run.use
 cases hg : mget r.o.iter s.t.l with
 | none =>
  have e : s.t.use r.o.iter r.who = (3, s.t) := by unfold Tb.use; rw [hg]
  rw [e]; rfl
 | some o =>
  dsimp only
  by_cases hc : o.used = true ∧ o.who ≠ r.who
  ·have e : s.t.use r.o.iter r.who = (8, s.t) := by unfold Tb.use; rw [hg]; dsimp only; rw [if_pos hc]
   rw [if_pos hc, e]; rfl
  ·have e : s.t.use r.o.iter r.who = (0, ⟨s.t.last, mset r.o.iter { o with used := true, who := r.who } s.t.l⟩) := by unfold Tb.use; rw [hg]; dsimp only; rw [if_neg hc]
   rw [if_neg hc, e]; rfl
theorem Tb.use_same (T : Tb) (id who : Int) : (T.use id who).1 = 0 ∨ (T.use id who).2 = T ∧ ((T.use id who).1 = 8 ∨ (T.use id who).1 = 3) := by
 unfold Tb.use
 cases mget id T.l with
 | none => exact .inr ⟨rfl, .inr rfl⟩
 | some o =>
  dsimp only
  split
  ·exact .inr ⟨rfl, .inl rfl⟩
  ·exact .inl rfl
theorem run_open (h : St w0 (IsRun t r :: IsSh p s :: l) w) : ∃ q, St w0 (RunPt t r q :: IsSh p s :: (r.rows q ++ l)) w := by
 obtain ⟨q, h⟩ := (St.run (r := r)).1 h
 exact ⟨q, h.o [0, 10]⟩
theorem j8 (h : St w0 (RunPt t r q :: IsSh p s :: (r.rows q ++ l)) w) : St w0 (IsRun t r :: IsSh p s :: l) w := (St.run (r := r)).2 ⟨q, h.o [0, 2, 3, 4, 5, 6, 7, 8, 9, 10]⟩
theorem prog_free (h : St w0 (RunPt t r q :: IsSh p s :: l) w) :
  Ret prog 69 [.pz t, .pz p] w fun v w' => v = .tuple #[] ∧ St w0 (RunPt t (r.free s).1 q :: IsSh p (r.free s).2 :: l) w' := by
 rw [Run.free_eq]
 obtain ⟨k, h⟩ := (St.shd (s := s)).1 (h.f 1)
 replace h : St w0 (IsTab k.t s.t.V :: RunPt t r q :: ShPt p k :: IsDir k.d s.d :: IsCache k.c s.c :: IsStore k.b s.b :: l) w := h.o [4, 5]
 refine en func69 results69 ntmps69 ?_
 refine qo ?_
 refine jn [0, 1, 2, 3, 4, 5, 6, 7, 8, 9, 10, 11, 12, 13] none (fun w => St w0 (RunPt t r q :: ShPt p k :: IsDir k.d s.d :: IsCache k.c s.c :: IsStore k.b s.b :: l) w) O1 O1 ?_
 have hs := h.drew
 clear h
 generalize w.drew = w1 at hs ⊢
 have h := hs.drop
 refine Y3 ?_
 refine qj rfl rfl rfl rfl h (fun _ h => qb rfl (qq (v := .pointer (some ⟨k.t, 0, none⟩)) rfl (h.b 1 rfl) rfl)) ?_
 refine Y1n ?_
 refine qj rfl rfl rfl rfl h (fun _ h => qb rfl (qq (v := .iz r.o.iter) rfl (h.b 0 rfl) rfl)) ?_
 refine Y3 ?_
 refine qj rfl rfl rfl rfl h (fun _ h => qb rfl (qq (v := .iz r.who) rfl (h.b 0 rfl) rfl)) ?_
 refine Yg ?_
 refine qm 13 rfl rfl rfl rfl ?_
 refine qg rfl (tb_Free r.o.iter r.who hs) ?_
 clear h hs
 rintro _ w ⟨rfl, hs⟩
 have h := hs.drop
 refine ⟨fun _ => h, ?_⟩
 refine qp ?_
 refine Y3a ?_
 refine qw rfl (qn 1 hs rfl (show _ = Value.bool false from rfl) rfl rfl rfl rfl fun w h => ?_)
 replace h : St w0 (IsTab k.t (s.t.free r.o.iter r.who).V :: RunPt t { r with using_ := false } q :: ShPt p k :: IsDir k.d s.d :: IsCache k.c s.c :: IsStore k.b s.b :: l) w := h
 refine qv (bq0n ⟨rfl, ?_⟩)
 exact ((St.shd (s := { s with t := s.t.free r.o.iter r.who })).2 ⟨k, h.o [2, 3, 4, 5, 0]⟩).f 1
theorem prog_use (h : St w0 (IsRun t r :: IsSh p s :: l) w) :
  Ret prog 66 [.pz t, .pz p] w fun v w' => v = .tuple [.iz (r.use s).2.2.1, .bool (r.use s).2.2.2].toArray ∧ St w0 (IsRun t (r.use s).1 :: IsSh p (r.use s).2.1 :: l) w' := by
 have key := Run.use_eq r s
 have hu := Tb.use_same s.t r.o.iter r.who
 obtain ⟨z, hz⟩ : ∃ z, s.t.use r.o.iter r.who = z := ⟨_, rfl⟩
 obtain ⟨q, h⟩ := run_open h
 obtain ⟨k, h⟩ := (St.shd (s := s)).1 (h.f 1)
 replace h : St w0 (IsTab k.t s.t.V :: RunPt t r q :: ShPt p k :: IsDir k.d s.d :: IsCache k.c s.c :: IsStore k.b s.b :: (r.rows q ++ l)) w := h.o [4, 5]
 refine en func66 results66 ntmps66 ?_
 refine Y3z ?_; refine qo ?_; refine qo ?_
 refine jn [0, 1, 2, 3, 4, 5, 6, 7, 8, 9, 10, 11, 12, 13] none (fun w => St w0 (RunPt t r q :: ShPt p k :: IsDir k.d s.d :: IsCache k.c s.c :: IsStore k.b s.b :: (r.rows q ++ l)) w) O1 O1 ?_
 have hs := h.drew
 clear h
 generalize w.drew = w1 at hs ⊢
 have h := hs.drop
 refine Y3 ?_
 refine qj rfl rfl rfl rfl h (fun _ h => qb rfl (qq (v := .pointer (some ⟨k.t, 0, none⟩)) rfl (h.b 1 rfl) rfl)) ?_
 refine Y1n ?_
 refine qj rfl rfl rfl rfl h (fun _ h => qb rfl (qq (v := .iz r.o.iter) rfl (h.b 0 rfl) rfl)) ?_
 refine Y3 ?_
 refine qj rfl rfl rfl rfl h (fun _ h => qb rfl (qq (v := .iz r.who) rfl (h.b 0 rfl) rfl)) ?_
 refine Yg ?_
 refine qm 13 rfl rfl rfl rfl ?_
 refine qg rfl (tb_Use r.o.iter r.who hs) ?_
 clear h hs
 rw [hz] at key hu ⊢
 obtain ⟨e, T'⟩ := z
 dsimp only at key hu ⊢
 rintro _ w ⟨rfl, hs⟩
 have h := hs.drop
 refine ⟨fun _ => h, ?_⟩
 refine qp ?_
 refine Yi ?_; refine Y2t ?_
 by_cases h0 : e = 0
 ·rw [if_pos h0] at key
  rw [key]
  refine qz (.bool true) (by congr 1; rw [beq_iff_eq]; exact h0) ?_
  refine Y2l ?_; refine Y5 ?_
  refine qw rfl (qn 1 hs rfl (show _ = Value.bool true from rfl) rfl rfl rfl rfl fun w h => ?_)
  replace h : St w0 (IsTab k.t T'.V :: RunPt t { r with using_ := true } q :: ShPt p k :: IsDir k.d s.d :: IsCache k.c s.c :: IsStore k.b s.b :: (r.rows q ++ l)) w := h
  have h1 : St w0 (IsSh p { s with t := T' } :: RunPt t { r with using_ := true } q :: (r.rows q ++ l)) w := (St.shd (s := { s with t := T' })).2 ⟨k, h.o [2, 3, 4, 5, 0]⟩
  refine Yl ?_; refine Y4l ?_
  exact qv (qk (bq2 ⟨rfl, j8 (r := { r with using_ := true }) (h1.f 1)⟩))
 rw [if_neg h0] at key
 obtain ⟨hT, he⟩ := hu.resolve_left h0
 subst hT
 have h1 : St w0 (IsSh p s :: RunPt t r q :: (r.rows q ++ l)) w := (St.shd (s := s)).2 ⟨k, hs.o [2, 3, 4, 5, 0]⟩
 have h2 := j8 (h1.f 1)
 refine qz (.bool false) (by congr 1; rw [beq_eq_false_iff_ne]; exact h0) ?_
 refine Y2e ?_
 by_cases h8 : e = 8
 ·rw [if_pos h8] at key
  rw [key]
  refine qz (.bool true) (by congr 1; rw [beq_iff_eq]; exact h8) ?_
  refine Y2l ?_; refine Y13 ?_; refine Y8 ?_
  exact qv (qk (bq2 ⟨rfl, h2⟩))
 rw [if_neg h8] at key
 rw [key]
 refine qz (.bool false) (by congr 1; rw [beq_eq_false_iff_ne]; exact h8) ?_
 refine Ya ?_; refine Y1q ?_; refine Ym ?_
 refine qw rfl (qg rfl (gf 3 h2) ?_)
 clear h h1 h2 hs
 rintro _ w ⟨rfl, h⟩
 refine Y4l ?_
 exact qv (qk (bq2 ⟨rfl, h⟩))
theorem Run.hand_eq (r : Run) (s : Shd) (L : List Smp) : r.hand s L = ({ r with using_ := false, over := true, res := ⟨0, 0, L⟩ }, { s with t := (s.t.move r.o.iter r.who (L.length : Int)).free r.o.iter r.who }, 2) := by
 have h1 : (match r.mine s with | none => s | some o => { s with t := ⟨s.t.last, mset r.o.iter { o with told := wI (o.told + max (L.length : Int) 0) } s.t.l⟩ }) = { s with t := s.t.move r.o.iter r.who (L.length : Int) } := by
  unfold Tb.move
  rw [Run.mine_eq]
  cases s.t.mine r.o.iter r.who <;> rfl
 unfold Run.hand
 dsimp only
 have h2 : ∀ s1 : Shd, ((r.free s1).1.stop (r.free s1).2 ⟨0, 0, L⟩ 2) = ({ r with using_ := false, over := true, res := ⟨0, 0, L⟩ }, { s1 with t := s1.t.free r.o.iter r.who }, 2) := by
  intro s1
  rw [Run.free_eq]; rfl
 rw [h2]
 have h3 := congrArg (fun s1 : Shd => (({ s1 with t := s1.t.free r.o.iter r.who } : Shd))) h1
 exact congrArg (fun s1 : Shd => (({ r with using_ := false, over := true, res := ⟨0, 0, L⟩ } : Run), s1, (2 : Int))) h3
theorem prog_hand {L : List Smp} {a : Option Addr} {c : Nat} (hn : L.length ≤ 1048576) (hr : Reads w0 (r.rows q ++ l) 2 a L.length (smpsV L)) (h : St w0 (RunPt t r q :: IsSh p s :: (r.rows q ++ l)) w) :
  Ret prog 67 [.pz t, .pz p, .slice a L.length c] w fun v w' => v = .iz (r.hand s L).2.2 ∧ St w0 (IsRun t (r.hand s L).1 :: IsSh p (r.hand s L).2.1 :: l) w' := by
 rw [Run.hand_eq]
 obtain ⟨k, h⟩ := (St.shd (s := s)).1 (h.f 1)
 replace h : St w0 (IsTab k.t s.t.V :: RunPt t r q :: ShPt p k :: IsDir k.d s.d :: IsCache k.c s.c :: IsStore k.b s.b :: (r.rows q ++ l)) w := h.o [4, 5]
 refine en func67 results67 ntmps67 ?_
 refine Yr ?_; refine qo ?_
 refine jn [0, 1, 2, 3, 4, 5, 6, 7, 8, 9, 10, 11, 12, 13, 14, 15] none (fun w => St w0 (RunPt t r q :: ShPt p k :: IsDir k.d s.d :: IsCache k.c s.c :: IsStore k.b s.b :: (r.rows q ++ l)) w) O1 O1 ?_
 have hs := h.drew
 clear h
 generalize w.drew = w1 at hs ⊢
 have h := hs.drop
 refine Y3 ?_
 refine qj rfl rfl rfl rfl h (fun _ h => qb rfl (qq (v := .pointer (some ⟨k.t, 0, none⟩)) rfl (h.b 1 rfl) rfl)) ?_
 refine Y1n ?_
 refine qj rfl rfl rfl rfl h (fun _ h => qb rfl (qq (v := .iz r.o.iter) rfl (h.b 0 rfl) rfl)) ?_
 refine Y3 ?_
 refine qj rfl rfl rfl rfl h (fun _ h => qb rfl (qq (v := .iz r.who) rfl (h.b 0 rfl) rfl)) ?_
 refine Y1z ?_; refine Y2y ?_; refine Yg ?_
 refine qm 15 rfl rfl rfl rfl ?_
 refine qg rfl (tb_Move r.o.iter r.who (L.length : Int) hs) ?_
 clear h hs
 rintro _ w ⟨rfl, hs⟩
 have h := hs.drop
 refine ⟨fun _ => h, ?_⟩
 refine qp ?_
 clear h
 obtain ⟨s1, hs1⟩ : ∃ s1 : Shd, s1 = { s with t := s.t.move r.o.iter r.who (L.length : Int) } := ⟨_, rfl⟩
 have h : St w0 (RunPt t r q :: IsSh p s1 :: (r.rows q ++ l)) w := by
  rw [hs1]
  exact ((St.shd (s := { s with t := s.t.move r.o.iter r.who (L.length : Int) })).2 ⟨k, hs.o [2, 3, 4, 5, 0]⟩).f 1
 clear hs
 refine Y10 ?_
 refine qw rfl (qg rfl (prog_free h) ?_)
 clear h
 rw [Run.free_eq]
 rintro _ w ⟨rfl, h⟩
 dsimp only at h
 refine Y1a ?_; refine Yn ?_
 refine qw rfl (qg rfl (clone_smps (xs := smpsV L) h (fun w' h' => ((hr.cons).cons).at_ h') (ji _) O0) ?_)
 clear h
 rintro _ w ⟨o, oc, rfl, _, h⟩
 refine qh (qf (r := (⟨0, 0, L⟩ : Res).C o oc) rfl) rfl ?_
 have h1 : St w0 (IsRun t { r with using_ := false } :: OwnS o oc L :: IsSh p { s1 with t := s1.t.free r.o.iter r.who } :: l) w := (j8 (r := { r with using_ := false }) (l := OwnS o oc L :: l) (h.o [1, 2, 3, 4, 5, 6, 7, 8, 9, 10, 11])).o [0, 2]
 refine qw rfl (qg rfl (gh (res := ⟨0, 0, L⟩) 2 h1) ?_)
 clear h h1
 rintro _ w ⟨rfl, h⟩
 refine Y7 ?_
 rw [hs1] at h
 exact qv (qk (bq1 ⟨rfl, h⟩))
end
end
section
section
variable {w0 w : World} {l : List HProp} {t p : Nat} {r : Run} {s : Shd} {q : RunQ}
structure Run.OpenOk (r : Run) (s : Shd) : Prop where
 fits : Dir.Fits s.d
 free : mget (s.t.last + 1) s.t.l = none
 last0 : 0 ≤ s.t.last
 last1 : s.t.last < 4611686018427387904
theorem look_mem {D : List Plc} {id : Int} {sl : SlotV} (h : Dir.look D id = some sl) : ∃ p ∈ D, p.s = sl := by
 unfold Dir.look at h
 cases ha : Dir.at_ D id with
 | none => rw [ha] at h; cases h
 | some x =>
  rw [ha] at h
  dsimp only at h
  split at h
  ·cases h
  ·refine ⟨x, ?_, Un h⟩
   unfold Dir.at_ at ha
   split at ha
   ·exact Uj ha
   ·cases ha
theorem prog_open (hok : r.OpenOk s) (h : St w0 (IsRun t r :: IsSh p s :: l) w) :
  Ret prog 39 [.pz t, .pz p] w fun v w' => v = .iz (r.open_ s).2.2 ∧ St w0 (IsRun t (r.open_ s).1 :: IsSh p (r.open_ s).2.1 :: l) w' := by
 obtain ⟨hfits, hfree, hl0, hl1⟩ := hok
 have key : r.open_ s = match Dir.look s.d r.o.series with
  | none => (r, s, 0)
  | some sl => if sl.there = false then r.refuse s 3 else if s.t.l.length ≥ 8 then r.refuse s 5 else match s.b.hold [] (sl.snap r.o.F r.o.To).parts with
   | (false, b) => r.stop { s with b := b } ⟨7, 0, []⟩ 3
   | (true, b) => r.stop { s with b := b, t := ⟨s.t.last + 1, mset (s.t.last + 1) ⟨r.o.series, 0, sl.snap r.o.F r.o.To, false, 0⟩ s.t.l⟩ } ⟨0, s.t.last + 1, []⟩ 2 := by
  unfold Run.open_
  cases Dir.look s.d r.o.series with
  | none => rfl
  | some sl =>
   dsimp only
   split
   ·rfl
   ·split
    ·rfl
    ·cases s.b.hold [] (sl.snap r.o.F r.o.To).parts with | mk g b => cases g <;> rfl
 obtain ⟨q, h⟩ := run_open h
 obtain ⟨k, h⟩ := (St.shd (s := s)).1 (h.f 1)
 have hfold : ∀ {w : World} {b : Sto} {T : Tb}, St w0 (ShPt p k :: IsDir k.d s.d :: IsCache k.c s.c :: IsStore k.b b :: IsTab k.t T.V :: RunPt t r q :: (r.rows q ++ l)) w → St w0 (IsRun t r :: IsSh p { s with b := b, t := T } :: l) w := by
  intro w b T h
  exact j8 (((St.shd (s := { s with b := b, t := T })).2 ⟨k, h⟩).f 1)
 replace h : St w0 (IsDir k.d s.d :: ShPt p k :: RunPt t r q :: IsCache k.c s.c :: IsStore k.b s.b :: IsTab k.t s.t.V :: (r.rows q ++ l)) w := h.o [1, 0, 5, 2, 3, 4]
 obtain ⟨X, hX⟩ : ∃ X, (Dir.look s.d r.o.series).getD SlotV.zero = X := ⟨_, rfl⟩
 refine en func39 results39 ntmps39 ?_
 refine Yr ?_
 refine qi (Γ := Q4 × Nat) (fun g => [(0, .pz t), (1, .pz p), (5, .pointer (some ⟨g.2, 0, none⟩)), (6, .bool (Dir.look s.d r.o.series).isSome)])
  (fun g w => St w0 (OwnS g.1.a4 g.1.c4 X.opn :: OwnPr g.1.a5 g.1.c5 X.chunks :: pt g.2 (.cells (g.1.cells X).toArray 85 (0, 0)) :: IsDir k.d s.d :: ShPt p k :: RunPt t r q :: IsCache k.c s.c :: IsStore k.b s.b :: IsTab k.t s.t.V :: (r.rows q ++ l)) w) ?_ ?_
 ·refine c_anyR [0, 1, 2, 3, 4, 5, 6, 7, 8, 9, 10, 11, 14, 12, 13, 15] (some 14) (fun w => St w0 (IsDir k.d s.d :: ShPt p k :: RunPt t r q :: IsCache k.c s.c :: IsStore k.b s.b :: IsTab k.t s.t.V :: (r.rows q ++ l)) w) O1 O1 h.drew fun w h => ?_
  refine Y3 ?_
  refine qj rfl rfl rfl rfl h (fun _ h => qb rfl (qq (v := .pointer (some ⟨k.d, 0, none⟩)) rfl (h.b 1 rfl) rfl)) ?_
  refine Y1n ?_
  refine qj rfl rfl rfl rfl h (fun _ h => qb rfl (qq (v := .iz r.o.series) rfl (h.b 2 rfl) rfl)) ?_
  refine Y4k ?_
  refine j6 9 13 rfl rfl rfl rfl rfl rfl ?_ ?_
  ·refine qg rfl (dire_LookQ hfits r.o.series h) ?_
   clear h
   rintro _ w ⟨g, rfl, h1⟩
   rw [hX] at h1 ⊢
   have h := h1.drop.drop
   refine ⟨fun _ => h, ?_⟩
   refine Y2a ?_; refine Y11 ?_
   refine qm 13 rfl rfl rfl rfl ?_
   refine qc h1 fun b5 w h1 => ?_
   clear h
   have h := h1.drop.drop.drop
   refine ⟨fun _ => h, ?_⟩
   refine Yq ?_
   refine jz 14 none rfl rfl rfl rfl ?_
   refine qy (vs := g.cells X) 0 h1 rfl rfl rfl rfl rfl rfl rfl fun w h => ?_
   refine jx h ?_
   refine Y1f ?_
   exact qp ⟨(g, b5), zz4, h.o [1, 2, 0]⟩
  ·refine qc h fun b5 w h1 => ?_
   clear h
   have h := h1.drop
   refine ⟨fun _ => h, ?_⟩
   refine Y2q ?_
   refine qm 9 rfl rfl rfl rfl ?_
   refine qg rfl (dire_LookQ hfits r.o.series (h1.f 1)) ?_
   clear h h1
   rintro _ w ⟨g, rfl, h1⟩
   rw [hX] at h1 ⊢
   have h := (h1.x [3]).drop.drop
   refine ⟨fun _ => h, ?_⟩
   refine Y2a ?_; refine Yq ?_
   refine jz 14 none rfl rfl rfl rfl ?_
   refine qy (vs := g.cells X) 3 h1 rfl rfl rfl rfl rfl rfl rfl fun w h => ?_
   refine jx h ?_
   refine Y1f ?_
   exact qp ⟨(g, b5), zz4, h.o [0, 1, 3, 2]⟩
 clear h
 rintro ⟨g, b5⟩ w e h
 dsimp only at h
 refine Y38 ?_; refine Y1 ?_
 cases hl : Dir.look s.d r.o.series with
 | none =>
  rw [hl] at key
  replace key : r.open_ s = (r, s, 0) := key
  rw [key]
  refine Y1d ?_; refine Y2l ?_; refine Y13 ?_
  exact qv (qk (bq1 ⟨rfl, hfold (b := s.b) (T := s.t) ((h.x [0, 1, 2]).o [1, 0, 3, 4, 5, 2])⟩))
 | some sl =>
 rw [hl] at key hX
 replace hX : sl = X := hX
 subst hX
 obtain ⟨pl, hpl, hps⟩ := look_mem hl
 have hsz := hfits pl hpl
 rw [hps] at hsz
 dsimp only at key
 refine Y1d ?_; refine Y39 ?_; refine Y22 ?_
 refine qh (qq (v := .bool sl.there) rfl (h.b 2 rfl) rfl) rfl ?_
 by_cases ht : sl.there = false
 ·rw [if_pos ht] at key
  rw [key, ht]
  refine Yy ?_; refine Y2l ?_
  have h1 := hfold (b := s.b) (T := s.t) ((h.x [0, 1, 2]).o [1, 0, 3, 4, 5, 2])
  refine Ym ?_
  refine qw rfl (qg rfl (gf 3 h1) ?_)
  clear h h1
  rintro _ w ⟨rfl, h⟩
  refine Y7 ?_
  exact qv (qk (bq1 ⟨rfl, h⟩))
 rw [if_neg ht] at key
 have ht' : sl.there = true := by simpa using ht
 rw [ht']
 refine Yy ?_; refine Y39 ?_; refine Y5 ?_
 refine qh (qq (v := .pointer (some ⟨k.t, 0, none⟩)) rfl (h.b 4 rfl) rfl) rfl ?_
 refine qw rfl (qg rfl (tb_Count (T := s.t) (h.f 8)) ?_)
 clear h
 rintro _ w ⟨rfl, h⟩
 replace h : St w0 (OwnS g.a4 g.c4 sl.opn :: OwnPr g.a5 g.c5 sl.chunks :: pt b5 (.cells (g.cells sl).toArray 85 (0, 0)) :: IsDir k.d s.d :: ShPt p k :: RunPt t r q :: IsCache k.c s.c :: IsStore k.b s.b :: IsTab k.t s.t.V :: (r.rows q ++ l)) w := h.o [1, 2, 3, 4, 5, 6, 7, 8, 0]
 refine Y1m ?_
 by_cases h8 : s.t.l.length ≥ 8
 ·rw [if_pos h8] at key
  rw [key]
  refine qz (.bool true) O3 ?_
  refine Y2l ?_
  have h1 := hfold (b := s.b) (T := s.t) ((h.x [0, 1, 2]).o [1, 0, 3, 4, 5, 2])
  refine Ym ?_
  refine qw rfl (qg rfl (gf 5 h1) ?_)
  clear h h1
  rintro _ w ⟨rfl, h⟩
  refine Y7 ?_
  exact qv (qk (bq1 ⟨rfl, h⟩))
 rw [if_neg h8] at key
 refine qz (.bool false) O4 ?_
 refine Ya ?_; refine Y1q ?_
 obtain ⟨x, hx⟩ : ∃ x, sl.snap r.o.F r.o.To = x := ⟨_, rfl⟩
 rw [hx] at key
 have hxp : x.parts.length ≤ 1048576 := by rw [← hx]; exact Ux (partsIn_le _ _ _) hsz.2
 have hxt : x.tail.length ≤ 1048576 := by rw [← hx]; exact Ux (tailIn_le _ _ _) hsz.1
 have hof : ∀ {w : World} {M : List HProp}, St w0 (M ++ OwnS g.a4 g.c4 sl.opn :: OwnPr g.a5 g.c5 sl.chunks :: pt b5 (.cells (g.cells sl).toArray 85 (0, 0)) :: IsDir k.d s.d :: ShPt p k :: RunPt t r q :: IsCache k.c s.c :: IsStore k.b s.b :: IsTab k.t s.t.V :: (r.rows q ++ l)) w →
   Ret prog 62 [.agg (g.cells sl).toArray, .iz r.o.F, .iz r.o.To] w fun v w' => ∃ a1 a2, v = .agg (x.V.cells a1 x.parts.length a2 x.tail.length).toArray ∧
    St w0 (OwnPr a1 x.parts.length x.parts :: OwnS a2 x.tail.length x.tail :: (M ++ OwnS g.a4 g.c4 sl.opn :: OwnPr g.a5 g.c5 sl.chunks :: pt b5 (.cells (g.cells sl).toArray 85 (0, 0)) :: IsDir k.d s.d :: ShPt p k :: RunPt t r q :: IsCache k.c s.c :: IsStore k.b s.b :: IsTab k.t s.t.V :: (r.rows q ++ l))) w' := by
  intro w M h
  subst hx
  exact snap_Of r.o.F r.o.To h (fun w' h' => (Reads.own.more M).at_ h') (fun w' h' => ((Reads.own.more [_]).more M).at_ h') O0 O0
 refine qi (Γ := (Option Addr × Option Addr) × Nat) (fun g => [(0, .pz t), (1, .pz p), (7, .pointer (some ⟨g.2, 0, none⟩))])
  (fun g w => St w0 (OwnPr g.1.1 x.parts.length x.parts :: OwnS g.1.2 x.tail.length x.tail :: pt g.2 (.cells (x.V.cells g.1.1 x.parts.length g.1.2 x.tail.length).toArray 87 (0, 0)) :: IsDir k.d s.d :: ShPt p k :: RunPt t r q :: IsCache k.c s.c :: IsStore k.b s.b :: IsTab k.t s.t.V :: (r.rows q ++ l)) w) ?_ ?_
 ·refine jb (some 13) (fun w => St w0 (OwnS g.a4 g.c4 sl.opn :: OwnPr g.a5 g.c5 sl.chunks :: pt b5 (.cells (g.cells sl).toArray 85 (0, 0)) :: IsDir k.d s.d :: ShPt p k :: RunPt t r q :: IsCache k.c s.c :: IsStore k.b s.b :: IsTab k.t s.t.V :: (r.rows q ++ l)) w) O1 O1 h.drew fun w h => ?_
  refine qj rfl rfl rfl rfl h (fun _ h => qb rfl (qx (l := g.cells sl) rfl rfl (qd (h.b 2 rfl) rfl))) ?_
  refine Y1n ?_
  refine qj rfl rfl rfl rfl h (fun _ h => qb rfl (qq (v := .iz r.o.F) rfl (h.b 5 rfl) rfl)) ?_
  refine Y1n ?_
  refine qj rfl rfl rfl rfl h (fun _ h => qb rfl (qq (v := .iz r.o.To) rfl (h.b 5 rfl) rfl)) ?_
  refine Y11 ?_
  refine j6 11 12 rfl rfl rfl rfl rfl rfl ?_ ?_
  ·refine qg rfl (hof (M := []) h) ?_
   clear h
   rintro _ w ⟨a1, a2, rfl, h1⟩
   have h := h1.drop.drop
   refine ⟨fun _ => h, ?_⟩
   refine Yq ?_
   refine qm 12 rfl rfl rfl rfl ?_
   refine qc h1 fun b7 w h1 => ?_
   clear h
   have h := h1.drop.drop.drop
   refine ⟨fun _ => h, ?_⟩
   refine Yg ?_
   refine jy 13 rfl rfl rfl ?_
   refine qy (vs := x.V.cells a1 x.parts.length a2 x.tail.length) 0 h1 rfl rfl rfl rfl rfl rfl rfl fun w h => ?_
   exact ⟨((a1, a2), b7), zz3, (h.x [3, 4, 5]).o [1, 2, 0]⟩
  ·refine qc h fun b7 w h1 => ?_
   clear h
   have h := h1.drop
   refine ⟨fun _ => h, ?_⟩
   refine Yq ?_
   refine qm 11 rfl rfl rfl rfl ?_
   refine qg rfl (hof (M := [_]) h1) ?_
   clear h h1
   rintro _ w ⟨a1, a2, rfl, h1⟩
   have h := h1.drop.drop.drop
   refine ⟨fun _ => h, ?_⟩
   refine Yg ?_
   refine jy 13 rfl rfl rfl ?_
   refine qy (vs := x.V.cells a1 x.parts.length a2 x.tail.length) 2 h1 rfl rfl rfl rfl rfl rfl rfl fun w h => ?_
   exact ⟨((a1, a2), b7), zz3, h.x [3, 4, 5]⟩
 clear h hof
 rintro ⟨⟨a1, a2⟩, b7⟩ w e h
 dsimp only at h
 replace h : St w0 (IsStore k.b s.b :: OwnPr a1 x.parts.length x.parts :: OwnS a2 x.tail.length x.tail :: pt b7 (.cells (x.V.cells a1 x.parts.length a2 x.tail.length).toArray 87 (0, 0)) :: IsDir k.d s.d :: ShPt p k :: RunPt t r q :: IsCache k.c s.c :: IsTab k.t s.t.V :: (r.rows q ++ l)) w := h.o [7]
 refine qo (qo ?_)
 refine jn [0, 1, 2, 3, 4, 5, 6] none (fun w => St w0 (OwnPr a1 x.parts.length x.parts :: OwnS a2 x.tail.length x.tail :: pt b7 (.cells (x.V.cells a1 x.parts.length a2 x.tail.length).toArray 87 (0, 0)) :: IsDir k.d s.d :: ShPt p k :: RunPt t r q :: IsCache k.c s.c :: IsTab k.t s.t.V :: (r.rows q ++ l)) w) O1 O1 ?_
 have hs := h.drew
 clear h
 generalize w.drew = w1 at hs ⊢
 have h := hs.drop
 refine Y3 ?_
 refine qj rfl rfl rfl rfl h (fun _ h => qb rfl (qq (v := .pointer (some ⟨k.b, 0, none⟩)) rfl (h.b 4 rfl) rfl)) ?_
 refine qj rfl rfl rfl rfl h (fun _ h => qb rfl (qx (l := x.V.cells a1 x.parts.length a2 x.tail.length) rfl rfl (qd (h.b 2 rfl) rfl))) ?_
 refine Yq ?_
 refine qm 5 rfl rfl rfl rfl ?_
 refine qg rfl (snap_Hold (x := x.V) (Ps := x.parts) rfl (by show x.parts.length < _; omega) (by show x.parts.length ≤ _; exact Ug _) hs (fun w' h' => h'.own_rd)) ?_
 clear h hs
 rintro _ w ⟨rfl, hs⟩
 have h := hs.drop
 refine ⟨fun _ => h, ?_⟩
 cases hh : s.b.hold [] x.parts with
 | mk gg b =>
 rw [hh] at key hs
 dsimp only at hs
 cases gg with
 | false =>
  replace key : r.open_ s = r.stop { s with b := b } ⟨7, 0, []⟩ 3 := key
  rw [key]
  refine cpv rfl rfl rfl rfl h rfl (q_not rfl) ?_
  refine qp ?_
  clear h
  have h := hfold (b := b) (T := s.t) ((hs.x [1, 2, 3]).o [2, 1, 4, 0, 5, 3])
  clear hs
  refine Y1l ?_; refine Ym ?_
  refine qh (qf (r := (⟨7, 0, []⟩ : Res).C none 0) rfl) rfl ?_
  refine qw rfl (qg rfl (gh (res := ⟨7, 0, []⟩) 3 ((h.ownNil 57 2).f 1)) ?_)
  clear h
  rintro _ w ⟨rfl, h⟩
  refine Y7 ?_
  exact qv (qk (bq1 ⟨rfl, h⟩))
 | true =>
  replace key : r.open_ s = r.stop { s with b := b, t := ⟨s.t.last + 1, mset (s.t.last + 1) ⟨r.o.series, 0, x, false, 0⟩ s.t.l⟩ } ⟨0, s.t.last + 1, []⟩ 2 := key
  rw [key]
  refine cpv rfl rfl rfl rfl h rfl (q_not rfl) ?_
  refine qp ?_
  clear h
  refine Y1q ?_
  replace hs : St w0 (IsTab k.t s.t.V :: IsStore k.b b :: OwnPr a1 x.parts.length x.parts :: OwnS a2 x.tail.length x.tail :: pt b7 (.cells (x.V.cells a1 x.parts.length a2 x.tail.length).toArray 87 (0, 0)) :: IsDir k.d s.d :: ShPt p k :: RunPt t r q :: IsCache k.c s.c :: (r.rows q ++ l)) w := hs.o [8]
  refine qo ?_
  refine jn [0, 1, 2, 3, 4, 5, 6, 7, 8, 9, 10, 11, 12, 14, 13, 15] none (fun w => St w0 (IsStore k.b b :: OwnPr a1 x.parts.length x.parts :: OwnS a2 x.tail.length x.tail :: pt b7 (.cells (x.V.cells a1 x.parts.length a2 x.tail.length).toArray 87 (0, 0)) :: IsDir k.d s.d :: ShPt p k :: RunPt t r q :: IsCache k.c s.c :: (r.rows q ++ l)) w) O1 O1 ?_
  have hz := hs.drew
  clear hs
  generalize w.drew = w1 at hz ⊢
  have h := hz.drop
  refine Y3 ?_
  refine qj rfl rfl rfl rfl h (fun _ h => qb rfl (qq (v := .pointer (some ⟨k.t, 0, none⟩)) rfl (h.b 5 rfl) rfl)) ?_
  refine Y1n ?_
  refine qj rfl rfl rfl rfl h (fun _ h => qb rfl (qq (v := .iz r.o.series) rfl (h.b 6 rfl) rfl)) ?_
  refine qj rfl rfl rfl rfl h (fun _ h => qb rfl (qx (l := x.V.cells a1 x.parts.length a2 x.tail.length) rfl rfl (qd (h.b 3 rfl) rfl))) ?_
  refine Y2q ?_
  refine qm 10 rfl rfl rfl rfl ?_
  refine qg rfl (tb_Open (x := x) r.o.series hz O0 hfree hl0 hl1 O0 O0 (Reads.own.more [_]) (Reads.own.more [_, _])) ?_
  clear h hz
  rintro _ w ⟨rfl, hz⟩
  have h := hz.drop
  refine ⟨fun _ => h, ?_⟩
  refine Y2a ?_; refine Y2r ?_; refine Y1f ?_
  refine qp ?_
  clear h
  have h := hfold (b := b) (T := ⟨s.t.last + 1, mset (s.t.last + 1) ⟨r.o.series, 0, x, false, 0⟩ s.t.l⟩) ((hz.x [2, 3, 4]).o [3, 2, 5, 1, 0, 4])
  clear hz
  refine Y40 ?_
  refine qh (qf (r := (⟨0, s.t.last + 1, []⟩ : Res).C none 0) rfl) rfl ?_
  refine qw rfl (qg rfl (gh (res := ⟨0, s.t.last + 1, []⟩) 2 ((h.ownNil 57 2).f 1)) ?_)
  clear h
  rintro _ w ⟨rfl, h⟩
  refine Y7 ?_
  exact qv (qk (bq1 ⟨rfl, h⟩))
end
end
section
section
variable {w0 w : World} {l : List HProp} {t p : Nat} {r : Run} {s : Shd} {q : RunQ}
def Tb.Fits (T : Tb) : Prop := ∀ id o, mget id T.l = some o → o.x.parts.length ≤ 1048576 ∧ o.x.tail.length ≤ 1048576 ∧ 0 ≤ o.told ∧ o.told ≤ 1152921504606846976
theorem use_mine {r r2 : Run} {s s2 : Shd} {d : Int} (hz : r.use s = (r2, s2, d, true)) : ∃ o, mget r.o.iter s.t.l = some o ∧ s2.t.mine r2.o.iter r2.who = some { o with used := true, who := r.who } ∧ s2.b = s.b ∧ r2 = { r with using_ := true } ∧ s2 = { s with t := ⟨s.t.last, mset r.o.iter { o with used := true, who := r.who } s.t.l⟩ } := by
 unfold Run.use at hz
 cases hg : mget r.o.iter s.t.l with
 | none => rw [hg] at hz; cases hz
 | some o =>
  rw [hg] at hz
  dsimp only at hz
  split at hz
  ·cases hz
  ·cases hz
   refine ⟨o, rfl, ?_, rfl, rfl, rfl⟩
   unfold Tb.mine
   dsimp only
   rw [jj, if_pos rfl]
   dsimp only
   rw [if_pos ⟨rfl, rfl⟩]
theorem prog_shut (hfit : s.t.Fits) (h : St w0 (IsRun t r :: IsSh p s :: l) w) :
  Ret prog 41 [.pz t, .pz p] w fun v w' => v = .iz (r.shut s).2.2 ∧ St w0 (IsRun t (r.shut s).1 :: IsSh p (r.shut s).2.1 :: l) w' := by
 obtain ⟨⟨r2, s2, d, ok⟩, hz⟩ : ∃ z, r.use s = z := ⟨_, rfl⟩
 have key : r.shut s = if ok then ({ r2 with using_ := false } : Run).stop { s2 with t := ⟨s2.t.last, mdel r2.o.iter s2.t.l⟩, b := s2.b.leave (((s2.t.mine r2.o.iter r2.who).map (·.x)).getD Snp.zero).parts } ⟨0, 0, []⟩ 2 else (r2, s2, d) := by
  unfold Run.shut
  rw [hz]
  cases ok <;> rfl
 rw [key]
 refine en func41 results41 ntmps41 ?_
 refine Yr ?_; refine Y10 ?_
 refine qw rfl (qg rfl (prog_use h) ?_)
 clear h
 rintro _ w ⟨rfl, h⟩
 rw [hz] at h ⊢
 dsimp only at h ⊢
 refine Y4a ?_; refine Y2u ?_
 cases ok with
 | false =>
  refine Y1d ?_; refine Ye ?_; refine Y6 ?_; refine Y7 ?_
  exact qv (qk (bq1 ⟨rfl, h⟩))
 | true =>
 refine Y1d ?_; refine Y9 ?_
 obtain ⟨o, hgo, hm, hb, hr2, hs2⟩ := use_mine hz
 rw [if_pos rfl]
 rw [hm]
 have hpar := (hfit _ _ hgo).1
 obtain ⟨X, hX⟩ : ∃ X, o.x = X := ⟨_, rfl⟩
 show Cd _ _ _ _ _ _
 rw [hX] at hpar
 obtain ⟨q, h⟩ := run_open h
 obtain ⟨k, h⟩ := (St.shd (s := s2)).1 (h.f 1)
 replace h : St w0 (IsTab k.t s2.t.V :: RunPt t r2 q :: ShPt p k :: IsDir k.d s2.d :: IsCache k.c s2.c :: IsStore k.b s2.b :: (r2.rows q ++ l)) w := h.o [4, 5]
 have hclose : ∀ {w : World} {M : List HProp}, St w0 (IsTab k.t s2.t.V :: M) w → Ret prog 72 [.pointer (some ⟨k.t, 0, none⟩), .iz r2.o.iter, .iz r2.who] w fun v w' =>
   ∃ a1 c1 a2 c2, v = .tuple [.agg (X.V.cells a1 c1 a2 c2).toArray, .bool true].toArray ∧ St w0 (OwnPr a1 c1 X.parts :: OwnS a2 c2 X.tail :: IsTab k.t (Tb.V ⟨s2.t.last, mdel r2.o.iter s2.t.l⟩) :: M) w' := by
  intro w M h
  subst hX
  exact tb_Close r2.o.iter r2.who (o := { o with used := true, who := r.who }) hm h
 refine qi (Γ := (Option Addr × Nat × Option Addr × Nat) × Nat) (fun g => [(0, .pz t), (1, .pz p), (7, .pointer (some ⟨g.2, 0, none⟩))])
  (fun g w => St w0 (OwnPr g.1.1 g.1.2.1 X.parts :: OwnS g.1.2.2.1 g.1.2.2.2 X.tail :: pt g.2 (.cells (X.V.cells g.1.1 g.1.2.1 g.1.2.2.1 g.1.2.2.2).toArray 87 (0, 0)) :: IsTab k.t (Tb.V ⟨s2.t.last, mdel r2.o.iter s2.t.l⟩) :: RunPt t r2 q :: ShPt p k :: IsDir k.d s2.d :: IsCache k.c s2.c :: IsStore k.b s2.b :: (r2.rows q ++ l)) w) ?_ ?_
 ·refine jn [0, 1, 2, 3, 4, 5, 6, 7, 8, 9, 10, 11, 12, 13, 14, 15, 18, 16, 17, 19] (some 18) (fun w => St w0 (RunPt t r2 q :: ShPt p k :: IsDir k.d s2.d :: IsCache k.c s2.c :: IsStore k.b s2.b :: (r2.rows q ++ l)) w) O1 O1 ?_
  have hs := h.drew
  clear h
  generalize w.drew = w1 at hs ⊢
  have h := hs.drop
  refine Y3 ?_
  refine qj rfl rfl rfl rfl h (fun _ h => qb rfl (qq (v := .pointer (some ⟨k.t, 0, none⟩)) rfl (h.b 1 rfl) rfl)) ?_
  refine Y1n ?_
  refine qj rfl rfl rfl rfl h (fun _ h => qb rfl (qq (v := .iz r2.o.iter) rfl (h.b 0 rfl) rfl)) ?_
  refine Y3 ?_
  refine qj rfl rfl rfl rfl h (fun _ h => qb rfl (qq (v := .iz r2.who) rfl (h.b 0 rfl) rfl)) ?_
  refine Y4k ?_
  refine j6 13 17 rfl rfl rfl rfl rfl rfl ?_ ?_
  ·refine qg rfl (hclose hs) ?_
   clear h hs
   rintro _ w ⟨a1, c1, a2, c2, rfl, h1⟩
   have h := h1.drop.drop.drop
   refine ⟨fun _ => h, ?_⟩
   refine Y2a ?_; refine Y11 ?_
   refine qm 17 rfl rfl rfl rfl ?_
   refine qc h1 fun b7 w h1 => ?_
   clear h
   have h := h1.drop.drop.drop.drop
   refine ⟨fun _ => h, ?_⟩
   refine Yq ?_
   refine jz 18 none rfl rfl rfl rfl ?_
   refine qy (vs := X.V.cells a1 c1 a2 c2) 0 h1 rfl rfl rfl rfl rfl rfl rfl fun w h => ?_
   refine jx h ?_
   refine Y1f ?_
   exact qp ⟨((a1, c1, a2, c2), b7), zz3, h.o [1, 2, 0]⟩
  ·refine qc hs fun b7 w h1 => ?_
   clear h hs
   have h := h1.drop.drop
   refine ⟨fun _ => h, ?_⟩
   refine Y2q ?_
   refine qm 13 rfl rfl rfl rfl ?_
   refine qg rfl (hclose (h1.f 1)) ?_
   clear h h1
   rintro _ w ⟨a1, c1, a2, c2, rfl, h1⟩
   have h := h1.drop.drop.drop.drop
   refine ⟨fun _ => h, ?_⟩
   refine Y2a ?_; refine Yq ?_
   refine jz 18 none rfl rfl rfl rfl ?_
   refine qy (vs := X.V.cells a1 c1 a2 c2) 3 h1 rfl rfl rfl rfl rfl rfl rfl fun w h => ?_
   refine jx h ?_
   refine Y1f ?_
   exact qp ⟨((a1, c1, a2, c2), b7), zz3, h.o [0, 1, 3]⟩
 clear h hclose
 rintro ⟨⟨a1, c1, a2, c2⟩, b7⟩ w e h
 dsimp only at h
 refine Y5 ?_
 refine qw rfl (qn 4 h rfl (show _ = Value.bool false from rfl) rfl rfl rfl rfl fun w h => ?_)
 replace h : St w0 (OwnPr a1 c1 X.parts :: OwnS a2 c2 X.tail :: pt b7 (.cells (X.V.cells a1 c1 a2 c2).toArray 87 (0, 0)) :: IsTab k.t (Tb.V ⟨s2.t.last, mdel r2.o.iter s2.t.l⟩) :: RunPt t { r2 with using_ := false } q :: ShPt p k :: IsDir k.d s2.d :: IsCache k.c s2.c :: IsStore k.b s2.b :: (r2.rows q ++ l)) w := h
 replace h : St w0 (IsStore k.b s2.b :: OwnPr a1 c1 X.parts :: OwnS a2 c2 X.tail :: pt b7 (.cells (X.V.cells a1 c1 a2 c2).toArray 87 (0, 0)) :: IsTab k.t (Tb.V ⟨s2.t.last, mdel r2.o.iter s2.t.l⟩) :: RunPt t { r2 with using_ := false } q :: ShPt p k :: IsDir k.d s2.d :: IsCache k.c s2.c :: (r2.rows q ++ l)) w := h.o [8]
 refine Y24 ?_
 refine jn [0, 1, 2, 3, 4, 5] none (fun w => St w0 (OwnPr a1 c1 X.parts :: OwnS a2 c2 X.tail :: pt b7 (.cells (X.V.cells a1 c1 a2 c2).toArray 87 (0, 0)) :: IsTab k.t (Tb.V ⟨s2.t.last, mdel r2.o.iter s2.t.l⟩) :: RunPt t { r2 with using_ := false } q :: ShPt p k :: IsDir k.d s2.d :: IsCache k.c s2.c :: (r2.rows q ++ l)) w) O1 O1 ?_
 have hs := h.drew
 clear h
 generalize w.drew = w1 at hs ⊢
 have h := hs.drop
 refine Y3 ?_
 refine qj rfl rfl rfl rfl h (fun _ h => qb rfl (qq (v := .pointer (some ⟨k.b, 0, none⟩)) rfl (h.b 5 rfl) rfl)) ?_
 refine qj rfl rfl rfl rfl h (fun _ h => qb rfl (qx (l := X.V.cells a1 c1 a2 c2) rfl rfl (qd (h.b 2 rfl) rfl))) ?_
 refine Yg ?_
 refine qm 5 rfl rfl rfl rfl ?_
 refine qg rfl (snap_Leave (x := X.V) (Ps := X.parts) rfl (by show X.parts.length < _; omega) hs (fun w' h' => h'.own_rd)) ?_
 clear h hs
 rintro _ w ⟨rfl, hs⟩
 have h := hs.drop
 refine ⟨fun _ => h, ?_⟩
 refine qp ?_
 clear h
 obtain ⟨s3, hs3⟩ : ∃ s3 : Shd, s3 = { s2 with t := ⟨s2.t.last, mdel r2.o.iter s2.t.l⟩, b := s2.b.leave X.parts } := ⟨_, rfl⟩
 have h1 : St w0 (IsSh p s3 :: RunPt t { r2 with using_ := false } q :: (r2.rows q ++ l)) w := by
  rw [hs3]
  exact (St.shd (s := { s2 with t := ⟨s2.t.last, mdel r2.o.iter s2.t.l⟩, b := s2.b.leave X.parts })).2 ⟨k, (hs.x [1, 2, 3]).o [3, 4, 5, 0, 1]⟩
 have h := j8 (r := { r2 with using_ := false }) (h1.f 1)
 clear h1 hs
 refine Ym ?_
 refine qh (qf (r := (⟨0, 0, []⟩ : Res).C none 0) rfl) rfl ?_
 refine qw rfl (qg rfl (gh (res := ⟨0, 0, []⟩) 2 ((h.ownNil 57 2).f 1)) ?_)
 clear h
 rintro _ w ⟨rfl, h⟩
 refine Y7 ?_
 rw [hs3] at h
 subst hX
 exact qv (qk (bq1 ⟨rfl, h⟩))
end
end
section
section
variable {w0 w : World} {l : List HProp} {t p : Nat} {r : Run} {s : Shd} {q : RunQ}
theorem Tk.leave1 (x : Tk) (C D : Cac) : (x.leave C).1 = (x.leave D).1 := by
 unfold Tk.leave
 split <;> rfl
theorem run_ext {A B C D : HProp} (h : St w0 (D :: A :: B :: C :: RunPt t r q :: (r.rows q ++ l)) w) : St w0 (RunPt t r q :: D :: (r.rows q ++ (A :: B :: C :: l))) w := by
 have h1 : St w0 (D :: A :: B :: C :: RunPt t r q :: OneH q.one r.one :: OwnS q.s.a4 q.s.c4 r.slot.opn :: OwnPr q.s.a5 q.s.c5 r.slot.chunks :: OwnS q.n.a4 q.n.c4 r.next.opn :: OwnPr q.n.a5 q.n.c5 r.next.chunks :: OwnPr q.pa q.pc r.x.parts :: OwnS q.ta q.tc r.x.tail :: OwnS q.ga q.gc r.got :: OwnS q.ra q.rc r.res.list :: l) w := h
 exact h1.o [4, 0, 5, 6, 7, 8, 9, 10, 11, 12, 13]
theorem run_ext1 {A D : HProp} (h : St w0 (A :: RunPt t r q :: D :: (r.rows q ++ l)) w) : St w0 (RunPt t r q :: D :: (r.rows q ++ (A :: l))) w := by
 have h1 : St w0 (A :: RunPt t r q :: D :: OneH q.one r.one :: OwnS q.s.a4 q.s.c4 r.slot.opn :: OwnPr q.s.a5 q.s.c5 r.slot.chunks :: OwnS q.n.a4 q.n.c4 r.next.opn :: OwnPr q.n.a5 q.n.c5 r.next.chunks :: OwnPr q.pa q.pc r.x.parts :: OwnS q.ta q.tc r.x.tail :: OwnS q.ga q.gc r.got :: OwnS q.ra q.rc r.res.list :: l) w := h
 exact h1.o [1, 2, 3, 4, 5, 6, 7, 8, 9, 10, 11]
def Run.fail (r : Run) (s : Shd) : Run × Shd := match r.one with
 | none => (r, s)
 | some x => ({ r with one := some (x.leave s.c).1 }, { s with c := (x.leave s.c).2 })
def Run.told_ (r : Run) (X : On) (n : Int) : List Smp :=
 let L := if r.i = (X.x.parts.length : Int) then r.got ++ X.x.tail else r.got
 let L := L.drop (min r.told (L.length : Int)).toNat
 L.take (min n (L.length : Int)).toNat
structure Run.TellOk (r : Run) (s : Shd) : Prop where
 fits : s.t.Fits
 part : r.ph = 2 → r.PartOk s (s.t.on r.o.iter).series ∧ (r.part s (s.t.on r.o.iter).series).2.1.c.Ok
 got : r.got.length ≤ 1048576
 told : r.ph ≠ 0 → r.ph ≠ 2 → 0 ≤ r.told
theorem Run.tell_eq (r : Run) (s : Shd) : r.tell s =
  if r.ph = 0 then if (r.use s).2.2.2 then
    if min (max r.o.N 0) 1000 = 0 then ({ (r.use s).1 with x := (s.t.on r.o.iter).x, told := (s.t.on r.o.iter).told, ph := 2 } : Run).hand (r.use s).2.1 []
    else ({ (r.use s).1 with x := (s.t.on r.o.iter).x, told := (s.t.on r.o.iter).told, ph := if (s.t.on r.o.iter).x.parts.length = 0 then 3 else 2 }, (r.use s).2.1, 1)
   else ((r.use s).1, (r.use s).2.1, (r.use s).2.2.1)
  else if r.ph = 2 then
   if (r.part s (s.t.on r.o.iter).series).2.2 ≠ 0 then
    (((r.part s (s.t.on r.o.iter).series).1.fail (r.part s (s.t.on r.o.iter).series).2.1).1.free ((r.part s (s.t.on r.o.iter).series).1.fail (r.part s (s.t.on r.o.iter).series).2.1).2).1.stop
     (((r.part s (s.t.on r.o.iter).series).1.fail (r.part s (s.t.on r.o.iter).series).2.1).1.free ((r.part s (s.t.on r.o.iter).series).1.fail (r.part s (s.t.on r.o.iter).series).2.1).2).2 ⟨(r.part s (s.t.on r.o.iter).series).2.2, 0, []⟩ 3
   else ({ (r.part s (s.t.on r.o.iter).series).1 with ph := if (r.part s (s.t.on r.o.iter).series).1.i = ((s.t.on r.o.iter).x.parts.length : Int) ∨ ((r.part s (s.t.on r.o.iter).series).1.got.length : Int) ≥ wI ((r.part s (s.t.on r.o.iter).series).1.told + min (max r.o.N 0) 1000) then 3 else 2 }, (r.part s (s.t.on r.o.iter).series).2.1, 1)
  else r.hand s (r.told_ (s.t.on r.o.iter) (min (max r.o.N 0) 1000)) := by
 unfold Run.tell
 have e : (mget r.o.iter s.t.l).getD ⟨0, 0, Snp.zero, false, 0⟩ = s.t.on r.o.iter := rfl
 rw [e]
 generalize s.t.on r.o.iter = X
 dsimp only
 by_cases p0 : r.ph = 0
 ·rw [if_pos p0, if_pos p0]
  generalize r.use s = z
  obtain ⟨a, b, c, d⟩ := z
  cases d <;> rfl
 ·rw [if_neg p0, if_neg p0]
  by_cases p2 : r.ph = 2
  ·rw [if_pos p2, if_pos p2]
   generalize r.part s X.series = z
   obtain ⟨a, b, c⟩ := z
   dsimp only
   by_cases hc : c ≠ 0
   ·rw [if_pos hc, if_pos hc]
    unfold Run.fail
    cases ho : a.one with
    | none => rfl
    | some x =>
     dsimp only
     rw [Tk.leave1 x (x.leave b.c).2 b.c]
   ·rw [if_neg hc, if_neg hc]
  ·rw [if_neg p2, if_neg p2]; rfl
theorem prog_tell (hT : Tz w0) (hok : r.TellOk s) (h : St w0 (IsRun t r :: IsSh p s :: l) w) :
  Ret prog 40 [.pz t, .pz p] w fun v w' => v = .iz (r.tell s).2.2 ∧ St w0 (IsRun t (r.tell s).1 :: IsSh p (r.tell s).2.1 :: l) w' := by
 obtain ⟨hfit, hpart, hgot, htold⟩ := hok
 have key := Run.tell_eq r s
 have hXf : (s.t.on r.o.iter).x.parts.length ≤ 1048576 ∧ (s.t.on r.o.iter).x.tail.length ≤ 1048576 := by
  unfold Tb.on
  cases hg : mget r.o.iter s.t.l with
  | none => exact ⟨Ud _, Ud _⟩
  | some o => exact ⟨(hfit _ _ hg).1, (hfit _ _ hg).2.1⟩
 obtain ⟨X, hX⟩ : ∃ X, s.t.on r.o.iter = X := ⟨_, rfl⟩
 obtain ⟨n, hn⟩ : ∃ n, min (max r.o.N 0) 1000 = n := ⟨_, rfl⟩
 have hn1 : 0 ≤ n ∧ n ≤ 1000 := by omega
 rw [hX] at key hpart hXf
 rw [hn] at key
 obtain ⟨q, h⟩ := run_open h
 refine en func40 results40 ntmps40 ?_
 refine Yr ?_; refine Y3q ?_
 refine qh (qq (v := .iz r.o.N) rfl (h.b 0 rfl) rfl) rfl ?_
 refine Y52 ?_
 refine qz (.iz n) (by rw [← hn]) ?_
 refine Y4 ?_
 obtain ⟨k, h⟩ := (St.shd (s := s)).1 (h.f 1)
 replace h : St w0 (IsTab k.t s.t.V :: RunPt t r q :: ShPt p k :: IsDir k.d s.d :: IsCache k.c s.c :: IsStore k.b s.b :: (r.rows q ++ l)) w := h.o [4, 5]
 have hat : ∀ {w : World} {M : List HProp}, St w0 (IsTab k.t s.t.V :: M) w → Ret prog 65 [.pointer (some ⟨k.t, 0, none⟩), .iz r.o.iter] w fun v w' =>
   ∃ a1 c1 a2 c2, v = .tuple [.iz X.series, .agg (X.x.V.cells a1 c1 a2 c2).toArray, .iz X.told, .bool (mget r.o.iter s.t.l).isSome].toArray ∧ St w0 (OwnPr a1 c1 X.x.parts :: OwnS a2 c2 X.x.tail :: IsTab k.t s.t.V :: M) w' := by
  intro w M h
  subst hX
  exact tb_At r.o.iter h
 refine qi (Γ := (Option Addr × Nat × Option Addr × Nat) × Nat) (fun g => [(0, .pz t), (1, .pz p), (5, .iz n), (6, .iz X.series), (7, .pointer (some ⟨g.2, 0, none⟩)), (8, .iz X.told)])
  (fun g w => St w0 (OwnPr g.1.1 g.1.2.1 X.x.parts :: OwnS g.1.2.2.1 g.1.2.2.2 X.x.tail :: pt g.2 (.cells (X.x.V.cells g.1.1 g.1.2.1 g.1.2.2.1 g.1.2.2.2).toArray 87 (0, 0)) :: IsTab k.t s.t.V :: RunPt t r q :: ShPt p k :: IsDir k.d s.d :: IsCache k.c s.c :: IsStore k.b s.b :: (r.rows q ++ l)) w) ?_ ?_
 ·refine jn [0, 1, 2, 3, 4, 5, 6, 7, 8, 9, 10, 11, 14, 16, 18, 12, 13, 15, 17, 19] (some 17) (fun w => St w0 (RunPt t r q :: ShPt p k :: IsDir k.d s.d :: IsCache k.c s.c :: IsStore k.b s.b :: (r.rows q ++ l)) w) O1 O1 ?_
  have hs := h.drew
  clear h
  generalize w.drew = w1 at hs ⊢
  have h := hs.drop
  refine Y3 ?_
  refine qj rfl rfl rfl rfl h (fun _ h => qb rfl (qq (v := .pointer (some ⟨k.t, 0, none⟩)) rfl (h.b 1 rfl) rfl)) ?_
  refine Y1n ?_
  refine qj rfl rfl rfl rfl h (fun _ h => qb rfl (qq (v := .iz r.o.iter) rfl (h.b 0 rfl) rfl)) ?_
  refine Y17 ?_; refine Y4k ?_
  refine j6 9 15 rfl rfl rfl rfl rfl rfl ?_ ?_
  ·refine qg rfl (hat hs) ?_
   clear h hs
   rintro _ w ⟨a1, c1, a2, c2, rfl, h1⟩
   have h := h1.drop.drop.drop
   refine ⟨fun _ => h, ?_⟩
   refine Y2a ?_; refine Y50 ?_; refine Y3o ?_
   refine qm 15 rfl rfl rfl rfl ?_
   refine qc h1 fun b7 w h1 => ?_
   clear h
   have h := h1.drop.drop.drop.drop
   refine ⟨fun _ => h, ?_⟩
   refine Y2r ?_; refine Y11 ?_
   refine jz 17 none rfl rfl rfl rfl ?_
   refine qy (vs := X.x.V.cells a1 c1 a2 c2) 0 h1 rfl rfl rfl rfl rfl rfl rfl fun w h => ?_
   refine jx h ?_
   refine Y2r ?_; refine Y1f ?_
   exact qp ⟨((a1, c1, a2, c2), b7), zz6, h.o [1, 2, 0]⟩
  ·refine qc hs fun b7 w h1 => ?_
   clear h hs
   have h := h1.drop.drop
   refine ⟨fun _ => h, ?_⟩
   refine Y17 ?_; refine Y2q ?_
   refine qm 9 rfl rfl rfl rfl ?_
   refine qg rfl (hat (h1.f 1)) ?_
   clear h h1
   rintro _ w ⟨a1, c1, a2, c2, rfl, h1⟩
   have h := h1.drop.drop.drop.drop
   refine ⟨fun _ => h, ?_⟩
   refine Y2a ?_; refine Y50 ?_; refine Y2r ?_; refine Y11 ?_
   refine jz 17 none rfl rfl rfl rfl ?_
   refine qy (vs := X.x.V.cells a1 c1 a2 c2) 3 h1 rfl rfl rfl rfl rfl rfl rfl fun w h => ?_
   refine jx h ?_
   refine Y2r ?_; refine Y1f ?_
   exact qp ⟨((a1, c1, a2, c2), b7), zz6, h.o [0, 1, 3]⟩
 clear h hat
 rintro ⟨⟨a1, c1, a2, c2⟩, b7⟩ w e h
 dsimp only at h
 have h0 : St w0 (IsSh p s :: OwnPr a1 c1 X.x.parts :: OwnS a2 c2 X.x.tail :: pt b7 (.cells (X.x.V.cells a1 c1 a2 c2).toArray 87 (0, 0)) :: RunPt t r q :: (r.rows q ++ l)) w :=
  (St.shd (s := s)).2 ⟨k, h.o [5, 6, 7, 8, 3]⟩
 clear h
 have h := run_ext h0
 clear h0
 obtain ⟨E, hE⟩ : ∃ E, (OwnPr a1 c1 X.x.parts :: OwnS a2 c2 X.x.tail :: pt b7 (.cells (X.x.V.cells a1 c1 a2 c2).toArray 87 (0, 0)) :: l) = E := ⟨_, rfl⟩
 have hx3 : ∀ {A B : HProp} {w : World}, St w0 (A :: B :: E) w → St w0 (A :: B :: l) w := by
  intro A B w h
  rw [← hE] at h
  exact h.x [2, 3, 4]
 rw [hE] at h
 refine Y2o ?_
 refine qh (qq (v := .iz r.ph) rfl (h.b 0 rfl) rfl) rfl ?_
 refine Y42 ?_
 by_cases p0 : r.ph = 0
 ·rw [if_pos p0] at key
  refine qz (.bool true) (by congr 1; rw [beq_iff_eq]; exact p0) ?_
  refine Y45 ?_
  refine qw rfl (qg rfl (prog_use (j8 h)) ?_)
  clear h
  rintro _ w ⟨rfl, h⟩
  obtain ⟨⟨r2, s2, d, ok⟩, hz⟩ : ∃ z, r.use s = z := ⟨_, rfl⟩
  rw [hz] at h key ⊢
  dsimp only at h key ⊢
  refine Y4a ?_; refine Y2u ?_
  cases ok with
  | false =>
   rw [if_neg O2] at key
   rw [key]
   refine Y1d ?_; refine Ye ?_; refine Y6 ?_; refine Y7 ?_
   exact qv (qk (bq1 ⟨rfl, hx3 h⟩))
  | true =>
  rw [if_pos rfl] at key
  refine Y1d ?_; refine Y9 ?_
  obtain ⟨q2, h⟩ := (St.run (r := r2)).1 h
  rw [← hE] at h
  refine Y10 ?_; refine Y23 ?_
  refine qh (qx (l := X.x.V.cells a1 c1 a2 c2) rfl rfl (qd (h.b 13 rfl) rfl)) rfl ?_
  refine Y0 ?_; refine Yh ?_
  refine qw rfl (qy (vs := X.x.V.cells a1 c1 a2 c2) 0 h rfl rfl rfl rfl rfl rfl rfl fun w h => ?_)
  replace h : St w0 (RunPt t { r2 with x := X.x } { q2 with pa := a1, pc := c1, ta := a2, tc := c2 } :: OneH q2.one r2.one :: OwnS q2.s.a4 q2.s.c4 r2.slot.opn :: OwnPr q2.s.a5 q2.s.c5 r2.slot.chunks :: OwnS q2.n.a4 q2.n.c4 r2.next.opn :: OwnPr q2.n.a5 q2.n.c5 r2.next.chunks :: OwnPr q2.pa q2.pc r2.x.parts :: OwnS q2.ta q2.tc r2.x.tail :: OwnS q2.ga q2.gc r2.got :: OwnS q2.ra q2.rc r2.res.list :: IsSh p s2 :: OwnPr a1 c1 X.x.parts :: OwnS a2 c2 X.x.tail :: pt b7 (.cells (X.x.V.cells a1 c1 a2 c2).toArray 87 (0, 0)) :: l) w := h
  refine Yh ?_
  refine qw rfl (qn 0 h rfl (show _ = Value.iz X.told from rfl) rfl rfl rfl rfl fun w h => ?_)
  replace h : St w0 (RunPt t { r2 with x := X.x, told := X.told } { q2 with pa := a1, pc := c1, ta := a2, tc := c2 } :: OneH q2.one r2.one :: OwnS q2.s.a4 q2.s.c4 r2.slot.opn :: OwnPr q2.s.a5 q2.s.c5 r2.slot.chunks :: OwnS q2.n.a4 q2.n.c4 r2.next.opn :: OwnPr q2.n.a5 q2.n.c5 r2.next.chunks :: OwnPr q2.pa q2.pc r2.x.parts :: OwnS q2.ta q2.tc r2.x.tail :: OwnS q2.ga q2.gc r2.got :: OwnS q2.ra q2.rc r2.res.list :: IsSh p s2 :: OwnPr a1 c1 X.x.parts :: OwnS a2 c2 X.x.tail :: pt b7 (.cells (X.x.V.cells a1 c1 a2 c2).toArray 87 (0, 0)) :: l) w := h
  refine Yh ?_
  refine qw rfl (qn 0 h rfl (show _ = Value.iz 2 from rfl) rfl rfl rfl rfl fun w h => ?_)
  obtain ⟨R, hR⟩ : ∃ R : Run, R = { r2 with x := X.x, told := X.told, ph := 2 } := ⟨_, rfl⟩
  obtain ⟨Q, hQ⟩ : ∃ Q : RunQ, Q = { q2 with pa := a1, pc := c1, ta := a2, tc := c2 } := ⟨_, rfl⟩
  replace h : St w0 (RunPt t R Q :: IsSh p s2 :: (R.rows Q ++ (pt b7 (.cells (X.x.V.cells a1 c1 a2 c2).toArray 87 (0, 0)) :: l))) w := by
   rw [hR, hQ]; exact (h.x [6, 7]).o [0, 8, 1, 2, 3, 4, 5, 9, 10, 6, 7]
  refine Y24 ?_; refine Y6 ?_; refine Yp ?_
  by_cases hn0 : n = 0
  ·rw [if_pos hn0, ← hR] at key
   rw [key]
   refine qz (.bool true) (by congr 1; rw [beq_iff_eq]; exact hn0) ?_
   refine Ye ?_; refine Y10 ?_
   refine qw rfl (qg rfl (prog_hand (L := []) (Ud _) Reads.nil h) ?_)
   clear h
   rintro _ w ⟨rfl, h⟩
   refine Y7 ?_
   exact qv (qk (bq1 ⟨rfl, h.x [2]⟩))
  rw [if_neg hn0] at key
  replace key : r.tell s = ({ R with ph := if X.x.parts.length = 0 then 3 else 2 }, s2, 1) := by rw [key, hR]
  rw [key]
  refine qz (.bool false) (by congr 1; rw [beq_eq_false_iff_ne]; exact hn0) ?_
  refine Y9 ?_
  refine qi (Γ := Unit) (fun _ => []) (fun _ w => St w0 (IsRun t { R with ph := if X.x.parts.length = 0 then 3 else 2 } :: IsSh p s2 :: pt b7 (.cells (X.x.V.cells a1 c1 a2 c2).toArray 87 (0, 0)) :: l) w) ?_ ?_
  ·refine Y22 ?_
   refine qh (qq (v := .slice a1 X.x.parts.length c1) rfl (h.b 11 rfl) rfl) rfl ?_
   refine Y16 ?_; refine Yp ?_
   by_cases h0 : X.x.parts.length = 0
   ·refine qz (.bool true) O10 ?_
    refine Y2m ?_; refine Yh ?_
    refine qw rfl (qn 0 h rfl (show _ = Value.iz 3 from rfl) rfl rfl rfl rfl fun w h => ?_)
    refine qv ⟨(), trivial, ?_⟩
    rw [if_pos h0]
    exact j8 (r := { R with ph := 3 }) h
   ·refine qz (.bool false) O5 ?_
    refine qv (qa rfl (qr ⟨(), trivial, ?_⟩))
    rw [if_neg h0]
    have e2 : ({ R with ph := 2 } : Run) = R := by rw [hR]
    rw [e2]
    exact j8 h
  clear h
  rintro _ w e h
  refine Y13 ?_
  exact qv (qk (bq1 ⟨rfl, h.x [2]⟩))
 rw [if_neg p0] at key
 refine qz (.bool false) (by congr 1; rw [beq_eq_false_iff_ne]; exact p0) ?_
 refine Y2e ?_
 by_cases p2 : r.ph = 2
 ·rw [if_pos p2] at key
  obtain ⟨hp1, hp2⟩ := hpart p2
  have hph := part_ph r s X.series
  refine qz (.bool true) (by congr 1; rw [beq_iff_eq]; exact p2) ?_
  refine Y2l ?_; refine qo ?_; refine Y10 ?_; refine Y0 ?_
  refine qw rfl (qg rfl (prog_part hT X.series hp1 (j8 h)) ?_)
  clear h
  rintro _ w ⟨rfl, h⟩
  obtain ⟨⟨r2, s2, e2⟩, hz⟩ : ∃ z, r.part s X.series = z := ⟨_, rfl⟩
  rw [hz] at h hp2 hph key ⊢
  dsimp only at h hp2 hph key ⊢
  refine Y41 ?_; refine Y1y ?_
  by_cases he : e2 = 0
  ·rw [if_neg (fun hh => hh he)] at key
   refine qz (.bool false) (by rw [he]; rfl) ?_
   refine Y9 ?_
   obtain ⟨q2, h⟩ := run_open h
   rw [← hE] at h
   obtain ⟨fin, hfin⟩ : ∃ fin : Bool, decide (r2.i = (X.x.parts.length : Int) ∨ (r2.got.length : Int) ≥ wI (r2.told + n)) = fin := ⟨_, rfl⟩
   replace key : r.tell s = ({ r2 with ph := if fin then 3 else 2 }, s2, 1) := by
    rw [key, ← hfin]
    by_cases hc : r2.i = (X.x.parts.length : Int) ∨ (r2.got.length : Int) ≥ wI (r2.told + n)
    ·rw [if_pos hc, if_pos O20]
    ·rw [if_neg hc, if_neg O20]
   rw [key]
   refine qi (Γ := Unit) (fun _ => []) (fun _ w => St w0 (IsRun t { r2 with ph := if fin then 3 else 2 } :: IsSh p s2 :: OwnPr a1 c1 X.x.parts :: OwnS a2 c2 X.x.tail :: pt b7 (.cells (X.x.V.cells a1 c1 a2 c2).toArray 87 (0, 0)) :: l) w) ?_ ?_
   ·refine qi (Γ := Unit) (fun _ => [(0, .pz t), (124, .bool fin)]) (fun _ w => St w0 (RunPt t r2 q2 :: IsSh p s2 :: (r2.rows q2 ++ (OwnPr a1 c1 X.x.parts :: OwnS a2 c2 X.x.tail :: pt b7 (.cells (X.x.V.cells a1 c1 a2 c2).toArray 87 (0, 0)) :: l))) w) ?_ ?_
    ·refine jb none (fun w => St w0 (RunPt t r2 q2 :: IsSh p s2 :: (r2.rows q2 ++ (OwnPr a1 c1 X.x.parts :: OwnS a2 c2 X.x.tail :: pt b7 (.cells (X.x.V.cells a1 c1 a2 c2).toArray 87 (0, 0)) :: l))) w) O1 O1 h.drew fun w h => ?_
     refine Y3 ?_
     refine qj rfl rfl rfl rfl h (fun _ h => qb rfl (qq (v := .iz r2.i) rfl (h.b 0 rfl) rfl)) ?_
     refine Yv ?_
     refine qj rfl rfl rfl rfl h (fun _ h => qb rfl (qq (v := .slice a1 X.x.parts.length c1) rfl (h.b 13 rfl) rfl)) ?_
     refine Y2y ?_
     by_cases hi : r2.i = (X.x.parts.length : Int)
     ·refine cpv rfl rfl rfl rfl h rfl (q9 (v' := .bool true) (gq rfl rfl) (by congr 1; rw [beq_iff_eq]; exact hi)) ?_
      have e9 : true = fin := by rw [← hfin]; simp [hi]
      subst e9
      refine Yz ?_; refine qu rfl rfl rfl rfl (fun _ => h) (fun _ => qt rfl rfl) (qu rfl rfl rfl rfl (fun _ => h) (fun _ => qt rfl rfl) (qu rfl rfl rfl rfl (fun _ => h) (fun _ => qt rfl rfl) (qu rfl rfl rfl rfl (fun _ => h) (fun _ => qt rfl rfl) (qu rfl rfl rfl rfl (fun _ => h) (fun _ => qt rfl rfl) (qu rfl rfl rfl rfl (fun _ => h) (fun _ => qt rfl rfl) ?_))))); refine qu rfl rfl rfl rfl (fun _ => h) (fun _ => qt rfl rfl) (qu rfl rfl rfl rfl (fun _ => h) (fun _ => qt rfl rfl) (qu rfl rfl rfl rfl (fun _ => h) (fun _ => qt rfl rfl) (qu rfl rfl rfl rfl (fun _ => h) (fun _ => qt rfl rfl) (qu rfl rfl rfl rfl (fun _ => h) (fun _ => qt rfl rfl) (qu rfl rfl rfl rfl (fun _ => h) (fun _ => qt rfl rfl) ?_))))); refine cpv rfl rfl rfl rfl h rfl (jl rfl rfl rfl) ?_
      exact qp ⟨(), zz2, h⟩
     ·refine cpv rfl rfl rfl rfl h rfl (q9 (v' := .bool false) (gq rfl rfl) (by congr 1; rw [beq_eq_false_iff_ne]; exact hi)) ?_
      have e9 : decide ((r2.got.length : Int) ≥ wI (r2.told + n)) = fin := by rw [← hfin]; simp [hi]
      refine Yz ?_; refine qu rfl rfl rfl rfl (fun _ => h) (fun _ => qe rfl rfl (j1 rfl)) (qu rfl rfl rfl rfl (fun _ => h) (fun _ => qe rfl rfl (q_nil rfl)) (qu rfl rfl rfl rfl (fun _ => h) (fun _ => qe rfl rfl (q_fa rfl)) ?_))
      refine qj rfl rfl rfl rfl h (fun _ h => qe rfl rfl (qq (v := .slice q2.ga r2.got.length q2.gc) rfl (h.b 0 rfl) rfl)) ?_
      refine qu rfl rfl rfl rfl (fun _ => h) (fun _ => qe rfl rfl (q_len rfl)) (qu rfl rfl rfl rfl (fun _ => h) (fun _ => qe rfl rfl (j1 rfl)) (qu rfl rfl rfl rfl (fun _ => h) (fun _ => qe rfl rfl (q_nil rfl)) (qu rfl rfl rfl rfl (fun _ => h) (fun _ => qe rfl rfl (q_fa rfl)) ?_)))
      refine qj rfl rfl rfl rfl h (fun _ h => qe rfl rfl (qq (v := .iz r2.told) rfl (h.b 0 rfl) rfl)) ?_
      refine qu rfl rfl rfl rfl (fun _ => h) (fun _ => qe rfl rfl (q_moveI rfl)) (qu rfl rfl rfl rfl (fun _ => h) (fun _ => qe rfl rfl (q_add rfl rfl)) ?_)
      refine qu rfl rfl rfl rfl (fun _ => h) (fun _ => qe rfl rfl (q9 (v' := .bool fin) (q_geq rfl rfl) (congrArg Value.bool e9))) ?_
      refine cpv rfl rfl rfl rfl h rfl (je rfl rfl rfl) ?_
      exact qp ⟨(), zz2, h⟩
    clear h
    rintro _ w e h
    refine ql fin rfl (fun hs => ?_) (fun hs => ?_)
    ·refine Y3a ?_
     refine qw rfl (qn 0 h rfl (show _ = Value.iz 3 from rfl) rfl rfl rfl rfl fun w h => ?_)
     refine qv ⟨(), trivial, ?_⟩
     rw [if_pos hs]; exact j8 (r := { r2 with ph := 3 }) h
    ·refine qr ⟨(), trivial, ?_⟩
     rw [if_neg (by rw [hs]; decide)]
     have e2 : ({ r2 with ph := 2 } : Run) = r2 := by
      rw [p2] at hph
      obtain ⟨_, _, ph, _, _, _, _, _, _, _, _, _, _, _, _, _⟩ := r2
      dsimp only at hph; subst hph; rfl
     rw [e2]; exact j8 h
   clear h
   rintro _ w e h
   refine Y13 ?_
   exact qv (qk (bq1 ⟨rfl, h.x [2, 3, 4]⟩))
  ·rw [if_pos he] at key
   rw [key]
   refine qz (.bool true) (by congr 1; rw [bne_iff_ne]; exact he) ?_
   refine Ye ?_
   obtain ⟨z, hz2⟩ : ∃ z, r2.fail s2 = z := ⟨_, rfl⟩
   refine qi (Γ := Unit) (fun _ => [(0, .pz t), (1, .pz p), (12, .iz e2)]) (fun _ w => St w0 (IsRun t z.1 :: IsSh p z.2 :: E) w) ?_ ?_
   ·have h0 := h
    obtain ⟨q2, h⟩ := (St.run (r := r2)).1 h
    refine Y5 ?_
    refine qh (qq (v := .pointer q2.one) rfl (h.b 0 rfl) rfl) rfl ?_
    unfold Run.fail at hz2
    cases ho : r2.one with
    | none =>
     rw [ho] at h hz2
     obtain ⟨h1, h⟩ := St.one0.1 (h.f 1)
     rw [h1]
     refine qh (q_nenil rfl rfl) rfl ?_
     refine qv (qa rfl (qr ⟨(), zz3, ?_⟩))
     rw [← hz2]
     exact h0
    | some x =>
     clear h0
     rw [ho] at h hz2
     obtain ⟨tk, h1, h⟩ := St.one1.1 (h.f 1)
     have hone : (r2.C q2)[36]? = some (.pz tk) := congrArg (fun o => some (Value.pointer o)) h1
     rw [h1]
     refine qh (q_nenil rfl rfl) rfl ?_
     refine Ye ?_
     obtain ⟨u, h⟩ := (St.shd (s := s2)).1 (h.f 10)
     replace h : St w0 (IsTk tk x :: IsCache u.c s2.c :: RunPt t r2 q2 :: ShPt p u :: IsDir u.d s2.d :: IsStore u.b s2.b :: IsTab u.t s2.t.V :: rowL r2 q2 E) w := h.o [5, 2, 6, 0, 1, 3, 4]
     refine jn [0, 1, 2, 3, 4, 5, 6, 7, 8] none (fun w => St w0 (RunPt t r2 q2 :: ShPt p u :: IsDir u.d s2.d :: IsStore u.b s2.b :: IsTab u.t s2.t.V :: rowL r2 q2 E) w) O1 O1 ?_
     have hs := h.drew
     clear h
     generalize w.drew = w1 at hs ⊢
     have h := hs.drop.drop
     refine Y3 ?_
     refine qj rfl rfl rfl rfl h (fun _ h => qb rfl (qq (v := .pz tk) rfl (h.b 0 rfl) hone)) ?_
     refine Y3 ?_
     refine qj rfl rfl rfl rfl h (fun _ h => qb rfl (qq (v := .pointer (some ⟨u.c, 0, none⟩)) rfl (h.b 1 rfl) rfl)) ?_
     refine Yg ?_
     refine qm 8 rfl rfl rfl rfl ?_
     refine qg rfl (take_Leave hp2 hs) ?_
     clear h hs
     intro _ w hs
     have h := hs.drop.drop
     refine ⟨fun _ => h, ?_⟩
     refine qp ⟨(), zz3, ?_⟩
     rw [← hz2]
     have h1' : St w0 (ShPt p u :: IsDir u.d s2.d :: IsCache u.c (x.leave s2.c).2 :: IsStore u.b s2.b :: IsTab u.t s2.t.V :: IsTk tk (x.leave s2.c).1 :: RunPt t r2 q2 :: rowL r2 q2 E) w := hs.o [3, 4, 1, 5, 6, 0, 2]
     have h2 : St w0 (IsSh p { s2 with c := (x.leave s2.c).2 } :: IsTk tk (x.leave s2.c).1 :: RunPt t r2 q2 :: rowL r2 q2 E) w := (St.shd (s := { s2 with c := (x.leave s2.c).2 })).2 ⟨u, h1'⟩
     have h3 : St w0 (OneH q2.one (some (x.leave s2.c).1) :: IsSh p { s2 with c := (x.leave s2.c).2 } :: RunPt t r2 q2 :: rowL r2 q2 E) w := St.one1.2 ⟨tk, h1, h2.f 1⟩
     exact (St.run (r := { r2 with one := some (x.leave s2.c).1 })).2 ⟨q2, h3.o [2, 0, 3, 4, 5, 6, 7, 8, 9, 10, 1]⟩
   clear h hp2 hph
   rintro _ w e h
   rw [hz2]
   obtain ⟨r3, s3⟩ := z
   dsimp only at h ⊢
   obtain ⟨q3, h⟩ := run_open h
   refine Y10 ?_
   refine qw rfl (qg rfl (prog_free h) ?_)
   clear h
   rintro _ w ⟨rfl, h⟩
   have h1 : St w0 (IsRun t (r3.free s3).1 :: IsSh p (r3.free s3).2 :: E) w := j8 (r := (r3.free s3).1) (q := q3) h
   clear h
   refine Y1a ?_; refine Y0 ?_
   refine qh (qf (r := (⟨e2, 0, []⟩ : Res).C none 0) rfl) rfl ?_
   refine qw rfl (qg rfl (gh (res := ⟨e2, 0, []⟩) 3 ((h1.ownNil 57 2).f 1)) ?_)
   clear h1
   rintro _ w ⟨rfl, h⟩
   refine Y7 ?_
   exact qv (qk (bq1 ⟨rfl, hx3 h⟩))
 rw [if_neg p2] at key
 rw [key]
 have ht0 := htold p0 p2
 refine qz (.bool false) (by congr 1; rw [beq_eq_false_iff_ne]; exact p2) ?_
 refine Ya ?_; refine Y1q ?_
 rw [← hE] at h
 refine Y5 ?_
 refine qh (qq (v := .slice q.ga r.got.length q.gc) rfl (h.b 0 rfl) rfl) rfl ?_
 refine Yx ?_
 obtain ⟨L, hL⟩ : ∃ L, (if r.i = (X.x.parts.length : Int) then r.got ++ X.x.tail else r.got) = L := ⟨_, rfl⟩
 have hLn : L.length ≤ 2097152 := by
  rw [← hL]
  split
  ·rw [Ua]; omega
  ·omega
 refine qi (Γ := (Option Addr × Nat) × HProp) (fun g => [(0, .pz t), (1, .pz p), (5, .iz n), (13, .slice g.1.1 L.length g.1.2)])
  (fun g w => Reads w0 (r.rows q ++ (g.2 :: OwnPr a1 c1 X.x.parts :: OwnS a2 c2 X.x.tail :: pt b7 (.cells (X.x.V.cells a1 c1 a2 c2).toArray 87 (0, 0)) :: l)) 2 g.1.1 L.length (smpsV L) ∧ L.length ≤ g.1.2 ∧
   St w0 (RunPt t r q :: IsSh p s :: (r.rows q ++ (g.2 :: OwnPr a1 c1 X.x.parts :: OwnS a2 c2 X.x.tail :: pt b7 (.cells (X.x.V.cells a1 c1 a2 c2).toArray 87 (0, 0)) :: l))) w) ?_ ?_
 ·refine qo ?_
  refine jb none (fun w => St w0 (RunPt t r q :: IsSh p s :: (r.rows q ++ (OwnPr a1 c1 X.x.parts :: OwnS a2 c2 X.x.tail :: pt b7 (.cells (X.x.V.cells a1 c1 a2 c2).toArray 87 (0, 0)) :: l))) w) O1 O1 h.drew fun w h => ?_
  refine Y3 ?_
  refine qj rfl rfl rfl rfl h (fun _ h => qb rfl (qq (v := .iz r.i) rfl (h.b 0 rfl) rfl)) ?_
  refine Yv ?_
  refine qj rfl rfl rfl rfl h (fun _ h => qb rfl (qq (v := .slice a1 X.x.parts.length c1) rfl (h.b 13 rfl) rfl)) ?_
  refine Y2y ?_
  by_cases hi : r.i = (X.x.parts.length : Int)
  ·rw [if_pos hi] at hL
   refine cpv rfl rfl rfl rfl h rfl (q9 (v' := .bool true) (gq rfl rfl) (by congr 1; rw [beq_iff_eq]; exact hi)) ?_
   refine qp ?_
   refine Y1l ?_; refine Y3j ?_
   refine qh (qx (l := X.x.V.cells a1 c1 a2 c2) rfl rfl (qd (h.b 13 rfl) rfl)) rfl ?_
   have hwf : X.x.V.Wf := ⟨prts_one _, ji _, by show X.x.parts.length * 40 ≤ _; omega, by show X.x.tail.length * 16 ≤ _; omega⟩
   refine qw rfl (qg rfl (snap_Tail hwf h (fun w' h' => (h'.f 12).own_rd)) ?_)
   clear h
   rintro _ w ⟨ta, tc, rfl, h⟩
   replace h : St w0 (OwnS ta tc X.x.tail :: RunPt t r q :: IsSh p s :: (r.rows q ++ (OwnPr a1 c1 X.x.parts :: OwnS a2 c2 X.x.tail :: pt b7 (.cells (X.x.V.cells a1 c1 a2 c2).toArray 87 (0, 0)) :: l))) w := h
   refine qw rfl (jv (r := [.slice q.ga r.got.length q.gc, .slice ta X.x.tail.length tc]) h rfl rfl rfl fun b w h => ?_)
   refine qw rfl (qg rfl (smps_Concat (A := r.got) (B := X.x.tail) O0 O0 (Reads.own.more [_, _, _, _, _, _, _, _, _, _]) Reads.own h) ?_)
   clear h
   rintro _ w ⟨o, oc, rfl, h⟩
   rw [hL] at h ⊢
   refine Yo ?_
   replace h : St w0 (OwnS o oc L :: RunPt t r q :: IsSh p s :: (r.rows q ++ (OwnPr a1 c1 X.x.parts :: OwnS a2 c2 X.x.tail :: pt b7 (.cells (X.x.V.cells a1 c1 a2 c2).toArray 87 (0, 0)) :: l))) w := h.x [1]
   exact qv ⟨((o, oc), _), zz4, Reads.own.more (r.rows q), h.own_cases.2.1, run_ext1 h⟩
  ·rw [if_neg hi] at hL
   subst hL
   refine cpv rfl rfl rfl rfl h rfl (q9 (v' := .bool false) (gq rfl rfl) (by congr 1; rw [beq_eq_false_iff_ne]; exact hi)) ?_
   refine qp ?_
   refine Y1q ?_
   exact ⟨((q.ga, q.gc), Own 57 2 none 0 0 []), zz4, Reads.own.more [_, _, _, _, _, _, _], (h.f 9).own_cases.2.1, run_ext1 (h.ownNil 57 2)⟩
 clear h hx3
 rintro ⟨⟨a, c⟩, D⟩ w e ⟨hrd, hcap, h⟩
 dsimp only at hrd hcap h
 obtain ⟨i, hi⟩ : ∃ i, (min r.told (L.length : Int)).toNat = i := ⟨_, rfl⟩
 have hil : i ≤ L.length := by omega
 obtain ⟨j, hj⟩ : ∃ j, (min n ((L.drop i).length : Int)).toNat = j := ⟨_, rfl⟩
 have hdl : (L.drop i).length = L.length - i := Ur
 have hjl : j ≤ L.length - i := by omega
 have hjc : j ≤ c - i := by omega
 have hkey : r.told_ X n = (L.drop i).take j := by
  unfold Run.told_
  rw [hL]
  dsimp only
  rw [hi, hj]
 have hlen : ((L.drop i).take j).length = j := by rw [Us]; omega
 rw [hkey]
 refine Yc ?_; refine Y1s ?_
 refine qh (qq (v := .iz r.told) rfl (h.b 0 rfl) rfl) rfl ?_
 refine Y14 ?_; refine Y3v ?_
 refine qz (.iz (i : Int)) (by congr 1; omega) ?_
 refine qh (gl (i := i) rfl rfl hil) rfl ?_
 refine Yx ?_; refine Y10 ?_; refine Y4b ?_; refine Y14 ?_; refine Y3v ?_
 refine qz (.iz (j : Int)) (by congr 1; omega) ?_
 refine qh (q9 (v' := .slice (adv a (i * 2) (Nat.beq c i)) ((L.drop i).take j).length (c - i)) (q_head (h := j) rfl rfl hjc) (by rw [hlen]; rfl)) rfl ?_
 have hr2 : Reads w0 (r.rows q ++ (D :: OwnPr a1 c1 X.x.parts :: OwnS a2 c2 X.x.tail :: pt b7 (.cells (X.x.V.cells a1 c1 a2 c2).toArray 87 (0, 0)) :: l)) 2 (adv a (i * 2) (Nat.beq c i)) ((L.drop i).take j).length (smpsV ((L.drop i).take j)) := by
  have := (hrd.tail hil hcap).head hjl
  rw [smps_drop, smps_take] at this
  rw [hlen]; exact this
 refine qw rfl (qg rfl (prog_hand (L := (L.drop i).take j) O0 hr2 h) ?_)
 clear h
 rintro _ w ⟨rfl, h⟩
 refine Y7 ?_
 exact qv (qk (bq1 ⟨rfl, h.x [2, 3, 4, 5]⟩))
end
end
section
section
variable {w0 w : World} {l : List HProp} {t p : Nat} {r : Run} {s : Shd} {q : RunQ}
theorem modl_Bad (o : Opr) (h : St w0 l w) : Ret prog 36 [.agg o.C.toArray] w fun v w' => v = .bool (Run.bad o) ∧ St w0 l w' := by
 refine en func36 results36 ntmps36 ?_
 refine Y1 ?_
 refine qw rfl (jk h (show _ = Value.agg o.C.toArray from rfl) fun b w h => ?_)
 replace h : St w0 (pt b (.cells o.C.toArray 33 (0, 0)) :: l) w := h
 refine Ya ?_; refine Y2u ?_; refine Yj ?_
 refine qh (qq (v := .iz o.kind) rfl (h.b 0 rfl) rfl) rfl ?_
 refine Y4t ?_
 obtain ⟨kin, hkin⟩ : ∃ kin : Bool, decide (1 ≤ o.kind ∧ o.kind ≤ 5) = kin := ⟨_, rfl⟩
 refine qi (Γ := Unit) (fun _ => [(1, .pz b), (5, .bool kin)]) (fun _ w => St w0 (pt b (.cells o.C.toArray 33 (0, 0)) :: l) w) ?_ ?_
 ·refine Y2t ?_
  by_cases h1 : o.kind = 1
  ·refine qz (.bool true) (by congr 1; rw [beq_iff_eq]; exact h1) ?_
   refine Y8 ?_
   exact qv (c_true rfl (qr ⟨(), ⟨rfl, by rw [← hkin, h1]; rfl, trivial⟩, h⟩))
  refine qz (.bool false) (by congr 1; rw [beq_eq_false_iff_ne]; exact h1) ?_
  refine Y2e ?_
  by_cases h2 : o.kind = 2
  ·refine qz (.bool true) (by congr 1; rw [beq_iff_eq]; exact h2) ?_
   refine Y8 ?_
   exact qv (c_true rfl (qr ⟨(), ⟨rfl, by rw [← hkin, h2]; rfl, trivial⟩, h⟩))
  refine qz (.bool false) (by congr 1; rw [beq_eq_false_iff_ne]; exact h2) ?_
  refine Y2e ?_
  by_cases h3 : o.kind = 3
  ·refine qz (.bool true) (by congr 1; rw [beq_iff_eq]; exact h3) ?_
   refine Y8 ?_
   exact qv (c_true rfl (qr ⟨(), ⟨rfl, by rw [← hkin, h3]; rfl, trivial⟩, h⟩))
  refine qz (.bool false) (by congr 1; rw [beq_eq_false_iff_ne]; exact h3) ?_
  refine Y2e ?_
  by_cases h4 : o.kind = 4
  ·refine qz (.bool true) (by congr 1; rw [beq_iff_eq]; exact h4) ?_
   refine Y8 ?_
   exact qv (c_true rfl (qr ⟨(), ⟨rfl, by rw [← hkin, h4]; rfl, trivial⟩, h⟩))
  refine qz (.bool false) (by congr 1; rw [beq_eq_false_iff_ne]; exact h4) ?_
  refine Y39 ?_; refine j0 ?_; refine Yp ?_
  refine qz (.bool kin) (by
   rw [← hkin]
   by_cases h5 : o.kind = 5
   ·rw [h5]; rfl
   ·congr 1
    rw [show decide (1 ≤ o.kind ∧ o.kind ≤ 5) = false from by rw [decide_eq_false_iff_not]; omega, beq_eq_false_iff_ne]
    exact h5) ?_
  refine Y8 ?_
  exact qv ⟨(), zz2, h⟩
 clear h
 rintro _ w e h
 have hbad : Run.bad o = if kin then decide (o.series < 0) || decide (o.series ≥ 16) else !(o.kind == 6) && !(o.kind == 7) := by
  unfold Run.bad
  rw [← hkin]
  by_cases hc : 1 ≤ o.kind ∧ o.kind ≤ 5
  ·rw [if_pos hc, if_pos O20]
  ·rw [if_neg hc, if_neg O20]
 refine ql kin rfl (fun hk => ?_) (fun hk => ?_)
 ·rw [if_pos hk] at hbad
  refine Y22 ?_
  refine qh (qq (v := .iz o.series) rfl (h.b 0 rfl) rfl) rfl ?_
  refine Y1p ?_
  by_cases h1 : o.series < 0
  ·refine qz (.bool true) (by congr 1; rw [decide_eq_true_eq]; exact h1) ?_
   have e9 : Run.bad o = true := by rw [hbad, decide_eq_true h1]; rfl
   refine Y2g ?_; refine Y2v ?_
   exact qv (qk (bq1 ⟨congrArg Value.bool e9.symm, h.drop⟩))
  ·refine qz (.bool false) (by congr 1; rw [decide_eq_false_iff_not]; exact h1) ?_
   have e9 : Run.bad o = decide (o.series ≥ 16) := by rw [hbad, decide_eq_false h1, Bool.false_or]
   refine Y1k ?_
   refine qh (qq (v := .iz o.series) rfl (h.b 0 rfl) rfl) rfl ?_
   refine Yd ?_; refine Y1m ?_; refine Y2i ?_
   exact qv (qk (bq1 ⟨congrArg Value.bool e9.symm, h.drop⟩))
 ·rw [if_neg (by rw [hk]; decide)] at hbad
  refine Yk ?_; refine Y22 ?_
  refine qh (qq (v := .iz o.kind) rfl (h.b 0 rfl) rfl) rfl ?_
  refine Y1y ?_
  by_cases h1 : o.kind = 6
  ·refine qz (.bool false) (by rw [h1]; rfl) ?_
   have e9 : Run.bad o = false := by rw [hbad, h1]; rfl
   refine Y2g ?_; refine Y2i ?_
   exact qv (qk (bq1 ⟨congrArg Value.bool e9.symm, h.drop⟩))
  ·refine qz (.bool true) (by congr 1; rw [bne_iff_ne]; exact h1) ?_
   have e9 : Run.bad o = (o.kind != 7) := by rw [hbad, beq_eq_false_iff_ne.2 h1]; rfl
   refine Y1k ?_
   refine qh (qq (v := .iz o.kind) rfl (h.b 0 rfl) rfl) rfl ?_
   refine Yd ?_; refine Y1y ?_; refine Y2v ?_
   exact qv (qk (bq1 ⟨congrArg Value.bool e9.symm, h.drop⟩))
structure Run.StepOk (r : Run) (s : Shd) : Prop where
 read : r.over = false → Run.bad r.o = false → r.o.kind = 2 → r.ReadOk s
 open_ : r.over = false → Run.bad r.o = false → r.o.kind = 5 → r.OpenOk s
 tell : r.over = false → Run.bad r.o = false → r.o.kind = 6 → r.TellOk s
 shut : r.over = false → Run.bad r.o = false → r.o.kind = 7 → s.t.Fits
 write : r.over = false → Run.bad r.o = false → r.o.kind ≠ 2 → r.o.kind ≠ 5 → r.o.kind ≠ 6 → r.o.kind ≠ 7 → r.WriteOk s
theorem prog_Step (hT : Tz w0) (hok : r.StepOk s) (h : St w0 (IsRun t r :: IsSh p s :: l) w) :
  Ret prog 15 [.pz t, .pz p] w fun v w' => v = .iz (r.step s).2.2 ∧ St w0 (IsRun t (r.step s).1 :: IsSh p (r.step s).2.1 :: l) w' := by
 obtain ⟨k2, k5, k6, k7, kw⟩ := hok
 have key : r.step s = if r.over then (r, s, 0) else if Run.bad r.o then r.refuse s 4 else if r.o.kind = 2 then r.read s else if r.o.kind = 5 then r.open_ s else if r.o.kind = 6 then r.tell s else if r.o.kind = 7 then r.shut s else r.write s := rfl
 have h0 := h
 obtain ⟨q, h⟩ := run_open h
 refine en func15 results15 ntmps15 ?_
 refine Yr ?_; refine Y38 ?_; refine Y5 ?_
 refine qh (qq (v := .bool r.over) rfl (h.b 0 rfl) rfl) rfl ?_
 refine Y8 ?_
 cases ho : r.over with
 | true =>
  rw [ho, if_pos rfl] at key
  rw [key]
  refine Ye ?_; refine Y13 ?_
  exact qv (qk (bq1 ⟨rfl, h0⟩))
 | false =>
 rw [ho, if_neg O2] at key
 refine Y26 ?_; refine Y5 ?_
 refine qh (qx (l := r.o.C) rfl rfl (qd (h.b 0 rfl) rfl)) rfl ?_
 refine qw rfl (qg rfl (modl_Bad r.o h0) ?_)
 clear h h0
 rintro _ w ⟨rfl, h⟩
 refine Y8 ?_
 cases hb : Run.bad r.o with
 | true =>
  rw [hb, if_pos rfl] at key
  rw [key]
  refine Ye ?_; refine Ym ?_
  refine qw rfl (qg rfl (gf 4 h) ?_)
  clear h
  rintro _ w ⟨rfl, h⟩
  refine Y7 ?_
  exact qv (qk (bq1 ⟨rfl, h⟩))
 | false =>
 rw [hb, if_neg O2] at key
 refine Y9 ?_
 have h0 := h
 clear h
 obtain ⟨q, h⟩ := run_open h0
 refine Y2o ?_; refine Yj ?_
 refine qh (qq (v := .iz r.o.kind) rfl (h.b 0 rfl) rfl) rfl ?_
 clear h
 refine Y42 ?_
 by_cases h2 : r.o.kind = 2
 ·rw [if_pos h2] at key
  rw [key]
  refine qz (.bool true) (by congr 1; rw [beq_iff_eq]; exact h2) ?_
  refine Y45 ?_
  refine qw rfl (qg rfl (prog_read hT (k2 ho hb h2) h0) ?_)
  clear h0
  rintro _ w ⟨rfl, h⟩
  refine Y7 ?_
  exact qv (qk (bq1 ⟨rfl, h⟩))
 rw [if_neg h2] at key
 refine qz (.bool false) (by congr 1; rw [beq_eq_false_iff_ne]; exact h2) ?_
 refine Y2e ?_
 by_cases h5 : r.o.kind = 5
 ·rw [if_pos h5] at key
  rw [key]
  refine qz (.bool true) (by congr 1; rw [beq_iff_eq]; exact h5) ?_
  refine Y45 ?_
  refine qw rfl (qg rfl (prog_open (k5 ho hb h5) h0) ?_)
  clear h0
  rintro _ w ⟨rfl, h⟩
  refine Y7 ?_
  exact qv (qk (bq1 ⟨rfl, h⟩))
 rw [if_neg h5] at key
 refine qz (.bool false) (by congr 1; rw [beq_eq_false_iff_ne]; exact h5) ?_
 refine Y2e ?_
 by_cases h6 : r.o.kind = 6
 ·rw [if_pos h6] at key
  rw [key]
  refine qz (.bool true) (by congr 1; rw [beq_iff_eq]; exact h6) ?_
  refine Y45 ?_
  refine qw rfl (qg rfl (prog_tell hT (k6 ho hb h6) h0) ?_)
  clear h0
  rintro _ w ⟨rfl, h⟩
  refine Y7 ?_
  exact qv (qk (bq1 ⟨rfl, h⟩))
 rw [if_neg h6] at key
 refine qz (.bool false) (by congr 1; rw [beq_eq_false_iff_ne]; exact h6) ?_
 refine Y2e ?_
 by_cases h7 : r.o.kind = 7
 ·rw [if_pos h7] at key
  rw [key]
  refine qz (.bool true) (by congr 1; rw [beq_iff_eq]; exact h7) ?_
  refine Y45 ?_
  refine qw rfl (qg rfl (prog_shut (k7 ho hb h7) h0) ?_)
  clear h0
  rintro _ w ⟨rfl, h⟩
  refine Y7 ?_
  exact qv (qk (bq1 ⟨rfl, h⟩))
 rw [if_neg h7] at key
 rw [key]
 refine qz (.bool false) (by congr 1; rw [beq_eq_false_iff_ne]; exact h7) ?_
 refine Ya ?_; refine Y1q ?_; refine Y10 ?_
 refine qw rfl (qg rfl (prog_write hT (kw ho hb h2 h5 h6 h7) h0) ?_)
 clear h0
 rintro _ w ⟨rfl, h⟩
 refine Y7 ?_
 exact qv (qk (bq1 ⟨rfl, h⟩))
def Run.out (r : Run) : Res := if r.over then r.res else ⟨0, 0, []⟩
theorem prog_Result (hn : r.res.list.length ≤ 1073741824) (h : St w0 (IsRun t r :: l) w) :
  Ret prog 19 [.pz t] w fun v w' => ∃ a c, v = .tuple [.agg (r.out.C a c).toArray, .bool r.over].toArray ∧ St w0 (OwnS a c r.out.list :: IsRun t r :: l) w' := by
 refine en func19 results19 ntmps19 ?_
 refine Y1 ?_
 refine qw rfl (qc h fun b w h => ?_)
 refine Ya ?_; refine Y2u ?_
 obtain ⟨q, h⟩ := (St.run (r := r)).1 (h.f 1)
 refine Y1s ?_
 refine qh (qq (v := .bool r.over) rfl (h.b 0 rfl) rfl) rfl ?_
 cases ho : r.over with
 | false =>
  have e1 : r.out = ⟨0, 0, []⟩ := by unfold Run.out; rw [ho]; rfl
  rw [e1]
  refine Yy ?_; refine Y28 ?_
  refine qh (qf (r := (⟨0, 0, []⟩ : Res).C none 0) rfl) rfl ?_
  refine qw rfl (qy (vs := (⟨0, 0, []⟩ : Res).C none 0) 10 h rfl rfl rfl rfl rfl rfl rfl fun w h => ?_)
  refine Y8 ?_
  have h1 : St w0 (IsRun t r :: l) w := (St.run (r := r)).2 ⟨q, h.x [10]⟩
  exact qv (qk (bqS2 (l := (⟨0, 0, []⟩ : Res).C none 0) rfl rfl (qd (h.b 10 rfl) rfl) ⟨none, 0, rfl, h1.ownNil 57 2⟩))
 | true =>
  have e1 : r.out = r.res := by unfold Run.out; rw [ho]; rfl
  rw [e1]
  refine Y44 ?_; refine Y5 ?_
  refine qh (qx (l := r.res.C q.ra q.rc) rfl rfl (qd (h.b 0 rfl) rfl)) rfl ?_
  refine qw rfl (qc h fun b4 w h => ?_)
  refine qw rfl (qy (vs := r.res.C q.ra q.rc) 0 h rfl rfl rfl rfl rfl rfl rfl fun w h => ?_)
  replace h : St w0 (pt b4 (.cells (r.res.C q.ra q.rc).toArray 28 (0, 0)) :: RunPt t r q :: OneH q.one r.one :: OwnS q.s.a4 q.s.c4 r.slot.opn :: OwnPr q.s.a5 q.s.c5 r.slot.chunks :: OwnS q.n.a4 q.n.c4 r.next.opn :: OwnPr q.n.a5 q.n.c5 r.next.chunks :: OwnPr q.pa q.pc r.x.parts :: OwnS q.ta q.tc r.x.tail :: OwnS q.ga q.gc r.got :: OwnS q.ra q.rc r.res.list :: pt b _ :: l) w := h
  refine Y3p ?_
  refine qh (qq (v := .slice q.ra r.res.list.length q.rc) rfl (h.b 0 rfl) rfl) rfl ?_
  refine qw rfl (qg rfl (clone_smps (xs := smpsV r.res.list) h (fun w' h' => (h'.f 10).own_rd) (ji _) O0) ?_)
  clear h
  rintro _ w ⟨a, c, rfl, _, h⟩
  refine Yj ?_
  refine qw rfl (qn 1 h rfl (show _ = Value.slice a r.res.list.length c from rfl) rfl rfl rfl rfl fun w h => ?_)
  replace h : St w0 (OwnS a c r.res.list :: pt b4 (.cells (r.res.C a c).toArray 28 (0, 0)) :: RunPt t r q :: OneH q.one r.one :: OwnS q.s.a4 q.s.c4 r.slot.opn :: OwnPr q.s.a5 q.s.c5 r.slot.chunks :: OwnS q.n.a4 q.n.c4 r.next.opn :: OwnPr q.n.a5 q.n.c5 r.next.chunks :: OwnPr q.pa q.pc r.x.parts :: OwnS q.ta q.tc r.x.tail :: OwnS q.ga q.gc r.got :: OwnS q.ra q.rc r.res.list :: pt b _ :: l) w := h
  refine Yl ?_
  refine qh (qx (l := r.res.C a c) rfl rfl (qd (h.b 1 rfl) rfl)) rfl ?_
  refine qw rfl (qy (vs := r.res.C a c) 12 h rfl rfl rfl rfl rfl rfl rfl fun w h => ?_)
  refine Y8 ?_
  have h1 : St w0 (IsRun t r :: OwnS a c r.res.list :: l) w := (St.run (r := r)).2 ⟨q, (h.x [1, 12]).o [1, 2, 3, 4, 5, 6, 7, 8, 9, 10]⟩
  exact qv (qk (bqS2 (l := r.res.C a c) rfl rfl (qd (h.b 12 rfl) rfl) ⟨a, c, rfl, h1.f 1⟩))
end
end
section
structure Sto.Ok (S : Sto) : Prop where
 b1 : S.budget ≤ 1073741824
 y0 : 0 ≤ S.bytes
 c0 : 0 ≤ S.charged
 sum : S.bytes + S.charged ≤ S.budget
 l0 : 0 ≤ S.last
 l1 : S.last < 4611686018427387904
abbrev Sto.room (S : Sto) : Int := S.budget - S.bytes - S.charged
section
variable {w0 w : World} {l : List HProp} {p m : Nat} {S : Sto}
theorem Sto.Ok.used (o : S.Ok) : IntKind.i64.wrap (S.bytes + S.charged) = S.bytes + S.charged := by
 obtain ⟨h1, h2, h3, h4, h5, h6⟩ := o
 exact jc O0 O0
theorem Sto.Ok.free (o : S.Ok) : IntKind.i64.wrap (S.budget - IntKind.i64.wrap (S.bytes + S.charged)) = S.room := by
 rw [o.used]
 obtain ⟨h1, h2, h3, h4, h5, h6⟩ := o
 rw [jc O0 O0]
 show S.budget - (S.bytes + S.charged) = S.budget - S.bytes - S.charged
 omega
theorem Sto.Ok.next (o : S.Ok) : IntKind.i64.wrap (S.last + 1) = S.last + 1 := by
 obtain ⟨h1, h2, h3, h4, h5, h6⟩ := o
 exact jc O0 O0
theorem Sto.charge_ok (o : S.Ok) {n : Int} (hn : -4611686018427387904 ≤ n) (hm : n ≤ S.room) : S.charge n = { S with charged := S.charged + max n (-S.charged) } := by
 obtain ⟨h1, h2, h3, h4, h5, h6⟩ := o
 have e0 : IntKind.i64.wrap (0 - S.charged) = -S.charged := by rw [jc O0 O0]; omega
 have hmax : (if n < -S.charged then -S.charged else n) = max n (-S.charged) := by rw [Int.max_def]; split <;> split <;> omega
 unfold Sto.charge
 simp only [e0, hmax]
 rw [jc O0 (by unfold Sto.room at hm; omega)]
end
end
end Go.Proofs.YtngdfdangkdgcaaGreatDoor
namespace Go.Hw
section
section
variable {α κ β : Type} [DecidableEq κ]
def sumF (f : α → Nat) : List α → Nat
 | [] => 0
 | x :: l => f x + sumF f l
theorem sumF_set (f : α → Nat) {x y : α} : ∀ {l : List α} {i : Nat}, l[i]? = some x → sumF f (l.set i y) + f x = sumF f l + f y
 | [], i, h => by simp at h
 | z :: l, 0, h => by
  simp at h
  subst h
  simp only [Vd, sumF]; omega
 | z :: l, i + 1, h => by
  have := sumF_set f (y := y) (l := l) (i := i) O16
  simp only [Vl, sumF]; omega
theorem sumF_le (f : α → Nat) {l : List α} {x : α} (h : x ∈ l) : f x ≤ sumF f l := by
 induction l with
 | nil => cases h
 | cons y l ih =>
  rcases Up.1 h with rfl | h
  ·simp only [sumF]; omega
  ·have := ih h
   simp only [sumF]; omega
def sumM (f : β → Nat) (m : List (κ × β)) : Nat := sumF (fun p => f p.2) m
theorem sumM_new (f : β → Nat) {k : κ} {v : β} {m : List (κ × β)} (h : mget k m = none) : sumM f (mset k v m) = sumM f m + f v := by
 unfold sumM
 induction m with
 | nil => simp [mset, sumF]
 | cons p m ih =>
  obtain ⟨j, u⟩ := p
  rw [mget] at h
  split at h
  ·cases h
  ·rename_i hj
   rw [mset, if_neg hj]
   simp only [sumF]
   have := ih h
   omega
theorem sumM_set (f : β → Nat) {k : κ} {v x : β} {m : List (κ × β)} (h : mget k m = some x) : sumM f (mset k v m) + f x = sumM f m + f v := by
 unfold sumM
 induction m with
 | nil => cases h
 | cons p m ih =>
  obtain ⟨j, u⟩ := p
  rw [mget] at h
  split at h
  ·rename_i hj
   cases h
   rw [mset, if_pos hj]
   simp only [sumF]; omega
  ·rename_i hj
   rw [mset, if_neg hj]
   simp only [sumF]
   have := ih h
   omega
theorem sumM_del (f : β → Nat) {k : κ} {x : β} {m : List (κ × β)} (h : mget k m = some x) : sumM f (mdel k m) + f x = sumM f m := by
 unfold sumM
 induction m with
 | nil => cases h
 | cons p m ih =>
  obtain ⟨j, u⟩ := p
  rw [mget] at h
  split at h
  ·rename_i hj
   cases h
   rw [mdel, if_pos hj]
   simp only [sumF]; omega
  ·rename_i hj
   rw [mdel, if_neg hj]
   simp only [sumF]
   have := ih h
   omega
theorem mget_le (f : β → Nat) {k : κ} {x : β} {m : List (κ × β)} (h : mget k m = some x) : f x ≤ sumM f m := by
 have := sumM_del f h
 omega
theorem mget_key {k : κ} {x : β} {m : List (κ × β)} (h : mget k m = some x) : k ∈ keys m := by
 refine Wu fun hk => ?_
 rw [mget_none.2 hk] at h
 cases h
end
def rc (id : Int) (ps : List Prt) : Nat := (ps.map (·.blob)).count id
theorem rc_nil (id : Int) : rc id [] = 0 := rfl
theorem rc_cons (id : Int) (p : Prt) (ps : List Prt) : rc id (p :: ps) = rc id ps + if p.blob = id then 1 else 0 := by
 unfold rc
 rw [Uw, List.count_cons]
 congr 1
 by_cases h : p.blob = id
 ·simp [h]
 ·simp [h]
theorem rc_append (id : Int) (ps qs : List Prt) : rc id (ps ++ qs) = rc id ps + rc id qs := by
 unfold rc
 rw [Vz, List.count_append]
theorem rc_mem {p : Prt} {ps : List Prt} (h : p ∈ ps) : 0 < rc p.blob ps := by
 unfold rc
 rw [List.count_pos_iff]
 exact Vb.2 ⟨p, h, rfl⟩
theorem rc_le (id : Int) (ps : List Prt) : rc id ps ≤ ps.length := by
 unfold rc
 have := List.count_le_length (a := id) (l := ps.map (·.blob))
 rwa [Vq] at this
end
end Go.Hw
namespace Go.Proofs.YtngdfdangkdgcaaGreatDoor
open Go.Hw _root_.Go.Proofs.Tryz
section
structure Blb where
 tag : Int
 L : List Smp
structure Blb.Ok (b : Blb) (bs : List UInt8) : Prop where
 make : chMake b.tag b.L = some bs
 ne : b.L ≠ []
 wf : ∀ x ∈ b.L, x.Wf
 rise : rises b.L = true
 len : b.L.length ≤ 65535
 t1 : 1 ≤ b.tag
 t6 : b.tag ≤ 6
theorem Blb.Ok.few {b : Blb} {bs : List UInt8} (h : b.Ok bs) : bs.length ≤ 4000000 := chMake_len2 h.wf h.make
theorem Blb.Ok.opens {b : Blb} {bs : List UInt8} (h : b.Ok bs) : chOpen bs = some (b.L, b.tag.toNat) := chOpen_told h.wf (by have := h.few; omega) h.make
abbrev M40 : Nat := 1099511627776
structure StoInv (S : Sto) (cnt : Int → Nat) (ch : Nat) (G : Int → Blb) : Prop where
 nd : (keys S.l).Nodup
 rng : ∀ id, id ∈ keys S.l → 1 ≤ id ∧ id ≤ S.last
 has : ∀ id e, mget id S.l = some e → e.holds = (cnt id : Int) ∧ (G id).Ok e.bs
 pos : ∀ id, 0 < cnt id ↔ (mget id S.l).isSome = true
 big : ∀ id, cnt id ≤ M40
 sum : S.bytes = (sumM (fun e : Kept => e.bs.length) S.l : Nat)
 chg : S.charged = 16 * (ch : Int)
 ok : S.Ok
variable {S : Sto} {cnt cnt' : Int → Nat} {ch : Nat} {G : Int → Blb}
theorem StoInv.alive (h : StoInv S cnt ch G) {id : Int} (hp : 0 < cnt id) : ∃ e, mget id S.l = some e ∧ (G id).Ok e.bs ∧ 1 ≤ id ∧ id ≤ S.last := by
 obtain ⟨e, he⟩ := Wa.1 ((h.pos id).1 hp)
 exact ⟨e, he, (h.has id e he).2, h.rng id (mget_key he)⟩
theorem StoInv.eqv (h : StoInv S cnt ch G) (hc : ∀ id, cnt' id = cnt id) : StoInv S cnt' ch G := by
 have : cnt' = cnt := funext hc
 rw [this]; exact h
theorem StoInv.hold1 (h : StoInv S cnt ch G) {id : Int} {e : Kept} (he : mget id S.l = some e) (hc : ∀ j, cnt' j = cnt j + if id = j then 1 else 0) (hb : ∀ j, cnt' j ≤ M40) : StoInv (S.put id ⟨e.bs, IntKind.i64.wrap (e.holds + 1)⟩) cnt' ch G := by
 obtain ⟨h1, h2⟩ := h.has id e he
 have hk : id ∈ keys S.l := mget_key he
 have hbig := hb id
 rw [hc, if_pos rfl] at hbig
 have hw : IntKind.i64.wrap (e.holds + 1) = ((cnt id + 1 : Nat) : Int) := by rw [h1, jc O0 (by unfold M40 at hbig; omega)]; omega
 refine ⟨gn h.nd, fun j hj => ?_, fun j x hx => ?_, fun j => ?_, hb, ?_, h.chg, ⟨h.ok.b1, h.ok.y0, h.ok.c0, h.ok.sum, h.ok.l0, h.ok.l1⟩⟩
 ·have hj' : j ∈ keys (mset id (⟨e.bs, IntKind.i64.wrap (e.holds + 1)⟩ : Kept) S.l) := hj
  rw [keys_mset, if_pos hk] at hj'
  exact h.rng j hj'
 ·have hx' : mget j (mset id (⟨e.bs, IntKind.i64.wrap (e.holds + 1)⟩ : Kept) S.l) = some x := hx
  rw [jj] at hx'
  split at hx'
  ·rename_i hj
   subst hj
   obtain rfl := Un hx'
   rw [hc, if_pos rfl]
   exact ⟨hw, h2⟩
  ·rename_i hj
   rw [hc, if_neg (fun e => hj e.symm)]
   exact h.has j x hx'
 ·show _ ↔ (mget j (mset id (⟨e.bs, IntKind.i64.wrap (e.holds + 1)⟩ : Kept) S.l)).isSome = true
  rw [jj]
  by_cases hj : j = id
  ·subst hj
   rw [hc, if_pos rfl, if_pos rfl]
   exact ⟨fun _ => rfl, fun _ => by omega⟩
  ·rw [hc, if_neg (fun e => hj e.symm), if_neg hj]
   exact h.pos j
 ·have := sumM_set (fun e : Kept => e.bs.length) (v := ⟨e.bs, IntKind.i64.wrap (e.holds + 1)⟩) he
  show S.bytes = (sumM (fun e : Kept => e.bs.length) (mset id ⟨e.bs, IntKind.i64.wrap (e.holds + 1)⟩ S.l) : Nat)
  rw [h.sum]
  have h3 : sumM (fun e : Kept => e.bs.length) (mset id ⟨e.bs, IntKind.i64.wrap (e.holds + 1)⟩ S.l) = sumM (fun e : Kept => e.bs.length) S.l := by (try dsimp only at this); omega
  rw [h3]
theorem StoInv.hold : ∀ {ps : List Prt} {S : Sto} {cnt : Int → Nat} (dn : List Prt), StoInv S cnt ch G → (∀ p ∈ ps, 0 < cnt p.blob) → (∀ j, cnt' j = cnt j + rc j ps) → (∀ j, cnt' j ≤ M40) →
  (S.hold dn ps).1 = true ∧ StoInv (S.hold dn ps).2 cnt' ch G ∧ (S.hold dn ps).2.last = S.last ∧ (S.hold dn ps).2.budget = S.budget ∧ (S.hold dn ps).2.bytes = S.bytes
 | [], S, cnt, dn, h, _, hc, _ => ⟨rfl, h.eqv fun j => by rw [hc, rc_nil]; rfl, rfl, rfl, rfl⟩
 | p :: ps, S, cnt, dn, h, hp, hc, hb => by
  obtain ⟨e, he, _⟩ := h.alive (hp p (Ub ..))
  have h1 := h.hold1 (cnt' := fun j => cnt j + if p.blob = j then 1 else 0) he (fun j => rfl) (fun j => by have := hb j; rw [hc, rc_cons] at this; (try dsimp only); omega)
  have h2 := StoInv.hold (ps := ps) (dn ++ [p]) h1 (fun q hq => by have := hp q (Ue _ hq); (try dsimp only); omega) (fun j => by rw [hc, rc_cons]; (try dsimp only); omega) hb
  rw [Sto.hold, he]
  exact h2
theorem StoInv.left1 (h : StoInv S cnt ch G) {id : Int} {e : Kept} (he : mget id S.l = some e) (hc : ∀ j, cnt j = cnt' j + if id = j then 1 else 0) : StoInv (S.left id e) cnt' ch G ∧ (S.left id e).last = S.last ∧ (S.left id e).budget = S.budget := by
 obtain ⟨h1, h2⟩ := h.has id e he
 have hk : id ∈ keys S.l := mget_key he
 have hcid := hc id
 rw [if_pos rfl] at hcid
 have hbig := h.big id
 have hw : IntKind.i64.wrap (e.holds - 1) = (cnt' id : Int) := by rw [h1, jc O0 (by unfold M40 at hbig; omega)]; omega
 have hb : ∀ j, cnt' j ≤ M40 := fun j => by have := hc j; have := h.big j; omega
 have hle := mget_le (fun e : Kept => e.bs.length) he
 have hsum := h.sum
 unfold Sto.left
 rw [hw]
 by_cases h0 : (cnt' id : Int) = 0
 ·rw [if_pos h0]
  have hwb : IntKind.i64.wrap (S.bytes - e.bs.length) = S.bytes - e.bs.length := by
   obtain ⟨k1, k2, k3, k4, _, _⟩ := h.ok
   (try dsimp only at hle)
   exact jc O0 O0
  rw [hwb]
  refine ⟨⟨mdel_nodup h.nd, fun j hj => h.rng j ?_, fun j x hx => ?_, fun j => ?_, hb, ?_, h.chg, ?_⟩, rfl, rfl⟩
  ·have hj' : j ∈ keys (mdel id S.l) := hj
   rw [keys_mdel] at hj'
   exact Ww hj'
  ·have hx' : mget j (mdel id S.l) = some x := hx
   rw [j5 _ _ _ h.nd] at hx'
   split at hx'
   ·cases hx'
   ·rename_i hj
    have := h.has j x hx'
    rw [hc j, if_neg (fun e => hj e.symm)] at this
    exact this
  ·show _ ↔ (mget j (mdel id S.l)).isSome = true
   rw [j5 _ _ _ h.nd]
   by_cases hj : j = id
   ·subst hj
    rw [if_pos rfl]
    exact ⟨fun _ => by omega, fun hh => by cases hh⟩
   ·rw [if_neg hj, ← h.pos j, hc j, if_neg (fun e => hj e.symm)]; rfl
  ·show S.bytes - e.bs.length = _
   have := sumM_del (fun e : Kept => e.bs.length) he
   rw [hsum]
   (try dsimp only at this ⊢)
   omega
  ·obtain ⟨k1, k2, k3, k4, k5, k6⟩ := h.ok
   (try dsimp only at hle)
   exact ⟨k1, O_t, k3, O_t, k5, k6⟩
 ·rw [if_neg h0]
  refine ⟨⟨gn h.nd, fun j hj => ?_, fun j x hx => ?_, fun j => ?_, hb, ?_, h.chg, ⟨h.ok.b1, h.ok.y0, h.ok.c0, h.ok.sum, h.ok.l0, h.ok.l1⟩⟩, rfl, rfl⟩
  ·have hj' : j ∈ keys (mset id (⟨e.bs, (cnt' id : Int)⟩ : Kept) S.l) := hj
   rw [keys_mset, if_pos hk] at hj'
   exact h.rng j hj'
  ·have hx' : mget j (mset id (⟨e.bs, (cnt' id : Int)⟩ : Kept) S.l) = some x := hx
   rw [jj] at hx'
   split at hx'
   ·rename_i hj
    subst hj
    obtain rfl := Un hx'
    exact ⟨rfl, h2⟩
   ·rename_i hj
    have := h.has j x hx'
    rw [hc j, if_neg (fun e => hj e.symm)] at this
    exact this
  ·show _ ↔ (mget j (mset id (⟨e.bs, (cnt' id : Int)⟩ : Kept) S.l)).isSome = true
   rw [jj]
   by_cases hj : j = id
   ·subst hj
    rw [if_pos rfl]
    exact ⟨fun _ => rfl, fun _ => by omega⟩
   ·rw [if_neg hj, ← h.pos j, hc j, if_neg (fun e => hj e.symm)]; rfl
  ·have := sumM_set (fun e : Kept => e.bs.length) (v := ⟨e.bs, (cnt' id : Int)⟩) he
   show S.bytes = (sumM (fun e : Kept => e.bs.length) (mset id ⟨e.bs, (cnt' id : Int)⟩ S.l) : Nat)
   have h3 : sumM (fun e : Kept => e.bs.length) (mset id ⟨e.bs, (cnt' id : Int)⟩ S.l) = sumM (fun e : Kept => e.bs.length) S.l := by (try dsimp only at this); omega
   rw [h3, hsum]
theorem StoInv.leave : ∀ {ps : List Prt} {S : Sto} {cnt : Int → Nat}, StoInv S cnt ch G → (∀ j, cnt j = cnt' j + rc j ps) → StoInv (S.leave ps) cnt' ch G ∧ (S.leave ps).last = S.last ∧ (S.leave ps).budget = S.budget
 | [], S, cnt, h, hc => ⟨h.eqv fun j => by rw [hc, rc_nil]; rfl, rfl, rfl⟩
 | p :: ps, S, cnt, h, hc => by
  have hcp := hc p.blob
  rw [rc_cons, if_pos rfl] at hcp
  obtain ⟨e, he, _⟩ := h.alive (id := p.blob) O0
  obtain ⟨h1, h2, h3⟩ := h.left1 (cnt' := fun j => cnt' j + rc j ps) he (fun j => by rw [hc, rc_cons]; (try dsimp only); omega)
  obtain ⟨k1, k2, k3⟩ := StoInv.leave (ps := ps) h1 (fun j => rfl)
  rw [Sto.leave, he]
  exact ⟨k1, k2.trans h2, k3.trans h3⟩
theorem StoInv.add (h : StoInv S cnt ch G) {G' : Int → Blb} {bs : List UInt8} (hl : S.last < M40) (hok : (G' (S.last + 1)).Ok bs) (hG : ∀ id, id ≤ S.last → G' id = G id) (hc : ∀ j, cnt' j = cnt j + if S.last + 1 = j then 1 else 0) :
  (S.add bs = none ∧ S.room < bs.length) ∨ ∃ S', S.add bs = some (S', S.last + 1) ∧ StoInv S' cnt' ch G' ∧ S'.last = S.last + 1 ∧ S'.budget = S.budget ∧ (bs.length : Int) ≤ S.room := by
 have hfew := hok.few
 have hfr := h.ok.free
 have hnx := h.ok.next
 have hnk : S.last + 1 ∉ keys S.l := fun hk => by have := (h.rng _ hk).2; omega
 have hmn : mget (S.last + 1) S.l = none := mget_none.2 hnk
 have hc0 : cnt (S.last + 1) = 0 := by
  have := h.pos (S.last + 1)
  rw [hmn] at this
  have : ¬ 0 < cnt (S.last + 1) := fun hp => by have := this.1 hp; cases this
  omega
 unfold Sto.add wI
 rw [hfr, hnx]
 by_cases hr : S.room < bs.length
 ·exact .inl ⟨if_pos hr, hr⟩
 ·rw [if_neg hr]
  have hroom : (bs.length : Int) ≤ S.budget - S.bytes - S.charged := by have : S.room = S.budget - S.bytes - S.charged := rfl; omega
  obtain ⟨k1, k2, k3, k4, k5, k6⟩ := h.ok
  have hwb : IntKind.i64.wrap (S.bytes + bs.length) = S.bytes + bs.length := jc O0 O0
  rw [hwb]
  refine .inr ⟨_, rfl, ⟨gn h.nd, fun j hj => ?_, fun j x hx => ?_, fun j => ?_, fun j => ?_, ?_, h.chg, ?_⟩, rfl, rfl, O_o⟩
  ·have hj' : j ∈ keys (mset (S.last + 1) (⟨bs, 1⟩ : Kept) S.l) := hj
   rw [keys_mset, if_neg hnk, Wr] at hj'
   rcases hj' with hj' | hj'
   ·have := h.rng j hj'
    exact ⟨this.1, by show j ≤ S.last + 1; omega⟩
   ·rw [Vk] at hj'
    subst hj'
    exact ⟨O_o, Uu _⟩
  ·have hx' : mget j (mset (S.last + 1) (⟨bs, 1⟩ : Kept) S.l) = some x := hx
   rw [jj] at hx'
   split at hx'
   ·rename_i hj
    subst hj
    obtain rfl := Un hx'
    rw [hc, if_pos rfl, hc0]
    exact ⟨rfl, hok⟩
   ·rename_i hj
    rw [hc, if_neg (fun e => hj e.symm), hG j (h.rng j (mget_key hx')).2]
    exact h.has j x hx'
  ·show _ ↔ (mget j (mset (S.last + 1) (⟨bs, 1⟩ : Kept) S.l)).isSome = true
   rw [jj]
   by_cases hj : j = S.last + 1
   ·subst hj
    rw [if_pos rfl, hc, if_pos rfl]
    exact ⟨fun _ => rfl, fun _ => by omega⟩
   ·rw [if_neg hj, hc, if_neg (fun e => hj e.symm)]
    exact h.pos j
  ·rw [hc]
   have := h.big j
   split
   ·rename_i hj; rw [← hj, hc0]; unfold M40; omega
   ·exact this
  ·show S.bytes + bs.length = (sumM (fun e : Kept => e.bs.length) (mset (S.last + 1) ⟨bs, 1⟩ S.l) : Nat)
   rw [sumM_new _ hmn, h.sum]; rfl
  ·exact ⟨k1, O_t, k3, O_t, O_t, by dsimp only; unfold M40 at hl; omega⟩
theorem StoInv.charge (h : StoInv S cnt ch G) (k : Nat) (hk : k ≤ 1000000) :
  (S.chg (16 * (k : Int)) = (false, S) ∧ S.room < 16 * (k : Int)) ∨ ∃ S', S.chg (16 * (k : Int)) = (true, S') ∧ S' = { S with charged := S.charged + 16 * (k : Int) } ∧ StoInv S' cnt (ch + k) G ∧ 16 * (k : Int) ≤ S.room := by
 have hfr := h.ok.free
 have hch := h.chg
 obtain ⟨k1, k2, k3, k4, k5, k6⟩ := h.ok
 have hroom : S.room = S.budget - S.bytes - S.charged := rfl
 unfold Sto.chg wI
 rw [hfr]
 by_cases hc : 16 * (k : Int) > 0 ∧ 16 * (k : Int) > S.room
 ·exact .inl ⟨if_pos hc, hc.2⟩
 ·rw [if_neg hc]
  have hr : 16 * (k : Int) ≤ S.room := by
   refine Wu fun hn => hc ⟨?_, ?_⟩ <;> omega
  have hm : max (16 * (k : Int)) (-S.charged) = 16 * (k : Int) := by omega
  have e := Sto.charge_ok h.ok (n := 16 * (k : Int)) O0 hr
  rw [hm] at e
  refine .inr ⟨_, by rw [e], rfl, ⟨h.nd, h.rng, h.has, h.pos, h.big, h.sum, O_t, ⟨k1, k2, O_t, O_t, k5, k6⟩⟩, hr⟩
theorem StoInv.free (h : StoInv S cnt ch G) (k : Nat) (hk : k ≤ ch) (h6 : k ≤ 1000000) : S.chg (-(16 * (k : Int))) = (true, { S with charged := S.charged - 16 * (k : Int) }) ∧ StoInv { S with charged := S.charged - 16 * (k : Int) } cnt (ch - k) G := by
 have hfr := h.ok.free
 have hch := h.chg
 obtain ⟨k1, k2, k3, k4, k5, k6⟩ := h.ok
 have hroom : S.room = S.budget - S.bytes - S.charged := rfl
 unfold Sto.chg wI
 rw [hfr, if_neg O0]
 have hm : max (-(16 * (k : Int))) (-S.charged) = -(16 * (k : Int)) := by omega
 have e := Sto.charge_ok h.ok (n := -(16 * (k : Int))) O0 O0
 rw [hm] at e
 refine ⟨by rw [e]; rfl, ⟨h.nd, h.rng, h.has, h.pos, h.big, h.sum, O_t, ⟨k1, k2, O_t, O_t, k5, k6⟩⟩⟩
end
section
abbrev RiseP (L : List Smp) : Prop := L.Pairwise fun x y => x.T < y.T
theorem risesA_P : ∀ (l : List Smp) (t : Int), risesA t l = true ↔ (∀ s ∈ l, t < s.T) ∧ RiseP l
 | [], t => by simp [risesA]
 | s :: r, t => by
  have ih := risesA_P r s.T
  rw [risesA, Uo, decide_eq_true_eq, ih, show RiseP (s :: r) ↔ _ from List.pairwise_cons]
  constructor
  ·rintro ⟨h1, h2, h3⟩
   refine ⟨fun x hx => ?_, h2, h3⟩
   rcases Up.1 hx with rfl | hx
   ·exact h1
   ·exact Int.lt_trans h1 (h2 x hx)
  ·rintro ⟨h1, h2, h3⟩
   exact ⟨h1 s (Ub ..), h2, h3⟩
theorem rises_P : ∀ l : List Smp, rises l = true ↔ RiseP l
 | [] => by simp [rises]
 | s :: r => by rw [rises, risesA_P, show RiseP (s :: r) ↔ _ from List.pairwise_cons]
theorem lastT_snoc (L : List Smp) (x : Smp) : lastT (L ++ [x]) = x.T := by unfold lastT; simp
theorem rise_span {L : List Smp} (h : RiseP L) : ∀ s ∈ L, firstT L ≤ s.T ∧ s.T ≤ lastT L := by
 intro s hs
 constructor
 ·cases L with
  | nil => cases hs
  | cons x r =>
   show x.T ≤ s.T
   rcases Up.1 hs with rfl | hs
   ·exact Uu _
   ·exact Int.le_of_lt ((List.pairwise_cons.1 h).1 s hs)
 ·have hne : L ≠ [] := fun e => by rw [e] at hs; cases hs
  have e := List.dropLast_concat_getLast hne
  rw [← e] at hs h ⊢
  rw [lastT_snoc]
  rcases Wr.1 hs with hs | hs
  ·exact Int.le_of_lt ((List.pairwise_append.1 h).2.2 s hs _ (Vk.2 rfl))
  ·rw [Vk] at hs
   rw [hs]; exact Uu _
theorem rise_snoc {L : List Smp} {x : Smp} (h : RiseP L) (hx : L = [] ∨ lastT L < x.T) : RiseP (L ++ [x]) := by
 refine List.pairwise_append.2 ⟨h, List.pairwise_singleton _ _, fun a ha b hb => ?_⟩
 rw [Vk] at hb
 rw [hb]
 rcases hx with rfl | hx
 ·cases ha
 ·exact Int.lt_of_le_of_lt (rise_span h a ha).2 hx
theorem within_app (L M : List Smp) (f t : Int) : within (L ++ M) f t = within L f t ++ within M f t := by unfold within; rw [Kn]
variable {G G' : Int → Blb} {b b' : Int}
def rowsOf (G : Int → Blb) (ps : List Prt) : List Smp := ps.flatMap fun p => (G p.blob).L
theorem rowsOf_cons (p : Prt) (ps : List Prt) : rowsOf G (p :: ps) = (G p.blob).L ++ rowsOf G ps := rfl
theorem rowsOf_append (ps qs : List Prt) : rowsOf G (ps ++ qs) = rowsOf G ps ++ rowsOf G qs := by unfold rowsOf; rw [Xl]
structure PrtOk (G : Int → Blb) (b : Int) (p : Prt) : Prop where
 id1 : 1 ≤ p.blob
 idl : p.blob ≤ b
 ne : (G p.blob).L ≠ []
 wf : ∀ x ∈ (G p.blob).L, x.Wf
 rise : RiseP (G p.blob).L
 len : (G p.blob).L.length ≤ 8
 tag : p.tag = (G p.blob).tag
 count : p.count = ((G p.blob).L.length : Int)
 frm : p.frm = firstT (G p.blob).L
 upto : p.upto = lastT (G p.blob).L
theorem PrtOk.more {p : Prt} (h : PrtOk G b p) (hb : b ≤ b') (hG : ∀ id, id ≤ b → G' id = G id) : PrtOk G' b' p := by
 have e := hG _ h.idl
 exact ⟨h.id1, Vw h.idl hb, by rw [e]; exact h.ne, by rw [e]; exact h.wf, by rw [e]; exact h.rise, by rw [e]; exact h.len, by rw [e]; exact h.tag, by rw [e]; exact h.count, by rw [e]; exact h.frm, by rw [e]; exact h.upto⟩
theorem rowsOf_same {ps : List Prt} (h : ∀ p ∈ ps, PrtOk G b p) (hG : ∀ id, id ≤ b → G' id = G id) : rowsOf G' ps = rowsOf G ps := by
 induction ps with
 | nil => rfl
 | cons p ps ih =>
  rw [rowsOf_cons, rowsOf_cons, ih fun q hq => h q (Ue _ hq), hG _ (h p (Ub ..)).idl]
theorem within_part {p : Prt} (h : PrtOk G b p) {f t : Int} (hn : ¬ max p.frm f ≤ min p.upto t) : within (G p.blob).L f t = [] := by
 refine List.filter_eq_nil_iff.2 fun s hs hc => hn ?_
 obtain ⟨h1, h2⟩ := rise_span h.rise s hs
 rw [← h.frm] at h1
 rw [← h.upto] at h2
 simp only [Uo, decide_eq_true_eq] at hc
 omega
theorem within_parts {ps : List Prt} (h : ∀ p ∈ ps, PrtOk G b p) (f t : Int) : within (rowsOf G ps) f t = (partsIn f t ps).flatMap fun p => within (G p.blob).L f t := by
 induction ps with
 | nil => rfl
 | cons p ps ih =>
  have ih := ih fun q hq => h q (Ue _ hq)
  rw [rowsOf_cons, within_app, ih]
  unfold partsIn
  by_cases hc : max p.frm f ≤ min p.upto t
  ·rw [List.filter_cons_of_pos O20, Uh]
  ·rw [List.filter_cons_of_neg O20, within_part (h p (Ub ..)) hc, Uq]
def SlotV.all (G : Int → Blb) (s : SlotV) : List Smp := rowsOf G s.chunks ++ s.opn
structure SlotOk (G : Int → Blb) (b : Int) (s : SlotV) : Prop where
 no : s.there = false → s.opn = [] ∧ s.chunks = []
 yes : s.there = true → s.any = true ∧ s.all G ≠ [] ∧ s.last = lastT (s.all G)
 few : s.opn.length ≤ 7
 closed : s.closed = true → s.opn = []
 wf : ∀ x ∈ s.opn, x.Wf
 prts : ∀ p ∈ s.chunks, PrtOk G b p
 rise : RiseP (s.all G)
variable {s : SlotV}
theorem SlotOk.more (h : SlotOk G b s) (hb : b ≤ b') (hG : ∀ id, id ≤ b → G' id = G id) : SlotOk G' b' s ∧ s.all G' = s.all G := by
 have e : s.all G' = s.all G := by unfold SlotV.all; rw [rowsOf_same h.prts hG]
 exact ⟨⟨h.no, by rw [e]; exact h.yes, h.few, h.closed, h.wf, fun p hp => (h.prts p hp).more hb hG, by rw [e]; exact h.rise⟩, e⟩
theorem SlotOk.ver (h : SlotOk G b s) (v : Int) : SlotOk G b { s with ver := v } := ⟨h.no, h.yes, h.few, h.closed, h.wf, h.prts, h.rise⟩
def Snp.all (G : Int → Blb) (x : Snp) : List Smp := (x.parts.flatMap fun p => within (G p.blob).L x.frm x.upto) ++ x.tail
theorem SlotOk.snap (h : SlotOk G b s) (f t : Int) : (s.snap f t).all G = within (s.all G) f t := by
 unfold SlotV.all
 rw [within_app, within_parts h.prts]
 rfl
theorem SlotOk.snap_prts (h : SlotOk G b s) (f t : Int) : ∀ p ∈ (s.snap f t).parts, PrtOk G b p := fun p hp => h.prts p (Xr.1 hp).1
theorem Snp.same {x : Snp} (h : ∀ p ∈ x.parts, PrtOk G b p) (hG : ∀ id, id ≤ b → G' id = G id) : x.all G' = x.all G := by
 unfold Snp.all
 congr 1
 generalize x.parts = ps at h
 induction ps with
 | nil => rfl
 | cons p ps ih => rw [Uh, Uh, ih fun q hq => h q (Ue _ hq), hG _ (h p (Ub ..)).idl]
def SlotV.more (s : SlotV) (x : Smp) : SlotV := { (if s.there then s else { SlotV.zero with there := true, life := s.life }) with any := true, last := x.T, opn := s.opn ++ [x] }
theorem SlotOk.all_more (h : SlotOk G b s) (x : Smp) : (s.more x).all G = s.all G ++ [x] := by
 unfold SlotV.more SlotV.all
 cases ht : s.there with
 | true => dsimp only; rw [if_pos rfl, Ul]
 | false =>
  obtain ⟨h1, h2⟩ := h.no ht
  rw [h1, h2]; rfl
theorem SlotOk.opn_more (h : SlotOk G b s) (x : Smp) : (s.more x).opn = s.opn ++ [x] ∧ (s.more x).chunks = s.chunks ∧ (s.more x).there = true ∧ (s.more x).any = true ∧ (s.more x).last = x.T ∧ (s.more x).life = s.life := by
 unfold SlotV.more
 cases ht : s.there with
 | true => exact ⟨rfl, rfl, ht, rfl, rfl, rfl⟩
 | false =>
  obtain ⟨h1, h2⟩ := h.no ht
  refine ⟨rfl, ?_, rfl, rfl, rfl, rfl⟩
  rw [h2]; rfl
def SlotV.shut (s : SlotV) (p : Prt) : SlotV := { s with chunks := s.chunks ++ [p], opn := [] }
theorem SlotV.all_shut (s : SlotV) {p : Prt} (hp : (G p.blob).L = s.opn) : (s.shut p).all G = s.all G := by
 unfold SlotV.shut SlotV.all
 rw [rowsOf_append, rowsOf_cons, hp]
 show _ ++ (s.opn ++ []) ++ [] = _
 rw [Uy, Uy]
def partOf (id : Int) (L : List Smp) : Prt := ⟨id, 1, (L.length : Int), firstT L, lastT L⟩
theorem made {L : List Smp} (hne : L ≠ []) (hwf : ∀ x ∈ L, x.Wf) (hr : RiseP L) (hl : L.length ≤ 65535) : ∃ bs, chMake 1 L = some bs ∧ Blb.Ok ⟨1, L⟩ bs ∧ (headDec bs).map (·.1) = some ⟨1, L.length, firstT L, lastT L⟩ := by
 have hrs := (rises_P L).2 hr
 have hris : rising L = true := by unfold rising; rw [hrs, decide_eq_true hl]; rfl
 have henc : ∃ x, suitEnc 1 L = some x := by
  unfold suitEnc
  rw [if_pos hris]
  unfold valuesEnc
  rw [if_pos rfl]
  exact ⟨_, rfl⟩
 obtain ⟨x, hx⟩ := henc
 have hm : chMake 1 L = some (chBody 1 L x ++ be4 (crc (chBody 1 L x))) := by unfold chMake; rw [hx]; dsimp only; rw [if_neg hne]
 refine ⟨_, hm, ⟨hm, hne, hwf, hrs, hl, Uu _, show (1 : Int) ≤ 6 by decide⟩, ?_⟩
 have := headDec_told (tag := 1) hwf hne hx (x ++ be4 (crc (chBody 1 L x)))
 have e : chBody 1 L x ++ be4 (crc (chBody 1 L x)) = UInt8.ofNat (1 : Int).toNat :: ((chNums L).flatMap vput ++ (x ++ be4 (crc (chBody 1 L x)))) := by
  show UInt8.ofNat (1 : Int).toNat :: ((chNums L).flatMap vput ++ x) ++ _ = _
  rw [Wd, Ul]
 rw [e, this]; rfl
def CodOk (tag : Int) : Prop := ReadOk tag ∧ ValOk tag
theorem cod_1 : CodOk 1 := ⟨read_1, val_1⟩
theorem Blb.Ok.tagOk {b : Blb} {bs : List UInt8} (h : b.Ok bs) (hc : CodOk b.tag) : TagOk bs := by
 obtain ⟨x, hx, _, he⟩ := chMake_some h.make
 have h1 := h.t1
 have ht := headDec_told (tag := b.tag) h.wf h.ne hx (x ++ be4 (crc (chBody b.tag b.L x)))
 have e : bs = UInt8.ofNat b.tag.toNat :: ((chNums b.L).flatMap vput ++ (x ++ be4 (crc (chBody b.tag b.L x)))) := by
  rw [he]
  show UInt8.ofNat b.tag.toNat :: ((chNums b.L).flatMap vput ++ x) ++ _ = _
  rw [Wd, Ul]
 intro y hy
 rw [e, ht] at hy
 obtain rfl := Un hy
 have e2 : ((b.tag.toNat : Nat) : Int) = b.tag := by omega
 show ReadOk ((b.tag.toNat : Nat) : Int) ∧ ValOk ((b.tag.toNat : Nat) : Int)
 rw [e2]; exact hc
end
section
variable {C : Cac} {S : Sto} {ps : List Key3} {al : Int → Bool} {G G' : Int → Blb} {b b' : Int} {x : Tk}
structure CacInv (C : Cac) (ps : List Key3) (al : Int → Bool) (G : Int → Blb) (b : Int) : Prop where
 good : C.Good ps.length
 pin : ∀ k a, C.pins k = some a → a = (ps.count k : Int)
 res : ∀ k, k ∈ ps → (C.pins k).isSome = true
 row : ∀ k L, mget k C.rows = some L → al k.series = false → k.blob ≤ b ∧ L = (G k.blob).L
theorem CacInv.more (h : CacInv C ps al G b) (hb : b ≤ b') (hG : ∀ id, id ≤ b → G' id = G id) : CacInv C ps al G' b' := by
 refine ⟨h.good, h.pin, h.res, fun k L hk ha => ?_⟩
 obtain ⟨h1, h2⟩ := h.row k L hk ha
 exact ⟨Vw h1 hb, by rw [hG _ h1]; exact h2⟩
theorem CacInv.get (h : CacInv C ps al G b) (k : Key3) : CacInv (C.get k).1 ps al G b ∧ (C.get k).1.clk.most = C.clk.most ∧ (C.get k).2 = mget k C.rows ∧ ∀ j, (C.get k).1.pins j = C.pins j := by
 obtain ⟨g1, g2, g3, g4, g5⟩ := Cac.get_good h.good k
 have gp := Cac.get_pins h.good k
 exact ⟨⟨g1, fun j a hj => h.pin j a (by rw [← gp]; exact hj), fun j hj => by rw [gp]; exact h.res j hj, fun j L hj => h.row j L (by rw [← g3]; exact hj)⟩, g5, g4, gp⟩
theorem CacInv.pin1 (h : CacInv C ps al G b) {k : Key3} (hk : (C.pins k).isSome = true) : CacInv (C.pinN k 1).1 (k :: ps) al G b ∧ (C.pinN k 1).1.clk.most = C.clk.most := by
 obtain ⟨a, ha⟩ := Wa.1 hk
 have hge := h.good.ge ha
 have hc := h.pin k a ha
 obtain ⟨p1, p2, p3, p4, p5⟩ := Cac.pin_some h.good 1 ha
 have e := Cac.pin_at h.good 1 ha
 have hbig := h.good.big k a ha
 refine ⟨⟨p5.mono (by rw [Ui]; omega), fun j c hj => ?_, fun j hj => ?_, fun j L hj => h.row j L (by rw [← p2]; exact hj)⟩, p3⟩
 ·rw [e] at hj
  rw [List.count_cons]
  split at hj
  ·rename_i hjk
   subst hjk
   have := Un hj
   rw [if_pos O8]; omega
  ·rename_i hjk
   rw [if_neg (by simpa using fun e => hjk e.symm)]
   exact h.pin j c hj
 ·rw [e]
  split
  ·rfl
  ·rename_i hjk
   rcases Up.1 hj with hj | hj
   ·exact absurd hj hjk
   ·exact h.res j hj
theorem CacInv.unpin1 {k : Key3} (h : CacInv C (k :: ps) al G b) : CacInv (C.unpin k).1 ps al G b ∧ (C.unpin k).1.clk.most = C.clk.most := by
 obtain ⟨a, ha⟩ := Wa.1 (h.res k (Ub ..))
 have hc := h.pin k a ha
 rw [List.count_cons, if_pos O8] at hc
 rw [Cac.unpin_pos h.good ha O0]
 obtain ⟨p1, p2, p3, p4, p5⟩ := Cac.pin_some h.good (-1) ha
 have e := Cac.pin_at h.good (-1) ha
 have hpin : ∀ j c, (C.pinN k (-1)).1.pins j = some c → c = (ps.count j : Int) := by
  intro j c hj
  rw [e] at hj
  split at hj
  ·rename_i hjk
   subst hjk
   have := Un hj
   omega
  ·rename_i hjk
   have := h.pin j c hj
   rw [List.count_cons, if_neg (by simpa using fun e => hjk e.symm)] at this
   exact this
 refine ⟨⟨p5.tight fun j c hj => ?_, hpin, fun j hj => ?_, fun j L hj => h.row j L (by rw [← p2]; exact hj)⟩, p3⟩
 ·have h1 := hpin j c hj
  have h2 := List.count_le_length (a := j) (l := ps)
  omega
 ·rw [e]
  split
  ·rfl
  ·exact h.res j (Ue _ hj)
theorem CacInv.put (h : CacInv C ps al G b) {k : Key3} {L : List Smp} (hL : L.length ≤ 1073741824) (hk : k.blob ≤ b) (hG : L = (G k.blob).L) :
  (C.put k L = (C, false) ∧ C.clk.most ≤ (C.clk.res.length : Int) ∧ (∀ j a, C.pins j = some a → a ≠ 0) ∧ C.pins k = none) ∨
  ((C.put k L).2 = true ∧ CacInv (C.put k L).1 ps al G b ∧ (C.put k L).1.clk.most = C.clk.most ∧ ((C.put k L).1.pins k).isSome = true) := by
 cases hp : C.pins k with
 | some a =>
  obtain ⟨p1, p2, p3, p4, p5⟩ := Cac.put_same h.good hL hp
  have gp : ∀ j, (C.put k L).1.pins j = C.pins j := fun j => by unfold Cac.pins; rw [p2]
  refine .inr ⟨p1, ⟨p5, fun j c hj => h.pin j c (by rw [← gp]; exact hj), fun j hj => by rw [gp]; exact h.res j hj, fun j M hj ha => ?_⟩, p4, by rw [gp, hp]; rfl⟩
  rw [p3, jj] at hj
  split at hj
  ·rename_i e
   subst e
   exact ⟨hk, by rw [← Un hj]; exact hG⟩
  ·exact h.row j M hj ha
 | none =>
  by_cases hc : C.clk.most ≤ (C.clk.res.length : Int) ∧ ∀ j a, C.pins j = some a → a ≠ 0
  ·exact .inl ⟨Cac.put_full h.good hp hc.1 hc.2, hc.1, hc.2, rfl⟩
  ·obtain ⟨p1, p2⟩ := Cac.put_in h.good (Kk _) hL hp hc
   refine .inr ⟨p1, ⟨p2.good, fun j c hj => ?_, fun j hj => ?_, fun j M hj ha => ?_⟩, p2.most, by rw [p2.here]; rfl⟩
   ·by_cases e : j = k
    ·subst e
     rw [p2.here] at hj
     obtain rfl := Un hj
     have : ps.count j = 0 := List.count_eq_zero.2 fun hm => by have := h.res j hm; rw [hp] at this; cases this
     rw [this]; rfl
    ·exact h.pin j c (p2.from_ e hj)
   ·obtain ⟨a, ha⟩ := Wa.1 (h.res j hj)
    have e : j ≠ k := fun e => by rw [e, hp] at ha; cases ha
    have h1 := h.pin j a ha
    have h2 := List.count_pos_iff.2 hj
    rw [p2.pinned e ha O0]; rfl
   ·by_cases e : j = k
    ·subst e
     rw [p2.row] at hj
     exact ⟨hk, by rw [← Un hj]; exact hG⟩
    ·have h1 := p2.good.same j
     rw [hj] at h1
     obtain ⟨a, h2⟩ := Wa.1 h1.symm
     rw [p2.rowOf h.good e h2] at hj
     exact h.row j M hj ha
def TkI (G : Int → Blb) (x : Tk) (pn : List Key3) (k : Nat) : Prop :=
 (x.PhA ∧ pn = [] ∧ k = 2 + m4 (G x.key.blob).L.length + m4 (within (G x.key.blob).L x.fr x.to).length) ∨
 (∃ r c, x.PhB c r false ∧ ((G x.key.blob).Ok c ∧ r ≤ (G x.key.blob).L.length) ∧ pn = [] ∧ k = m4 r + 1 + m4 (within (G x.key.blob).L x.fr x.to).length) ∨
 (x.PhC (some (G x.key.blob).L) ∧ pn = [] ∧ k = 1 + m4 (within (G x.key.blob).L x.fr x.to).length) ∨
 (x.PhD (within (G x.key.blob).L x.fr x.to) ∧ pn = [x.key] ∧ k = m4 ((within (G x.key.blob).L x.fr x.to).length - x.i))
theorem TkI.same {pn : List Key3} {k : Nat} (h : TkI G x pn k) (hG : G' x.key.blob = G x.key.blob) : TkI G' x pn k := by
 unfold TkI
 rw [hG]; exact h
theorem TkI.notdone {pn : List Key3} {k : Nat} (h : TkI G x pn k) : x.done = false := by
 rcases h with ⟨a, _⟩ | ⟨r, c, a, _⟩ | ⟨a, _⟩ | ⟨a, _⟩
 ·exact a.done
 ·exact a.done
 ·exact a.done
 ·exact a.done
theorem TkI.pos {pn : List Key3} {k : Nat} (h : TkI G x pn k) : 1 ≤ k := by
 rcases h with ⟨_, _, a⟩ | ⟨r, c, _, _, _, a⟩ | ⟨_, _, a⟩ | ⟨_, _, a⟩
 ·omega
 ·omega
 ·omega
 ·have := Rn0.m4_pos ((within (G x.key.blob).L x.fr x.to).length - x.i); omega
theorem within_len (L : List Smp) (f t : Int) : (within L f t).length ≤ L.length := Wx _ _
theorem TkI.sizes {pn : List Key3} {k : Nat} (h : TkI G x pn k) (hl : (G x.key.blob).L.length ≤ 8) : x.row.length ≤ 8 ∧ x.out.length ≤ 8 ∧ k ≤ 6 := by
 have hw := within_len (G x.key.blob).L x.fr x.to
 have m8 : ∀ n, n ≤ 8 → m4 n ≤ 2 := fun n hn => by unfold m4; omega
 have h1 := m8 _ hl
 have h2 := m8 _ (Ux hw hl)
 rcases h with ⟨a, _, c⟩ | ⟨r, c, a, ok, _, d⟩ | ⟨a, _, c⟩ | ⟨a, _, c⟩
 ·rw [a.row, a.out]; exact ⟨Ud _, Ud _, O_o⟩
 ·rw [a.row, a.out]
  have := m8 r (Ux ok.2 hl)
  exact ⟨Ud _, Ud _, O_o⟩
 ·rw [a.row, a.out]; exact ⟨Ud _, Ud _, O_o⟩
 ·rw [a.row, a.out, Us]
  have := m8 ((within (G x.key.blob).L x.fr x.to).length - x.i) O0
  exact ⟨O_o, O_o, O_o⟩
theorem TkI.dec {pn : List Key3} {k : Nat} (h : TkI G x pn k) : ∀ d, x.d = some d → x.pin = false → x.dec = false → (G x.key.blob).Ok d.bs := by
 intro d h1 h2 h3
 rcases h with ⟨a, _⟩ | ⟨r, c, a, ok, _⟩ | ⟨a, _⟩ | ⟨a, _⟩
 ·rw [a.d] at h1; cases h1
 ·obtain ⟨d', e1, e2, _⟩ := a.d
  rw [h1] at e1
  obtain rfl := Un e1
  rw [e2]; exact ok.1
 ·rw [a.dec] at h3; cases h3
 ·rw [a.pin] at h2; cases h2
theorem TkI.new (s f fr to : Int) (bl : Int) : TkI G (Tk.new s f bl fr to) [] (2 + m4 (G bl).L.length + m4 (within (G bl).L fr to).length) := .inl ⟨Tk.new_A _ _ _ _ _, rfl, rfl⟩
theorem TkI.step {pn : List Key3} {k : Nat} (h : TkI G x pn k) (hC : CacInv C (pn ++ ps) al G b) (hal : al x.key.series = false) (hb : x.key.blob ≤ b) (hs : ∃ e, mget x.key.blob S.l = some e ∧ (G x.key.blob).Ok e.bs) (hl : (G x.key.blob).L.length ≤ 8) :
  ((x.step S C).2.2 = 0 ∧ (x.step S C).1.key = x.key ∧ (x.step S C).1.fr = x.fr ∧ (x.step S C).1.to = x.to ∧ (x.step S C).2.1.clk.most = C.clk.most ∧
   ((∃ pn' k', TkI G (x.step S C).1 pn' k' ∧ k' < k ∧ CacInv (x.step S C).2.1 (pn' ++ ps) al G b) ∨ ((x.step S C).1.PhE (within (G x.key.blob).L x.fr x.to) ∧ CacInv (x.step S C).2.1 ps al G b))) ∨
  (x.step S C = (x, C, 6) ∧ C.clk.most ≤ (C.clk.res.length : Int) ∧ (∀ j a, C.pins j = some a → a ≠ 0) ∧ pn = []) := by
 rcases h with ⟨a, hpn, hk⟩ | ⟨r, c, a, hok, hpn, hk⟩ | ⟨a, hpn, hk⟩ | ⟨a, hpn, hk⟩
 ·subst hpn
  have hC0 : CacInv C ps al G b := hC
  obtain ⟨g1, g2, g3, g4⟩ := hC0.get x.key
  cases hg : (C.get x.key).2 with
  | some M =>
   have hrow := hC0.row x.key M (by rw [← g3]; exact hg) hal
   have hM := hrow.2
   rw [Tk.stepA_hit a hg]
   have hres : ((C.get x.key).1.pins x.key).isSome = true := by
    rw [g4, ← hC0.good.same, ← g3, hg]; rfl
   obtain ⟨p1, p2⟩ := g1.pin1 hres
   have hD := Tk.pinned_D (x := x) M a.done a.out
   rw [hM] at hD
   refine .inl ⟨rfl, rfl, rfl, rfl, by dsimp only; rw [p2, g2], .inl ⟨[x.key], m4 (within (G x.key.blob).L x.fr x.to).length, .inr (.inr (.inr ⟨?_, rfl, ?_⟩)), ?_, p1⟩⟩
   ·rw [hM]; exact hD
   ·rfl
   ·omega
  | none =>
   obtain ⟨e, he, hok⟩ := hs
   obtain ⟨e1, e2⟩ := Tk.stepA_miss (S := S) a hg he
   have ho := hok.opens
   have hdl : decL e.bs = (G x.key.blob).L := by unfold decL; rw [ho]; rfl
   rw [hdl, ho] at e2
   rw [e1]
   refine .inl ⟨rfl, rfl, rfl, rfl, rfl, .inl ⟨[], m4 (G x.key.blob).L.length + 1 + m4 (within (G x.key.blob).L x.fr x.to).length, .inr (.inl ⟨_, e.bs, e2, ⟨hok, Ug _⟩, rfl, rfl⟩), O_o, hC0⟩⟩
 ·subst hpn
  obtain ⟨x', e1, e2, e3, e4, e5, e6⟩ := Tk.stepB (S := S) (C := C) a
  rw [e1]
  have hdl : decL c = (G x.key.blob).L := by unfold decL; rw [hok.1.opens]; rfl
  refine .inl ⟨rfl, e2, e3, e4, rfl, .inl ?_⟩
  by_cases hr : 4 < r
  ·have := m4_gt r hr
   refine ⟨[], m4 (r - 4) + 1 + m4 (within (G x.key.blob).L x.fr x.to).length, .inr (.inl ⟨r - 4, c, e5 hr, ?_⟩), O_o, hC⟩
   dsimp only
   rw [e2, e3, e4]
   exact ⟨⟨hok.1, by have := hok.2; omega⟩, rfl, rfl⟩
  ·have := m4_le r O0
   have h6 := e6 O0
   rw [hdl] at h6
   refine ⟨[], 1 + m4 (within (G x.key.blob).L x.fr x.to).length, .inr (.inr (.inl ?_)), O_o, hC⟩
   dsimp only
   rw [e2, e3, e4]
   exact ⟨h6, rfl, rfl⟩
 ·subst hpn
  have hC0 : CacInv C ps al G b := hC
  have e1 : x.step S C = if (C.put x.key (G x.key.blob).L).2 then (x.pinned (G x.key.blob).L, ((C.put x.key (G x.key.blob).L).1.pinN x.key 1).1, 0) else (x, (C.put x.key (G x.key.blob).L).1, 6) := Tk.stepC a
  rcases hC0.put (k := x.key) (L := (G x.key.blob).L) O0 hb rfl with ⟨p1, p2, p3, _⟩ | ⟨p1, p2, p3, p4⟩
  ·rw [p1] at e1
   exact .inr ⟨e1, p2, p3, rfl⟩
  ·rw [if_pos p1] at e1
   rw [e1]
   obtain ⟨q1, q2⟩ := p2.pin1 p4
   exact .inl ⟨rfl, rfl, rfl, rfl, by dsimp only; rw [q2, p3], .inl ⟨[x.key], m4 (within (G x.key.blob).L x.fr x.to).length, .inr (.inr (.inr ⟨Tk.pinned_D (x := x) _ a.done a.out, rfl, rfl⟩)), O_o, q1⟩⟩
 ·subst hpn
  obtain ⟨x', e1, e2, e3, _, e4, e5⟩ := Tk.stepD (S := S) (C := C) a
  by_cases hr : 4 < (within (G x.key.blob).L x.fr x.to).length - x.i
  ·obtain ⟨f1, f2, f3⟩ := e4 hr
   have := m4_gt _ hr
   rw [f3]
   refine .inl ⟨rfl, e1, e2, e3, rfl, .inl ⟨[x.key], m4 ((within (G x.key.blob).L x.fr x.to).length - x'.i), .inr (.inr (.inr ?_)), ?_, hC⟩⟩
   ·dsimp only
    rw [e1, e2, e3]
    exact ⟨f1, rfl, rfl⟩
   ·rw [f2, show (within (G x.key.blob).L x.fr x.to).length - (x.i + 4) = (within (G x.key.blob).L x.fr x.to).length - x.i - 4 by omega]; omega
  ·obtain ⟨f1, f3⟩ := e5 O0
   rw [f3]
   have hu := hC.unpin1 (k := x.key) (ps := ps)
   exact .inl ⟨rfl, e1, e2, e3, hu.2, .inr ⟨f1, hu.1⟩⟩
theorem TkI.leave {pn : List Key3} {k : Nat} (h : TkI G x pn k) (hC : CacInv C (pn ++ ps) al G b) : CacInv (x.leave C).2 ps al G b ∧ (x.leave C).2.clk.most = C.clk.most := by
 unfold Tk.leave
 rcases h with ⟨a, hpn, _⟩ | ⟨r, c, a, _, hpn, _⟩ | ⟨a, hpn, _⟩ | ⟨a, hpn, _⟩
 ·subst hpn; rw [a.pin]; exact ⟨hC, rfl⟩
 ·subst hpn; rw [a.pin]; exact ⟨hC, rfl⟩
 ·subst hpn; rw [a.pin]; exact ⟨hC, rfl⟩
 ·subst hpn; rw [a.pin]; exact hC.unpin1 (k := x.key) (ps := ps)
end
section
abbrev Flag := Int × Int × SlotV
variable {d : List Plc} {acc : List SlotV} {F : List Flag} {G G' : Int → Blb} {b b' : Int} {n n' : Nat}
theorem get_set {α : Type} {l : List α} {i j : Nat} {x y : α} (h : (l.set i x)[j]? = some y) : (j = i ∧ y = x) ∨ (j ≠ i ∧ l[j]? = some y) := by
 rw [Zr] at h
 split at h
 ·rename_i e
  split at h
  ·exact .inl ⟨e.symm, (Un h).symm⟩
  ·cases h
 ·rename_i e
  exact .inr ⟨fun e' => e e'.symm, h⟩
theorem set_here {α : Type} {l : List α} {i : Nat} {x y : α} (h : l[i]? = some y) : (l.set i x)[i]? = some x := by
 rw [Zr, if_pos rfl, if_pos (Uf.1 h).1]
theorem vq {α : Type} {l : List α} {i j : Nat} {x : α} (h : j ≠ i) : (l.set i x)[j]? = l[j]? := by
 rw [Zr, if_neg fun e => h e.symm]
structure DirInv (d : List Plc) (acc : List SlotV) (F : List Flag) (G : Int → Blb) (b : Int) (n : Nat) : Prop where
 len : d.length = 16
 alen : acc.length = 16
 ok : ∀ (i : Nat) (p : Plc), d[i]? = some p → SlotOk G b p.s ∧ (p.s.chunks.length : Int) ≤ b ∧ 0 ≤ p.s.ver ∧ p.s.ver ≤ 2 * (n : Int) ∧ 0 ≤ p.s.life ∧ p.s.life ≤ n
 idle : ∀ (i : Nat) (p : Plc), d[i]? = some p → p.taken = false → p.s.ver.tmod 2 = 0 ∧ acc[i]? = some p.s
 busy : ∀ (i : Nat) (p : Plc), d[i]? = some p → p.taken = true → p.s.ver.tmod 2 = 1 ∧ ∃ f ∈ F, f.2.1 = (i : Int)
 nod : (F.map (·.2.1)).Nodup
 flg : ∀ f ∈ F, 0 ≤ f.2.1 ∧ f.2.1 < 16 ∧ ∃ p, d[f.2.1.toNat]? = some p ∧ p.taken = true ∧ p.who = f.1 ∧ acc[f.2.1.toNat]? = some f.2.2
 accs : ∀ x ∈ acc, (x.chunks.length : Int) ≤ b ∧ x.opn.length ≤ 8
theorem DirInv.mono (h : DirInv d acc F G b n) (hn : n ≤ n') : DirInv d acc F G b n' :=
 ⟨h.len, h.alen, fun i p hp => by obtain ⟨h1, h2, h3, h4, h5, h6⟩ := h.ok i p hp; exact ⟨h1, h2, h3, O_o, h5, O_o⟩, h.idle, h.busy, h.nod, h.flg, h.accs⟩
theorem DirInv.more (h : DirInv d acc F G b n) (hb : b ≤ b') (hG : ∀ id, id ≤ b → G' id = G id) : DirInv d acc F G' b' n :=
 ⟨h.len, h.alen, fun i p hp => by obtain ⟨h1, h2, h3⟩ := h.ok i p hp; exact ⟨(h1.more hb hG).1, Vw h2 hb, h3⟩, h.idle, h.busy, h.nod, h.flg, fun x hx => ⟨Vw (h.accs x hx).1 hb, (h.accs x hx).2⟩⟩
theorem tmod_odd {v : Int} (h0 : 0 ≤ v) (h : v.tmod 2 = 0) : (v + 1).tmod 2 = 1 := by
 rw [Zv O0] at h ⊢
 omega
theorem tmod_even {v : Int} (h0 : 0 ≤ v) (h : v.tmod 2 = 1) : (v + 1).tmod 2 = 0 := by
 rw [Zv O0] at h ⊢
 omega
theorem DirInv.noflag (h : DirInv d acc F G b n) {i : Nat} {p : Plc} (hp : d[i]? = some p) (ht : p.taken = false) : (i : Int) ∉ F.map (·.2.1) := by
 intro hm
 obtain ⟨f, hf, he⟩ := Vb.1 hm
 obtain ⟨_, _, q, hq, hqt, _⟩ := h.flg f hf
 rw [he, show ((i : Int)).toNat = i from by omega, hp] at hq
 obtain rfl := Un hq
 rw [ht] at hqt; cases hqt
theorem DirInv.take (h : DirInv d acc F G b n) {i : Nat} {p : Plc} (hp : d[i]? = some p) (ht : p.taken = false) (who : Int) : DirInv (d.set i ⟨{ p.s with ver := p.s.ver + 1 }, true, who⟩) acc ((who, (i : Int), p.s) :: F) G b (n + 1) := by
 obtain ⟨o1, o2, o3, o4, o5, o6⟩ := h.ok i p hp
 obtain ⟨v1, v2⟩ := h.idle i p hp ht
 have hi : i < 16 := by rw [← h.len]; exact (Uf.1 hp).1
 have hno := h.noflag hp ht
 refine ⟨by rw [Vc]; exact h.len, h.alen, fun j q hq => ?_, fun j q hq hqt => ?_, fun j q hq hqt => ?_, ?_, fun f hf => ?_, fun x hx => by have := h.accs x hx; omega⟩
 ·rcases get_set hq with ⟨rfl, rfl⟩ | ⟨_, hq⟩
  ·exact ⟨o1.ver _, O_d, O_d, O_d, o5, O_d⟩
  ·obtain ⟨h1, h2, h3, h4, h5, h6⟩ := h.ok j q hq
   exact ⟨h1, O_o, h3, O_o, h5, O_o⟩
 ·rcases get_set hq with ⟨rfl, rfl⟩ | ⟨_, hq⟩
  ·cases hqt
  ·exact h.idle j q hq hqt
 ·rcases get_set hq with ⟨rfl, rfl⟩ | ⟨_, hq⟩
  ·exact ⟨tmod_odd o3 v1, _, Ub .., rfl⟩
  ·obtain ⟨h1, f, hf, h2⟩ := h.busy j q hq hqt
   exact ⟨h1, f, Ue _ hf, h2⟩
 ·rw [Uw, Vu]
  exact ⟨hno, h.nod⟩
 ·rcases Up.1 hf with rfl | hf
  ·exact ⟨O_d, O_d, _, set_here hp, rfl, rfl, v2⟩
  ·obtain ⟨h1, h2, q, hq, h3, h4, h5⟩ := h.flg f hf
   have hne : f.2.1.toNat ≠ i := by
    rintro e
    rw [e, hp] at hq
    obtain rfl := Un hq
    rw [ht] at h3; cases h3
   exact ⟨h1, h2, q, by rw [vq hne]; exact hq, h3, h4, h5⟩
theorem DirInv.account {who : Int} {i : Nat} {x y : SlotV} (h : DirInv d acc ((who, (i : Int), x) :: F) G b n) (h1 : (y.chunks.length : Int) ≤ b) (h2 : y.opn.length ≤ 8) : DirInv d (acc.set i y) ((who, (i : Int), y) :: F) G b n := by
 obtain ⟨k1, k2, p, hp, hpt, hpw, hpa⟩ := h.flg _ (Ub ..)
 dsimp only at k1 k2 hp hpw hpa
 rw [show ((i : Int)).toNat = i from by omega] at hp hpa
 have hnod := h.nod
 rw [Uw, Vu] at hnod
 refine ⟨h.len, by rw [Vc]; exact h.alen, h.ok, fun j q hq hqt => ?_, fun j q hq hqt => ?_, ?_, fun f hf => ?_, fun z hz => ?_⟩
 ·have hne : j ≠ i := by
   rintro rfl
   rw [hp] at hq
   obtain rfl := Un hq
   rw [hpt] at hqt; cases hqt
  rw [vq hne]
  exact h.idle j q hq hqt
 ·obtain ⟨h1, f, hf, h2⟩ := h.busy j q hq hqt
  rcases Up.1 hf with rfl | hf
  ·exact ⟨h1, _, Ub .., h2⟩
  ·exact ⟨h1, f, Ue _ hf, h2⟩
 ·rw [Uw, Vu]; exact hnod
 ·rcases Up.1 hf with rfl | hf
  ·exact ⟨k1, k2, p, by dsimp only; rw [show ((i : Int)).toNat = i from by omega]; exact hp, hpt, hpw, by dsimp only; rw [show ((i : Int)).toNat = i from by omega]; exact set_here hpa⟩
  ·obtain ⟨h1, h2, q, hq, h3, h4, h5⟩ := h.flg f (Ue _ hf)
   have hne : f.2.1.toNat ≠ i := by
    intro e
    refine hnod.1 (Vb.2 ⟨f, hf, ?_⟩)
    dsimp only; omega
   exact ⟨h1, h2, q, hq, h3, h4, by rw [vq hne]; exact h5⟩
 ·obtain ⟨j, hj⟩ := Zp.1 hz
  rcases get_set hj with ⟨_, rfl⟩ | ⟨_, hj⟩
  ·exact ⟨h1, h2⟩
  ·exact h.accs z (Uj hj)
theorem DirInv.give {who : Int} {i : Nat} {x : SlotV} (h : DirInv d acc ((who, (i : Int), x) :: F) G b n) {sl : SlotV} (hok : SlotOk G b sl) (hch : (sl.chunks.length : Int) ≤ b) (hl0 : 0 ≤ sl.life) (hl1 : sl.life ≤ n) :
  ∃ p, d[i]? = some p ∧ p.taken = true ∧ p.who = who ∧ acc[i]? = some x ∧ p.s.ver.tmod 2 = 1 ∧ 0 ≤ p.s.ver ∧ p.s.ver ≤ 2 * (n : Int) ∧ DirInv (d.set i ⟨{ sl with ver := p.s.ver + 1 }, false, 0⟩) (acc.set i { sl with ver := p.s.ver + 1 }) F G b (n + 1) := by
 obtain ⟨k1, k2, p, hp, hpt, hpw, hpa⟩ := h.flg _ (Ub ..)
 dsimp only at k1 k2 hp hpw hpa
 rw [show ((i : Int)).toNat = i from by omega] at hp hpa
 obtain ⟨o1, o2, o3, o4, o5, o6⟩ := h.ok i p hp
 have hodd := (h.busy i p hp hpt).1
 have hnod := h.nod
 rw [Uw, Vu] at hnod
 refine ⟨p, hp, hpt, hpw, hpa, hodd, o3, o4, ?_⟩
 refine ⟨by rw [Vc]; exact h.len, by rw [Vc]; exact h.alen, fun j q hq => ?_, fun j q hq hqt => ?_, fun j q hq hqt => ?_, hnod.2, fun f hf => ?_, fun z hz => ?_⟩
 ·rcases get_set hq with ⟨rfl, rfl⟩ | ⟨_, hq⟩
  ·exact ⟨hok.ver _, O_d, O_d, O_d, hl0, O_d⟩
  ·obtain ⟨h1, h2, h3, h4, h5, h6⟩ := h.ok j q hq
   exact ⟨h1, O_o, h3, O_o, h5, O_o⟩
 ·rcases get_set hq with ⟨rfl, rfl⟩ | ⟨hne, hq⟩
  ·exact ⟨tmod_even o3 hodd, set_here hpa⟩
  ·rw [vq hne]
   exact h.idle j q hq hqt
 ·rcases get_set hq with ⟨rfl, rfl⟩ | ⟨hne, hq⟩
  ·cases hqt
  ·obtain ⟨h1, f, hf, h2⟩ := h.busy j q hq hqt
   rcases Up.1 hf with rfl | hf
   ·dsimp only at h2; omega
   ·exact ⟨h1, f, hf, h2⟩
 ·obtain ⟨h1, h2, q, hq, h3, h4, h5⟩ := h.flg f (Ue _ hf)
  have hne : f.2.1.toNat ≠ i := by
   intro e
   refine hnod.1 (Vb.2 ⟨f, hf, ?_⟩)
   dsimp only; omega
  exact ⟨h1, h2, q, by rw [vq hne]; exact hq, h3, h4, by rw [vq hne]; exact h5⟩
 ·obtain ⟨j, hj⟩ := Zp.1 hz
  rcases get_set hj with ⟨_, rfl⟩ | ⟨_, hj⟩
  ·exact ⟨O_d, by have := hok.few; dsimp only; omega⟩
  ·have := h.accs z (Uj hj)
   omega
structure SnpOk (G : Int → Blb) (b : Int) (x : Snp) : Prop where
 prts : ∀ p ∈ x.parts, PrtOk G b p
 few : (x.parts.length : Int) ≤ b
 tail : x.tail.length ≤ 7
theorem SnpOk.more {x : Snp} (h : SnpOk G b x) (hb : b ≤ b') (hG : ∀ id, id ≤ b → G' id = G id) : SnpOk G' b' x := ⟨fun p hp => (h.prts p hp).more hb hG, Vw h.few hb, h.tail⟩
structure TabInv (T : Tb) (U : List (Int × Int)) (al : Int → Bool) (G : Int → Blb) (b : Int) (n : Nat) : Prop where
 nd : (keys T.l).Nodup
 ids : ∀ id, id ∈ keys T.l → 1 ≤ id ∧ id ≤ T.last
 last0 : 0 ≤ T.last
 last1 : T.last ≤ n
 len : T.l.length ≤ 8
 on : ∀ id o, mget id T.l = some o → SnpOk G b o.x ∧ 0 ≤ o.told ∧ o.told ≤ ((o.x.all G).length : Int) ∧ al o.series = false ∧ (o.used = true → (o.who, id) ∈ U)
 us : ∀ u, u ∈ U → ∃ o, mget u.2 T.l = some o ∧ o.used = true ∧ o.who = u.1
 und : (U.map (·.2)).Nodup
variable {T : Tb} {U : List (Int × Int)} {al : Int → Bool}
theorem TabInv.mono (h : TabInv T U al G b n) (hn : n ≤ n') : TabInv T U al G b n' :=
 ⟨h.nd, h.ids, h.last0, by have := h.last1; omega, h.len, h.on, h.us, h.und⟩
theorem TabInv.more (h : TabInv T U al G b n) (hb : b ≤ b') (hG : ∀ id, id ≤ b → G' id = G id) : TabInv T U al G' b' n :=
 ⟨h.nd, h.ids, h.last0, h.last1, h.len, fun id o ho => by obtain ⟨h1, h2⟩ := h.on id o ho; exact ⟨h1.more hb hG, by rw [Snp.same h1.prts hG]; exact h2⟩, h.us, h.und⟩
theorem TabInv.open_ (h : TabInv T U al G b n) {x : Snp} {series : Int} (hx : SnpOk G b x) (hal : al series = false) (h8 : T.l.length < 8) :
  mget (T.last + 1) T.l = none ∧ TabInv ⟨T.last + 1, mset (T.last + 1) ⟨series, 0, x, false, 0⟩ T.l⟩ U al G b (n + 1) := by
 have hnk : T.last + 1 ∉ keys T.l := fun hk => by have := (h.ids _ hk).2; omega
 have hmn : mget (T.last + 1) T.l = none := mget_none.2 hnk
 refine ⟨hmn, gn h.nd, fun j hj => ?_, by have := h.last0; dsimp only; omega, by have := h.last1; dsimp only; omega, ?_, fun j o ho => ?_, fun u hu => ?_, h.und⟩
 ·have hj' : j ∈ keys (mset (T.last + 1) (⟨series, 0, x, false, 0⟩ : On) T.l) := hj
  rw [keys_mset, if_neg hnk, Wr] at hj'
  rcases hj' with hj' | hj'
  ·have := h.ids j hj'
   exact ⟨this.1, O_d⟩
  ·rw [Vk] at hj'
   have := h.last0
   subst hj'
   exact ⟨O_o, Uu _⟩
 ·show (mset (T.last + 1) (⟨series, 0, x, false, 0⟩ : On) T.l).length ≤ 8
  rw [len_mset, if_pos hmn]; omega
 ·have ho' : mget j (mset (T.last + 1) (⟨series, 0, x, false, 0⟩ : On) T.l) = some o := ho
  rw [jj] at ho'
  split at ho'
  ·obtain rfl := Un ho'
   exact ⟨hx, Uu _, O_d, hal, fun hu => by cases hu⟩
  ·exact h.on j o ho'
 ·obtain ⟨o, ho, h1⟩ := h.us u hu
  refine ⟨o, ?_, h1⟩
  show mget u.2 (mset (T.last + 1) (⟨series, 0, x, false, 0⟩ : On) T.l) = some o
  rw [jj, if_neg]
  ·exact ho
  ·rintro e
   rw [e, hmn] at ho; cases ho
theorem TabInv.keys_set (h : TabInv T U al G b n) {id : Int} {o o' : On} (hg : mget id T.l = some o) : (keys (mset id o' T.l)).Nodup ∧ (∀ j, j ∈ keys (mset id o' T.l) → 1 ≤ j ∧ j ≤ T.last) ∧ (mset id o' T.l).length ≤ 8 := by
 refine ⟨gn h.nd, fun j hj => ?_, ?_⟩
 ·rw [keys_mset, if_pos (mget_key hg)] at hj
  exact h.ids j hj
 ·rw [len_mset, if_neg (by rw [hg]; intro e; cases e)]; exact h.len
theorem TabInv.use (h : TabInv T U al G b n) {id who : Int} {o : On} (hg : mget id T.l = some o) (hu : o.used = false) : TabInv ⟨T.last, mset id { o with used := true, who := who } T.l⟩ ((who, id) :: U) al G b n := by
 obtain ⟨k1, k2, k3⟩ := h.keys_set (o' := { o with used := true, who := who }) hg
 obtain ⟨o1, o2, o3, o4, _⟩ := h.on id o hg
 have hno : ∀ u ∈ U, u.2 ≠ id := by
  rintro u hm rfl
  obtain ⟨o', ho', hu', _⟩ := h.us u hm
  rw [hg] at ho'
  obtain rfl := Un ho'
  rw [hu] at hu'; cases hu'
 refine ⟨k1, k2, h.last0, h.last1, k3, fun j x hx => ?_, fun u hm => ?_, ?_⟩
 ·have hx' : mget j (mset id ({ o with used := true, who := who } : On) T.l) = some x := hx
  rw [jj] at hx'
  split at hx'
  ·rename_i e
   subst e
   obtain rfl := Un hx'
   exact ⟨o1, o2, o3, o4, fun _ => Ub ..⟩
  ·obtain ⟨q1, q2, q3, q4, q5⟩ := h.on j x hx'
   exact ⟨q1, q2, q3, q4, fun hu => Ue _ (q5 hu)⟩
 ·rcases Up.1 hm with rfl | hm
  ·refine ⟨{ o with used := true, who := who }, ?_, rfl, rfl⟩
   show mget id (mset id _ T.l) = _
   rw [jj, if_pos rfl]
  ·obtain ⟨x, hx, h1⟩ := h.us u hm
   refine ⟨x, ?_, h1⟩
   show mget u.2 (mset id _ T.l) = _
   rw [jj, if_neg (hno u hm)]; exact hx
 ·rw [Uw, Vu]
  refine ⟨fun hm => ?_, h.und⟩
  obtain ⟨u, hu1, hu2⟩ := Vb.1 hm
  exact hno u hu1 hu2
theorem TabInv.free {id who : Int} {o : On} (h : TabInv T ((who, id) :: U) al G b n) (hg : mget id T.l = some o) {told : Int} (ht0 : 0 ≤ told) (ht1 : told ≤ ((o.x.all G).length : Int)) : TabInv ⟨T.last, mset id { o with used := false, told := told } T.l⟩ U al G b n := by
 obtain ⟨k1, k2, k3⟩ := h.keys_set (o' := { o with used := false, told := told }) hg
 obtain ⟨o1, o2, o3, o4, _⟩ := h.on id o hg
 have hund := h.und
 rw [Uw, Vu] at hund
 have hno : ∀ u ∈ U, u.2 ≠ id := fun u hm e => hund.1 (Vb.2 ⟨u, hm, e⟩)
 refine ⟨k1, k2, h.last0, h.last1, k3, fun j x hx => ?_, fun u hm => ?_, hund.2⟩
 ·have hx' : mget j (mset id ({ o with used := false, told := told } : On) T.l) = some x := hx
  rw [jj] at hx'
  split at hx'
  ·obtain rfl := Un hx'
   exact ⟨o1, ht0, ht1, o4, fun hu => by cases hu⟩
  ·rename_i hj
   obtain ⟨q1, q2, q3, q4, q5⟩ := h.on j x hx'
   refine ⟨q1, q2, q3, q4, fun hu => ?_⟩
   rcases Up.1 (q5 hu) with e | e
   ·exact absurd (congrArg Prod.snd e) hj
   ·exact e
 ·obtain ⟨x, hx, h1⟩ := h.us u (Ue _ hm)
  refine ⟨x, ?_, h1⟩
  show mget u.2 (mset id _ T.l) = _
  rw [jj, if_neg (hno u hm)]; exact hx
theorem TabInv.close {id who : Int} (h : TabInv T ((who, id) :: U) al G b n) : TabInv ⟨T.last, mdel id T.l⟩ U al G b n := by
 obtain ⟨o, hg, _, _⟩ := h.us _ (Ub ..)
 dsimp only at hg
 have hund := h.und
 rw [Uw, Vu] at hund
 have hno : ∀ u ∈ U, u.2 ≠ id := fun u hm e => hund.1 (Vb.2 ⟨u, hm, e⟩)
 refine ⟨mdel_nodup h.nd, fun j hj => ?_, h.last0, h.last1, ?_, fun j x hx => ?_, fun u hm => ?_, hund.2⟩
 ·have hj' : j ∈ keys (mdel id T.l) := hj
  rw [keys_mdel] at hj'
  exact h.ids j (Ww hj')
 ·have := len_mdel id T.l (by rw [hg]; intro e; cases e)
  have := h.len
  show (mdel id T.l).length ≤ 8
  omega
 ·have hx' : mget j (mdel id T.l) = some x := hx
  rw [j5 _ _ _ h.nd] at hx'
  split at hx'
  ·cases hx'
  ·rename_i hj
   obtain ⟨q1, q2, q3, q4, q5⟩ := h.on j x hx'
   refine ⟨q1, q2, q3, q4, fun hu => ?_⟩
   rcases Up.1 (q5 hu) with e | e
   ·exact absurd (congrArg Prod.snd e) hj
   ·exact e
 ·obtain ⟨x, hx, h1⟩ := h.us u (Ue _ hm)
  refine ⟨x, ?_, h1⟩
  show mget u.2 (mdel id T.l) = _
  rw [j5 _ _ _ h.nd, if_neg (hno u hm)]; exact hx
structure Ag where
 who : Int
 flag : Option (Int × SlotV)
 held : List Prt
 pins : List Key3
 use : Option Int
 seen : Option (Int × SlotV)
def Ag.idle (who : Int) : Ag := ⟨who, none, [], [], none, none⟩
def Ag.flags (a : Ag) : List Flag := match a.flag with | none => [] | some f => [(a.who, f)]
def Ag.uses (a : Ag) : List (Int × Int) := match a.use with | none => [] | some id => [(a.who, id)]
def SeenOk (d : List Plc) (G : Int → Blb) (b : Int) (f : Int × SlotV) : Prop := 0 ≤ f.1 ∧ f.1 < 16 ∧ SlotOk G b f.2 ∧ f.2.ver.tmod 2 = 0 ∧ ∃ p, d[f.1.toNat]? = some p ∧ f.2.ver ≤ p.s.ver ∧ (p.s.ver = f.2.ver → p.s = f.2)
structure AgOk (a : Ag) (d : List Plc) (G : Int → Blb) (b : Int) : Prop where
 held : ∀ p ∈ a.held, PrtOk G b p
 few : (a.held.length : Int) ≤ b
 pins : a.pins.length ≤ 100
 seen : ∀ f, a.seen = some f → SeenOk d G b f
def cntOf (acc : List SlotV) (A : List Ag) (T : Tb) (id : Int) : Nat := sumF (fun x : SlotV => rc id x.chunks) acc + sumF (fun a : Ag => rc id a.held) A + sumM (fun o : On => rc id o.x.parts) T.l
def chOf (acc : List SlotV) : Nat := sumF (fun x : SlotV => x.opn.length) acc
structure Inv (s : Shd) (A : List Ag) (acc : List SlotV) (al : Int → Bool) (G : Int → Blb) (n : Nat) : Prop where
 dir : DirInv s.d acc (A.flatMap Ag.flags) G s.b.last n
 sto : StoInv s.b (cntOf acc A s.t) (chOf acc) G
 cac : CacInv s.c (A.flatMap Ag.pins) al G s.b.last
 tab : TabInv s.t (A.flatMap Ag.uses) al G s.b.last n
 ags : ∀ a ∈ A, AgOk a s.d G s.b.last
 whos : (A.map Ag.who).Nodup
 last : s.b.last ≤ 100000
 n30 : n ≤ 1000000000
 few : A.length ≤ 100
end
section
theorem sumF_bound {α : Type} {f : α → Nat} {B : Nat} : ∀ {l : List α}, (∀ x ∈ l, f x ≤ B) → sumF f l ≤ l.length * B
 | [], _ => Ud _
 | x :: l, h => by
  have h1 := h x (Ub ..)
  have h2 := sumF_bound (l := l) fun y hy => h y (Ue _ hy)
  rw [sumF, Ui, Zl]; omega
theorem mem_mget {κ β : Type} [DecidableEq κ] {m : List (κ × β)} (hn : (keys m).Nodup) {p : κ × β} (hp : p ∈ m) : mget p.1 m = some p.2 := (gr hn).2 hp
variable {s : Shd} {a : Ag} {A : List Ag} {acc : List SlotV} {al : Int → Bool} {G G' : Int → Blb} {n n' : Nat}
theorem Inv.mono (h : Inv s A acc al G n) (hn : n ≤ n') (h30 : n' ≤ 1000000000) : Inv s A acc al G n' :=
 ⟨h.dir.mono hn, h.sto, h.cac, h.tab.mono hn, h.ags, h.whos, h.last, h30, h.few⟩
theorem Inv.cnt_le (h : Inv s A acc al G n) (id : Int) : cntOf acc A s.t id ≤ 13000000 := by
 have hn := h.last
 have h1 : sumF (fun x : SlotV => rc id x.chunks) acc ≤ acc.length * 100000 := sumF_bound fun x hx => Ux (rc_le _ _) (by have := (h.dir.accs x hx).1; omega)
 have h2 : sumF (fun a : Ag => rc id a.held) A ≤ A.length * 100000 := sumF_bound fun a ha => Ux (rc_le _ _) (by have := (h.ags a ha).few; omega)
 have h3 : sumM (fun o : On => rc id o.x.parts) s.t.l ≤ s.t.l.length * 100000 := sumF_bound fun p hp => Ux (rc_le _ _) (by have := (h.tab.on p.1 p.2 (mem_mget h.tab.nd hp)).1.few; omega)
 have e2 := h.few
 have e3 := h.tab.len
 rw [h.dir.alen] at h1
 unfold cntOf
 omega
theorem Inv.b0 (h : Inv s A acc al G n) : (([] : List Prt).length : Int) ≤ s.b.last := h.sto.ok.l0
theorem SeenOk.set {d : List Plc} {b : Int} {f : Int × SlotV} (h : SeenOk d G b f) {i : Nat} {p q : Plc} (hp : d[i]? = some p) (hv : q.s.ver = p.s.ver + 1) : SeenOk (d.set i q) G b f := by
 obtain ⟨h1, h2, h3, h4, x, hx, h5, h6⟩ := h
 refine ⟨h1, h2, h3, h4, ?_⟩
 by_cases e : f.1.toNat = i
 ·rw [e, hp] at hx
  obtain rfl := Un hx
  exact ⟨q, by rw [e]; exact set_here hp, O_o, fun he => by omega⟩
 ·exact ⟨x, by rw [vq e]; exact hx, h5, h6⟩
theorem SeenOk.more {d : List Plc} {b b' : Int} {f : Int × SlotV} (h : SeenOk d G b f) (hb : b ≤ b') (hG : ∀ id, id ≤ b → G' id = G id) : SeenOk d G' b' f := by
 obtain ⟨h1, h2, h3, h4⟩ := h
 exact ⟨h1, h2, (h3.more hb hG).1, h4⟩
theorem AgOk.set {d : List Plc} {b : Int} (h : AgOk a d G b) {i : Nat} {p q : Plc} (hp : d[i]? = some p) (hv : q.s.ver = p.s.ver + 1) : AgOk a (d.set i q) G b :=
 ⟨h.held, h.few, h.pins, fun f hf => (h.seen f hf).set hp hv⟩
theorem AgOk.more {d : List Plc} {b b' : Int} (h : AgOk a d G b) (hb : b ≤ b') (hG : ∀ id, id ≤ b → G' id = G id) : AgOk a d G' b' :=
 ⟨fun p hp => (h.held p hp).more hb hG, Vw h.few hb, h.pins, fun f hf => (h.seen f hf).more hb hG⟩
theorem flags_none (ha : a.flag = none) : a.flags = [] := by unfold Ag.flags; rw [ha]
theorem flags_some {f : Int × SlotV} (ha : a.flag = some f) : a.flags = [(a.who, f)] := by unfold Ag.flags; rw [ha]
theorem uses_none (ha : a.use = none) : a.uses = [] := by unfold Ag.uses; rw [ha]
theorem uses_some {id : Int} (ha : a.use = some id) : a.uses = [(a.who, id)] := by unfold Ag.uses; rw [ha]
theorem Inv.take (h : Inv s (a :: A) acc al G n) (ha : a.flag = none) {i : Nat} {p : Plc} (hp : s.d[i]? = some p) (ht : p.taken = false) (hn : n + 1 ≤ 1000000000) :
  Inv { s with d := s.d.set i ⟨{ p.s with ver := p.s.ver + 1 }, true, a.who⟩ } ({ a with flag := some ((i : Int), p.s) } :: A) acc al G (n + 1) := by
 have hd := h.dir
 rw [Uh, flags_none ha, Uq] at hd
 refine ⟨?_, h.sto, h.cac, h.tab.mono (Nat.le_succ _), fun x hx => ?_, h.whos, h.last, hn, h.few⟩
 ·rw [Uh, flags_some rfl]
  exact hd.take hp ht a.who
 ·rcases Up.1 hx with rfl | hx
  ·have := (h.ags a (Ub ..)).set (q := ⟨{ p.s with ver := p.s.ver + 1 }, true, a.who⟩) hp rfl
   exact ⟨this.held, this.few, this.pins, this.seen⟩
  ·exact (h.ags x (Ue _ hx)).set hp rfl
theorem cnt_set {i : Nat} {x y : SlotV} (hx : acc[i]? = some x) (T : Tb) (id : Int) : cntOf (acc.set i y) A T id + rc id x.chunks = cntOf acc A T id + rc id y.chunks := by
 have := sumF_set (fun x : SlotV => rc id x.chunks) (y := y) hx
 unfold cntOf
 (try dsimp only at this)
 omega
theorem ch_set {i : Nat} {x y : SlotV} (hx : acc[i]? = some x) : chOf (acc.set i y) + x.opn.length = chOf acc + y.opn.length := sumF_set (fun x : SlotV => x.opn.length) (y := y) hx
theorem Inv.give (h : Inv s (a :: A) acc al G n) {i : Nat} {x sl : SlotV} (ha : a.flag = some ((i : Int), x)) (hok : SlotOk G s.b.last sl) (e1 : sl.chunks = x.chunks) (e2 : sl.opn = x.opn) (hl0 : 0 ≤ sl.life) (hl1 : sl.life ≤ n) (hn : n + 1 ≤ 1000000000) :
  ∃ p, s.d[i]? = some p ∧ p.taken = true ∧ p.who = a.who ∧ p.s.ver.tmod 2 = 1 ∧ 0 ≤ p.s.ver ∧ p.s.ver ≤ 2 * (n : Int) ∧ Inv { s with d := s.d.set i ⟨{ sl with ver := p.s.ver + 1 }, false, 0⟩ } ({ a with flag := none } :: A) (acc.set i { sl with ver := p.s.ver + 1 }) al G (n + 1) := by
 have hd := h.dir
 rw [Uh, flags_some ha] at hd
 have hxa := hd.accs x (by
  obtain ⟨_, _, p, _, _, _, hpa⟩ := hd.flg _ (Ub ..)
  exact Uj hpa)
 obtain ⟨p, hp, hpt, hpw, hpa, hodd, hv0, hv1, hd'⟩ := hd.give hok (by rw [e1]; exact hxa.1) hl0 hl1
 refine ⟨p, hp, hpt, hpw, hodd, hv0, hv1, ?_, ?_, h.cac, h.tab.mono (Nat.le_succ _), fun y hy => ?_, h.whos, h.last, hn, h.few⟩
 ·rw [Uh, flags_none rfl, Uq]
  exact hd'
 ·have e3 : chOf (acc.set i { sl with ver := p.s.ver + 1 }) = chOf acc := by
   have := ch_set (y := { sl with ver := p.s.ver + 1 }) hpa
   exact Zz (this.trans (congrArg (fun l : List Smp => chOf acc + l.length) e2))
  rw [e3]
  refine h.sto.eqv fun id => ?_
  have := cnt_set (y := { sl with ver := p.s.ver + 1 }) (A := a :: A) hpa s.t id
  exact Zz (this.trans (congrArg (fun l : List Prt => cntOf acc (a :: A) s.t id + rc id l) e1))
 ·rcases Up.1 hy with rfl | hy
  ·have := (h.ags a (Ub ..)).set (q := ⟨{ sl with ver := p.s.ver + 1 }, false, 0⟩) hp rfl
   exact ⟨this.held, this.few, this.pins, this.seen⟩
  ·exact (h.ags y (Ue _ hy)).set hp rfl
theorem cnt_acc {x : SlotV} (hx : x ∈ acc) {p : Prt} (hp : p ∈ x.chunks) (T : Tb) : 0 < cntOf acc A T p.blob := by
 have h1 := sumF_le (fun x : SlotV => rc p.blob x.chunks) hx
 have h2 := rc_mem hp
 unfold cntOf
 (try dsimp only at h1)
 omega
theorem cnt_held {p : Prt} (hp : p ∈ a.held) (T : Tb) : 0 < cntOf acc (a :: A) T p.blob := by
 have h2 := rc_mem hp
 unfold cntOf
 rw [sumF]
 omega
theorem Inv.hold (h : Inv s (a :: A) acc al G n) (ha : a.held = []) {ps : List Prt} (h1 : ∀ p ∈ ps, PrtOk G s.b.last p) (h2 : ∀ p ∈ ps, 0 < cntOf acc (a :: A) s.t p.blob) (h3 : (ps.length : Int) ≤ s.b.last) :
  (s.b.hold [] ps).1 = true ∧ (s.b.hold [] ps).2.last = s.b.last ∧ Inv { s with b := (s.b.hold [] ps).2 } ({ a with held := ps } :: A) acc al G n := by
 have hc : ∀ j, cntOf acc ({ a with held := ps } :: A) s.t j = cntOf acc (a :: A) s.t j + rc j ps := by
  intro j
  unfold cntOf
  rw [sumF, sumF, ha, rc_nil]
  (try dsimp only)
  omega
 have hn := h.n30
 obtain ⟨k1, k2, k3, k4, k5⟩ := h.sto.hold [] h2 hc fun j => by
  have e1 := h.cnt_le j
  have e2 := rc_le j ps
  have e3 := h.last
  rw [hc]
  unfold M40
  omega
 refine ⟨k1, k3, ?_, k2, ?_, ?_, fun x hx => ?_, h.whos, by dsimp only; rw [k3]; exact h.last, h.n30, h.few⟩
 ·dsimp only; rw [k3]; exact h.dir
 ·dsimp only; rw [k3]; exact h.cac
 ·dsimp only; rw [k3]; exact h.tab
 ·dsimp only
  rw [k3]
  rcases Up.1 hx with rfl | hx
  ·exact ⟨h1, h3, (h.ags a (Ub ..)).pins, (h.ags a (Ub ..)).seen⟩
  ·exact h.ags x (Ue _ hx)
theorem Inv.unhold (h : Inv s (a :: A) acc al G n) {ps : List Prt} (ha : a.held = ps) : (s.b.leave ps).last = s.b.last ∧ Inv { s with b := s.b.leave ps } ({ a with held := [] } :: A) acc al G n := by
 have hc : ∀ j, cntOf acc (a :: A) s.t j = cntOf acc ({ a with held := [] } :: A) s.t j + rc j ps := by
  intro j
  unfold cntOf
  rw [sumF, sumF, ha, rc_nil]
  (try dsimp only)
  omega
 obtain ⟨k1, k2, k3⟩ := h.sto.leave hc
 refine ⟨k2, ?_, k1, ?_, ?_, fun x hx => ?_, h.whos, by dsimp only; rw [k2]; exact h.last, h.n30, h.few⟩
 ·dsimp only; rw [k2]; exact h.dir
 ·dsimp only; rw [k2]; exact h.cac
 ·dsimp only; rw [k2]; exact h.tab
 ·dsimp only
  rw [k2]
  rcases Up.1 hx with rfl | hx
  ·exact ⟨fun p hp => (by cases hp), h.b0, (h.ags a (Ub ..)).pins, (h.ags a (Ub ..)).seen⟩
  ·exact h.ags x (Ue _ hx)
theorem Inv.cache (h : Inv s (a :: A) acc al G n) {C : Cac} {pn : List Key3} (hp : pn.length ≤ 100) (hC : CacInv C (pn ++ A.flatMap Ag.pins) al G s.b.last) : Inv { s with c := C } ({ a with pins := pn } :: A) acc al G n := by
 refine ⟨h.dir, h.sto, ?_, h.tab, fun x hx => ?_, h.whos, h.last, h.n30, h.few⟩
 ·rw [Uh]; exact hC
 ·rcases Up.1 hx with rfl | hx
  ·exact ⟨(h.ags a (Ub ..)).held, (h.ags a (Ub ..)).few, hp, (h.ags a (Ub ..)).seen⟩
  ·exact h.ags x (Ue _ hx)
theorem Inv.cac_in (h : Inv s (a :: A) acc al G n) : CacInv s.c (a.pins ++ A.flatMap Ag.pins) al G s.b.last := by
 have := h.cac
 rwa [Uh] at this
theorem Inv.see (h : Inv s (a :: A) acc al G n) {f : Option (Int × SlotV)} (hf : ∀ x, f = some x → SeenOk s.d G s.b.last x) : Inv s ({ a with seen := f } :: A) acc al G n := by
 refine ⟨h.dir, h.sto, h.cac, h.tab, fun x hx => ?_, h.whos, h.last, h.n30, h.few⟩
 rcases Up.1 hx with rfl | hx
 ·exact ⟨(h.ags a (Ub ..)).held, (h.ags a (Ub ..)).few, (h.ags a (Ub ..)).pins, hf⟩
 ·exact h.ags x (Ue _ hx)
theorem Inv.account (h : Inv s (a :: A) acc al G n) {i : Nat} {x y : SlotV} (ha : a.flag = some ((i : Int), x)) {S : Sto} (hS : StoInv S (cntOf (acc.set i y) (a :: A) s.t) (chOf (acc.set i y)) G') (hl : s.b.last ≤ S.last) (hl1 : S.last ≤ 100000)
  (hG : ∀ id, id ≤ s.b.last → G' id = G id) (hn : n ≤ n') (hn3 : n' ≤ 1000000000) (h1 : (y.chunks.length : Int) ≤ S.last) (h2 : y.opn.length ≤ 8) : Inv { s with b := S } ({ a with flag := some ((i : Int), y) } :: A) (acc.set i y) al G' n' := by
 have hd := h.dir
 rw [Uh, flags_some ha] at hd
 refine ⟨?_, hS, h.cac.more hl hG, (h.tab.more hl hG).mono hn, fun z hz => ?_, h.whos, hl1, hn3, h.few⟩
 ·rw [Uh, flags_some rfl]
  exact ((hd.more hl hG).mono hn).account h1 h2
 ·rcases Up.1 hz with rfl | hz
  ·exact ⟨fun p hp => ((h.ags a (Ub ..)).held p hp).more hl hG, Vw (h.ags a (Ub ..)).few hl, (h.ags a (Ub ..)).pins, fun f hf => ((h.ags a (Ub ..)).seen f hf).more hl hG⟩
  ·exact (h.ags z (Ue _ hz)).more hl hG
theorem Inv.opens (h : Inv s (a :: A) acc al G n) {x : Snp} {series : Int} (hx : SnpOk G s.b.last x) (ha : a.held = x.parts) (hal : al series = false) (h8 : s.t.l.length < 8) (hn : n + 1 ≤ 1000000000) :
  mget (s.t.last + 1) s.t.l = none ∧ Inv { s with t := ⟨s.t.last + 1, mset (s.t.last + 1) ⟨series, 0, x, false, 0⟩ s.t.l⟩ } ({ a with held := [] } :: A) acc al G (n + 1) := by
 obtain ⟨h1, h2⟩ := h.tab.open_ hx hal h8
 refine ⟨h1, h.dir.mono (Nat.le_succ _), h.sto.eqv fun id => ?_, h.cac, h2, fun z hz => ?_, h.whos, h.last, hn, h.few⟩
 ·unfold cntOf
  have := sumM_new (fun o : On => rc id o.x.parts) (v := ⟨series, 0, x, false, 0⟩) h1
  dsimp only at this ⊢
  rw [this, sumF, sumF, ha, rc_nil]
  (try dsimp only)
  omega
 ·rcases Up.1 hz with rfl | hz
  ·exact ⟨fun p hp => (by cases hp), h.b0, (h.ags a (Ub ..)).pins, (h.ags a (Ub ..)).seen⟩
  ·exact h.ags z (Ue _ hz)
theorem Inv.uses (h : Inv s (a :: A) acc al G n) (ha : a.use = none) {id : Int} {o : On} (hg : mget id s.t.l = some o) (hu : ¬ (o.used = true ∧ o.who ≠ a.who)) :
  o.used = false ∧ Inv { s with t := ⟨s.t.last, mset id { o with used := true, who := a.who } s.t.l⟩ } ({ a with use := some id } :: A) acc al G n := by
 have ht := h.tab
 rw [Uh, uses_none ha, Uq] at ht
 have huse : o.used = false := by
  cases hb : o.used with
  | false => rfl
  | true =>
   have hw : o.who = a.who := Wu fun hw => hu ⟨hb, hw⟩
   have hm := (ht.on id o hg).2.2.2.2 hb
   rw [Xv] at hm
   obtain ⟨x, hx, hxu⟩ := hm
   have hwx : x.who = a.who := by
    unfold Ag.uses at hxu
    split at hxu
    ·cases hxu
    ·rw [Vk] at hxu
     have := congrArg Prod.fst hxu
     dsimp only at this
     omega
   have hwh := h.whos
   rw [Uw, Vu] at hwh
   exact absurd (Vb.2 ⟨x, hx, hwx⟩) hwh.1
 refine ⟨huse, h.dir, h.sto.eqv fun j => ?_, h.cac, ?_, fun z hz => ?_, h.whos, h.last, h.n30, h.few⟩
 ·unfold cntOf
  have := sumM_set (fun o : On => rc j o.x.parts) (v := { o with used := true, who := a.who }) hg
  (try dsimp only at this ⊢)
  rw [sumF, sumF]
  (try dsimp only)
  omega
 ·rw [Uh, uses_some rfl]
  exact ht.use hg huse
 ·rcases Up.1 hz with rfl | hz
  ·exact ⟨(h.ags a (Ub ..)).held, (h.ags a (Ub ..)).few, (h.ags a (Ub ..)).pins, (h.ags a (Ub ..)).seen⟩
  ·exact h.ags z (Ue _ hz)
theorem Inv.mine (h : Inv s (a :: A) acc al G n) {id : Int} (ha : a.use = some id) : ∃ o, mget id s.t.l = some o ∧ o.used = true ∧ o.who = a.who ∧ SnpOk G s.b.last o.x ∧ 0 ≤ o.told ∧ o.told ≤ ((o.x.all G).length : Int) ∧ al o.series = false := by
 have ht := h.tab
 rw [Uh, uses_some ha] at ht
 obtain ⟨o, h1, h2, h3⟩ := ht.us _ (Ub ..)
 obtain ⟨h4, h5, h6, h7, _⟩ := ht.on _ _ h1
 exact ⟨o, h1, h2, h3, h4, h5, h6, h7⟩
theorem Inv.frees (h : Inv s (a :: A) acc al G n) {id : Int} (ha : a.use = some id) {o : On} (hg : mget id s.t.l = some o) {told : Int} (h0 : 0 ≤ told) (h1 : told ≤ ((o.x.all G).length : Int)) :
  Inv { s with t := ⟨s.t.last, mset id { o with used := false, told := told } s.t.l⟩ } ({ a with use := none } :: A) acc al G n := by
 have ht := h.tab
 rw [Uh, uses_some ha] at ht
 refine ⟨h.dir, h.sto.eqv fun j => ?_, h.cac, ?_, fun z hz => ?_, h.whos, h.last, h.n30, h.few⟩
 ·unfold cntOf
  have := sumM_set (fun o : On => rc j o.x.parts) (v := { o with used := false, told := told }) hg
  (try dsimp only at this ⊢)
  rw [sumF, sumF]
  (try dsimp only)
  omega
 ·rw [Uh, uses_none rfl, Uq]
  exact ht.free hg h0 h1
 ·rcases Up.1 hz with rfl | hz
  ·exact ⟨(h.ags a (Ub ..)).held, (h.ags a (Ub ..)).few, (h.ags a (Ub ..)).pins, (h.ags a (Ub ..)).seen⟩
  ·exact h.ags z (Ue _ hz)
theorem Inv.closes (h : Inv s (a :: A) acc al G n) {id : Int} (ha : a.use = some id) (hh : a.held = []) {o : On} (hg : mget id s.t.l = some o) : Inv { s with t := ⟨s.t.last, mdel id s.t.l⟩ } ({ a with use := none, held := o.x.parts } :: A) acc al G n := by
 have ht := h.tab
 rw [Uh, uses_some ha] at ht
 have hok := (ht.on id o hg).1
 refine ⟨h.dir, h.sto.eqv fun j => ?_, h.cac, ?_, fun z hz => ?_, h.whos, h.last, h.n30, h.few⟩
 ·unfold cntOf
  have := sumM_del (fun o : On => rc j o.x.parts) hg
  dsimp only at this ⊢
  rw [sumF, sumF, hh, rc_nil]
  dsimp only
  omega
 ·rw [Uh, uses_none rfl, Uq]
  exact ht.close
 ·rcases Up.1 hz with rfl | hz
  ·exact ⟨hok.prts, hok.few, (h.ags a (Ub ..)).pins, (h.ags a (Ub ..)).seen⟩
  ·exact h.ags z (Ue _ hz)
theorem Inv.enter (h : Inv s A acc al G n) {who : Int} (hw : who ∉ A.map Ag.who) (hf : A.length + 1 ≤ 100) : Inv s (Ag.idle who :: A) acc al G n := by
 refine ⟨h.dir, h.sto.eqv fun j => ?_, h.cac, h.tab, fun z hz => ?_, by rw [Uw, Vu]; exact ⟨hw, h.whos⟩, h.last, h.n30, hf⟩
 ·unfold cntOf
  rw [sumF]
  show _ + (0 + _) + _ = _
  omega
 ·rcases Up.1 hz with rfl | hz
  ·exact ⟨fun p hp => (by cases hp), h.b0, Ud _, fun f hf => by cases hf⟩
  ·exact h.ags z hz
theorem Inv.exit (h : Inv s (a :: A) acc al G n) (h1 : a.flag = none) (h2 : a.held = []) (h3 : a.pins = []) (h4 : a.use = none) : Inv s A acc al G n := by
 have hd := h.dir
 have hc := h.cac
 have ht := h.tab
 rw [Uh, flags_none h1, Uq] at hd
 rw [Uh, h3, Uq] at hc
 rw [Uh, uses_none h4, Uq] at ht
 have hw := h.whos
 rw [Uw, Vu] at hw
 refine ⟨hd, h.sto.eqv fun j => ?_, hc, ht, fun z hz => h.ags z (Ue _ hz), hw.2, h.last, h.n30, by have := h.few; rw [Ui] at this; omega⟩
 unfold cntOf
 rw [sumF, h2, rc_nil]
 omega
end
section
structure Mdl where
 ser : Int → Option (Bool × List Smp)
 its : List (Int × List Smp)
 next : Int
def upS (f : Int → Option (Bool × List Smp)) (i : Int) (x : Option (Bool × List Smp)) (j : Int) : Option (Bool × List Smp) := if j = i then x else f j
theorem upS_self (f : Int → Option (Bool × List Smp)) (i : Int) : upS f i (f i) = f := by
 funext j
 unfold upS
 split
 ·rename_i e; rw [e]
 ·rfl
namespace Mdl
def new : Mdl := ⟨fun _ => none, [], 0⟩
def err (m : Mdl) (e : Int) : Mdl × Res := (m, ⟨e, 0, []⟩)
def act (m : Mdl) (o : Opr) : Mdl × Res :=
 if Run.bad o then m.err 4
 else if o.kind = 6 then match mget o.iter m.its with
  | none => m.err 3
  | some L => ({ m with its := mset o.iter (L.drop (min (max o.N 0) 1000).toNat) m.its }, ⟨0, 0, L.take (min (max o.N 0) 1000).toNat⟩)
 else if o.kind = 7 then match mget o.iter m.its with
  | none => m.err 3
  | some _ => ({ m with its := mdel o.iter m.its }, ⟨0, 0, []⟩)
 else match m.ser o.series with
  | none => if o.kind = 1 then ({ m with ser := upS m.ser o.series (some (false, [⟨o.T, (o.V : Int)⟩])) }, ⟨0, 0, []⟩) else m.err 3
  | some (cl, L) =>
   if o.kind = 1 then if cl then m.err 2 else if o.T ≤ lastT L then m.err 1 else ({ m with ser := upS m.ser o.series (some (false, L ++ [⟨o.T, (o.V : Int)⟩])) }, ⟨0, 0, []⟩)
   else if o.kind = 2 then (m, ⟨0, 0, within L o.F o.To⟩)
   else if o.kind = 3 then if cl then m.err 2 else ({ m with ser := upS m.ser o.series (some (true, L)) }, ⟨0, 0, []⟩)
   else if o.kind = 4 then ({ m with ser := upS m.ser o.series none }, ⟨0, 0, []⟩)
   else if m.its.length ≥ 8 then m.err 5
   else ({ m with its := m.its ++ [(m.next + 1, within L o.F o.To)], next := m.next + 1 }, ⟨0, m.next + 1, []⟩)
end Mdl
variable {s : Shd} {a : Ag} {A : List Ag} {acc : List SlotV} {al : Int → Bool} {G G' : Int → Blb} {n n' : Nat} {d : List Plc}
def SlotV.tells (G : Int → Blb) (x : SlotV) : Option (Bool × List Smp) := if x.there then some (x.closed, x.all G) else none
def serOf (d : List Plc) (G : Int → Blb) (i : Int) : Option (Bool × List Smp) := match Dir.at_ d i with
 | some p => p.s.tells G
 | none => none
def itsOf (l : List (Int × On)) (G : Int → Blb) : List (Int × List Smp) := l.map fun p => (p.1, (p.2.x.all G).drop p.2.told.toNat)
def abs (s : Shd) (G : Int → Blb) : Mdl := ⟨serOf s.d G, itsOf s.t.l G, s.t.last⟩
theorem at_nat {i : Nat} (hi : i < 16) : Dir.at_ d (i : Int) = d[i]? := by
 unfold Dir.at_
 rw [if_pos ⟨O_o, O_o⟩]
 congr 1
theorem at_out {i : Int} (h : ¬ (0 ≤ i ∧ i < 16)) : Dir.at_ d i = none := by unfold Dir.at_; rw [if_neg h]
theorem at_in {i : Int} (h0 : 0 ≤ i) (h1 : i < 16) : Dir.at_ d i = d[i.toNat]? := by unfold Dir.at_; rw [if_pos ⟨h0, h1⟩]
theorem at_set {i : Nat} {p q : Plc} (hp : d[i]? = some p) (j : Int) : Dir.at_ (d.set i q) j = if j = (i : Int) ∧ i < 16 then some q else Dir.at_ d j := by
 by_cases hj : 0 ≤ j ∧ j < 16
 ·rw [at_in hj.1 hj.2, at_in hj.1 hj.2]
  by_cases e : j = (i : Int)
  ·subst e
   rw [if_pos ⟨rfl, O_o⟩, show ((i : Int)).toNat = i from by omega]
   exact set_here hp
  ·rw [if_neg (fun h => e h.1)]
   exact vq O0
 ·rw [at_out hj, at_out hj, if_neg]
  rintro ⟨e, h16⟩
  omega
theorem serOf_set {i : Nat} {p q : Plc} (hp : d[i]? = some p) (hi : i < 16) : serOf (d.set i q) G = upS (serOf d G) (i : Int) (q.s.tells G) := by
 funext j
 unfold serOf upS
 rw [at_set hp]
 by_cases e : j = (i : Int)
 ·rw [if_pos ⟨e, hi⟩, if_pos e]
 ·rw [if_neg (fun h => e h.1), if_neg e]
theorem serOf_at {i : Nat} {p : Plc} (hp : d[i]? = some p) (hi : i < 16) : serOf d G (i : Int) = p.s.tells G := by
 unfold serOf
 rw [at_nat hi, hp]
theorem serOf_ver {i : Nat} {p q : Plc} (hp : d[i]? = some p) (hi : i < 16) (hq : q.s.tells G = p.s.tells G) : serOf (d.set i q) G = serOf d G := by
 rw [serOf_set hp hi, hq, ← serOf_at hp hi, upS_self]
theorem Inv.lt16 (h : Inv s A acc al G n) {i : Nat} {p : Plc} (hp : s.d[i]? = some p) : i < 16 := by
 rw [← h.dir.len]; exact (Uf.1 hp).1
theorem serOf_more (h : Inv s A acc al G n) (hG : ∀ id, id ≤ s.b.last → G' id = G id) : serOf s.d G' = serOf s.d G := by
 funext j
 unfold serOf
 cases ha : Dir.at_ s.d j with
 | none => rfl
 | some p =>
  have hm : ∃ i : Nat, s.d[i]? = some p := by
   unfold Dir.at_ at ha
   split at ha
   ·exact ⟨_, ha⟩
   ·cases ha
  obtain ⟨i, hi⟩ := hm
  show p.s.tells G' = p.s.tells G
  unfold SlotV.tells
  rw [((h.dir.ok i p hi).1.more (Uu _) hG).2]
theorem itsOf_more (h : Inv s A acc al G n) (hG : ∀ id, id ≤ s.b.last → G' id = G id) : itsOf s.t.l G' = itsOf s.t.l G := by
 unfold itsOf
 refine List.map_congr_left fun p hp => ?_
 rw [Snp.same (h.tab.on p.1 p.2 (mem_mget h.tab.nd hp)).1.prts hG]
theorem abs_more (h : Inv s A acc al G n) (hG : ∀ id, id ≤ s.b.last → G' id = G id) : abs s G' = abs s G := by
 unfold abs
 rw [serOf_more h hG, itsOf_more h hG]
theorem itsOf_set {l : List (Int × On)} {id : Int} {o o' : On} (hg : mget id l = some o) : itsOf (mset id o' l) G = mset id ((o'.x.all G).drop o'.told.toNat) (itsOf l G) := (gt (fun o : On => (o.x.all G).drop o.told.toNat) id o' l).symm
theorem itsOf_get (l : List (Int × On)) (id : Int) : mget id (itsOf l G) = (mget id l).map fun o => (o.x.all G).drop o.told.toNat := gu (fun o : On => (o.x.all G).drop o.told.toNat) id l
theorem itsOf_same {l : List (Int × On)} {id : Int} {o o' : On} (hg : mget id l = some o) (hx : o'.x = o.x) (ht : o'.told = o.told) : itsOf (mset id o' l) G = itsOf l G := by
 rw [itsOf_set hg]
 refine mset_self ?_
 rw [itsOf_get, hg, hx, ht]; rfl
theorem itsOf_new {l : List (Int × On)} {id : Int} {o : On} (hg : mget id l = none) (ht : o.told = 0) : itsOf (mset id o l) G = itsOf l G ++ [(id, o.x.all G)] := by
 have h1 : mset id o l = l ++ [(id, o)] := by
  clear ht
  induction l with
  | nil => rfl
  | cons p l ih =>
   obtain ⟨j, u⟩ := p
   rw [mget] at hg
   split at hg
   ·cases hg
   ·rename_i hj
    rw [mset, if_neg hj, ih hg]; rfl
 rw [h1]
 unfold itsOf
 rw [Vz]
 show _ ++ [(id, (o.x.all G).drop o.told.toNat)] = _
 rw [ht]; rfl
theorem itsOf_del {l : List (Int × On)} (id : Int) : itsOf (mdel id l) G = mdel id (itsOf l G) := (mdel_map (fun o : On => (o.x.all G).drop o.told.toNat) id l).symm
theorem itsOf_len (l : List (Int × On)) : (itsOf l G).length = l.length := by unfold itsOf; rw [Vq]
end
section
variable {s s' s2 : Shd} {a : Ag} {A : List Ag} {acc : List SlotV} {al : Int → Bool} {G G' : Int → Blb} {n n' : Nat} {r : Run} {ps pn : List Key3} {b b' : Int} {who series : Int} {k : Nat}
structure Keeps (who : Int) (s s' : Shd) : Prop where
 dir : ∀ (i : Nat) (p : Plc), s.d[i]? = some p → p.taken = true → p.who ≠ who → s'.d[i]? = some p
 tab : ∀ (id : Int) (o : On), mget id s.t.l = some o → o.used = true → o.who ≠ who → mget id s'.t.l = some o
theorem Keeps.refl (who : Int) (s : Shd) : Keeps who s s := ⟨fun _ _ h _ _ => h, fun _ _ h _ _ => h⟩
theorem Keeps.trans (h : Keeps who s s') (h' : Keeps who s' s2) : Keeps who s s2 := ⟨fun i p h1 h2 h3 => h'.dir i p (h.dir i p h1 h2 h3) h2 h3, fun i o h1 h2 h3 => h'.tab i o (h.tab i o h1 h2 h3) h2 h3⟩
theorem Keeps.same (hd : s'.d = s.d) (ht : s'.t = s.t) : Keeps who s s' := ⟨fun i p h _ _ => by rw [hd]; exact h, fun i p h _ _ => by rw [ht]; exact h⟩
theorem Keeps.here {i : Nat} {p q : Plc} (hp : s.d[i]? = some p) (hw : p.taken = false ∨ p.who = who) (hd : s'.d = s.d.set i q) (ht : s'.t = s.t) : Keeps who s s' := by
 refine ⟨fun j x hx h1 h2 => ?_, fun j o h _ _ => by rw [ht]; exact h⟩
 rw [hd, vq]
 ·exact hx
 ·rintro rfl
  rw [hp] at hx
  obtain rfl := Un hx
  rcases hw with hw | hw
  ·rw [hw] at h1; cases h1
  ·exact h2 hw
theorem Keeps.on {id : Int} {o o' : On} (hg : mget id s.t.l = some o) (hw : o.used = false ∨ o.who = who) (hd : s'.d = s.d) (ht : s'.t.l = mset id o' s.t.l) : Keeps who s s' := by
 refine ⟨fun i p h _ _ => by rw [hd]; exact h, fun j x hx h1 h2 => ?_⟩
 rw [ht, jj, if_neg]
 ·exact hx
 ·rintro rfl
  rw [hg] at hx
  obtain rfl := Un hx
  rcases hw with hw | hw
  ·rw [hw] at h1; cases h1
  ·exact h2 hw
def PartSt (G : Int → Blb) (x : Snp) (series : Int) (one : Option Tk) (i : Int) (got : List Smp) (pn : List Key3) (k : Nat) : Prop :=
 ∃ j : Nat, i = (j : Int) ∧ j ≤ x.parts.length ∧ got = ((x.parts.take j).flatMap fun p => within (G p.blob).L x.frm x.upto) ∧
  ((one = none ∧ pn = [] ∧ k = 6 * (x.parts.length - j)) ∨
   (∃ y p kk, one = some y ∧ x.parts[j]? = some p ∧ y.key = ⟨series, x.life, p.blob⟩ ∧ y.fr = x.frm ∧ y.to = x.upto ∧ TkI G y pn kk ∧ k = kk + 6 * (x.parts.length - j - 1)))
theorem PartSt.new (G : Int → Blb) (x : Snp) (series : Int) : PartSt G x series none 0 [] [] (6 * x.parts.length) := ⟨0, rfl, Ud _, by rw [Xj]; rfl, .inl ⟨rfl, rfl, rfl⟩⟩
theorem flat_same {x : Snp} (hG : ∀ id, id ≤ b → G' id = G id) : ∀ {l : List Prt}, (∀ p ∈ l, PrtOk G b p) → (l.flatMap fun p => within (G' p.blob).L x.frm x.upto) = l.flatMap fun p => within (G p.blob).L x.frm x.upto
 | [], _ => rfl
 | p :: l, h => by rw [Uh, Uh, flat_same hG fun q hq => h q (Ue _ hq), hG _ (h p (Ub ..)).idl]
theorem PartSt.more {x : Snp} {one : Option Tk} {i : Int} {got : List Smp} (h : PartSt G x series one i got pn k) (hx : ∀ p ∈ x.parts, PrtOk G b p) (hG : ∀ id, id ≤ b → G' id = G id) : PartSt G' x series one i got pn k := by
 obtain ⟨j, h1, h2, h3, h4⟩ := h
 refine ⟨j, h1, h2, ?_, ?_⟩
 ·rw [h3, flat_same hG fun p hp => hx p (Wp hp)]
 ·rcases h4 with h4 | ⟨y, p, kk, e1, e2, e3, e4, e5, e6, e7⟩
  ·exact .inl h4
  ·refine .inr ⟨y, p, kk, e1, e2, e3, e4, e5, e6.same ?_, e7⟩
   rw [e3]
   exact hG _ (hx p (Uj e2)).idl
theorem flat_len {f : Prt → List Smp} : ∀ {l : List Prt}, (∀ p ∈ l, (f p).length ≤ 8) → (l.flatMap f).length ≤ 8 * l.length
 | [], _ => Ud _
 | p :: l, h => by
  rw [Uh, Ua, Ui]
  have h1 := h p (Ub ..)
  have h2 := flat_len (l := l) fun q hq => h q (Ue _ hq)
  omega
theorem part8 {p : Prt} (h : PrtOk G b p) (f t : Int) : (within (G p.blob).L f t).length ≤ 8 := Ux (within_len _ _ _) h.len
theorem PartSt.got_len {x : Snp} {one : Option Tk} {i : Int} {got : List Smp} (h : PartSt G x series one i got pn k) (hx : ∀ p ∈ x.parts, PrtOk G b p) : got.length ≤ 8 * x.parts.length := by
 obtain ⟨j, h1, h2, h3, h4⟩ := h
 rw [h3]
 have := flat_len (f := fun p => within (G p.blob).L x.frm x.upto) (l := x.parts.take j) fun p hp => part8 (hx p (Wp hp)) _ _
 rw [Us] at this
 omega
theorem Snp.len {x : Snp} (hx : SnpOk G b x) : (x.all G).length ≤ 8 * x.parts.length + 7 := by
 unfold Snp.all
 rw [Ua]
 have := flat_len (f := fun p => within (G p.blob).L x.frm x.upto) (l := x.parts) fun p hp => part8 (hx.prts p hp) _ _
 have := hx.tail
 omega
theorem PartSt.full {x : Snp} {one : Option Tk} {got : List Smp} (h : PartSt G x series one (x.parts.length : Int) got pn k) : got ++ x.tail = x.all G ∧ one = none ∧ pn = [] := by
 obtain ⟨j, h1, h2, h3, h4⟩ := h
 have hj : j = x.parts.length := by omega
 refine ⟨?_, ?_⟩
 ·rw [h3, hj, Zk]; rfl
 ·rcases h4 with h4 | ⟨y, p, kk, _, e2, _⟩
  ·exact ⟨h4.1, h4.2.1⟩
  ·rw [hj, Vi (Ug _)] at e2; cases e2
theorem PartSt.pre {x : Snp} {one : Option Tk} {i : Int} {got : List Smp} (h : PartSt G x series one i got pn k) : got <+: x.all G := by
 obtain ⟨j, h1, h2, h3, h4⟩ := h
 refine ⟨((x.parts.drop j).flatMap fun p => within (G p.blob).L x.frm x.upto) ++ x.tail, ?_⟩
 rw [h3, ← Ul, ← Xl, Zn]; rfl
theorem PartSt.pins1 {x : Snp} {one : Option Tk} {i : Int} {got : List Smp} (h : PartSt G x series one i got pn k) : pn.length ≤ 1 := by
 obtain ⟨j, _, _, _, ⟨_, h, _⟩ | ⟨y, p, kk, _, _, _, _, _, h, _⟩⟩ := h
 ·rw [h]; exact Ud _
 ·rcases h with ⟨_, h, _⟩ | ⟨_, _, _, _, h, _⟩ | ⟨_, h, _⟩ | ⟨_, h, _⟩ <;> rw [h] <;> exact Wb rfl
theorem PartSt.cur (h : PartSt G r.x series r.one r.i r.got pn k) (hx : ∀ p ∈ r.x.parts, PrtOk G b p) (hi : r.i ≠ (r.x.parts.length : Int)) :
  ∃ (j : Nat) (p : Prt) (kk : Nat), r.i = (j : Int) ∧ j < r.x.parts.length ∧ r.got = ((r.x.parts.take j).flatMap fun p => within (G p.blob).L r.x.frm r.x.upto) ∧ r.x.parts[j]? = some p ∧ PrtOk G b p ∧ (r.cur series).key = ⟨series, r.x.life, p.blob⟩ ∧ (r.cur series).fr = r.x.frm ∧ (r.cur series).to = r.x.upto ∧ TkI G (r.cur series) pn kk ∧ kk + 6 * (r.x.parts.length - j - 1) ≤ k := by
 obtain ⟨j, h1, h2, h3, h4⟩ := h
 have hj : j < r.x.parts.length := by omega
 rcases h4 with ⟨e1, e2, e3⟩ | ⟨y, p, kk, e1, e2, e3, e4, e5, e6, e7⟩
 ·obtain ⟨p, hp⟩ : ∃ p, r.x.parts[j]? = some p := ⟨_, Uc hj⟩
  have hpk := hx p (Uj hp)
  have hgd : r.x.parts.getD r.i.toNat ⟨0, 0, 0, 0, 0⟩ = p := by
   rw [h1, show ((j : Int)).toNat = j from by omega, Zt, hp]; rfl
  have hc : r.cur series = Tk.new series r.x.life p.blob r.x.frm r.x.upto := by
   unfold Run.cur
   rw [e1, hgd]
  rw [hc]
  have hT := TkI.new (G := G) series r.x.life r.x.frm r.x.upto p.blob
  have hs := (hT.sizes hpk.len).2.2
  refine ⟨j, p, _, h1, hj, h3, hp, hpk, rfl, rfl, rfl, by rw [e2]; exact hT, ?_⟩
  omega
 ·have hpk := hx p (Uj e2)
  have hc : r.cur series = y := by unfold Run.cur; rw [e1]
  rw [hc]
  exact ⟨j, p, kk, h1, hj, h3, e2, hpk, e3, e4, e5, e6, O_o⟩
theorem part_step (h : PartSt G r.x series r.one r.i r.got pn k) (hx : SnpOk G b r.x) (hb : b ≤ 100000) (hi : r.i ≠ (r.x.parts.length : Int)) (hal : al series = false) (hC : CacInv s.c (pn ++ ps) al G b) (hS : ∀ p ∈ r.x.parts, ∃ e, mget p.blob s.b.l = some e ∧ (G p.blob).Ok e.bs) :
  ((r.cur series).row.length ≤ 8 ∧ (r.cur series).out.length ≤ 8 ∧ ((r.cur series).step s.b s.c).1.out.length ≤ 8) ∧
  ((∃ one i got pn' k' C, r.part s series = ({ r with one := one, i := i, got := got }, { s with c := C }, 0) ∧ PartSt G r.x series one i got pn' k' ∧ k' < k ∧ CacInv C (pn' ++ ps) al G b ∧ C.clk.most = s.c.clk.most) ∨
   (∃ y kk, r.part s series = ({ r with one := some y }, s, 6) ∧ pn = [] ∧ TkI G y [] kk ∧ s.c.clk.most ≤ (s.c.clk.res.length : Int) ∧ ∀ j a, s.c.pins j = some a → a ≠ 0)) := by
 obtain ⟨j, p, kk, h1, h2, h3, h4, h5, h6, h7, h8, h9, h10⟩ := h.cur hx.prts hi
 have hlen : (G (r.cur series).key.blob).L.length ≤ 8 := by rw [h6]; exact h5.len
 obtain ⟨z1, z2, _⟩ := h9.sizes hlen
 have hfew := hx.few
 have hwi : wI ((j : Int) + 1) = ((j + 1 : Nat) : Int) := by
  show IntKind.i64.wrap _ = _
  rw [jc O0 O0]; omega
 rcases h9.step (ps := ps) (S := s.b) hC (by rw [h6]; exact hal) (by rw [h6]; exact h5.idl) (by rw [h6]; exact hS p (Uj h4)) hlen with ⟨q1, q2, q3, q4, q5, ⟨pn', k', q6, q7, q8⟩ | ⟨q6, q7⟩⟩ | ⟨q1, q2, q3, q4⟩
 ·have hz := q6.sizes (by rw [q2]; exact hlen)
  refine ⟨⟨z1, z2, hz.2.1⟩, .inl ⟨some ((r.cur series).step s.b s.c).1, r.i, r.got, pn', k' + 6 * (r.x.parts.length - j - 1), ((r.cur series).step s.b s.c).2.1, ?_, ?_, O_o, q8, q5⟩⟩
  ·rw [Run.part_eq, q1, if_neg (fun e => e rfl), q6.notdone, if_neg O2]
  ·exact ⟨j, h1, O_o, h3, .inr ⟨_, p, k', rfl, h4, by rw [q2, h6], by rw [q3, h7], by rw [q4, h8], q6, rfl⟩⟩
 ·have hw : within (G (r.cur series).key.blob).L (r.cur series).fr (r.cur series).to = within (G p.blob).L r.x.frm r.x.upto := by rw [h6, h7, h8]
  rw [hw] at q6
  refine ⟨⟨z1, z2, by rw [q6.out]; exact part8 h5 _ _⟩, .inl ⟨none, ((j + 1 : Nat) : Int), r.got ++ within (G p.blob).L r.x.frm r.x.upto, [], 6 * (r.x.parts.length - (j + 1)), ((r.cur series).step s.b s.c).2.1, ?_, ?_, ?_, q7, q5⟩⟩
  ·rw [Run.part_eq, q1, if_neg (fun e => e rfl), q6.done, if_pos rfl, q6.out, h1, hwi]
  ·refine ⟨j + 1, rfl, h2, ?_, .inl ⟨rfl, rfl, rfl⟩⟩
   rw [Vj, h4, Xl, h3]
   show _ = _ ++ (within (G p.blob).L r.x.frm r.x.upto ++ [])
   rw [Uy]
  ·have := h9.pos
   omega
 ·have hq : (r.cur series).step s.b s.c = (r.cur series, s.c, 6) := q1
  refine ⟨⟨z1, z2, by rw [hq]; exact z2⟩, .inr ⟨r.cur series, kk, ?_, q4, by rw [← q4]; exact h9, q2, q3⟩⟩
  rw [Run.part_eq, hq]; rfl
end
section
variable {s s' s2 : Shd} {a : Ag} {A : List Ag} {acc : List SlotV} {al : Int → Bool} {G G' : Int → Blb} {n n' : Nat} {r : Run} {ps pn : List Key3} {b b' : Int} {who series : Int} {k : Nat}
theorem Inv.look (h : Inv s A acc al G n) {id : Int} (h0 : 0 ≤ id) (h1 : id < 16) : ∃ (i : Nat) (p : Plc), id = (i : Int) ∧ i < 16 ∧ s.d[i]? = some p ∧ Dir.at_ s.d id = some p ∧
  ((p.taken = true ∧ Dir.look s.d id = none) ∨ (p.taken = false ∧ Dir.look s.d id = some p.s ∧ p.s.ver.tmod 2 = 0 ∧ acc[i]? = some p.s)) := by
 have hl := h.dir.len
 obtain ⟨p, hp⟩ : ∃ p, s.d[id.toNat]? = some p := ⟨_, Uc O0⟩
 have hat : Dir.at_ s.d id = some p := by rw [at_in h0 h1]; exact hp
 refine ⟨id.toNat, p, O_o, O_o, hp, hat, ?_⟩
 unfold Dir.look
 rw [hat]
 cases ht : p.taken with
 | true => exact .inl ⟨rfl, if_pos (h.dir.busy _ p hp ht).1⟩
 | false =>
  obtain ⟨v1, v2⟩ := h.dir.idle _ p hp ht
  exact .inr ⟨rfl, if_neg (by rw [v1]; decide), v1, v2⟩
def FlagAt (s : Shd) (r : Run) : Prop := ∃ i : Nat, r.o.series = (i : Int) ∧ i < 16 ∧ s.d[i]? = some ⟨{ r.slot with ver := r.slot.ver + 1 }, true, r.who⟩
def Blk (A : List Ag) (o : Opr) : Prop := (1 ≤ o.kind ∧ o.kind ≤ 5 ∧ ∃ x ∈ A, ∃ f, x.flag = some f ∧ f.1 = o.series) ∨ ((o.kind = 6 ∨ o.kind = 7) ∧ ∃ x ∈ A, x.use = some o.iter)
theorem Inv.blk (h : Inv s (a :: A) acc al G n) (ha : a.flag = none) {i : Nat} {p : Plc} (hp : s.d[i]? = some p) (ht : p.taken = true) : ∃ x ∈ A, ∃ f, x.flag = some f ∧ f.1 = (i : Int) := by
 obtain ⟨_, f, hf, he⟩ := h.dir.busy i p hp ht
 rw [Uh, flags_none ha, Uq, Xv] at hf
 obtain ⟨x, hx, hf⟩ := hf
 unfold Ag.flags at hf
 split at hf
 ·cases hf
 ·rename_i g hg
  rw [Vk] at hf
  subst hf
  exact ⟨x, hx, g, hg, he⟩
theorem run_take (h : Inv s (a :: A) acc al G n) (ha : a.flag = none) (hw : a.who = r.who) (h0 : 0 ≤ r.o.series) (h1 : r.o.series < 16) (hn : n + 1 ≤ 1000000000) :
  (r.take s = (r, s, false) ∧ Dir.look s.d r.o.series = none ∧ ∃ x ∈ A, ∃ f, x.flag = some f ∧ f.1 = r.o.series) ∨
  ∃ (i : Nat) (p : Plc), r.o.series = (i : Int) ∧ i < 16 ∧ s.d[i]? = some p ∧ p.taken = false ∧ p.s.ver.tmod 2 = 0 ∧ Dir.look s.d r.o.series = some p.s ∧
   r.take s = ({ r with slot := p.s, flag := true, ph := 1 }, { s with d := s.d.set i ⟨{ p.s with ver := p.s.ver + 1 }, true, r.who⟩ }, true) ∧
   Inv { s with d := s.d.set i ⟨{ p.s with ver := p.s.ver + 1 }, true, r.who⟩ } ({ a with flag := some (r.o.series, p.s) } :: A) acc al G (n + 1) ∧
   FlagAt { s with d := s.d.set i ⟨{ p.s with ver := p.s.ver + 1 }, true, r.who⟩ } { r with slot := p.s, flag := true, ph := 1 } ∧
   Keeps r.who s { s with d := s.d.set i ⟨{ p.s with ver := p.s.ver + 1 }, true, r.who⟩ } ∧ abs { s with d := s.d.set i ⟨{ p.s with ver := p.s.ver + 1 }, true, r.who⟩ } G = abs s G := by
 obtain ⟨i, p, e, hi, hp, hat, ⟨ht, hl⟩ | ⟨ht, hl, hv, hacc⟩⟩ := h.look h0 h1
 ·refine .inl ⟨?_, hl, ?_⟩
  ·unfold Run.take; rw [hl]
  ·obtain ⟨x, hx, f, hf, he⟩ := h.blk ha hp ht
   exact ⟨x, hx, f, hf, he.trans e.symm⟩
 ·obtain ⟨_, _, v0, v1, _⟩ := h.dir.ok i p hp
  have hwv : wI (p.s.ver + 1) = p.s.ver + 1 := jc O0 O0
  have htk : Dir.take s.d r.o.series r.who = some (s.d.set i ⟨{ p.s with ver := p.s.ver + 1 }, true, r.who⟩) := by
   unfold Dir.take
   rw [hat]
   dsimp only
   rw [ht, if_neg O2, hwv, e, show ((i : Int)).toNat = i from by omega]
  have hI := h.take ha hp ht hn
  rw [← e] at hI
  refine .inr ⟨i, p, e, hi, hp, ht, hv, hl, ?_, (by rw [← hw]; exact hI), ⟨i, e, hi, set_here hp⟩, Keeps.here hp (.inl ht) rfl rfl, ?_⟩
  ·unfold Run.take; rw [hl]; dsimp only; rw [htk]
  ·unfold abs
   rw [show serOf (s.d.set i ⟨{ p.s with ver := p.s.ver + 1 }, true, r.who⟩) G = serOf s.d G from serOf_ver hp hi rfl]
theorem FlagAt.ok (h : Inv s A acc al G n) (hf : FlagAt s r) : SlotOk G s.b.last r.slot ∧ (r.slot.chunks.length : Int) ≤ s.b.last ∧ 0 ≤ r.slot.life ∧ r.slot.life ≤ n ∧ serOf s.d G r.o.series = r.slot.tells G := by
 obtain ⟨i, e, hi, hd⟩ := hf
 obtain ⟨h1, h2, h3, h4, h5, h6⟩ := h.dir.ok i _ hd
 exact ⟨h1.ver r.slot.ver, h2, h5, h6, by rw [e, serOf_at hd hi]; rfl⟩
theorem run_publish (h : Inv s (a :: A) acc al G n) (hf : FlagAt s r) (hw : a.who = r.who) {x sl : SlotV} (ha : a.flag = some (r.o.series, x)) (hok : SlotOk G s.b.last sl) (e1 : sl.chunks = x.chunks) (e2 : sl.opn = x.opn) (hl0 : 0 ≤ sl.life) (hl1 : sl.life ≤ n) (hn : n + 1 ≤ 1000000000) :
  ∃ D acc', r.publish s sl = ({ r with flag := false }, { s with d := D }) ∧ Inv { s with d := D } ({ a with flag := none } :: A) acc' al G (n + 1) ∧ Keeps r.who s { s with d := D } ∧ serOf D G = upS (serOf s.d G) r.o.series (sl.tells G) := by
 obtain ⟨i, e, hi, hd⟩ := hf
 rw [e] at ha
 obtain ⟨p, hp, hpt, hpw, hodd, hv0, hv1, hI⟩ := h.give ha hok e1 e2 hl0 hl1 hn
 have hn0 := h.n30
 have hwv : wI (p.s.ver + 1) = p.s.ver + 1 := jc O0 O0
 refine ⟨s.d.set i ⟨{ sl with ver := p.s.ver + 1 }, false, 0⟩, _, ?_, hI, Keeps.here hp (.inr (hpw.trans hw)) rfl rfl, ?_⟩
 ·unfold Run.publish
  have : Dir.leave s.d r.o.series r.who sl = some (s.d.set i ⟨{ sl with ver := p.s.ver + 1 }, false, 0⟩) := by
   unfold Dir.leave
   rw [e, at_nat hi, hp]
   dsimp only
   rw [if_pos ⟨hpt, hpw.trans hw⟩, hwv, show ((i : Int)).toNat = i from by omega]
  rw [this]; rfl
 ·rw [e, serOf_set hp hi]; rfl
def gadd (G : Int → Blb) (b : Int) (L : List Smp) (id : Int) : Blb := if id = b + 1 then ⟨1, L⟩ else G id
theorem gadd_old {L : List Smp} : ∀ id, id ≤ b → gadd G b L id = G id := fun id h => if_neg O0
theorem gadd_new {L : List Smp} : gadd G b L (b + 1) = ⟨1, L⟩ := if_pos rfl
theorem sto_close {S : Sto} {cnt : Int → Nat} {ch k : Nat} {L : List Smp} (h : StoInv S cnt ch G) (hb : S.last ≤ 100000) (hk : L.length = k) (hk1 : 1 ≤ k) (hk8 : k ≤ 8) (hc : k ≤ ch) (hwf : ∀ x ∈ L, x.Wf) (hr : RiseP L) :
  ∃ bs, chMake 1 L = some bs ∧ (headDec bs).map (·.1) = some ⟨1, L.length, firstT L, lastT L⟩ ∧
  ((((S.chg (-(16 * (k : Int)))).2.add bs = none) ∧ ((S.chg (-(16 * (k : Int)))).2.chg (16 * (k : Int))).2 = S ∧ S.room + 16 * (k : Int) < bs.length) ∨
   ∃ S', (S.chg (-(16 * (k : Int)))).2.add bs = some (S', S.last + 1) ∧ StoInv S' (fun j => cnt j + if S.last + 1 = j then 1 else 0) (ch - k) (gadd G S.last L) ∧ S'.last = S.last + 1 ∧ S'.budget = S.budget) := by
 have hne : L ≠ [] := fun e => by rw [e] at hk; simp at hk; omega
 obtain ⟨bs, m1, m2, m3⟩ := made hne hwf hr O0
 refine ⟨bs, m1, m3, ?_⟩
 obtain ⟨f1, f2⟩ := h.free k hc O0
 rw [f1]
 dsimp only
 rcases f2.add (G' := gadd G S.last L) (bs := bs) (cnt' := fun j => cnt j + if S.last + 1 = j then 1 else 0) (by show S.last < _; unfold M40; omega) (by show ((gadd G S.last L) (S.last + 1)).Ok bs; rw [gadd_new]; exact m2) (fun id hid => gadd_old id hid) (fun j => rfl) with ⟨a1, a2⟩ | ⟨S', a1, a2, a3, a4, _⟩
 ·refine .inl ⟨a1, ?_, ?_⟩
  ·have ho := h.ok
   have hch := h.chg
   rcases f2.charge k O0 with ⟨c1, c2⟩ | ⟨S', c1, c2, _⟩
   ·exfalso
    have e : (({ S with charged := S.charged - 16 * (k : Int) } : Sto)).room = S.budget - S.bytes - (S.charged - 16 * (k : Int)) := rfl
    have := ho.sum
    omega
   ·rw [c1, c2]
    show ({ S with charged := S.charged - 16 * (k : Int) + 16 * (k : Int) } : Sto) = S
    rw [show S.charged - 16 * (k : Int) + 16 * (k : Int) = S.charged by omega]
  ·have e : (({ S with charged := S.charged - 16 * (k : Int) } : Sto)).room = S.budget - S.bytes - (S.charged - 16 * (k : Int)) := rfl
   have e' : S.room = S.budget - S.bytes - S.charged := rfl
   omega
 ·exact .inr ⟨S', a1, a2, a3, a4⟩
theorem run_close {cnt : Int → Nat} {ch : Nat} (h : StoInv s.b cnt ch G) (hb : s.b.last ≤ 100000) (hk1 : 1 ≤ r.next.opn.length) (hk8 : r.next.opn.length ≤ 8) (hc : r.next.opn.length ≤ ch) (hwf : ∀ x ∈ r.next.opn, x.Wf) (hr : RiseP r.next.opn) :
  (r.close s = (r, s, false) ∧ ∃ bs, chMake 1 r.next.opn = some bs ∧ s.b.room + 16 * (r.next.opn.length : Int) < bs.length) ∨
  ∃ S', r.close s = ({ r with next := r.next.shut (partOf (s.b.last + 1) r.next.opn) }, { s with b := S' }, true) ∧ StoInv S' (fun j => cnt j + if s.b.last + 1 = j then 1 else 0) (ch - r.next.opn.length) (gadd G s.b.last r.next.opn) ∧ S'.last = s.b.last + 1 ∧ S'.budget = s.b.budget := by
 obtain ⟨bs, m1, m2, m3⟩ := sto_close h hb rfl hk1 hk8 hc hwf hr
 have hz : r.next.size = 16 * (r.next.opn.length : Int) := by show IntKind.i64.wrap _ = _; exact jc O0 O0
 have hz0 : wI (0 - 16 * (r.next.opn.length : Int)) = -(16 * (r.next.opn.length : Int)) := by show IntKind.i64.wrap _ = _; rw [jc O0 O0]; omega
 unfold Run.close
 rw [hz, m1]
 dsimp only [Option.getD]
 rw [hz0]
 rcases m3 with ⟨k1, k2, k3⟩ | ⟨S', k1, k2⟩
 ·refine .inl ⟨?_, bs, rfl, k3⟩
  rw [k1]
  dsimp only
  rw [k2]
 ·refine .inr ⟨S', ?_, k2⟩
  rw [k1]
  dsimp only
  rw [m2]; rfl
theorem partOk {S : Sto} {L : List Smp} (h0 : 0 ≤ S.last) (hne : L ≠ []) (hl : L.length ≤ 8) (hwf : ∀ x ∈ L, x.Wf) (hr : RiseP L) : PrtOk (gadd G S.last L) (S.last + 1) (partOf (S.last + 1) L) := by
 have e : gadd G S.last L (partOf (S.last + 1) L).blob = ⟨1, L⟩ := gadd_new
 exact ⟨by show 1 ≤ S.last + 1; omega, Uu _, by rw [e]; exact hne, by rw [e]; exact hwf, by rw [e]; exact hr, by rw [e]; exact hl, by rw [e]; rfl, by rw [e]; rfl, by rw [e]; rfl, by rw [e]; rfl⟩
end
section
variable {s s' s2 : Shd} {a : Ag} {A : List Ag} {acc : List SlotV} {al : Int → Bool} {G G' : Int → Blb} {n n' : Nat} {r : Run} {ps pn : List Key3} {b b' : Int} {who series : Int} {k : Nat}
def Run.need (r : Run) (s : Shd) : Nat :=
 if r.o.kind = 2 then 3 + 6 * (match Dir.at_ s.d r.o.series with | none => 0 | some p => p.s.chunks.length)
 else if r.o.kind = 6 then 2 + 6 * (match mget r.o.iter s.t.l with | none => 0 | some o => o.x.parts.length)
 else if r.o.kind = 5 ∨ r.o.kind = 7 then 1 else 3
structure RunOk (al : Int → Bool) (r : Run) : Prop where
 over : r.over = false
 bad : Run.bad r.o = false
 wf : r.o.Wf
 al : r.o.kind ≤ 5 → al r.o.series = false
 s4 : r.slot.opn.length ≤ 8
 s5 : r.slot.chunks.length ≤ 100000
 n4 : r.next.opn.length ≤ 8
 n5 : r.next.chunks.length ≤ 100000
 xp : r.x.parts.length ≤ 100000
 f0 : 0 ≤ r.fails
 f3 : r.fails ≤ 3
structure Run.Bare (r : Run) : Prop where
 using_ : r.using_ = false
 held : r.held = false
 one : r.one = none
 i : r.i = 0
 got : r.got = []
def Eff (G : Int → Blb) (r : Run) : Prop := ∀ m : Mdl, m.ser r.o.series = r.slot.tells G → m.act r.o = ({ m with ser := upS m.ser r.o.series (r.next.tells G) }, ⟨0, 0, []⟩)
abbrev Run.wrt (r : Run) : Prop := r.o.kind = 1 ∨ r.o.kind = 3 ∨ r.o.kind = 4
def Run.cap (r : Run) : Int := min (max r.o.N 0) 1000
def Run.adds (r : Run) : Int := if (r.o.kind = 1 ∨ r.o.kind = 3 ∨ r.o.kind = 4) ∧ r.ph = 1 then 1 else 0
inductive Rel (G : Int → Blb) (s : Shd) (r : Run) : Ag → Nat → Prop
 | idle (h0 : r.ph = 0) (hf : r.flag = false) (hb : r.Bare) : Rel G s r (Ag.idle r.who) (r.need s)
 | make (hk : r.wrt) (h0 : r.ph = 1) (hf : r.flag = true) (hb : r.Bare) (hd : FlagAt s r) : Rel G s r ⟨r.who, some (r.o.series, r.slot), [], [], none, none⟩ 2
 | put (hk : r.wrt) (h0 : r.ph = 3) (hf : r.flag = true) (hb : r.Bare) (hd : FlagAt s r) (hs : SlotOk G s.b.last r.next) (hl0 : 0 ≤ r.next.life) (hl : r.next.life ≤ r.slot.life + 1) (he : Eff G r) : Rel G s r ⟨r.who, some (r.o.series, r.next), [], [], none, none⟩ 1
 | hard (hk : r.o.kind = 2) (h0 : r.ph = 1) (hf : r.flag = true) (hb : r.Bare) (hd : FlagAt s r) : Rel G s r ⟨r.who, some (r.o.series, r.slot), [], [], none, none⟩ (2 + 6 * r.slot.chunks.length)
 | read (hk : r.o.kind = 2) (hh : r.held = true) (hu : r.using_ = false) {sl : SlotV} {fl se : Option (Int × SlotV)} {pn : List Key3} {k : Nat}
   (hsl : (r.flag = true ∧ FlagAt s r ∧ sl = r.slot ∧ fl = some (r.o.series, r.slot) ∧ se = none) ∨ (r.flag = false ∧ fl = none ∧ se = some (r.o.series, sl) ∧ r.fails ≤ 2))
   (ht : sl.there = true) (hs : SlotOk G s.b.last sl) (hx : r.x = sl.snap r.o.F r.o.To) (hp : PartSt G r.x r.o.series r.one r.i r.got pn k)
   (hph : (r.ph = 2 ∧ r.i ≠ (r.x.parts.length : Int)) ∨ (r.ph = 3 ∧ r.i = (r.x.parts.length : Int))) : Rel G s r ⟨r.who, fl, r.x.parts, pn, none, se⟩ (k + 1)
 | next (hk : r.o.kind = 6) (hf : r.flag = false) (hh : r.held = false) (hu : r.using_ = true) {o : On} {pn : List Key3} {k : Nat}
   (hg : mget r.o.iter s.t.l = some o) (hou : o.used = true) (how : o.who = r.who) (hox : o.x = r.x) (hot : o.told = r.told) (hp : PartSt G r.x o.series r.one r.i r.got pn k) (hn0 : r.cap ≠ 0)
   (hph : (r.ph = 2 ∧ r.i ≠ (r.x.parts.length : Int) ∧ (r.got.length : Int) < r.told + r.cap) ∨ (r.ph = 3 ∧ r.one = none ∧ pn = [] ∧ (r.i = (r.x.parts.length : Int) ∨ r.told + r.cap ≤ (r.got.length : Int)))) : Rel G s r ⟨r.who, none, [], pn, some r.o.iter, none⟩ (k + 1)
def AllPinned (A : List Ag) (C : Cac) : Prop := ∃ ks : List Key3, ks.Nodup ∧ C.clk.most ≤ (ks.length : Int) ∧ ∀ k ∈ ks, k ∈ A.flatMap Ag.pins
theorem allPinned_of {C : Cac} (hC : CacInv C (A.flatMap Ag.pins) al G b) (h1 : C.clk.most ≤ (C.clk.res.length : Int)) (h2 : ∀ j a, C.pins j = some a → a ≠ 0) : AllPinned A C := by
 refine ⟨keys C.clk.res, hC.good.clk.resNodup, by unfold keys; rw [Vq]; exact h1, fun k hk => ?_⟩
 cases hp : C.pins k with
 | none => exact absurd hk (mget_none.1 hp)
 | some x =>
  have h3 := hC.pin k x hp
  have h4 := h2 k x hp
  exact List.count_pos_iff.1 O0
inductive Did (A : List Ag) (al : Int → Bool) (s : Shd) (G : Int → Blb) (r : Run) (k : Nat) (a' : Ag) (G' : Int → Blb) (q : Run × Shd × Int) : Prop
 | none (h : q = (r, s, 0)) (hp : r.ph = 0) (hb : Blk A r.o)
 | some (h : q.2.2 = 1) (ho : RunOk al q.1) (k' : Nat) (hr : Rel G' q.2.1 q.1 a' k') (hk : k' < k ∨ (r.o.kind = 2 ∧ q.1.ph = 0 ∧ q.1.fails = r.fails + 1 ∧ k = 1 ∧ r.flag = false)) (ha : abs q.2.1 G' = abs s G) (hw : r.wrt → (r.ph = 0 ∧ q.1.ph = 1 ∧ q.2.1.b = s.b ∧ Dir.look s.d r.o.series = Option.some q.1.slot) ∨ (r.ph = 1 ∧ q.1.ph = 3))
 | point (h : q.2.2 = 2) (ho : q.1.over = true) (hh : q.1.holds = 0) (ha' : a' = Ag.idle r.who) (ha : (abs s G).act r.o = (abs q.2.1 G', q.1.res))
 | full (h : q.2.2 = 3) (h1 : r.ph = 1) (ho : q.1.over = true) (hh : q.1.holds = 0) (ha' : a' = Ag.idle r.who) (ha : abs q.2.1 G' = abs s G) (he : q.1.res = ⟨9, 0, []⟩) (hs : q.2.1.b = s.b) (hw : (r.o.kind = 1 ∧ (s.b.room < 16 ∨ r.slot.opn.length = 7)) ∨ (r.o.kind = 3 ∧ r.slot.opn ≠ [])) (hroom : s.b.room < 300)
 | busy (h : q.2.2 = 3) (ho : q.1.over = true) (hh : q.1.holds = 0) (ha' : a' = Ag.idle r.who) (ha : abs q.2.1 G' = abs s G) (he : q.1.res = ⟨6, 0, []⟩) (hc : AllPinned A s.c) (hr : r.o.kind = 2 ∨ r.o.kind = 6)
structure Out (A : List Ag) (al : Int → Bool) (s : Shd) (G : Int → Blb) (n : Nat) (r : Run) (k : Nat) (q : Run × Shd × Int) (a' : Ag) (acc' : List SlotV) (G' : Int → Blb) : Prop where
 inv : Inv q.2.1 (a' :: A) acc' al G' (n + 2)
 same : ∀ id, id ≤ s.b.last → G' id = G id
 le : s.b.last ≤ q.2.1.b.last
 le1 : q.2.1.b.last ≤ s.b.last + r.adds
 tag : ∀ id, s.b.last < id → id ≤ q.2.1.b.last → (G' id).tag = 1 ∧ (G' id).L.length ≤ 8
 keeps : Keeps r.who s q.2.1
 who : q.1.who = r.who
 o : q.1.o = r.o
 most : q.2.1.c.clk.most = s.c.clk.most
 budget : q.2.1.b.budget = s.b.budget
 did : Did A al s G r k a' G' q
theorem Inv.fits (h : Inv s A acc al G n) : Dir.Fits s.d := by
 intro p hp
 obtain ⟨i, hi⟩ := Zp.1 hp
 obtain ⟨h1, h2, _⟩ := h.dir.ok i p hi
 have := h1.few
 have := h.last
 omega
theorem Inv.free_id (h : Inv s A acc al G n) : mget (wI (s.b.last + 1)) s.b.l = none := by
 have h0 := h.b0
 have h1 := h.last
 have hw : wI (s.b.last + 1) = s.b.last + 1 := jc (by have := h.b0; dsimp only [List.length] at this; omega) O0
 rw [hw]
 exact mget_none.2 fun hk => by have := (h.sto.rng _ hk).2; omega
theorem Inv.acc_at (h : Inv s (a :: A) acc al G n) {i : Nat} {x : SlotV} (ha : a.flag = some ((i : Int), x)) : acc[i]? = some x := by
 have hd := h.dir
 rw [Uh, flags_some ha] at hd
 obtain ⟨_, _, p, _, _, _, hpa⟩ := hd.flg _ (Ub ..)
 exact hpa
theorem sumF_mem {α : Type} (f : α → Nat) {l : List α} {i : Nat} {x : α} (h : l[i]? = some x) : f x ≤ sumF f l := sumF_le f (Uj h)
theorem act_ser {m : Mdl} {o : Opr} (hb : Run.bad o = false) (h6 : o.kind ≠ 6) (h7 : o.kind ≠ 7) : m.act o = match m.ser o.series with
  | none => if o.kind = 1 then ({ m with ser := upS m.ser o.series (some (false, [⟨o.T, (o.V : Int)⟩])) }, ⟨0, 0, []⟩) else m.err 3
  | some (cl, L) =>
   if o.kind = 1 then if cl then m.err 2 else if o.T ≤ lastT L then m.err 1 else ({ m with ser := upS m.ser o.series (some (false, L ++ [⟨o.T, (o.V : Int)⟩])) }, ⟨0, 0, []⟩)
   else if o.kind = 2 then (m, ⟨0, 0, within L o.F o.To⟩)
   else if o.kind = 3 then if cl then m.err 2 else ({ m with ser := upS m.ser o.series (some (true, L)) }, ⟨0, 0, []⟩)
   else if o.kind = 4 then ({ m with ser := upS m.ser o.series none }, ⟨0, 0, []⟩)
   else if m.its.length ≥ 8 then m.err 5
   else ({ m with its := m.its ++ [(m.next + 1, within L o.F o.To)], next := m.next + 1 }, ⟨0, m.next + 1, []⟩) := by
 unfold Mdl.act
 rw [hb, if_neg O2, if_neg h6, if_neg h7]
 all_goals rfl
theorem wrong_cases (r : Run) : (r.slot.there = false ∧ r.o.kind ≠ 1 ∧ r.wrong = 3) ∨ (r.slot.there = true ∧ r.o.kind ≠ 4 ∧ r.slot.closed = true ∧ r.wrong = 2) ∨
  (r.slot.there = true ∧ r.slot.closed = false ∧ r.o.kind = 1 ∧ r.o.T ≤ r.slot.last ∧ r.wrong = 1) ∨
  (r.wrong = 0 ∧ (r.o.kind ≠ 1 → r.slot.there = true) ∧ (r.slot.there = true → r.o.kind ≠ 4 → r.slot.closed = false) ∧ (r.o.kind = 1 → r.slot.there = true → r.slot.any = true → r.slot.last < r.o.T)) := by
 obtain ⟨w, hw⟩ : ∃ w, r.wrong = w := ⟨_, rfl⟩
 have hw' := hw
 rw [hw]
 unfold Run.wrong at hw'
 by_cases c1 : r.o.kind ≠ 1 ∧ r.slot.there = false
 ·rw [if_pos c1] at hw'
  exact .inl ⟨c1.2, c1.1, hw'.symm⟩
 ·rw [if_neg c1] at hw'
  by_cases c2 : r.o.kind ≠ 4 ∧ r.slot.there = true ∧ r.slot.closed = true
  ·rw [if_pos c2] at hw'
   exact .inr (.inl ⟨c2.2.1, c2.1, c2.2.2, hw'.symm⟩)
  ·rw [if_neg c2] at hw'
   by_cases c3 : r.o.kind = 1 ∧ r.slot.there = true ∧ r.slot.any = true ∧ r.o.T ≤ r.slot.last
   ·rw [if_pos c3] at hw'
    refine .inr (.inr (.inl ⟨c3.2.1, ?_, c3.1, c3.2.2.2, hw'.symm⟩))
    rw [← Kg]
    exact fun h => c2 ⟨by have := c3.1; omega, c3.2.1, h⟩
   ·rw [if_neg c3] at hw'
    refine .inr (.inr (.inr ⟨hw'.symm, fun h => ?_, fun h1 h2 => ?_, fun h1 h2 h3 => ?_⟩))
    ·cases ht : r.slot.there with
     | true => rfl
     | false => exact absurd ⟨h, ht⟩ c1
    ·rw [← Kg]
     exact fun h => c2 ⟨h2, h1, h⟩
    ·exact Wu fun h => c3 ⟨h1, h2, h3, O_o⟩
theorem tells_no (h : r.slot.there = false) : r.slot.tells G = none := by unfold SlotV.tells; rw [h]; rfl
theorem tells_yes (h : r.slot.there = true) : r.slot.tells G = some (r.slot.closed, r.slot.all G) := by unfold SlotV.tells; rw [h]; rfl
theorem wrong_act {m : Mdl} (hk : r.wrt) (hb : Run.bad r.o = false) (hs : SlotOk G b r.slot) (hm : m.ser r.o.series = r.slot.tells G) (hw : r.wrong ≠ 0) : m.act r.o = (m, ⟨r.wrong, 0, []⟩) := by
 have h6 : r.o.kind ≠ 6 := by rcases hk with h | h | h <;> omega
 have h7 : r.o.kind ≠ 7 := by rcases hk with h | h | h <;> omega
 have h2 : r.o.kind ≠ 2 := by rcases hk with h | h | h <;> omega
 have h5 : r.o.kind ≠ 5 := by rcases hk with h | h | h <;> omega
 rw [act_ser hb h6 h7, hm]
 rcases wrong_cases r with ⟨h1, hk1, hw1⟩ | ⟨h1, hk1, hc, hw1⟩ | ⟨h1, hc, hk1, hT, hw1⟩ | ⟨hw1, _⟩
 ·rw [tells_no h1, hw1]
  dsimp only
  rw [if_neg hk1]; rfl
 ·rw [tells_yes h1, hw1, hc]
  dsimp only
  by_cases h1 : r.o.kind = 1
  ·rw [if_pos h1, if_pos rfl]; rfl
  ·rw [if_neg h1, if_neg h2, if_pos (by rcases hk with h | h | h; exact absurd h h1; exact h; exact absurd h hk1), if_pos rfl]; rfl
 ·rw [tells_yes h1, hw1, hc]
  dsimp only
  rw [if_pos hk1, if_neg O2, if_pos (by rw [← (hs.yes h1).2.2]; exact hT)]; rfl
 ·exact absurd hw1 hw
theorem add_eq (hk : r.o.kind = 1) (hs : SlotOk G b r.slot) (hw : r.wrong = 0) :
  (if r.slot.there then r.slot else { SlotV.zero with there := true, life := r.slot.life } : SlotV).add ⟨r.o.T, (r.o.V : Int)⟩ = r.slot.more ⟨r.o.T, (r.o.V : Int)⟩ ∧ (r.slot.there = true → r.slot.closed = false) ∧ (r.slot.all G = [] ∨ lastT (r.slot.all G) < r.o.T) := by
 rcases wrong_cases r with ⟨_, _, hw1⟩ | ⟨_, _, _, hw1⟩ | ⟨_, _, _, _, hw1⟩ | ⟨_, _, hcl, hT⟩
 ·rw [hw] at hw1; cases hw1
 ·rw [hw] at hw1; cases hw1
 ·rw [hw] at hw1; cases hw1
 unfold SlotV.more
 cases ht : r.slot.there with
 | false =>
  obtain ⟨h1, h2⟩ := hs.no ht
  refine ⟨?_, fun h => (by cases h), .inl ?_⟩
  ·rw [if_neg O2, h1]; rfl
  ·unfold SlotV.all; rw [h1, h2]; rfl
 | true =>
  obtain ⟨ha, hne, hlast⟩ := hs.yes ht
  have hT := hT hk ht ha
  refine ⟨?_, fun _ => hcl ht O0, .inr (by rw [← hlast]; exact hT)⟩
  rw [if_pos rfl]
  unfold SlotV.add
  rw [if_neg (fun h => by have := h.2; dsimp only at this; omega)]
theorem more_facts {x : Smp} {sl : SlotV} (hs : SlotOk G b sl) (hx : x.Wf) (hr : sl.all G = [] ∨ lastT (sl.all G) < x.T) (hcl : sl.there = true → sl.closed = false) :
  RiseP (sl.all G ++ [x]) ∧ (∀ y ∈ (sl.more x).opn, y.Wf) ∧ RiseP (sl.more x).opn ∧ (sl.more x).closed = false ∧ (sl.more x).tells G = some (false, sl.all G ++ [x]) := by
 obtain ⟨e1, e2, e3, e4, e5, e6⟩ := hs.opn_more x
 have hall := hs.all_more x
 have hrise := rise_snoc hs.rise hr
 have hc : (sl.more x).closed = false := by
  unfold SlotV.more
  cases ht : sl.there with
  | true => exact hcl ht
  | false => rfl
 refine ⟨hrise, fun y hy => ?_, ?_, hc, ?_⟩
 ·rw [e1] at hy
  rcases Wr.1 hy with hy | hy
  ·exact hs.wf y hy
  ·rw [Vk] at hy; rw [hy]; exact hx
 ·rw [e1]
  refine hrise.sublist ?_
  unfold SlotV.all
  rw [Ul]
  exact List.sublist_append_right _ _
 ·unfold SlotV.tells
  rw [e3, if_pos rfl, hc, hall]
theorem more_ok {x : Smp} {sl : SlotV} (hs : SlotOk G b sl) (hx : x.Wf) (hr : sl.all G = [] ∨ lastT (sl.all G) < x.T) (hcl : sl.there = true → sl.closed = false) (h7 : sl.opn.length < 7) : SlotOk G b (sl.more x) := by
 obtain ⟨e1, e2, e3, e4, e5, e6⟩ := hs.opn_more x
 have hall := hs.all_more x
 obtain ⟨m1, m2, m3, m4, m5⟩ := more_facts hs hx hr hcl
 exact ⟨fun h => (by rw [e3] at h; cases h), fun _ => ⟨e4, by rw [hall]; exact Xz _ (List.cons_ne_nil _ _), by rw [e5, hall, lastT_snoc]⟩, by rw [e1, Ua]; show _ + 1 ≤ 7; omega, fun h => (by rw [m4] at h; cases h), m2, fun p hp => hs.prts p (by rw [← e2]; exact hp), by rw [hall]; exact m1⟩
theorem shut_ok {sl : SlotV} {p : Prt} (ht : sl.there = true) (ha : sl.any = true) (hl : sl.last = lastT (sl.all G)) (hne : sl.all G ≠ []) (hr : RiseP (sl.all G)) (hp : PrtOk G b p) (hps : ∀ q ∈ sl.chunks, PrtOk G b q) (he : (G p.blob).L = sl.opn) : SlotOk G b (sl.shut p) := by
 have hall := sl.all_shut he
 refine ⟨fun h => ?_, fun _ => ⟨ha, by rw [hall]; exact hne, by rw [hall]; exact hl⟩, Ud _, fun _ => rfl, fun x hx => (by cases hx), fun q hq => ?_, by rw [hall]; exact hr⟩
 ·have h' : sl.there = false := h
  rw [ht] at h'; cases h'
 ·rcases Wr.1 (show q ∈ sl.chunks ++ [p] from hq) with hq | hq
  ·exact hps q hq
  ·rw [Vk] at hq; rw [hq]; exact hp
end
section
variable {s s' s2 : Shd} {a : Ag} {A : List Ag} {acc : List SlotV} {al : Int → Bool} {G G' : Int → Blb} {n n' : Nat} {r : Run} {ps pn : List Key3} {b b' : Int} {who series : Int} {k : Nat}
theorem holds0 (h1 : r.flag = false) (h2 : r.using_ = false) (h3 : r.held = false) : r.holds = 0 := by unfold Run.holds; rw [h1, h2, h3]; rfl
theorem wrt_ne (hk : r.wrt) : r.o.kind ≠ 2 ∧ r.o.kind ≠ 5 ∧ r.o.kind ≠ 6 ∧ r.o.kind ≠ 7 ∧ 1 ≤ r.o.kind ∧ r.o.kind ≤ 5 := by rcases hk with h | h | h <;> omega
theorem series_in (hb : Run.bad r.o = false) (h1 : 1 ≤ r.o.kind) (h5 : r.o.kind ≤ 5) : 0 ≤ r.o.series ∧ r.o.series < 16 := by
 unfold Run.bad at hb
 rw [if_pos ⟨h1, h5⟩, Zd, decide_eq_false_iff_not, decide_eq_false_iff_not] at hb
 omega
theorem make_step (hI : Inv s (a :: A) acc al G n) (hr : RunOk al r) (hk : r.wrt) (hd : FlagAt s r) (hw : r.wrong = 0) (ha : a = ⟨r.who, some (r.o.series, r.slot), [], [], none, none⟩) (hn : n + 2 ≤ 1000000000) (hb : s.b.last < 100000) :
  (∃ nx, r.make s = ({ r with next := nx }, s, false) ∧ ((r.o.kind = 1 ∧ (s.b.room < 16 ∨ r.slot.opn.length = 7)) ∨ (r.o.kind = 3 ∧ r.slot.opn ≠ [])) ∧ s.b.room < 300) ∨
  ∃ nx S' G' acc', r.make s = ({ r with next := nx }, { s with b := S' }, true) ∧ Inv { s with b := S' } ({ a with flag := some (r.o.series, nx) } :: A) acc' al G' n ∧ (∀ id, id ≤ s.b.last → G' id = G id) ∧ s.b.last ≤ S'.last ∧ S'.last ≤ s.b.last + 1 ∧ S'.budget = s.b.budget ∧
   SlotOk G' S'.last nx ∧ 0 ≤ nx.life ∧ nx.life ≤ r.slot.life + 1 ∧ Eff G' { r with next := nx } ∧ nx.opn.length ≤ 8 ∧ nx.chunks.length ≤ 100000 ∧ ∀ id, s.b.last < id → id ≤ S'.last → (G' id).tag = 1 ∧ (G' id).L.length ≤ 8 := by
 obtain ⟨hs, hch, hl0, hl1, hser⟩ := hd.ok hI
 obtain ⟨n2, n5, n6, n7, k1, k5⟩ := wrt_ne hk
 obtain ⟨i, e, hi, hdi⟩ := hd
 have haf : a.flag = some ((i : Int), r.slot) := by rw [ha, ← e]
 have hacc := hI.acc_at haf
 have hb0 : 0 ≤ s.b.last := hI.sto.ok.l0
 have hopc : r.slot.opn.length ≤ chOf acc := sumF_mem (fun x : SlotV => x.opn.length) hacc
 have hrise : RiseP r.slot.opn := hs.rise.sublist (by unfold SlotV.all; exact List.sublist_append_right _ _)
 unfold Run.make
 dsimp only
 obtain ⟨w3, w4, w5⟩ : (r.o.kind ≠ 1 → r.slot.there = true) ∧ (r.slot.there = true → r.o.kind ≠ 4 → r.slot.closed = false) ∧ True := by
  rcases wrong_cases r with ⟨_, _, hw1⟩ | ⟨_, _, _, hw1⟩ | ⟨_, _, _, _, hw1⟩ | ⟨_, q1, q2, _⟩
  ·rw [hw] at hw1; cases hw1
  ·rw [hw] at hw1; cases hw1
  ·rw [hw] at hw1; cases hw1
  ·exact ⟨q1, q2, trivial⟩
 by_cases hk1 : r.o.kind = 1
 ·rw [if_pos hk1]
  obtain ⟨hadd, hcl, hT⟩ := add_eq hk1 hs hw
  have hxw : (⟨r.o.T, (r.o.V : Int)⟩ : Smp).Wf := ⟨hr.wf.2.2.2.1, ⟨O_d, by have := hr.wf.2.2.2.2.1; dsimp only; omega⟩⟩
  obtain ⟨x, hx⟩ : ∃ x : Smp, (⟨r.o.T, (r.o.V : Int)⟩ : Smp) = x := ⟨_, rfl⟩
  have hxT : x.T = r.o.T := by rw [← hx]
  rw [hx] at hadd hxw
  rw [← hxT] at hT
  obtain ⟨m1, m2, m3, m4, m5⟩ := more_facts hs hxw hT hcl
  obtain ⟨f1, f2, f3, f4, f5, f6⟩ := hs.opn_more x
  have hmall := hs.all_more x
  have hflen : (r.slot.more x).opn.length = r.slot.opn.length + 1 := by rw [f1, Ua]; rfl
  have h7 := hs.few
  have heff : ∀ (nx : SlotV) (G2 : Int → Blb), r.slot.tells G2 = r.slot.tells G → nx.tells G2 = some (false, r.slot.all G ++ [x]) → Eff G2 { r with next := nx } := by
   intro nx G2 ht2 hnx m hm
   dsimp only at hm ⊢
   rw [act_ser hr.bad n6 n7, hm, ht2, hnx, hx]
   cases ht : r.slot.there with
   | false =>
    rw [tells_no ht]
    obtain ⟨h1, h2⟩ := hs.no ht
    have he : r.slot.all G = [] := by unfold SlotV.all; rw [h1, h2]; rfl
    rw [he]
    dsimp only
    rw [if_pos hk1]; rfl
   | true =>
    rw [tells_yes ht, hcl ht]
    dsimp only
    rw [if_pos hk1, if_neg O2, if_neg]
    intro hle
    rcases hT with hT | hT
    ·exact (hs.yes ht).2.1 hT
    ·omega
  have hr1 : ∀ z, ({ r with next := r.slot } : Run).add z = match z.b.chg 16 with
    | (false, _) => ({ r with next := r.slot.more x }, z, false)
    | (true, b) => if (r.slot.more x).opn.length < 8 then ({ r with next := r.slot.more x }, { z with b := b }, true)
     else match ({ r with next := r.slot.more x } : Run).close { z with b := b } with
      | (r, s, true) => (r, s, true)
      | (r, s, false) => (r, { s with b := (s.b.chg (-16)).2 }, false) := by
   intro z
   unfold Run.add
   dsimp only
   rw [hx, hadd]
   rfl
  rw [hr1]
  rcases hI.sto.charge 1 O0 with ⟨c1, c2⟩ | ⟨S1, c1, c2, c3, c4⟩
  ·have c1' : s.b.chg 16 = (false, s.b) := c1
   rw [c1']
   exact .inl ⟨_, rfl, .inl ⟨hk1, .inl O0⟩, O_o⟩
  ·have c1' : s.b.chg 16 = (true, S1) := c1
   rw [c1']
   dsimp only
   have hS1l : S1.last = s.b.last := by rw [c2]
   have hS1b : S1.budget = s.b.budget := by rw [c2]
   by_cases h8 : (r.slot.more x).opn.length < 8
   ·rw [if_pos h8]
    have hok := more_ok hs hxw hT hcl O0
    have hch2 := ch_set (y := r.slot.more x) hacc
    have hAcc := hI.account (y := r.slot.more x) (S := S1) (G' := G) (n' := n) haf (by
     have hc0 : chOf (acc.set i (r.slot.more x)) = chOf acc + 1 := by omega
     rw [hc0]
     refine c3.eqv fun id => ?_
     have := cnt_set (y := r.slot.more x) (A := a :: A) hacc s.t id
     rw [f2] at this
     omega) O0 O0 (fun _ _ => rfl) (Ug _) O0 (by rw [f2, hS1l]; exact hch) O0
    rw [← e] at hAcc
    exact .inr ⟨_, S1, G, _, rfl, hAcc, fun _ _ => rfl, O_o, O_o, hS1b, by rw [hS1l]; exact hok, by rw [f6]; exact hl0, by rw [f6]; omega, heff _ _ rfl m5, O_o, by rw [f2]; exact hr.s5, fun _ h1 h2 => by omega⟩
   ·rw [if_neg h8]
    have h7' : r.slot.opn.length = 7 := by omega
    rcases run_close (s := { s with b := S1 }) (r := { r with next := r.slot.more x }) (cnt := cntOf acc (a :: A) s.t) (ch := chOf acc + 1) (G := G) c3 O21 O21 O21 O21 m2 m3 with ⟨k1, bs, kb1, kb2⟩ | ⟨S', k1, k2, k3, k4⟩
    ·have hbl := chMake1_lenN kb1
     (try dsimp only at hbl kb2)
     have hroom : S1.room = s.b.room - 16 := by
      rw [c2]
      show s.b.budget - s.b.bytes - (s.b.charged + 16 * ((1 : Nat) : Int)) = s.b.budget - s.b.bytes - s.b.charged - 16
      omega
     rw [k1]
     dsimp only
     have hf := (c3.free 1 O0 O0).1
     have hf' : S1.chg (-16) = (true, { S1 with charged := S1.charged - 16 }) := hf
     rw [hf', c2]
     refine .inl ⟨r.slot.more x, ?_, .inl ⟨hk1, .inr h7'⟩, O_o⟩
     show (({ r with next := r.slot.more x } : Run), ({ s with b := { s.b with charged := s.b.charged + 16 * ((1 : Nat) : Int) - 16 } } : Shd), false) = _
     rw [show s.b.charged + 16 * ((1 : Nat) : Int) - 16 = s.b.charged by omega]
    ·dsimp only at k1 k2 k3 k4 ⊢
     rw [hS1l] at k1 k2 k3
     rw [k1]
     dsimp only
     have hpk : PrtOk (gadd G s.b.last (r.slot.more x).opn) (s.b.last + 1) (partOf (s.b.last + 1) (r.slot.more x).opn) := partOk hb0 (by rw [f1]; exact Xz _ (List.cons_ne_nil _ _)) O0 m2 m3
     have hold : ∀ id, id ≤ s.b.last → gadd G s.b.last (r.slot.more x).opn id = G id := fun id hid => gadd_old id hid
     obtain ⟨hs', hall'⟩ := hs.more (b' := s.b.last + 1) O0 hold
     have hpn : (gadd G s.b.last (r.slot.more x).opn (partOf (s.b.last + 1) (r.slot.more x).opn).blob).L = (r.slot.more x).opn := by
      show (gadd G s.b.last (r.slot.more x).opn (s.b.last + 1)).L = _
      rw [gadd_new]
     have hmall' : (r.slot.more x).all (gadd G s.b.last (r.slot.more x).opn) = r.slot.all G ++ [x] := by rw [hs'.all_more x, hall']
     have hokS : SlotOk (gadd G s.b.last (r.slot.more x).opn) (s.b.last + 1) ((r.slot.more x).shut (partOf (s.b.last + 1) (r.slot.more x).opn)) :=
      shut_ok f3 f4 (by rw [hmall', f5, lastT_snoc]) (by rw [hmall']; exact Xz _ (List.cons_ne_nil _ _)) (by rw [hmall']; exact m1) hpk (fun q hq => hs'.prts q (by rw [← f2]; exact hq)) hpn
     have hch2 := ch_set (y := (r.slot.more x).shut (partOf (s.b.last + 1) (r.slot.more x).opn)) hacc
     have hsc : ((r.slot.more x).shut (partOf (s.b.last + 1) (r.slot.more x).opn)).chunks = r.slot.chunks ++ [partOf (s.b.last + 1) (r.slot.more x).opn] := by show (r.slot.more x).chunks ++ _ = _; rw [f2]
     have hso : ((r.slot.more x).shut (partOf (s.b.last + 1) (r.slot.more x).opn)).opn.length = 0 := rfl
     have hlast := hI.last
     have hAcc := hI.account (y := (r.slot.more x).shut (partOf (s.b.last + 1) (r.slot.more x).opn)) (S := S') (G' := gadd G s.b.last (r.slot.more x).opn) (n' := n) haf (by
      have hc0 : chOf (acc.set i ((r.slot.more x).shut (partOf (s.b.last + 1) (r.slot.more x).opn))) = chOf acc + 1 - (r.slot.more x).opn.length := by omega
      rw [hc0]
      refine k2.eqv fun id => ?_
      have := cnt_set (y := (r.slot.more x).shut (partOf (s.b.last + 1) (r.slot.more x).opn)) (A := a :: A) hacc s.t id
      rw [hsc, rc_append, rc_cons, rc_nil] at this
      have e3 : (partOf (s.b.last + 1) (r.slot.more x).opn).blob = s.b.last + 1 := rfl
      rw [e3] at this
      omega) O0 O0 hold (Ug _) O0 (by rw [hsc, Ua]; show ((r.slot.chunks.length + 1 : Nat) : Int) ≤ _; omega) O0
     rw [← e] at hAcc
     refine .inr ⟨_, S', _, _, rfl, hAcc, hold, O_o, O_o, k4.trans hS1b, by rw [k3]; exact hokS, ?_, ?_, heff _ _ ?_ ?_, O_o, by rw [hsc, Ua]; show r.slot.chunks.length + 1 ≤ _; omega, fun id h1 h2 => by
      obtain rfl : id = s.b.last + 1 := by omega
      rw [gadd_new]
      exact ⟨rfl, by show (r.slot.more x).opn.length ≤ 8; omega⟩⟩
     ·show 0 ≤ (r.slot.more x).life; rw [f6]; exact hl0
     ·show (r.slot.more x).life ≤ _; rw [f6]; omega
     ·unfold SlotV.tells; rw [hall']
     ·unfold SlotV.tells
      rw [SlotV.all_shut _ hpn, hmall']
      show (if (r.slot.more x).there then some ((r.slot.more x).closed, _) else none) = _
      rw [f3, m4]; rfl
 ·have ht := w3 hk1
  rw [if_neg hk1]
  by_cases hk3 : r.o.kind = 3
  ·rw [if_pos hk3]
   have hcl := w4 ht O0
   obtain ⟨hany, hne, hlst⟩ := hs.yes ht
   have heff : ∀ (nx : SlotV) (G2 : Int → Blb), r.slot.tells G2 = r.slot.tells G → nx.tells G2 = some (true, r.slot.all G) → Eff G2 { r with next := nx } := by
    intro nx G2 ht2 hnx m hm
    dsimp only at hm ⊢
    rw [act_ser hr.bad n6 n7, hm, ht2, hnx, tells_yes ht, hcl]
    dsimp only
    rw [if_neg hk1, if_neg n2, if_pos hk3, if_neg O2]
   unfold Run.seal_
   dsimp only
   have hokc : SlotOk G s.b.last { r.slot with closed := true } ∨ r.slot.opn ≠ [] := by
    by_cases ho : r.slot.opn = []
    ·exact .inl ⟨hs.no, hs.yes, hs.few, fun _ => ho, hs.wf, hs.prts, hs.rise⟩
    ·exact .inr ho
   by_cases hz : r.slot.opn.length = 0
   ·rw [if_pos hz]
    have ho : r.slot.opn = [] := List.length_eq_zero_iff.1 hz
    have hok : SlotOk G s.b.last { r.slot with closed := true } := ⟨hs.no, hs.yes, hs.few, fun _ => ho, hs.wf, hs.prts, hs.rise⟩
    have hch2 := ch_set (y := { r.slot with closed := true }) hacc
    have hAcc := hI.account (y := { r.slot with closed := true }) (S := s.b) (G' := G) (n' := n) haf (by
     have hc0 : chOf (acc.set i { r.slot with closed := true }) = chOf acc := Zz hch2
     rw [hc0]
     exact hI.sto.eqv fun id => Zz (cnt_set (y := { r.slot with closed := true }) (A := a :: A) hacc s.t id)) (Uu _) O0 (fun _ _ => rfl) (Ug _) O0 hch (by have := hs.few; (try dsimp only); omega)
    rw [← e] at hAcc
    refine .inr ⟨_, s.b, G, _, rfl, hAcc, fun _ _ => rfl, Uu _, O_o, rfl, hok, hl0, O_t, heff _ _ rfl ?_, hr.s4, hr.s5, fun _ h1 h2 => by omega⟩
    unfold SlotV.tells
    dsimp only
    rw [ht]; rfl
   ·rw [if_neg hz]
    have hone : r.slot.opn ≠ [] := fun h => hz (by rw [h]; rfl)
    have h7 := hs.few
    rcases run_close (s := s) (r := { r with next := { r.slot with closed := true } }) (cnt := cntOf acc (a :: A) s.t) (ch := chOf acc) (G := G) hI.sto O0 O21 O21 O21 hs.wf hrise with ⟨k1, bs, kb1, kb2⟩ | ⟨S', k1, k2, k3, k4⟩
    ·have hbl := chMake1_lenN kb1
     (try dsimp only at hbl kb2)
     exact .inl ⟨_, k1, .inr ⟨hk3, hone⟩, O_o⟩
    ·dsimp only at k1 k2
     have hpk : PrtOk (gadd G s.b.last r.slot.opn) (s.b.last + 1) (partOf (s.b.last + 1) r.slot.opn) := partOk hb0 hone O0 hs.wf hrise
     have hold : ∀ id, id ≤ s.b.last → gadd G s.b.last r.slot.opn id = G id := fun id hid => gadd_old id hid
     obtain ⟨hs', hall'⟩ := hs.more (b' := s.b.last + 1) O0 hold
     have hpn : (gadd G s.b.last r.slot.opn (partOf (s.b.last + 1) r.slot.opn).blob).L = r.slot.opn := by
      show (gadd G s.b.last r.slot.opn (s.b.last + 1)).L = _
      rw [gadd_new]
     obtain ⟨q1, q2, q3⟩ := hs'.yes ht
     have hokS : SlotOk (gadd G s.b.last r.slot.opn) (s.b.last + 1) (({ r.slot with closed := true } : SlotV).shut (partOf (s.b.last + 1) r.slot.opn)) :=
      shut_ok ht hany q3 q2 hs'.rise hpk hs'.prts hpn
     have hch2 := ch_set (y := ({ r.slot with closed := true } : SlotV).shut (partOf (s.b.last + 1) r.slot.opn)) hacc
     have hlast := hI.last
     have hAcc := hI.account (y := ({ r.slot with closed := true } : SlotV).shut (partOf (s.b.last + 1) r.slot.opn)) (S := S') (G' := gadd G s.b.last r.slot.opn) (n' := n) haf (by
      have hc0 : chOf (acc.set i (({ r.slot with closed := true } : SlotV).shut (partOf (s.b.last + 1) r.slot.opn))) = chOf acc - r.slot.opn.length := by
       have hz0 : (({ r.slot with closed := true } : SlotV).shut (partOf (s.b.last + 1) r.slot.opn)).opn.length = 0 := rfl
       omega
      rw [hc0]
      refine k2.eqv fun id => ?_
      have := cnt_set (y := ({ r.slot with closed := true } : SlotV).shut (partOf (s.b.last + 1) r.slot.opn)) (A := a :: A) hacc s.t id
      have hsc : (({ r.slot with closed := true } : SlotV).shut (partOf (s.b.last + 1) r.slot.opn)).chunks = r.slot.chunks ++ [partOf (s.b.last + 1) r.slot.opn] := rfl
      rw [hsc, rc_append, rc_cons, rc_nil] at this
      have e3 : (partOf (s.b.last + 1) r.slot.opn).blob = s.b.last + 1 := rfl
      rw [e3] at this
      omega) O0 O0 hold (Ug _) O0 (by show ((r.slot.chunks ++ [_]).length : Int) ≤ _; rw [Ua]; show ((r.slot.chunks.length + 1 : Nat) : Int) ≤ _; omega) (by show 0 ≤ 8; omega)
     rw [← e] at hAcc
     refine .inr ⟨_, S', _, _, k1, hAcc, hold, O_o, O_o, k4, by rw [k3]; exact hokS, hl0, ?_, heff _ _ ?_ ?_, Ud _, by show (r.slot.chunks ++ [_]).length ≤ _; rw [Ua]; show r.slot.chunks.length + 1 ≤ _; omega, fun id h1 h2 => by
      obtain rfl : id = s.b.last + 1 := by omega
      rw [gadd_new]
      exact ⟨rfl, by show r.slot.opn.length ≤ 8; omega⟩⟩
     ·show r.slot.life ≤ _; omega
     ·unfold SlotV.tells; rw [hall']
     ·unfold SlotV.tells
      rw [SlotV.all_shut ({ r.slot with closed := true } : SlotV) hpn]
      show (if r.slot.there then some (true, r.slot.all _) else none) = _
      rw [ht, hall']; rfl
  ·rw [if_neg hk3]
   have hk4 : r.o.kind = 4 := by rcases hk with h | h | h; exact absurd h hk1; exact absurd h hk3; exact h
   unfold Run.drop
   have h7 := hs.few
   have hwl : wI (r.slot.life + 1) = r.slot.life + 1 := jc O0 O0
   have hz : wI (0 - r.slot.size) = -(16 * (r.slot.opn.length : Int)) := by
    have hz : r.slot.size = 16 * (r.slot.opn.length : Int) := by show IntKind.i64.wrap _ = _; exact jc O0 O0
    rw [hz]
    show IntKind.i64.wrap _ = _
    rw [jc O0 O0]; omega
   rw [hwl, hz]
   obtain ⟨f1, f2⟩ := hI.sto.free r.slot.opn.length hopc O0
   rw [f1]
   dsimp only
   obtain ⟨nx, hnx⟩ : ∃ nx : SlotV, ({ SlotV.zero with life := r.slot.life + 1 } : SlotV) = nx := ⟨_, rfl⟩
   rw [hnx]
   have hnc : nx.chunks = [] := by rw [← hnx]; rfl
   have hno : nx.opn = [] := by rw [← hnx]; rfl
   have hnt : nx.there = false := by rw [← hnx]; rfl
   have hnl : nx.life = r.slot.life + 1 := by rw [← hnx]
   have hcl : nx.closed = false := by rw [← hnx]; rfl
   have hall : nx.all G = [] := by unfold SlotV.all; rw [hnc, hno]; rfl
   have hok : SlotOk G s.b.last nx := ⟨fun _ => ⟨hno, hnc⟩, fun h => (by rw [hnt] at h; cases h), by rw [hno]; exact Ud _, fun _ => hno, fun x hx => (by rw [hno] at hx; cases hx), fun p hp => (by rw [hnc] at hp; cases hp), by rw [hall]; exact List.Pairwise.nil⟩
   obtain ⟨l1, l2, l3⟩ := StoInv.leave (ps := r.slot.chunks) (cnt' := cntOf (acc.set i nx) (a :: A) s.t) f2 fun id => by
    have := cnt_set (y := nx) (A := a :: A) hacc s.t id
    rw [hnc, rc_nil] at this
    omega
   have hch2 := ch_set (y := nx) hacc
   have hlast := hI.last
   have hAcc := hI.account (y := nx) (S := ({ s.b with charged := s.b.charged - 16 * (r.slot.opn.length : Int) } : Sto).leave r.slot.chunks) (G' := G) (n' := n) haf (by
    have hc0 : chOf (acc.set i nx) = chOf acc - r.slot.opn.length := by rw [hno] at hch2; dsimp only [List.length] at hch2; omega
    rw [hc0]
    exact l1) (by rw [l2]; exact Uu _) (by rw [l2]; exact hlast) (fun _ _ => rfl) (Ug _) O0 (by rw [hnc, l2]; exact hb0) (by rw [hno]; exact Ud _)
   rw [← e] at hAcc
   refine .inr ⟨nx, _, G, _, rfl, hAcc, fun _ _ => rfl, by rw [l2]; exact Uu _, by rw [l2]; (try dsimp only); omega, l3, by rw [l2]; exact hok, O_o, O_o, ?_, by rw [hno]; exact Ud _, by rw [hnc]; exact Ud _, fun _ h1 h2 => by rw [l2] at h2; (try dsimp only at h2); omega⟩
   intro m hm
   dsimp only at hm ⊢
   rw [act_ser hr.bad n6 n7, hm, tells_yes ht]
   dsimp only
   rw [if_neg hk1, if_neg n2, if_neg hk3, if_pos hk4]
   unfold SlotV.tells
   rw [hnt]; rfl
end
section
variable {s s' s2 : Shd} {a : Ag} {A : List Ag} {acc : List SlotV} {al : Int → Bool} {G G' : Int → Blb} {n n' : Nat} {r : Run} {ps pn : List Key3} {b b' : Int} {who series : Int} {k : Nat}
theorem serOf_here (h : Inv s A acc al G n) (hf : FlagAt s r) : serOf s.d G r.o.series = r.slot.tells G := (hf.ok h).2.2.2.2
theorem Inv.set_n (h : Inv s A acc al G n) (hn : n + 2 ≤ 1000000000) : Inv s A acc al G (n + 1) ∧ Inv s A acc al G (n + 2) := ⟨h.mono (Nat.le_add_right _ _) O0, h.mono (Nat.le_add_right _ _) O0⟩
theorem SlotV.len {sl : SlotV} (hs : SlotOk G b sl) (hc : (sl.chunks.length : Int) ≤ b) (hb : b ≤ 100000) : sl.opn.length ≤ 8 ∧ sl.chunks.length ≤ 100000 := ⟨by have := hs.few; omega, O_o⟩
theorem write_step (hI : Inv s (a :: A) acc al G n) (hr : RunOk al r) (hk : r.wrt) (hR : Rel G s r a k) (hn : n + 2 ≤ 1000000000) (hb : s.b.last < 100000) : r.WriteOk s ∧ ∃ a' acc' G', Out A al s G n r k (r.write s) a' acc' G' := by
 obtain ⟨n2, n5, n6, n7, k1, k5⟩ := wrt_ne hk
 obtain ⟨s0, s1⟩ := series_in hr.bad k1 k5
 refine ⟨⟨hI.fits, fun hp hw => ?_, by have := hr.s4; omega, by have := hr.s5; omega, by have := hr.n4; omega, by have := hr.n5; omega⟩, ?_⟩
 ·cases hR with
  | idle h0 => omega
  | put hk' h0 => omega
  | hard hk' => exact absurd hk' n2
  | read hk' => exact absurd hk' n2
  | next hk' => exact absurd hk' n6
  | make hk' h0 hf hbr hd =>
   obtain ⟨q1, q2, _⟩ := hd.ok hI
   exact ⟨q1.wf, hr.wf, by have := hr.s4; omega, by have := hr.s5; omega, hI.free_id⟩
 ·have hadd0 : 0 ≤ r.adds := by unfold Run.adds; split <;> decide
  have hl0 : s.b.last ≤ s.b.last + r.adds := by omega
  cases hR with
  | hard hk' => exact absurd hk' n2
  | read hk' => exact absurd hk' n2
  | next hk' => exact absurd hk' n6
  | idle h0 hf hbr =>
   have hwr : r.write s = if (r.take s).2.2 then ((r.take s).1, (r.take s).2.1, 1) else ((r.take s).1, (r.take s).2.1, 0) := by
    unfold Run.write
    rw [if_pos h0]
    generalize r.take s = z
    obtain ⟨z1, z2, z3⟩ := z
    cases z3 <;> rfl
   have hneed : r.need s = 3 := by unfold Run.need; rw [if_neg n2, if_neg n6, if_neg (fun h => by rcases h with h | h; exact n5 h; exact n7 h)]
   rcases run_take (r := r) hI rfl rfl s0 s1 O0 with ⟨t1, t2, t3⟩ | ⟨i, p, e, hi, hp, ht, hv, hlk, t1, t2, t3, t4, t5⟩
   ·rw [hwr, t1]
    refine ⟨_, _, G, (hI.set_n hn).2, fun _ _ => rfl, Uu _, hl0, fun _ h1 h2 => absurd h1 (Vh.2 h2), Keeps.refl _ _, rfl, rfl, rfl, rfl, .none rfl h0 (.inl ⟨k1, k5, t3⟩)⟩
   ·rw [hwr, t1]
    obtain ⟨o1, o2, _⟩ := hI.dir.ok i p hp
    obtain ⟨l1, l2⟩ := SlotV.len o1 o2 O0
    refine ⟨_, _, G, t2.mono O0 O0, fun _ _ => rfl, Uu _, hl0, fun _ h1 h2 => absurd h1 (Vh.2 h2), t4, rfl, rfl, rfl, rfl, .some rfl ⟨hr.over, hr.bad, hr.wf, hr.al, l1, l2, hr.n4, hr.n5, hr.xp, hr.f0, hr.f3⟩ 2 ?_ (.inl (by rw [hneed]; omega)) t5 (fun _ => .inl ⟨h0, rfl, rfl, hlk⟩)⟩
    exact Rel.make (r := { r with slot := p.s, flag := true, ph := 1 }) hk rfl rfl ⟨hbr.1, hbr.2, hbr.3, hbr.4, hbr.5⟩ t3
  | make hk' h0 hf hbr hd =>
   obtain ⟨hs, hch, hl0', hl1, hser⟩ := hd.ok hI
   have hwr : r.write s = if r.wrong ≠ 0 then (r.publish s r.slot).1.refuse (r.publish s r.slot).2 r.wrong else if (r.make s).2.2 then ({ (r.make s).1 with ph := 3 }, (r.make s).2.1, 1) else ((r.make s).1.publish (r.make s).2.1 (r.make s).1.slot).1.stop ((r.make s).1.publish (r.make s).2.1 (r.make s).1.slot).2 ⟨9, 0, []⟩ 3 := by
    unfold Run.write
    rw [if_neg O0, if_pos h0]
    by_cases hw : r.wrong ≠ 0
    ·rw [if_pos hw, if_pos hw]
    ·rw [if_neg hw, if_neg hw]
     generalize r.make s = z
     obtain ⟨z1, z2, z3⟩ := z
     cases z3 <;> rfl
   rw [hwr]
   by_cases hw : r.wrong ≠ 0
   ·rw [if_pos hw]
    obtain ⟨D, acc', p1, p2, p3, p4⟩ := run_publish hI hd rfl (sl := r.slot) rfl hs rfl rfl hl0' hl1 O0
    rw [p1]
    have hser' : serOf D G = serOf s.d G := by rw [p4, ← hser, upS_self]
    have hab : abs { s with d := D } G = abs s G := by unfold abs; rw [show serOf D G = serOf s.d G from hser']
    refine ⟨_, acc', G, p2.mono O0 O0, fun _ _ => rfl, Uu _, hl0, fun _ h1 h2 => absurd h1 (Vh.2 h2), p3, rfl, rfl, rfl, rfl, .point rfl rfl (holds0 rfl hbr.using_ hbr.held) rfl ?_⟩
    rw [wrong_act hk hr.bad hs hser hw]
    show (abs s G, _) = (abs { s with d := D } G, _)
    rw [hab]; rfl
   ·rw [if_neg hw]
    have hw : r.wrong = 0 := Wu hw
    rcases make_step hI hr hk hd hw rfl hn hb with ⟨nx, m1, m2⟩ | ⟨nx, S', G', acc', m1, m2, m3, m4, m5, m6, m7, m8, m9, m10, m11, m12, m13⟩
    ·rw [m1, if_neg Wi]
     dsimp only
     obtain ⟨D, acc', p1, p2, p3, p4⟩ := run_publish (r := { r with next := nx }) hI hd rfl (sl := r.slot) rfl hs rfl rfl hl0' hl1 O0
     rw [p1]
     have hser' : serOf D G = serOf s.d G := by rw [p4]; show upS _ r.o.series _ = _; rw [← hser, upS_self]
     have hab : abs { s with d := D } G = abs s G := by unfold abs; rw [show serOf D G = serOf s.d G from hser']
     exact ⟨_, acc', G, p2.mono O0 O0, fun _ _ => rfl, Uu _, hl0, fun _ h1 h2 => absurd h1 (Vh.2 h2), p3, rfl, rfl, rfl, rfl, .full rfl h0 rfl (holds0 rfl hbr.using_ hbr.held) rfl hab rfl rfl m2.1 m2.2⟩
    ·rw [m1, if_pos rfl]
     dsimp only
     have hadd : r.adds = 1 := if_pos ⟨hk, h0⟩
     refine ⟨_, acc', G', m2.mono O0 O0, m3, m4, (by rw [hadd]; exact m5), m13, Keeps.same rfl rfl, rfl, rfl, rfl, m6, .some rfl ⟨hr.over, hr.bad, hr.wf, hr.al, hr.s4, hr.s5, m11, m12, hr.xp, hr.f0, hr.f3⟩ 1 ?_ (.inl O0) ?_ (fun _ => .inr ⟨h0, rfl⟩)⟩
     ·exact Rel.put (r := { r with next := nx, ph := 3 }) hk rfl hf ⟨hbr.1, hbr.2, hbr.3, hbr.4, hbr.5⟩ hd m7 m8 m9 m10
     ·exact (show abs s G' = abs s G from abs_more hI m3)
  | put hk' h0 hf hbr hd hs hl0' hl he =>
   obtain ⟨hs0, hch, hl00, hl1, hser⟩ := hd.ok hI
   have hwr : r.write s = (r.publish s r.next).1.stop (r.publish s r.next).2 ⟨0, 0, []⟩ 2 := by
    unfold Run.write
    rw [if_neg O0, if_neg O0]
   rw [hwr]
   obtain ⟨D, acc', p1, p2, p3, p4⟩ := run_publish (hI.set_n hn).1 hd rfl (sl := r.next) rfl hs rfl rfl hl0' O0 O0
   rw [p1]
   refine ⟨_, acc', G, p2, fun _ _ => rfl, Uu _, hl0, fun _ h1 h2 => absurd h1 (Vh.2 h2), p3, rfl, rfl, rfl, rfl, .point rfl rfl (holds0 rfl hbr.using_ hbr.held) rfl ?_⟩
   rw [he _ hser]
   show _ = (abs { s with d := D } G, _)
   unfold abs
   rw [show serOf D G = _ from p4]
   rfl
end
section
variable {s s' s2 : Shd} {a : Ag} {A : List Ag} {acc : List SlotV} {al : Int → Bool} {G G' : Int → Blb} {n n' : Nat} {r : Run} {ps pn : List Key3} {b b' : Int} {who series : Int} {k : Nat} {fl se : Option (Int × SlotV)} {held : List Prt}
theorem leave_budget : ∀ (l : List Prt) (S : Sto), (S.leave l).budget = S.budget
 | [], S => rfl
 | p :: l, S => by
  rw [Sto.leave, leave_budget l]
  split
  ·rfl
  ·unfold Sto.left
   split <;> rfl
theorem pins_len : ∀ {A : List Ag}, (∀ x ∈ A, x.pins.length ≤ 100) → (A.flatMap Ag.pins).length ≤ 100 * A.length
 | [], _ => Ud _
 | x :: A, h => by
  rw [Uh, Ua, Ui]
  have h1 := h x (Ub ..)
  have h2 := pins_len (A := A) fun y hy => h y (Ue _ hy)
  omega
theorem Inv.pins_le (h : Inv s A acc al G n) : (A.flatMap Ag.pins).length ≤ 10000 := by
 have h1 := pins_len fun x hx => (h.ags x hx).pins
 have h2 := h.few
 omega
theorem Inv.cacOk (h : Inv s A acc al G n) : s.c.Ok := by
 have := h.pins_le
 exact h.cac.good.ok O0
theorem CacInv.ok (h : CacInv s.c ps al G b) (hp : ps.length ≤ 100000) : s.c.Ok := h.good.ok O0
def OneSt (G : Int → Blb) (one : Option Tk) (pn : List Key3) : Prop := (one = none ∧ pn = []) ∨ ∃ y kk, one = some y ∧ TkI G y pn kk
theorem PartSt.one {x : Snp} {one : Option Tk} {i : Int} {got : List Smp} (h : PartSt G x series one i got pn k) : OneSt G one pn := by
 obtain ⟨j, _, _, _, ⟨h1, h2, _⟩ | ⟨y, p, kk, h1, _, _, _, _, h2, _⟩⟩ := h
 ·exact .inl ⟨h1, h2⟩
 ·exact .inr ⟨y, kk, h1, h2⟩
theorem run_leave (hI : Inv s (⟨r.who, fl, held, pn, none, se⟩ :: A) acc al G n) (ho : OneSt G r.one pn) (hh : (r.held = true ∧ held = r.x.parts) ∨ (r.held = false ∧ held = []))
  (hf : (r.flag = true ∧ FlagAt s r ∧ fl = some (r.o.series, r.slot)) ∨ (r.flag = false ∧ fl = none)) (hn : n + 1 ≤ 1000000000) :
  ∃ s' acc', r.leave s = ({ r with flag := false, held := false, one := none, i := 0, got := [] }, s') ∧ Inv s' (Ag.idle r.who :: A) acc' al G (n + 1) ∧ Keeps r.who s s' ∧ abs s' G = abs s G ∧ s'.b.last = s.b.last ∧ s'.c.clk.most = s.c.clk.most ∧ s'.b.budget = s.b.budget := by
 have hC : ∃ C, (match r.one with | none => s.c | some x => (x.leave s.c).2) = C ∧ CacInv C (A.flatMap Ag.pins) al G s.b.last ∧ C.clk.most = s.c.clk.most := by
  have hc := hI.cac_in
  rcases ho with ⟨h1, h2⟩ | ⟨y, kk, h1, h2⟩
  ·rw [h1]
   have hc' : CacInv s.c (pn ++ A.flatMap Ag.pins) al G s.b.last := hc
   rw [h2] at hc'
   exact ⟨_, rfl, hc', rfl⟩
  ·rw [h1]
   obtain ⟨q1, q2⟩ := h2.leave (ps := A.flatMap Ag.pins) hc
   exact ⟨_, rfl, q1, q2⟩
 obtain ⟨C, hC0, hC1, hC2⟩ := hC
 have h1 := hI.cache (pn := []) (Ud _) hC1
 have h2 : ∃ S, (if r.held then s.b.leave r.x.parts else s.b) = S ∧ Inv { s with c := C, b := S } (⟨r.who, fl, [], [], none, se⟩ :: A) acc al G n ∧ S.last = s.b.last ∧ S.budget = s.b.budget := by
  rcases hh with ⟨q1, q2⟩ | ⟨q1, q2⟩
  ·rw [q1, if_pos rfl]
   obtain ⟨k1, k2⟩ := h1.unhold (ps := r.x.parts) q2
   exact ⟨_, rfl, k2, k1, leave_budget _ _⟩
  ·rw [q1, if_neg O2]
   refine ⟨_, rfl, ?_, rfl, rfl⟩
   rw [q2] at h1
   exact h1
 obtain ⟨S, hS0, hS1, hS2, hS3⟩ := h2
 have h3 := hS1.see (f := none) fun x hx => by cases hx
 have key : r.leave s = ({ (if r.flag then ({ r with held := false } : Run).publish { s with c := C, b := S } r.slot else ({ r with held := false }, { s with c := C, b := S })).1 with one := none, i := 0, got := [] },
   (if r.flag then ({ r with held := false } : Run).publish { s with c := C, b := S } r.slot else ({ r with held := false }, { s with c := C, b := S })).2) := by
  rw [← hS0, ← hC0]
  unfold Run.leave
  dsimp only
  cases r.held <;> cases r.one <;> rfl
 rw [key]
 rcases hf with ⟨q1, q2, q3⟩ | ⟨q1, q2⟩
 ·rw [if_pos q1]
  obtain ⟨o1, o2, o3, o4, o5⟩ := q2.ok hI
  obtain ⟨D, acc', p1, p2, p3, p4⟩ := run_publish (r := { r with held := false }) (s := { s with c := C, b := S }) (sl := r.slot) h3 q2 rfl q3 (by dsimp only; rw [hS2]; exact o1) rfl rfl o3 o4 hn
  rw [p1]
  refine ⟨{ s with c := C, b := S, d := D }, acc', rfl, p2, p3.trans (Keeps.refl _ _) |>.dir |> fun h => ⟨h, fun id o h1 _ _ => h1⟩, ?_, hS2, hC2, hS3⟩
  have p4' : serOf D G = serOf s.d G := by
   rw [p4]
   show upS (serOf s.d G) r.o.series _ = _
   rw [← o5, upS_self]
  unfold abs
  rw [show serOf ({ s with c := C, b := S, d := D } : Shd).d G = serOf s.d G from p4']
 ·rw [if_neg (by rw [q1]; decide)]
  rw [q2] at h3
  refine ⟨{ s with c := C, b := S }, acc, ?_, h3.mono (Nat.le_succ _) hn, Keeps.same rfl rfl, rfl, hS2, hC2, hS3⟩
  rw [q1]
theorem need_read (hk : r.o.kind = 2) {p : Plc} (hp : Dir.at_ s.d r.o.series = some p) : r.need s = 3 + 6 * p.s.chunks.length := by unfold Run.need; rw [if_pos hk, hp]
theorem begin_step {sl : SlotV} (hI : Inv s (⟨r.who, fl, [], [], none, none⟩ :: A) acc al G n) (hr : RunOk al r) (hk : r.o.kind = 2) (hb : r.Bare) (hn : n + 2 ≤ 1000000000)
  (hsl : (r.flag = true ∧ FlagAt s r ∧ sl = r.slot ∧ fl = some (r.o.series, r.slot)) ∨ (r.flag = false ∧ fl = none ∧ r.fails ≤ 2 ∧ ∃ (i : Nat) (p : Plc), r.o.series = (i : Int) ∧ i < 16 ∧ s.d[i]? = some p ∧ p.taken = false ∧ sl = p.s)) (hkk : 6 * sl.chunks.length + 1 < k) :
  r.BeginOk s sl ∧ ∃ a' acc' G', Out A al s G n r k (r.begin_ s sl) a' acc' G' := by
 have hsok : SlotOk G s.b.last sl ∧ (sl.chunks.length : Int) ≤ s.b.last ∧ serOf s.d G r.o.series = sl.tells G ∧ sl ∈ acc := by
  rcases hsl with ⟨h1, h2, h3, h4⟩ | ⟨h1, h2, h3, i, p, h4, h5, h6, h7, h8⟩
  ·obtain ⟨o1, o2, o3, o4, o5⟩ := h2.ok hI
   obtain ⟨i, e, _⟩ := h2
   have := hI.acc_at (i := i) (x := r.slot) (by rw [← e]; exact h4)
   rw [h3]
   exact ⟨o1, o2, o5, Uj this⟩
  ·obtain ⟨o1, o2, _⟩ := hI.dir.ok i p h6
   rw [h8, h4, serOf_at h6 h5]
   exact ⟨o1, o2, rfl, Uj (hI.dir.idle i p h6 h7).2⟩
 obtain ⟨hs, hch, hser, hacc⟩ := hsok
 have hlast := hI.last
 have h7 := hs.few
 refine ⟨⟨⟨hI.cacOk, by have := hr.xp; omega, by have := hr.s4; omega, by have := hr.s5; omega⟩, O_o, O_o⟩, ?_⟩
 have key : r.begin_ s sl = if sl.there = false then (r.leave s).1.refuse (r.leave s).2 3 else if (s.b.hold [] (sl.snap r.o.F r.o.To).parts).1
   then ({ r with x := sl.snap r.o.F r.o.To, held := true, ph := if (sl.snap r.o.F r.o.To).parts.length = 0 then 3 else 2 }, { s with b := (s.b.hold [] (sl.snap r.o.F r.o.To).parts).2 }, 1)
   else (({ r with x := sl.snap r.o.F r.o.To } : Run).leave { s with b := (s.b.hold [] (sl.snap r.o.F r.o.To).parts).2 }).1.stop (({ r with x := sl.snap r.o.F r.o.To } : Run).leave { s with b := (s.b.hold [] (sl.snap r.o.F r.o.To).parts).2 }).2 ⟨7, 0, []⟩ 3 := by
  unfold Run.begin_
  by_cases ht : sl.there = false
  ·rw [if_pos ht, if_pos ht]
  ·rw [if_neg ht, if_neg ht]
   dsimp only
   generalize s.b.hold [] (sl.snap r.o.F r.o.To).parts = z
   obtain ⟨z1, z2⟩ := z
   cases z1 <;> rfl
 rw [key]
 have hadd : r.adds = 0 := if_neg O0
 have h1l : s.b.last ≤ s.b.last + r.adds := by omega
 by_cases ht : sl.there = false
 ·rw [if_pos ht]
  obtain ⟨s', acc', l1, l2, l3, l4, l5, l6, l7⟩ := run_leave (n := n) hI (.inl ⟨hb.one, rfl⟩) (.inr ⟨hb.held, rfl⟩) (by
   rcases hsl with ⟨h1, h2, _, h4⟩ | ⟨h1, h2, _⟩
   ·exact .inl ⟨h1, h2, h4⟩
   ·exact .inr ⟨h1, h2⟩) O0
  rw [l1]
  refine ⟨_, acc', G, l2.mono O0 O0, fun _ _ => rfl, by show _ ≤ s'.b.last; omega, by show s'.b.last ≤ _; omega, fun _ h1 h2 => absurd h1 (Vh.2 (Vw h2 O24)), l3, rfl, rfl, l6, l7, .point rfl rfl (holds0 rfl hb.using_ rfl) rfl ?_⟩
  have htl : sl.tells G = none := by unfold SlotV.tells; rw [ht]; rfl
  rw [act_ser hr.bad O0 O0, show (abs s G).ser r.o.series = none from hser.trans htl]
  dsimp only
  rw [if_neg O0]
  show (abs s G, _) = (abs s' G, _)
  rw [l4]; rfl
 ·rw [if_neg ht]
  have ht : sl.there = true := by cases h : sl.there with | true => rfl | false => exact absurd h ht
  obtain ⟨X, hX⟩ : ∃ X, sl.snap r.o.F r.o.To = X := ⟨_, rfl⟩
  have hXp : ∀ p ∈ X.parts, PrtOk G s.b.last p := by rw [← hX]; exact hs.snap_prts _ _
  have hXm : ∀ p ∈ X.parts, p ∈ sl.chunks := by rw [← hX]; exact fun p hp => (Xr.1 hp).1
  have hXl : X.parts.length ≤ sl.chunks.length := by rw [← hX]; exact partsIn_le _ _ _
  rw [hX]
  obtain ⟨q1, q2, q3⟩ := hI.hold (ps := X.parts) rfl hXp (fun p hp => cnt_acc hacc (hXm p hp) _) O0
  rw [q1, if_pos rfl]
  have hbud : (s.b.hold [] X.parts).2.budget = s.b.budget := by
   have hc : ∀ j, cntOf acc (⟨r.who, fl, X.parts, [], none, none⟩ :: A) s.t j = cntOf acc (⟨r.who, fl, [], [], none, none⟩ :: A) s.t j + rc j X.parts := by
    intro j
    unfold cntOf
    rw [sumF, sumF, rc_nil]
    (try dsimp only)
    omega
   have := hI.sto.hold (cnt' := cntOf acc (⟨r.who, fl, X.parts, [], none, none⟩ :: A) s.t) [] (ps := X.parts) (fun p hp => cnt_acc hacc (hXm p hp) _) hc fun j => by
    have e1 := hI.cnt_le j
    have e2 := rc_le j X.parts
    rw [hc]
    unfold M40
    omega
   exact this.2.2.2.1
  obtain ⟨se, hse0, hse1⟩ : ∃ se : Option (Int × SlotV), ((r.flag = true ∧ FlagAt s r ∧ sl = r.slot ∧ fl = some (r.o.series, r.slot) ∧ se = none) ∨ (r.flag = false ∧ fl = none ∧ se = some (r.o.series, sl) ∧ r.fails ≤ 2)) ∧ ∀ f, se = some f → SeenOk s.d G s.b.last f := by
   rcases hsl with ⟨h1, h2, h3, h4⟩ | ⟨h1, h2, h3, i, p, h4, h5, h6, h7, h8⟩
   ·exact ⟨none, .inl ⟨h1, h2, h3, h4, rfl⟩, fun f hf => by cases hf⟩
   ·refine ⟨some (r.o.series, sl), .inr ⟨h1, h2, rfl, h3⟩, fun f hf => ?_⟩
    obtain rfl := Un hf
    refine ⟨O_d, O_d, hs, by dsimp only; rw [h8]; exact (hI.dir.idle i p h6 h7).1, p, ?_, ?_, ?_⟩
    ·dsimp only
     rw [h4, show ((i : Int)).toNat = i from by omega]; exact h6
    ·dsimp only; rw [h8]; exact Uu _
    ·dsimp only; rw [h8]; exact fun _ => rfl
  have q4 := q3.see (f := se) fun f hf => by
   have := hse1 f hf
   (try dsimp only)
   rw [q2]; exact this
  refine ⟨_, acc, G, q4.mono O0 O0, fun _ _ => rfl, by show _ ≤ (s.b.hold [] X.parts).2.last; omega, by show (s.b.hold [] X.parts).2.last ≤ _; omega, fun _ h1 h2 => absurd h1 (Vh.2 (Vw h2 (by show (s.b.hold [] X.parts).2.last ≤ _; omega))), Keeps.same rfl rfl, rfl, rfl, rfl, hbud, .some rfl ⟨hr.over, hr.bad, hr.wf, hr.al, hr.s4, hr.s5, hr.n4, hr.n5, O_t, hr.f0, hr.f3⟩ (6 * X.parts.length + 1) ?_ (.inl O0) rfl (fun h => absurd h O11)⟩
  have hps := PartSt.new G X r.o.series
  refine Rel.read (r := { r with x := X, held := true, ph := if X.parts.length = 0 then 3 else 2 }) hk rfl hb.using_ (sl := sl) hse0 ht (by (try dsimp only); rw [q2]; exact hs) hX.symm (k := 6 * X.parts.length) (pn := []) ?_ ?_
  ·show PartSt G X r.o.series r.one r.i r.got [] _
   rw [hb.one, hb.i, hb.got]; exact hps
  ·show (((if X.parts.length = 0 then (3 : Int) else 2) = 2 ∧ r.i ≠ _) ∨ ((if X.parts.length = 0 then (3 : Int) else 2) = 3 ∧ r.i = (X.parts.length : Int)))
   rw [hb.i]
   by_cases h0 : X.parts.length = 0
   ·rw [if_pos h0]
    exact .inr ⟨rfl, O_o⟩
   ·rw [if_neg h0]
    exact .inl ⟨rfl, by show (0 : Int) ≠ (X.parts.length : Int); omega⟩
end
section
variable {s s' s2 : Shd} {a : Ag} {A : List Ag} {acc : List SlotV} {al : Int → Bool} {G G' : Int → Blb} {n n' : Nat} {r : Run} {ps pn : List Key3} {b b' : Int} {who series : Int} {k : Nat} {fl se : Option (Int × SlotV)} {held : List Prt}
theorem Inv.sto_len (h : Inv s A acc al G n) : ∀ id e, mget id s.b.l = some e → e.bs.length ≤ 140737488355328 := fun id e he => by have := (h.sto.has id e he).2.few; omega
theorem part_all (hI : Inv s (a :: A) acc al G n) (hap : a.pins = pn) (hP : PartSt G r.x series r.one r.i r.got pn k) (hx : SnpOk G s.b.last r.x) (hi : r.i ≠ (r.x.parts.length : Int)) (hal : al series = false)
  (hS : ∀ p ∈ r.x.parts, ∃ e, mget p.blob s.b.l = some e ∧ (G p.blob).Ok e.bs) (hTg : ∀ id, 1 ≤ id → id ≤ s.b.last → CodOk (G id).tag) : r.PartOk s series := by
 have hc : CacInv s.c (pn ++ A.flatMap Ag.pins) al G s.b.last ∧ (A.flatMap Ag.pins).length ≤ 10000 ∧ s.b.last ≤ 100000 ∧ ∀ id e, mget id s.b.l = some e → e.bs.length ≤ 140737488355328 := by
  have := hI.pins_le
  rw [Uh, Ua] at this
  exact ⟨by rw [← hap]; exact hI.cac_in, O_o, hI.last, hI.sto_len⟩
 obtain ⟨hC, hpl, hlast, hsl⟩ := hc
 obtain ⟨⟨z1, z2, z3⟩, _⟩ := part_step (s := s) hP hx hlast hi hal hC hS
 have hp1 := hP.pins1
 have hg := hP.got_len hx.prts
 have hfew := hx.few
 obtain ⟨j, p, kk, h1, h2, _, h4, h5, h6, _, _, h9, _⟩ := hP.cur hx.prts hi
 exact ⟨⟨_, hC.good, Kk _, by rw [Ua]; omega⟩, hsl, fun _ => by omega, O_o, O_o, O_o, fun d e1 e2 e3 => (h9.dec d e1 e2 e3).tagOk (hTg _ (by rw [h6]; exact h5.id1) (by rw [h6]; exact h5.idl))⟩
theorem snap_ok {sl : SlotV} {f t : Int} (hs : SlotOk G b sl) (hc : (sl.chunks.length : Int) ≤ b) : SnpOk G b (sl.snap f t) :=
 ⟨hs.snap_prts _ _, Vw (Int.ofNat_le.2 (partsIn_le f t sl.chunks)) hc, Ux (Wx _ _) hs.few⟩
theorem read_step (hI : Inv s (a :: A) acc al G n) (hr : RunOk al r) (hk : r.o.kind = 2) (hR : Rel G s r a k) (hn : n + 2 ≤ 1000000000) (hTg : ∀ id, 1 ≤ id → id ≤ s.b.last → CodOk (G id).tag) : r.ReadOk s ∧ ∃ a' acc' G', Out A al s G n r k (r.read s) a' acc' G' := by
 obtain ⟨s0, s1⟩ := series_in hr.bad O0 O0
 have hal := hr.al O0
 have hlast := hI.last
 have hadd : r.adds = 0 := if_neg O0
 have h1l : s.b.last ≤ s.b.last + r.adds := by omega
 cases hR with
 | make hk' => exact absurd hk' O11
 | put hk' => exact absurd hk' O11
 | next hk' => omega
 | idle h0 hf hb =>
  have hrd : r.read s = r.look s := by unfold Run.read; rw [if_pos h0]
  rw [hrd]
  obtain ⟨i, p, e, hi, hp, hat, hc⟩ := hI.look s0 s1
  have hneed := need_read hk hat
  have hlv : r.LeaveOk s := ⟨hI.cacOk, by have := hr.xp; omega, by have := hr.s4; omega, by have := hr.s5; omega⟩
  refine ⟨⟨hI.fits, fun _ sl hsl => ?_, fun h => by omega, fun h => by omega, fun h => absurd h0 h⟩, ?_⟩
  ·rcases hc with ⟨_, hc⟩ | ⟨ht, hc, _⟩
   ·rw [hc] at hsl; cases hsl
   ·rw [hc] at hsl
    obtain rfl := Un hsl
    obtain ⟨o1, o2, _⟩ := hI.dir.ok i p hp
    have := o1.few
    exact ⟨hlv, O_o, O_o⟩
  ·by_cases hfl : r.fails ≥ 3
   ·have hlk : r.look s = if (r.take s).2.2 then ((r.take s).1, (r.take s).2.1, 1) else ((r.take s).1, (r.take s).2.1, 0) := by
     unfold Run.look
     rw [if_pos hfl]
     generalize r.take s = z
     obtain ⟨z1, z2, z3⟩ := z
     cases z3 <;> rfl
    rw [hlk]
    rcases run_take (r := r) hI rfl rfl s0 s1 O0 with ⟨t1, t2, t3⟩ | ⟨i, q, e, hi, hq, ht, hv, hlk, t1, t2, t3, t4, t5⟩
    ·rw [t1]
     exact ⟨_, _, G, (hI.set_n hn).2, fun _ _ => rfl, Uu _, h1l, fun _ h1 h2 => absurd h1 (Vh.2 h2), Keeps.refl _ _, rfl, rfl, rfl, rfl, .none rfl h0 (.inl ⟨O_o, O_o, t3⟩)⟩
    ·rw [t1]
     obtain ⟨o1, o2, _⟩ := hI.dir.ok i q hq
     obtain ⟨l1, l2⟩ := SlotV.len o1 o2 O0
     have hat' : Dir.at_ s.d r.o.series = some q := by rw [e, at_nat hi]; exact hq
     rw [hat'] at hat
     obtain rfl := Un hat
     refine ⟨_, _, G, t2.mono O0 O0, fun _ _ => rfl, Uu _, h1l, fun _ h1 h2 => absurd h1 (Vh.2 h2), t4, rfl, rfl, rfl, rfl, .some rfl ⟨hr.over, hr.bad, hr.wf, hr.al, l1, l2, hr.n4, hr.n5, hr.xp, hr.f0, hr.f3⟩ _ (Rel.hard (r := { r with slot := q.s, flag := true, ph := 1 }) hk rfl rfl ⟨hb.1, hb.2, hb.3, hb.4, hb.5⟩ t3) (.inl ?_) t5 (fun h => absurd h O11)⟩
     rw [hneed]; show 2 + 6 * q.s.chunks.length < _; omega
   ·have hlk : r.look s = match Dir.look s.d r.o.series with | none => (r, s, 0) | some sl => r.begin_ s sl := by
     unfold Run.look
     rw [if_neg hfl]
     rfl
    rw [hlk]
    rcases hc with ⟨ht, hc⟩ | ⟨ht, hc, hv, hacc⟩
    ·rw [hc]
     obtain ⟨x, hx, f, hf, he⟩ := hI.blk rfl hp ht
     exact ⟨_, _, G, (hI.set_n hn).2, fun _ _ => rfl, Uu _, h1l, fun _ h1 h2 => absurd h1 (Vh.2 h2), Keeps.refl _ _, rfl, rfl, rfl, rfl, .none rfl h0 (.inl ⟨O_o, O_o, x, hx, f, hf, he.trans e.symm⟩)⟩
    ·rw [hc]
     exact (begin_step hI hr hk hb hn (.inr ⟨hf, rfl, O_o, i, p, e, hi, hp, ht, rfl⟩) (by rw [hneed]; omega)).2
 | hard hk' h0 hf hb hd =>
  have hrd : r.read s = r.begin_ s r.slot := by unfold Run.read; rw [if_neg O0, if_pos h0]
  rw [hrd]
  obtain ⟨q1, q2⟩ := begin_step (k := 2 + 6 * r.slot.chunks.length) hI hr hk hb hn (.inl ⟨hf, hd, rfl, rfl⟩) O0
  exact ⟨⟨hI.fits, fun h => by omega, fun _ => q1, fun h => by omega, fun _ h => absurd h0 h⟩, q2⟩
 | @read _ hh hu sl fl se pn k hsl ht hs hx hp hph =>
  have hxok : SnpOk G s.b.last r.x := ⟨by rw [hx]; exact hs.snap_prts _ _, (hI.ags _ (Ub ..)).few, by rw [hx]; exact Ux (Wx _ _) hs.few⟩
  have hS : ∀ p ∈ r.x.parts, ∃ e, mget p.blob s.b.l = some e ∧ (G p.blob).Ok e.bs := fun p hp => by
   obtain ⟨e, he, ho, _⟩ := hI.sto.alive (cnt_held (a := ⟨r.who, fl, r.x.parts, pn, none, se⟩) (show p ∈ _ from hp) s.t)
   exact ⟨e, he, ho⟩
  have hlv : ∀ C : Cac, C.Ok → ∀ (one : Option Tk) (i : Int) (got : List Smp), ({ r with one := one, i := i, got := got } : Run).LeaveOk { s with c := C } := fun C hC one i got => ⟨hC, by have := hr.xp; (try dsimp only); omega, by have := hr.s4; (try dsimp only); omega, by have := hr.s5; (try dsimp only); omega⟩
  have hgl := hp.got_len hxok.prts
  have hxp := hxok.few
  have hxt := hxok.tail
  have hflag : (r.flag = true ∧ FlagAt s r ∧ fl = some (r.o.series, r.slot)) ∨ (r.flag = false ∧ fl = none) := by
   rcases hsl with ⟨h1, h2, _, h4, _⟩ | ⟨h1, h2, _⟩
   ·exact .inl ⟨h1, h2, h4⟩
   ·exact .inr ⟨h1, h2⟩
  rcases hph with ⟨h2, hi⟩ | ⟨h3, hi⟩
  ·obtain ⟨z, hz⟩ : ∃ z, r.part s r.o.series = z := ⟨_, rfl⟩
   have hrd : r.read s = if z.2.2 ≠ 0 then (z.1.leave z.2.1).1.stop (z.1.leave z.2.1).2 ⟨z.2.2, 0, []⟩ 3 else ({ z.1 with ph := if z.1.i = (z.1.x.parts.length : Int) then 3 else 2 }, z.2.1, 1) := by
    unfold Run.read
    rw [if_neg O0, if_neg O0, if_pos h2, hz]
   have hpo := part_all hI rfl hp hxok hi hal hS hTg
   obtain ⟨_, hst⟩ := part_step (s := s) hp hxok hlast hi hal hI.cac_in hS
   have hplen := hI.pins_le
   rw [Uh, Ua] at hplen
   rw [hrd]
   rcases hst with ⟨one, i, got, pn', k', C, e1, e2, e3, e4, e5⟩ | ⟨y, kk, e1, e2, e3, e4, e5⟩
   ·have hp1 := e2.pins1
    refine ⟨⟨hI.fits, fun h => by omega, fun h => by omega, fun _ => ⟨hpo, by rw [e1]; exact hlv C (e4.good.ok O25) _ _ _⟩, fun _ _ h => absurd h2 h⟩, ?_⟩
    rw [e1] at hz
    rw [← hz, if_neg (fun h => h rfl)]
    dsimp only
    have hI' := hI.cache (pn := pn') O0 e4
    refine ⟨_, acc, G, hI'.mono O0 O0, fun _ _ => rfl, Uu _, h1l, fun _ h1 h2 => absurd h1 (Vh.2 h2), Keeps.same rfl rfl, rfl, rfl, e5, rfl, .some rfl ⟨hr.over, hr.bad, hr.wf, hr.al, hr.s4, hr.s5, hr.n4, hr.n5, hr.xp, hr.f0, hr.f3⟩ (k' + 1) ?_ (.inl O0) rfl (fun h => absurd h O11)⟩
    refine Rel.read (r := { r with one := one, i := i, got := got, ph := if i = (r.x.parts.length : Int) then 3 else 2 }) hk hh hu (sl := sl) hsl ht hs hx e2 ?_
    show ((if i = (r.x.parts.length : Int) then (3 : Int) else 2) = 2 ∧ i ≠ _) ∨ ((if i = (r.x.parts.length : Int) then (3 : Int) else 2) = 3 ∧ i = _)
    by_cases h0 : i = (r.x.parts.length : Int)
    ·rw [if_pos h0]; exact .inr ⟨rfl, h0⟩
    ·rw [if_neg h0]; exact .inl ⟨rfl, h0⟩
   ·refine ⟨⟨hI.fits, fun h => by omega, fun h => by omega, fun _ => ⟨hpo, by rw [e1]; exact hlv s.c hI.cacOk (some y) r.i r.got⟩, fun _ _ h => absurd h2 h⟩, ?_⟩
    rw [e1] at hz
    rw [← hz, if_pos (show (6 : Int) ≠ 0 by decide)]
    dsimp only
    obtain ⟨s', acc', l1, l2, l3, l4, l5, l6, l7⟩ := run_leave (r := { r with one := some y }) (n := n) hI (.inr ⟨y, kk, rfl, by rw [e2]; exact e3⟩) (.inl ⟨hh, rfl⟩) hflag O0
    rw [l1]
    exact ⟨_, acc', G, l2.mono O0 O0, fun _ _ => rfl, by show _ ≤ s'.b.last; omega, by show s'.b.last ≤ _; omega, fun _ h1 h2 => absurd h1 (Vh.2 (Vw h2 O24)), l3, rfl, rfl, l6, l7, .busy rfl rfl (holds0 rfl hu rfl) rfl l4 rfl (allPinned_of (al := al) (G := G) (b := s.b.last) (by
     have hcc := hI.cac_in
     (try dsimp only at hcc)
     rw [e2] at hcc
     exact hcc) e4 e5) (.inl hk)⟩
  ·have hi' := hi
   rw [hi] at hp
   obtain ⟨f1, f2, f3⟩ := hp.full
   have hk0 : k = 0 := by
    obtain ⟨j, q1, q2, q3, ⟨_, _, q4⟩ | ⟨y, p, kk, _, q4, _⟩⟩ := hp
    ·omega
    ·rw [Vi O0] at q4; cases q4
   have hans : r.AnswerOk s := ⟨hlv s.c hI.cacOk r.one r.i r.got, O_o, O_o⟩
   refine ⟨⟨hI.fits, fun h => by omega, fun h => by omega, fun h => by omega, fun _ _ _ => hans⟩, ?_⟩
   obtain ⟨s', acc', l1, l2, l3, l4, l5, l6, l7⟩ := run_leave (n := n) hI (.inl ⟨f2, f3⟩) (.inl ⟨hh, rfl⟩) hflag O0
   have hgood : serOf s.d G r.o.series = sl.tells G → r.read s = r.answer s → ∃ a' acc' G', Out A al s G n r (k + 1) (r.read s) a' acc' G' := by
    intro hser hrd
    rw [hrd]
    unfold Run.answer
    dsimp only
    rw [l1]
    refine ⟨_, acc', G, l2.mono O0 O0, fun _ _ => rfl, by show _ ≤ s'.b.last; omega, by show s'.b.last ≤ _; omega, fun _ h1 h2 => absurd h1 (Vh.2 (Vw h2 O24)), l3, rfl, rfl, l6, l7, .point rfl rfl (holds0 rfl hu rfl) rfl ?_⟩
    have htl : sl.tells G = some (sl.closed, sl.all G) := by unfold SlotV.tells; rw [ht]; rfl
    rw [act_ser hr.bad O0 O0, show (abs s G).ser r.o.series = some (sl.closed, sl.all G) from hser.trans htl]
    dsimp only
    rw [if_neg O0, if_pos hk, f1, hx, hs.snap]
    show (abs s G, _) = (abs s' G, _)
    rw [l4]; rfl
   have hrd : r.read s = if r.flag then r.answer s else match Dir.look s.d r.o.series with
     | some sl => if sl.life = r.x.life ∧ sl.ver = r.x.ver then r.answer s else ({ (r.leave s).1 with fails := wI ((r.leave s).1.fails + 1), ph := 0 }, (r.leave s).2, 1)
     | none => ({ (r.leave s).1 with fails := wI ((r.leave s).1.fails + 1), ph := 0 }, (r.leave s).2, 1) := by
    unfold Run.read
    rw [if_neg O0, if_neg O0, if_neg O0]
    rfl
   rcases hsl with ⟨h1, h2, e3, e4, e5⟩ | ⟨h1, h2, e3, h4⟩
   ·exact hgood (by rw [e3]; exact serOf_here hI h2) (by rw [hrd, if_pos h1])
   ·rw [if_neg (by rw [h1]; decide)] at hrd
    have hagain : r.read s = ({ (r.leave s).1 with fails := wI ((r.leave s).1.fails + 1), ph := 0 }, (r.leave s).2, 1) → ∃ a' acc' G', Out A al s G n r (k + 1) (r.read s) a' acc' G' := by
     intro hrd
     rw [hrd, l1]
     have hf0 := hr.f0
     have hwf : wI (r.fails + 1) = r.fails + 1 := jc O0 O0
     dsimp only
     rw [hwf]
     refine ⟨_, acc', G, l2.mono O0 O0, fun _ _ => rfl, by show _ ≤ s'.b.last; omega, by show s'.b.last ≤ _; omega, fun _ h1 h2 => absurd h1 (Vh.2 (Vw h2 O24)), l3, rfl, rfl, l6, l7, .some rfl ⟨hr.over, hr.bad, hr.wf, hr.al, hr.s4, hr.s5, hr.n4, hr.n5, hr.xp, O_t, O_t⟩ _ (Rel.idle rfl rfl ⟨hu, rfl, rfl, rfl, rfl⟩) (.inr ⟨hk, rfl, rfl, O_o, h1⟩) l4 (fun h => absurd h O11)⟩
    obtain ⟨i, p, e, hi16, hpd, hat, ⟨ht2, hc⟩ | ⟨ht2, hc, hv, hacc⟩⟩ := hI.look s0 s1
    ·rw [hc] at hrd
     exact hagain hrd
    ·rw [hc] at hrd
     dsimp only at hrd
     by_cases hsame : p.s.life = r.x.life ∧ p.s.ver = r.x.ver
     ·rw [if_pos hsame] at hrd
      obtain ⟨_, _, _, _, p', hp', _, hps⟩ := (hI.ags _ (Ub ..)).seen _ e3
      dsimp only at hp' hps
      rw [e, show ((i : Int)).toNat = i from by omega, hpd] at hp'
      obtain rfl := Un hp'
      have hpsl := hps (by rw [hsame.2, hx]; rfl)
      exact hgood (by rw [e, serOf_at hpd hi16, hpsl]) hrd
     ·rw [if_neg hsame] at hrd
      exact hagain hrd
end
section
theorem mset_mset {κ β : Type} [DecidableEq κ] (k : κ) (u v : β) : ∀ m : List (κ × β), mset k v (mset k u m) = mset k v m
 | [] => by simp [mset]
 | (j, x) :: r => by
  by_cases e : j = k
  ·simp [mset, e]
  ·simp [mset, e, mset_mset k u v r]
variable {s s' s2 : Shd} {a : Ag} {A : List Ag} {acc : List SlotV} {al : Int → Bool} {G G' : Int → Blb} {n n' : Nat} {r : Run} {ps pn : List Key3} {b b' : Int} {who series : Int} {k : Nat} {fl se : Option (Int × SlotV)} {held : List Prt}
theorem Inv.tfits (h : Inv s A acc al G n) : s.t.Fits := by
 intro id o ho
 obtain ⟨h1, h2, h3, _⟩ := h.tab.on id o ho
 have := h.last
 have := h1.few
 have := h1.tail
 have := Snp.len h1
 omega
theorem Inv.idle_nouse (h : Inv s (a :: A) acc al G n) (ha : a.use = none) {id : Int} {o : On} (hg : mget id s.t.l = some o) (hu : o.used = true) : ∃ x ∈ A, x.use = some id := by
 have hm := (h.tab.on id o hg).2.2.2.2 hu
 rw [Uh, uses_none ha, Uq, Xv] at hm
 obtain ⟨x, hx, hxu⟩ := hm
 unfold Ag.uses at hxu
 split at hxu
 ·cases hxu
 ·rename_i i hi
  rw [Vk] at hxu
  have := congrArg Prod.snd hxu
  dsimp only at this
  exact ⟨x, hx, by rw [hi, this]⟩
theorem run_use (hI : Inv s (Ag.idle r.who :: A) acc al G n) :
  (mget r.o.iter s.t.l = none ∧ r.use s = ((r.refuse s 3).1, (r.refuse s 3).2.1, (r.refuse s 3).2.2, false)) ∨
  ((∃ x ∈ A, x.use = some r.o.iter) ∧ r.use s = (r, s, 0, false)) ∨
  ∃ o, mget r.o.iter s.t.l = some o ∧ o.used = false ∧ r.use s = ({ r with using_ := true }, { s with t := ⟨s.t.last, mset r.o.iter { o with used := true, who := r.who } s.t.l⟩ }, 1, true) ∧
   Inv { s with t := ⟨s.t.last, mset r.o.iter { o with used := true, who := r.who } s.t.l⟩ } (⟨r.who, none, [], [], some r.o.iter, none⟩ :: A) acc al G n ∧
   mget r.o.iter (mset r.o.iter { o with used := true, who := r.who } s.t.l) = some { o with used := true, who := r.who } ∧
   Keeps r.who s { s with t := ⟨s.t.last, mset r.o.iter { o with used := true, who := r.who } s.t.l⟩ } ∧ abs { s with t := ⟨s.t.last, mset r.o.iter { o with used := true, who := r.who } s.t.l⟩ } G = abs s G := by
 unfold Run.use
 cases hg : mget r.o.iter s.t.l with
 | none => exact .inl ⟨rfl, rfl⟩
 | some o =>
  dsimp only
  by_cases hu : o.used = true ∧ o.who ≠ r.who
  ·rw [if_pos hu]
   exact .inr (.inl ⟨hI.idle_nouse rfl hg hu.1, rfl⟩)
  ·rw [if_neg hu]
   obtain ⟨h1, h2⟩ := hI.uses rfl hg hu
   refine .inr (.inr ⟨o, rfl, h1, rfl, h2, by rw [jj, if_pos rfl], Keeps.on hg (.inl h1) rfl rfl, ?_⟩)
   unfold abs
   rw [show itsOf (mset r.o.iter { o with used := true, who := r.who } s.t.l) G = itsOf s.t.l G from itsOf_same hg rfl rfl]
theorem act_next {m : Mdl} {o : Opr} (hb : Run.bad o = false) (h6 : o.kind = 6) : m.act o = match mget o.iter m.its with
  | none => m.err 3
  | some L => ({ m with its := mset o.iter (L.drop (min (max o.N 0) 1000).toNat) m.its }, ⟨0, 0, L.take (min (max o.N 0) 1000).toNat⟩) := by
 unfold Mdl.act
 rw [hb, if_neg O2, if_pos h6]; all_goals rfl
theorem act_close {m : Mdl} {o : Opr} (hb : Run.bad o = false) (h7 : o.kind = 7) : m.act o = match mget o.iter m.its with
  | none => m.err 3
  | some _ => ({ m with its := mdel o.iter m.its }, ⟨0, 0, []⟩) := by
 unfold Mdl.act
 rw [hb, if_neg O2, if_neg O0, if_pos h7]; all_goals rfl
theorem act_noiter {m : Mdl} {o : Opr} (hb : Run.bad o = false) (hk : o.kind = 6 ∨ o.kind = 7) (hn : mget o.iter m.its = none) : m.act o = m.err 3 := by
 rcases hk with hk | hk
 ·rw [act_next hb hk, hn]
 ·rw [act_close hb hk, hn]
theorem hand_step (hI : Inv s (⟨r.who, none, [], [], some r.o.iter, none⟩ :: A) acc al G n) {o : On} (hg : mget r.o.iter s.t.l = some o) (hou : o.used = true) (how : o.who = r.who) (hb : Run.bad r.o = false) (hk : r.o.kind = 6) {L : List Smp} (hL : L = ((o.x.all G).drop o.told.toNat).take r.cap.toNat) :
  ∃ s', r.hand s L = ({ r with using_ := false, over := true, res := ⟨0, 0, L⟩ }, s', 2) ∧ Inv s' (Ag.idle r.who :: A) acc al G n ∧ Keeps r.who s s' ∧ s'.b = s.b ∧ s'.c = s.c ∧ (abs s G).act r.o = (abs s' G, ⟨0, 0, L⟩) := by
 obtain ⟨o', h1, _, _, h4, h5, h6, h7⟩ := hI.mine rfl
 rw [hg] at h1
 obtain rfl := Un h1
 have hsl := Snp.len h4
 have hfew := h4.few
 have hlast := hI.last
 have hcap : 0 ≤ r.cap ∧ r.cap ≤ 1000 := by unfold Run.cap; omega
 have hLl : L.length = min r.cap.toNat ((o.x.all G).length - o.told.toNat) := by rw [hL, Us, Ur]
 have hwt : wI (o.told + max (L.length : Int) 0) = o.told + (L.length : Int) := by
  rw [show max (L.length : Int) 0 = (L.length : Int) by omega]
  exact jc O0 O0
 have hmv : (s.t.move r.o.iter r.who (L.length : Int)).free r.o.iter r.who = ⟨s.t.last, mset r.o.iter { o with used := false, told := o.told + (L.length : Int) } s.t.l⟩ := by
  have hm : s.t.mine r.o.iter r.who = some o := by
   unfold Tb.mine
   rw [hg]
   dsimp only
   rw [if_pos ⟨hou, how⟩]
  have e1 : s.t.move r.o.iter r.who (L.length : Int) = ⟨s.t.last, mset r.o.iter { o with told := o.told + (L.length : Int) } s.t.l⟩ := by
   unfold Tb.move
   rw [hm]
   dsimp only
   rw [hwt]
  rw [e1]
  have hm2 : Tb.mine ⟨s.t.last, mset r.o.iter { o with told := o.told + (L.length : Int) } s.t.l⟩ r.o.iter r.who = some { o with told := o.told + (L.length : Int) } := by
   unfold Tb.mine
   dsimp only
   rw [jj, if_pos rfl]
   dsimp only
   rw [if_pos ⟨hou, how⟩]
  unfold Tb.free
  rw [hm2]
  dsimp only
  rw [mset_mset]
 have hI' := hI.frees (told := o.told + (L.length : Int)) rfl hg O0 O0
 refine ⟨{ s with t := ⟨s.t.last, mset r.o.iter { o with used := false, told := o.told + (L.length : Int) } s.t.l⟩ }, ?_, hI', Keeps.on hg (.inr how) rfl rfl, rfl, rfl, ?_⟩
 ·rw [Run.hand_eq, hmv]
 ·have hget : mget r.o.iter (abs s G).its = some ((o.x.all G).drop o.told.toNat) := by
   show mget r.o.iter (itsOf s.t.l G) = _
   rw [itsOf_get, hg]; rfl
  rw [act_next hb hk, hget]
  dsimp only
  have hdrop : ((o.x.all G).drop o.told.toNat).drop r.cap.toNat = (o.x.all G).drop (o.told + (L.length : Int)).toNat := by
   rw [List.drop_drop]
   by_cases hc : r.cap.toNat ≤ (o.x.all G).length - o.told.toNat
   ·congr 1; omega
   ·rw [List.drop_of_length_le O0, List.drop_of_length_le O0]
  have hits : mset r.o.iter (((o.x.all G).drop o.told.toNat).drop r.cap.toNat) (itsOf s.t.l G) = itsOf (mset r.o.iter { o with used := false, told := o.told + (L.length : Int) } s.t.l) G := by
   rw [itsOf_set hg, hdrop]
  rw [show (min (max r.o.N 0) 1000) = r.cap from rfl, show (abs s G).its = itsOf s.t.l G from rfl, hits, ← hL]
  rfl
theorem need_next (hk : r.o.kind = 6) {o : On} (ho : mget r.o.iter s.t.l = some o) : r.need s = 2 + 6 * o.x.parts.length := by unfold Run.need; rw [if_neg O0, if_pos hk, ho]
theorem cnt_tab {id : Int} {o : On} {T : Tb} (hg : mget id T.l = some o) {p : Prt} (hp : p ∈ o.x.parts) : 0 < cntOf acc A T p.blob := by
 have h1 := mget_le (fun o : On => rc p.blob o.x.parts) hg
 have h2 := rc_mem hp
 unfold cntOf
 (try dsimp only at h1)
 omega
theorem open_step (hI : Inv s (a :: A) acc al G n) (hr : RunOk al r) (hk : r.o.kind = 5) (hR : Rel G s r a k) (hn : n + 2 ≤ 1000000000) : r.OpenOk s ∧ ∃ a' acc' G', Out A al s G n r k (r.open_ s) a' acc' G' := by
 obtain ⟨s0, s1⟩ := series_in hr.bad O0 O0
 have hal := hr.al O0
 have hlast := hI.last
 have hadd : r.adds = 0 := if_neg O0
 have h1l : s.b.last ≤ s.b.last + r.adds := by omega
 have ht := hI.tab
 have ht0 := ht.last0
 have ht1 := ht.last1
 have hnk : mget (s.t.last + 1) s.t.l = none := mget_none.2 fun hm => by have := (ht.ids _ hm).2; omega
 refine ⟨⟨hI.fits, hnk, ht0, O_o⟩, ?_⟩
 cases hR with
 | make hk' => exact absurd hk' O11
 | put hk' => exact absurd hk' O11
 | hard hk' => omega
 | read hk' => omega
 | next hk' => omega
 | idle h0 hf hb =>
  obtain ⟨i, p, e, hi, hp, hat, hc⟩ := hI.look s0 s1
  have key : r.open_ s = match Dir.look s.d r.o.series with
   | none => (r, s, 0)
   | some sl => if sl.there = false then r.refuse s 3 else if s.t.l.length ≥ 8 then r.refuse s 5 else if (s.b.hold [] (sl.snap r.o.F r.o.To).parts).1
    then r.stop { s with b := (s.b.hold [] (sl.snap r.o.F r.o.To).parts).2, t := ⟨s.t.last + 1, mset (s.t.last + 1) ⟨r.o.series, 0, sl.snap r.o.F r.o.To, false, 0⟩ s.t.l⟩ } ⟨0, s.t.last + 1, []⟩ 2
    else r.stop { s with b := (s.b.hold [] (sl.snap r.o.F r.o.To).parts).2 } ⟨7, 0, []⟩ 3 := by
   unfold Run.open_
   cases Dir.look s.d r.o.series with
   | none => rfl
   | some sl =>
    dsimp only
    by_cases h1 : sl.there = false
    ·rw [if_pos h1, if_pos h1]
    ·rw [if_neg h1, if_neg h1]
     by_cases h2 : s.t.l.length ≥ 8
     ·rw [if_pos h2, if_pos h2]
     ·rw [if_neg h2, if_neg h2]
      generalize s.b.hold [] (sl.snap r.o.F r.o.To).parts = z
      obtain ⟨z1, z2⟩ := z
      cases z1 <;> rfl
  rw [key]
  rcases hc with ⟨htk, hc⟩ | ⟨htk, hc, hv, hacc⟩
  ·rw [hc]
   obtain ⟨x, hx, f, hf, he⟩ := hI.blk rfl hp htk
   exact ⟨_, _, G, (hI.set_n hn).2, fun _ _ => rfl, Uu _, h1l, fun _ h1 h2 => absurd h1 (Vh.2 h2), Keeps.refl _ _, rfl, rfl, rfl, rfl, .none rfl h0 (.inl ⟨O_o, O_o, x, hx, f, hf, he.trans e.symm⟩)⟩
  ·rw [hc]
   dsimp only
   obtain ⟨hs, hch, _⟩ := hI.dir.ok i p hp
   have hser : (abs s G).ser r.o.series = p.s.tells G := by show serOf s.d G r.o.series = _; rw [e]; exact serOf_at hp hi
   have hlen : (abs s G).its.length = s.t.l.length := itsOf_len _
   by_cases hth : p.s.there = false
   ·rw [if_pos hth]
    refine ⟨_, _, G, (hI.set_n hn).2, fun _ _ => rfl, Uu _, h1l, fun _ h1 h2 => absurd h1 (Vh.2 h2), Keeps.refl _ _, rfl, rfl, rfl, rfl, .point rfl rfl (holds0 hf hb.using_ hb.held) rfl ?_⟩
    rw [act_ser hr.bad O0 O0, hser, show p.s.tells G = none from by unfold SlotV.tells; rw [hth]; rfl]
    dsimp only
    rw [if_neg O0]; rfl
   ·rw [if_neg hth]
    have hth : p.s.there = true := by cases h : p.s.there with | true => rfl | false => exact absurd h hth
    have hact : (abs s G).act r.o = if s.t.l.length ≥ 8 then (abs s G).err 5 else ({ abs s G with its := (abs s G).its ++ [((abs s G).next + 1, within (p.s.all G) r.o.F r.o.To)], next := (abs s G).next + 1 }, ⟨0, (abs s G).next + 1, []⟩) := by
     rw [act_ser hr.bad O0 O0, hser, show p.s.tells G = some (p.s.closed, p.s.all G) from by unfold SlotV.tells; rw [hth]; rfl]
     dsimp only
     rw [if_neg O0, if_neg O0, if_neg O0, if_neg O0, hlen]
    by_cases h8 : s.t.l.length ≥ 8
    ·rw [if_pos h8]
     refine ⟨_, _, G, (hI.set_n hn).2, fun _ _ => rfl, Uu _, h1l, fun _ h1 h2 => absurd h1 (Vh.2 h2), Keeps.refl _ _, rfl, rfl, rfl, rfl, .point rfl rfl (holds0 hf hb.using_ hb.held) rfl ?_⟩
     rw [hact, if_pos h8]; rfl
    ·rw [if_neg h8]
     rw [if_neg h8] at hact
     obtain ⟨X, hX⟩ : ∃ X, p.s.snap r.o.F r.o.To = X := ⟨_, rfl⟩
     have hXok : SnpOk G s.b.last X := by rw [← hX]; exact snap_ok hs hch
     have hXm : ∀ q ∈ X.parts, 0 < cntOf acc (Ag.idle r.who :: A) s.t q.blob := fun q hq => cnt_acc (Uj hacc) (by rw [← hX] at hq; exact (Xr.1 hq).1) _
     rw [hX]
     obtain ⟨q1, q2, q3⟩ := hI.hold (ps := X.parts) rfl hXok.prts hXm hXok.few
     rw [q1, if_pos rfl]
     have hbud : (s.b.hold [] X.parts).2.budget = s.b.budget := by
      have hcj : ∀ j, cntOf acc (⟨r.who, none, X.parts, [], none, none⟩ :: A) s.t j = cntOf acc (Ag.idle r.who :: A) s.t j + rc j X.parts := by
       intro j
       unfold cntOf
       rw [sumF, sumF]
       show _ + (rc j X.parts + _) + _ = _ + (0 + _) + _ + _
       omega
      have := hI.sto.hold (cnt' := cntOf acc (⟨r.who, none, X.parts, [], none, none⟩ :: A) s.t) [] (ps := X.parts) hXm hcj fun j => by
       have e1 := hI.cnt_le j
       have e2 := rc_le j X.parts
       have e3 := hXok.few
       rw [hcj]
       unfold M40
       omega
      exact this.2.2.2.1
     obtain ⟨w1, w2⟩ := q3.opens (series := r.o.series) (x := X) (by (try dsimp only); rw [q2]; exact hXok) rfl hal (by (try dsimp only); omega) O0
     refine ⟨_, acc, G, w2.mono O0 O0, fun _ _ => rfl, by show _ ≤ (s.b.hold [] X.parts).2.last; omega, by show (s.b.hold [] X.parts).2.last ≤ _; omega, fun _ h1 h2 => absurd h1 (Vh.2 (Vw h2 (by show (s.b.hold [] X.parts).2.last ≤ _; omega))), ⟨fun _ _ h _ _ => h, fun id o ho _ _ => ?_⟩, rfl, rfl, rfl, hbud, .point rfl rfl (holds0 hf hb.using_ hb.held) rfl ?_⟩
     ·show mget id (mset (s.t.last + 1) _ s.t.l) = some o
      rw [jj, if_neg]
      ·exact ho
      ·rintro rfl
       rw [hnk] at ho; cases ho
     ·rw [hact]
      have hin : itsOf (mset (s.t.last + 1) (⟨r.o.series, 0, X, false, 0⟩ : On) s.t.l) G = itsOf s.t.l G ++ [(s.t.last + 1, X.all G)] := itsOf_new hnk rfl
      have hXall : X.all G = within (p.s.all G) r.o.F r.o.To := by rw [← hX]; exact hs.snap _ _
      rw [hXall] at hin
      show _ = ((⟨serOf s.d G, itsOf (mset (s.t.last + 1) (⟨r.o.series, 0, X, false, 0⟩ : On) s.t.l) G, s.t.last + 1⟩ : Mdl), _)
      rw [hin]; rfl
theorem shut_step (hI : Inv s (a :: A) acc al G n) (hr : RunOk al r) (hk : r.o.kind = 7) (hR : Rel G s r a k) (hn : n + 2 ≤ 1000000000) : s.t.Fits ∧ ∃ a' acc' G', Out A al s G n r k (r.shut s) a' acc' G' := by
 refine ⟨hI.tfits, ?_⟩
 have hlast := hI.last
 have hadd : r.adds = 0 := if_neg O0
 have h1l : s.b.last ≤ s.b.last + r.adds := by omega
 cases hR with
 | make hk' => exact absurd hk' O11
 | put hk' => exact absurd hk' O11
 | hard hk' => omega
 | read hk' => omega
 | next hk' => omega
 | idle h0 hf hb =>
  rcases run_use hI with ⟨u1, u2⟩ | ⟨u1, u2⟩ | ⟨o, u1, u2, u3, u4, u5, u6, u7⟩
  ·unfold Run.shut
   rw [u2]
   refine ⟨_, _, G, (hI.set_n hn).2, fun _ _ => rfl, Uu _, h1l, fun _ h1 h2 => absurd h1 (Vh.2 h2), Keeps.refl _ _, rfl, rfl, rfl, rfl, .point rfl rfl (holds0 hf hb.using_ hb.held) rfl ?_⟩
   rw [act_noiter hr.bad (.inr hk) (by show mget r.o.iter (itsOf s.t.l G) = none; rw [itsOf_get, u1]; rfl)]; rfl
  ·unfold Run.shut
   rw [u2]
   exact ⟨_, _, G, (hI.set_n hn).2, fun _ _ => rfl, Uu _, h1l, fun _ h1 h2 => absurd h1 (Vh.2 h2), Keeps.refl _ _, rfl, rfl, rfl, rfl, .none rfl h0 (.inr ⟨.inr hk, u1⟩)⟩
  ·have hm : ({ r with using_ := true } : Run).mine { s with t := ⟨s.t.last, mset r.o.iter { o with used := true, who := r.who } s.t.l⟩ } = some { o with used := true, who := r.who } := by
    unfold Run.mine
    dsimp only
    rw [u5]
    dsimp only
    rw [if_pos ⟨rfl, rfl⟩]
   have key : r.shut s = ({ r with using_ := false, over := true, res := ⟨0, 0, []⟩ }, { s with b := s.b.leave o.x.parts, t := ⟨s.t.last, mdel r.o.iter s.t.l⟩ }, 2) := by
    unfold Run.shut
    rw [u3]
    dsimp only
    rw [hm, mdel_mset]
    rfl
   rw [key]
   have h1 := u4.closes rfl rfl u5
   obtain ⟨h2, h3⟩ := h1.unhold (ps := o.x.parts) rfl
   have h4 : Inv { s with b := s.b.leave o.x.parts, t := ⟨s.t.last, mdel r.o.iter s.t.l⟩ } (Ag.idle r.who :: A) acc al G n := by
    rw [mdel_mset] at h3
    exact h3
   refine ⟨_, _, G, (h4.set_n hn).2, fun _ _ => rfl, by show _ ≤ (s.b.leave o.x.parts).last; rw [h2]; exact Uu _, by show (s.b.leave o.x.parts).last ≤ _; rw [h2]; exact h1l, fun _ h1' h2' => absurd h1' (Vh.2 (Vw h2' (by show (s.b.leave o.x.parts).last ≤ _; rw [h2]; exact Uu _))), ⟨fun _ _ h _ _ => h, fun id o' ho' hu' _ => ?_⟩, rfl, rfl, rfl, leave_budget _ _, .point rfl rfl (holds0 hf rfl hb.held) rfl ?_⟩
   ·show mget id (mdel r.o.iter s.t.l) = some o'
    rw [j5 _ _ _ hI.tab.nd, if_neg]
    ·exact ho'
    ·rintro rfl
     rw [u1] at ho'
     obtain rfl := Un ho'
     rw [u2] at hu'; cases hu'
   ·rw [act_close hr.bad hk, show mget r.o.iter (abs s G).its = some ((o.x.all G).drop o.told.toNat) from by show mget r.o.iter (itsOf s.t.l G) = _; rw [itsOf_get, u1]; rfl]
    dsimp only
    have hd : itsOf (mdel r.o.iter s.t.l) G = mdel r.o.iter (itsOf s.t.l G) := itsOf_del _
    show _ = ((⟨serOf s.d G, itsOf (mdel r.o.iter s.t.l) G, s.t.last⟩ : Mdl), _)
    rw [hd]; rfl
end
end Go.Proofs.YtngdfdangkdgcaaGreatDoor
