/- What the proof of ProgBusy needs, part 3: plain lemmas, and what each function does. -/
import Derived.Test.YtngdfdangkdgcaaGreatDoorQProgBusyb
import Derived.KernelRfl
set_option linter.unusedVariables false
set_option linter.unusedSimpArgs false
set_option linter.unnecessarySimpa false
set_option maxRecDepth 100000
set_option maxHeartbeats 4000000
namespace Go.Proofs.YtngdfdangkdgcaaGreatDoor
open Go.Hw _root_.Go.Proofs.Tryz
section
section
variable {w0 w : World} {l : List HProp}
theorem qj9 (a b : List Pg) : pgsV a ++ pgsV b = pgsV (a ++ b) := by simp [pgsV]
theorem eraseIdx_td (L : List Pg) (i : Nat) : L.take i ++ L.drop (i + 1) = L.eraseIdx i := by rw [List.eraseIdx_eq_take_drop_succ]
theorem xw {g c i m : Nat} (h : i < c) : adv (sQ g) (i * m) (Nat.beq c i) = some ⟨g, i * m, none⟩ := by
 have : Nat.beq c i = false := by
  cases hh : Nat.beq c i with
  | false => rfl
  | true => have := Vh hh; omega
 rw [this]
 show some (Addr.add ⟨g, 0, none⟩ (i * m)) = _
 unfold Addr.add
 split
 ·rename_i h0; rw [h0]
 ·simp
theorem cq {a : Option Addr} {c i : Nat} {L : List Pg} (hn : L.length <= 1000000) (hi : i < L.length) (h : St w0 (OwnPg a c L :: l) w) :
  Ret prog 114 [.slice a L.length c, .iz i, .iz (i + 1 : Nat)] w fun v w' => v = .slice a (L.eraseIdx i).length c ∧ St w0 (OwnPg a c (L.eraseIdx i) :: l) w' := by
 have hc := h.own_cases.2.1
 have hl2 : (L.eraseIdx i).length = L.length - 1 := Xv hi
 obtain ⟨g, rfl⟩ := h.own_some O0
 refine en func114 results114 ntmps114 ?_
 refine Y2c ?_; refine Y21 ?_; refine Y0 ?_; refine Y17 ?_
 refine r_v (q_cut3 rfl rfl rfl rfl (Nat.le_succ i) O0 hc) rfl ?_
 refine Y2e ?_; refine Y35 ?_; refine Yp ?_
 refine qz (.bool false) O5 ?_
 refine Yb ?_; refine Y34 ?_; refine Y4 ?_
 refine qf (jh (some 6) (fun w => St w0 (OwnPg (sQ g) c L :: l) w) O1 O1 h.drew fun w h => ?_)
 refine Y2i ?_
 refine cpv rfl rfl rfl rfl h rfl (kz (h := i) rfl rfl O0) ?_
 refine Y2i ?_
 refine cpv rfl rfl rfl rfl h rfl (gl (i := i + 1) rfl rfl O0) ?_
 refine Yq ?_
 have hrd : Rd w 7 (adv (sQ g) ((i + 1) * 7) (Nat.beq c (i + 1))) (L.length - (i + 1)) (pgsV (L.drop (i + 1))) := by
  rw [<- dh]; exact h.own_rd.tail O0 hc
 have ht := h.own_take (i := i) O0
 rw [dw] at ht
 refine jy 6 none rfl rfl rfl rfl ?_
 refine qqp (g' := g) (m3 := (L.eraseIdx i).length) (zs := pgsV (L.eraseIdx i)) ht rfl (show _ = Value.slice (sQ g) i c from rfl) rfl hrd (zi _) O0 O0 (by rw [qj9, eraseIdx_td]) rfl fun w h => ?_
 refine jz h ?_
 clear ht hrd
 refine Y1y ?_
 refine qn ?_
 refine Ye ?_; refine Y17 ?_; refine Y0 ?_
 refine r_v (qr (v' := .slice (some ⟨g, (L.eraseIdx i).length * 7, none⟩) 1 (c - (L.eraseIdx i).length)) (q_cut (i := (L.eraseIdx i).length) (j := L.length) rfl rfl rfl O0 O0) (by
  rw [show L.length - (L.eraseIdx i).length = 1 by omega]
  exact congrArg (fun a => Value.slice a 1 (c - (L.eraseIdx i).length)) (xw O0))) rfl ?_
 refine r_c rfl (qj8 h rfl rfl rfl O0 rfl O2 fun w h => ?_)
 refine Y2 ?_; refine Ye ?_; refine Yo ?_
 exact qv (qk (bq1 ⟨rfl, h⟩))
abbrev insP (L : List Pg) (i : Nat) (p : Pg) : List Pg := L.take i ++ p :: L.drop i
theorem insP_len {L : List Pg} {i : Nat} {p : Pg} (hi : i <= L.length) : (insP L i p).length = L.length + 1 := by
 simp only [insP, Ua, Ui, Us, Uq]; omega
theorem put_a {L : List Pg} {i : Nat} {p : Pg} (hi : i <= L.length) {ys : List Value} (hy : ys.length = (L.length + 1 - i) * 7) : putAt (putAt (pgsV (L.take i) ++ ys) (i * 7) p.C) ((i + 1) * 7) (pgsV (L.drop i)) = pgsV (insP L i p) := by
 have e1 : (pgsV (L.take i)).length = i * 7 := by rw [ud, Us, Vs hi]
 have e3 : (pgsV (L.drop i)).length = (L.length - i) * 7 := by rw [ud, Uq]
 have e2 : (putAt (pgsV (L.take i) ++ ys) (i * 7) p.C) = pgsV (L.take i) ++ p.C ++ ys.drop 7 := by
  unfold putAt
  rw [<- e1, Zv, Zi, gy, Vo O0, Up, show (pgsV (L.take i)).length + 7 - (pgsV (L.take i)).length = 7 by omega]
 rw [e2]
 unfold putAt
 have e4 : (pgsV (L.take i) ++ p.C).length = (i + 1) * 7 := by rw [Ua, e1, gy]; omega
 have e5 : (pgsV (L.take i) ++ p.C ++ ys.drop 7).length <= (pgsV (L.take i) ++ p.C).length + (pgsV (L.drop i)).length := by rw [Ua, e4, Uq, e3]; omega
 rw [<- e4, Zv, Vo e5, Uw]
 simp [insP, pgsV, Xm, Uh]
theorem put_b {L : List Pg} {i : Nat} {p : Pg} (hi : i <= L.length) {ys : List Value} (hy : ys.length = 7) : putAt (putAt (pgsV L ++ ys) ((i + 1) * 7) ((pgsV (L.drop i) ++ ys).take ((L.length - i) * 7))) (i * 7) p.C = pgsV (insP L i p) := by
 have e0 : (pgsV L).length = L.length * 7 := ud L
 have e1 : (pgsV (L.take i)).length = i * 7 := by rw [ud, Us, Vs hi]
 have e3 : (pgsV (L.drop i)).length = (L.length - i) * 7 := by rw [ud, Uq]
 rw [<- e3, Zv]
 have e4 : putAt (pgsV L ++ ys) ((i + 1) * 7) (pgsV (L.drop i)) = (pgsV L ++ ys).take ((i + 1) * 7) ++ pgsV (L.drop i) := by
  unfold putAt
  have e5 : (pgsV L ++ ys).length <= (i + 1) * 7 + (pgsV (L.drop i)).length := by rw [Ua, e0, hy, e3]; omega
  rw [Vo e5, Uw]
 rw [e4]
 unfold putAt
 have e5 : ((pgsV L ++ ys).take ((i + 1) * 7)).length = (i + 1) * 7 := by rw [Us, Ua, e0, hy]; omega
 have e6 : ((pgsV L ++ ys).take ((i + 1) * 7) ++ pgsV (L.drop i)).take (i * 7) = pgsV (L.take i) := by
  rw [Wv O0, List.take_take, Vs O0, Wv O0, dw]
 rw [e6, Zi, e5, gy, Vo O0, Up, show i * 7 + 7 - (i + 1) * 7 = 0 by omega, Wz]
 simp [insP, pgsV, Xm, Uh]
theorem cj {a : Option Addr} {c i bv : Nat} {L : List Pg} {p : Pg} (hn : L.length <= 1000000) (hi : i <= L.length) (hL : 0 < L.length) (h : St w0 (PgPt bv p :: OwnPg a c L :: l) w) :
  Ret prog 120 [.slice a L.length c, .iz i, .slice (sQ bv) 1 1] w fun v w' => ∃ a' c', v = .slice a' (insP L i p).length c' ∧ St w0 (OwnPg a' c' (insP L i p) :: l) w' := by
 have hc := (h.f 1).own_cases.2.1
 have hil := insP_len (p := p) hi
 obtain ⟨g, rfl⟩ := (h.f 1).own_some hL
 have hv : ∀ {w : World}, w.heap[bv]? = some (.cells p.C.toArray 113 (0, 0)) -> Rd w 7 (sQ bv) 1 p.C := fun h => ⟨rfl, .inr ⟨bv, 0, rfl, qw h rfl⟩⟩
 have hp1 : ∀ u ∈ p.C, u.oneCell' = true := by have := zi [p]; simpa [pgsV] using this
 refine en func120 results120 ntmps120 ?_
 refine Y2c ?_; refine Y21 ?_
 refine r_v (gl (i := i) rfl rfl hi) rfl ?_
 refine Y2 ?_; refine Y34 ?_; refine Y4 ?_; refine Y3y ?_; refine Yb ?_; refine Y34 ?_; refine Y4 ?_; refine Y1w ?_; refine Y0 ?_; refine Yp ?_
 by_cases hin : i = L.length
 ·refine qz (.bool true) O13 ?_
  refine Yd ?_; refine Ye ?_; refine Yj ?_
  refine r_c rfl (q9 (ys := p.C) (zs := pgsV (insP L i p)) (m3 := (insP L i p).length) (h.f 1) rfl rfl (hv (h.b 0 rfl)) hp1 O0 (by rw [hin]; simp [insP, pgsV, Xm]) O0 O0 rfl fun a' c' w _ h => ?_)
  refine Yo ?_
  exact qv (qk (bq1 ⟨a', c', rfl, h.x [1]⟩))
 refine qz (.bool false) O5 ?_
 refine Yb ?_; refine Y1w ?_; refine Y0 ?_
 refine r_v (qr (v' := .iz (L.length + 1 : Nat)) (vt rfl rfl) (congrArg Value.iz ((wrap64 O0 O0).trans O0))) rfl ?_
 refine Yj ?_
 refine r_v (qqn rfl) rfl ?_
 refine Y2j ?_
 by_cases hcap : c < L.length + 1
 ·refine qz (.bool true) O3 ?_
  refine Yd ?_; refine Y21 ?_
  refine r_v (kz (h := i) rfl rfl O0) rfl ?_
  refine Y30 ?_
  refine r_v (qr (v' := .iz (L.length + 1 : Nat)) (vt rfl rfl) (congrArg Value.iz ((wrap64 O0 O0).trans O0))) rfl ?_
  refine Y0 ?_
  refine r_v (qr (v' := .iz (L.length + 1 - i : Nat)) (vi rfl rfl) (congrArg Value.iz ((wrap64 O0 O0).trans O0))) rfl ?_
  have hrt : Rd w 7 (sQ g) i (pgsV (L.take i)) := by
   have := ((h.f 1).own_take (i := i) hi).own_rd
   rwa [dw] at this
  refine r_c rfl (x_appZ underlying3 h rfl rfl hrt O0 O0 O0 rfl fun b2 c2 ys w hys h => ?_)
  clear hrt
  refine Yw ?_; refine Y21 ?_
  refine r_v (qr (v' := .slice (some ⟨b2, i * 7, none⟩) (L.length + 1 - i) (c2 - i)) (gl (i := i) rfl rfl O0) (by
   have := h.own_cases.2.1
   rw [show i + (L.length + 1 - i) - i = L.length + 1 - i by omega]
   exact congrArg (fun a => Value.slice a (L.length + 1 - i) (c2 - i)) (xw O0))) rfl ?_
  refine Yj ?_
  refine r_c rfl (ng (ys := p.C) h rfl rfl rfl (hv (h.b 1 rfl)) (fun u hu => hp1 u (Xi hu)) O0 rfl fun w h => ?_)
  have e1 : min 1 (L.length + 1 - i) = 1 := by omega
  rw [e1, Nat.one_mul, Uv (show p.C.length <= 7 from Ug 7)] at h
  refine Y2 ?_
  have hc2 := h.own_cases.2.1
  refine qf (jh (some 8) (fun w => St w0 _ w) O1 O1 h.drew fun w h => ?_)
  refine Y2i ?_; refine Y18 ?_
  refine cpv rfl rfl rfl rfl h rfl (qr (v' := .iz (i + 1 : Nat)) (vt rfl rfl) (congrArg Value.iz ((wrap64 O0 O0).trans O0))) ?_
  refine cpv rfl rfl rfl rfl h rfl (gl (i := i + 1) rfl rfl O0) ?_
  refine Y2i ?_
  refine cpv rfl rfl rfl rfl h rfl (gl (i := i) rfl rfl hi) ?_
  refine Yg ?_
  have hrs : Rd w 7 (adv (sQ g) (i * 7) (Nat.beq c i)) (L.length - i) (pgsV (L.drop i)) := by
   rw [<- dh]; exact ((h.f 2).own_rd).tail hi hc
  refine jk 8 rfl rfl rfl ?_
  refine ng (g' := b2) (o := (i + 1) * 7) (m := L.length - i) (c1 := c2 - (i + 1)) (ys := pgsV (L.drop i)) h ?_ rfl rfl hrs (fun u hu => zi _ u (Xi hu)) (by rw [Nat.min_self]; omega) rfl fun w h => ?_
  ·show Value.slice (adv (sQ b2) ((i + 1) * 7) (Nat.beq c2 (i + 1))) (i + (L.length + 1 - i) - (i + 1)) (c2 - (i + 1)) = _
   rw [xw O0, show i + (L.length + 1 - i) - (i + 1) = L.length - i by omega]
  have et : (pgsV (L.drop i)).take ((L.length - i) * 7) = pgsV (L.drop i) := Uv (by rw [ud, Uq]; exact Ug _)
  rw [Nat.min_self, et, put_a hi hys] at h
  refine Ye ?_
  refine qz (.slice (sQ b2) (insP L i p).length c2) (congrArg (fun n => Value.slice (sQ b2) n c2) O0) ?_
  refine Yo ?_
  refine qv (qk (bq1 ⟨some ⟨b2, 0, none⟩, c2, rfl, ?_⟩))
  have h := h.x [1, 2]
  rw [show i + (L.length + 1 - i) = (insP L i p).length by omega] at h
  exact h
 refine qz (.bool false) O4 ?_
 refine Yb ?_; refine Y21 ?_; refine Y0 ?_
 refine r_v (qr (v' := .iz (L.length + 1 : Nat)) (vt rfl rfl) (congrArg Value.iz ((wrap64 O0 O0).trans O0))) rfl ?_
 refine r_v (kz (h := L.length + 1) rfl rfl O0) rfl ?_
 refine Yo ?_
 obtain ⟨ys, hys, h⟩ := (h.f 1).own_ext (m := L.length + 1) (Nat.le_succ _) O0
 rw [show (L.length + 1 - L.length) * 7 = 7 by omega] at hys
 refine Y2e ?_; refine Ye ?_; refine Yj ?_; refine Y30 ?_
 refine r_v (qr (v' := .iz (i + 1 : Nat)) (vt rfl rfl) (congrArg Value.iz ((wrap64 O0 O0).trans O0))) rfl ?_
 refine r_v (qr (v' := .slice (some ⟨g, (i + 1) * 7, none⟩) (L.length - i) (c - (i + 1))) (gl (i := i + 1) rfl rfl O0) (by
  rw [show L.length + 1 - (i + 1) = L.length - i by omega]
  exact congrArg (fun a => Value.slice a (L.length - i) (c - (i + 1))) (xw O0))) rfl ?_
 have hov : (Extern.SlicesOverlaps.overlaps #[102, 102] #[4] #[.slice (sQ bv) 1 1, .slice (some ⟨g, (i + 1) * 7, none⟩) (L.length - i) (c - (i + 1))]).run prog w = .ok (.bool false) w := by
  have hb := h.b 1 rfl
  obtain ⟨_, _, ⟨e0, _⟩ | ⟨g2, cur, e0, h5, _, h7⟩⟩ := h.own_cases
  ·cases e0
  ·cases e0
   have hg := h7.hd.1
   have hne : bv ≠ g := (h7.f 1).ne2
   refine Go.Lib.run_overlaps_apart w 102 4 113 underlying102 7 (fun w => (inferInstance : Inf prog 113 _ _ _).sizeOf w) ⟨bv, 0, none⟩ ⟨g, (i + 1) * 7, none⟩ 1 1 (L.length - i) (c - (i + 1)) hne 113 113 7 cur.length ?_ ?_ O0 ?_ ?_
   ·simp only [World.shape?, hb]; rfl
   ·simp only [World.shape?, hg]; rfl
   ·simp only [World.frozen?, hb]; rfl
   ·simp only [World.frozen?, hb]; rfl
 refine r_v (qqm (v := .bool false) func135 O1 O1 O1 (E := Extern.SlicesOverlaps.overlaps #[102, 102] #[4]) O1 rfl hov) rfl ?_
 refine Yx ?_; refine Yd ?_
 clear hov
 refine qf (jh (some 8) (fun w => St w0 _ w) O1 O1 h.drew fun w h => ?_)
 refine Y2i ?_; refine Y18 ?_
 refine cpv rfl rfl rfl rfl h rfl (qr (v' := .iz (i + 1 : Nat)) (vt rfl rfl) (congrArg Value.iz ((wrap64 O0 O0).trans O0))) ?_
 refine cpv rfl rfl rfl rfl h rfl (qr (v' := .slice (some ⟨g, (i + 1) * 7, none⟩) (L.length - i) (c - (i + 1))) (gl (i := i + 1) rfl rfl O0) (by
  rw [show L.length + 1 - (i + 1) = L.length - i by omega]
  exact congrArg (fun a => Value.slice a (L.length - i) (c - (i + 1))) (xw O0))) ?_
 refine Y2i ?_
 refine cpv rfl rfl rfl rfl h rfl (gl (i := i) rfl rfl O0) ?_
 refine Yg ?_
 have hrs : Rd w 7 (adv (sQ g) (i * 7) (Nat.beq c i)) (L.length + 1 - i) (pgsV (L.drop i) ++ ys) := by
  have := h.own_rd.tail (i := i) O0 (c := c) O0
  rwa [List.drop_append_of_le_length (by rw [ud]; omega), dh] at this
 have hys1 : ∀ u ∈ (pgsV (L.drop i) ++ ys).take (min (L.length + 1 - i) (L.length - i) * 7), u.oneCell' = true := by
  rw [show min (L.length + 1 - i) (L.length - i) = L.length - i by omega, <- show (pgsV (L.drop i)).length = (L.length - i) * 7 by rw [ud, Uq], Zv]
  exact zi _
 refine jk 8 rfl rfl rfl ?_
 refine ng (g' := g) (o := (i + 1) * 7) (m := L.length - i) (ys := pgsV (L.drop i) ++ ys) h rfl rfl rfl hrs hys1 O0 rfl fun w h => ?_
 rw [show min (L.length + 1 - i) (L.length - i) = L.length - i by omega] at h
 refine Y21 ?_
 refine r_v (qr (v' := .slice (some ⟨g, i * 7, none⟩) (L.length + 1 - i) (c - i)) (gl (i := i) rfl rfl O0) (congrArg (fun a => Value.slice a (L.length + 1 - i) (c - i)) (xw O0))) rfl ?_
 refine Yj ?_
 refine r_c rfl (ng (ys := p.C) h rfl rfl rfl (hv (h.b 1 rfl)) (fun u hu => hp1 u (Xi hu)) O0 rfl fun w h => ?_)
 rw [show min 1 (L.length + 1 - i) = 1 by omega, Nat.one_mul, Uv (show p.C.length <= 7 from Ug 7), put_b hi hys] at h
 refine Y2 ?_; refine Ye ?_
 refine qz (.slice (sQ g) (insP L i p).length c) (congrArg (fun n => Value.slice (sQ g) n c) O0) ?_
 refine Yo ?_
 refine qv (qk (bq1 ⟨some ⟨g, 0, none⟩, c, rfl, ?_⟩))
 have h := h.x [1]
 rw [show L.length + 1 = (insP L i p).length by omega] at h
 exact h
end
end
section
def ClkAt (b : Nat) (q : Clk) : HProp := ex fun x : Option Addr × Nat => all [ClkPt b x.1 x.2 q, OwnPg x.1 x.2 q.pages]
abbrev HsPt (bh b : Nat) : HProp := pt bh (.cells [.pointer (some ⟨b, 3, none⟩), .pointer (some ⟨b, 4, none⟩), .pointer (some ⟨b, 5, none⟩)].toArray 197 (0, 0))
abbrev CcPt (b : Nat) (mo ta : Int) (a : Option Addr) (n c : Nat) (x y z : Nat) : HProp := pt b (.cells [.iz mo, .iz ta, .slice a n c, .iz (x : Int), .iz (y : Int), .iz (z : Int)].toArray 104 (0, 0))
section
variable {w0 w : World} {l : List HProp}
theorem St.clk {b : Nat} {q : Clk} : St w0 (ClkAt b q :: l) w ↔ ∃ a c, St w0 (ClkPt b a c q :: OwnPg a c q.pages :: l) w := by
 unfold ClkAt
 rw [St.ex]
 exact ⟨fun ⟨x, h⟩ => ⟨x.1, x.2, h.join⟩, fun ⟨a, c, h⟩ => ⟨(a, c), St.fold [_, _] h⟩⟩
theorem db {b : Nat} {cs : List Value} (h : St w0 (pt b (.cells cs.toArray 104 (0, 0)) :: l) w) : Ret prog 115 [.pz b] w fun v w' => ∃ bh, v = .slice (sQ bh) 3 3 ∧ St w0 (HsPt bh b :: pt b (.cells cs.toArray 104 (0, 0)) :: l) w' := by
 refine en func115 results115 ntmps115 ?_
 refine Y2c ?_
 refine qf (jh none (fun w => St w0 (pt b (.cells cs.toArray 104 (0, 0)) :: l) w) O1 O1 h.drew fun w h => ?_)
 refine Y3 ?_; refine Y3 ?_; refine Y3 ?_; refine Yq ?_
 refine qd 9 rfl rfl rfl rfl ?_
 refine jg (r := [.pointer (some ⟨b, 3, none⟩), .pointer (some ⟨b, 4, none⟩), .pointer (some ⟨b, 5, none⟩)]) h rfl rfl rfl fun bh w h => ⟨fun _ => h.drop, ?_⟩
 have hφ := h.drop
 refine qu rfl rfl rfl rfl (fun _ => hφ) (fun _ => qh rfl (xq rfl)) ?_
 exact qn (qk (bq1 ⟨bh, rfl, h⟩))
theorem yo {b i : Nat} {q : Clk} (hn : q.pages.length <= 1000000) (hh : q.hot <= 1000000 ∧ q.cold <= 1000000 ∧ q.test <= 1000000) (hi : i < q.pages.length) (h : St w0 (ClkAt b q :: l) w) : Ret prog 84 [.pz b, .iz i] w fun v w' => St w0 (ClkAt b (q.goes i) :: l) w' := by
 obtain ⟨a, c, h⟩ := St.clk.1 h
 refine en func84 results84 ntmps84 ?_
 refine Y2p ?_
 refine r_v (qq (v := .slice a q.pages.length c) rfl (h.b 0 rfl) rfl) rfl ?_
 refine Y30 ?_
 refine r_v (qr (v' := .iz (i + 1 : Nat)) (vt rfl rfl) (congrArg Value.iz ((wrap64 O0 O0).trans O0))) rfl ?_
 refine r_c rfl (qg rfl (cq hn hi (h.f 1)) ?_)
 clear h
 rintro _ w ⟨rfl, h⟩
 refine Yi ?_
 refine r_c rfl (qb 1 h rfl (show _ = Value.slice a (q.pages.eraseIdx i).length c from rfl) rfl rfl rfl rfl fun w h => ?_)
 have hl2 : (q.pages.eraseIdx i).length = q.pages.length - 1 := Xv hi
 replace h : St w0 (CcPt b q.most q.target a (q.pages.eraseIdx i).length c q.hot q.cold q.test :: OwnPg a c (q.pages.eraseIdx i) :: l) w := h.f 1
 refine Y1a ?_
 refine r_c rfl (qg rfl (db h) ?_)
 clear h
 rintro _ w ⟨bh, rfl, h⟩
 refine Y15 ?_; refine Y0 ?_; refine Y2 ?_
 generalize hm : (q.pages.eraseIdx i).length = m at h
 have hmi : m = q.pages.length - 1 := by omega
 have hg : ∀ x, x <= 1000000 -> Clk.goneH i m x <= 1000000 := by intro x hx; unfold Clk.goneH; split <;> split <;> omega
 refine Yh ?_
 refine jx (Γ := Nat) (fun k => [(0, .pz b), (1, .iz i), (18, .slice (sQ bh) 3 3), (19, .iz 3), (20, .iz k)])
  (fun k w => k <= 3 ∧ St w0 (HsPt bh b :: CcPt b q.most q.target a m c (if 1 <= k then Clk.goneH i m q.hot else q.hot) (if 2 <= k then Clk.goneH i m q.cold else q.cold) (if 3 <= k then Clk.goneH i m q.test else q.test) :: OwnPg a c (q.pages.eraseIdx i) :: l) w) (fun k => 3 - k) 0 zz5 ⟨Ud _, h⟩ ?_
 clear h
 rintro k w e ⟨hk, h⟩
 refine Y3p ?_
 by_cases hlt : k < 3
 ·refine qz (.bool true) O3 ?_
  refine Y42 ?_; refine Y1z ?_
  obtain rfl | rfl | rfl : k = 0 ∨ k = 1 ∨ k = 2 := by omega
  ·replace h : St w0 (HsPt bh b :: CcPt b q.most q.target a m c q.hot q.cold q.test :: OwnPg a c (q.pages.eraseIdx i) :: l) w := h
   have hx : q.hot <= 1000000 := by omega
   obtain ⟨x, hxe⟩ : ∃ x, x = q.hot := ⟨_, rfl⟩
   rw [<- hxe] at h hx
   refine Y1 ?_
   refine r_v (jb (j := 0) (o' := 0) rfl rfl rfl O2 rfl) rfl ?_
   refine r_v (qq (v := .pointer (some ⟨b, 3, none⟩)) rfl (h.b 0 rfl) rfl) rfl ?_
   refine Y3g ?_
   refine qt (Γ := Nat) (fun y => [(0, .pz b), (1, .iz i), (5, .pointer (some ⟨b, 3, none⟩)), (18, .slice (sQ bh) 3 3), (19, .iz 3), (20, .iz (0 : Nat))])
    (fun y w => y = (if x > i then x - 1 else x) ∧ St w0 (HsPt bh b :: CcPt b q.most q.target a m c y q.cold q.test :: OwnPg a c (q.pages.eraseIdx i) :: l) w) ?_ ?_
   ·refine Ym ?_; refine Y1c ?_
    refine r_v (qq (v := .iz (x : Int)) rfl (h.b 1 rfl) rfl) rfl ?_
    refine Y0 ?_; refine Y2j ?_
    by_cases hc : x > i
    ·refine qz (.bool true) O3 ?_
     refine Y3s ?_; refine Y1c ?_
     refine r_v (qq (v := .iz (x : Int)) rfl (h.b 1 rfl) rfl) rfl ?_
     refine r_v (qr (v' := .iz (x - 1 : Nat)) (vi rfl rfl) (congrArg Value.iz ((wrap64 O0 O0).trans O0))) rfl ?_
     refine Y1c ?_
     refine r_c rfl (qb 1 h rfl (show _ = Value.iz ((x - 1 : Nat) : Int) from rfl) rfl rfl rfl rfl fun w h => ?_)
     exact qv ⟨x - 1, zz6, by rw [if_pos hc], h⟩
    ·refine qz (.bool false) O4 ?_
     exact qv (qe rfl (qa ⟨x, zz6, by rw [if_neg hc], h⟩))
   rintro y w e ⟨hy, h⟩
   have hgy : Clk.goneH i m x = if y ≥ m then 0 else y := by unfold Clk.goneH; rw [<- hy]
   refine qf (jh none (fun w => St w0 (HsPt bh b :: CcPt b q.most q.target a m c y q.cold q.test :: OwnPg a c (q.pages.eraseIdx i) :: l) w) O1 O1 h.drew fun w h => ?_)
   refine Y1j ?_; refine Y44 ?_
   refine qj rfl rfl rfl rfl h (fun _ h => qh rfl (qq (v := .iz (y : Int)) rfl (h.b 1 rfl) rfl)) ?_
   refine Y3 ?_
   refine qj rfl rfl rfl rfl h (fun _ h => qh rfl (qq (v := .slice a m c) rfl (h.b 1 rfl) rfl)) ?_
   refine Y2x ?_; refine cpv rfl rfl rfl rfl h rfl (yr rfl rfl) ?_
   refine qn ?_
   refine qi (decide ((y : Int) ≥ (m : Int))) rfl (fun hc => ?_) (fun hc => ?_)
   ·have hc2 : y ≥ m := by simpa using hc
    refine Y2u ?_; refine Y1c ?_
    refine r_c rfl (qb 1 h rfl (show _ = Value.iz ((0 : Nat) : Int) from rfl) rfl rfl rfl rfl fun w h => ?_)
    replace h : St w0 (HsPt bh b :: CcPt b q.most q.target a m c 0 q.cold q.test :: OwnPg a c (q.pages.eraseIdx i) :: l) w := h
    refine Y3h ?_
    refine qz (.iz (1 : Nat)) rfl ?_
    refine Y0 ?_
    refine qv ⟨1, zz5, ⟨O_c, ?_⟩, O_c⟩
    rw [if_pos hc2] at hgy
    rw [<- hgy, hxe] at h
    exact h
   ·have hc2 : ¬ y ≥ m := by simpa using hc
    refine Y47 ?_
    refine qz (.iz (1 : Nat)) rfl ?_
    refine Y0 ?_
    refine qv ⟨1, zz5, ⟨O_c, ?_⟩, O_c⟩
    rw [if_neg hc2] at hgy
    rw [<- hgy, hxe] at h
    exact h
  ·replace h : St w0 (HsPt bh b :: CcPt b q.most q.target a m c (Clk.goneH i m q.hot) q.cold q.test :: OwnPg a c (q.pages.eraseIdx i) :: l) w := h
   have hx : q.cold <= 1000000 := by omega
   obtain ⟨x, hxe⟩ : ∃ x, x = q.cold := ⟨_, rfl⟩
   rw [<- hxe] at h hx
   refine Y1 ?_
   refine r_v (jb (j := 1) (o' := 1) rfl rfl rfl O2 rfl) rfl ?_
   refine r_v (qq (v := .pointer (some ⟨b, 4, none⟩)) rfl (h.b 0 rfl) rfl) rfl ?_
   refine Y3g ?_
   refine qt (Γ := Nat) (fun y => [(0, .pz b), (1, .iz i), (5, .pointer (some ⟨b, 4, none⟩)), (18, .slice (sQ bh) 3 3), (19, .iz 3), (20, .iz (1 : Nat))])
    (fun y w => y = (if x > i then x - 1 else x) ∧ St w0 (HsPt bh b :: CcPt b q.most q.target a m c (Clk.goneH i m q.hot) y q.test :: OwnPg a c (q.pages.eraseIdx i) :: l) w) ?_ ?_
   ·refine Ym ?_; refine Y1c ?_
    refine r_v (qq (v := .iz (x : Int)) rfl (h.b 1 rfl) rfl) rfl ?_
    refine Y0 ?_; refine Y2j ?_
    by_cases hc : x > i
    ·refine qz (.bool true) O3 ?_
     refine Y3s ?_; refine Y1c ?_
     refine r_v (qq (v := .iz (x : Int)) rfl (h.b 1 rfl) rfl) rfl ?_
     refine r_v (qr (v' := .iz (x - 1 : Nat)) (vi rfl rfl) (congrArg Value.iz ((wrap64 O0 O0).trans O0))) rfl ?_
     refine Y1c ?_
     refine r_c rfl (qb 1 h rfl (show _ = Value.iz ((x - 1 : Nat) : Int) from rfl) rfl rfl rfl rfl fun w h => ?_)
     exact qv ⟨x - 1, zz6, by rw [if_pos hc], h⟩
    ·refine qz (.bool false) O4 ?_
     exact qv (qe rfl (qa ⟨x, zz6, by rw [if_neg hc], h⟩))
   rintro y w e ⟨hy, h⟩
   have hgy : Clk.goneH i m x = if y ≥ m then 0 else y := by unfold Clk.goneH; rw [<- hy]
   refine qf (jh none (fun w => St w0 (HsPt bh b :: CcPt b q.most q.target a m c (Clk.goneH i m q.hot) y q.test :: OwnPg a c (q.pages.eraseIdx i) :: l) w) O1 O1 h.drew fun w h => ?_)
   refine Y1j ?_; refine Y44 ?_
   refine qj rfl rfl rfl rfl h (fun _ h => qh rfl (qq (v := .iz (y : Int)) rfl (h.b 1 rfl) rfl)) ?_
   refine Y3 ?_
   refine qj rfl rfl rfl rfl h (fun _ h => qh rfl (qq (v := .slice a m c) rfl (h.b 1 rfl) rfl)) ?_
   refine Y2x ?_; refine cpv rfl rfl rfl rfl h rfl (yr rfl rfl) ?_
   refine qn ?_
   refine qi (decide ((y : Int) ≥ (m : Int))) rfl (fun hc => ?_) (fun hc => ?_)
   ·have hc2 : y ≥ m := by simpa using hc
    refine Y2u ?_; refine Y1c ?_
    refine r_c rfl (qb 1 h rfl (show _ = Value.iz ((0 : Nat) : Int) from rfl) rfl rfl rfl rfl fun w h => ?_)
    replace h : St w0 (HsPt bh b :: CcPt b q.most q.target a m c (Clk.goneH i m q.hot) 0 q.test :: OwnPg a c (q.pages.eraseIdx i) :: l) w := h
    refine Y3h ?_
    refine qz (.iz (2 : Nat)) rfl ?_
    refine Y0 ?_
    refine qv ⟨2, zz5, ⟨O_c, ?_⟩, O_c⟩
    rw [if_pos hc2] at hgy
    rw [<- hgy, hxe] at h
    exact h
   ·have hc2 : ¬ y ≥ m := by simpa using hc
    refine Y47 ?_
    refine qz (.iz (2 : Nat)) rfl ?_
    refine Y0 ?_
    refine qv ⟨2, zz5, ⟨O_c, ?_⟩, O_c⟩
    rw [if_neg hc2] at hgy
    rw [<- hgy, hxe] at h
    exact h
  ·replace h : St w0 (HsPt bh b :: CcPt b q.most q.target a m c (Clk.goneH i m q.hot) (Clk.goneH i m q.cold) q.test :: OwnPg a c (q.pages.eraseIdx i) :: l) w := h
   have hx : q.test <= 1000000 := by omega
   obtain ⟨x, hxe⟩ : ∃ x, x = q.test := ⟨_, rfl⟩
   rw [<- hxe] at h hx
   refine Y1 ?_
   refine r_v (jb (j := 2) (o' := 2) rfl rfl rfl O2 rfl) rfl ?_
   refine r_v (qq (v := .pointer (some ⟨b, 5, none⟩)) rfl (h.b 0 rfl) rfl) rfl ?_
   refine Y3g ?_
   refine qt (Γ := Nat) (fun y => [(0, .pz b), (1, .iz i), (5, .pointer (some ⟨b, 5, none⟩)), (18, .slice (sQ bh) 3 3), (19, .iz 3), (20, .iz (2 : Nat))])
    (fun y w => y = (if x > i then x - 1 else x) ∧ St w0 (HsPt bh b :: CcPt b q.most q.target a m c (Clk.goneH i m q.hot) (Clk.goneH i m q.cold) y :: OwnPg a c (q.pages.eraseIdx i) :: l) w) ?_ ?_
   ·refine Ym ?_; refine Y1c ?_
    refine r_v (qq (v := .iz (x : Int)) rfl (h.b 1 rfl) rfl) rfl ?_
    refine Y0 ?_; refine Y2j ?_
    by_cases hc : x > i
    ·refine qz (.bool true) O3 ?_
     refine Y3s ?_; refine Y1c ?_
     refine r_v (qq (v := .iz (x : Int)) rfl (h.b 1 rfl) rfl) rfl ?_
     refine r_v (qr (v' := .iz (x - 1 : Nat)) (vi rfl rfl) (congrArg Value.iz ((wrap64 O0 O0).trans O0))) rfl ?_
     refine Y1c ?_
     refine r_c rfl (qb 1 h rfl (show _ = Value.iz ((x - 1 : Nat) : Int) from rfl) rfl rfl rfl rfl fun w h => ?_)
     exact qv ⟨x - 1, zz6, by rw [if_pos hc], h⟩
    ·refine qz (.bool false) O4 ?_
     exact qv (qe rfl (qa ⟨x, zz6, by rw [if_neg hc], h⟩))
   rintro y w e ⟨hy, h⟩
   have hgy : Clk.goneH i m x = if y ≥ m then 0 else y := by unfold Clk.goneH; rw [<- hy]
   refine qf (jh none (fun w => St w0 (HsPt bh b :: CcPt b q.most q.target a m c (Clk.goneH i m q.hot) (Clk.goneH i m q.cold) y :: OwnPg a c (q.pages.eraseIdx i) :: l) w) O1 O1 h.drew fun w h => ?_)
   refine Y1j ?_; refine Y44 ?_
   refine qj rfl rfl rfl rfl h (fun _ h => qh rfl (qq (v := .iz (y : Int)) rfl (h.b 1 rfl) rfl)) ?_
   refine Y3 ?_
   refine qj rfl rfl rfl rfl h (fun _ h => qh rfl (qq (v := .slice a m c) rfl (h.b 1 rfl) rfl)) ?_
   refine Y2x ?_; refine cpv rfl rfl rfl rfl h rfl (yr rfl rfl) ?_
   refine qn ?_
   refine qi (decide ((y : Int) ≥ (m : Int))) rfl (fun hc => ?_) (fun hc => ?_)
   ·have hc2 : y ≥ m := by simpa using hc
    refine Y2u ?_; refine Y1c ?_
    refine r_c rfl (qb 1 h rfl (show _ = Value.iz ((0 : Nat) : Int) from rfl) rfl rfl rfl rfl fun w h => ?_)
    replace h : St w0 (HsPt bh b :: CcPt b q.most q.target a m c (Clk.goneH i m q.hot) (Clk.goneH i m q.cold) 0 :: OwnPg a c (q.pages.eraseIdx i) :: l) w := h
    refine Y3h ?_
    refine qz (.iz (3 : Nat)) rfl ?_
    refine Y0 ?_
    refine qv ⟨3, zz5, ⟨O_c, ?_⟩, O_c⟩
    rw [if_pos hc2] at hgy
    rw [<- hgy, hxe] at h
    exact h
   ·have hc2 : ¬ y ≥ m := by simpa using hc
    refine Y47 ?_
    refine qz (.iz (3 : Nat)) rfl ?_
    refine Y0 ?_
    refine qv ⟨3, zz5, ⟨O_c, ?_⟩, O_c⟩
    rw [if_neg hc2] at hgy
    rw [<- hgy, hxe] at h
    exact h
 ·refine qz (.bool false) O4 ?_
  refine qv (qf (qe rfl (ju ?_)))
  obtain rfl : k = 3 := by omega
  refine Eq.mpr (if_pos rfl) (bq0n ?_)
  rw [hmi, <- hl2] at h
  refine St.clk.2 ⟨a, c, ?_⟩
  have h := h.drop
  have e3 : q.goes i = ⟨q.most, q.target, q.pages.eraseIdx i, Clk.goneH i (q.pages.eraseIdx i).length q.hot, Clk.goneH i (q.pages.eraseIdx i).length q.cold, Clk.goneH i (q.pages.eraseIdx i).length q.test⟩ := by unfold Clk.goes; rw [hl2]
  rw [e3]
  exact h
theorem nk {b j : Nat} {q q' : Clk} {x : Nat} (hj : j < 6) (hn : q.pages.length <= 1000000) (hx : x <= 1000000) (hne : 0 < q.pages.length) (hget : ∀ a c, (q.C a c)[j]? = some (.iz (x : Int))) (hset : ∀ a c, (q.C a c).set j (.iz (((x + 1) % q.pages.length : Nat) : Int)) = q'.C a c) (hp : q'.pages = q.pages) (h : St w0 (ClkAt b q :: l) w) :
  Ret prog 118 [.pz b, .pointer (some ⟨b, j, none⟩)] w fun v w' => St w0 (ClkAt b q' :: l) w' := by
 obtain ⟨a, c, h⟩ := St.clk.1 h
 refine en func118 results118 ntmps118 ?_
 refine jh (some 12) (fun w => St w0 _ w) O1 O1 h.drew fun w h => ?_
 refine Y1j ?_; refine Y1j ?_; refine Y44 ?_
 refine qj rfl rfl rfl rfl h (fun _ h => qh rfl (qq (v := .iz (x : Int)) rfl (h.b 0 rfl) (hget a c))) ?_
 refine cpv rfl rfl rfl rfl h rfl (qr (v' := .iz (x + 1 : Nat)) (vt rfl rfl) (congrArg Value.iz ((wrap64 O0 O0).trans O0))) ?_
 refine Y3 ?_
 refine qj rfl rfl rfl rfl h (fun _ h => qh rfl (qq (v := .slice a q.pages.length c) rfl (h.b 0 rfl) rfl)) ?_
 refine Y2x ?_
 refine cpv rfl rfl rfl rfl h rfl (qr (v' := .iz ((x + 1) % q.pages.length : Nat)) (nl rfl rfl O0) (congrArg Value.iz (zn _ _))) ?_
 refine Y44 ?_; refine Yg ?_
 refine jk 12 rfl rfl rfl ?_
 refine qb 0 h rfl (show _ = Value.iz (((x + 1) % q.pages.length : Nat) : Int) from rfl) rfl (by show Zy j 6 = true; rw [Xq]; exact hj) (by rw [Nat.ble_eq]; exact Ud j) rfl fun w h => ?_
 refine bq0n ?_
 refine St.clk.2 ⟨a, c, ?_⟩
 rw [hp]
 have h2 : St w0 (pt b (.cells ((q.C a c).set j (.iz (((x + 1) % q.pages.length : Nat) : Int))).toArray 104 (0, 0)) :: OwnPg a c q.pages :: l) w := h
 rw [hset] at h2
 exact h2
theorem zl {b : Nat} {q : Clk} {n : Int} (hn : -1 <= n ∧ n <= 1) (hq : q.Wf) (h : St w0 (ClkAt b q :: l) w) :
  Ret prog 85 [.pz b, .iz n] w fun v w' => St w0 (ClkAt b (q.aim n) :: l) w' := by
 obtain ⟨a, c, h⟩ := St.clk.1 h
 have hm := hq.most
 have ht := hq.target
 refine en func85 results85 ntmps85 ?_
 refine jh (some 15) (fun w => St w0 _ w) O1 O1 h.drew fun w h => ?_
 refine Y1j ?_; refine Y3 ?_
 refine qj rfl rfl rfl rfl h (fun _ h => qh rfl (qq (v := .iz q.target) rfl (h.b 0 rfl) rfl)) ?_
 refine Y18 ?_
 refine cpv rfl rfl rfl rfl h rfl (qr (v' := .iz (q.target + n)) (vt rfl rfl) (congrArg Value.iz (wrap64 O0 O0))) ?_
 refine cpv rfl rfl rfl rfl h rfl (sw rfl rfl) ?_; refine Y3 ?_
 refine qj rfl rfl rfl rfl h (fun _ h => qh rfl (qq (v := .iz q.most) rfl (h.b 0 rfl) rfl)) ?_
 refine cpv rfl rfl rfl rfl h rfl (ro rfl rfl) ?_; refine Y2y ?_; refine Yg ?_
 refine jk 15 rfl rfl rfl ?_
 refine qb 0 h rfl (show _ = Value.iz (min (max (q.target + n) 1) q.most) from rfl) rfl rfl rfl rfl fun w h => ?_
 refine bq0n ?_
 exact St.clk.2 ⟨a, c, h⟩
end
end
section
section
variable {w0 w : World} {l : List HProp}
theorem Clk.hands_le {q : Clk} (hq : q.Wf) (hn : q.pages.length <= 1000000) : q.hot <= 1000000 ∧ q.cold <= 1000000 ∧ q.test <= 1000000 := by
 have h1 := hq.hot
 have h2 := hq.cold
 have h3 := hq.test
 omega
def upH (i h : Nat) : Nat := if h ≥ i then h + 1 else h
theorem ow {b : Nat} {q : Clk} {p : Pg} (hq : q.Wf) (hn : q.pages.length <= 1000000) (h : St w0 (ClkAt b q :: l) w) : Ret prog 87 [.pz b, .agg p.C.toArray] w fun v w' => St w0 (ClkAt b (q.comes p) :: l) w' := by
 obtain ⟨a, c, h⟩ := St.clk.1 h
 have hh := Clk.hands_le hq hn
 have hhot := hq.hot
 refine en func87 results87 ntmps87 ?_
 refine Y1 ?_
 refine r_c rfl (jv h (show _ = Value.agg p.C.toArray from rfl) fun bp w h => ?_)
 replace h : St w0 (PgPt bp p :: ClkPt b a c q :: OwnPg a c q.pages :: l) w := h
 refine Y2e ?_; refine Y5 ?_
 refine r_v (qq (v := .slice a q.pages.length c) rfl (h.b 1 rfl) rfl) rfl ?_
 refine Y15 ?_; refine Yp ?_
 by_cases h0 : q.pages = []
 ·refine qz (.bool true) (by rw [h0]; rfl) ?_
  refine Yd ?_; refine Ym ?_
  refine r_v (qx (l := p.C) rfl rfl (qw (h.b 0 rfl) rfl)) rfl ?_
  refine r_c rfl (jg (r := p.C) h rfl rfl rfl fun bs w h => ?_)
  refine Yi ?_
  refine r_c rfl (qb 2 h rfl (show _ = Value.slice (sQ bs) 1 1 from rfl) rfl rfl rfl rfl fun w h => ?_)
  refine Y2 ?_; refine Y10 ?_; refine Y1t ?_
  refine r_c rfl (qb 2 h rfl (show _ = Value.iz 0 from rfl) rfl rfl rfl rfl fun w h => ?_)
  refine Yi ?_
  refine r_c rfl (qb 2 h rfl (show _ = Value.iz 0 from rfl) rfl rfl rfl rfl fun w h => ?_)
  refine Yi ?_
  refine r_c rfl (qb 2 h rfl (show _ = Value.iz 0 from rfl) rfl rfl rfl rfl fun w h => ?_)
  refine qv (qk (bq0 ?_))
  have e : q.comes p = ⟨q.most, q.target, [p], 0, 0, 0⟩ := by unfold Clk.comes; rw [if_pos h0]
  rw [e]
  refine St.clk.2 ⟨some ⟨bs, 0, none⟩, 1, ?_⟩
  have h1 : St w0 (OwnPg (sQ bs) 1 [p] :: PgPt bp p :: ClkPt b (sQ bs) 1 ⟨q.most, q.target, [p], 0, 0, 0⟩ :: OwnPg a c q.pages :: l) w := St.own_mk h rfl rfl (Ug _)
  exact (h1.x [1, 3]).f 1
 have hpos : 0 < q.pages.length := Vt.2 h0
 refine qz (.bool false) O5 ?_
 refine Yb ?_; refine Y5 ?_
 refine r_v (qq (v := .iz (q.hot : Int)) rfl (h.b 1 rfl) rfl) rfl ?_
 refine Y4 ?_
 have hi : q.hot <= q.pages.length := by omega
 refine qt (Γ := Unit) (fun _ => [(0, .pz b), (4, .iz (q.hot : Int))]) (fun _ w => ∃ a' c', St w0 (CcPt b q.most q.target a' (insP q.pages q.hot p).length c' q.hot q.cold q.test :: OwnPg a' c' (insP q.pages q.hot p) :: l) w) ?_ ?_
 ·refine jh (some 8) (fun w => St w0 _ w) O1 O1 h.drew fun w h => ?_
  refine Y1j ?_; refine Y3 ?_
  refine qj rfl rfl rfl rfl h (fun _ h => qh rfl (qq (v := .slice a q.pages.length c) rfl (h.b 1 rfl) rfl)) ?_
  refine Y18 ?_; refine Y2q ?_
  refine qd 6 rfl rfl rfl rfl ?_
  refine x_v (qx (l := p.C) rfl rfl (qw (h.b 0 rfl) rfl)) ⟨fun _ => h, ?_⟩
  refine Y3m ?_
  refine qd 7 rfl rfl rfl rfl ?_
  refine jg (r := p.C) h rfl rfl rfl fun bs w h => ⟨fun _ => h.drop, ?_⟩
  have h1 := h
  replace h := h1.drop
  refine Y16 ?_
  refine jy 8 (some 11) rfl rfl rfl rfl ?_
  refine qg rfl (cj (i := q.hot) (l := PgPt bp p :: ClkPt b a c q :: l) hn hi hpos (h1.o [0, 3, 1, 2])) ?_
  clear h h1
  rintro _ w ⟨a', c', rfl, h⟩
  refine jz h ?_
  refine Y2y ?_; refine Yg ?_
  refine jk 11 rfl rfl rfl ?_
  refine qb 2 h rfl (show _ = Value.slice a' (insP q.pages q.hot p).length c' from rfl) rfl rfl rfl rfl fun w h => ?_
  refine ⟨(), zz2, a', c', ?_⟩
  exact (h.x [1]).f 1
 rintro - w e ⟨a, c, h⟩
 refine Ym ?_
 refine r_c rfl (qg rfl (db h) ?_)
 clear h
 rintro _ w ⟨bh, rfl, h⟩
 refine Y15 ?_; refine Y0 ?_; refine Y2 ?_
 have hm := insP_len (p := p) hi
 generalize hme : (insP q.pages q.hot p).length = m at h
 refine Yh ?_
 refine jx (Γ := Nat) (fun k => [(4, .iz (q.hot : Int)), (43, .slice (sQ bh) 3 3), (44, .iz 3), (45, .iz k)])
  (fun k w => k <= 3 ∧ St w0 (HsPt bh b :: CcPt b q.most q.target a m c (if 1 <= k then upH q.hot q.hot else q.hot) (if 2 <= k then upH q.hot q.cold else q.cold) (if 3 <= k then upH q.hot q.test else q.test) :: OwnPg a c (insP q.pages q.hot p) :: l) w) (fun k => 3 - k) 0 zz4 ⟨Ud _, h⟩ ?_
 clear h
 rintro k w e ⟨hk, h⟩
 refine Y3p ?_
 by_cases hlt : k < 3
 ·refine qz (.bool true) O3 ?_
  refine Y42 ?_; refine Y1z ?_
  obtain rfl | rfl | rfl : k = 0 ∨ k = 1 ∨ k = 2 := by omega
  ·replace h : St w0 (HsPt bh b :: CcPt b q.most q.target a m c q.hot q.cold q.test :: OwnPg a c (insP q.pages q.hot p) :: l) w := h
   have hx : q.hot <= 1000000 := by omega
   refine Y1 ?_
   refine r_v (jb (j := 0) (o' := 0) rfl rfl rfl O2 rfl) rfl ?_
   refine r_v (qq (v := .pointer (some ⟨b, 3, none⟩)) rfl (h.b 0 rfl) rfl) rfl ?_
   refine Y1i ?_; refine Y1a ?_; refine Y1c ?_
   refine r_v (qq (v := .iz (q.hot : Int)) rfl (h.b 1 rfl) rfl) rfl ?_
   refine Y0 ?_; refine Y1m ?_
   by_cases hc : q.hot ≥ q.hot
   ·refine qz (.bool true) O3 ?_
    refine Y3s ?_; refine Y1c ?_
    refine r_v (qq (v := .iz (q.hot : Int)) rfl (h.b 1 rfl) rfl) rfl ?_
    refine r_v (qr (v' := .iz (q.hot + 1 : Nat)) (vt rfl rfl) (congrArg Value.iz ((wrap64 O0 O0).trans O0))) rfl ?_
    refine Y1c ?_
    refine r_c rfl (qb 1 h rfl (show _ = Value.iz ((q.hot + 1 : Nat) : Int) from rfl) rfl rfl rfl rfl fun w h => ?_)
    replace h : St w0 (HsPt bh b :: CcPt b q.most q.target a m c (q.hot + 1) q.cold q.test :: OwnPg a c (insP q.pages q.hot p) :: l) w := h
    refine Y3h ?_
    refine qz (.iz (1 : Nat)) rfl ?_
    refine Y0 ?_
    refine qv ⟨1, zz4, ⟨O_c, ?_⟩, O_c⟩
    rw [<- show upH q.hot q.hot = q.hot + 1 by unfold upH; rw [if_pos hc]] at h
    exact h
   ·refine qz (.bool false) O4 ?_
    refine Yb ?_; refine Yt ?_
    refine qz (.iz (1 : Nat)) rfl ?_
    refine Y0 ?_
    refine qv ⟨1, zz4, ⟨O_c, ?_⟩, O_c⟩
    have e9 : upH q.hot q.hot = q.hot := by unfold upH; rw [if_neg hc]
    show St w0 (HsPt bh b :: CcPt b q.most q.target a m c (upH q.hot q.hot) q.cold q.test :: OwnPg a c (insP q.pages q.hot p) :: l) w
    rw [e9]
    exact h
  ·replace h : St w0 (HsPt bh b :: CcPt b q.most q.target a m c (upH q.hot q.hot) q.cold q.test :: OwnPg a c (insP q.pages q.hot p) :: l) w := h
   have hx : q.cold <= 1000000 := by omega
   refine Y1 ?_
   refine r_v (jb (j := 1) (o' := 1) rfl rfl rfl O2 rfl) rfl ?_
   refine r_v (qq (v := .pointer (some ⟨b, 4, none⟩)) rfl (h.b 0 rfl) rfl) rfl ?_
   refine Y1i ?_; refine Y1a ?_; refine Y1c ?_
   refine r_v (qq (v := .iz (q.cold : Int)) rfl (h.b 1 rfl) rfl) rfl ?_
   refine Y0 ?_; refine Y1m ?_
   by_cases hc : q.cold ≥ q.hot
   ·refine qz (.bool true) O3 ?_
    refine Y3s ?_; refine Y1c ?_
    refine r_v (qq (v := .iz (q.cold : Int)) rfl (h.b 1 rfl) rfl) rfl ?_
    refine r_v (qr (v' := .iz (q.cold + 1 : Nat)) (vt rfl rfl) (congrArg Value.iz ((wrap64 O0 O0).trans O0))) rfl ?_
    refine Y1c ?_
    refine r_c rfl (qb 1 h rfl (show _ = Value.iz ((q.cold + 1 : Nat) : Int) from rfl) rfl rfl rfl rfl fun w h => ?_)
    replace h : St w0 (HsPt bh b :: CcPt b q.most q.target a m c (upH q.hot q.hot) (q.cold + 1) q.test :: OwnPg a c (insP q.pages q.hot p) :: l) w := h
    refine Y3h ?_
    refine qz (.iz (2 : Nat)) rfl ?_
    refine Y0 ?_
    refine qv ⟨2, zz4, ⟨O_c, ?_⟩, O_c⟩
    rw [<- show upH q.hot q.cold = q.cold + 1 by unfold upH; rw [if_pos hc]] at h
    exact h
   ·refine qz (.bool false) O4 ?_
    refine Yb ?_; refine Yt ?_
    refine qz (.iz (2 : Nat)) rfl ?_
    refine Y0 ?_
    refine qv ⟨2, zz4, ⟨O_c, ?_⟩, O_c⟩
    have e9 : upH q.hot q.cold = q.cold := by unfold upH; rw [if_neg hc]
    show St w0 (HsPt bh b :: CcPt b q.most q.target a m c (upH q.hot q.hot) (upH q.hot q.cold) q.test :: OwnPg a c (insP q.pages q.hot p) :: l) w
    rw [e9]
    exact h
  ·replace h : St w0 (HsPt bh b :: CcPt b q.most q.target a m c (upH q.hot q.hot) (upH q.hot q.cold) q.test :: OwnPg a c (insP q.pages q.hot p) :: l) w := h
   have hx : q.test <= 1000000 := by omega
   refine Y1 ?_
   refine r_v (jb (j := 2) (o' := 2) rfl rfl rfl O2 rfl) rfl ?_
   refine r_v (qq (v := .pointer (some ⟨b, 5, none⟩)) rfl (h.b 0 rfl) rfl) rfl ?_
   refine Y1i ?_; refine Y1a ?_; refine Y1c ?_
   refine r_v (qq (v := .iz (q.test : Int)) rfl (h.b 1 rfl) rfl) rfl ?_
   refine Y0 ?_; refine Y1m ?_
   by_cases hc : q.test ≥ q.hot
   ·refine qz (.bool true) O3 ?_
    refine Y3s ?_; refine Y1c ?_
    refine r_v (qq (v := .iz (q.test : Int)) rfl (h.b 1 rfl) rfl) rfl ?_
    refine r_v (qr (v' := .iz (q.test + 1 : Nat)) (vt rfl rfl) (congrArg Value.iz ((wrap64 O0 O0).trans O0))) rfl ?_
    refine Y1c ?_
    refine r_c rfl (qb 1 h rfl (show _ = Value.iz ((q.test + 1 : Nat) : Int) from rfl) rfl rfl rfl rfl fun w h => ?_)
    replace h : St w0 (HsPt bh b :: CcPt b q.most q.target a m c (upH q.hot q.hot) (upH q.hot q.cold) (q.test + 1) :: OwnPg a c (insP q.pages q.hot p) :: l) w := h
    refine Y3h ?_
    refine qz (.iz (3 : Nat)) rfl ?_
    refine Y0 ?_
    refine qv ⟨3, zz4, ⟨O_c, ?_⟩, O_c⟩
    rw [<- show upH q.hot q.test = q.test + 1 by unfold upH; rw [if_pos hc]] at h
    exact h
   ·refine qz (.bool false) O4 ?_
    refine Yb ?_; refine Yt ?_
    refine qz (.iz (3 : Nat)) rfl ?_
    refine Y0 ?_
    refine qv ⟨3, zz4, ⟨O_c, ?_⟩, O_c⟩
    have e9 : upH q.hot q.test = q.test := by unfold upH; rw [if_neg hc]
    show St w0 (HsPt bh b :: CcPt b q.most q.target a m c (upH q.hot q.hot) (upH q.hot q.cold) (upH q.hot q.test) :: OwnPg a c (insP q.pages q.hot p) :: l) w
    rw [e9]
    exact h
 ·refine qz (.bool false) O4 ?_
  refine qv (qf (qe rfl (ju ?_)))
  obtain rfl : k = 3 := by omega
  refine Eq.mpr (if_pos rfl) (bq0n ?_)
  refine St.clk.2 ⟨a, c, ?_⟩
  have h := h.drop
  have e3 : q.comes p = ⟨q.most, q.target, insP q.pages q.hot p, upH q.hot q.hot, upH q.hot q.cold, upH q.hot q.test⟩ := by unfold Clk.comes; rw [if_neg h0]; simp [upH]
  rw [e3]
  rw [<- hme] at h
  exact h
theorem vu {q : Clk} {a : Option Addr} {c x : Nat} {p : Pg} (hp : q.pages[x]? = some p) (h : St w0 (OwnPg a c q.pages :: l) w) : ∃ g, a = some ⟨g, 0, none⟩ := h.own_some (by have := (Uf.1 hp).1; omega)
theorem j1 {g c x j : Nat} {L : List Pg} {p p' : Pg} {u : Value} (hp : L[x]? = some p) (hj : j < 7) (hu : p'.C = p.C.set j u) (h : St w0 (Own 113 7 (sQ g) L.length c ((pgsV L).set (x * 7 + j) u) :: l) w) : St w0 (OwnPg (sQ g) c (L.set x p') :: l) w := by
 rw [ka gy L x p p' j u hp hj hu] at h
 have e : L.length = (L.set x p').length := by rw [Vd]
 rw [e] at h
 exact h
theorem Clk.setP_C {q : Clk} {i : Nat} {p : Pg} {a : Option Addr} {c : Nat} : (q.setP i p).C a c = q.C a c := by
 show [_, _, Value.slice a (q.pages.set i p).length c, _, _, _] = _
 rw [Vd]; rfl
theorem St.setP {b : Nat} {q : Clk} {a : Option Addr} {c i : Nat} {p : Pg} (h : St w0 (ClkPt b a c q :: OwnPg a c (q.pages.set i p) :: l) w) : St w0 (ClkAt b (q.setP i p) :: l) w :=
 St.clk.2 ⟨a, c, by
  show St w0 (pt b (.cells ((q.setP i p).C a c).toArray 104 (0, 0)) :: OwnPg a c (q.pages.set i p) :: l) w
  rw [Clk.setP_C]; exact h⟩
theorem oh {b : Nat} {q : Clk} (hq : q.Wf) (hn : q.pages.length <= 1000000) (hne : 0 < q.pages.length) (h : St w0 (ClkAt b q :: l) w) : Ret prog 118 [.pz b, .pointer (some ⟨b, 3, none⟩)] w fun v w' => St w0 (ClkAt b q.onHot :: l) w' :=
 nk (q := q) (q' := q.onHot) (x := q.hot) O2 hn (Clk.hands_le hq hn).1 hne (fun _ _ => rfl) (fun _ _ => rfl) rfl h
theorem ub {b : Nat} {q : Clk} (hq : q.Wf) (hn : q.pages.length <= 1000000) (hne : 0 < q.pages.length) (h : St w0 (ClkAt b q :: l) w) : Ret prog 118 [.pz b, .pointer (some ⟨b, 4, none⟩)] w fun v w' => St w0 (ClkAt b q.onCold :: l) w' :=
 nk (q := q) (q' := q.onCold) (x := q.cold) O2 hn (Clk.hands_le hq hn).2.1 hne (fun _ _ => rfl) (fun _ _ => rfl) rfl h
theorem cg {b : Nat} {q : Clk} (hq : q.Wf) (hn : q.pages.length <= 1000000) (hne : 0 < q.pages.length) (h : St w0 (ClkAt b q :: l) w) : Ret prog 118 [.pz b, .pointer (some ⟨b, 5, none⟩)] w fun v w' => St w0 (ClkAt b q.onTest :: l) w' :=
 nk (q := q) (q' := q.onTest) (x := q.test) O2 hn (Clk.hands_le hq hn).2.2 hne (fun _ _ => rfl) (fun _ _ => rfl) rfl h
end
end
section
section
variable {w0 w : World} {l : List HProp}
theorem jc {g c x j : Nat} {L : List Pg} {p : Pg} {v : Value} (hp : L[x]? = some p) (hv : p.C[j]? = some v) (h : St w0 (OwnPg (sQ g) c L :: l) w) : w.cell? ⟨g, 0 + x * 7 + j, none⟩ = some v := by
 have := h.own_rd.cell (zp gy L x p hp j v hv)
 rwa [Uz] at this ⊢
theorem gq {L : List Pg} {x j : Nat} {p : Pg} (hp : L[x]? = some p) (hj : j < 7) : 0 + x * 7 + j < L.length * 7 := by
 have := (Uf.1 hp).1
 omega
theorem vk {b a c} {q : Clk} : Reads w0 (ClkPt b a c q :: OwnPg a c q.pages :: l) 7 a q.pages.length (pgsV q.pages) := Reads.own.cons
theorem zj {b : Nat} {q : Clk} (hq : q.Wf) (hn : q.pages.length <= 1000000) (h : St w0 (ClkAt b q :: l) w) : Ret prog 117 [.pz b] w fun v w' => St w0 (ClkAt b q.hotTurns :: l) w' := by
 obtain ⟨a, c, h⟩ := St.clk.1 h
 refine en func117 results117 ntmps117 ?_
 refine Y4g ?_; refine Y1c ?_
 refine r_v (qx (l := q.C a c) rfl rfl (qw (h.b 0 rfl) rfl)) rfl ?_
 refine r_c rfl (qg rfl (gz p9 hn vk h) ?_)
 clear h
 rintro _ w ⟨rfl, h⟩
 refine Yp ?_
 by_cases h0 : q.count Pg.hot = 0
 ·refine qz (.bool true) O13 ?_
  refine qv (vq rfl (qk (bq0 ?_)))
  unfold Clk.hotTurns
  rw [if_pos h0]
  exact St.clk.2 ⟨a, c, h⟩
 refine qz (.bool false) O5 ?_
 refine Yb ?_
 unfold Clk.hotTurns
 rw [if_neg h0]
 generalize hfu : (q.pages.length + 1) * (q.pages.length + 1) = fu
 have hfin : Clk.hotFin fu q := by rw [<- hfu]; exact Clk.hot_fin hq O0
 clear h0 hfu
 obtain ⟨R, hR⟩ : ∃ R, Clk.hotRun fu q = R := ⟨_, rfl⟩
 rw [hR]
 refine Yh ?_
 refine jx (Γ := Nat × Clk) (fun _ => [(0, .pz b)])
  (fun x w => x.2.Wf ∧ x.2.pages.length <= 1000000 ∧ Clk.hotFin x.1 x.2 ∧ Clk.hotRun x.1 x.2 = R ∧ St w0 (ClkAt b x.2 :: l) w) (fun x => x.1) (fu, q) ⟨rfl, trivial⟩ ⟨hq, hn, hfin, hR, St.clk.2 ⟨a, c, h⟩⟩ ?_
 clear h hq hn hfin hR
 rintro ⟨k, u⟩ w e ⟨hq, hn, hfin, hres, h⟩
 dsimp only at hq hn hfin hres h ⊢
 obtain ⟨a, c, h⟩ := St.clk.1 h
 obtain ⟨k, rfl⟩ : ∃ k', k = k' + 1 := by
  cases k with
  | zero => exact hfin.elim
  | succ k => exact ⟨k, rfl⟩
 obtain ⟨p, hp, hfin⟩ := hfin
 unfold Clk.hotRun at hres
 rw [hp] at hres
 dsimp only at hres
 obtain ⟨o1, o2, _⟩ := Clk.hotAt_ok hq hp
 have hlen := o2.len
 obtain ⟨g, rfl⟩ := vu hp (h.f 1)
 have hlt := (Uf.1 hp).1
 have hh := Clk.hands_le hq hn
 refine Yh ?_
 refine qf (jh none (fun w => St w0 (ClkPt b (sQ g) c u :: OwnPg (sQ g) c u.pages :: l) w) O1 O1 h.drew fun w h => ?_)
 refine Y3 ?_
 refine qj rfl rfl rfl rfl h (fun _ h => qh rfl (qq (v := .slice (sQ g) u.pages.length c) rfl (h.b 0 rfl) rfl)) ?_
 refine Y3 ?_
 refine qj rfl rfl rfl rfl h (fun _ h => qh rfl (qq (v := .iz (u.hot : Int)) rfl (h.b 0 rfl) rfl)) ?_
 refine cpv rfl rfl rfl rfl h rfl (jb (j := u.hot) (o' := 0 + u.hot * 7) rfl rfl rfl hlt rfl) ?_
 refine cpv rfl rfl rfl rfl h rfl (ut rfl) ?_
 refine qn ?_
 refine Y12 ?_
 refine qt (Γ := Bool) (fun ov => [(0, .pz b), (3, .bool ov)])
  (fun ov w => p.kind ≠ 3 ∧ (u.hotAt p).2 = ov ∧ ∃ p' : Pg, (u.hotAt p).1 = (u.setP u.hot p').onHot ∧ p'.Ok ∧ St w0 (ClkAt b (u.setP u.hot p') :: l) w) ?_ ?_
 ·refine Yh ?_; refine Y5 ?_
  refine r_v (jj (v := .iz p.kind) rfl (jc (j := 3) hp rfl (h.f 1))) rfl ?_
  refine Yp ?_; refine Y7 ?_
  by_cases h3 : p.kind = 3
  ·refine qv (vq (by rw [h3]; rfl) ?_)
   have e1 : u.hotAt p = ((u.goes u.hot).aim (-1), false) := by unfold Clk.hotAt; rw [if_pos h3]
   refine Y2p ?_
   refine r_v (qq (v := .iz (u.hot : Int)) rfl (h.b 0 rfl) rfl) rfl ?_
   refine r_c rfl (qg rfl (yo hn hh hlt (St.clk.2 ⟨_, _, h⟩)) ?_)
   clear h
   intro _ w h
   refine Y1a ?_
   refine r_c rfl (qg rfl (zl O0 (hq.goes hlt) h) ?_)
   clear h
   intro _ w h
   refine qv (ju ?_)
   refine Eq.mpr (if_neg O2) (Eq.mpr (if_pos rfl) ?_)
   rw [e1] at hres hfin o1 hlen
   rw [if_neg O8] at hres
   exact ⟨(k, (u.goes u.hot).aim (-1)), ⟨rfl, trivial⟩, ⟨o1, Uy hlen hn, hfin.resolve_left O8, hres, h⟩, Wk k⟩
  ·refine qv (qe (by show Value.bool (p.kind == 3) = _; congr 1; rw [beq_eq_false_iff_ne]; exact h3) ?_)
   have hok := hq.kinds p (Uj hp)
   refine Y5 ?_
   refine r_v (jj (v := .iz p.kind) rfl (jc (j := 3) hp rfl (h.f 1))) rfl ?_
   refine Yp ?_
   by_cases h1 : p.kind = 1
   ·refine qz (.bool true) (by congr 1; rw [beq_iff_eq]; exact h1) ?_
    refine Y32 ?_
    refine r_v (jj (v := .bool p.ref) rfl (jc (j := 4) hp rfl (h.f 1))) rfl ?_
    refine Y2m ?_
    cases hr : p.ref
    ·refine Y24 ?_; refine Y5 ?_
     refine r_v (jj (v := .iz p.kind) rfl (jc (j := 3) hp rfl (h.f 1))) rfl ?_
     refine Yp ?_; refine Y7 ?_
     refine qv (vq (by rw [h1]; rfl) ?_)
     refine Y10 ?_; refine Y1t ?_
     refine r_c rfl (jo (v := .iz 2) (h.f 1) rfl rfl (gq (j := 3) hp O2) rfl fun w h => ?_)
     rw [Uz] at h
     replace h := j1 (p' := { p with kind := 2 }) hp O2 rfl h
     have hp2 : (u.pages.set u.hot { p with kind := 2 })[u.hot]? = some { p with kind := 2 } := by rw [Wi hlt]
     refine Yi ?_
     refine r_c rfl (jo (v := .bool false) h rfl rfl (gq (j := 4) hp2 O2) rfl fun w h => ?_)
     rw [Uz] at h
     replace h := j1 (p' := { p with kind := 2, ref := false }) hp2 O2 rfl h
     rw [Kd] at h
     have hp3 : (u.pages.set u.hot { p with kind := 2, ref := false })[u.hot]? = some { p with kind := 2, ref := false } := by rw [Wi hlt]
     refine Yi ?_
     refine r_c rfl (jo (v := .bool false) h rfl rfl (gq (j := 5) hp3 O2) rfl fun w h => ?_)
     rw [Uz] at h
     replace h := j1 (p' := { p with kind := 2, ref := false, trial := false }) hp3 O2 rfl h
     rw [Kd] at h
     refine Y2 ?_; refine j2 ?_; refine Y7 ?_
     refine qv ⟨true, zz2, h3, ?_, { p with kind := 2, ref := false, trial := false }, ?_, ⟨.inr (.inl rfl), hok.2.1, fun h => by cases h⟩, St.setP (h.f 1)⟩
     ·unfold Clk.hotAt; rw [if_neg h3, if_pos h1, if_neg (by rw [hr]; simp)]
     ·unfold Clk.hotAt; rw [if_neg h3, if_pos h1, if_neg (by rw [hr]; simp)]
    ·refine Yd ?_; refine Y2l ?_
     refine r_c rfl (jo (v := .bool false) (h.f 1) rfl rfl (gq (j := 4) hp O2) rfl fun w h => ?_)
     rw [Uz] at h
     replace h := j1 (p' := { p with ref := false }) hp O2 rfl h
     refine qv ⟨false, zz2, h3, ?_, { p with ref := false }, ?_, hok, St.setP (h.f 1)⟩
     ·unfold Clk.hotAt; rw [if_neg h3, if_pos h1, if_pos hr]
     ·unfold Clk.hotAt; rw [if_neg h3, if_pos h1, if_pos hr]
   ·refine qz (.bool false) (by congr 1; rw [beq_eq_false_iff_ne]; exact h1) ?_
    refine Y19 ?_; refine Y9 ?_; refine Y39 ?_; refine Y5 ?_
    refine r_v (jj (v := .iz p.kind) rfl (jc (j := 3) hp rfl (h.f 1))) rfl ?_
    refine Yp ?_; refine Y7 ?_
    refine qv (qe (by show Value.bool (p.kind == 1) = _; congr 1; rw [beq_eq_false_iff_ne]; exact h1) ?_)
    refine Y2l ?_
    refine r_c rfl (jo (v := .bool false) (h.f 1) rfl rfl (gq (j := 5) hp O2) rfl fun w h => ?_)
    rw [Uz] at h
    replace h := j1 (p' := { p with trial := false }) hp O2 rfl h
    refine qv ⟨false, zz2, h3, ?_, { p with trial := false }, ?_, hok, St.setP (h.f 1)⟩
    ·unfold Clk.hotAt; rw [if_neg h3, if_neg h1]
    ·unfold Clk.hotAt; rw [if_neg h3, if_neg h1]
 rintro ov w e ⟨h3, hov, p', hat, hok', h⟩
 refine Y2p ?_
 have hw' := hq.setP (i := u.hot) hok'
 have hl' : (u.setP u.hot p').pages.length = u.pages.length := Vd ..
 refine r_c rfl (qg rfl (oh hw' O0 O0 h) ?_)
 clear h
 intro _ w h
 rw [<- hat] at h
 refine Yn ?_; refine Y1p ?_
 refine qv (qi ov rfl (fun hc => ?_) (fun hc => ?_))
 ·subst hc
  refine qk ?_
  rw [if_pos hov] at hres
  rw [hres] at h
  exact bq0 h
 ·subst hc
  rw [if_neg (by rw [hov]; simp)] at hres
  refine qa ⟨(k, (u.hotAt p).1), ⟨rfl, trivial⟩, ⟨o1, Uy hlen hn, hfin.resolve_left (by rw [hov]; simp), hres, h⟩, Wk k⟩
theorem dm {b : Nat} {q : Clk} (hq : q.Wf) (hn : q.pages.length <= 1000000) (h : St w0 (ClkAt b q :: l) w) : Ret prog 134 [.pz b] w fun v w' => St w0 (ClkAt b q.testTurns :: l) w' := by
 obtain ⟨a, c, h⟩ := St.clk.1 h
 refine en func134 results134 ntmps134 ?_
 refine Y4g ?_; refine Y1c ?_
 refine r_v (qx (l := q.C a c) rfl rfl (qw (h.b 0 rfl) rfl)) rfl ?_
 refine r_c rfl (qg rfl (gz sr hn vk h) ?_)
 clear h
 rintro _ w ⟨rfl, h⟩
 refine Yp ?_
 by_cases h0 : q.count Pg.test = 0
 ·refine qz (.bool true) O13 ?_
  refine qv (vq rfl (qk (bq0 ?_)))
  unfold Clk.testTurns
  rw [if_pos h0]
  exact St.clk.2 ⟨a, c, h⟩
 refine qz (.bool false) O5 ?_
 refine Yb ?_
 unfold Clk.testTurns
 rw [if_neg h0]
 generalize hfu : q.pages.length + 1 = fu
 have hfin : Clk.testFin fu q := by rw [<- hfu]; exact Clk.test_fin hq O0
 clear h0 hfu
 obtain ⟨R, hR⟩ : ∃ R, Clk.testRun fu q = R := ⟨_, rfl⟩
 rw [hR]
 refine Yh ?_
 refine jx (Γ := Nat × Clk) (fun _ => [(0, .pz b)])
  (fun x w => x.2.Wf ∧ x.2.pages.length <= 1000000 ∧ Clk.testFin x.1 x.2 ∧ Clk.testRun x.1 x.2 = R ∧ St w0 (ClkAt b x.2 :: l) w) (fun x => x.1) (fu, q) ⟨rfl, trivial⟩ ⟨hq, hn, hfin, hR, St.clk.2 ⟨a, c, h⟩⟩ ?_
 clear h hq hn hfin hR
 rintro ⟨k, u⟩ w e ⟨hq, hn, hfin, hres, h⟩
 dsimp only at hq hn hfin hres h ⊢
 obtain ⟨a, c, h⟩ := St.clk.1 h
 obtain ⟨k, rfl⟩ : ∃ k', k = k' + 1 := by
  cases k with
  | zero => exact hfin.elim
  | succ k => exact ⟨k, rfl⟩
 obtain ⟨p, hp, hfin⟩ := hfin
 unfold Clk.testRun at hres
 rw [hp] at hres
 dsimp only at hres
 obtain ⟨o1, o2, _⟩ := Clk.testAt_ok hq hp
 have hlen := o2.len
 obtain ⟨g, rfl⟩ := vu hp (h.f 1)
 have hlt := (Uf.1 hp).1
 have hh := Clk.hands_le hq hn
 have hok := hq.kinds p (Uj hp)
 refine Yh ?_
 refine qf (jh none (fun w => St w0 (ClkPt b (sQ g) c u :: OwnPg (sQ g) c u.pages :: l) w) O1 O1 h.drew fun w h => ?_)
 refine Y3 ?_
 refine qj rfl rfl rfl rfl h (fun _ h => qh rfl (qq (v := .slice (sQ g) u.pages.length c) rfl (h.b 0 rfl) rfl)) ?_
 refine Y3 ?_
 refine qj rfl rfl rfl rfl h (fun _ h => qh rfl (qq (v := .iz (u.test : Int)) rfl (h.b 0 rfl) rfl)) ?_
 refine cpv rfl rfl rfl rfl h rfl (jb (j := u.test) (o' := 0 + u.test * 7) rfl rfl rfl hlt rfl) ?_
 refine cpv rfl rfl rfl rfl h rfl (ut rfl) ?_
 refine qn ?_
 refine Y2n ?_
 refine r_v (jj (v := .iz p.kind) rfl (jc (j := 3) hp rfl (h.f 1))) rfl ?_
 refine Yp ?_
 by_cases h3 : p.kind = 3
 ·refine qz (.bool true) (by congr 1; rw [beq_iff_eq]; exact h3) ?_
  have e1 : u.testAt p = ((u.goes u.test).aim (-1), true) := by unfold Clk.testAt; rw [if_pos h3]
  refine Yd ?_; refine Y2p ?_
  refine r_v (qq (v := .iz (u.test : Int)) rfl (h.b 0 rfl) rfl) rfl ?_
  refine r_c rfl (qg rfl (yo hn hh hlt (St.clk.2 ⟨_, _, h⟩)) ?_)
  clear h
  intro _ w h
  refine Y1a ?_
  refine r_c rfl (qg rfl (zl O0 (hq.goes hlt) h) ?_)
  clear h
  intro _ w h
  refine qv (qk (bq0 ?_))
  rw [e1, if_pos rfl] at hres
  rw [<- hres]
  exact h
 refine qz (.bool false) (by congr 1; rw [beq_eq_false_iff_ne]; exact h3) ?_
 refine Yb ?_
 refine qt (Γ := Unit) (fun _ => [(0, .pz b)])
  (fun _ w => (u.testAt p).2 = false ∧ ∃ u' : Clk, (u.testAt p).1 = u'.onTest ∧ u'.Wf ∧ u'.pages.length = u.pages.length ∧ St w0 (ClkAt b u' :: l) w) ?_ ?_
 ·refine Y5 ?_
  refine r_v (jj (v := .iz p.kind) rfl (jc (j := 3) hp rfl (h.f 1))) rfl ?_
  refine Yp ?_
  by_cases h2 : p.kind = 2
  ·refine qz (.bool true) (by congr 1; rw [beq_iff_eq]; exact h2) ?_
   refine Y32 ?_
   refine r_v (jj (v := .bool p.trial) rfl (jc (j := 5) hp rfl (h.f 1))) rfl ?_
   refine Yf ?_
   cases hr : p.trial
   ·refine Y24 ?_
    refine qa ⟨(), ⟨rfl, trivial⟩, ?_, u, ?_, hq, rfl, St.clk.2 ⟨_, _, h⟩⟩
    ·unfold Clk.testAt; rw [if_neg h3, if_neg (by rw [hr]; simp)]
    ·unfold Clk.testAt; rw [if_neg h3, if_neg (by rw [hr]; simp)]
   ·refine Yd ?_; refine Y5 ?_
    refine r_c rfl (jo (v := .bool false) (h.f 1) rfl rfl (gq (j := 5) hp O2) rfl fun w h => ?_)
    rw [Uz] at h
    replace h := j1 (p' := { p with trial := false }) hp O2 rfl h
    have hw' := hq.setP (i := u.test) (p' := { p with trial := false }) hok
    refine Y49 ?_
    refine r_c rfl (qg rfl (zl O0 hw' (St.setP (h.f 1))) ?_)
    clear h
    intro _ w h
    refine qv ⟨(), ⟨rfl, trivial⟩, ?_, (u.setP u.test { p with trial := false }).aim (-1), ?_, hw'.aim _, Vd .., h⟩
    ·unfold Clk.testAt; rw [if_neg h3, if_pos ⟨h2, hr⟩]
    ·unfold Clk.testAt; rw [if_neg h3, if_pos ⟨h2, hr⟩]
  ·refine qz (.bool false) (by congr 1; rw [beq_eq_false_iff_ne]; exact h2) ?_
   refine Y19 ?_; refine Y9 ?_; refine Y24 ?_
   refine qa ⟨(), ⟨rfl, trivial⟩, ?_, u, ?_, hq, rfl, St.clk.2 ⟨_, _, h⟩⟩
   ·unfold Clk.testAt; rw [if_neg h3, if_neg (by simp [h2])]
   ·unfold Clk.testAt; rw [if_neg h3, if_neg (by simp [h2])]
 rintro - w e ⟨hov, u', hat, hw', hl', h⟩
 refine Y2u ?_; refine Y1t ?_
 refine r_c rfl (qg rfl (cg hw' O0 O0 h) ?_)
 clear h
 intro _ w h
 rw [<- hat] at h
 rw [if_neg (by rw [hov]; simp)] at hres
 exact qv ⟨(k, (u.testAt p).1), ⟨rfl, trivial⟩, ⟨o1, Uy hlen hn, hfin.resolve_left (by rw [hov]; simp), hres, h⟩, Wk k⟩
theorem s7 {b : Nat} {q : Clk} (hq : q.Wf) (hn : q.pages.length <= 1000000) (h : St w0 (ClkAt b q :: l) w) : Ret prog 88 [.pz b] w fun v w' => St w0 (ClkAt b q.cool :: l) w' := by
 refine en func88 results88 ntmps88 ?_
 unfold Clk.cool
 have hc0 : q.count Pg.hot < q.pages.length + 1 := by have := Clk.count_len q Pg.hot; omega
 generalize q.pages.length + 1 = fu at hc0
 obtain ⟨R, hR⟩ : ∃ R, Clk.coolRun fu q = R := ⟨_, rfl⟩
 rw [hR]
 refine Yh ?_
 refine jx (Γ := Nat × Clk) (fun _ => [(0, .pz b)])
  (fun x w => x.2.Wf ∧ x.2.pages.length <= 1000000 ∧ x.2.count Pg.hot < x.1 ∧ Clk.coolRun x.1 x.2 = R ∧ St w0 (ClkAt b x.2 :: l) w) (fun x => x.1) (fu, q) ⟨rfl, trivial⟩ ⟨hq, hn, hc0, hR, h⟩ ?_
 clear h hq hn hc0 hR
 rintro ⟨k, u⟩ w e ⟨hq, hn, hk, hres, h⟩
 dsimp only at hq hn hk hres h ⊢
 obtain ⟨a, c, h⟩ := St.clk.1 h
 obtain ⟨k, rfl⟩ : ∃ k', k = k' + 1 := ⟨k - 1, O_o⟩
 unfold Clk.coolRun at hres
 have hm := hq.most
 have ht := hq.target
 refine qf (qf (jh none (fun w => St w0 (ClkPt b a c u :: OwnPg a c u.pages :: l) w) O1 O1 h.drew fun w h => ?_))
 refine Y1j ?_; refine Y44 ?_
 refine qj rfl rfl rfl rfl h (fun _ h => qh rfl (qx (l := u.C a c) rfl rfl (qw (h.b 0 rfl) rfl))) ?_
 refine Yg ?_; refine Y3 ?_
 refine qj rfl rfl rfl rfl h (fun _ h => qh rfl (qq (v := .iz u.most) rfl (h.b 0 rfl) rfl)) ?_
 refine Y3 ?_
 refine qj rfl rfl rfl rfl h (fun _ h => qh rfl (qq (v := .iz u.target) rfl (h.b 0 rfl) rfl)) ?_
 refine cpv rfl rfl rfl rfl h rfl (qr (v' := .iz (u.most - u.target)) (vi rfl rfl) (congrArg Value.iz (wrap64 O0 O0))) ?_
 refine Yg ?_
 refine qd 3 rfl rfl rfl rfl (qg rfl (gz p9 hn vk h) ?_)
 clear h
 rintro _ w ⟨rfl, h⟩
 refine ⟨fun _ => h, ?_⟩
 refine cpv rfl rfl rfl rfl h rfl (ki rfl rfl) ?_
 refine qn ?_
 refine qi (decide ((u.count Pg.hot : Int) > u.most - u.target)) rfl (fun hc => ?_) (fun hc => ?_)
 ·have hc2 : (u.count Pg.hot : Int) > u.most - u.target := by simpa using hc
  rw [if_pos hc2] at hres
  refine Yl ?_; refine Yh ?_; refine Y2u ?_
  obtain ⟨o1, o2, o3⟩ := Clk.hotTurns_ok hq
  have hlen := o2.len
  refine r_c rfl (qg rfl (zj hq hn (St.clk.2 ⟨_, _, h⟩)) ?_)
  clear h
  intro _ w h
  exact qv ⟨(k, u.hotTurns), ⟨rfl, trivial⟩, ⟨o1, Uy hlen hn, (show u.hotTurns.count Pg.hot < k by omega), hres, h⟩, Wk k⟩
 ·have hc2 : ¬ (u.count Pg.hot : Int) > u.most - u.target := by simpa using hc
  rw [if_neg hc2] at hres
  refine ju ?_
  refine Eq.mpr (if_pos rfl) (bq0n ?_)
  rw [<- hres]
  exact St.clk.2 ⟨_, _, h⟩
end
end
section
section
variable {w0 w : World} {l : List HProp}
theorem qqf {g c x : Nat} {L : List Pg} {p : Pg} (hp : L[x]? = some p) (h : St w0 (OwnPg (sQ g) c L :: l) w) : At w g (0 + x * 7 + 0) p.key.C := by
 have h2 := h.own_rd.elem gy hp
 intro j v hj
 have hj3 : j < 3 := (Uf.1 hj).1
 refine h2 j v ?_
 rcases (show j = 0 ∨ j = 1 ∨ j = 2 by omega) with rfl | rfl | rfl <;> exact hj
theorem cv {b : Nat} {q : Clk} {p : Pg} (hq : q.Wf) (hn : q.pages.length <= 1000000) (hp : q.pages[q.cold]? = some p) (hc0 : p.coldFree = true) (h : St w0 (ClkAt b q :: l) w) :
  Ret prog 119 [.pz b] w fun v w' => v = .agg p.key.C.toArray ∧ St w0 (ClkAt b (q.putOut p) :: l) w' := by
 obtain ⟨a, c, h⟩ := St.clk.1 h
 have hh := Clk.hands_le hq hn
 have hlt := (Uf.1 hp).1
 have hc2 : p.kind = 2 ∧ p.pins = 0 := by unfold Pg.coldFree at hc0; simpa using hc0
 have hok := hq.kinds p (Uj hp)
 obtain ⟨g, rfl⟩ := vu hp (h.f 1)
 refine en func119 results119 ntmps119 ?_
 refine Y1 ?_
 refine r_c rfl (qp h fun b2 w h => ?_)
 replace h : St w0 (KeyPt b2 ⟨0, 0, 0⟩ :: ClkPt b (sQ g) c q :: OwnPg (sQ g) c q.pages :: l) w := h
 refine Y2 ?_
 refine qf (jh none (fun w => St w0 (KeyPt b2 ⟨0, 0, 0⟩ :: ClkPt b (sQ g) c q :: OwnPg (sQ g) c q.pages :: l) w) O1 O1 h.drew fun w h => ?_)
 refine Y3 ?_
 refine qj rfl rfl rfl rfl h (fun _ h => qh rfl (qq (v := .slice (sQ g) q.pages.length c) rfl (h.b 1 rfl) rfl)) ?_
 refine Y3 ?_
 refine qj rfl rfl rfl rfl h (fun _ h => qh rfl (qq (v := .iz (q.cold : Int)) rfl (h.b 1 rfl) rfl)) ?_
 refine cpv rfl rfl rfl rfl h rfl (jb (j := q.cold) (o' := 0 + q.cold * 7) rfl rfl rfl hlt rfl) ?_
 refine cpv rfl rfl rfl rfl h rfl (ut rfl) ?_
 refine qn ?_
 refine Y5 ?_
 refine r_v (qx (l := p.key.C) rfl rfl (qqf hp (h.f 2))) rfl ?_
 refine r_c rfl (qp h fun b4 w h => ?_)
 refine r_c rfl (qy (vs := p.key.C) 0 h rfl rfl rfl rfl rfl rfl rfl fun w h => ?_)
 replace h : St w0 (KeyPt b4 p.key :: KeyPt b2 ⟨0, 0, 0⟩ :: ClkPt b (sQ g) c q :: OwnPg (sQ g) c q.pages :: l) w := h
 refine Y2 ?_
 refine qt (Γ := Unit) (fun _ => [(0, .pz b), (2, .pz b2), (4, .pz b4)])
  (fun _ w => ∃ u : Clk, q.putOut p = u.shed ∧ u.Wf ∧ u.pages.length <= 1000000 ∧ St w0 (ClkAt b u :: KeyPt b4 p.key :: KeyPt b2 ⟨0, 0, 0⟩ :: l) w) ?_ ?_
 ·refine Y5 ?_
  refine r_v (jj (v := .bool p.trial) rfl (jc (j := 5) hp rfl (h.f 3))) rfl ?_
  cases ht : p.trial
  ·refine Y24 ?_; refine Y2u ?_; refine Y1t ?_
   refine r_v (qq (v := .iz (q.cold : Int)) rfl (h.b 2 rfl) rfl) rfl ?_
   refine r_c rfl (qg rfl (yo hn hh hlt (l := KeyPt b4 p.key :: KeyPt b2 ⟨0, 0, 0⟩ :: l) (St.clk.2 ⟨_, _, h.o [2, 3, 0, 1]⟩)) ?_)
   clear h
   intro _ w h
   refine qv ⟨(), zz3, q.goes q.cold, ?_, hq.goes hlt, ?_, h⟩
   ·unfold Clk.putOut; rw [if_neg (by rw [ht]; simp)]
   ·show (q.pages.eraseIdx q.cold).length <= _; rw [Xv hlt]; omega
  ·refine Yd ?_; refine Y5 ?_
   refine r_c rfl (jo (v := .iz 3) (h.f 3) rfl rfl (gq (j := 3) hp O2) rfl fun w h => ?_)
   rw [Uz] at h
   replace h := j1 (p' := { p with kind := 3 }) hp O2 rfl h
   have hw' := hq.setP (i := q.cold) (p' := { p with kind := 3 }) ⟨.inr (.inr rfl), hok.2.1, fun _ => hc2.2⟩
   have hl' : (q.setP q.cold { p with kind := 3 }).pages.length = q.pages.length := Vd ..
   refine Y49 ?_; refine Y1t ?_
   refine r_c rfl (qg rfl (ub hw' O0 O0 (l := KeyPt b4 p.key :: KeyPt b2 ⟨0, 0, 0⟩ :: l) (St.setP (h.o [3, 0, 1, 2]))) ?_)
   clear h
   intro _ w h
   refine qv ⟨(), zz3, _, ?_, hw'.onCold (Clk.set_ne hp), ?_, h⟩
   ·unfold Clk.putOut; rw [if_pos ht]
   ·show (q.pages.set q.cold _).length <= _; rw [Vd]; exact hn
 rintro - w e ⟨u, he, hq', hn', h⟩
 rw [he]
 clear he
 refine qt (Γ := Unit) (fun _ => [(2, .pz b2), (4, .pz b4)]) (fun _ w => St w0 (ClkAt b u.shed :: KeyPt b4 p.key :: KeyPt b2 ⟨0, 0, 0⟩ :: l) w) ?_ ?_
 ·unfold Clk.shed
  have hc0 : u.count Pg.test < u.pages.length + 1 := by have := Clk.count_len u Pg.test; omega
  generalize u.pages.length + 1 = fu at hc0
  obtain ⟨R, hR⟩ : ∃ R, Clk.shedRun fu u = R := ⟨_, rfl⟩
  rw [hR]
  refine Yh ?_
  refine jx (Γ := Nat × Clk) (fun _ => [(0, .pz b), (2, .pz b2), (4, .pz b4)])
   (fun x w => x.2.Wf ∧ x.2.pages.length <= 1000000 ∧ x.2.count Pg.test < x.1 ∧ Clk.shedRun x.1 x.2 = R ∧ St w0 (ClkAt b x.2 :: KeyPt b4 p.key :: KeyPt b2 ⟨0, 0, 0⟩ :: l) w) (fun x => x.1) (fu, u) zz3 ⟨hq', hn', hc0, hR, h⟩ ?_
  clear h hq' hn' hc0 hR
  rintro ⟨k, u⟩ w e ⟨hq, hn, hk, hres, h⟩
  dsimp only at hq hn hk hres h ⊢
  obtain ⟨a, c, h⟩ := St.clk.1 h
  obtain ⟨k, rfl⟩ : ∃ k', k = k' + 1 := ⟨k - 1, O_o⟩
  unfold Clk.shedRun at hres
  have hm := hq.most
  refine qf (qf (jh none (fun w => St w0 (ClkPt b a c u :: OwnPg a c u.pages :: KeyPt b4 p.key :: KeyPt b2 ⟨0, 0, 0⟩ :: l) w) O1 O1 h.drew fun w h => ?_))
  refine Y1j ?_; refine Y44 ?_
  refine qj rfl rfl rfl rfl h (fun _ h => qh rfl (qx (l := u.C a c) rfl rfl (qw (h.b 0 rfl) rfl))) ?_
  refine Yg ?_; refine Y3 ?_
  refine qj rfl rfl rfl rfl h (fun _ h => qh rfl (qq (v := .iz u.most) rfl (h.b 0 rfl) rfl)) ?_
  refine Yg ?_
  refine qd 3 rfl rfl rfl rfl (qg rfl (gz sr hn vk h) ?_)
  clear h
  rintro _ w ⟨rfl, h⟩
  refine ⟨fun _ => h, ?_⟩
  refine cpv rfl rfl rfl rfl h rfl (ki rfl rfl) ?_
  refine qn ?_
  refine qi (decide ((u.count Pg.test : Int) > u.most)) rfl (fun hc => ?_) (fun hc => ?_)
  ·have hc2 : (u.count Pg.test : Int) > u.most := by simpa using hc
   rw [if_pos hc2] at hres
   refine Yl ?_; refine Yh ?_; refine Y2u ?_
   obtain ⟨o1, o2, o3⟩ := Clk.testTurns_ok hq
   have hlen := o2.len
   refine r_c rfl (qg rfl (dm hq hn (St.clk.2 ⟨_, _, h⟩)) ?_)
   clear h
   intro _ w h
   exact qv ⟨(k, u.testTurns), zz3, ⟨o1, Uy hlen hn, (show u.testTurns.count Pg.test < k by omega), hres, h⟩, Wk k⟩
  ·have hc2 : ¬ (u.count Pg.test : Int) > u.most := by simpa using hc
   rw [if_neg hc2] at hres
   refine ju ?_
   refine Eq.mpr (if_pos rfl) ⟨(), zz2, ?_⟩
   rw [<- hres]
   exact St.clk.2 ⟨_, _, h⟩
 rintro - w e h
 refine Y1 ?_
 refine r_v (qx (l := p.key.C) rfl rfl (qw (h.b 1 rfl) rfl)) rfl ?_
 refine r_c rfl (qy (vs := p.key.C) 2 h rfl rfl rfl rfl rfl rfl rfl fun w h => ?_)
 refine qv (qk ?_)
 refine bqc (v := .agg p.key.C.toArray) (js (by rfl) (qw (h.b 2 rfl) rfl)) ⟨rfl, ?_⟩
 exact h.x [1, 2]
theorem df {b : Nat} {q : Clk} (hq : q.Wf) (hn : q.pages.length <= 1000000) (hf : 1 <= q.count Pg.free) (h : St w0 (ClkAt b q :: l) w) :
  Ret prog 86 [.pz b] w fun v w' => ∃ key : Key3, q.coldTurns.2 = some key ∧ v = .agg key.C.toArray ∧ St w0 (ClkAt b q.coldTurns.1 :: l) w' := by
 refine en func86 results86 ntmps86 ?_
 refine Y1 ?_
 refine r_c rfl (qp h fun b2 w h => ?_)
 replace h : St w0 (ClkAt b q :: KeyPt b2 ⟨0, 0, 0⟩ :: l) w := h.f 1
 refine Y2 ?_
 unfold Clk.coldTurns
 have hfin := Clk.cold_fin hq hf
 generalize q.coldFuel = fu at hfin
 obtain ⟨R, hR⟩ : ∃ R, Clk.coldRun fu q = R := ⟨_, rfl⟩
 rw [hR]
 refine Yh ?_
 refine jx (Γ := Nat × Clk) (fun _ => [(0, .pz b), (2, .pz b2)])
  (fun x w => x.2.Wf ∧ x.2.pages.length <= 1000000 ∧ 1 <= x.2.count Pg.free ∧ Clk.coldFin x.1 x.2 ∧ Clk.coldRun x.1 x.2 = R ∧ St w0 (ClkAt b x.2 :: KeyPt b2 ⟨0, 0, 0⟩ :: l) w) (fun x => x.1) (fu, q) zz2 ⟨hq, hn, hf, hfin, hR, h⟩ ?_
 clear h hq hn hf hfin hR
 rintro ⟨k, q⟩ w e ⟨hq, hn, hf, hfin, hres, h⟩
 dsimp only at hq hn hf hfin hres h ⊢
 obtain ⟨k, rfl⟩ : ∃ k', k = k' + 1 := by
  cases k with
  | zero => exact hfin.elim
  | succ k => exact ⟨k, rfl⟩
 obtain ⟨p, hp, hfin⟩ := hfin
 obtain ⟨w1, w2, w3⟩ := Clk.warm_ok hq hf
 have hwl := w2.len
 unfold Clk.coldRun at hres
 rw [hp] at hres
 dsimp only at hres
 obtain ⟨o1, o2⟩ := Clk.coldAt_ok w1 hp
 have hwf : 1 <= q.warm.count Pg.free := by rw [w2.free]; exact hf
 refine Yh ?_
 refine qt (Γ := Unit) (fun _ => [(0, .pz b), (2, .pz b2)]) (fun _ w => St w0 (ClkAt b q.warm :: KeyPt b2 ⟨0, 0, 0⟩ :: l) w) ?_ ?_
 ·unfold Clk.warm
  have hc0 : q.count Pg.hot < q.pages.length + 1 := by have := Clk.count_len q Pg.hot; omega
  generalize q.pages.length + 1 = fu at hc0
  clear hres hfin hp w1 w2 w3 hwl o1 o2 hwf
  obtain ⟨W, hW⟩ : ∃ W, Clk.warmRun fu q = W := ⟨_, rfl⟩
  rw [hW]
  refine Yh ?_
  refine jx (Γ := Nat × Clk) (fun _ => [(0, .pz b), (2, .pz b2)])
   (fun x w => x.2.Wf ∧ x.2.pages.length <= 1000000 ∧ 1 <= x.2.count Pg.free ∧ x.2.count Pg.hot < x.1 ∧ Clk.warmRun x.1 x.2 = W ∧ St w0 (ClkAt b x.2 :: KeyPt b2 ⟨0, 0, 0⟩ :: l) w) (fun x => x.1) (fu, q) zz2 ⟨hq, hn, hf, hc0, hW, h⟩ ?_
  clear h hq hn hf hc0 hW
  rintro ⟨k, u⟩ w e ⟨hq, hn, hf, hk, hres, h⟩
  dsimp only at hq hn hf hk hres h ⊢
  obtain ⟨a, c, h⟩ := St.clk.1 h
  obtain ⟨k, rfl⟩ : ∃ k', k = k' + 1 := ⟨k - 1, O_o⟩
  unfold Clk.warmRun at hres
  refine Y4g ?_; refine Y1c ?_
  refine r_v (qx (l := u.C a c) rfl rfl (qw (h.b 0 rfl) rfl)) rfl ?_
  refine r_c rfl (qg rfl (gz zq hn vk h) ?_)
  clear h
  rintro _ w ⟨rfl, h⟩
  refine Yp ?_
  by_cases hc : u.count Pg.coldFree = 0
  ·refine qz (.bool true) O13 ?_
   rw [if_pos hc] at hres
   refine Yd ?_; refine Yl ?_; refine Yh ?_; refine Y2u ?_
   obtain ⟨o1, o2, o3⟩ := Clk.hotTurns_ok hq
   have hlen := o2.len
   have hfs := Clk.free_some u hc hf
   refine r_c rfl (qg rfl (zj hq hn (St.clk.2 ⟨_, _, h⟩)) ?_)
   clear h
   intro _ w h
   exact qv ⟨(k, u.hotTurns), zz2, ⟨o1, Uy hlen hn, (show 1 <= u.hotTurns.count Pg.free by rw [o2.free]; exact hf), (show u.hotTurns.count Pg.hot < k by omega), hres, h⟩, Wk k⟩
  ·refine qz (.bool false) O5 ?_
   rw [if_neg hc] at hres
   refine qv (qe rfl (ju ?_))
   refine Eq.mpr (if_pos rfl) ⟨(), zz2, ?_⟩
   rw [<- hres]
   exact St.clk.2 ⟨_, _, h⟩
 rintro - w e h
 generalize q.warm = u at hp hres hfin o1 o2 hwf w1 w2 w3 hwl h
 have hn : u.pages.length <= 1000000 := by omega
 clear w2 hwl hf hq
 obtain ⟨a, c, h⟩ := St.clk.1 h
 obtain ⟨g, rfl⟩ := vu hp (h.f 1)
 have hlt := (Uf.1 hp).1
 have hh := Clk.hands_le w1 hn
 have hok := w1.kinds p (Uj hp)
 have go : ∀ u', u.coldAt p = (u', none) -> u'.Wf ∧ u'.pages.length <= 1000000 ∧ 1 <= u'.count Pg.free ∧ Clk.coldFin k u' ∧ Clk.coldRun k u' = R := by
  intro u' he
  rw [he] at o1 o2 hfin hres
  rcases o2 with ⟨_, o2⟩ | ⟨key, hk, _⟩
  ·have := o2.len
   exact ⟨o1, Uy this hn, by rw [o2.free]; exact hwf, hfin.resolve_left (by rintro ⟨key, hk⟩; cases hk), hres⟩
  ·cases hk
 refine qf (jh none (fun w => St w0 (ClkPt b (sQ g) c u :: OwnPg (sQ g) c u.pages :: KeyPt b2 ⟨0, 0, 0⟩ :: l) w) O1 O1 h.drew fun w h => ?_)
 refine Y3 ?_
 refine qj rfl rfl rfl rfl h (fun _ h => qh rfl (qq (v := .slice (sQ g) u.pages.length c) rfl (h.b 0 rfl) rfl)) ?_
 refine Y3 ?_
 refine qj rfl rfl rfl rfl h (fun _ h => qh rfl (qq (v := .iz (u.cold : Int)) rfl (h.b 0 rfl) rfl)) ?_
 refine cpv rfl rfl rfl rfl h rfl (jb (j := u.cold) (o' := 0 + u.cold * 7) rfl rfl rfl hlt rfl) ?_
 refine cpv rfl rfl rfl rfl h rfl (ut rfl) ?_
 refine qn ?_
 refine Y4g ?_; refine Y1c ?_
 refine r_v (qx (l := p.C) rfl rfl (((h.f 1).own_rd).elem gy hp)) rfl ?_
 refine r_c rfl (qg rfl (zq p h) ?_)
 clear h
 rintro _ w ⟨rfl, h⟩
 refine Yx ?_
 cases hcf : p.coldFree
 ·refine Yd ?_
  have he : u.coldAt p = (u.onCold, none) := by unfold Clk.coldAt; rw [if_pos hcf]
  refine Y2p ?_
  refine r_c rfl (qg rfl (ub w1 hn O0 (St.clk.2 ⟨_, _, h⟩)) ?_)
  clear h
  intro _ w h
  refine qv (ju ?_)
  obtain ⟨g1, g2, g3, g4, g5⟩ := go _ he
  exact Eq.mpr (if_pos rfl) ⟨(k, u.onCold), zz2, ⟨g1, g2, g3, g4, g5, h⟩, Wk k⟩
 refine Yb ?_
 have hcn : ¬ p.coldFree = false := by rw [hcf]; simp
 refine Yh ?_; refine Y5 ?_
 refine r_v (jj (v := .bool p.ref) rfl (jc (j := 4) hp rfl (h.f 1))) rfl ?_
 cases hr : p.ref
 ·refine Y19 ?_; refine Y9 ?_; refine Y39 ?_; refine Y5 ?_
  refine r_v (jj (v := .bool p.ref) rfl (jc (j := 4) hp rfl (h.f 1))) rfl ?_
  rw [hr]
  refine Y39 ?_
  have he : u.coldAt p = (u.putOut p, some p.key) := by unfold Clk.coldAt; rw [if_neg hcn, if_neg (by rw [hr]; simp)]
  rw [he] at hres
  dsimp only at hres
  refine Ym ?_
  refine r_c rfl (qg rfl (cv w1 hn hp hcf (St.clk.2 ⟨_, _, h⟩)) ?_)
  clear h
  rintro _ w ⟨rfl, h⟩
  refine r_c rfl (qy (vs := p.key.C) 1 h rfl rfl rfl rfl rfl rfl rfl fun w h => ?_)
  refine qv (qk ?_)
  refine bqc (v := .agg p.key.C.toArray) (js (by rfl) (qw (h.b 1 rfl) rfl)) ⟨p.key, by rw [<- hres], rfl, ?_⟩
  rw [<- hres]
  exact h.x [1]
 ·refine Y32 ?_
  refine r_v (jj (v := .bool p.trial) rfl (jc (j := 5) hp rfl (h.f 1))) rfl ?_
  cases ht : p.trial
  ·refine Yf ?_; refine Y39 ?_; refine Y5 ?_
   refine r_v (jj (v := .bool p.ref) rfl (jc (j := 4) hp rfl (h.f 1))) rfl ?_
   rw [hr]
   refine Y2k ?_
   have he : u.coldAt p = ((u.setP u.cold { p with ref := false, trial := true }).onCold, none) := by unfold Clk.coldAt; rw [if_neg hcn, if_pos hr, if_neg (by rw [ht]; simp)]
   refine Y2p ?_
   refine r_c rfl (jo (v := .bool false) (h.f 1) rfl rfl (gq (j := 4) hp O2) rfl fun w h => ?_)
   rw [Uz] at h
   replace h := j1 (p' := { p with ref := false }) hp O2 rfl h
   have hp2 : (u.pages.set u.cold { p with ref := false })[u.cold]? = some { p with ref := false } := by rw [Wi hlt]
   refine Yi ?_
   refine r_c rfl (jo (v := .bool true) h rfl rfl (gq (j := 5) hp2 O2) rfl fun w h => ?_)
   rw [Uz] at h
   replace h := j1 (p' := { p with ref := false, trial := true }) hp2 O2 rfl h
   rw [Kd] at h
   have hw' := w1.setP (i := u.cold) (p' := { p with ref := false, trial := true }) hok
   have hl' : (u.setP u.cold { p with ref := false, trial := true }).pages.length = u.pages.length := Vd ..
   refine Y49 ?_; refine Y1t ?_
   refine r_c rfl (qg rfl (ub hw' O0 O0 (St.setP (h.f 1))) ?_)
   clear h
   intro _ w h
   obtain ⟨g1, g2, g3, g4, g5⟩ := go _ he
   exact qv ⟨(k, (u.setP u.cold { p with ref := false, trial := true }).onCold), zz2, ⟨g1, g2, g3, g4, g5, h⟩, Wk k⟩
  ·refine Yf ?_; refine Y2k ?_
   have he : u.coldAt p = (((u.setP u.cold { p with kind := 1, ref := false, trial := false }).onCold).cool, none) := by unfold Clk.coldAt; rw [if_neg hcn, if_pos hr, if_pos ht]
   refine Y10 ?_; refine Y1t ?_
   refine r_c rfl (jo (v := .iz 1) (h.f 1) rfl rfl (gq (j := 3) hp O2) rfl fun w h => ?_)
   rw [Uz] at h
   replace h := j1 (p' := { p with kind := 1 }) hp O2 rfl h
   have hp2 : (u.pages.set u.cold { p with kind := 1 })[u.cold]? = some { p with kind := 1 } := by rw [Wi hlt]
   refine Yi ?_
   refine r_c rfl (jo (v := .bool false) h rfl rfl (gq (j := 4) hp2 O2) rfl fun w h => ?_)
   rw [Uz] at h
   replace h := j1 (p' := { p with kind := 1, ref := false }) hp2 O2 rfl h
   rw [Kd] at h
   have hp3 : (u.pages.set u.cold { p with kind := 1, ref := false })[u.cold]? = some { p with kind := 1, ref := false } := by rw [Wi hlt]
   refine Yi ?_
   refine r_c rfl (jo (v := .bool false) h rfl rfl (gq (j := 5) hp3 O2) rfl fun w h => ?_)
   rw [Uz] at h
   replace h := j1 (p' := { p with kind := 1, ref := false, trial := false }) hp3 O2 rfl h
   rw [Kd] at h
   have hw' := w1.setP (i := u.cold) (p' := { p with kind := 1, ref := false, trial := false }) ⟨.inl rfl, hok.2.1, fun h => by cases h⟩
   have hl' : (u.setP u.cold { p with kind := 1, ref := false, trial := false }).pages.length = u.pages.length := Vd ..
   refine Y2 ?_; refine Y2p ?_
   refine r_c rfl (qg rfl (ub hw' O0 O0 (St.setP (h.f 1))) ?_)
   clear h
   intro _ w h
   refine Y49 ?_
   refine r_c rfl (qg rfl (s7 (hw'.onCold (Clk.set_ne hp)) (show (u.setP u.cold { p with kind := 1, ref := false, trial := false }).pages.length <= _ by omega) h) ?_)
   clear h
   intro _ w h
   obtain ⟨g1, g2, g3, g4, g5⟩ := go _ he
   exact qv ⟨(k, ((u.setP u.cold { p with kind := 1, ref := false, trial := false }).onCold).cool), zz2, ⟨g1, g2, g3, g4, g5, h⟩, Wk k⟩
end
end
end Go.Proofs.YtngdfdangkdgcaaGreatDoor
namespace Go.Hw
section
theorem Clk.find_some {q : Clk} {k : Key3} {i : Nat} (h : q.find k = some i) : ∃ p, q.pages[i]? = some p ∧ p.key = k := by
 unfold Clk.find at h
 rw [Xz] at h
 obtain ⟨h1, h2, _⟩ := h
 exact ⟨_, Uc h1, by simpa using h2⟩
theorem bqct {P : Program} {φ : Value -> World -> Prop} {e : Env} {w : World} {a b : Tmp} {t : TypeId} {v : Value} (hv : (do loadVar t (<- asAddr (e a)) : Sem Value).run P w = .ok v w) (h : φ (.tuple [v, e b].toArray) w) : bq P [.cell a t, .tmp b] φ .ret e w := ⟨v, hv, h⟩
theorem bqctt {P : Program} {φ : Value -> World -> Prop} {e : Env} {w : World} {a b c : Tmp} {t : TypeId} {v : Value} (hv : (do loadVar t (<- asAddr (e a)) : Sem Value).run P w = .ok v w) (h : φ (.tuple [v, e b, e c].toArray) w) : bq P [.cell a t, .tmp b, .tmp c] φ .ret e w := ⟨v, hv, h⟩
end
end Go.Hw
namespace Go.Proofs.YtngdfdangkdgcaaGreatDoor
open Go.Hw _root_.Go.Proofs.Tryz
section
def clkZ : List Value := [.iz 0, .iz 0, .slice none 0 0, .iz 0, .iz 0, .iz 0]
abbrev ClkZ (b : Nat) : HProp := pt b (.cells clkZ.toArray 104 (0, 0))
section
variable {w0 w : World} {l : List HProp}
theorem qqo (n : Int) (h : St w0 l w) : Ret prog 54 [.iz n] w fun v w' => v = .agg ((Clk.new n).C none 0).toArray ∧ St w0 l w' := by
 refine en func54 results54 ntmps54 ?_
 refine Y1 ?_
 refine r_c rfl (qp h fun b w h => ?_)
 refine Y2 ?_; refine Y45 ?_
 refine r_v (qc (r := (Clk.new n).C none 0) rfl) rfl ?_
 refine r_c rfl (qy (vs := (Clk.new n).C none 0) 0 h rfl rfl rfl rfl rfl rfl rfl fun w h => ?_)
 refine qv (qk ?_)
 exact bqc (v := .agg ((Clk.new n).C none 0).toArray) (js (by rfl) (qw (h.b 0 rfl) rfl)) ⟨rfl, h.drop⟩
theorem zv {a : Option Addr} {c : Nat} {q : Clk} {k : Key3} (hn : q.pages.length <= 1000000) (hr : Reads w0 l 7 a q.pages.length (pgsV q.pages)) (h : St w0 l w) :
  Ret prog 78 [.agg (q.C a c).toArray, .agg k.C.toArray] w fun v w' => ∃ a' c', v = .tuple [.agg ((q.touch k).1.C a' c').toArray, .bool (q.touch k).2].toArray ∧ St w0 (OwnPg a' c' (q.touch k).1.pages :: l) w' := by
 refine en func78 results78 ntmps78 ?_
 refine Y1 ?_
 refine r_c rfl (jv h (show _ = Value.agg (q.C a c).toArray from rfl) fun b2 w h => ?_)
 refine r_c rfl (jv h (show _ = Value.agg k.C.toArray from rfl) fun b3 w h => ?_)
 refine r_c rfl (qp h fun b4 w h => ?_)
 replace h : St w0 (ClkZ b4 :: KeyPt b3 k :: ClkPt b2 a c q :: l) w := h
 refine Ya ?_; refine Y1 ?_
 refine r_v (qx (l := q.C a c) rfl rfl (qw (h.b 2 rfl) rfl)) rfl ?_
 refine r_v (qx (l := k.C) rfl rfl (qw (h.b 1 rfl) rfl)) rfl ?_
 refine r_c rfl (qg rfl (yf hn (hr.more [_, _, _]) h) ?_)
 clear h
 rintro _ w ⟨rfl, h⟩
 refine Y4 ?_
 refine qt (Γ := Nat) (fun i => [(2, .pz b2), (4, .pz b4), (6, .iz i)]) (fun i w => (∃ p, q.pages[i]? = some p ∧ q.touch k = (q.setP i { p with ref := true }, true)) ∧ St w0 (ClkZ b4 :: KeyPt b3 k :: ClkPt b2 a c q :: l) w) ?_ ?_
 ·refine Y8 ?_; refine Y1u ?_
  cases hf : q.find k with
  | none =>
   have ht : q.touch k = (q, false) := by unfold Clk.touch; rw [hf]
   refine Y37 ?_; refine Y4o ?_; refine Y1 ?_
   refine r_v (qx (l := q.C a c) rfl rfl (qw (h.b 2 rfl) rfl)) rfl ?_
   refine r_c rfl (qg rfl (gx hn (hr.more [_, _, _]) h) ?_)
   clear h
   rintro _ w ⟨a', c', rfl, h⟩
   refine r_c rfl (qy (vs := q.C a' c') 1 h rfl rfl rfl rfl rfl rfl rfl fun w h => ?_)
   refine Y7 ?_
   refine qv (qk ?_)
   refine bqct (v := .agg (q.C a' c').toArray) (js (by rfl) (qw (h.b 1 rfl) rfl)) ⟨a', c', by rw [ht]; rfl, ?_⟩
   rw [ht]
   exact h.x [1, 2, 3]
  | some i =>
   obtain ⟨p, hp, hk⟩ := Clk.find_some hf
   have hlt := (Uf.1 hp).1
   have hcur := h
   obtain ⟨g, o, rfl⟩ := ((hr.more [_, _, _]).at_ h).some O0
   have h := hcur
   refine qz (.bool false) (by congr 1) ?_
   refine Y1e ?_
   refine r_v (qq (v := .slice (some ⟨g, o, none⟩) q.pages.length c) rfl (h.b 2 rfl) rfl) rfl ?_
   refine Y33 ?_
   refine r_v (jb (j := i) (o' := o + i * 7) rfl rfl rfl hlt rfl) rfl ?_
   refine Yc ?_
   refine r_v (qx (l := p.C) rfl rfl (((hr.more [_, _, _]).at_ h).elem gy hp)) rfl ?_
   refine Yc ?_
   refine r_c rfl (qg rfl (gm p h) ?_)
   clear h hcur
   rintro _ w ⟨rfl, h⟩
   refine Y4v ?_
   cases hres : p.resident
   ·have ht : q.touch k = (q, false) := by unfold Clk.touch; rw [hf]; dsimp only; rw [hp]; dsimp only; rw [hres]; rfl
    refine Y9 ?_; refine Y27 ?_
    refine r_v (qx (l := q.C (some ⟨g, o, none⟩) c) rfl rfl (qw (h.b 2 rfl) rfl)) rfl ?_
    refine r_c rfl (qg rfl (gx hn (hr.more [_, _, _]) h) ?_)
    clear h
    rintro _ w ⟨a', c', rfl, h⟩
    refine r_c rfl (qy (vs := q.C a' c') 1 h rfl rfl rfl rfl rfl rfl rfl fun w h => ?_)
    refine Y7 ?_
    refine qv (qk ?_)
    refine bqct (v := .agg (q.C a' c').toArray) (js (by rfl) (qw (h.b 1 rfl) rfl)) ⟨a', c', by rw [ht]; rfl, ?_⟩
    rw [ht]
    exact h.x [1, 2, 3]
   ·have ht : q.touch k = (q.setP i { p with ref := true }, true) := by unfold Clk.touch; rw [hf]; dsimp only; rw [hp]; dsimp only; rw [hres]; rfl
    refine Y9 ?_
    exact qv (qe rfl (qa ⟨i, zz3, ⟨p, hp, ht⟩, h⟩))
 rintro i w e ⟨⟨p, hp, ht⟩, h⟩
 have hlt := (Uf.1 hp).1
 rw [ht]
 refine Y1 ?_
 refine r_v (qx (l := q.C a c) rfl rfl (qw (h.b 2 rfl) rfl)) rfl ?_
 refine r_c rfl (qg rfl (gx hn (hr.more [_, _, _]) h) ?_)
 clear h
 rintro _ w ⟨a', c', rfl, h⟩
 refine r_c rfl (qy (vs := q.C a' c') 3 h rfl rfl rfl rfl rfl rfl rfl fun w h => ?_)
 replace h : St w0 (OwnPg a' c' q.pages :: ClkZ b4 :: KeyPt b3 k :: ClkPt b2 a' c' q :: l) w := h
 obtain ⟨g, rfl⟩ := vu hp h
 refine Y3n ?_
 refine r_v (qq (v := .slice (sQ g) q.pages.length c') rfl (h.b 3 rfl) rfl) rfl ?_
 refine Y0 ?_
 refine r_v (jb (j := i) (o' := 0 + i * 7) rfl rfl rfl hlt rfl) rfl ?_
 refine Yk ?_
 refine r_c rfl (jo (v := .bool true) h rfl rfl (gq (j := 4) hp O2) rfl fun w h => ?_)
 rw [Uz] at h
 replace h := j1 (p' := { p with ref := true }) hp O2 rfl h
 refine Yn ?_
 refine r_v (qx (l := q.C (sQ g) c') rfl rfl (qw (h.b 3 rfl) rfl)) rfl ?_
 refine r_c rfl (qy (vs := q.C (sQ g) c') 1 h rfl rfl rfl rfl rfl rfl rfl fun w h => ?_)
 refine Y7 ?_
 refine qv (qk ?_)
 refine bqct (v := .agg (q.C (sQ g) c').toArray) (js (by rfl) (qw (h.b 1 rfl) rfl)) ⟨some ⟨g, 0, none⟩, c', by rw [Clk.setP_C]; rfl, ?_⟩
 exact h.x [1, 2, 3]
theorem cu {a : Option Addr} {c : Nat} {q : Clk} {k : Key3} {n : Int} (hb : ∀ p ∈ q.pages, 0 <= p.pins ∧ p.pins <= 1099511627776) (h1 : -1 <= n ∧ n <= 1) (hn : q.pages.length <= 1000000) (hr : Reads w0 l 7 a q.pages.length (pgsV q.pages)) (h : St w0 l w) :
  Ret prog 89 [.agg (q.C a c).toArray, .agg k.C.toArray, .iz n] w fun v w' => ∃ a' c', v = .tuple [.agg ((q.pin k n).1.C a' c').toArray, .bool (q.pin k n).2].toArray ∧ St w0 (OwnPg a' c' (q.pin k n).1.pages :: l) w' := by
 refine en func89 results89 ntmps89 ?_
 refine Y1 ?_
 refine r_c rfl (jv h (show _ = Value.agg (q.C a c).toArray from rfl) fun b2 w h => ?_)
 refine r_c rfl (jv h (show _ = Value.agg k.C.toArray from rfl) fun b3 w h => ?_)
 refine r_c rfl (qp h fun b4 w h => ?_)
 replace h : St w0 (ClkZ b4 :: KeyPt b3 k :: ClkPt b2 a c q :: l) w := h
 refine Ya ?_; refine Y1 ?_
 refine r_v (qx (l := q.C a c) rfl rfl (qw (h.b 2 rfl) rfl)) rfl ?_
 refine r_v (qx (l := k.C) rfl rfl (qw (h.b 1 rfl) rfl)) rfl ?_
 refine r_c rfl (qg rfl (yf hn (hr.more [_, _, _]) h) ?_)
 clear h
 rintro _ w ⟨rfl, h⟩
 refine Y4 ?_
 refine qt (Γ := Nat) (fun i => [(2, .iz n), (3, .pz b2), (6, .pz b4), (8, .iz i)]) (fun i w => (∃ p, q.pages[i]? = some p ∧ q.pin k n = (q.setP i { p with pins := max (p.pins + n) 0 }, true)) ∧ St w0 (ClkZ b4 :: KeyPt b3 k :: ClkPt b2 a c q :: l) w) ?_ ?_
 ·refine Y8 ?_; refine Y1u ?_
  cases hf : q.find k with
  | none =>
   have ht : q.pin k n = (q, false) := by unfold Clk.pin; rw [hf]
   refine Y37 ?_; refine Y4o ?_; refine Y1 ?_
   refine r_v (qx (l := q.C a c) rfl rfl (qw (h.b 2 rfl) rfl)) rfl ?_
   refine r_c rfl (qg rfl (gx hn (hr.more [_, _, _]) h) ?_)
   clear h
   rintro _ w ⟨a', c', rfl, h⟩
   refine r_c rfl (qy (vs := q.C a' c') 1 h rfl rfl rfl rfl rfl rfl rfl fun w h => ?_)
   refine Y7 ?_
   refine qv (qk ?_)
   refine bqct (v := .agg (q.C a' c').toArray) (js (by rfl) (qw (h.b 1 rfl) rfl)) ⟨a', c', by rw [ht]; rfl, ?_⟩
   rw [ht]
   exact h.x [1, 2, 3]
  | some i =>
   obtain ⟨p, hp, hk⟩ := Clk.find_some hf
   have hlt := (Uf.1 hp).1
   have hcur := h
   obtain ⟨g, o, rfl⟩ := ((hr.more [_, _, _]).at_ h).some O0
   have h := hcur
   refine qz (.bool false) (by congr 1) ?_
   refine Y1e ?_
   refine r_v (qq (v := .slice (some ⟨g, o, none⟩) q.pages.length c) rfl (h.b 2 rfl) rfl) rfl ?_
   refine Y33 ?_
   refine r_v (jb (j := i) (o' := o + i * 7) rfl rfl rfl hlt rfl) rfl ?_
   refine Yc ?_
   refine r_v (qx (l := p.C) rfl rfl (((hr.more [_, _, _]).at_ h).elem gy hp)) rfl ?_
   refine Yc ?_
   refine r_c rfl (qg rfl (gm p h) ?_)
   clear h hcur
   rintro _ w ⟨rfl, h⟩
   refine Y4v ?_
   cases hres : p.resident
   ·have ht : q.pin k n = (q, false) := by unfold Clk.pin; rw [hf]; dsimp only; rw [hp]; dsimp only; rw [hres]; rfl
    refine Y9 ?_; refine Y27 ?_
    refine r_v (qx (l := q.C (some ⟨g, o, none⟩) c) rfl rfl (qw (h.b 2 rfl) rfl)) rfl ?_
    refine r_c rfl (qg rfl (gx hn (hr.more [_, _, _]) h) ?_)
    clear h
    rintro _ w ⟨a', c', rfl, h⟩
    refine r_c rfl (qy (vs := q.C a' c') 1 h rfl rfl rfl rfl rfl rfl rfl fun w h => ?_)
    refine Y7 ?_
    refine qv (qk ?_)
    refine bqct (v := .agg (q.C a' c').toArray) (js (by rfl) (qw (h.b 1 rfl) rfl)) ⟨a', c', by rw [ht]; rfl, ?_⟩
    rw [ht]
    exact h.x [1, 2, 3]
   ·have ht : q.pin k n = (q.setP i { p with pins := max (p.pins + n) 0 }, true) := by unfold Clk.pin; rw [hf]; dsimp only; rw [hp]; dsimp only; rw [hres]; rfl
    refine Y9 ?_
    exact qv (qe rfl (qa ⟨i, zz4, ⟨p, hp, ht⟩, h⟩))
 rintro i w e ⟨⟨p, hp, ht⟩, h⟩
 have hlt := (Uf.1 hp).1
 rw [ht]
 refine Y1 ?_
 refine r_v (qx (l := q.C a c) rfl rfl (qw (h.b 2 rfl) rfl)) rfl ?_
 refine r_c rfl (qg rfl (gx hn (hr.more [_, _, _]) h) ?_)
 clear h
 rintro _ w ⟨a', c', rfl, h⟩
 refine r_c rfl (qy (vs := q.C a' c') 3 h rfl rfl rfl rfl rfl rfl rfl fun w h => ?_)
 replace h : St w0 (OwnPg a' c' q.pages :: ClkZ b4 :: KeyPt b3 k :: ClkPt b2 a' c' q :: l) w := h
 obtain ⟨g, rfl⟩ := vu hp h
 have hbp := hb p (Uj hp)
 refine Y2 ?_
 refine qf (jh (some 14) (fun w => St w0 (OwnPg (sQ g) c' q.pages :: ClkZ b4 :: KeyPt b3 k :: ClkPt b2 (sQ g) c' q :: l) w) O1 O1 h.drew fun w h => ?_)
 refine Yv ?_
 refine qj rfl rfl rfl rfl h (fun _ h => qh rfl (qq (v := .slice (sQ g) q.pages.length c') rfl (h.b 3 rfl) rfl)) ?_
 refine Y18 ?_; refine Yv ?_
 refine qj rfl rfl rfl rfl h (fun _ h => qh rfl (qq (v := .slice (sQ g) q.pages.length c') rfl (h.b 3 rfl) rfl)) ?_
 refine Y18 ?_
 refine cpv rfl rfl rfl rfl h rfl (jb (j := i) (o' := 0 + i * 7) rfl rfl rfl hlt rfl) ?_
 refine Yv ?_
 refine qj rfl rfl rfl rfl h (fun _ h => qh rfl (jj (v := .iz p.pins) rfl (jc (j := 6) hp rfl h))) ?_
 refine Y18 ?_
 refine cpv rfl rfl rfl rfl h rfl (qr (v' := .iz (p.pins + n)) (vt rfl rfl) (congrArg Value.iz (wrap64 O0 O0))) ?_
 refine cpv rfl rfl rfl rfl h rfl (sw rfl rfl) ?_
 refine cpv rfl rfl rfl rfl h rfl (jb (j := i) (o' := 0 + i * 7) rfl rfl rfl hlt rfl) ?_
 refine Yv ?_; refine Yg ?_
 refine jk 14 rfl rfl rfl ?_
 refine jo (v := .iz (max (p.pins + n) 0)) h rfl rfl (gq (j := 6) hp O2) rfl fun w h => ?_
 rw [Uz] at h
 replace h := j1 (p' := { p with pins := max (p.pins + n) 0 }) hp O2 rfl h
 refine Y1 ?_
 refine r_v (qx (l := q.C (sQ g) c') rfl rfl (qw (h.b 3 rfl) rfl)) rfl ?_
 refine r_c rfl (qy (vs := q.C (sQ g) c') 1 h rfl rfl rfl rfl rfl rfl rfl fun w h => ?_)
 refine Y7 ?_
 refine qv (qk ?_)
 refine bqct (v := .agg (q.C (sQ g) c').toArray) (js (by rfl) (qw (h.b 1 rfl) rfl)) ⟨some ⟨g, 0, none⟩, c', by rw [Clk.setP_C]; rfl, ?_⟩
 exact h.x [1, 2, 3]
end
end
section
abbrev ksV (l : List Key3) : List Value := l.flatMap Key3.C
abbrev OwnKs (a : Option Addr) (c : Nat) (l : List Key3) : HProp := Own 51 3 a l.length c (ksV l)
section
variable {w0 w : World} {l : List HProp}
theorem qgq (k : Key3) : ∀ u ∈ k.C, u.oneCell' = true := by
 intro u hu
 simp only [Key3.C, Uo, Ka, or_false] at hu
 rcases hu with rfl | rfl | rfl <;> rfl
theorem dt {a : Option Addr} {c : Nat} {q : Clk} {k : Key3} (hq : q.Wf) (hn : q.pages.length <= 100000) (hres : (q.count Pg.resident : Int) <= q.most) (hr : Reads w0 l 7 a q.pages.length (pgsV q.pages)) (h : St w0 l w) :
  Ret prog 45 [.agg (q.C a c).toArray, .agg k.C.toArray] w fun v w' => ∃ a' c' ao co, v = .tuple [.agg ((q.lets k).1.C a' c').toArray, .slice ao (q.lets k).2.1.length co, .bool (q.lets k).2.2].toArray ∧ St w0 (OwnPg a' c' (q.lets k).1.pages :: OwnKs ao co (q.lets k).2.1 :: l) w' := by
 have hmo := hq.most
 refine en func45 results45 ntmps45 ?_
 refine Y1 ?_
 refine r_c rfl (jv h (show _ = Value.agg (q.C a c).toArray from rfl) fun b2 w h => ?_)
 refine r_c rfl (jv h (show _ = Value.agg k.C.toArray from rfl) fun b3 w h => ?_)
 refine r_c rfl (qp h fun b4 w h => ?_)
 replace h : St w0 (ClkZ b4 :: KeyPt b3 k :: ClkPt b2 a c q :: l) w := h
 refine Ys ?_; refine Y2v ?_
 refine r_v (qx (l := q.C a c) rfl rfl (qw (h.b 2 rfl) rfl)) rfl ?_
 refine r_v (qx (l := k.C) rfl rfl (qw (h.b 1 rfl) rfl)) rfl ?_
 refine r_c rfl (qg rfl (zv O0 (hr.more [_, _, _]) h) ?_)
 clear h
 rintro _ w ⟨a1, c1, rfl, h⟩
 refine Y3e ?_
 refine r_c rfl (qp h fun b7 w h => ?_)
 refine r_c rfl (qy (vs := (q.touch k).1.C a1 c1) 0 h rfl rfl rfl rfl rfl rfl rfl fun w h => ?_)
 refine Ya ?_; refine Y31 ?_
 cases ht : (q.touch k).2
 rotate_left
 ·have he : q.lets k = ((q.touch k).1, [], true) := by unfold Clk.lets; rw [if_pos ht]
  refine Y27 ?_
  refine r_v (qx (l := (q.touch k).1.C a1 c1) rfl rfl (qw (h.b 0 rfl) rfl)) rfl ?_
  refine r_c rfl (qy (vs := (q.touch k).1.C a1 c1) 2 h rfl rfl rfl rfl rfl rfl rfl fun w h => ?_)
  refine Yo ?_; refine Y7 ?_
  refine qv (qk ?_)
  refine bqctt (v := .agg ((q.touch k).1.C a1 c1).toArray) (js (by rfl) (qw (h.b 2 rfl) rfl)) ⟨a1, c1, none, 0, by rw [he]; rfl, ?_⟩
  rw [he]
  exact (St.ownNil 51 3 (h.x [0, 2, 3, 4])).f 1
 refine Yb ?_
 replace h : St w0 (ClkZ b4 :: KeyPt b3 k :: ClkPt b2 a c q :: l) w := h.x [0, 1]
 have hne : ¬ (q.touch k).2 = true := by rw [ht]; simp
 refine qt (Γ := Unit) (fun _ => [(2, .pz b2), (3, .pz b3), (4, .pz b4)])
  (fun _ w => ¬ ((q.count Pg.resident : Int) ≥ q.most ∧ q.count Pg.free = 0) ∧ St w0 (ClkZ b4 :: KeyPt b3 k :: ClkPt b2 a c q :: l) w) ?_ ?_
 ·refine qf (jh none (fun w => St w0 (ClkZ b4 :: KeyPt b3 k :: ClkPt b2 a c q :: l) w) O1 O1 h.drew fun w h => ?_)
  refine qj rfl rfl rfl rfl h (fun _ h => qh rfl (qx (l := q.C a c) rfl rfl (qw (h.b 2 rfl) rfl))) ?_
  refine Yg ?_; refine Yv ?_
  refine qj rfl rfl rfl rfl h (fun _ h => qh rfl (qq (v := .iz q.most) rfl (h.b 2 rfl) rfl)) ?_
  refine Y2q ?_
  refine qd 1 rfl rfl rfl rfl (qg rfl (gz gm O0 (hr.more [_, _, _]) h) ?_)
  clear h
  rintro _ w ⟨rfl, h⟩
  refine ⟨fun _ => h, ?_⟩
  by_cases hfull : (q.count Pg.resident : Int) ≥ q.most
  ·refine cpv rfl rfl rfl rfl h rfl (qr (v' := .bool true) (yr rfl rfl) (congrArg Value.bool (decide_eq_true hfull))) ?_
   refine Yz ?_
   refine qj rfl rfl rfl rfl h (fun _ h => ql rfl rfl (qx (l := q.C a c) rfl rfl (qw (h.b 2 rfl) rfl))) ?_
   refine Y11 ?_
   refine qd 7 rfl rfl rfl (vd rfl rfl rfl) (qg rfl (gz ls O0 (hr.more [_, _, _]) h) ?_)
   clear h
   rintro _ w ⟨rfl, h⟩
   refine ⟨fun _ => h, ?_⟩
   by_cases hfr : q.count Pg.free = 0
   ·refine qu rfl rfl rfl rfl (fun _ => h) (fun _ => ql rfl rfl (qr (v' := .bool true) (j9 rfl rfl) (congrArg Value.bool (by rw [beq_iff_eq]; omega)))) ?_
    refine cpv rfl rfl rfl rfl h rfl (ji rfl rfl rfl) ?_
    refine qn (vq rfl ?_)
    have he : q.lets k = (q, [], false) := by unfold Clk.lets; rw [if_neg hne, if_pos ⟨hfull, hfr⟩]
    refine Y1 ?_
    refine r_v (qx (l := q.C a c) rfl rfl (qw (h.b 2 rfl) rfl)) rfl ?_
    refine r_c rfl (qg rfl (gx O0 (hr.more [_, _, _]) h) ?_)
    clear h
    rintro _ w ⟨a', c', rfl, h⟩
    refine r_c rfl (qy (vs := q.C a' c') 1 h rfl rfl rfl rfl rfl rfl rfl fun w h => ?_)
    refine Yo ?_; refine Y7 ?_
    refine qv (qk ?_)
    refine bqctt (v := .agg (q.C a' c').toArray) (js (by rfl) (qw (h.b 1 rfl) rfl)) ⟨a', c', none, 0, by rw [he]; rfl, ?_⟩
    rw [he]
    exact (St.ownNil 51 3 (h.x [1, 2, 3])).f 1
   ·refine qu rfl rfl rfl rfl (fun _ => h) (fun _ => ql rfl rfl (qr (v' := .bool false) (j9 rfl rfl) (congrArg Value.bool (by rw [beq_eq_false_iff_ne]; omega)))) ?_
    refine cpv rfl rfl rfl rfl h rfl (ji rfl rfl rfl) ?_
    exact qn (qe rfl (qa ⟨(), zz3, fun h => hfr h.2, h⟩))
  ·refine cpv rfl rfl rfl rfl h rfl (qr (v' := .bool false) (yr rfl rfl) (congrArg Value.bool (decide_eq_false hfull))) ?_
   refine Yz ?_; refine qu rfl rfl rfl rfl (fun _ => h) (fun _ => qo rfl rfl) (qu rfl rfl rfl rfl (fun _ => h) (fun _ => qo rfl rfl) (qu rfl rfl rfl rfl (fun _ => h) (fun _ => qo rfl rfl) (cpv rfl rfl rfl rfl h rfl (jl rfl rfl rfl) ?_)))
   exact qn (qe rfl (qa ⟨(), zz3, fun h => hfull h.1, h⟩))
 rintro - w e ⟨hroom, h⟩
 refine Y1 ?_
 refine r_v (qx (l := q.C a c) rfl rfl (qw (h.b 2 rfl) rfl)) rfl ?_
 refine r_c rfl (qg rfl (gx O0 (hr.more [_, _, _]) h) ?_)
 clear h
 rintro _ w ⟨a', c', rfl, h⟩
 refine r_c rfl (qy (vs := q.C a' c') 3 h rfl rfl rfl rfl rfl rfl rfl fun w h => ?_)
 replace h : St w0 (ClkPt b2 a' c' q :: OwnPg a' c' q.pages :: ClkZ b4 :: KeyPt b3 k :: l) w := h.o [3, 0, 1, 2]
 refine Yn ?_
 refine r_v (qx (l := q.C a' c') rfl rfl (qw (h.b 0 rfl) rfl)) rfl ?_
 refine r_v (qx (l := k.C) rfl rfl (qw (h.b 3 rfl) rfl)) rfl ?_
 refine r_c rfl (qg rfl (yf O0 vk h) ?_)
 clear h
 rintro _ w ⟨rfl, h⟩
 refine Y4 ?_
 have he : q.lets k = ((((match q.find k with | none => q | some i => (q.goes i).aim 1).room.1.comes (if (q.find k).isSome then ⟨k, 1, false, false, 0⟩ else ⟨k, 2, false, true, 0⟩)).cool, (match q.find k with | none => q | some i => (q.goes i).aim 1).room.2, true)) := by
  unfold Clk.lets; rw [if_neg hne, if_neg hroom]; try rfl
 rw [he]
 clear he
 obtain ⟨q1, hq1⟩ : ∃ q1, (match q.find k with | none => q | some i => (q.goes i).aim 1) = q1 := ⟨_, rfl⟩
 obtain ⟨p1, hp1⟩ : ∃ p1 : Pg, (if (q.find k).isSome then (⟨k, 1, false, false, 0⟩ : Pg) else ⟨k, 2, false, true, 0⟩) = p1 := ⟨_, rfl⟩
 rw [hq1, hp1]
 refine qt (Γ := Unit) (fun _ => [(2, .pz b2), (3, .pz b3), (4, .pz b4), (9, .iz (findI (q.find k)))])
  (fun _ w => q1.Wf ∧ q1.pages.length <= 100000 ∧ q1.count Pg.resident = q.count Pg.resident ∧ q1.count Pg.free = q.count Pg.free ∧ q1.most = q.most ∧ St w0 (ClkAt b2 q1 :: ClkZ b4 :: KeyPt b3 k :: l) w) ?_ ?_
 ·refine Y8 ?_; refine Y1m ?_
  cases hf : q.find k with
  | none =>
   rw [hf] at hq1
   dsimp only at hq1
   subst hq1
   exact qv (qe rfl (qa ⟨(), zz4, hq, hn, rfl, rfl, rfl, St.clk.2 ⟨_, _, h⟩⟩))
  | some i =>
   obtain ⟨p, hp, hk⟩ := Clk.find_some hf
   have hlt := (Uf.1 hp).1
   rw [hf] at hq1
   dsimp only at hq1
   have hpr : p.resident = false := by
    cases hr2 : p.resident with
    | false => rfl
    | true =>
     exfalso; apply hne
     unfold Clk.touch; rw [hf]; dsimp only; rw [hp]; dsimp only; rw [hr2]; rfl
   have hp3 : p.kind = 3 := by
    have hk3 := hq.kinds p (Uj hp)
    unfold Pg.resident at hpr
    simp at hpr
    exact (hk3.1.resolve_left hpr.1).resolve_left hpr.2
   have hle := (Clk.Le.goes q hp hp3).trans (Clk.Le.aim (q.goes i) 1)
   refine qz (.bool true) (by congr 1) ?_
   refine Yd ?_; refine Y8 ?_
   refine r_c rfl (qg rfl (yo O0 (Clk.hands_le hq O0) hlt (St.clk.2 ⟨_, _, h⟩)) ?_)
   clear h
   intro _ w h
   refine qv (j2 ?_)
   refine r_c rfl (qg rfl (zl O0 (hq.goes hlt) h) ?_)
   clear h
   intro _ w h
   have hll := hle.len
   rw [hq1] at h hle hll
   refine qv ⟨(), zz4, ?_, Uy hll hn, hle.resident, hle.free, hle.most, h⟩
   rw [<- hq1]
   exact (hq.goes hlt).aim 1
 rintro - w e ⟨w1, hl1, hr1, hf1, hm1, h⟩
 refine Y2c ?_
 refine qt (Γ := Option Addr × Nat) (fun x => [(2, .pz b2), (3, .pz b3), (4, .pz b4), (9, .iz (findI (q.find k))), (10, .slice x.1 q1.room.2.length x.2)])
  (fun x w => q1.room.1.Wf ∧ q1.room.1.pages.length <= 100000 ∧ St w0 (OwnKs x.1 x.2 q1.room.2 :: ClkAt b2 q1.room.1 :: ClkZ b4 :: KeyPt b3 k :: l) w) ?_ ?_
 ·refine Yh ?_
  refine jx (Γ := Nat × Clk × List Key3 × Option Addr × Nat) (fun x => [(2, .pz b2), (3, .pz b3), (4, .pz b4), (9, .iz (findI (q.find k))), (10, .slice x.2.2.2.1 x.2.2.1.length x.2.2.2.2)])
   (fun x w => (x.1 = 1 ∧ x.2.1 = q1 ∧ x.2.2.1 = [] ∨ x.1 = 0 ∧ (x.2.1, x.2.2.1) = q1.room ∧ (x.2.1.count Pg.resident : Int) < x.2.1.most) ∧ x.2.1.Wf ∧ x.2.1.pages.length <= 100000 ∧ St w0 (OwnKs x.2.2.2.1 x.2.2.2.2 x.2.2.1 :: ClkAt b2 x.2.1 :: ClkZ b4 :: KeyPt b3 k :: l) w) (fun x => x.1)
   (1, q1, [], none, 0) zz5 ⟨.inl ⟨rfl, rfl, rfl⟩, w1, hl1, St.ownNil 51 3 h⟩ ?_
  clear h
  rintro ⟨j, u, ks, ak, ck⟩ w e ⟨hst, hw, hl, h⟩
  dsimp only at hst hw hl h ⊢
  obtain ⟨a5, c5, h⟩ := St.clk.1 (h.f 1)
  refine qf (qf (jh none (fun w => St w0 (ClkPt b2 a5 c5 u :: OwnPg a5 c5 u.pages :: OwnKs ak ck ks :: ClkZ b4 :: KeyPt b3 k :: l) w) O1 O1 h.drew fun w h => ?_))
  refine qj rfl rfl rfl rfl h (fun _ h => qh rfl (qx (l := u.C a5 c5) rfl rfl (qw (h.b 0 rfl) rfl))) ?_
  refine Yg ?_; refine Yv ?_
  refine qj rfl rfl rfl rfl h (fun _ h => qh rfl (qq (v := .iz u.most) rfl (h.b 0 rfl) rfl)) ?_
  refine Yg ?_
  refine qd 1 rfl rfl rfl rfl (qg rfl (gz gm O0 vk h) ?_)
  clear h
  rintro _ w ⟨rfl, h⟩
  refine ⟨fun _ => h, ?_⟩
  refine cpv rfl rfl rfl rfl h rfl (yr rfl rfl) ?_
  refine qn ?_
  refine qi (decide ((u.count Pg.resident : Int) ≥ u.most)) rfl (fun hc => ?_) (fun hc => ?_)
  ·have hc2 : (u.count Pg.resident : Int) ≥ u.most := by simpa using hc
   rcases hst with ⟨rfl, rfl, rfl⟩ | ⟨_, _, hlt⟩
   ·have hfree : 1 <= u.count Pg.free := by
     rcases Wq (u.count Pg.free) with h0 | h0
     ·exact absurd ⟨O_o, O_o⟩ hroom
     ·exact h0
    obtain ⟨key, k1, k2, k3⟩ := Clk.coldTurns_ok hw hfree
    refine Yl ?_; refine Yh ?_; refine Y3j ?_
    refine r_c rfl (qg rfl (df hw O0 hfree (St.clk.2 ⟨_, _, h⟩)) ?_)
    clear h
    rintro _ w ⟨key', k4, rfl, h⟩
    obtain rfl : key = key' := Uk (k1.symm.trans k4)
    refine r_c rfl (jg (r := key.C) h rfl rfl rfl fun bs w h => ?_)
    refine r_c rfl (q9 (ys := key.C) (zs := ksV [key]) (m3 := [key].length) (h.f 2) rfl rfl ⟨rfl, .inr ⟨bs, 0, rfl, qw ((h.f 2).b 1 rfl) rfl⟩⟩ (qgq key) rfl (by simp [ksV]) (by simp only [List.length_singleton]; decide) (by simp only [List.length_singleton]; decide) rfl fun a6 c6 w _ h => ?_)
    refine Yo ?_
    have hres2 := Clk.res_len u.coldTurns.1
    have hperm := k3.res.length_eq
    rw [Clk.res_len] at hperm
    simp only [Ui] at hperm
    have hrm : u.room = (u.coldTurns.1, [key]) := by unfold Clk.room; rw [if_pos hc2, k1]; rfl
    have hlen : u.coldTurns.1.pages.length <= u.pages.length := by have := k3.keys.length_le; simpa [Clk.keys] using this
    refine qv ⟨(0, u.coldTurns.1, [key], a6, c6), zz5, ⟨.inr ⟨rfl, hrm.symm, ?_⟩, k2, Uy hlen hl, h.x [1]⟩, Nat.zero_lt_one⟩
    have hmm := k3.most
    show ((u.coldTurns.1.count Pg.resident : Nat) : Int) < u.coldTurns.1.most
    omega
   ·exact absurd hc2 O0
  ·have hc2 : ¬ (u.count Pg.resident : Int) ≥ u.most := by simpa using hc
   have hfin : (u, ks) = q1.room := by
    rcases hst with ⟨_, rfl, rfl⟩ | ⟨_, h1, _⟩
    ·unfold Clk.room; rw [if_neg hc2]
    ·exact h1
   refine ju ?_
   refine Eq.mpr (if_pos rfl) ⟨(ak, ck), ⟨rfl, rfl, rfl, rfl, ?_, trivial⟩, ?_, ?_, ?_⟩
   ·rw [<- hfin]; rfl
   ·rw [<- hfin]; exact hw
   ·rw [<- hfin]; exact hl
   ·rw [<- hfin]
    exact (St.clk.2 ⟨_, _, h⟩).f 1
 rintro ⟨ak, ck⟩ w e ⟨hw, hl, h⟩
 dsimp only at hw hl h
 refine Y1 ?_
 refine r_v (qx (l := k.C) rfl rfl (qw (h.b 3 rfl) rfl)) rfl ?_
 refine r_v (qc (r := (⟨k, 2, false, true, 0⟩ : Pg).C) rfl) rfl ?_
 refine r_c rfl (qp h fun b11 w h => ?_)
 refine r_c rfl (qy (vs := (⟨k, 2, false, true, 0⟩ : Pg).C) 0 h rfl rfl rfl rfl rfl rfl rfl fun w h => ?_)
 replace h : St w0 (PgPt b11 ⟨k, 2, false, true, 0⟩ :: OwnKs ak ck q1.room.2 :: ClkAt b2 q1.room.1 :: ClkZ b4 :: KeyPt b3 k :: l) w := h
 refine Y2 ?_
 refine qt (Γ := Unit) (fun _ => [(2, .pz b2), (4, .pz b4), (10, .slice ak q1.room.2.length ck), (11, .pz b11)])
  (fun _ w => St w0 (PgPt b11 p1 :: OwnKs ak ck q1.room.2 :: ClkAt b2 q1.room.1 :: ClkZ b4 :: KeyPt b3 k :: l) w) ?_ ?_
 ·refine Y8 ?_; refine Y1m ?_
  cases hf : q.find k with
  | none =>
   rw [hf] at hp1
   subst hp1
   exact qv (qe rfl (qa ⟨(), zz4, h⟩))
  | some i =>
   rw [hf] at hp1
   subst hp1
   refine qz (.bool true) (by congr 1) ?_
   refine Yd ?_; refine j2 ?_; refine Yk ?_
   refine r_c rfl (qb 0 h rfl (show _ = Value.iz 1 from rfl) rfl rfl rfl rfl fun w h => ?_)
   refine Yk ?_
   refine r_c rfl (qb 0 h rfl (show _ = Value.bool false from rfl) rfl rfl rfl rfl fun w h => ?_)
   exact qv ⟨(), zz4, h⟩
 rintro - w e h
 have hpok : p1.Ok := by rw [<- hp1]; split <;> exact ⟨by simp, Uu 0, fun h => by cases h⟩
 refine Y1 ?_
 refine r_v (qx (l := p1.C) rfl rfl (qw (h.b 0 rfl) rfl)) rfl ?_
 refine r_c rfl (qg rfl (ow hw O0 (h.f 2)) ?_)
 clear h
 intro _ w h
 obtain ⟨wc, lc⟩ := Clk.comes_wf hw hpok
 refine Yn ?_
 refine r_c rfl (qg rfl (s7 wc O0 h) ?_)
 clear h
 intro _ w h
 obtain ⟨a8, c8, h⟩ := St.clk.1 h
 refine Yn ?_
 refine r_v (qx (l := (q1.room.1.comes p1).cool.C a8 c8) rfl rfl (qw (h.b 0 rfl) rfl)) rfl ?_
 refine Yj ?_
 refine r_c rfl (qy (vs := (q1.room.1.comes p1).cool.C a8 c8) 4 h rfl rfl rfl rfl rfl rfl rfl fun w h => ?_)
 refine Yo ?_; refine Y7 ?_
 refine qv (qk ?_)
 refine bqctt (v := .agg ((q1.room.1.comes p1).cool.C a8 c8).toArray) (js (by rfl) (qw (h.b 4 rfl) rfl)) ⟨a8, c8, ak, ck, rfl, ?_⟩
 exact h.x [0, 2, 4, 5]
end
end
end Go.Proofs.YtngdfdangkdgcaaGreatDoor
namespace Go.Hw
section
set_option linter.unusedSectionVars false
theorem ln {P : Program} {w : World} {kt : TypeId} {ks : List IntKind} (he : EqI P kt ks) {κ : Type} [DecidableEq κ] (c : κ -> List Int) (hc : ∀ k, (c k).length = ks.length) (hinj : ∀ a b, c a = c b -> a = b) (k : κ) :
  ∀ (es : List MapEntry) (m : List (κ × Value)), Ents (fun k => Value.agg (ints ks (c k)).toArray) es m -> (Instr.findKey kt (.agg (ints ks (c k)).toArray) es).run P w = .ok (mfind k m 0) w := by
 obtain ⟨fl, hu, _⟩ := he.u
 have hask : ∀ (es : List MapEntry) (m : List (κ × Value)) (i : Nat), Ents (fun k => Value.agg (ints ks (c k)).toArray) es m -> (Instr.findAsking kt (.agg (ints ks (c k)).toArray) es i).run P w = .ok (mfind k m i) w := by
  intro es
  induction es with
  | nil => intro m i h; cases m with | nil => rfl | cons a m => simp [Ents] at h
  | cons e es ih =>
   intro m i h
   cases m with
   | nil => simp [Ents] at h
   | cons a m =>
    obtain ⟨j, u⟩ := a
    have h' : (e.key, e.val) = (Value.agg (ints ks (c j)).toArray, u) ∧ Ents (fun k => Value.agg (ints ks (c k)).toArray) es m := by simpa [Ents] using h
    have hk : e.key = .agg (ints ks (c j)).toArray := congrArg Prod.fst h'.1
    have hv : e.val = u := congrArg Prod.snd h'.1
    have hq : (Op.equal kt (.agg (ints ks (c k)).toArray) e.key).run P w = .ok (c k == c j) w := by
     rw [hk]; exact nj he (hc k) (hc j) 9998
    unfold Instr.findAsking
    rw [Sem.run_bind, hq]
    by_cases hj : k = j
    ·subst hj
     simp [mfind, hv]
    ·have h1 : (c k == c j) = false := by
      rw [beq_eq_false_iff_ne]; exact fun e => hj (hinj _ _ e)
     rw [h1]
     have h2 : (k == j) = false := by simpa using hj
     have h3 : ¬ j = k := fun e => hj e.symm
     simp [mfind, h2, h3, ih m (i + 1) h'.2]
 intro es m h
 unfold Instr.findKey
 rw [Sem.run_bind, run_underlying hu]
 cases es with
 | nil =>
  cases m with
  | nil => rfl
  | cons a m => simp [Ents] at h
 | cons e es =>
  have : Instr.findNow (.struct fl.toArray) (.agg (ints ks (c k)).toArray) (e :: es) 0 = none := by
   unfold Instr.findNow
   have : Instr.sameNow (.struct fl.toArray) (.agg (ints ks (c k)).toArray) e.key = none := rfl
   rw [this]
  simp only [Result.andThen_ok, this]
  exact hask (e :: es) m 0 h
theorem MK.ints {P : Program} {kt : TypeId} {ks : List IntKind} (he : EqI P kt ks) {κ : Type} [DecidableEq κ] (c : κ -> List Int) (hc : ∀ k, (c k).length = ks.length) (hinj : ∀ a b, c a = c b -> a = b)
  (hcheck : ∀ e w k, (Instr.checkKey e 10000 kt (.agg (Hw.ints ks (c k)).toArray)).run P w = .ok () w) : MK P kt κ (fun k => .agg (Hw.ints ks (c k)).toArray) where
 check := hcheck
 find := fun w k es m h => ln he c hc hinj k es m h
 same := fun k => by
  show Instr.sameBits (9999 + 1) _ _ = true
  unfold Instr.sameBits
  simp only [beq_self_eq_true, Bool.true_and, Xe]
  intro x hx
  have h2 : ∀ (ks : List IntKind) (l : List Int) (x : Value × Value), x ∈ (Hw.ints ks l).zip (Hw.ints ks l) -> ∃ k a, x = (.int k a, .int k a) := by
   intro ks
   induction ks with
   | nil => intro l x hx; simp [Hw.ints] at hx
   | cons k ks ih =>
    intro l x hx
    cases l with
    | nil => simp [Hw.ints] at hx
    | cons a l =>
     have : x = (.int k a, .int k a) ∨ x ∈ (Hw.ints ks l).zip (Hw.ints ks l) := by simpa [Hw.ints] using hx
     rcases this with rfl | h
     ·exact ⟨k, a, rfl⟩
     ·exact ih l x h
  obtain ⟨k', a, rfl⟩ := h2 ks (c k) x hx
  unfold Instr.sameBits
  simp
 inj := fun a b h => by
  refine hinj a b ?_
  have h1 : Hw.ints ks (c a) = Hw.ints ks (c b) := by simpa using h
  have h3 : ∀ (ks : List IntKind) (l m : List Int), l.length = ks.length -> m.length = ks.length -> Hw.ints ks l = Hw.ints ks m -> l = m := by
   intro ks
   induction ks with
   | nil => intro l m h1 h2 _; rw [Un h1, Un h2]
   | cons k ks ih =>
    intro l m h1 h2 h3
    match l, m, h1, h2 with
    | x :: l, y :: m, h1, h2 =>
     have : x = y ∧ Hw.ints ks l = Hw.ints ks m := by simpa [Hw.ints] using h3
     rw [this.1, ih l m (by simpa using h1) (by simpa using h2) this.2]
  exact h3 ks _ _ (hc a) (hc b) h1
/-! Maps whose elements are rows of their own. -/
section
variable {P : Program} {κ : Type} [DecidableEq κ] {kv : κ -> Value} {e : Env} {w w0 : World} {K : Env -> World -> Prop} {l : List HProp}
variable {d : Option Nat} {ty : TypeId} {pos : String} {af : Array Edge} {g : Option (Nat × Bool)}
variable {α β γ : Type} {vf : γ × α -> Value} {R : γ -> α -> HProp}
def VMap (kv : κ -> Value) (b : Nat) (vf : γ × α -> Value) (R : γ -> α -> HProp) (m : List (κ × α)) : HProp := ex fun mm : List (κ × (γ × α)) =>
 all [lift (mm.map (fun p => (p.1, p.2.2)) = m), MapOf kv b (mm.map fun p => (p.1, vf p.2)), big (fun p => R p.2.1 p.2.2) mm]
theorem St.vmap {b : Nat} {m : List (κ × α)} : St w0 (VMap kv b vf R m :: l) w ↔ ∃ mm : List (κ × (γ × α)), mm.map (fun p => (p.1, p.2.2)) = m ∧ St w0 (MapOf kv b (mm.map fun p => (p.1, vf p.2)) :: big (fun p => R p.2.1 p.2.2) mm :: l) w := by
 unfold VMap
 rw [St.ex]
 constructor
 ·rintro ⟨mm, h⟩
  have := h.join
  exact ⟨mm, St.lift.1 this⟩
 ·rintro ⟨mm, h1, h2⟩
  exact ⟨mm, St.fold _ (St.lift.2 ⟨h1, h2⟩)⟩
theorem St.vopen {b : Nat} {m : List (κ × α)} {k : κ} {x : α} (h : St w0 (VMap kv b vf R m :: l) w) (hk : mget k m = some x) : ∃ (y : γ) (mm : List (κ × (γ × α))), mm.map (fun p => (p.1, p.2.2)) = m ∧ mget k mm = some (y, x) ∧
  St w0 (R y x :: MapOf kv b (mm.map fun p => (p.1, vf p.2)) :: big (fun p => R p.2.1 p.2.2) (mdel k mm) :: l) w := by
 obtain ⟨mm, hmm, h0⟩ := St.vmap.1 h
 subst hmm
 have hk' := (gj (fun p : γ × α => p.2) k mm).symm.trans hk
 obtain ⟨⟨y, x'⟩, h1, h2⟩ := Va.1 hk'
 simp only at h2
 subst h2
 refine ⟨y, mm, rfl, h1, ?_⟩
 refine h0.of_all ?_
 simp only [jn]
 rw [yb _ k (y, x') mm h1, jf, v5]
theorem St.vshut {b : Nat} {mm : List (κ × (γ × α))} {k : κ} {x : α} {y : γ} (hk : mget k mm = some (y, x)) (h : St w0 (R y x :: MapOf kv b (mm.map fun p => (p.1, vf p.2)) :: big (fun p => R p.2.1 p.2.2) (mdel k mm) :: l) w) : St w0 (VMap kv b vf R (mm.map fun p => (p.1, p.2.2)) :: l) w := by
 refine St.vmap.2 ⟨mm, rfl, h.of_all ?_⟩
 simp only [jn]
 rw [yb _ k (y, x) mm hk, jf, v5]
theorem qgj {mm : List (κ × (γ × α))} {k : κ} {x : α} {y : γ} (hk : mget k mm = some (y, x)) : mget k (mm.map fun p => (p.1, vf p.2)) = some (vf (y, x)) := by
 rw [gj, hk]; rfl
theorem ii (f : κ × β -> HProp) (k : κ) (m : List (κ × β)) : ∃ P, big f m = star P (big f (mdel k m)) := by
 cases hk : mget k m with
 | none => exact ⟨emp, by rw [xg k m hk, ko]⟩
 | some y => exact ⟨f (k, y), yb f k y m hk⟩
theorem x_vset {t kt et : TypeId} [ht : Und P t (.map kt et)] [hm : MK P kt κ kv] {x y z : Operand} {b : Nat} {m : List (κ × α)} {k : κ} {u : γ} {v : α} (h : St w0 (R u v :: VMap kv b vf R m :: l) w) (hx : ev e x = .map (some b)) (hy : ev e y = kv k) (hz : ev e z = vf (u, v))
  (kk : ∀ w', St w0 (VMap kv b vf R (mset k v m) :: l) w' -> K e w') : Ex P ⟨none, .mapUpdate t x y z, ty, pos, af, g⟩ e w K := by
 obtain ⟨mm, rfl, h1⟩ := St.vmap.1 (h.f 1)
 refine pu (h := h1) hx hy hz fun w' h2 => kk w' ?_
 obtain ⟨Q, hQ⟩ := ii (fun p : κ × (γ × α) => R p.2.1 p.2.2) k mm
 refine St.vmap.2 ⟨mset k (u, v) mm, by rw [<- gt (fun p : γ × α => p.2)], ?_⟩
 have h3 : St w0 (Q :: MapOf kv b (mset k (vf (u, v)) (mm.map fun p => (p.1, vf p.2))) :: R u v :: big (fun p => R p.2.1 p.2.2) (mdel k mm) :: l) w' := by
  refine h2.of_all ?_
  simp only [jn]
  rw [hQ]
  ac_rfl
 have h4 := h3.drop
 rw [gt (fun p : γ × α => vf p)] at h4
 refine h4.of_all ?_
 simp only [jn]
 rw [nq]
 ac_rfl
theorem x_vdel {t kt et : TypeId} {tys : List TypeId} [ht : Und P t (.map kt et)] [hm : MK P kt κ kv] {x y : Operand} {b : Nat} {m : List (κ × α)} {k : κ} (h : St w0 (VMap kv b vf R m :: l) w) (hx : ev e x = .map (some b)) (hy : ev e y = kv k)
  (kk : ∀ w', St w0 (VMap kv b vf R (mdel k m) :: l) w' -> K (updO e d (.tuple #[])) w') : Ex P ⟨d, .call ⟨.builtin .delete, [x, y].toArray, (t :: tys).toArray⟩, ty, pos, af, g⟩ e w K := by
 obtain ⟨mm, rfl, h1⟩ := St.vmap.1 h
 refine pk (h := h1) hx hy fun w' h2 => kk w' ?_
 obtain ⟨Q, hQ⟩ := ii (fun p : κ × (γ × α) => R p.2.1 p.2.2) k mm
 refine St.vmap.2 ⟨mdel k mm, by rw [<- v8 (fun p : γ × α => p.2)], ?_⟩
 have h3 : St w0 (Q :: MapOf kv b (mdel k (mm.map fun p => (p.1, vf p.2))) :: big (fun p => R p.2.1 p.2.2) (mdel k mm) :: l) w' := by
  refine h2.of_all ?_
  simp only [jn]
  rw [hQ]
  ac_rfl
 have h4 := h3.drop
 rw [v8 (fun p : γ × α => vf p)] at h4
 exact h4
theorem qgg {c : Nat} {t : TypeId} (kv : κ -> Value) (vf : γ × α -> Value) (R : γ -> α -> HProp) (h : St w0 l w) (k : ∀ b w', St w0 (VMap kv b vf R ([] : List (κ × α)) :: l) w' -> K (upd e c (.map (some b))) w') : Ex P ⟨some c, .makeMap t none, ty, pos, af, g⟩ e w K :=
 iq kv h fun b w' h => k b w' (St.vmap.2 ⟨[], rfl, by
  refine h.of_all ?_
  simp only [jn, big, List.map_nil]
  rw [ko]⟩)
end
end
section
theorem valuesEnc_none {tag : Int} (v : List Nat) (h : tag < 1 ∨ 6 < tag) : valuesEnc tag v = none := by
 unfold valuesEnc
 rw [if_neg O0, if_neg O0, if_neg O0, if_neg O0, if_neg O0, if_neg O0]
theorem suitEnc_none {tag : Int} (l : List Smp) (h : tag < 1 ∨ 6 < tag) : suitEnc tag l = none := by
 unfold suitEnc
 rw [valuesEnc_none _ h]
 split <;> rfl
end
end Go.Hw
namespace Go.Proofs.YtngdfdangkdgcaaGreatDoor
open Go.Hw _root_.Go.Proofs.Tryz
section
theorem suitEnc_len {tag : Int} {L : List Smp} (hw : ∀ s ∈ L, s.Wf) : ((suitEnc tag L).getD []).length <= 3000000 := by
 unfold suitEnc
 split
 ·rename_i hrise
  have hn : L.length <= 65535 := by
   unfold rising at hrise
   simp only [Ur, decide_eq_true_eq] at hrise
   exact hrise.2
  have h1 := valuesEnc_len (tag := tag) (u := valsOf L) (by simpa [valsOf] using hn) (valsOf_lt hw)
  cases hv : valuesEnc tag (valsOf L) with
  | none => exact Ud _
  | some b =>
   rw [hv] at h1
   show (suitBytes L b).length <= _
   have h2 := timesBits_len (timesOf L)
   have h3 := j6 (timesBits (timesOf L))
   have h4 := jd (pack (timesBits (timesOf L))).length
   have h5 : (timesOf L).length = L.length := by simp [timesOf]
   have h6 : b.length <= 2000000 := h1
   unfold suitBytes
   rw [Ua, Ua]
   omega
 ·exact Ud _
end
end Go.Proofs.YtngdfdangkdgcaaGreatDoor
namespace Go.Hw
section
def crcBit (c : Nat) : Nat := if c % 2 = 1 then (c / 2) ^^^ 2197175160 else c / 2
def crcN : Nat -> Nat -> Nat
 | 0, c => c
 | k + 1, c => crcBit (crcN k c)
def crcByte (i : Nat) : Nat := crcN 8 i
def crcStep (s x : Nat) : Nat := crcByte ((s % 256) ^^^ x) ^^^ (s / 256)
def crcA (s : Nat) : List UInt8 -> Nat
 | [] => s
 | c :: r => crcA (crcStep s c.toNat) r
def crc (b : List UInt8) : Nat := crcA 4294967295 b ^^^ 4294967295
theorem xor32 {a b : Nat} (ha : a < 4294967296) (hb : b < 4294967296) : a ^^^ b < 4294967296 := Wr (n := 32) ha hb
theorem crcBit_lt {c : Nat} (h : c < 4294967296) : crcBit c < 4294967296 := by
 unfold crcBit
 split
 ·exact xor32 O0 O2
 ·omega
theorem crcN_lt {c : Nat} (h : c < 4294967296) : ∀ k, crcN k c < 4294967296
 | 0 => h
 | k + 1 => crcBit_lt (crcN_lt h k)
theorem crcByte_lt {i : Nat} (h : i < 256) : crcByte i < 4294967296 := crcN_lt O0 8
theorem xor8 {a b : Nat} (ha : a < 256) (hb : b < 256) : a ^^^ b < 256 := Wr (n := 8) ha hb
theorem crcStep_lt {s x : Nat} (hs : s < 4294967296) (hx : x < 256) : crcStep s x < 4294967296 :=
 xor32 (crcByte_lt (xor8 (Vr _ O2) hx)) O0
def be4 (c : Nat) : List UInt8 := [UInt8.ofNat (c / 2 ^ 24), UInt8.ofNat (c / 2 ^ 16), UInt8.ofNat (c / 2 ^ 8), UInt8.ofNat c]
def zigT (t : Int) : Nat := zigU (us t)
theorem zigT_lt (t : Int) : zigT t < 18446744073709551616 := zigU_lt (kl t)
theorem ze {t : Int} (h : I64 t) : sg (zagU (zigT t)) = t := by unfold zigT; rw [im (kl t), qqv h]
def firstT (L : List Smp) : Int := (L.head?.map Smp.T).getD 0
def lastT (L : List Smp) : Int := (L.getLast?.map Smp.T).getD 0
def chNums (L : List Smp) : List Nat := [L.length, zigT (firstT L), zigT (lastT L)]
def chBody (tag : Int) (L : List Smp) (x : List UInt8) : List UInt8 := UInt8.ofNat tag.toNat :: ((chNums L).flatMap vput ++ x)
def chMake (tag : Int) (L : List Smp) : Option (List UInt8) := match suitEnc tag L with
 | none => none
 | some x => if L = [] then none else some (chBody tag L x ++ be4 (crc (chBody tag L x)))
structure Hd where
 tag : Nat
 count : Nat
 f : Int
 t : Int
def hdOf (c : UInt8) (l : List Nat) : Hd := ⟨c.toNat, l.getD 0 0, sg (zagU (l.getD 1 0)), sg (zagU (l.getD 2 0))⟩
def headDec : List UInt8 -> Option (Hd × List UInt8)
 | [] => none
 | c :: r => if c.toNat < 1 ∨ 6 < c.toNat then none else match getVs 3 r with
  | none => none
  | some (l, rest) => if l.getD 0 0 < 1 ∨ 65535 < l.getD 0 0 ∨ sg (zagU (l.getD 2 0)) < sg (zagU (l.getD 1 0)) then none else some (hdOf c l, rest)
def chOpen (b : List UInt8) : Option (List Smp × Nat) := match headDec b with
 | none => none
 | some (h, rest) => if rest.length < 4 then none else match suitDec h.tag (rest.take (rest.length - 4)) h.count with
  | none => none
  | some L => if chMake h.tag L = some b then some (L, h.tag) else none
theorem chMake_some {tag : Int} {L : List Smp} {b : List UInt8} (h : chMake tag L = some b) : ∃ x, suitEnc tag L = some x ∧ L ≠ [] ∧ b = chBody tag L x ++ be4 (crc (chBody tag L x)) := by
 unfold chMake at h
 split at h
 ·cases h
 ·rename_i x hx
  split at h
  ·cases h
  ·rename_i hL
   exact ⟨x, hx, hL, (Uk h).symm⟩
theorem suitEnc_tag {tag : Int} {L : List Smp} {x : List UInt8} (h : suitEnc tag L = some x) : 1 <= tag ∧ tag <= 6 := by
 by_cases hk : tag < 1 ∨ 6 < tag
 ·rw [suitEnc_none L hk] at h; cases h
 ·omega
theorem suitEnc_rises {tag : Int} {L : List Smp} {x : List UInt8} (h : suitEnc tag L = some x) : rises L = true ∧ L.length <= 65535 := by
 unfold suitEnc at h
 split at h
 ·rename_i hr
  unfold rising at hr
  simpa only [Ur, decide_eq_true_eq] using hr
 ·cases h
theorem od {L : List Smp} (h : rises L = true) (hL : L ≠ []) : firstT L <= lastT L := by
 cases L with
 | nil => exact absurd rfl hL
 | cons s r =>
  have h0 := (st (s :: r)).1 h
  unfold firstT lastT
  rw [List.getLast?_eq_getElem?]
  have hg := Uc (show (s :: r).length - 1 < (s :: r).length by simp)
  generalize (s :: r)[(s :: r).length - 1]'O8 = z at hg
  rw [hg]
  show s.T <= z.T
  by_cases hr : r = []
  ·subst hr; simp at hg; subst hg; exact Uu _
  ·have hp : 0 < r.length := Vt.2 hr
   exact Int.le_of_lt (h0 0 _ s z rfl hg O6)
theorem il {L : List Smp} (hw : ∀ s ∈ L, s.Wf) (hL : L ≠ []) : I64 (firstT L) ∧ I64 (lastT L) := by
 cases L with
 | nil => exact absurd rfl hL
 | cons s r =>
  refine ⟨(hw s (Ub ..)).1, ?_⟩
  unfold lastT
  rw [List.getLast?_eq_getElem?]
  have hg := Uc (show (s :: r).length - 1 < (s :: r).length by simp)
  have hm := Zz (show (s :: r).length - 1 < (s :: r).length by simp)
  generalize (s :: r)[(s :: r).length - 1]'O8 = z at hg hm
  rw [hg]
  exact (hw z hm).1
theorem headDec_told {tag : Int} {L : List Smp} {x : List UInt8} (hw : ∀ s ∈ L, s.Wf) (hL : L ≠ []) (h : suitEnc tag L = some x) (r : List UInt8) : headDec (UInt8.ofNat tag.toNat :: ((chNums L).flatMap vput ++ r)) = some (⟨tag.toNat, L.length, firstT L, lastT L⟩, r) := by
 obtain ⟨h1, h6⟩ := suitEnc_tag h
 obtain ⟨hr, hlen⟩ := suitEnc_rises h
 obtain ⟨w1, w2⟩ := il hw hL
 have hpos : 0 < L.length := Vt.2 hL
 have htn : (UInt8.ofNat tag.toNat).toNat = tag.toNat := by rw [UInt8.toNat_ofNat']; omega
 have hg := getVs_told r (chNums L) (fun z hz => by
  simp only [chNums, Uo, Ka, or_false] at hz
  rcases hz with rfl | rfl | rfl
  ·omega
  ·exact zigT_lt _
  ·exact zigT_lt _)
 unfold headDec; dsimp only
 rw [htn, if_neg O0, show getVs 3 _ = _ from hg]
 dsimp only
 have e0 : (chNums L).getD 0 0 = L.length := rfl
 have e1 : (chNums L).getD 1 0 = zigT (firstT L) := rfl
 have e2 : (chNums L).getD 2 0 = zigT (lastT L) := rfl
 have hle := od hr hL
 rw [if_neg (by rw [e0, e1, e2, ze w1, ze w2]; omega)]
 unfold hdOf
 rw [htn, e0, e1, e2, ze w1, ze w2]
theorem chBody_len (tag : Int) (L : List Smp) (x : List UInt8) : 4 + x.length <= (chBody tag L x).length ∧ (chBody tag L x).length <= 31 + x.length := by
 have h1 := jd L.length
 have h2 := jd (zigT (firstT L))
 have h3 := jd (zigT (lastT L))
 simp only [chBody, chNums, Uh, List.flatMap_nil, Ui, Ua, Xs]
 omega
theorem be4_len (c : Nat) : (be4 c).length = 4 := rfl
theorem chOpen_told {tag : Int} {L : List Smp} {b : List UInt8} (hw : ∀ s ∈ L, s.Wf) (hb : b.length < 18446744073709551616) (h : chMake tag L = some b) : chOpen b = some (L, tag.toNat) := by
 obtain ⟨x, hx, hL, he⟩ := chMake_some h
 obtain ⟨h1, h6⟩ := suitEnc_tag hx
 have hh := headDec_told hw hL hx (x ++ be4 (crc (chBody tag L x)))
 have hb' : b = UInt8.ofNat tag.toNat :: ((chNums L).flatMap vput ++ (x ++ be4 (crc (chBody tag L x)))) := by
  rw [he]
  unfold chBody
  simp
 rw [<- hb'] at hh
 have hl := chBody_len tag L x
 have hbl : b.length = (chBody tag L x).length + 4 := by rw [he, Ua, be4_len]
 unfold chOpen
 rw [hh]
 dsimp only
 rw [if_neg (by rw [Ua, be4_len]; omega), Ua, be4_len, Nat.add_sub_cancel, Zv, show ((tag.toNat : Nat) : Int) = tag by omega, suitDec_told hw O0 hx]
 dsimp only
 rw [if_pos h]
end
end Go.Hw
namespace Go.Proofs.YtngdfdangkdgcaaGreatDoor
open Go.Hw _root_.Go.Proofs.Tryz
section
section
variable {w0 w : World} {l : List HProp} {p : Nat}
theorem heldN_one : heldN 1 = 1 := rfl
theorem ob {s : RS} (h : St w0 (IsBR p s :: l) w) : Ret prog 183 [.pz p] w fun v w' => v = .iz ((aheadR 4 s).1 : Nat) ∧ St w0 (IsBR p (aheadR 4 s).2 :: l) w' := by
 refine en func183 results183 ntmps183 ?_
 refine Yr ?_; refine Yr ?_
 refine qt (Γ := Unit) (fun _ => [(0, .pz p), (3, .iz ((aheadR 4 s).1 : Nat))]) (fun _ w => St w0 (IsBR p (aheadR 4 s).2 :: l) w) ?_ ?_
 ·refine Yh ?_
  refine jx (Γ := Nat × Nat × RS) (fun k => [(0, .pz p), (3, .iz k.1)])
   (fun k w => k.1 + k.2.1 = 4 ∧ (aheadR k.2.1 k.2.2).1 + k.1 = (aheadR 4 s).1 ∧ (aheadR k.2.1 k.2.2).2 = (aheadR 4 s).2 ∧ St w0 (IsBR p k.2.2 :: l) w) (fun k => k.2.1) (0, 4, s) zz2 ⟨rfl, rfl, rfl, h⟩ ?_
  clear h
  rintro ⟨n, k, s'⟩ w e ⟨hk, h1, h2, h⟩
  dsimp only at hk h1 h2 h ⊢
  refine Y1w ?_; refine Y1u ?_
  cases k with
  | zero =>
   refine qz (.bool false) O6 ?_
   refine Y2f ?_; refine Y9 ?_; refine Y24 ?_
   refine ju ⟨(), ⟨rfl, ?_, trivial⟩, ?_⟩
   ·rw [<- h1]; show Value.iz _ = Value.iz _; rw [aheadR, Uz]
   ·rw [<- h2]; exact h
  | succ k =>
   refine qz (.bool true) O6 ?_
   refine Y3f ?_
   refine r_c rfl (qg rfl (gb 1 h) ?_)
   rintro _ w ⟨rfl, h⟩
   rw [heldN_one] at h ⊢
   refine Y3b ?_
   rw [aheadR] at h1 h2
   by_cases hb : (s'.get 1).1 = 1
   ·rw [if_pos hb] at h1 h2
    refine qz (.bool true) (by rw [hb]; rfl) ?_
    refine Y1s ?_; refine Yl ?_; refine Yh ?_; refine Y2z ?_
    refine qz (.iz ((n + 1 : Nat) : Int)) O7 ?_
    refine Y6 ?_
    exact qv ⟨(n + 1, k, (s'.get 1).2), zz2, ⟨O_d, by dsimp only at h1 ⊢; omega, h2, h⟩, O_d⟩
   ·rw [if_neg hb] at h1 h2
    refine qz (.bool false) O5 ?_
    refine Yf ?_; refine Y24 ?_
    refine ju ⟨(), ⟨rfl, ?_, trivial⟩, ?_⟩
    ·rw [<- h1]; show Value.iz _ = Value.iz _; rw [Uz]
    ·rw [<- h2]; exact h
 clear h
 rintro ⟨⟩ w e h
 refine Y3i ?_
 exact qk (bq1 ⟨rfl, h⟩)
theorem qqt (k : Nat) : longs k <= 64 := by
 unfold longs
 match k with
 | 0 | 1 | 2 | 3 | 4 => decide
 | k + 5 => exact (by decide : (0 : Nat) <= 64)
theorem lp {k : Nat} (h : k <= 4) : (i64V [0, 7, 9, 12, 64])[k]? = some (.iz (longs k : Nat)) := by
 rcases (by omega : k = 0 ∨ k = 1 ∨ k = 2 ∨ k = 3 ∨ k = 4) with rfl | rfl | rfl | rfl | rfl <;> rfl
theorem om {g n : Nat} (hg : g < 2 ^ n) (hn : n <= 64) (h0 : n ≠ 0) : (sg (g * 2 ^ (64 - n))).fdiv (2 ^ (64 - n)) = sext g n ∧ g * 2 ^ (64 - n) < 18446744073709551616 := by
 have hP : 0 < 2 ^ (64 - n) := Wj _
 have h64 : 2 ^ n * 2 ^ (64 - n) = 18446744073709551616 := by rw [<- Xu, show n + (64 - n) = 64 by omega]
 have h63 : 2 ^ (n - 1) * 2 ^ (64 - n) = 9223372036854775808 := by rw [<- Xu, show n - 1 + (64 - n) = 63 by omega]
 have hlt : g * 2 ^ (64 - n) < 18446744073709551616 := by rw [<- h64]; exact Nat.mul_lt_mul_of_pos_right hg hP
 refine ⟨?_, hlt⟩
 have hPi : ((2 : Int) ^ (64 - n)) = ((2 ^ (64 - n) : Nat) : Int) := by simp
 have hni : ((2 : Int) ^ n) = ((2 ^ n : Nat) : Int) := by simp
 unfold sext
 rw [if_neg h0, hPi, hni, Zr _ O0]
 unfold sg
 by_cases hl : g < 2 ^ (n - 1)
 ·rw [if_pos hl, if_pos (by rw [<- h63]; exact Nat.mul_lt_mul_of_pos_right hl hP), <- Int.natCast_ediv, Nat.mul_div_cancel _ hP]
 ·rw [if_neg hl, if_neg (by rw [<- h63]; exact Nat.not_lt.2 (Ut _ (Nat.not_lt.1 hl)))]
  have e : ((g * 2 ^ (64 - n) : Nat) : Int) - 18446744073709551616 = ((g : Int) - ((2 ^ n : Nat) : Int)) * ((2 ^ (64 - n) : Nat) : Int) := by
   rw [Int.sub_mul, <- Int.natCast_mul, <- Int.natCast_mul, h64]; rfl
  rw [e, Int.mul_ediv_cancel _ O0]
theorem lo {s : RS} (h : St w0 (IsBR p s :: l) w) : Ret prog 166 [.pz p] w fun v w' => v = .tuple [.iz (nextT s).1, .bool (nextOk s)].toArray ∧ St w0 (IsBR p (nextT s).2 :: l) w' := by
 refine en func166 results166 ntmps166 ?_
 refine Y3z ?_; refine Ym ?_
 refine r_c rfl (qg rfl (ob h) ?_)
 rintro _ w ⟨rfl, h⟩
 refine Y4 ?_
 have hle := aheadR_le 4 s
 have hnT : nextT s = (sext ((aheadR 4 s).2.get (longs (aheadR 4 s).1)).1 (longs (aheadR 4 s).1), ((aheadR 4 s).2.get (longs (aheadR 4 s).1)).2) := rfl
 have hnO : nextOk s = decide ((which (nextT s).1).bits = longs (aheadR 4 s).1) := rfl
 generalize hk : (aheadR 4 s).1 = k at *
 generalize (aheadR 4 s).2 = s1 at *
 have hll := qqt k
 refine Y1 ?_
 refine r_c rfl (jg (r := i64V [0, 7, 9, 12, 64]) h rfl rfl rfl fun b w h => ?_)
 refine Y0 ?_
 refine r_v (jb (o' := k) rfl rfl rfl O0 O8) rfl ?_
 refine r_v (qq (v := .iz (longs k : Nat)) rfl (h.b 0 rfl) (lp hle)) rfl ?_
 replace h := h.drop
 refine Y4 ?_
 have hgl := RS.get_lt s1 (longs k)
 refine Y40 ?_
 refine r_c rfl (qg rfl (gb (longs k) h) ?_)
 rintro _ w ⟨rfl, h⟩
 rw [heldN_nat hll] at h ⊢
 generalize hg : s1.get (longs k) = gs at *
 obtain ⟨g, s2⟩ := gs
 dsimp only at h hgl hnT ⊢
 refine Y0 ?_; refine Y1l ?_
 refine qz (.iz ((64 - longs k : Nat) : Int)) O9 ?_
 refine r_v (qr (v' := .int .u64 ((g * 2 ^ (64 - longs k) % 18446744073709551616 : Nat) : Int)) (xl rfl rfl O0) (congrArg (Value.int .u64) (kh g (64 - longs k) O0))) rfl ?_
 refine Yy ?_
 refine qz (.iz (sg (g * 2 ^ (64 - longs k) % 18446744073709551616))) (by rw [ym (Vr _ O2)]) ?_
 refine Y0 ?_; refine r_v (sw rfl rfl) rfl ?_; refine Y1l ?_
 refine qz (.iz ((64 - max (longs k) 1 : Nat) : Int)) O9 ?_
 refine r_v (vl rfl rfl O0) rfl ?_
 refine r_int fun d hd => ?_
 refine Y4 ?_
 refine qt (Γ := Unit) (fun _ => [(5, .iz (longs k : Nat)), (6, .iz (sext g (longs k)))]) (fun _ w => St w0 (IsBR p s2 :: l) w) ?_ ?_
 ·refine Y8 ?_; refine Yp ?_
  by_cases h0 : longs k = 0
  ·refine qz (.bool true) (by rw [h0]; rfl) ?_
   refine Yd ?_; refine j2 ?_; refine Y6 ?_
   refine qv ⟨(), ⟨rfl, ?_, trivial⟩, h⟩
   show Value.iz 0 = _
   unfold sext; rw [if_pos h0]
  ·refine qz (.bool false) O5 ?_
   refine qv (qe rfl (qa ⟨(), ⟨rfl, ?_, trivial⟩, h⟩))
   show Value.iz d = _
   obtain ⟨h1, h2⟩ := om hgl hll h0
   rw [hd, Ul h2, show max (longs k) 1 = longs k by omega, Zo, Vs (show 64 - longs k <= IntKind.i64.bits by show 64 - longs k <= 64; omega), h1]
 clear h hd d
 rintro ⟨⟩ w e h
 refine Y35 ?_
 refine r_c rfl (qg rfl (dv (sext g (longs k)) h) ?_)
 rintro _ w ⟨rfl, h⟩
 refine r_v (qja (ft := 3) (o := 2) underlying276 O1 rfl rfl) rfl ?_
 refine Y0 ?_; refine Yp ?_
 refine qz (.bool (nextOk s)) (by
  rw [hnO, hnT]
  dsimp only
  congr 1
  rw [Bool.eq_iff_iff, beq_iff_eq, decide_eq_true_eq]
  exact ⟨fun h => by omega, fun h => by rw [h]⟩) ?_
 refine Y1n ?_
 rw [hnT]
 exact qk (bq2 ⟨rfl, h⟩)
def askN (n : Int) : Nat := (min (max n 0) 65535).toNat
theorem askN_le (n : Int) : askN n <= 65535 := by unfold askN; omega
theorem cy {s : RS} (n : Int) (h : St w0 (IsBR p s :: l) w) : Ret prog 157 [.pz p, .iz n] w fun v w' =>
  (timesDec (askN n) s = none ∧ v = .tuple [.slice none 0 0, .bool false].toArray ∧ ∃ s', St w0 (IsBR p s' :: l) w') ∨
  (∃ x a c, timesDec (askN n) s = some x ∧ v = .tuple [.slice a x.1.length c, .bool true].toArray ∧ St w0 (Own 2 1 a x.1.length c (i64V x.1) :: IsBR p x.2 :: l) w') := by
 have hm := askN_le n
 refine en func157 results157 ntmps157 ?_
 refine Yu ?_; refine Y45 ?_
 refine qz (.iz (askN n)) (by unfold askN; congr 1; omega) ?_
 generalize askN n = m at hm ⊢
 refine Y4 ?_; refine Y1b ?_; refine Yn ?_; refine Y3q ?_; refine Y1w ?_; refine Y20 ?_
 refine jx (Γ := Nat × List Int × Nat × Nat × RS × Option Addr × Nat) (fun k => [(0, .pz p), (6, .slice k.2.2.2.2.2.1 k.2.1.length k.2.2.2.2.2.2), (7, .int .u64 k.2.2.1), (8, .int .u64 k.2.2.2.1), (15, .iz m), (16, .iz k.1)])
  (fun k w => k.1 <= m ∧ k.2.1.length = k.1 ∧ k.2.2.1 < 18446744073709551616 ∧ k.2.2.2.1 < 18446744073709551616 ∧ ((k.1 = 0 ∧ k.2.2.2.1 = 0 ∧ k.2.2.2.2.1 = s) ∨ (0 < k.1 ∧ k.2.2.2.2.1.bad = false ∧ timesDec m s = (timesDecA (m - k.1) k.2.2.1 k.2.2.2.1 k.2.2.2.2.1).map fun r => (k.2.1 ++ r.1, r.2)))
   ∧ St w0 (Own 2 1 k.2.2.2.2.2.1 k.2.1.length k.2.2.2.2.2.2 (i64V k.2.1) :: IsBR p k.2.2.2.2.1 :: l) w)
  (fun k => m - k.1) (0, [], 0, 0, s, none, 0) zz6 ⟨Ud _, rfl, (by decide : (0 : Nat) < 18446744073709551616), (by decide : (0 : Nat) < 18446744073709551616), .inl ⟨rfl, rfl, rfl⟩, St.ownNil _ _ h⟩ ?_
 clear h
 rintro ⟨i, out, was, step, s', a, c⟩ w e ⟨him, hol, hwas, hstep, inv, h⟩
 dsimp only at him hol hwas hstep inv h ⊢
 refine Y14 ?_
 refine qf (qi (decide ((i : Int) < (m : Int))) rfl (fun hc => ?_) (fun hc => ?_))
 ·
  have hlt : i < m := by simp at hc; omega
  refine Y1z ?_; refine Y3i ?_
  refine qt (Γ := Nat × Nat × RS) (fun k => [(0, .pz p), (6, .slice a out.length c), (7, .int .u64 k.1), (8, .int .u64 k.2.1), (15, .iz m), (16, .iz i)])
   (fun k w => k.1 < 18446744073709551616 ∧ k.2.1 < 18446744073709551616 ∧ (timesDec m s = if k.2.2.bad = true then none else (timesDecA (m - (i + 1)) k.1 k.2.1 k.2.2).map fun r => (out ++ sg k.1 :: r.1, r.2)) ∧ St w0 (Own 2 1 a out.length c (i64V out) :: IsBR p k.2.2 :: l) w) ?_ ?_
  ·refine Y8 ?_; refine Yp ?_
   rcases inv with ⟨hi0, hs0, rfl⟩ | ⟨hi0, hbad, inv⟩
   ·refine qz (.bool true) (by subst hi0; rfl) ?_
    refine Y3s ?_
    refine r_c rfl (qg rfl (gb 64 (h.f 1)) ?_)
    rintro _ w ⟨rfl, h⟩
    rw [show heldN 64 = 64 from rfl] at h ⊢
    refine Y6 ?_
    refine qv ⟨((s'.get 64).1, step, (s'.get 64).2), zz6, RS.get_lt s' 64, hstep, ?_, h.f 1⟩
    dsimp only
    have : out = [] := Un O0
    subst this
    rw [hs0, hi0]
    cases m with
    | zero => omega
    | succ m => rfl
   ·refine qz (.bool false) O6 ?_
    refine Y24 ?_; refine Ym ?_
    refine r_c rfl (qg rfl (lo (h.f 1)) ?_)
    rintro _ w ⟨rfl, h⟩
    refine Y48 ?_; refine Y1h ?_
    rw [show m - i = (m - (i + 1)) + 1 by omega, timesDecA] at inv
    refine Y2 ?_
    refine qi (!nextOk s') rfl (fun hc => ?_) (fun hc => ?_)
    ·
     have hno : nextOk s' = false := by simpa using hc
     refine Yu ?_
     rw [if_neg (by rw [hno]; simp)] at inv
     exact qk (bq2 (.inl ⟨inv, rfl, _, (h.f 1).drop⟩))
    have hok : nextOk s' = true := by simpa using hc
    refine Yl ?_; refine Y35 ?_; refine Yy ?_
    refine qz (.int .u64 (us (nextT s').1 : Nat)) (by rw [kb]) ?_
    refine Y1f ?_
    refine qz (.int .u64 (summ step (us (nextT s').1) : Nat)) (by rw [sc]) ?_
    refine Y4 ?_; refine Y2a ?_; refine Y0 ?_; refine Y1f ?_
    refine qz (.int .u64 (summ was (summ step (us (nextT s').1)) : Nat)) (by rw [sc]) ?_
    refine Y6 ?_
    refine qv ⟨(summ was (summ step (us (nextT s').1)), summ step (us (nextT s').1), (nextT s').2), zz6, Vr _ O2, Vr _ O2, ?_, h.f 1⟩
    rw [inv]
    dsimp only
    cases hb : (nextT s').2.bad with
    | true => rw [if_neg O8, if_pos rfl]; rfl
    | false => rw [if_pos ⟨hok, rfl⟩, if_neg O8, Option.map_map]; rfl
  clear h inv
  rintro ⟨was', step', s2⟩ w e ⟨hw', hs', inv, h⟩
  dsimp only at hw' hs' inv h ⊢
  refine Y4g ?_
  refine r_c rfl (qg rfl (wz (h.f 1)) ?_)
  rintro _ w ⟨rfl, h⟩
  refine Yx ?_; refine Y2 ?_
  refine qi (!!s2.bad) rfl (fun hc => ?_) (fun hc => ?_)
  ·
   have hb : s2.bad = true := by simpa using hc
   refine Yu ?_
   rw [if_pos hb] at inv
   exact qk (bq2 (.inl ⟨inv, rfl, _, (h.f 1).drop⟩))
  have hb : s2.bad = false := by simpa using hc
  rw [if_neg (by rw [hb]; simp)] at inv
  refine Yl ?_; refine Y3x ?_; refine Yy ?_
  refine qz (.iz (sg was')) (by rw [ym hw']) ?_
  refine r_c rfl (jg (r := i64V [sg was']) (h.f 1) rfl rfl rfl fun b w h => ?_)
  refine r_c rfl (q9 (ys := i64V [sg was']) (zs := i64V (out ++ [sg was'])) (m3 := (out ++ [sg was']).length) (h.f 1) rfl rfl ⟨rfl, .inr ⟨b, 0, rfl, qw (h.b 0 rfl) rfl⟩⟩ (i64V_one _) O8 (by simp [i64V]) O6 O6 rfl fun a' c' w _ h => ?_)
  refine Yw ?_; refine Yt ?_
  refine qz (.iz ((i + 1 : Nat) : Int)) O7 ?_
  refine Y0 ?_
  refine qv ⟨(i + 1, out ++ [sg was'], was', step', s2, a', c'), zz6, ⟨hlt, by dsimp only; simp; omega, hw', hs', .inr ⟨Nat.succ_pos _, hb, ?_⟩, (h.f 1).drop⟩, O_d⟩
  rw [inv]
  dsimp only
  congr 1
  funext r
  simp
 have hin : i = m := by simp at hc; omega
 refine ju ?_
 refine Y4g ?_
 refine r_c rfl (qg rfl (wz (h.f 1)) ?_)
 rintro _ w ⟨rfl, h⟩
 refine Yx ?_; refine Y2 ?_
 have key : timesDec m s = if s'.bad = true then none else some (out, s') := by
  rcases inv with ⟨hi0, hs0, rfl⟩ | ⟨hi0, hbad, inv⟩
  ·have : out = [] := Un O0
   subst this
   rw [<- hin, hi0]; rfl
  ·rw [inv, hin, Zb, hbad]
   simp [timesDecA]
 refine qi (!!s'.bad) rfl (fun hc => ?_) (fun hc => ?_)
 ·
  refine Yu ?_
  rw [if_pos (by simpa using hc)] at key
  exact qk (bq2 (.inl ⟨key, rfl, _, (h.f 1).drop⟩))
 rw [if_neg (by simpa using hc)] at key
 refine Yl ?_; refine Y4c ?_
 exact qk (bq2 (.inr ⟨(out, s'), a, c, key, rfl, h.f 1⟩))
end
end
end Go.Proofs.YtngdfdangkdgcaaGreatDoor
namespace Go.Hw
section
theorem timesDecA_i64 : ∀ (k was step : Nat) (s : RS) (x : List Int × RS), timesDecA k was step s = some x -> ∀ t ∈ x.1, I64 t
 | 0, _, _, _, x, h => by cases h; exact fun _ h => by cases h
 | k + 1, was, step, s, x, h => by
  rw [timesDecA] at h
  split at h
  ·obtain ⟨y, h1, rfl⟩ := Va.1 h
   intro t ht
   rcases Uo.1 ht with rfl | ht
   ·exact sg_wf (Vr _ O2)
   ·exact timesDecA_i64 k _ _ _ y h1 t ht
  ·cases h
theorem timesDec_i64 {n : Nat} {s : RS} {x : List Int × RS} (h : timesDec n s = some x) : ∀ t ∈ x.1, I64 t := by
 cases n with
 | zero => unfold timesDec at h; dsimp only at h; split at h <;> cases h; exact fun _ h => by cases h
 | succ k =>
  unfold timesDec at h; dsimp only at h; split at h
  ·cases h
  ·obtain ⟨y, h1, rfl⟩ := Va.1 h
   intro t ht
   rcases Uo.1 ht with rfl | ht
   ·exact sg_wf (RS.get_lt s 64)
   ·exact timesDecA_i64 k _ _ _ y h1 t ht
theorem zipS_len : ∀ (x : List Int) (v : List Nat), x.length = v.length -> (zipS x v).length = x.length
 | [], _, _ => by simp [zipS]
 | _ :: _, [], h => by simp at h
 | t :: x, a :: v, h => by simp [zipS, zipS_len x v O15]
theorem zipS_wf : ∀ (x : List Int) (v : List Nat), (∀ t ∈ x, I64 t) -> (∀ a ∈ v, a < 18446744073709551616) -> ∀ s ∈ zipS x v, s.Wf
 | [], _, _, _, s, h => by simp [zipS] at h
 | _ :: _, [], _, _, s, h => by simp [zipS] at h
 | t :: x, a :: v, hx, hv, s, h => by
  rw [zipS] at h
  rcases Uo.1 h with rfl | h
  ·exact ⟨hx t (Ub ..), O_d, by have := hv a (Ub ..); dsimp only; omega⟩
  ·exact zipS_wf x v (fun y hy => hx y (Ue _ hy)) (fun y hy => hv y (Ue _ hy)) s h
theorem zipS_snoc : ∀ (x : List Int) (v : List Nat) (k : Nat) (t : Int) (a : Nat), x[k]? = some t -> v[k]? = some a -> zipS (x.take (k + 1)) (v.take (k + 1)) = zipS (x.take k) (v.take k) ++ [⟨t, a⟩]
 | [], _, _, _, _, h, _ => by simp at h
 | _ :: _, [], _, _, _, _, h => by simp at h
 | s :: x, b :: v, 0, t, a, h, h' => by simp at h h'; subst h; subst h'; simp [zipS]
 | s :: x, b :: v, k + 1, t, a, h, h' => by
  have := zipS_snoc x v k t a O15 (by simpa using h')
  rw [Vu, Vu, zipS, this, Vu, Vu, zipS]
  rfl
theorem xh {α : Type} {x : List α} {k : Nat} (h : k <= x.length) : (x.take k).length = k := by rw [Us, Vs h]
theorem cz {x : Nat} (h : x <= 9223372036854775807) : IntKind.u64.wrap (x : Int) = (x : Int) := by
 unfold IntKind.wrap
 simp [IntKind.signed, IntKind.bits]
 omega
end
end Go.Hw
namespace Go.Proofs.YtngdfdangkdgcaaGreatDoor
open Go.Hw _root_.Go.Proofs.Tryz
section
section
variable {w0 w : World} {l : List HProp}
theorem askN_nat {n : Nat} (h : n <= 65535) : askN (n : Int) = n := by unfold askN; omega
theorem x9 {s1 s2 : Option Addr} {c1 c2 : Nat} {b1 b2 : List UInt8} (h : St w0 l w) (h1 : ∀ w', St w0 l w' -> Rd w' 1 s1 b1.length (bytesV b1)) (h2 : ∀ w', St w0 l w' -> Rd w' 1 s2 b2.length (bytesV b2)) :
  Ret prog 153 [.slice s1 b1.length c1, .slice s2 b2.length c2] w fun v w' => v = .bool (decide (b1 = b2)) ∧ St w0 l w' := by
 refine en func153 results153 ntmps153 ?_
 refine Y12 ?_; refine Ye ?_
 refine r_v (r8 rfl (h1 _ h)) rfl ?_
 refine Yj ?_
 refine r_v (r8 rfl (h2 _ h)) rfl ?_
 refine r_v (qjo rfl rfl) rfl ?_; refine Ya ?_
 refine qk (bq1 ⟨?_, h⟩)
 show Value.bool (b1.toArray.toList == b2.toArray.toList) = _
 congr 1
 rw [Bool.eq_iff_iff]
 simp
def ReadOk (tag : Int) : Prop := ∀ {w0 w : World} {l : List HProp} {sl : Option Addr} {c : Nat} {bs : List UInt8} {n : Nat}, Tz w0 -> Reads w0 l 1 sl bs.length (bytesV bs) -> bs.length <= 140737488355328 -> bs.length <= c -> n <= 65535 -> St w0 l w ->
 Ret prog 159 [.iz tag, .slice sl bs.length c, .iz (n : Int)] w fun v w' => ∃ a c' xs b, v = .tuple [.slice a xs.length c', .bool b].toArray ∧ valuesDec tag bs n = (if b = true then some xs else none) ∧ (b = true -> xs.length = n ∧ ∀ x ∈ xs, x < 18446744073709551616) ∧ St w0 (OwnU a c' xs :: l) w'
theorem ny (hT : Tz w0) {tag : Int} (hV : ValOk tag) (hread : ReadOk tag) {sl : Option Addr} {c : Nat} {bs : List UInt8} (n : Int) (hn : bs.length <= 140737488355328) (hc : bs.length <= c) (hr : Reads w0 l 1 sl bs.length (bytesV bs)) (h : St w0 l w) :
  Ret prog 151 [.iz tag, .slice sl bs.length c, .iz n] w fun v w' => ∃ a c', v = .tuple [.slice a ((suitDec tag bs n).getD []).length c', .bool (suitDec tag bs n).isSome].toArray ∧ (∀ L, suitDec tag bs n = some L -> (L.length : Int) = n ∧ ∀ s ∈ L, s.Wf) ∧ St w0 (OwnS a c' ((suitDec tag bs n).getD []) :: l) w' := by
 have hk := iz bs
 have hsz := iw bs
 have hdef : suitDec tag bs n = _ := rfl
 conv at hdef => rhs; unfold suitDec
 refine en func151 results151 ntmps151 ?_
 refine Yu ?_; refine Ye ?_
 refine r_c rfl (qg rfl (pw h hr.rd hn) ?_)
 rintro _ w ⟨rfl, h⟩
 refine Y4a ?_
 generalize (vget bs).1 = size at hsz hdef ⊢
 generalize (vget bs).2 = k at hk hdef ⊢
 refine qt (Γ := Unit) (fun _ => [(0, .iz tag), (1, .slice sl bs.length c), (2, .iz n), (8, .int .u64 size), (9, .iz k)]) (fun _ w => (¬ (k = 0 ∨ n < 0 ∨ 65535 < n ∨ bs.length - k < size)) ∧ St w0 l w) ?_ ?_
 ·refine Y1 ?_
  have bad : ∀ {w : World}, (k = 0 ∨ n < 0 ∨ 65535 < n ∨ bs.length - k < size) -> St w0 l w -> ∃ a c', Value.tuple [.slice none 0 0, .bool false].toArray = .tuple [.slice a ((suitDec tag bs n).getD []).length c', .bool (suitDec tag bs n).isSome].toArray ∧ (∀ L, suitDec tag bs n = some L -> (L.length : Int) = n ∧ ∀ s ∈ L, s.Wf) ∧ St w0 (OwnS a c' ((suitDec tag bs n).getD []) :: l) w := fun hb h => by
   rw [if_pos hb] at hdef
   rw [hdef]
   exact ⟨none, 0, rfl, (fun _ h => by cases h), St.ownNil _ _ h⟩
  by_cases g1 : k = 0
  ·refine Y0 ?_
   refine r_v (qr (v' := .bool true) (j9 rfl rfl) (by rw [g1]; rfl)) rfl ?_
   refine Y1v ?_; refine Yf ?_; refine Y1v ?_; refine Yf ?_; refine Y37 ?_; refine Y4h ?_
   exact qv (qk (bq2 (bad (.inl g1) h)))
  refine Y0 ?_
  refine r_v (qr (v' := .bool false) (j9 rfl rfl) O5) rfl ?_
  by_cases g2 : n < 0
  ·refine Y23 ?_
   refine r_v (qr (v' := .bool true) (wo rfl rfl) (by congr 1; simpa using g2)) rfl ?_
   refine Y9 ?_; refine Y1v ?_; refine Yf ?_; refine Y37 ?_; refine Y4h ?_
   exact qv (qk (bq2 (bad (.inr (.inl g2)) h)))
  refine Y23 ?_
  refine r_v (qr (v' := .bool false) (wo rfl rfl) (by congr 1; simpa using g2)) rfl ?_
  by_cases g3 : 65535 < n
  ·refine Y9 ?_; refine Y23 ?_
   refine r_v (qr (v' := .bool true) (ki rfl rfl) (by congr 1; simpa using g3)) rfl ?_
   refine Y9 ?_; refine Y37 ?_; refine Y4h ?_
   exact qv (qk (bq2 (bad (.inr (.inr (.inl g3))) h)))
  refine Y9 ?_; refine Y23 ?_
  refine r_v (qr (v' := .bool false) (ki rfl rfl) (by congr 1; simpa using g3)) rfl ?_
  refine Y9 ?_; refine Y23 ?_; refine Y3w ?_; refine Y15 ?_; refine Y33 ?_
  refine r_v (qr (v' := .iz ((bs.length - k : Nat) : Int)) (vi rfl rfl) O9) rfl ?_
  refine Yc ?_
  refine r_v (qr (v' := .int .u64 ((bs.length - k : Nat) : Int)) (xj rfl) (congrArg (Value.int .u64) (cz O0))) rfl ?_
  refine Yc ?_; refine Y2j ?_; refine Y9 ?_
  refine qv (qi (decide ((size : Int) > ((bs.length - k : Nat) : Int))) rfl (fun hc1 => ?_) (fun hc1 => ?_))
  ·
   refine Y3r ?_
   exact qv (qk (bq2 (bad (.inr (.inr (.inr (by simp at hc1; omega)))) h)))
  ·exact qa ⟨(), zz5, by simp at hc1; omega, h⟩
 clear h
 rintro _ w e ⟨hcond, h⟩
 rw [if_neg hcond] at hdef
 obtain ⟨n, rfl⟩ := Int.eq_ofNat_of_zero_le (show 0 <= n by omega)
 have hn16 : n <= 65535 := by omega
 have hsk : k + size <= bs.length := by omega
 rw [show ((n : Nat) : Int).toNat = n from rfl] at hdef
 refine Y35 ?_; refine Yy ?_
 refine qz (.iz (size : Int)) O11 ?_
 refine Y1f ?_
 refine qz (.iz ((k + size : Nat) : Int)) O7 ?_
 refine Y4 ?_; refine Y21 ?_; refine Y0 ?_
 refine r_v (q_cut rfl rfl rfl O0 O0) rfl ?_
 have hrc := Reads.cut hr (i := k) (j := k + size) O0 O0 hc
 have hpl : ((bs.drop k).take size).length = k + size - k := by rw [Us, Uq]; omega
 have hrc' : Reads w0 l 1 (adv sl (k * 1) (Nat.beq c k)) ((bs.drop k).take size).length (bytesV ((bs.drop k).take size)) := by
  rw [hpl]
  have : bytesV ((bs.drop k).take size) = ((bytesV bs).drop (k * 1)).take ((k + size - k) * 1) := by
   unfold bytesV
   rw [List.map_take, List.map_drop]
   congr 1
   ·omega
   ·congr 1; omega
  rw [this]
  exact hrc
 show Rn _ _ _ _ _ (upd _ _ (.slice (adv sl (k * 1) (Nat.beq c k)) (k + size - k) (c - k))) _
 rw [<- hpl]
 refine r_c rfl (qg rfl (k8 h hrc'.rd (by rw [hpl]; omega)) ?_)
 rintro _ w ⟨p, rfl, h⟩
 refine Y0 ?_
 refine r_c rfl (qg rfl (cy n h) ?_)
 rw [askN_nat hn16]
 intro v w hv
 have hv : ∃ a c' ts ok, v = .tuple [.slice a ts.length c', .bool ok].toArray ∧ (ok = true -> ∃ s', timesDec n ⟨bitsB ((bs.drop k).take size), false⟩ = some (ts, s')) ∧ (ok = false -> timesDec n ⟨bitsB ((bs.drop k).take size), false⟩ = none) ∧ ∃ s', St w0 (OwnT64 a c' ts :: IsBR p s' :: l) w := by
  rcases hv with ⟨h1, rfl, s', h⟩ | ⟨x, a, c', h1, rfl, h⟩
  ·exact ⟨none, 0, [], false, rfl, (fun h => by cases h), fun _ => h1, s', St.ownNil _ _ h⟩
  ·exact ⟨a, c', x.1, true, rfl, fun _ => ⟨x.2, h1⟩, (fun h => by cases h), x.2, h⟩
 clear h
 obtain ⟨ta, tc, ts, ok1, rfl, ht1, ht2, s', h⟩ := hv
 refine Y28 ?_; refine Y8 ?_; refine Yj ?_; refine Y0 ?_
 refine r_v (gl (i := k + size) rfl rfl hsk) rfl ?_
 have hrt : Reads w0 l 1 (adv sl ((k + size) * 1) (Nat.beq c (k + size))) (bs.drop (k + size)).length (bytesV (bs.drop (k + size))) := by
  have := Reads.tail hr (i := k + size) hsk hc
  rw [Uq]
  have e1 : bytesV (bs.drop (k + size)) = (bytesV bs).drop ((k + size) * 1) := by
   unfold bytesV
   rw [List.map_drop]
   congr 1; omega
  rw [e1]
  exact this
 show Rn _ _ _ _ _ (upd _ _ (.slice (adv sl ((k + size) * 1) (Nat.beq c (k + size))) (bs.length - (k + size)) (c - (k + size)))) _
 rw [<- Uq]
 refine Y0 ?_
 refine r_c rfl (qg rfl (hread hT (hrt.more [_, _]) O22 O22 hn16 h) ?_)
 rintro _ w ⟨va, vc, vs, ok2, rfl, hv1, hv2, h⟩
 refine Y28 ?_
 refine qt (Γ := Unit) (fun _ => [(0, .iz tag), (1, .slice sl bs.length c), (2, .iz n), (11, .slice ta ts.length tc), (13, .slice va vs.length vc)]) (fun _ w => ok1 = true ∧ ok2 = true ∧ St w0 (OwnU va vc vs :: OwnT64 ta tc ts :: IsBR p s' :: l) w) ?_ ?_
 ·have bad : ∀ {w : World}, (ok1 = false ∨ ok2 = false) -> St w0 (OwnU va vc vs :: OwnT64 ta tc ts :: IsBR p s' :: l) w -> ∃ a c', Value.tuple [.slice none 0 0, .bool false].toArray = .tuple [.slice a ((suitDec tag bs n).getD []).length c', .bool (suitDec tag bs n).isSome].toArray ∧ (∀ L, suitDec tag bs n = some L -> (L.length : Int) = n ∧ ∀ s ∈ L, s.Wf) ∧ St w0 (OwnS a c' ((suitDec tag bs n).getD []) :: l) w := fun hb h => by
   have : suitDec tag bs n = none := by
    rw [hdef]
    rcases hb with hb | hb
    ·rw [ht2 hb]
    ·rw [hb, if_neg O2] at hv1
     rw [hv1]
     cases timesDec n ⟨bitsB ((bs.drop k).take size), false⟩ <;> rfl
   rw [this]
   exact ⟨none, 0, rfl, (fun _ h => by cases h), St.ownNil _ _ h.drop.drop.drop⟩
  refine Y1 ?_
  cases ok1 with
  | false =>
   refine Y1g ?_; refine Y1v ?_; refine Y1s ?_; refine Y3r ?_
   exact qv (qk (bq2 (bad (.inl rfl) h)))
  | true =>
   refine Y1g ?_; refine Y2t ?_; refine Y2t ?_; refine Yx ?_; refine Y9 ?_
   cases ok2 with
   | false =>
    refine Yd ?_; refine Y3r ?_
    exact qv (qk (bq2 (bad (.inr rfl) h)))
   | true =>
    refine Y24 ?_
    exact qa ⟨(), zz5, rfl, rfl, h⟩
 clear h
 rintro _ w e ⟨rfl, rfl, h⟩
 obtain ⟨s2, ht⟩ := ht1 rfl
 obtain ⟨hvl, hvlt⟩ := hv2 rfl
 rw [if_pos rfl] at hv1
 rw [ht, hv1] at hdef
 dsimp only at hdef
 have htl : ts.length = n := timesDec_len ht
 have hti : ∀ t ∈ ts, I64 t := timesDec_i64 ht
 have hzl : (zipS ts vs).length = n := by rw [zipS_len _ _ O0, htl]
 have hzw := zipS_wf ts vs hti hvlt
 refine Y2b ?_; refine Y8 ?_; refine Y20 ?_
 refine jx (Γ := Nat × Option Addr × Nat) (fun k => [(0, .iz tag), (1, .slice sl bs.length c), (11, .slice ta ts.length tc), (13, .slice va vs.length vc), (15, .slice k.2.1 (zipS (ts.take k.1) (vs.take k.1)).length k.2.2), (72, .iz n), (73, .iz k.1)])
  (fun k w => k.1 <= n ∧ St w0 (OwnS k.2.1 k.2.2 (zipS (ts.take k.1) (vs.take k.1)) :: OwnU va vc vs :: OwnT64 ta tc ts :: IsBR p s' :: l) w) (fun k => n - k.1) (0, none, 0) zz7 ⟨Ud _, St.ownNil _ _ h⟩ ?_
 clear h
 rintro ⟨i, a, c1⟩ w e ⟨hi, h⟩
 dsimp only at hi h ⊢
 refine Y14 ?_
 refine qf (qi (decide ((i : Int) < (n : Int))) rfl (fun hc1 => ?_) (fun hc1 => ?_))
 ·
  have hlt : i < n := by simp at hc1; omega
  have hgt := Uc (show i < ts.length by omega)
  generalize ts[i]'O0 = t at hgt
  have hgv := Uc (show i < vs.length by omega)
  generalize vs[i]'O0 = x at hgv
  have hstep := zipS_snoc ts vs i t x hgt hgv
  have hzi : (zipS (ts.take i) (vs.take i)).length = i := by rw [zipS_len _ _ (by rw [xh O0, xh O0]), xh O0]
  obtain ⟨bt, htsl⟩ := (h.f 2).own_some O0
  obtain ⟨bv, hvsl⟩ := (h.f 1).own_some O0
  refine Yl ?_
  refine qt (Γ := Option Addr × Nat) (fun q => [(0, .iz tag), (1, .slice sl bs.length c), (11, .slice ta ts.length tc), (13, .slice va vs.length vc), (15, .slice q.1 (zipS (ts.take (i + 1)) (vs.take (i + 1))).length q.2), (72, .iz n), (73, .iz i)])
   (fun q w => St w0 (OwnS q.1 q.2 (zipS (ts.take (i + 1)) (vs.take (i + 1))) :: OwnU va vc vs :: OwnT64 ta tc ts :: IsBR p s' :: l) w) ?_ ?_
  ·refine Yh ?_; refine Y3i ?_
   have hct : ∀ {w'}, (∃ L, St w0 (L ++ (OwnU va vc vs :: OwnT64 ta tc ts :: IsBR p s' :: l)) w') -> w'.cell? ⟨bt, i, none⟩ = some (.iz t) := fun ⟨L, h'⟩ => by
    have := (htsl ▸ (h'.drops.f 1).own_rd).cell (i64V_get hgt); simpa using this
   have hcv : ∀ {w'}, (∃ L, St w0 (L ++ (OwnU va vc vs :: OwnT64 ta tc ts :: IsBR p s' :: l)) w') -> w'.cell? ⟨bv, i, none⟩ = some (.int .u64 x) := fun ⟨L, h'⟩ => by
    have := (hvsl ▸ (h'.drops.f 0).own_rd).cell (u64V_get hgv); simpa using this
   refine jm [0, 1, 2, 3, 4, 5, 6, 7, 8, 9, 10, 11, 12] none (fun w => ∃ L, St w0 (L ++ (OwnU va vc vs :: OwnT64 ta tc ts :: IsBR p s' :: l)) w) O1 O1 ?_
   replace h := h.drew
   generalize w.drew = w at h
   have hs := h
   replace h : ∃ L, St w0 (L ++ (OwnU va vc vs :: OwnT64 ta tc ts :: IsBR p s' :: l)) w := ⟨[_], hs⟩
   refine Y1x ?_; refine Y2i ?_
   refine cpv rfl rfl rfl rfl h rfl (jb (b := bt) (o := 0) (m := ts.length) (c := tc) (j := i) (o' := i) (by rw [<- htsl]; rfl) rfl rfl O0 O8) ?_
   refine qj rfl rfl rfl rfl h (fun w h => qh rfl (jj (v := .iz t) rfl (hct h))) ?_
   refine Y2i ?_
   refine cpv rfl rfl rfl rfl h rfl (jb (b := bv) (o := 0) (m := vs.length) (c := vc) (j := i) (o' := i) (by rw [<- hvsl]; rfl) rfl rfl O0 O8) ?_
   refine qj rfl rfl rfl rfl h (fun w h => qh rfl (jj (v := .int .u64 x) rfl (hcv h))) ?_
   refine cpv rfl rfl rfl rfl h rfl (qc (r := (Smp.mk t x).cells) rfl) ?_
   refine Y11 ?_
   refine qd 10 rfl rfl rfl rfl ?_
   refine (jg (r := smpsV [Smp.mk t x]) hs rfl rfl rfl fun b2 w hs => ?_)
   replace h : ∃ L, St w0 (L ++ (OwnU va vc vs :: OwnT64 ta tc ts :: IsBR p s' :: l)) w := ⟨[_, _], hs⟩
   refine ⟨fun _ => h, ?_⟩
   refine Yq ?_
   refine qd 11 rfl rfl rfl rfl ?_
   refine (q9 (ys := smpsV [Smp.mk t x]) (zs := smpsV (zipS (ts.take (i + 1)) (vs.take (i + 1)))) (m3 := (zipS (ts.take (i + 1)) (vs.take (i + 1))).length) (hs.f 1) rfl rfl ⟨rfl, .inr ⟨b2, 0, rfl, qw (hs.b 0 rfl) rfl⟩⟩ (jt _) (by rw [hstep]; simp) (by rw [hstep]; simp [smpsV]) (by rw [hstep]; simp; omega) (by rw [hstep]; simp; omega) rfl fun a2 c2 w _ hs => ?_)
   replace h : ∃ L, St w0 (L ++ (OwnU va vc vs :: OwnT64 ta tc ts :: IsBR p s' :: l)) w := ⟨[_, _], hs⟩
   refine ⟨fun _ => h, ?_⟩
   refine Y1y ?_
   exact qn ⟨(a2, c2), zz7, (hs.f 1).drop⟩
  clear h
  rintro ⟨a, c1⟩ w e h
  dsimp only at h ⊢
  refine Yt ?_
  refine qz (.iz ((i + 1 : Nat) : Int)) O7 ?_
  refine Y0 ?_
  exact qv ⟨(i + 1, a, c1), zz7, ⟨hlt, h⟩, O_d⟩
 have hin : i = n := by simp at hc1; omega
 refine ju ?_
 have hz : zipS (ts.take i) (vs.take i) = zipS ts vs := by rw [hin, Uv O0, Uv O0]
 rw [hz] at h ⊢
 refine Y8 ?_; refine Yj ?_
 refine r_c rfl (qg rfl (zt hT hV hzw O0 Reads.own h) ?_)
 rintro _ w ⟨a2, c2, rfl, h⟩
 refine Y28 ?_
 replace h : St w0 (OwnB a2 c2 ((suitEnc tag (zipS ts vs)).getD []) :: OwnS a c1 (zipS ts vs) :: l) w := (((h.f 2).drop.f 2).drop.f 2).drop
 have bad : ∀ {w : World}, suitEnc tag (zipS ts vs) ≠ some bs -> St w0 l w -> ∃ a c', Value.tuple [.slice none 0 0, .bool false].toArray = .tuple [.slice a ((suitDec tag bs n).getD []).length c', .bool (suitDec tag bs n).isSome].toArray ∧ (∀ L, suitDec tag bs n = some L -> (L.length : Int) = n ∧ ∀ s ∈ L, s.Wf) ∧ St w0 (OwnS a c' ((suitDec tag bs n).getD []) :: l) w := fun hb h => by
  rw [if_neg hb] at hdef
  rw [hdef]
  exact ⟨none, 0, rfl, (fun _ h => by cases h), St.ownNil _ _ h⟩
 refine qt (Γ := Unit) (fun _ => [(15, .slice a (zipS ts vs).length c1)]) (fun _ w => suitEnc tag (zipS ts vs) = some bs ∧ St w0 (OwnS a c1 (zipS ts vs) :: l) w) ?_ ?_
 ·refine Y1 ?_
  cases hE : suitEnc tag (zipS ts vs) with
  | none =>
   rw [hE] at h
   refine Y1g ?_; refine Y19 ?_; refine Y1s ?_; refine Y3r ?_
   exact qv (qk (bq2 (bad (by rw [hE]; simp) h.drop.drop)))
  | some d =>
   rw [hE] at h
   refine Y1g ?_; refine Y3a ?_; refine Y3w ?_
   refine r_c rfl (qg rfl (x9 (b1 := d) (b2 := bs) h (fun w' h' => h'.own_rd) ((hr.more [_, _]).rd)) ?_)
   rintro _ w ⟨rfl, h⟩
   refine Y3u ?_
   refine qv (qi (!decide (d = bs)) rfl (fun hc1 => ?_) (fun hc1 => ?_))
   ·refine Y3r ?_
    exact qv (qk (bq2 (bad (by rw [hE]; simpa using hc1) h.drop.drop)))
   ·exact qa ⟨(), ⟨rfl, trivial⟩, by simpa using hc1, h.drop⟩
 clear h
 rintro _ w e ⟨hE, h⟩
 rw [if_pos hE] at hdef
 rw [hdef]
 refine Y4c ?_
 refine qk (bq2 ⟨a, c1, rfl, fun L hL => ?_, h⟩)
 cases hL
 exact ⟨by rw [hzl], hzw⟩
end
end
end Go.Proofs.YtngdfdangkdgcaaGreatDoor
namespace Go.Hw
section
theorem cx (x : Nat) : IntKind.u32.wrap (x : Int) = ((x % 4294967296 : Nat) : Int) := by
 unfold IntKind.wrap
 simp [IntKind.signed, IntKind.bits]
theorem wh {a b : Nat} (ha : a < 4294967296) (hb : b < 4294967296) :
  bitOp .and .u32 (a : Int) (b : Int) = ((a &&& b : Nat) : Int) ∧ bitOp .xor .u32 (a : Int) (b : Int) = ((a ^^^ b : Nat) : Int) := by
 have ha' : a % 2 ^ 32 = a := Ul ha
 have hb' : b % 2 ^ 32 = b := Ul hb
 have e : IntKind.u32.bits = 32 := rfl
 refine ⟨?_, ?_⟩ <;> unfold bitOp <;> simp only [e, BitVec.ofInt_natCast, BitVec.toNat_and, BitVec.toNat_xor, BitVec.toNat_ofNat, ha', hb', cx]
 ·rw [Ul (Ki (n := 32) _ hb)]
 ·rw [Ul (Wr (n := 32) ha hb)]
def u32V (l : List Nat) : List Value := l.map fun (x : Nat) => .int .u32 (x : Int)
theorem u32V_len (l : List Nat) : (u32V l).length = l.length := by simp [u32V]
theorem u32V_get {l : List Nat} {j x : Nat} (h : l[j]? = some x) : (u32V l)[j]? = some (.int .u32 (x : Int)) := by simp [u32V, h]
def tabL (i : Nat) : List Nat := (List.range i).map crcByte ++ List.replicate (256 - i) 0
theorem tabL_len {i : Nat} (h : i <= 256) : (tabL i).length = 256 := by simp [tabL]; omega
theorem tabL_set {i : Nat} (h : i < 256) : (u32V (tabL i)).set i (.int .u32 (crcByte i : Int)) = u32V (tabL (i + 1)) := by
 have e : 256 - i = (256 - (i + 1)) + 1 := by omega
 have hl : (u32V ((List.range i).map crcByte)).length = i := by simp [u32V]
 have e1 : u32V (tabL i) = u32V ((List.range i).map crcByte) ++ (.int .u32 (0 : Nat)) :: u32V (List.replicate (256 - (i + 1)) 0) := by
  unfold tabL u32V
  rw [e, Zf, Wd, Ux]
 have e2 : u32V (tabL (i + 1)) = u32V ((List.range i).map crcByte) ++ (.int .u32 (crcByte i : Int)) :: u32V (List.replicate (256 - (i + 1)) 0) := by
  unfold tabL u32V
  rw [List.range_succ, Wd, Wd, Wd, Um]
  rfl
 rw [e1, e2, List.set_append_right _ _ O0, hl, Zb]
 rfl
def tabV : List Value := u32V (tabL 256)
theorem tabV_len : tabV.length = 256 := by unfold tabV; rw [u32V_len, tabL_len (Ug _)]
theorem tabV_get {i : Nat} (h : i < 256) : tabV[i]? = some (.int .u32 (crcByte i : Int)) := by
 unfold tabV
 refine u32V_get ?_
 unfold tabL
 rw [Wa O15, Wp, Ze h]
 rfl
theorem tabV_one : tabV.all (·.oneCell') = true := by decide +kernel
end
end Go.Hw
namespace Go.Proofs.YtngdfdangkdgcaaGreatDoor
open Go.Hw _root_.Go.Proofs.Tryz
section
instance undTab : Und prog 255 (.array 256 253) := ⟨underlying255⟩
section
variable {w0 w : World} {l : List HProp}
theorem ot (h : St w0 l w) : Ret prog 164 [] w fun v w' => v = .agg tabV.toArray ∧ St w0 l w' := by
 refine en func164 results164 ntmps164 ?_
 refine Y1 ?_
 refine r_c rfl (qp h fun b0 w h => ?_)
 refine Yn ?_
 refine r_c rfl (qp h fun b1 w h => ?_)
 refine Y2e ?_; refine Y8 ?_; refine Y2 ?_
 have hz : (List.replicate 256 (Value.int .u32 0)) = u32V (tabL 0) := by show _ = (List.replicate 256 0).map _; rw [List.map_replicate]; rfl
 refine Yh ?_
 refine jx (Γ := Nat) (fun k => [(0, .pz b0), (1, .pz b1), (5, .iz k)]) (fun k w => k <= 256 ∧ St w0 (pt b1 (.cells (u32V (tabL k)).toArray 255 (0, 0)) :: pt b0 (.cells (List.replicate 256 (Value.int .u32 0)).toArray 255 (0, 0)) :: l) w) (fun k => 256 - k) 0 zz3 ⟨Ud _, by rw [<- hz]; exact h⟩ ?_
 clear h
 rintro i w e ⟨hi, h⟩
 refine Y14 ?_
 refine qf (qi (decide ((i : Int) < 256)) rfl (fun hc => ?_) (fun hc => ?_))
 ·
  have hlt : i < 256 := by simp at hc; omega
  refine Y1z ?_; refine Y3i ?_; refine Y8 ?_; refine Yy ?_
  refine qz (.int .u32 (i : Int)) (by rw [cx, Ul O0]) ?_
  refine Y4 ?_
  refine qt (Γ := Unit) (fun _ => [(0, .pz b0), (1, .pz b1), (2, .iz i), (3, .int .u32 (crcByte i : Int)), (5, .iz i)]) (fun _ w => St w0 (pt b1 (.cells (u32V (tabL i)).toArray 255 (0, 0)) :: pt b0 (.cells (List.replicate 256 (Value.int .u32 0)).toArray 255 (0, 0)) :: l) w) ?_ ?_
  ·refine Y8 ?_; refine Y4p ?_
   refine jx (Γ := Nat) (fun k => [(0, .pz b0), (1, .pz b1), (2, .iz i), (3, .int .u32 (crcN k i : Int)), (5, .iz i), (10, .iz k)]) (fun k w => k <= 8 ∧ St w0 (pt b1 (.cells (u32V (tabL i)).toArray 255 (0, 0)) :: pt b0 (.cells (List.replicate 256 (Value.int .u32 0)).toArray 255 (0, 0)) :: l) w) (fun k => 8 - k) 0 zz6 ⟨Ud _, h⟩ ?_
   clear h
   rintro k w e ⟨hk, h⟩
   refine Y14 ?_
   refine qf (qi (decide ((k : Int) < 8)) rfl (fun hc => ?_) (fun hc => ?_))
   ·
    have hk8 : k < 8 := by simp at hc; omega
    have hcl := crcN_lt (c := i) O0 k
    have hstep : crcN (k + 1) i = crcBit (crcN k i) := rfl
    generalize crcN k i = c at hcl hstep
    refine Yl ?_
    refine qt (Γ := Unit) (fun _ => [(0, .pz b0), (1, .pz b1), (2, .iz i), (3, .int .u32 (crcN (k + 1) i : Int)), (5, .iz i), (10, .iz k)]) (fun _ w => St w0 (pt b1 (.cells (u32V (tabL i)).toArray 255 (0, 0)) :: pt b0 (.cells (List.replicate 256 (Value.int .u32 0)).toArray 255 (0, 0)) :: l) w) ?_ ?_
    ·refine Yh ?_; refine Y8 ?_; refine r_v (zb rfl rfl) rfl ?_
     refine qz (.int .u32 ((c % 2 : Nat) : Int)) (congrArg (Value.int .u32) (((wh hcl (by decide : 1 < _)).1).trans (by rw [Kk]))) ?_
     refine Y3t ?_
     refine r_v (qr (v' := .int .u32 ((c / 2 ^ 1 : Nat) : Int)) (vl rfl rfl O0) (congrArg (Value.int .u32) (j0 c 1 32 O2))) rfl ?_
     refine Y3t ?_; refine Yp ?_
     rw [hstep]
     unfold crcBit
     by_cases h1 : c % 2 = 1
     ·rw [if_pos h1]
      refine qz (.bool true) (by rw [h1]; rfl) ?_
      refine Yd ?_; refine Y2a ?_; refine Y4k ?_
      refine qz (.int .u32 ((c / 2 ^ 1 ^^^ 2197175160 : Nat) : Int)) (congrArg (Value.int .u32) (wh O0 O2).2) ?_
      refine Y6 ?_
      exact qv ⟨(), zz6, h⟩
     ·rw [if_neg h1]
      refine qz (.bool false) O5 ?_
      refine Y24 ?_
      exact qa ⟨(), zz6, h⟩
    clear h
    rintro _ w e h
    refine Yt ?_
    refine qz (.iz ((k + 1 : Nat) : Int)) O7 ?_
    refine Y0 ?_
    exact qv ⟨k + 1, zz6, ⟨hk8, h⟩, O_o⟩
   have hk8 : k = 8 := by simp at hc; omega
   subst hk8
   exact ju ⟨(), zz5, h⟩
  clear h
  rintro _ w e h
  refine Y2a ?_; refine Y0 ?_
  refine r_v (k9 (j := i) (o' := i) rfl rfl rfl hlt O8) rfl ?_
  refine r_c rfl (qb 0 h rfl (show _ = Value.int .u32 (crcByte i : Int) from rfl) rfl (by rw [Xq, u32V_len, tabL_len O0]; omega) rfl rfl fun w h => ?_)
  simp only [Vf] at h
  rw [tabL_set hlt] at h
  refine Y3h ?_
  refine qz (.iz ((i + 1 : Nat) : Int)) O7 ?_
  refine Y0 ?_
  exact qv ⟨i + 1, zz3, ⟨hlt, h⟩, O_o⟩
 have hi256 : i = 256 := by simp at hc; omega
 subst hi256
 refine ju ?_
 refine Y1 ?_
 refine r_v (qx (l := tabV) rfl (by rw [tabV_len]; rfl) (qw (h.b 0 rfl) rfl)) rfl ?_
 refine r_c rfl (qy (vs := tabV) 1 h rfl rfl rfl (by rw [tabV_len]; rfl) (by rw [tabV_len]; rfl) rfl tabV_one fun w h => ?_)
 simp only [Vf, Vm] at h
 rw [show (List.replicate 256 (Value.int .u32 0)).take 0 ++ tabV ++ (List.replicate 256 (Value.int .u32 0)).drop (0 + tabV.length) = tabV by rw [Xk, Up, tabV_len, List.drop_of_length_le (by rw [Xx]; decide), Uw]] at h
 refine Y2 ?_
 exact qk (bqS1 (l := tabV) rfl (by rw [tabV_len]; rfl) (qw (h.b 1 rfl) rfl) ⟨rfl, h.drop.drop⟩)
theorem qqi {sl : Option Addr} {c : Nat} {bs : List UInt8} (hn : bs.length <= 140737488355328) (hr : Reads w0 l 1 sl bs.length (bytesV bs)) (h : St w0 l w) :
  Ret prog 163 [.agg tabV.toArray, .slice sl bs.length c] w fun v w' => v = .int .u32 (crc bs : Int) ∧ St w0 l w' := by
 refine en func163 results163 ntmps163 ?_
 refine Y1 ?_
 refine r_c rfl (jv h (show _ = Value.agg tabV.toArray from rfl) fun b2 w h => ?_)
 refine Y4 ?_; refine Yr ?_; refine Y25 ?_; refine Y20 ?_
 refine jx (Γ := Nat × Nat) (fun k => [(2, .pz b2), (5, .int .u32 (k.2 : Int)), (8, .slice sl bs.length c), (9, .iz bs.length), (10, .iz k.1)])
  (fun k w => k.1 <= bs.length ∧ k.2 < 4294967296 ∧ crcA k.2 (bs.drop k.1) = crcA 4294967295 bs ∧ St w0 (pt b2 (.cells tabV.toArray 255 (0, 0)) :: l) w) (fun k => bs.length - k.1) (0, 4294967295) zz5 ⟨Ud _, (by decide : (4294967295 : Nat) < 4294967296), rfl, h⟩ ?_
 clear h
 rintro ⟨i, s⟩ w e ⟨hi, hs, he, h⟩
 dsimp only at hi hs he h ⊢
 refine Y14 ?_
 refine qf (qi (decide ((i : Int) < (bs.length : Int))) rfl (fun hc => ?_) (fun hc => ?_))
 ·
  have hlt : i < bs.length := by simp at hc; omega
  have hg := Uc hlt
  have hdr := Vz hlt
  generalize bs[i] = x at hg hdr
  have hx := x.toNat_lt
  rw [hdr, crcA] at he
  have hst := crcStep_lt (x := x.toNat) hs hx
  unfold crcStep at he hst
  have hj : (s % 256) ^^^ x.toNat < 256 := xor8 (Vr _ O2) hx
  have hbl := crcByte_lt hj
  obtain ⟨b, o, hsl⟩ := (hr.cons.at_ h).some O0
  refine Y36 ?_
  refine r_v (jb (b := b) (o := o) (m := bs.length) (c := c) (o' := o + i) O16 rfl rfl hlt O8) rfl ?_
  refine r_v (jj (v := .int .u8 x.toNat) rfl ((hsl ▸ hr.cons.at_ h).cell (bytesV_get hg))) rfl ?_
  refine Y4 ?_; refine Y2a ?_; refine Yy ?_
  refine qz (.int .u8 ((s % 256 : Nat) : Int)) (by rw [uw]) ?_
  refine Y0 ?_; refine Y4k ?_
  refine qz (.int .u8 (((s % 256) ^^^ x.toNat : Nat) : Int)) (congrArg (Value.int .u8) (w8 O0 hx).2.2) ?_
  refine r_v (k9 (j := (s % 256) ^^^ x.toNat) (o' := (s % 256) ^^^ x.toNat) rfl rfl rfl hj O8) rfl ?_
  refine r_v (jj (v := .int .u32 (crcByte ((s % 256) ^^^ x.toNat) : Int)) rfl (by have := yz (h.b 0 rfl) (tabV_get hj); simpa using this)) rfl ?_
  generalize crcByte ((s % 256) ^^^ x.toNat) = tb at he hst hbl ⊢
  refine Y0 ?_
  refine r_v (qr (v' := .int .u32 ((s / 2 ^ 8 : Nat) : Int)) (vl rfl rfl O0) (congrArg (Value.int .u32) (j0 s 8 32 O2))) rfl ?_
  refine Y4k ?_
  refine qz (.int .u32 ((tb ^^^ (s / 256) : Nat) : Int)) (congrArg (Value.int .u32) (wh hbl O0).2) ?_
  refine Y4 ?_; refine Yt ?_
  refine qz (.iz ((i + 1 : Nat) : Int)) O7 ?_
  refine Y0 ?_
  exact qv ⟨(i + 1, tb ^^^ (s / 256)), zz5, ⟨hlt, hst, he, h⟩, O_d⟩
 have hin : i = bs.length := by simp at hc; omega
 rw [hin, Kb, crcA] at he
 refine ju ?_
 refine Y8 ?_; refine Y4k ?_
 refine qz (.int .u32 ((s ^^^ 4294967295 : Nat) : Int)) (congrArg (Value.int .u32) (wh hs O2).2) ?_
 refine Y4 ?_
 exact qk (bq1 ⟨by unfold crc; rw [<- he]; rfl, h.drop⟩)
end
end
end Go.Proofs.YtngdfdangkdgcaaGreatDoor
/- xorv: values by what turns: reading them. -/
namespace Go.Hw
section
theorem run_part_bool {P : Program} {w : World} {t : TypeId} (ht : P.underlying t = some .bool) {cs : List Value} {off : Nat} {v : Value} (hv : cs[off]? = some v) : (part t cs.toArray off).run P w = .ok v w := by
 have : (isAgg t).run P w = .ok false w := by
  unfold Go.isAgg
  rw [Sem.run_bind, run_underlying ht w]
  rfl
 simp [part, this, hv]
class EqB2 (P : Program) (t : TypeId) : Prop where
 u : ∃ fl : List Field, P.underlying t = some (.struct fl.toArray) ∧ fl.map (fun f => (f.name == "_", f.offset, P.underlying f.type)) = [(false, 0, some .bool), (false, 1, some (.int .i64)), (false, 2, some (.int .i64))]
 s : P.stoodInHeld t = false
 g : P.eqGuardType P.depth t = false
theorem qql {P : Program} {w : World} {t : TypeId} (h : EqB2 P t) (a a' : Bool) (b b' c c' : Int) (d : Nat) :
  (Op.equalIn (d + 2) t (.agg [.bool a, .iz b, .iz c].toArray) (.agg [.bool a', .iz b', .iz c'].toArray)).run P w = .ok (a == a' && ([b, c] : List Int) == [b', c']) w := by
 obtain ⟨fl, hu, hf⟩ := h.u
 have hfo : P.fieldsOf t = fl.toArray := by unfold Program.fieldsOf; rw [hu]
 rw [run_equalIn_struct w (d + 1) t _ _ (by rw [hfo]; exact hu) h.s, hfo]
 have hl3 : fl.length = 3 := by have := congrArg List.length hf; simpa using this
 obtain ⟨f, f2, f3, rfl⟩ : ∃ f f2 f3, fl = [f, f2, f3] := by
  match fl, hl3 with
  | [x, y, z], _ => exact ⟨x, y, z, rfl⟩
 simp only [Ux, List.map_nil, List.cons.injEq, Prod.mk.injEq, and_true] at hf
 obtain ⟨⟨h1, h2, h3⟩, h4⟩ := hf
 have hn : f.name ≠ "_" := by simpa using h1
 have e1 : ([.bool a, .iz b, .iz c] : List Value)[f.offset]? = some (.bool a) := by rw [h2]; rfl
 have e2 : ([.bool a', .iz b', .iz c'] : List Value)[f.offset]? = some (.bool a') := by rw [h2]; rfl
 show (Op.eqFields (d + 1) _ _ [f, f2, f3]).run P w = _
 unfold Op.eqFields
 rw [if_pos hn]
 simp only [Sem.run_bind, run_part_bool h3 e1, run_part_bool h3 e2, Result.andThen_ok, run_equalIn_bool w d f.type a a' h3]
 by_cases haa : a = a'
 ·subst haa
  have ih := km (P := P) (w := w) d [f2, f3] [.i64, .i64] [b, c] [b', c'] [.bool a] [.bool a] rfl rfl rfl (by
   obtain ⟨⟨g1, g2, g3⟩, g4, g5, g6⟩ := h4
   simp [g1, g2, g3, g4, g5, g6, List.zipIdx])
  have ih' : (Op.eqFields (d + 1) #[Value.bool a, .iz b, .iz c] #[Value.bool a, .iz b', .iz c'] [f2, f3]).run P w = .ok (b == b' && c == c') w := by
   have := ih
   simpa [ints] using this
  simp
  exact ih'
 ·simp [haa]
section
variable {P : Program} {e : Env} {w : World} {d : Option Nat} {ty : TypeId} {pos : String} {af : Array Edge} {g : Option (Nat × Bool)}
theorem qqe {t t2 : TypeId} [h : EqB2 P t] {x y : Operand} (a a' : Bool) (b b' c c' : Int) (hx : ev e x = .agg [.bool a, .iz b, .iz c].toArray) (hy : ev e y = .agg [.bool a', .iz b', .iz c'].toArray) :
  Qv P e ⟨d, .binOp .neq t x y t2, ty, pos, af, g⟩ w (.bool (!(a == a' && ([b, c] : List Int) == [b', c']))) := by
 unfold Qv
 have h1 := run_eqGuard_agg (P := P) w .neq t x y [.bool a, .iz b, .iz c].toArray [.bool a', .iz b', .iz c'].toArray h.g
 have h2 := run_neq_struct (P := P) w t [.bool a, .iz b, .iz c].toArray [.bool a', .iz b', .iz c'].toArray
 rw [qql h a a' b b' c c' 9998] at h2
 simp only [execOp, hx, hy, Sem.run_bind, h1, Result.andThen_ok, h2, Result.andThen]
 rfl
end
theorem qqa (x y : Win) : (!(x.is == y.is && ([(x.lead : Int), (x.trail : Int)] : List Int) == [(y.lead : Int), (y.trail : Int)])) = decide (x ≠ y) := by
 obtain ⟨a, b, c⟩ := x
 obtain ⟨a', b', c'⟩ := y
 by_cases h : (⟨a, b, c⟩ : Win) = ⟨a', b', c'⟩
 ·cases h; simp
 ·rw [decide_eq_true h, Wo, Bool.eq_false_iff]
  intro hh
  have hh : a = a' ∧ (b : Int) = b' ∧ (c : Int) = c' := by simpa using hh
  obtain ⟨rfl, h2, h3⟩ := hh
  obtain rfl : b = b' := by omega
  obtain rfl : c = c' := by omega
  exact h rfl
end
end Go.Hw
namespace Go.Proofs.YtngdfdangkdgcaaGreatDoor
open Go.Hw _root_.Go.Proofs.Tryz
section
instance eqbWin : EqB2 prog 279 := ⟨⟨_, underlying279, by kernel_rfl⟩, by kernel_rfl, by kernel_rfl⟩
section
variable {w0 w : World} {l : List HProp}
theorem li (hT : Tz w0) {p q : Nat} {s : RS} {win : Win} (ho : WinOk win ∨ win = ⟨false, 0, 0⟩) (h : St w0 (IsBR p s :: WinPt q win :: l) w) :
  Ret prog 185 [.pz p, .pz q] w fun v w' => ∃ (x : Nat) (ok : Bool) (win' : Win), v = .tuple [.int .u64 (x : Int), .bool ok].toArray ∧ x < 18446744073709551616 ∧ WinOk win' ∧ (turnR s win).1 = (if ok = true then some (x, win') else none) ∧ St w0 (IsBR p (turnR s win).2 :: WinPt q win' :: l) w' := by
 have ho : WinOk win := by
  rcases ho with h | h
  ·exact h
  ·subst h; unfold WinOk; decide
 have hwl := win_long_le win
 refine en func185 results185 ntmps185 ?_
 refine Y3z ?_; refine Y4g ?_
 refine r_c rfl (qg rfl (gb 1 h) ?_)
 rw [show heldN 1 = 1 from rfl]
 cases hg1 : s.get 1 with | mk a s1 =>
 rintro _ w ⟨rfl, h⟩
 dsimp only at h ⊢
 refine Yp ?_
 by_cases ha : a = 0
 ·subst ha
  refine qz (.bool true) rfl ?_
  refine Yd ?_; refine Y3z ?_
  rw [turnR_0 hg1]
  exact qk (bq2 ⟨0, true, win, rfl, O_c, ho, rfl, h⟩)
 refine qz (.bool false) O5 ?_
 refine Yb ?_; refine Y4g ?_
 refine r_c rfl (qg rfl (gb 1 h) ?_)
 rw [show heldN 1 = 1 from rfl]
 cases hg2 : s1.get 1 with | mk b s2 =>
 rintro _ w ⟨rfl, h⟩
 dsimp only at h ⊢
 refine Yp ?_
 by_cases hb : b = 0
 ·subst hb
  refine qz (.bool true) rfl ?_
  refine Yd ?_
  cases hg3 : s2.get win.long with | mk g s3 =>
  have hT2 := turnR_2 hg1 ha hg2 hg3
  have hglt : g * 2 ^ win.trail % 18446744073709551616 < 18446744073709551616 := Vr _ O2
  have htr : win.trail <= 64 := by unfold WinOk at ho; omega
  refine qt (Γ := Unit) (fun _ => [(1, .pz q), (6, .int .u64 ((g * 2 ^ win.trail % 18446744073709551616 : Nat) : Int))]) (fun _ w => St w0 (IsBR p s3 :: WinPt q win :: l) w) ?_ ?_
  ·refine jm [0, 1, 2, 3, 4, 5, 6, 7, 8, 9, 10, 11] none (fun w => w.heap[q]? = some (.cells (winC win).toArray 279 (0, 0))) O1 O1 ?_
   replace h := h.drew
   generalize w.drew = w at h
   have hs := h
   replace h := hs.b 1 rfl
   refine Y1j ?_; refine Y1j ?_; refine Y44 ?_
   refine qj rfl rfl rfl rfl h (fun w h => qh rfl (qx (l := winC win) rfl rfl (qw h rfl))) ?_
   refine Yq ?_; refine Y3 ?_
   refine qj rfl rfl rfl rfl h (fun w h => qh rfl (qq (v := .iz win.trail) rfl h rfl)) ?_
   refine Yq ?_
   refine qd 4 rfl rfl rfl rfl ?_
   refine (qg rfl (xk ho hs) ?_)
   rintro _ w ⟨rfl, hs⟩
   replace h := hs.b 1 rfl
   refine ⟨fun _ => h, ?_⟩
   refine Y11 ?_
   refine qd 5 rfl rfl rfl rfl ?_
   refine (qg rfl (gb win.long hs) ?_)
   rw [heldN_nat hwl, hg3]
   rintro _ w ⟨rfl, hs⟩
   dsimp only at hs
   replace h := hs.b 1 rfl
   refine ⟨fun _ => h, ?_⟩
   refine cpv rfl rfl rfl rfl h rfl (qr (v' := .int .u64 ((g * 2 ^ win.trail % 18446744073709551616 : Nat) : Int)) (xl rfl rfl O0) (congrArg (Value.int .u64) (kh g win.trail htr))) ?_
   refine Y2s ?_
   exact qn ⟨(), zz2, hs⟩
  clear h
  rintro _ w e h
  rw [hT2]
  dsimp only
  generalize hX : g * 2 ^ win.trail % 18446744073709551616 = x at hglt ⊢
  refine Y8 ?_; refine Y1t ?_
  refine r_v (qq (v := .bool win.is) rfl (h.b 1 rfl) rfl) rfl ?_
  cases hwi : win.is with
  | false =>
   refine Y1v ?_; refine Y9 ?_; refine Y1n ?_
   exact qk (bq2 ⟨x, false, win, rfl, hglt, ho, by simp, h⟩)
  | true =>
   refine Y23 ?_; refine Y1q ?_; refine Yf ?_; refine Y1n ?_
   refine qk (bq2 ⟨x, (x : Int) != 0, win, rfl, hglt, ho, ?_, h⟩)
   by_cases hx0 : x = 0
   ·subst hx0; simp
   ·rw [if_pos ⟨rfl, hx0⟩, if_pos (by rw [bne_iff_ne]; omega)]
 refine qz (.bool false) O5 ?_
 refine Yb ?_; refine Ym ?_
 refine r_c rfl (qg rfl (gb 5 h) ?_)
 rw [show heldN 5 = 5 from rfl]
 have hlead := RS.get_lt s2 5
 cases hg3 : s2.get 5 with | mk lead s3 =>
 rw [hg3] at hlead
 rintro _ w ⟨rfl, h⟩
 dsimp only at h hlead ⊢
 refine Yy ?_
 refine qz (.iz (lead : Int)) O11 ?_
 refine Y22 ?_
 refine r_c rfl (qg rfl (gb 6 h) ?_)
 rw [show heldN 6 = 6 from rfl]
 have hlong := RS.get_lt s3 6
 cases hg4 : s3.get 6 with | mk long s4 =>
 rw [hg4] at hlong
 rintro _ w ⟨rfl, h⟩
 dsimp only at h hlong ⊢
 refine Yy ?_
 refine qz (.iz (long : Int)) O11 ?_
 refine Y1f ?_
 refine qz (.iz ((long + 1 : Nat) : Int)) O7 ?_
 refine Y3q ?_; refine Y35 ?_; refine Y1l ?_
 refine qz (.iz (64 - (lead : Int))) O11 ?_
 refine Y0 ?_; refine Y1l ?_
 refine qz (.iz (64 - (lead : Int) - ((long + 1 : Nat) : Int))) O11 ?_
 generalize htr : 64 - (lead : Int) - ((long + 1 : Nat) : Int) = tr
 refine r_v (qc (r := [.bool true, .iz lead, .iz tr]) rfl) rfl ?_
 refine r_c rfl (qp h fun b9 w h => ?_)
 refine r_c rfl (qy (vs := [.bool true, .iz lead, .iz tr]) 0 h rfl rfl rfl rfl rfl rfl rfl fun w h => ?_)
 replace h : St w0 (pt b9 (.cells [.bool true, .iz lead, .iz tr].toArray 279 (0, 0)) :: IsBR p s4 :: WinPt q win :: l) w := h
 refine Y2e ?_; refine Y26 ?_
 refine r_v (qq (v := .iz tr) rfl (h.b 0 rfl) rfl) rfl ?_
 refine Y1u ?_
 refine qv (qi (decide (tr < 0)) rfl (fun hc => ?_) (fun hc => ?_))
 ·
  refine Y3z ?_
  rw [turnR_3x hg1 ha hg2 hb hg3 hg4 (by rw [decide_eq_true_eq] at hc; omega)]
  exact qk (bq2 ⟨0, false, win, rfl, O_c, ho, rfl, h.drop⟩)
 refine Yl ?_
 have hle : ¬ 64 < lead + (long + 1) := by rw [decide_eq_false_iff_not] at hc; omega
 have htr2 : tr = ((64 - lead - (long + 1) : Nat) : Int) := by omega
 subst htr2
 clear hc htr
 cases hg5 : s4.get (long + 1) with | mk g s5 =>
 have hT3 := turnR_3 (win := win) hg1 ha hg2 hb hg3 hg4 hle hg5
 have hglt : g * 2 ^ (64 - lead - (long + 1)) % 18446744073709551616 < 18446744073709551616 := Vr _ O2
 generalize htd : 64 - lead - (long + 1) = tr at hT3 hglt h ⊢
 replace h : St w0 (WinPt b9 ⟨true, lead, tr⟩ :: IsBR p s4 :: WinPt q win :: l) w := h
 refine qt (Γ := Unit) (fun _ => [(1, .pz q), (9, .pz b9), (10, .int .u64 ((g * 2 ^ tr % 18446744073709551616 : Nat) : Int))]) (fun _ w => St w0 (WinPt b9 ⟨true, lead, tr⟩ :: IsBR p s5 :: WinPt q win :: l) w) ?_ ?_
 ·refine jm [0, 1, 2, 3, 4, 5, 6] none (fun w => w.heap[b9]? = some (.cells (winC ⟨true, lead, tr⟩).toArray 279 (0, 0))) O1 O1 ?_
  replace h := h.drew
  generalize w.drew = w at h
  have hs := h
  replace h := hs.b 0 rfl
  refine Y1j ?_; refine Y18 ?_; refine Yg ?_; refine Yv ?_
  refine qj rfl rfl rfl rfl h (fun w h => qh rfl (qq (v := .iz tr) rfl h rfl)) ?_
  refine Yq ?_
  refine qd 2 rfl rfl rfl rfl ?_
  refine (qg rfl (gb ((long + 1 : Nat) : Int) (hs.f 1)) ?_)
  rw [heldN_nat O0, hg5]
  rintro _ w ⟨rfl, hs⟩
  dsimp only at hs
  replace hs := hs.f 1
  replace h := hs.b 0 rfl
  refine ⟨fun _ => h, ?_⟩
  refine cpv rfl rfl rfl rfl h rfl (qr (v' := .int .u64 ((g * 2 ^ tr % 18446744073709551616 : Nat) : Int)) (xl rfl rfl O0) (congrArg (Value.int .u64) (kh g tr O0))) ?_
  refine Y2s ?_
  exact qn ⟨(), zz3, hs⟩
 clear h
 rintro _ w e h
 rw [hT3]
 dsimp only
 generalize hX : g * 2 ^ tr % 18446744073709551616 = x at hglt ⊢
 refine qt (Γ := Unit) (fun _ => [(1, .pz q), (9, .pz b9), (10, .int .u64 (x : Int))]) (fun _ w => ¬ (x = 0 ∨ winOf x ≠ ⟨true, lead, tr⟩ ∨ win.fits x = true) ∧ St w0 (WinPt b9 ⟨true, lead, tr⟩ :: IsBR p s5 :: WinPt q win :: l) w) ?_ ?_
 ·have bad : ∀ {w : World}, (x = 0 ∨ winOf x ≠ ⟨true, lead, tr⟩ ∨ win.fits x = true) -> St w0 (WinPt b9 ⟨true, lead, tr⟩ :: IsBR p s5 :: WinPt q win :: l) w -> ∃ (x' : Nat) (ok : Bool) (win' : Win), Value.tuple [.int .u64 0, .bool false].toArray = .tuple [.int .u64 (x' : Int), .bool ok].toArray ∧ x' < 18446744073709551616 ∧ WinOk win' ∧ (if x = 0 ∨ winOf x ≠ ⟨true, lead, tr⟩ ∨ win.fits x = true then none else some (x, (⟨true, lead, tr⟩ : Win))) = (if ok = true then some (x', win') else none) ∧ St w0 (IsBR p s5 :: WinPt q win' :: l) w := fun hb h => ⟨0, false, win, rfl, O_c, ho, by rw [if_pos hb]; rfl, h.drop⟩
  have hwc : ∀ {w : World}, St w0 (WinPt b9 ⟨true, lead, tr⟩ :: IsBR p s5 :: WinPt q win :: l) w -> At w b9 0 (winC ⟨true, lead, tr⟩) := fun h => qw (h.b 0 rfl) rfl
  by_cases hx0 : x = 0
  ·refine qf (jh none (fun w => St w0 _ w) O1 O1 h.drew fun w h => ?_)
   refine Y18 ?_
   refine cpv rfl rfl rfl rfl h rfl (qr (v' := .bool true) (j9 rfl rfl) (by rw [hx0]; rfl)) ?_
   refine Yz ?_; refine qu rfl rfl rfl rfl (fun _ => h) (fun _ => qo rfl rfl) (qu rfl rfl rfl rfl (fun _ => h) (fun _ => qo rfl rfl) (qu rfl rfl rfl rfl (fun _ => h) (fun _ => qo rfl rfl) (qu rfl rfl rfl rfl (fun _ => h) (fun _ => qo rfl rfl) (cpv rfl rfl rfl rfl h rfl (ji rfl rfl rfl) ?_)))); refine Yz ?_; refine qu rfl rfl rfl rfl (fun _ => h) (fun _ => qo rfl rfl) (qu rfl rfl rfl rfl (fun _ => h) (fun _ => qo rfl rfl) (qu rfl rfl rfl rfl (fun _ => h) (fun _ => qo rfl rfl) (qu rfl rfl rfl rfl (fun _ => h) (fun _ => qo rfl rfl) (qu rfl rfl rfl rfl (fun _ => h) (fun _ => qo rfl rfl) (cpv rfl rfl rfl rfl h rfl (ji rfl rfl rfl) ?_)))))
   refine qn (vq rfl ?_)
   refine Y13 ?_; refine Y7 ?_
   exact qv (qk (bq2 (bad (.inl hx0) h)))
  by_cases hne : winOf x ≠ ⟨true, lead, tr⟩
  ·refine qf (jh none (fun w => St w0 _ w) O1 O1 h.drew fun w h => ?_)
   refine Y18 ?_
   refine cpv rfl rfl rfl rfl h rfl (qr (v' := .bool false) (j9 rfl rfl) O5) ?_
   refine Yz ?_; refine qu rfl rfl rfl rfl (fun _ => h) (fun _ => ql rfl rfl (ku rfl)) ?_; refine Yg ?_
   refine qj rfl rfl rfl rfl h (fun w h => ql rfl rfl (qx (l := winC ⟨true, lead, tr⟩) rfl rfl (hwc h))) ?_
   refine Y16 ?_; refine Y3m ?_
   refine qd 4 rfl rfl rfl (vd rfl rfl rfl) ?_
   refine (qg rfl (wx hT hglt h) ?_)
   rintro _ w ⟨rfl, h⟩
   refine ⟨fun _ => h, ?_⟩
   refine qu rfl rfl rfl rfl (fun _ => h) (fun _ => ql rfl rfl (qr (v' := .bool true) (qqe (winOf x).is true (winOf x).lead lead (winOf x).trail tr rfl rfl) (by rw [qqa (winOf x) ⟨true, lead, tr⟩, decide_eq_true hne]))) ?_
   refine cpv rfl rfl rfl rfl h rfl (jl rfl rfl rfl) ?_; refine Yz ?_; refine qu rfl rfl rfl rfl (fun _ => h) (fun _ => qo rfl rfl) (qu rfl rfl rfl rfl (fun _ => h) (fun _ => qo rfl rfl) (qu rfl rfl rfl rfl (fun _ => h) (fun _ => qo rfl rfl) (qu rfl rfl rfl rfl (fun _ => h) (fun _ => qo rfl rfl) (qu rfl rfl rfl rfl (fun _ => h) (fun _ => qo rfl rfl) (cpv rfl rfl rfl rfl h rfl (ji rfl rfl rfl) ?_)))))
   refine qn (vq rfl ?_)
   refine Y13 ?_; refine Y7 ?_
   exact qv (qk (bq2 (bad (.inr (.inl hne)) h)))
  ·refine qf (jh none (fun w => St w0 _ w) O1 O1 h.drew fun w h => ?_)
   refine Y18 ?_
   refine cpv rfl rfl rfl rfl h rfl (qr (v' := .bool false) (j9 rfl rfl) O5) ?_
   refine Yz ?_; refine qu rfl rfl rfl rfl (fun _ => h) (fun _ => ql rfl rfl (ku rfl)) ?_; refine Yg ?_
   refine qj rfl rfl rfl rfl h (fun w h => ql rfl rfl (qx (l := winC ⟨true, lead, tr⟩) rfl rfl (hwc h))) ?_
   refine Y16 ?_; refine Y3m ?_
   refine qd 4 rfl rfl rfl (vd rfl rfl rfl) ?_
   refine (qg rfl (wx hT hglt h) ?_)
   rintro _ w ⟨rfl, h⟩
   refine ⟨fun _ => h, ?_⟩
   refine qu rfl rfl rfl rfl (fun _ => h) (fun _ => ql rfl rfl (qr (v' := .bool false) (qqe (winOf x).is true (winOf x).lead lead (winOf x).trail tr rfl rfl) (by rw [qqa (winOf x) ⟨true, lead, tr⟩, decide_eq_false hne]))) ?_
   refine cpv rfl rfl rfl rfl h rfl (jl rfl rfl rfl) ?_; refine Yz ?_; refine qu rfl rfl rfl rfl (fun _ => h) (fun _ => ql rfl rfl (jr rfl)) (qu rfl rfl rfl rfl (fun _ => h) (fun _ => ql rfl rfl (v7 rfl)) ?_)
   refine qj rfl rfl rfl rfl h (fun w h => ql rfl rfl (qx (l := winC win) rfl rfl (qw (h.b 2 rfl) rfl))) ?_
   refine qu rfl rfl rfl rfl (fun _ => h) (fun _ => ql rfl rfl (ku rfl)) ?_; refine Yq ?_
   refine qd 13 rfl rfl rfl (vd rfl rfl rfl) ?_
   refine (qg rfl (sf hT hglt h) ?_)
   rintro _ w ⟨rfl, h⟩
   refine ⟨fun _ => h, ?_⟩
   refine cpv rfl rfl rfl rfl h rfl (jl rfl rfl rfl) ?_
   refine qn (qi (win.fits x) rfl (fun hc => ?_) (fun hc => ?_))
   ·refine Y13 ?_; refine Y7 ?_
    exact qv (qk (bq2 (bad (.inr (.inr hc)) h)))
   ·refine qa ⟨(), zz3, ?_, h⟩
    rintro (h | h | h)
    ·exact hx0 h
    ·exact hne h
    ·rw [hc] at h; cases h
 clear h
 rintro _ w e ⟨hcond, h⟩
 refine Ym ?_
 refine r_v (qx (l := winC ⟨true, lead, tr⟩) rfl rfl (qw (h.b 0 rfl) rfl)) rfl ?_
 refine Y1c ?_
 refine r_c rfl (qy (vs := winC ⟨true, lead, tr⟩) 2 h rfl rfl rfl rfl rfl rfl rfl fun w h => ?_)
 replace h : St w0 (WinPt b9 ⟨true, lead, tr⟩ :: IsBR p s5 :: WinPt q ⟨true, lead, tr⟩ :: l) w := h
 refine Y2 ?_; refine Y8 ?_; refine Y1n ?_
 exact qk (bq2 ⟨x, true, ⟨true, lead, tr⟩, rfl, hglt, by unfold WinOk; dsimp only; omega, by rw [if_neg hcond, if_pos rfl], h.drop⟩)
theorem cw (hT : Tz w0) {p : Nat} {s : RS} {n : Nat} (hn : n <= 65535) (h : St w0 (IsBR p s :: l) w) :
  Ret prog 168 [.pz p, .iz (n : Int)] w fun v w' => ∃ a c xs b, v = .tuple [.slice a xs.length c, .bool b].toArray ∧ xorDec n s = (if b = true then some xs else none) ∧ (b = true -> xs.length = n ∧ ∀ x ∈ xs, x < 18446744073709551616) ∧ ∃ s', St w0 (OwnU a c xs :: IsBR p s' :: l) w' := by
 refine en func168 results168 ntmps168 ?_
 refine Yu ?_; refine Y45 ?_
 refine qz (.iz (n : Int)) (by congr 1; omega) ?_
 refine Y4 ?_; refine Y1b ?_; refine Yn ?_
 refine r_c rfl (qp h fun q w h => ?_)
 replace h : St w0 (WinPt q ⟨false, 0, 0⟩ :: IsBR p s :: l) w := h
 refine Yn ?_; refine Y4 ?_; refine Y1w ?_; refine Y20 ?_
 refine jx (Γ := Nat × List Nat × Nat × Win × RS × Option Addr × Nat) (fun k => [(0, .pz p), (6, .slice k.2.2.2.2.2.1 k.2.1.length k.2.2.2.2.2.2), (7, .pz q), (8, .int .u64 k.2.2.1), (15, .iz n), (16, .iz k.1)])
  (fun k w => k.1 <= n ∧ k.2.1.length = k.1 ∧ k.2.2.1 < 18446744073709551616 ∧ (∀ x ∈ k.2.1, x < 18446744073709551616) ∧ WinOk k.2.2.2.1 ∧ ((k.1 = 0 ∧ k.2.2.2.2.1 = s ∧ k.2.2.2.1 = ⟨false, 0, 0⟩) ∨ (0 < k.1 ∧ k.2.2.2.2.1.bad = false ∧ xorDec n s = (xorDecA (n - k.1) k.2.2.1 k.2.2.2.1 k.2.2.2.2.1).map fun r => k.2.1 ++ r))
   ∧ St w0 (OwnU k.2.2.2.2.2.1 k.2.2.2.2.2.2 k.2.1 :: WinPt q k.2.2.2.1 :: IsBR p k.2.2.2.2.1 :: l) w)
  (fun k => n - k.1) (0, [], 0, ⟨false, 0, 0⟩, s, none, 0) zz6 ⟨Ud _, rfl, (by decide : (0 : Nat) < 18446744073709551616), (fun _ h => by cases h), (show WinOk ⟨false, 0, 0⟩ by unfold WinOk; decide), .inl ⟨rfl, rfl, rfl⟩, St.ownNil _ _ h⟩ ?_
 clear h
 rintro ⟨i, out, was, win, s1, a, c⟩ w e ⟨hi, hol, hwas, hout, ho, inv, h⟩
 dsimp only at hi hol hwas hout ho inv h ⊢
 have bad : ∀ {w : World} {s' : RS}, xorDec n s = none -> St w0 (IsBR p s' :: l) w -> ∃ a c xs b, Value.tuple [.slice none 0 0, .bool false].toArray = .tuple [.slice a xs.length c, .bool b].toArray ∧ xorDec n s = (if b = true then some xs else none) ∧ (b = true -> xs.length = n ∧ ∀ x ∈ xs, x < 18446744073709551616) ∧ ∃ s', St w0 (OwnU a c xs :: IsBR p s' :: l) w := fun hb h => ⟨none, 0, [], false, rfl, hb, (fun h => by cases h), _, St.ownNil _ _ h⟩
 refine Y14 ?_
 refine qf (qi (decide ((i : Int) < (n : Int))) rfl (fun hc => ?_) (fun hc => ?_))
 ·
  have hlt : i < n := by simp at hc; omega
  refine Y1z ?_; refine Y3i ?_
  refine qt (Γ := Nat × Win × RS) (fun k => [(0, .pz p), (6, .slice a out.length c), (7, .pz q), (8, .int .u64 k.1), (15, .iz n), (16, .iz i)])
   (fun k w => k.1 < 18446744073709551616 ∧ WinOk k.2.1 ∧ (xorDec n s = if k.2.2.bad = true then none else (xorDecA (n - (i + 1)) k.1 k.2.1 k.2.2).map fun r => out ++ k.1 :: r) ∧ St w0 (IsBR p k.2.2 :: WinPt q k.2.1 :: OwnU a c out :: l) w) ?_ ?_
  ·refine Y8 ?_; refine Yp ?_
   rcases inv with ⟨hi0, hs1, hw0⟩ | ⟨hi0, hbad, inv⟩
   ·refine qz (.bool true) (by subst hi0; rfl) ?_
    refine Y3s ?_
    refine r_c rfl (qg rfl (gb 64 (h.f 2)) ?_)
    rintro _ w ⟨rfl, h⟩
    rw [show heldN 64 = 64 from rfl] at h ⊢
    refine Y6 ?_
    refine qv ⟨((s1.get 64).1, win, (s1.get 64).2), zz6, RS.get_lt s1 64, ho, ?_, h.f 2 |>.f 2 |>.f 1 |>.f 2⟩
    dsimp only
    have : out = [] := Un O0
    subst this
    rw [<- hs1, hw0, hi0]
    cases n with
    | zero => omega
    | succ m => rfl
   ·refine qz (.bool false) O6 ?_
    refine Y24 ?_
    rw [show n - i = (n - (i + 1)) + 1 by omega, xorDecA] at inv
    refine Ym ?_
    refine r_c rfl (qg rfl (li hT (.inl ho) ((h.f 1).f 2)) ?_)
    cases hR : turnR s1 win with | mk o s2 =>
    rw [hR] at inv
    rintro _ w ⟨x, ok, win', rfl, hx, ho', hr, h⟩
    dsimp only at hr h
    subst hr
    refine Y48 ?_; refine Y1h ?_; refine Y2 ?_
    cases ok with
    | false =>
     refine Y1k ?_; refine Yu ?_
     exact qk (bq2 (bad inv (((h.f 1).drop.f 1).drop)))
    | true =>
     refine Y1r ?_
     have hy := Wr (n := 64) hwas hx
     refine Y2a ?_; refine Y0 ?_; refine Y4k ?_
     refine qz (.int .u64 ((was ^^^ x : Nat) : Int)) (congrArg (Value.int .u64) (vr hwas hx).2.2) ?_
     refine Y6 ?_
     refine qv ⟨(was ^^^ x, win', s2), zz6, hy, ho', ?_, h⟩
     simp only [if_true] at inv
     dsimp only
     rw [inv]
     cases s2.bad with
     | true => rfl
     | false =>
      simp only [Xc, if_false, Option.map_map]
      rfl
  clear h inv hwas ho
  rintro ⟨was, win, s2⟩ w e ⟨hwas, ho, inv, h⟩
  dsimp only at hwas ho inv h ⊢
  refine qt (Γ := Unit) (fun _ => [(0, .pz p), (6, .slice a out.length c), (7, .pz q), (8, .int .u64 was), (15, .iz n), (16, .iz i)])
   (fun _ w => s2.bad = false ∧ St w0 (IsBR p s2 :: WinPt q win :: OwnU a c out :: l) w) ?_ ?_
  ·refine Ym ?_
   refine r_c rfl (qg rfl (wz h) ?_)
   rintro _ w ⟨rfl, h⟩
   refine Yx ?_; refine Y2 ?_
   cases hbd : s2.bad with
   | true =>
    refine Y1k ?_; refine Yu ?_
    rw [hbd, if_pos rfl] at inv
    exact qk (bq2 (bad inv (((h.f 1).drop.f 1).drop)))
   | false =>
    refine qe rfl ?_
    exact qa ⟨(), zz6, rfl, h⟩
  clear h
  rintro _ w e ⟨hbd, h⟩
  rw [hbd, if_neg O2] at inv
  refine Y3x ?_
  refine r_c rfl (jg (r := u64V [was]) h rfl rfl rfl fun b2 w h => ?_)
  refine r_c rfl (q9 (ys := u64V [was]) (zs := u64V (out ++ [was])) (m3 := (out ++ [was]).length) (h.f 3) rfl rfl ⟨rfl, .inr ⟨b2, 0, rfl, qw (h.b 0 rfl) rfl⟩⟩ (u64V_one _) O8 (by simp [u64V]) O6 O6 rfl fun a2 c2 w _ h => ?_)
  refine Yw ?_; refine Yt ?_
  refine qz (.iz ((i + 1 : Nat) : Int)) O7 ?_
  refine Y0 ?_
  refine qv ⟨(i + 1, out ++ [was], was, win, s2, a2, c2), zz6, ⟨hlt, by simp; omega, hwas, fun y hy => ?_, ho, .inr ⟨Nat.succ_pos _, hbd, ?_⟩, ?_⟩, O_d⟩
  ·rcases Ws.1 hy with hy | hy
   ·exact hout y hy
   ·simp at hy; subst hy; exact hwas
  ·rw [inv]; congr 1; funext r; simp
  ·exact ((h.f 1).drop.f 2).f 1
 have hin : i = n := by simp at hc; omega
 refine ju ?_
 refine qt (Γ := Unit) (fun _ => [(6, .slice a out.length c)]) (fun _ w => xorDec n s = some out ∧ St w0 (IsBR p s1 :: OwnU a c out :: WinPt q win :: l) w) ?_ ?_
 ·refine Ym ?_
  refine r_c rfl (qg rfl (wz (h.f 2)) ?_)
  rintro _ w ⟨rfl, h⟩
  refine Yx ?_; refine Y2 ?_
  have hx0 : n = 0 -> xorDec n s = if s.bad = true then none else some [] := fun h0 => by subst h0; rfl
  cases hbd : s1.bad with
  | true =>
   refine Y1k ?_; refine Yu ?_
   rcases inv with ⟨hi0, hs1, hw0⟩ | ⟨hi0, hbad, inv⟩
   ·exact qk (bq2 (bad (by rw [hx0 O0, <- hs1, hbd]; rfl) (((h.f 1).drop.f 1).drop)))
   ·rw [hbd] at hbad; cases hbad
  | false =>
   refine qe rfl ?_
   refine qa ⟨(), ⟨rfl, trivial⟩, ?_, h⟩
   rcases inv with ⟨hi0, hs1, hw0⟩ | ⟨hi0, hbad, inv⟩
   ·have : out = [] := Un O0
    rw [hx0 O0, <- hs1, hbd, this]; rfl
   ·rw [inv, hin, Zb, xorDecA]; simp
 clear h inv
 rintro _ w e ⟨hd, h⟩
 refine Y4c ?_
 exact qk (bq2 ⟨a, c, out, true, rfl, by rw [hd]; rfl, fun _ => ⟨O_o, hout⟩, s1, ((h.f 2).drop.f 1)⟩)
end
end
end Go.Proofs.YtngdfdangkdgcaaGreatDoor
/- suit: words, sums; slices.Equal; simp: reading small numbers. -/
namespace Go.Hw
section
end
end Go.Hw
namespace Go.Proofs.YtngdfdangkdgcaaGreatDoor
open Go.Hw _root_.Go.Proofs.Tryz
section
section
variable {w0 w : World} {l : List HProp}
end
end
end Go.Proofs.YtngdfdangkdgcaaGreatDoor
/- simp: reading small numbers. -/
namespace Go.Proofs.YtngdfdangkdgcaaGreatDoor
open Go.Hw _root_.Go.Proofs.Tryz
section
section
variable {w0 w : World} {l : List HProp}
end
end
end Go.Proofs.YtngdfdangkdgcaaGreatDoor
/- runl, forp: reading runs and frames. -/
namespace Go.Hw
section
theorem bytesV_drop (bs : List UInt8) (k : Nat) : bytesV (bs.drop k) = (bytesV bs).drop (k * 1) := by
 unfold bytesV
 rw [List.map_drop, Nat.mul_one]
theorem Reads.tailB {w0 : World} {l : List HProp} {a : Option Addr} {c : Nat} {bs : List UInt8} (h : Reads w0 l 1 a bs.length (bytesV bs)) {i : Nat} (hi : i <= bs.length) (hc : bs.length <= c) : Reads w0 l 1 (adv a (i * 1) (Nat.beq c i)) (bs.drop i).length (bytesV (bs.drop i)) := by
 have := h.tail hi hc
 rw [Uq, bytesV_drop]
 exact this
end
end Go.Hw
namespace Go.Proofs.YtngdfdangkdgcaaGreatDoor
open Go.Hw _root_.Go.Proofs.Tryz
section
abbrev Told (w0 : World) (l : List HProp) (n : Nat) (D : Option (List Nat)) (v : Value) (w' : World) : Prop := ∃ a c xs b, v = .tuple [.slice a xs.length c, .bool b].toArray ∧ D = (if b = true then some xs else none) ∧ (b = true -> xs.length = n ∧ ∀ x ∈ xs, x < 18446744073709551616) ∧ St w0 (OwnU a c xs :: l) w'
section
variable {w0 w : World} {l : List HProp}
theorem Told.no {n : Nat} {D : Option (List Nat)} (hb : D = none) (h : St w0 l w) : Told w0 l n D (.tuple [.slice none 0 0, .bool false].toArray) w := ⟨none, 0, [], false, rfl, hb, (fun h => by cases h), St.ownNil _ _ h⟩
end
end
end Go.Proofs.YtngdfdangkdgcaaGreatDoor
/- dict: reading by a list of values. -/
namespace Go.Hw
section
end
end Go.Hw
namespace Go.Proofs.YtngdfdangkdgcaaGreatDoor
open Go.Hw _root_.Go.Proofs.Tryz
section
section
variable {w0 w : World} {l : List HProp}
end
end
end Go.Proofs.YtngdfdangkdgcaaGreatDoor
/- suit.read: one value. -/
namespace Go.Proofs.YtngdfdangkdgcaaGreatDoor
open Go.Hw _root_.Go.Proofs.Tryz
section
end
end Go.Proofs.YtngdfdangkdgcaaGreatDoor
/- suit.read: any codec's bytes. -/
namespace Go.Proofs.YtngdfdangkdgcaaGreatDoor
open Go.Hw _root_.Go.Proofs.Tryz
section
theorem read_1 : ReadOk 1 := by
 intro w0 w l sl c bs n hT hr hn hc hn16 h
 have hdef : valuesDec 1 bs n = _ := rfl
 conv at hdef => rhs; unfold valuesDec
 rw [if_pos rfl] at hdef
 refine en func159 results159 ntmps159 ?_
 refine Yu ?_; refine Y1w ?_; refine Y4e ?_; refine Y2k ?_; refine Ye ?_
 refine r_c rfl (qg rfl (k8 h hr.rd hn) ?_)
 rintro _ w ⟨p, rfl, h⟩
 refine Y0 ?_
 refine r_c rfl (qg rfl (cw hT hn16 h) ?_)
 rintro _ w ⟨a, c', xs, b, rfl, hd, hb, s', h⟩
 refine Y4l ?_; refine Ys ?_
 exact qk (bq2 ⟨a, c', xs, b, rfl, by rw [hdef, hd], hb, (h.f 1).drop⟩)
end
end Go.Proofs.YtngdfdangkdgcaaGreatDoor
namespace Go.Hw
section
section
variable {P : Program} {e : Env} {w : World} {φ : Value -> World -> Prop}
theorem bqS3 {a c d : Tmp} {t : TypeId} {z : List Value} {bytes : Nat} [hi : Inf P t z true bytes] {b o : Nat} {l : List Value} (hx : e a = .pointer (some ⟨b, o, none⟩)) (hz : Nat.beq z.length l.length = true) (hl : At w b o l) (h : φ (.tuple [.agg l.toArray, e c, e d].toArray) w) :
  bq P [.cell a t, .tmp c, .tmp d] φ .ret e w := ⟨_, gi hx (Vh hz) hl, h⟩
end
def hdC (h : Hd) : List Value := [.iz h.tag, .iz h.count, .iz h.f, .iz h.t]
def hdZ : List Value := [.iz 0, .iz 0, .iz 0, .iz 0]
theorem u64V_set3 {vals : List Nat} {k : Nat} (hk : vals.length = k) (h3 : k < 3) (x : Nat) : (u64V (vals ++ List.replicate (3 - k) 0)).set k (.int .u64 (x : Int)) = u64V ((vals ++ [x]) ++ List.replicate (3 - (k + 1)) 0) := by
 have e : 3 - k = (3 - (k + 1)) + 1 := by omega
 have hl : (u64V vals).length = k := by simp [u64V, hk]
 have e1 : u64V (vals ++ List.replicate (3 - k) 0) = u64V vals ++ (.int .u64 (0 : Nat)) :: u64V (List.replicate (3 - (k + 1)) 0) := by
  unfold u64V
  rw [e, Zf, Wd, Ux]
 have e2 : u64V ((vals ++ [x]) ++ List.replicate (3 - (k + 1)) 0) = u64V vals ++ (.int .u64 (x : Int)) :: u64V (List.replicate (3 - (k + 1)) 0) := by
  unfold u64V
  rw [Wd, Wd, Um]
  rfl
 rw [e1, e2, List.set_append_right _ _ O0, hl, Zb]
 rfl
end
end Go.Hw
namespace Go.Proofs.YtngdfdangkdgcaaGreatDoor
open Go.Hw _root_.Go.Proofs.Tryz
section
instance und3 : Und prog 240 (.array 3 31) := ⟨underlying240⟩
section
variable {w0 w : World} {l : List HProp}
theorem di (hT : Tz w0) {tag : Int} (hV : ValOk tag) {sl : Option Addr} {c : Nat} {L : List Smp} (hw : ∀ s ∈ L, s.Wf) (hn : L.length <= 1073741824) (hr : Reads w0 l 2 sl L.length (smpsV L)) (h : St w0 l w) :
  Ret prog 152 [.iz tag, .slice sl L.length c] w fun v w' => ∃ a c', v = .tuple [.slice a ((chMake tag L).getD []).length c', .bool (chMake tag L).isSome].toArray ∧ St w0 (OwnB a c' ((chMake tag L).getD []) :: l) w' := by
 have hlen := suitEnc_len (tag := tag) hw
 refine en func152 results152 ntmps152 ?_
 refine Yu ?_; refine Y8 ?_; refine Yj ?_
 refine r_c rfl (qg rfl (zt hT hV hw hn hr h) ?_)
 cases hE : suitEnc tag L with
 | none =>
  have hM : chMake tag L = none := by unfold chMake; rw [hE]
  rw [hM]
  rintro _ w ⟨xa, xc, rfl, h⟩
  replace h := h.drop
  show Rn _ _ _ _ _ (upd _ _ (.tuple [.slice xa 0 xc, .bool false].toArray)) _
  refine Y28 ?_; refine Y1h ?_; refine Y2f ?_; refine Y1s ?_; refine Yu ?_
  exact qk (bq2 ⟨none, 0, rfl, St.ownNil _ _ h⟩)
 | some x =>
 rw [hE] at hlen
 have hxl : x.length <= 3000000 := hlen
 obtain ⟨ht1, ht6⟩ := suitEnc_tag hE
 obtain ⟨_, hL16⟩ := suitEnc_rises hE
 rintro _ w ⟨xa, xc, rfl, h⟩
 replace h : St w0 (OwnB xa xc x :: l) w := h
 show Rn _ _ _ _ _ (upd _ _ (.tuple [.slice xa x.length xc, .bool true].toArray)) _
 refine Y28 ?_; refine Y1h ?_; refine Y3a ?_; refine Y15 ?_; refine Yc ?_
 by_cases hL0 : L.length = 0
 ·have hLn : L = [] := Un hL0
  have hM : chMake tag L = none := by unfold chMake; rw [hE]; dsimp only; rw [if_pos hLn]
  rw [hM]
  refine r_v (qr (v' := .bool true) (j9 rfl rfl) (by rw [hL0]; rfl)) rfl ?_
  refine Y9 ?_; refine Y4b ?_
  exact qk (bq2 ⟨none, 0, rfl, St.ownNil _ _ h.drop⟩)
 have hLn : L ≠ [] := fun hh => hL0 (by rw [hh]; rfl)
 have hM : chMake tag L = some (chBody tag L x ++ be4 (crc (chBody tag L x))) := by unfold chMake; rw [hE]; dsimp only; rw [if_neg hLn]
 rw [hM]
 obtain ⟨w1, w2⟩ := il hw hLn
 refine r_v (qr (v' := .bool false) (j9 rfl rfl) O5) rfl ?_
 refine Y9 ?_; refine Yb ?_; refine Y8 ?_; refine Yy ?_
 refine qz (.int .u8 ((UInt8.ofNat tag.toNat).toNat : Int)) (by rw [UInt8.toNat_ofNat', show tag = ((tag.toNat : Nat) : Int) by omega, uw]; simp) ?_
 refine r_c rfl (jg (r := bytesV [UInt8.ofNat tag.toNat]) h rfl rfl rfl fun b2 w h => ?_)
 refine Y17 ?_; refine Yy ?_
 refine qz (.int .u64 (L.length : Int)) (congrArg (Value.int .u64) (cz O0)) ?_
 refine r_c rfl (qg rfl (zf (bs := [UInt8.ofNat tag.toNat]) L.length O0 h (fun w' h' => (Reads.pt (m := 0) rfl rfl).at_ h') O8) ?_)
 rintro _ w ⟨a1, c1, rfl, h⟩
 replace h := (h.f 1).drop
 refine Yw ?_
 have hp1 := jd L.length
 have hp2 := jd (zigT (firstT L))
 have hp3 := jd (zigT (lastT L))
 refine qt (Γ := Option Addr × Nat) (fun q => [(0, .iz tag), (1, .slice sl L.length c), (6, .slice xa x.length xc), (8, .slice q.1 (UInt8.ofNat tag.toNat :: (chNums L).flatMap vput).length q.2)]) (fun q w => St w0 (OwnB q.1 q.2 (UInt8.ofNat tag.toNat :: (chNums L).flatMap vput) :: OwnB xa xc x :: l) w) ?_ ?_
 ·have hg0 : L[0]? = some (L[0]'O0) := Uc _
  have hgl : L[L.length - 1]? = some (L[L.length - 1]'O0) := Uc _
  have hf : firstT L = (L[0]'O0).T := by unfold firstT; rw [List.head?_eq_getElem?, hg0]; rfl
  have ht : lastT L = (L[L.length - 1]'O0).T := by unfold lastT; rw [List.getLast?_eq_getElem?, hgl]; rfl
  generalize L[0]'O0 = s0 at hg0 hf
  generalize L[L.length - 1]'O0 = s1 at hgl ht
  obtain ⟨b, o, hsl⟩ := ((hr.more [_, _]).at_ h).some O0
  have hc0 : ∀ {w'}, (∃ M, St w0 (M ++ l) w') -> w'.cell? ⟨b, o, none⟩ = some (.iz s0.T) := fun ⟨M, h'⟩ => by
   have := (hsl ▸ hr M _ h').elem j5 hg0 0 _ rfl; simpa using this
  have hc1 : ∀ {w'}, (∃ M, St w0 (M ++ l) w') -> w'.cell? ⟨b, o + (L.length - 1) * 2 + 0, none⟩ = some (.iz s1.T) := fun ⟨M, h'⟩ => (hsl ▸ hr M _ h').elem j5 hgl 0 _ rfl
  refine jm [0, 1, 2, 3, 4, 5, 6, 7, 8, 9, 10, 11, 12, 13, 14, 15, 16] none (fun w => ∃ M, St w0 (M ++ l) w) O1 O1 ?_
  replace h := h.drew
  generalize w.drew = w at h
  have hs := h
  replace h : ∃ M, St w0 (M ++ l) w := ⟨[_, _], hs⟩
  refine Y1x ?_; refine Y1x ?_
  refine cpv rfl rfl rfl rfl h rfl (jb (b := b) (o := o) (m := L.length) (c := c) (j := 0) (o' := o) O16 rfl rfl O0 O8) ?_
  refine Yv ?_
  refine qj rfl rfl rfl rfl h (fun w h => qh rfl (jj (v := .iz s0.T) rfl (hc0 h))) ?_
  refine Yq ?_; refine Y1x ?_; refine Y1x ?_; refine Y2x ?_
  refine cpv rfl rfl rfl rfl h rfl (qr (v' := .iz ((L.length - 1 : Nat) : Int)) (vi rfl rfl) O9) ?_
  refine cpv rfl rfl rfl rfl h rfl (jb (b := b) (o := o) (m := L.length) (c := c) (j := L.length - 1) (o' := o + (L.length - 1) * 2) O16 rfl rfl O0 rfl) ?_
  refine Yv ?_
  refine qj rfl rfl rfl rfl h (fun w h => qh rfl (jj (v := .iz s1.T) rfl (hc1 h))) ?_
  refine Y11 ?_
  refine qd 5 rfl rfl rfl rfl ?_
  refine (qg rfl (pd (hf ▸ w1) hs) ?_)
  rintro _ w ⟨rfl, hs⟩
  rw [<- hf, show zigU (us (firstT L)) = zigT (firstT L) from rfl]
  replace h : ∃ M, St w0 (M ++ l) w := ⟨[_, _], hs⟩
  refine ⟨fun _ => h, ?_⟩
  refine Y16 ?_
  refine qd 6 rfl rfl rfl rfl ?_
  refine (qg rfl (zf (zigT (firstT L)) (zigT_lt _) hs (fun w' h' => h'.own_rd) O6) ?_)
  rintro _ w ⟨a2, c2, rfl, hs⟩
  replace h : ∃ M, St w0 (M ++ l) w := ⟨[_, _, _], hs⟩
  refine ⟨fun _ => h, ?_⟩
  refine Y11 ?_
  refine qd 14 rfl rfl rfl rfl ?_
  refine (qg rfl (pd (ht ▸ w2) hs) ?_)
  rintro _ w ⟨rfl, hs⟩
  rw [<- ht, show zigU (us (lastT L)) = zigT (lastT L) from rfl]
  replace h : ∃ M, St w0 (M ++ l) w := ⟨[_, _, _], hs⟩
  refine ⟨fun _ => h, ?_⟩
  refine Yq ?_
  refine qd 15 rfl rfl rfl rfl ?_
  refine (qg rfl (zf (zigT (lastT L)) (zigT_lt _) hs (fun w' h' => h'.own_rd) O6) ?_)
  rintro _ w ⟨a3, c3, rfl, hs⟩
  replace h : ∃ M, St w0 (M ++ l) w := ⟨[_, _, _, _], hs⟩
  refine ⟨fun _ => h, ?_⟩
  refine Y1y ?_
  have e3 : [UInt8.ofNat tag.toNat] ++ vput L.length ++ vput (zigT (firstT L)) ++ vput (zigT (lastT L)) = UInt8.ofNat tag.toNat :: (chNums L).flatMap vput := by simp [chNums]
  rw [e3] at hs
  refine qn ⟨(a3, c3), ⟨rfl, rfl, rfl, ?_, trivial⟩, ((hs.f 1).drop.f 1).drop⟩
  show Value.slice _ _ _ = Value.slice _ _ _
  rw [e3]
 clear h a1 c1
 rintro ⟨a1, c1⟩ w e h
 dsimp only at h ⊢
 have hbl := chBody_len tag L x
 have hbe : chBody tag L x = (UInt8.ofNat tag.toNat :: (chNums L).flatMap vput) ++ x := by simp [chBody]
 have hbl2 : (UInt8.ofNat tag.toNat :: (chNums L).flatMap vput).length + x.length = (chBody tag L x).length := by rw [hbe, Ua]
 generalize UInt8.ofNat tag.toNat :: (chNums L).flatMap vput = hd at h hbe hbl2 ⊢
 generalize chBody tag L x = B at hbe hbl hbl2 ⊢
 refine Ye ?_; refine Yj ?_
 refine r_c rfl (q9 (ys := bytesV x) (zs := bytesV B) (m3 := B.length) h rfl rfl (h.f 1).own_rd (bytesV_one _) O0 (by rw [hbe]; simp [bytesV]) O0 O0 rfl fun a2 c2 w _ h => ?_)
 refine Yo ?_; refine Yn ?_
 refine r_c rfl (qg rfl (ot h) ?_)
 rintro _ w ⟨rfl, h⟩
 refine Yj ?_
 refine r_c rfl (qg rfl (qqi (bs := B) O0 Reads.own h) ?_)
 rintro _ w ⟨rfl, h⟩
 refine Y4 ?_
 generalize crc B = k
 refine Y21 ?_
 refine r_v (qr (v' := .int .u32 ((k / 2 ^ 24 : Nat) : Int)) (vl rfl rfl O0) (congrArg (Value.int .u32) (j0 k 24 32 O2))) rfl ?_
 refine Yy ?_
 refine qz (.int .u8 ((UInt8.ofNat (k / 2 ^ 24)).toNat : Int)) O23 ?_
 refine Y0 ?_
 refine r_v (qr (v' := .int .u32 ((k / 2 ^ 16 : Nat) : Int)) (vl rfl rfl O0) (congrArg (Value.int .u32) (j0 k 16 32 O2))) rfl ?_
 refine Yy ?_
 refine qz (.int .u8 ((UInt8.ofNat (k / 2 ^ 16)).toNat : Int)) O23 ?_
 refine Y0 ?_
 refine r_v (qr (v' := .int .u32 ((k / 2 ^ 8 : Nat) : Int)) (vl rfl rfl O0) (congrArg (Value.int .u32) (j0 k 8 32 O2))) rfl ?_
 refine Yy ?_
 refine qz (.int .u8 ((UInt8.ofNat (k / 2 ^ 8)).toNat : Int)) O23 ?_
 refine Y0 ?_; refine Yy ?_
 refine qz (.int .u8 ((UInt8.ofNat k).toNat : Int)) O23 ?_
 refine r_c rfl (jg (r := bytesV (be4 k)) h rfl rfl rfl fun b4 w h => ?_)
 refine r_c rfl (q9 (ys := bytesV (be4 k)) (zs := bytesV (B ++ be4 k)) (m3 := (B ++ be4 k).length) (h.f 1) rfl rfl ⟨rfl, .inr ⟨b4, 0, rfl, qw (h.b 0 rfl) rfl⟩⟩ (bytesV_one _) (by simp [be4_len]) (by simp [bytesV]) (by rw [Ua, be4_len]; omega) (by rw [Ua, be4_len]; omega) rfl fun a3 c3 w _ h => ?_)
 refine Ys ?_
 refine qk (bq2 ⟨a3, c3, rfl, ?_⟩)
 have h' := ((h.f 1).drop.f 1).drop
 exact h'
end
end
section
section
variable {w0 w : World} {l : List HProp}
abbrev HeadOf (w0 : World) (l : List HProp) (bs : List UInt8) (v : Value) : Prop :=
 (headDec bs = none ∧ v = .tuple [.agg hdZ.toArray, .slice none 0 0, .bool false].toArray) ∨
 ∃ hd rest a c, headDec bs = some (hd, rest) ∧ v = .tuple [.agg (hdC hd).toArray, .slice a rest.length c, .bool true].toArray ∧ rest.length <= c ∧ rest.length <= bs.length ∧ hd.count <= 65535 ∧ hd.tag <= 6 ∧ Reads w0 l 1 a rest.length (bytesV rest)
theorem s8 {sl : Option Addr} {c : Nat} {bs : List UInt8} (hn : bs.length <= 140737488355328) (hc : bs.length <= c) (hr : Reads w0 l 1 sl bs.length (bytesV bs)) (h : St w0 l w) :
  Ret prog 150 [.slice sl bs.length c] w fun v w' => HeadOf w0 l bs v ∧ St w0 l w' := by
 refine en func150 results150 ntmps150 ?_
 refine Y1 ?_
 refine r_c rfl (qp h fun b2 w h => ?_)
 replace h : St w0 (pt b2 (.cells hdZ.toArray 229 (0, 0)) :: l) w := h
 refine Ys ?_
 cases bs with
 | nil =>
  refine Y25 ?_
  refine r_v (qr (v' := .bool true) (j9 rfl rfl) rfl) rfl ?_
  refine Y19 ?_; refine Yf ?_; refine Y19 ?_; refine Y1s ?_; refine Y1 ?_
  refine r_v (qc (r := hdZ) rfl) rfl ?_
  refine r_c rfl (qy (vs := hdZ) 0 h rfl rfl rfl rfl rfl rfl rfl fun w h => ?_)
  replace h : St w0 (pt b2 (.cells hdZ.toArray 229 (0, 0)) :: l) w := h
  refine Ys ?_
  exact qk (bqS3 (l := hdZ) rfl rfl (qw (h.b 0 rfl) rfl) ⟨.inl ⟨rfl, rfl⟩, h.drop⟩)
 | cons ch r =>
 have hdef : headDec (ch :: r) = _ := rfl
 conv at hdef => rhs; unfold headDec
 dsimp only at hdef
 have hlc : (ch :: r).length = r.length + 1 := rfl
 obtain ⟨b, o, hsl⟩ := (hr.cons.at_ h).some O8
 have hc0 : ∀ {M : List HProp} {w'}, St w0 (M ++ l) w' -> w'.cell? ⟨b, o, none⟩ = some (.int .u8 ch.toNat) := fun {M} {w'} h' => by
  have := (hsl ▸ hr M _ h').cell (bytesV_get (bs := ch :: r) (j := 0) rfl); simpa using this
 refine qt (Γ := Unit) (fun _ => [(0, .slice sl (ch :: r).length c), (2, .pz b2)]) (fun _ w => ¬ (ch.toNat < 1 ∨ 6 < ch.toNat) ∧ St w0 (pt b2 (.cells hdZ.toArray 229 (0, 0)) :: l) w) ?_ ?_
 ·refine Y34 ?_
  refine r_v (qr (v' := .bool false) (j9 rfl rfl) (by congr 1)) rfl ?_
  refine Y3a ?_
  refine r_v (jb (b := b) (o := o) (m := (ch :: r).length) (c := c) (j := 0) (o' := o) O16 rfl rfl O8 O8) rfl ?_
  refine Yc ?_
  refine r_v (jj (v := .int .u8 ch.toNat) rfl (hc0 (M := [_]) h)) rfl ?_
  refine Yc ?_
  by_cases g1 : ch.toNat < 1
  ·refine r_v (qr (v' := .bool true) (wo rfl rfl) O27) rfl ?_
   refine Y9 ?_; refine Y19 ?_; refine Y1s ?_; refine Y1 ?_
   refine r_v (qc (r := hdZ) rfl) rfl ?_
   refine r_c rfl (qy (vs := hdZ) 0 h rfl rfl rfl rfl rfl rfl rfl fun w h => ?_)
   replace h : St w0 (pt b2 (.cells hdZ.toArray 229 (0, 0)) :: l) w := h
   refine Ys ?_
   exact qk (bqS3 (l := hdZ) rfl rfl (qw (h.b 0 rfl) rfl) ⟨.inl ⟨by rw [hdef, if_pos (.inl g1)], rfl⟩, h.drop⟩)
  refine r_v (qr (v' := .bool false) (wo rfl rfl) O27) rfl ?_
  refine Y9 ?_; refine Y3a ?_
  refine r_v (jb (b := b) (o := o) (m := (ch :: r).length) (c := c) (j := 0) (o' := o) O16 rfl rfl O8 O8) rfl ?_
  refine Yc ?_
  refine r_v (jj (v := .int .u8 ch.toNat) rfl (hc0 (M := [_]) h)) rfl ?_
  refine Yc ?_; refine Y2j ?_; refine Y9 ?_
  refine qv (qi (decide ((ch.toNat : Int) > 6)) rfl (fun hc1 => ?_) (fun hc1 => ?_))
  ·refine Y1 ?_
   refine r_v (qc (r := hdZ) rfl) rfl ?_
   refine r_c rfl (qy (vs := hdZ) 0 h rfl rfl rfl rfl rfl rfl rfl fun w h => ?_)
   replace h : St w0 (pt b2 (.cells hdZ.toArray 229 (0, 0)) :: l) w := h
   refine Ys ?_
   exact qk (bqS3 (l := hdZ) rfl rfl (qw (h.b 0 rfl) rfl) ⟨.inl ⟨by rw [hdef, if_pos (.inr (by simp at hc1; omega))], rfl⟩, h.drop⟩)
  ·exact qa ⟨(), zz2, by simp at hc1; omega, h⟩
 clear h
 rintro _ w e ⟨hcond, h⟩
 rw [if_neg hcond] at hdef
 have hrt := hr.tailB (i := 1) O0 hc
 rw [show (ch :: r).drop 1 = r from rfl] at hrt
 refine Ye ?_
 refine r_v (gl (i := 1) rfl rfl O0) rfl ?_
 show Rn _ _ _ _ _ (upd _ _ (.slice (adv sl (1 * 1) (Nat.beq c 1)) r.length (c - 1))) _
 refine Yo ?_; refine Yn ?_
 refine r_c rfl (qp h fun b6 w h => ?_)
 replace h : St w0 (pt b6 (.cells (u64V ([] ++ List.replicate (3 - 0) 0)).toArray 240 (0, 0)) :: pt b2 (.cells hdZ.toArray 229 (0, 0)) :: l) w := h
 refine Y2 ?_
 generalize hG : getVs 3 r = G at hdef
 refine qt (Γ := Nat × Nat × Nat × List UInt8 × Option Addr × Nat) (fun k => [(0, .slice sl (ch :: r).length c), (2, .pz b2), (5, .slice k.2.2.2.2.1 k.2.2.2.1.length k.2.2.2.2.2), (6, .pz b6)])
  (fun k w => G = some ([k.1, k.2.1, k.2.2.1], k.2.2.2.1) ∧ k.1 < 18446744073709551616 ∧ k.2.1 < 18446744073709551616 ∧ k.2.2.1 < 18446744073709551616 ∧ k.2.2.2.1.length <= r.length ∧ k.2.2.2.1.length <= k.2.2.2.2.2 ∧ Reads w0 l 1 k.2.2.2.2.1 k.2.2.2.1.length (bytesV k.2.2.2.1) ∧ St w0 (pt b6 (.cells (u64V [k.1, k.2.1, k.2.2.1]).toArray 240 (0, 0)) :: pt b2 (.cells hdZ.toArray 229 (0, 0)) :: l) w) ?_ ?_
 ·refine Y8 ?_; refine Y4p ?_
  refine jx (Γ := Nat × List Nat × List UInt8 × Option Addr × Nat) (fun k => [(0, .slice sl (ch :: r).length c), (2, .pz b2), (5, .slice k.2.2.2.1 k.2.2.1.length k.2.2.2.2), (6, .pz b6), (29, .iz k.1)])
   (fun k w => k.1 <= 3 ∧ k.2.1.length = k.1 ∧ (∀ x ∈ k.2.1, x < 18446744073709551616) ∧ G = (getVs (3 - k.1) k.2.2.1).map (fun q => (k.2.1 ++ q.1, q.2)) ∧ k.2.2.1.length <= r.length ∧ k.2.2.1.length <= k.2.2.2.2 ∧ Reads w0 l 1 k.2.2.2.1 k.2.2.1.length (bytesV k.2.2.1) ∧ St w0 (pt b6 (.cells (u64V (k.2.1 ++ List.replicate (3 - k.1) 0)).toArray 240 (0, 0)) :: pt b2 (.cells hdZ.toArray 229 (0, 0)) :: l) w)
   (fun k => 3 - k.1) (0, [], r, adv sl (1 * 1) (Nat.beq c 1), c - 1) zz5 ⟨Ud _, rfl, (fun _ h => by cases h), (by rw [<- hG]; simp), Ug _, O21, hrt, h⟩ ?_
  clear h
  rintro ⟨k, vals, rest, ra, rc⟩ w e ⟨hk, hvl, hv, inv, hrl, hrc, hrr, h⟩
  dsimp only at hk hvl hv inv hrl hrc hrr h ⊢
  refine Y14 ?_
  refine qf (qi (decide ((k : Int) < 3)) rfl (fun hc1 => ?_) (fun hc1 => ?_))
  ·
   have hlt : k < 3 := by simp at hc1; omega
   rw [show 3 - k = (3 - (k + 1)) + 1 by omega, getVs] at inv
   have hk2 := iz rest
   have hx := iw rest
   refine Y1z ?_; refine Y3i ?_; refine Ye ?_
   refine r_c rfl (qg rfl (pw h (hrr.more [_, _]).rd O0) ?_)
   rintro _ w ⟨rfl, h⟩
   refine Y4a ?_
   generalize (vget rest).1 = x at hx inv ⊢
   generalize (vget rest).2 = j at hk2 inv ⊢
   refine Y3y ?_
   by_cases hj0 : j = 0
   ·refine qz (.bool true) (by rw [hj0]; rfl) ?_
    refine Y27 ?_
    refine r_v (qc (r := hdZ) rfl) rfl ?_
    refine r_c rfl (qy (vs := hdZ) 1 h rfl rfl rfl rfl rfl rfl rfl fun w h => ?_)
    replace h := h.drop
    replace h : St w0 (pt b2 (.cells hdZ.toArray 229 (0, 0)) :: l) w := h
    refine Ys ?_
    rw [if_pos hj0] at inv
    exact qk (bqS3 (l := hdZ) rfl rfl (qw (h.b 0 rfl) rfl) ⟨.inl ⟨by rw [hdef, inv]; rfl, rfl⟩, h.drop⟩)
   refine qz (.bool false) O5 ?_
   refine Yb ?_
   rw [if_neg hj0, Option.map_map] at inv
   have hrt := hrr.tailB hk2 hrc
   refine jh (some 6) (fun w => St w0 _ w) O1 O1 h.drew fun w h => ?_
   refine Y18 ?_; refine Y18 ?_; refine Y2i ?_
   refine cpv rfl rfl rfl rfl h rfl (qr (v' := .slice (adv ra (j * 1) (Nat.beq rc j)) (rest.drop j).length (rc - j)) (gl (i := j) rfl rfl hk2) (by rw [Uq]; rfl)) ?_
   refine cpv rfl rfl rfl rfl h rfl (k9 (j := k) (o' := k) rfl rfl rfl hlt O8) ?_
   refine Yq ?_
   refine jy 6 none rfl rfl rfl rfl ?_
   refine qb 0 h rfl (show _ = Value.int .u64 (x : Int) from rfl) rfl (by rw [Xq]; simp [u64V]; omega) rfl rfl fun w h => ?_
   simp only [Vf] at h
   rw [u64V_set3 hvl hlt] at h
   refine jz h ?_
   refine Y1y ?_
   refine qn ?_
   refine Yt ?_
   refine qz (.iz ((k + 1 : Nat) : Int)) O7 ?_
   refine Y0 ?_
   refine qv ⟨(k + 1, vals ++ [x], rest.drop j, adv ra (j * 1) (Nat.beq rc j), rc - j), zz5, ⟨hlt, by simp; omega, fun z hz => ?_, ?_, by dsimp only; rw [Uq]; omega, by dsimp only; rw [Uq]; omega, hrt, h⟩, O_d⟩
   ·rcases Ws.1 hz with hz | hz
    ·exact hv z hz
    ·simp at hz; subst hz; exact hx
   ·dsimp only
    rw [inv]
    congr 1
    funext q
    simp
  have hk3 : k = 3 := by simp at hc1; omega
  subst hk3
  rw [Zb, getVs, Xa, Uw] at inv
  rw [Zb, List.replicate_zero, Uw] at h
  match vals, hvl with
  | [v0, v1, v2], _ =>
   exact ju ⟨(v0, v1, v2, rest, ra, rc), zz4, inv, hv v0 O8, hv v1 O8, hv v2 O8, hrl, hrc, hrr, h⟩
 clear h
 rintro ⟨v0, v1, v2, rest, ra, rc⟩ w e ⟨hGs, hv0, hv1, hv2, hrl, hrc, hrr, h⟩
 dsimp only at hGs hv0 hv1 hv2 hrl hrc hrr h ⊢
 rw [hGs] at hdef
 dsimp only at hdef
 rw [show [v0, v1, v2].getD 0 0 = v0 from rfl, show [v0, v1, v2].getD 1 0 = v1 from rfl, show [v0, v1, v2].getD 2 0 = v2 from rfl, show hdOf ch [v0, v1, v2] = ⟨ch.toNat, v0, sg (zagU v1), sg (zagU v2)⟩ from rfl] at hdef
 have hch := ch.toNat_lt
 refine qt (Γ := Nat) (fun b10 => [(2, .pz b2), (5, .slice ra rest.length rc), (10, .pz b10)])
  (fun b10 w => St w0 (pt b10 (.cells (hdC ⟨ch.toNat, min v0 65536, sg (zagU v1), sg (zagU v2)⟩).toArray 229 (0, 0)) :: pt b2 (.cells hdZ.toArray 229 (0, 0)) :: l) w) ?_ ?_
 ·have hcc : ∀ {w'}, (∃ M, St w0 (M ++ (pt b6 (.cells (u64V [v0, v1, v2]).toArray 240 (0, 0)) :: pt b2 (.cells hdZ.toArray 229 (0, 0)) :: l)) w') -> w'.cell? ⟨b, o, none⟩ = some (.int .u8 ch.toNat) := fun ⟨M, h'⟩ => hc0 (M := []) ((h'.drops).drop.drop)
  have hca : ∀ {w'}, (∃ M, St w0 (M ++ (pt b6 (.cells (u64V [v0, v1, v2]).toArray 240 (0, 0)) :: pt b2 (.cells hdZ.toArray 229 (0, 0)) :: l)) w') -> w'.heap[b6]? = some (.cells (u64V [v0, v1, v2]).toArray 240 (0, 0)) := fun ⟨M, h'⟩ => (h'.drops).b 0 rfl
  refine jm [0, 1, 2, 3, 4, 5, 6, 7, 8, 9, 10, 11, 12, 13, 14, 15, 16] (some 16) (fun w => ∃ M, St w0 (M ++ (pt b6 (.cells (u64V [v0, v1, v2]).toArray 240 (0, 0)) :: pt b2 (.cells hdZ.toArray 229 (0, 0)) :: l)) w) O1 O1 ?_
  replace h := h.drew
  generalize w.drew = w at h
  have hs := h
  replace h : ∃ M, St w0 (M ++ (pt b6 (.cells (u64V [v0, v1, v2]).toArray 240 (0, 0)) :: pt b2 (.cells hdZ.toArray 229 (0, 0)) :: l)) w := ⟨[], hs⟩
  refine Y1x ?_
  refine cpv rfl rfl rfl rfl h rfl (jb (b := b) (o := o) (m := (ch :: r).length) (c := c) (j := 0) (o' := o) O16 rfl rfl O8 O8) ?_
  refine qj rfl rfl rfl rfl h (fun w h => qh rfl (jj (v := .int .u8 ch.toNat) rfl (hcc h))) ?_
  refine cpv rfl rfl rfl rfl h rfl (qr (v' := .iz (ch.toNat : Int)) (xj rfl) O11) ?_
  refine cpv rfl rfl rfl rfl h rfl (k9 (j := 0) (o' := 0) rfl rfl rfl O2 rfl) ?_
  refine qj rfl rfl rfl rfl h (fun w h => qh rfl (qq (v := .int .u64 (v0 : Int)) rfl (hca h) rfl)) ?_
  refine cpv rfl rfl rfl rfl h rfl (qr (v' := .int .u64 ((min v0 65536 : Nat) : Int)) (ro rfl rfl) (by congr 1; omega)) ?_
  refine cpv rfl rfl rfl rfl h rfl (qr (v' := .iz ((min v0 65536 : Nat) : Int)) (xj rfl) O11) ?_
  refine cpv rfl rfl rfl rfl h rfl (k9 (j := 1) (o' := 1) rfl rfl rfl O2 rfl) ?_
  refine qj rfl rfl rfl rfl h (fun w h => qh rfl (qq (v := .int .u64 (v1 : Int)) rfl (hca h) rfl)) ?_
  refine Yg ?_
  refine cpv rfl rfl rfl rfl h rfl (k9 (j := 2) (o' := 2) rfl rfl rfl O2 rfl) ?_
  refine qj rfl rfl rfl rfl h (fun w h => qh rfl (qq (v := .int .u64 (v2 : Int)) rfl (hca h) rfl)) ?_
  refine Y16 ?_
  refine j4 10 15 rfl rfl rfl rfl rfl rfl ?_ ?_
  ·refine (qg rfl (kr hv1 hs) ?_)
   rintro _ w ⟨rfl, hs⟩
   replace h : ∃ M, St w0 (M ++ (pt b6 (.cells (u64V [v0, v1, v2]).toArray 240 (0, 0)) :: pt b2 (.cells hdZ.toArray 229 (0, 0)) :: l)) w := ⟨[], hs⟩
   refine ⟨fun _ => h, ?_⟩
   refine Y16 ?_
   refine j4 13 15 rfl rfl rfl rfl rfl rfl ?_ ?_
   ·refine (qg rfl (kr hv2 hs) ?_)
    rintro _ w ⟨rfl, hs⟩
    replace h : ∃ M, St w0 (M ++ (pt b6 (.cells (u64V [v0, v1, v2]).toArray 240 (0, 0)) :: pt b2 (.cells hdZ.toArray 229 (0, 0)) :: l)) w := ⟨[], hs⟩
    refine ⟨fun _ => h, ?_⟩
    refine cpv rfl rfl rfl rfl h rfl (qc (r := hdC ⟨ch.toNat, min v0 65536, sg (zagU v1), sg (zagU v2)⟩) rfl) ?_
    refine Yq ?_
    refine qd 15 rfl rfl rfl rfl ?_
    refine (qp hs fun b10 w hs => ?_)
    replace h : ∃ M, St w0 (M ++ (pt b6 (.cells (u64V [v0, v1, v2]).toArray 240 (0, 0)) :: pt b2 (.cells hdZ.toArray 229 (0, 0)) :: l)) w := ⟨[_], hs⟩
    refine ⟨fun _ => h, ?_⟩
    refine Yg ?_
    refine jk 16 rfl rfl rfl ?_
    refine qy (vs := hdC ⟨ch.toNat, min v0 65536, sg (zagU v1), sg (zagU v2)⟩) 0 hs rfl rfl rfl rfl rfl rfl rfl fun w hs => ?_
    exact ⟨b10, zz3, (hs.f 1).drop⟩
   ·refine (qp hs fun b10 w hs => ?_)
    replace h : ∃ M, St w0 (M ++ (pt b6 (.cells (u64V [v0, v1, v2]).toArray 240 (0, 0)) :: pt b2 (.cells hdZ.toArray 229 (0, 0)) :: l)) w := ⟨[_], hs⟩
    refine ⟨fun _ => h, ?_⟩
    refine Y11 ?_
    refine qd 13 rfl rfl rfl rfl ?_
    refine (qg rfl (kr hv2 hs) ?_)
    rintro _ w ⟨rfl, hs⟩
    replace h : ∃ M, St w0 (M ++ (pt b6 (.cells (u64V [v0, v1, v2]).toArray 240 (0, 0)) :: pt b2 (.cells hdZ.toArray 229 (0, 0)) :: l)) w := ⟨[_], hs⟩
    refine ⟨fun _ => h, ?_⟩
    refine cpv rfl rfl rfl rfl h rfl (qc (r := hdC ⟨ch.toNat, min v0 65536, sg (zagU v1), sg (zagU v2)⟩) rfl) ?_
    refine Yg ?_
    refine jk 16 rfl rfl rfl ?_
    refine qy (vs := hdC ⟨ch.toNat, min v0 65536, sg (zagU v1), sg (zagU v2)⟩) 0 hs rfl rfl rfl rfl rfl rfl rfl fun w hs => ?_
    exact ⟨b10, zz3, (hs.f 1).drop⟩
  ·refine (qp hs fun b10 w hs => ?_)
   replace h : ∃ M, St w0 (M ++ (pt b6 (.cells (u64V [v0, v1, v2]).toArray 240 (0, 0)) :: pt b2 (.cells hdZ.toArray 229 (0, 0)) :: l)) w := ⟨[_], hs⟩
   refine ⟨fun _ => h, ?_⟩
   refine Y16 ?_
   refine qd 10 rfl rfl rfl rfl ?_
   refine (qg rfl (kr hv1 hs) ?_)
   rintro _ w ⟨rfl, hs⟩
   replace h : ∃ M, St w0 (M ++ (pt b6 (.cells (u64V [v0, v1, v2]).toArray 240 (0, 0)) :: pt b2 (.cells hdZ.toArray 229 (0, 0)) :: l)) w := ⟨[_], hs⟩
   refine ⟨fun _ => h, ?_⟩
   refine Y11 ?_
   refine qd 13 rfl rfl rfl rfl ?_
   refine (qg rfl (kr hv2 hs) ?_)
   rintro _ w ⟨rfl, hs⟩
   replace h : ∃ M, St w0 (M ++ (pt b6 (.cells (u64V [v0, v1, v2]).toArray 240 (0, 0)) :: pt b2 (.cells hdZ.toArray 229 (0, 0)) :: l)) w := ⟨[_], hs⟩
   refine ⟨fun _ => h, ?_⟩
   refine cpv rfl rfl rfl rfl h rfl (qc (r := hdC ⟨ch.toNat, min v0 65536, sg (zagU v1), sg (zagU v2)⟩) rfl) ?_
   refine Yg ?_
   refine jk 16 rfl rfl rfl ?_
   refine qy (vs := hdC ⟨ch.toNat, min v0 65536, sg (zagU v1), sg (zagU v2)⟩) 0 hs rfl rfl rfl rfl rfl rfl rfl fun w hs => ?_
   exact ⟨b10, zz3, (hs.f 1).drop⟩
 clear h
 rintro b10 w e h
 refine qt (Γ := Unit) (fun _ => [(2, .pz b2), (5, .slice ra rest.length rc), (10, .pz b10)])
  (fun _ w => ¬ (v0 < 1 ∨ 65535 < v0 ∨ sg (zagU v2) < sg (zagU v1)) ∧ St w0 (pt b10 (.cells (hdC ⟨ch.toNat, min v0 65536, sg (zagU v1), sg (zagU v2)⟩).toArray 229 (0, 0)) :: pt b2 (.cells hdZ.toArray 229 (0, 0)) :: l) w) ?_ ?_
 ·refine Y26 ?_
  refine r_v (qq (v := .iz ((min v0 65536 : Nat) : Int)) rfl (h.b 0 rfl) rfl) rfl ?_
  by_cases g1 : v0 < 1
  ·refine r_v (qr (v' := .bool true) (wo rfl rfl) O27) rfl ?_
   refine Y2f ?_; refine Yf ?_; refine Y19 ?_; refine Y4o ?_; refine Y1 ?_
   refine r_v (qc (r := hdZ) rfl) rfl ?_
   refine r_c rfl (qy (vs := hdZ) 1 h rfl rfl rfl rfl rfl rfl rfl fun w h => ?_)
   replace h := h.drop
   replace h : St w0 (pt b2 (.cells hdZ.toArray 229 (0, 0)) :: l) w := h
   refine Ys ?_
   exact qk (bqS3 (l := hdZ) rfl rfl (qw (h.b 0 rfl) rfl) ⟨.inl ⟨by rw [hdef, if_pos (.inl g1)], rfl⟩, h.drop⟩)
  refine r_v (qr (v' := .bool false) (wo rfl rfl) O27) rfl ?_
  refine Y1e ?_
  refine r_v (qq (v := .iz ((min v0 65536 : Nat) : Int)) rfl (h.b 0 rfl) rfl) rfl ?_
  refine Yc ?_
  by_cases g2 : 65535 < v0
  ·refine r_v (qr (v' := .bool true) (ki rfl rfl) O27) rfl ?_
   refine Y9 ?_; refine Y19 ?_; refine Y4o ?_; refine Y1 ?_
   refine r_v (qc (r := hdZ) rfl) rfl ?_
   refine r_c rfl (qy (vs := hdZ) 1 h rfl rfl rfl rfl rfl rfl rfl fun w h => ?_)
   replace h := h.drop
   replace h : St w0 (pt b2 (.cells hdZ.toArray 229 (0, 0)) :: l) w := h
   refine Ys ?_
   exact qk (bqS3 (l := hdZ) rfl rfl (qw (h.b 0 rfl) rfl) ⟨.inl ⟨by rw [hdef, if_pos (.inr (.inl g2))], rfl⟩, h.drop⟩)
  refine r_v (qr (v' := .bool false) (ki rfl rfl) O27) rfl ?_
  refine Y9 ?_; refine Y1e ?_
  refine r_v (qq (v := .iz (sg (zagU v1))) rfl (h.b 0 rfl) rfl) rfl ?_
  refine Y4m ?_
  refine r_v (qq (v := .iz (sg (zagU v2))) rfl (h.b 0 rfl) rfl) rfl ?_
  refine Yc ?_; refine Y2j ?_; refine Y9 ?_
  refine qv (qi (decide (sg (zagU v1) > sg (zagU v2))) rfl (fun hc1 => ?_) (fun hc1 => ?_))
  ·refine Y1 ?_
   refine r_v (qc (r := hdZ) rfl) rfl ?_
   refine r_c rfl (qy (vs := hdZ) 1 h rfl rfl rfl rfl rfl rfl rfl fun w h => ?_)
   replace h := h.drop
   replace h : St w0 (pt b2 (.cells hdZ.toArray 229 (0, 0)) :: l) w := h
   refine Ys ?_
   exact qk (bqS3 (l := hdZ) rfl rfl (qw (h.b 0 rfl) rfl) ⟨.inl ⟨by rw [hdef, if_pos (.inr (.inr (by rw [decide_eq_true_eq] at hc1; exact hc1)))], rfl⟩, h.drop⟩)
  ·refine qa ⟨(), zz3, ?_, h⟩
   rw [decide_eq_false_iff_not] at hc1
   rintro (h | h | h)
   ·exact g1 h
   ·exact g2 h
   ·exact hc1 h
 clear h
 rintro _ w e ⟨hcond2, h⟩
 rw [if_neg hcond2] at hdef
 rw [show min v0 65536 = v0 by omega] at h
 refine Y1 ?_
 refine r_v (qx (l := hdC ⟨ch.toNat, v0, sg (zagU v1), sg (zagU v2)⟩) rfl rfl (qw (h.b 0 rfl) rfl)) rfl ?_
 refine Yj ?_
 refine r_c rfl (qy (vs := hdC ⟨ch.toNat, v0, sg (zagU v1), sg (zagU v2)⟩) 1 h rfl rfl rfl rfl rfl rfl rfl fun w h => ?_)
 replace h := h.drop
 replace h : St w0 (pt b2 (.cells (hdC ⟨ch.toNat, v0, sg (zagU v1), sg (zagU v2)⟩).toArray 229 (0, 0)) :: l) w := h
 refine Ys ?_
 exact qk (bqS3 (l := hdC ⟨ch.toNat, v0, sg (zagU v1), sg (zagU v2)⟩) rfl rfl (qw (h.b 0 rfl) rfl) ⟨.inr ⟨_, rest, ra, rc, hdef, rfl, hrc, O_o, O_d, O_d, hrr⟩, h.drop⟩)
theorem ll {sl : Option Addr} {c : Nat} {bs : List UInt8} (hn : bs.length <= 140737488355328) (hc : bs.length <= c) (hr : Reads w0 l 1 sl bs.length (bytesV bs)) (h : St w0 l w) :
  Ret prog 146 [.slice sl bs.length c] w fun v w' => v = .tuple [.agg ((((headDec bs).map fun q => hdC q.1).getD hdZ)).toArray, .bool (headDec bs).isSome].toArray ∧ St w0 l w' := by
 refine en func146 results146 ntmps146 ?_
 refine Y1 ?_
 refine r_c rfl (qp h fun b2 w h => ?_)
 refine Ya ?_; refine Ye ?_
 refine r_c rfl (qg rfl (s8 hn hc hr.cons h) ?_)
 rintro _ w ⟨(⟨hd0, rfl⟩ | ⟨hd, rest, ra, rc, hd0, rfl, hrc, hrl, hcnt, htag, hrr⟩), h⟩
 ·rw [hd0]
  refine Y2o ?_
  refine r_c rfl (qp h fun b4 w h => ?_)
  refine r_c rfl (qy (vs := hdZ) 0 h rfl rfl rfl rfl rfl rfl rfl fun w h => ?_)
  replace h : St w0 (pt b4 (.cells hdZ.toArray 229 (0, 0)) :: pt b2 (.cells hdZ.toArray 229 (0, 0)) :: l) w := h
  refine Ys ?_; refine Y1 ?_
  refine r_v (qx (l := hdZ) rfl rfl (qw (h.b 0 rfl) rfl)) rfl ?_
  refine Y1p ?_
  refine r_c rfl (qy (vs := hdZ) 1 h rfl rfl rfl rfl rfl rfl rfl fun w h => ?_)
  replace h := h.drop
  replace h : St w0 (pt b2 (.cells hdZ.toArray 229 (0, 0)) :: l) w := h
  refine Ya ?_
  exact qk (bqS2 (l := hdZ) rfl rfl (qw (h.b 0 rfl) rfl) ⟨rfl, h.drop⟩)
 ·rw [hd0]
  refine Y2o ?_
  refine r_c rfl (qp h fun b4 w h => ?_)
  refine r_c rfl (qy (vs := hdC hd) 0 h rfl rfl rfl rfl rfl rfl rfl fun w h => ?_)
  replace h : St w0 (pt b4 (.cells (hdC hd).toArray 229 (0, 0)) :: pt b2 (.cells hdZ.toArray 229 (0, 0)) :: l) w := h
  refine Ys ?_; refine Y1 ?_
  refine r_v (qx (l := hdC hd) rfl rfl (qw (h.b 0 rfl) rfl)) rfl ?_
  refine Y1p ?_
  refine r_c rfl (qy (vs := hdC hd) 1 h rfl rfl rfl rfl rfl rfl rfl fun w h => ?_)
  replace h := h.drop
  replace h : St w0 (pt b2 (.cells (hdC hd).toArray 229 (0, 0)) :: l) w := h
  refine Ya ?_
  exact qk (bqS2 (l := hdC hd) rfl rfl (qw (h.b 0 rfl) rfl) ⟨rfl, h.drop⟩)
def TagOk (bs : List UInt8) : Prop := ∀ x, headDec bs = some x -> ReadOk (x.1.tag : Int) ∧ ValOk (x.1.tag : Int)
theorem oi (hT : Tz w0) {sl : Option Addr} {c : Nat} {bs : List UInt8} (hV : TagOk bs) (hn : bs.length <= 140737488355328) (hc : bs.length <= c) (hr : Reads w0 l 1 sl bs.length (bytesV bs)) (h : St w0 l w) :
  Ret prog 141 [.slice sl bs.length c] w fun v w' => ∃ a c', v = .tuple [.slice a (((chOpen bs).map Prod.fst).getD []).length c', .iz ((((chOpen bs).map Prod.snd).getD 0 : Nat) : Int), .bool (chOpen bs).isSome].toArray ∧ (∀ L t, chOpen bs = some (L, t) -> L.length <= 65535 ∧ ∀ s ∈ L, s.Wf) ∧ St w0 (OwnS a c' (((chOpen bs).map Prod.fst).getD []) :: l) w' := by
 have bad : ∀ {w : World}, chOpen bs = none -> St w0 l w -> ∃ a c', Value.tuple [.slice none 0 0, .iz 0, .bool false].toArray = .tuple [.slice a (((chOpen bs).map Prod.fst).getD []).length c', .iz ((((chOpen bs).map Prod.snd).getD 0 : Nat) : Int), .bool (chOpen bs).isSome].toArray ∧ (∀ L t, chOpen bs = some (L, t) -> L.length <= 65535 ∧ ∀ s ∈ L, s.Wf) ∧ St w0 (OwnS a c' (((chOpen bs).map Prod.fst).getD []) :: l) w := fun hb h => by
  rw [hb]
  exact ⟨none, 0, rfl, (fun _ _ h => by cases h), St.ownNil _ _ h⟩
 have hdef : chOpen bs = _ := rfl
 conv at hdef => rhs; unfold chOpen
 refine en func141 results141 ntmps141 ?_
 refine Y1b ?_; refine Y1n ?_; refine Ye ?_
 refine r_c rfl (qg rfl (s8 hn hc hr h) ?_)
 clear h
 rintro _ w ⟨(⟨hd0, rfl⟩ | ⟨hd, rest, ra, rc, hd0, rfl, hrc, hrl, hcnt, htag, hrr⟩), h⟩
 ·rw [hd0] at hdef
  refine Y2o ?_
  refine r_c rfl (qp h fun b5 w h => ?_)
  refine r_c rfl (qy (vs := hdZ) 0 h rfl rfl rfl rfl rfl rfl rfl fun w h => ?_)
  replace h := h.drop
  refine Ys ?_; refine Y1h ?_; refine Y2f ?_; refine Y1s ?_; refine Y1b ?_; refine Y1n ?_
  exact qk (bq3 (bad hdef h))
 rw [hd0] at hdef
 dsimp only at hdef
 refine Y2o ?_
 refine r_c rfl (qp h fun b5 w h => ?_)
 refine r_c rfl (qy (vs := hdC hd) 0 h rfl rfl rfl rfl rfl rfl rfl fun w h => ?_)
 replace h : St w0 (pt b5 (.cells (hdC hd).toArray 229 (0, 0)) :: l) w := h
 refine Ys ?_; refine Y1h ?_; refine Y3a ?_; refine Y15 ?_; refine Yc ?_; refine Y1u ?_; refine Y9 ?_
 refine qv (qi (decide ((rest.length : Int) < 4)) rfl (fun hc1 => ?_) (fun hc1 => ?_))
 ·refine Y1b ?_; refine Y1n ?_
  exact qk (bq3 (bad (by rw [hdef, if_pos (by simp at hc1; omega)]) h.drop))
 have hr4 : 4 <= rest.length := by simp at hc1; omega
 rw [if_neg O0] at hdef
 refine Yl ?_
 have hrh := hrr.head (i := rest.length - 4) O0
 have htl : (rest.take (rest.length - 4)).length = rest.length - 4 := by rw [Us]; omega
 have hrh' : Reads w0 l 1 ra (rest.take (rest.length - 4)).length (bytesV (rest.take (rest.length - 4))) := by
  rw [htl]
  have : bytesV (rest.take (rest.length - 4)) = (bytesV rest).take ((rest.length - 4) * 1) := by unfold bytesV; rw [List.map_take, Nat.mul_one]
  rw [this]
  exact hrh
 generalize hP : rest.take (rest.length - 4) = P at hdef htl hrh'
 refine qt (Γ := Option Addr × Nat) (fun q => [(0, .slice sl bs.length c), (5, .pz b5), (8, .slice q.1 ((suitDec hd.tag P hd.count).getD []).length q.2), (9, .bool (suitDec hd.tag P hd.count).isSome)])
  (fun q w => (∀ L, suitDec hd.tag P hd.count = some L -> (L.length : Int) = hd.count ∧ ∀ s ∈ L, s.Wf) ∧ St w0 (OwnS q.1 q.2 ((suitDec hd.tag P hd.count).getD []) :: pt b5 (.cells (hdC hd).toArray 229 (0, 0)) :: l) w) ?_ ?_
 ·refine jm [0, 1, 2, 3, 4, 5, 6, 7, 8, 9, 10, 11, 13, 12, 14] none (fun w => w.heap[b5]? = some (.cells (hdC hd).toArray 229 (0, 0))) O1 O1 ?_
  replace h := h.drew
  generalize w.drew = w at h
  have hs := h
  replace h := hs.b 0 rfl
  refine Yv ?_
  refine qj rfl rfl rfl rfl h (fun w h => qh rfl (qq (v := .iz (hd.tag : Int)) rfl h rfl)) ?_
  refine Y1x ?_; refine Y1x ?_; refine Y2x ?_
  refine cpv rfl rfl rfl rfl h rfl (qr (v' := .iz ((rest.length - 4 : Nat) : Int)) (vi rfl rfl) O9) ?_
  refine cpv rfl rfl rfl rfl h rfl (qr (v' := .slice ra P.length rc) (kz (h := rest.length - 4) rfl rfl O0) (by rw [htl])) ?_
  refine Yv ?_
  refine qj rfl rfl rfl rfl h (fun w h => qh rfl (qq (v := .iz (hd.count : Int)) rfl h rfl)) ?_
  refine Y2q ?_
  refine qd 9 rfl rfl rfl rfl ?_
  refine (qg rfl (ny hT (hV _ hd0).2 (hV _ hd0).1 (hd.count : Int) O0 O0 (hrh'.more [_]) hs) ?_)
  rintro _ w ⟨da, dc, rfl, hM, hs⟩
  replace h := hs.b 1 rfl
  refine ⟨fun _ => h, ?_⟩
  refine Y29 ?_; refine Y1y ?_; refine Y1d ?_
  exact qn ⟨(da, dc), zz4, hM, hs⟩
 clear h
 rintro ⟨da, dc⟩ w e ⟨hM, h⟩
 dsimp only at h ⊢
 refine Y1h ?_
 cases hD : suitDec hd.tag P hd.count with
 | none =>
  rw [hD] at hdef
  refine Yd ?_; refine Y1b ?_; refine Y1n ?_
  exact qk (bq3 (bad hdef h.drop.drop))
 | some M =>
 rw [hD] at hdef h
 obtain ⟨hMl, hMw⟩ := hM M hD
 have hM16 : M.length <= 65535 := by omega
 dsimp only at hdef
 refine Yb ?_
 replace h : St w0 (OwnS da dc M :: pt b5 (.cells (hdC hd).toArray 229 (0, 0)) :: l) w := h
 refine Y26 ?_
 refine r_v (qq (v := .iz (hd.tag : Int)) rfl (h.b 1 rfl) rfl) rfl ?_
 refine Yj ?_
 refine r_c rfl (qg rfl (di hT (hV _ hd0).2 (L := M) hMw O0 Reads.own h) ?_)
 rintro _ w ⟨ea, ec, rfl, h⟩
 refine Y28 ?_
 refine qt (Γ := Unit) (fun _ => [(5, .pz b5), (8, .slice da M.length dc)]) (fun _ w => chMake (hd.tag : Int) M = some bs ∧ St w0 (OwnS da dc M :: pt b5 (.cells (hdC hd).toArray 229 (0, 0)) :: l) w) ?_ ?_
 ·refine Y1 ?_
  cases hE : chMake (hd.tag : Int) M with
  | none =>
   refine Y1g ?_; refine Y19 ?_; refine Y1s ?_; refine Y1b ?_; refine Y1n ?_
   exact qk (bq3 (bad (by rw [hdef, if_neg (by rw [hE]; simp)]) h.drop.drop.drop))
  | some d =>
   rw [hE] at h
   refine Y1g ?_; refine Y3a ?_; refine Y3w ?_
   refine r_c rfl (qg rfl (x9 (b1 := d) (b2 := bs) h (fun w' h' => h'.own_rd) (hr.more [_, _, _]).rd) ?_)
   rintro _ w ⟨rfl, h⟩
   refine Y3u ?_
   refine qv (qi (!decide (d = bs)) rfl (fun hc2 => ?_) (fun hc2 => ?_))
   ·refine Y1b ?_; refine Y1n ?_
    exact qk (bq3 (bad (by rw [hdef, if_neg (by rw [hE]; simpa using hc2)]) h.drop.drop.drop))
   ·exact qa ⟨(), zz2, by simpa using hc2, h.drop⟩
 clear h
 rintro _ w e ⟨hE, h⟩
 rw [if_pos hE] at hdef
 rw [hdef]
 refine qf (vo [0, 2, 3, 1, 4, 5] none (fun w => St w0 _ w) O1 O1 h.drew fun w h => ?_)
 refine Y1x ?_; refine Yv ?_
 refine qj rfl rfl rfl rfl h (fun w h => qh rfl (qq (v := .iz (hd.tag : Int)) rfl (h.b 1 rfl) rfl)) ?_
 refine Y1y ?_; refine Y2s ?_; refine Y1d ?_
 refine qn ?_
 refine qk (bq3 ⟨da, dc, rfl, fun L t hh => ?_, (h.f 1).drop⟩)
 cases hh
 exact ⟨hM16, hMw⟩
end
end
section
instance eqiSmp : EqI prog 57 [.i64, .u64] := ⟨⟨_, underlying57, by kernel_rfl⟩, by kernel_rfl, by kernel_rfl⟩
section
variable {w0 w : World} {l : List HProp}
theorem ref10_Same {a1 a2 : Option Addr} {n1 n2 c1 c2 : Nat} {L1 L2 : List Smp} (h : St w0 l w) (hr1 : ∀ w', St w0 l w' -> Rd w' 2 a1 n1 (smpsV L1)) (hr2 : ∀ w', St w0 l w' -> Rd w' 2 a2 n2 (smpsV L2)) (hn : n1 < 9223372036854775807) :
  Ret prog 44 [.slice a1 n1 c1, .slice a2 n2 c2] w fun v w' => v = .bool (decide (L1 = L2)) ∧ St w0 l w' := by
 have hl1 : L1.length = n1 := (hr1 w h).count j5 O2
 have hl2 : L2.length = n2 := (hr2 w h).count j5 O2
 refine en func44 results44 ntmps44 ?_
 refine Y12 ?_; refine Y25 ?_; refine Y17 ?_; refine Y1q ?_; refine Y2 ?_
 refine qi _ rfl (fun hc => ?_) (fun hc => ?_)
 ·
  refine Y12 ?_
  refine qk (bq1 ⟨?_, h⟩)
  have : L1 ≠ L2 := by
   rintro rfl
   simp at hc
   omega
  show Value.bool false = _
  rw [decide_eq_false this]
 have hnn : n1 = n2 := by simp at hc; omega
 subst hnn
 refine Yl ?_; refine qf ?_; refine Y4d ?_
 refine jx (Γ := Nat) (fun k => [(0, .slice a1 n1 c1), (1, .slice a2 n1 c2), (5, .iz k)]) (fun k w => k <= n1 ∧ L1.take k = L2.take k ∧ St w0 l w) (fun k => n1 - k) 0 zz3 ⟨Ud _, by simp, h⟩ ?_
 clear h
 rintro k w e ⟨hk, hpre, h⟩
 refine Y1w ?_; refine Y17 ?_; refine Y1u ?_; refine Y2 ?_
 refine qi (decide ((k : Int) < (n1 : Int))) rfl (fun hc => ?_) (fun hc => ?_)
 ·
  have hkn : k < n1 := by simp at hc; omega
  obtain ⟨b1, o1, rfl⟩ := (hr1 w h).some O0
  obtain ⟨b2, o2, rfl⟩ := (hr2 w h).some O0
  have hg1 := Uc (show k < L1.length by omega)
  have hg2 := Uc (show k < L2.length by omega)
  generalize L1[k] = s1 at hg1
  generalize L2[k] = s2 at hg2
  refine Y1z ?_
  refine qf (jh none (fun w => St w0 _ w) O1 O1 h.drew fun w h => ?_)
  refine Y2i ?_
  refine cpv rfl rfl rfl rfl h rfl (jb rfl rfl rfl hkn rfl) ?_
  refine qj rfl rfl rfl rfl h (fun w h => qh rfl (qx (l := s1.cells) rfl rfl ((hr1 w h).elem j5 hg1))) ?_
  refine Y2i ?_
  refine cpv rfl rfl rfl rfl h rfl (jb rfl rfl rfl hkn rfl) ?_
  refine qj rfl rfl rfl rfl h (fun w h => qh rfl (qx (l := s2.cells) rfl rfl ((hr2 w h).elem j5 hg2))) ?_
  refine cpv rfl rfl rfl rfl h rfl (q_neI [s1.T, s1.V] [s2.T, s2.V] rfl rfl rfl rfl) ?_
  refine qn ?_
  refine qi _ rfl (fun hc => ?_) (fun hc => ?_)
  ·
   refine Y12 ?_
   refine qk (bq1 ⟨?_, h⟩)
   have : L1 ≠ L2 := by
    rintro rfl
    rw [hg1] at hg2
    cases hg2
    simp at hc
   show Value.bool false = _
   rw [decide_eq_false this]
  ·have hss : s1 = s2 := by
    obtain ⟨T1, V1⟩ := s1
    obtain ⟨T2, V2⟩ := s2
    simp at hc
    simp [hc.1, hc.2]
   subst hss
   refine Yl ?_; refine Y2z ?_
   refine qz (.iz ((k + 1 : Nat) : Int)) O7 ?_
   refine Y6 ?_
   refine qv ⟨k + 1, zz3, ⟨O_o, ?_, h⟩, O_o⟩
   rw [Vl, Vl, hpre, hg1, hg2]
 have hkn : k = n1 := by simp at hc; omega
 subst hkn
 refine ju ?_
 refine Y12 ?_
 refine qk (bq1 ⟨?_, h⟩)
 have : L1 = L2 := by
  rw [Uv O0, Uv O0] at hpre
  exact hpre
 show Value.bool true = _
 rw [decide_eq_true this]
end
end
end Go.Proofs.YtngdfdangkdgcaaGreatDoor
namespace Go.Hw
section
end
end Go.Hw
namespace Go.Proofs.YtngdfdangkdgcaaGreatDoor
open Go.Hw _root_.Go.Proofs.Tryz
section
instance eqiHead : EqI prog 229 [.i64, .i64, .i64, .i64] := ⟨⟨_, underlying229, by kernel_rfl⟩, by kernel_rfl, by kernel_rfl⟩
theorem chMake_len2 {tag : Int} {L : List Smp} {b : List UInt8} (hw : ∀ s ∈ L, s.Wf) (h : chMake tag L = some b) : b.length <= 4000000 := by
 obtain ⟨x, hx, _, he⟩ := chMake_some h
 have h1 := suitEnc_len (tag := tag) hw
 rw [hx] at h1
 have h2 : x.length <= 3000000 := h1
 have := chBody_len tag L x
 rw [he, Ua, be4_len]
 omega
section
variable {w0 w : World} {l : List HProp}
end
end
end Go.Proofs.YtngdfdangkdgcaaGreatDoor
namespace Go.Hw
section
def clampN (n : Int) : Int := min (max n 1) 65535
theorem clampN_le (n : Int) : 1 <= clampN n ∧ clampN n <= 65535 := by unfold clampN; omega
structure WkS where
 bg : Bool
 ov : Bool
 lf : Int
 bad : Bool
def WkS.step (s : WkS) (n : Int) : WkS := ⟨s.bg, s.ov || decide (s.lf - clampN n <= 0), if s.ov then s.lf else s.lf - clampN n, s.bad⟩
def WkS.more (s : WkS) (n : Int) : Bool := !s.ov && !decide (s.lf - clampN n <= 0)
def paceC (s : WkS) (rest : List Value) : List Value := .bool s.bg :: .bool s.ov :: .iz s.lf :: rest
def decC (s : WkS) (ba : Option Addr) (m bc : Nat) (la : Option Addr) (n lc : Nat) : List Value := paceC s [.slice ba m bc, .slice la n lc, .bool s.bad]
end
end Go.Hw
namespace Go.Proofs.YtngdfdangkdgcaaGreatDoor
open Go.Hw _root_.Go.Proofs.Tryz
section
section
variable {w0 w : World} {l : List HProp}
theorem uj {sl : Option Addr} {c : Nat} {L : List Smp} (h : St w0 l w) (hr : Reads w0 l 2 sl L.length (smpsV L)) (hn : L.length <= 1073741824) :
  Ret prog 43 [.slice sl L.length c] w fun v w' => ∃ a c', v = .slice a L.length c' ∧ St w0 (OwnS a c' L :: l) w' := by
 refine en func43 results43 ntmps43 ?_
 refine Y2b ?_; refine Ye ?_
 refine r_v (ui rfl rfl) rfl ?_
 refine qv (qi sl.isNone rfl (fun hs => ?_) (fun hs => ?_))
 ·refine Y1b ?_
  obtain rfl : sl = none := by simpa using hs
  obtain ⟨h3, h4⟩ := hr.at_ h
  have h5 : L.length = 0 := by rcases h4 with h | ⟨b, o, h, _⟩; exact h; cases h
  obtain rfl : L = [] := Un h5
  exact qv (qk (bq1 ⟨none, 0, rfl, St.ownNil _ _ h⟩))
 ·refine Yl ?_; refine Y1 ?_
  refine r_c rfl (jg (r := []) h rfl rfl rfl fun b w h => ?_)
  refine Yj ?_
  have h1 : St w0 (Own 57 2 (sQ b) 0 0 [] :: l) w := St.own_mk (cur := []) h rfl rfl (Ug _)
  refine r_c rfl (q9 (zs := smpsV L) (m3 := L.length) h1 rfl rfl (hr.at_ h1.drop) (jt _) O0 (Up _) O0 O0 rfl fun a c' w hn h => ?_)
  refine Yo ?_
  exact qv (qk (bq1 ⟨a, c', rfl, h⟩))
theorem s9 {p : Nat} {s : WkS} {rest : List Value} {T : TypeId} (n : Int) (hlf : -200000 <= s.lf ∧ s.lf <= 200000) (h : St w0 (pt p (.cells (paceC s rest).toArray T (0, 0)) :: l) w) :
  Ret prog 142 [.pz p, .iz n] w fun v w' => v = .bool (s.more n) ∧ St w0 (pt p (.cells (paceC (s.step n) rest).toArray T (0, 0)) :: l) w' := by
 obtain ⟨h1, h2⟩ := hlf
 obtain ⟨hc1, hc2⟩ := clampN_le n
 obtain ⟨bg, ov, lf, bd⟩ := s
 dsimp only at h1 h2
 refine en func142 results142 ntmps142 ?_
 refine Y12 ?_; refine Y2n ?_
 refine r_v (qq (v := .bool ov) rfl (h.b 0 rfl) rfl) rfl ?_
 refine Y2 ?_
 cases ov with
 | true =>
  refine Y1k ?_; refine Y12 ?_
  exact qk (bq1 ⟨rfl, h⟩)
 | false =>
  refine Y1r ?_; refine Y5 ?_
  refine r_v (qq (v := .iz lf) rfl (h.b 0 rfl) rfl) rfl ?_
  refine Y0 ?_; refine Y4z ?_
  refine qz (.iz (clampN n)) (by unfold clampN; rfl) ?_
  refine Y1l ?_
  refine qz (.iz (lf - clampN n)) O11 ?_
  refine Yi ?_
  refine r_c rfl (qb 0 h rfl (show _ = Value.iz (lf - clampN n) from rfl) rfl rfl rfl rfl fun w h => ?_)
  replace h : St w0 (pt p (.cells (.bool bg :: .bool false :: .iz (lf - clampN n) :: rest).toArray T (0, 0)) :: l) w := h
  refine Y2 ?_; refine Y2p ?_
  refine r_v (qq (v := .iz (lf - clampN n)) rfl (h.b 0 rfl) rfl) rfl ?_
  refine Y3v ?_; refine Yi ?_
  refine r_c rfl (qb 0 h rfl (show _ = Value.bool (decide (lf - clampN n <= 0)) from rfl) rfl rfl rfl rfl fun w h => ?_)
  replace h : St w0 (pt p (.cells (.bool bg :: .bool (decide (lf - clampN n <= 0)) :: .iz (lf - clampN n) :: rest).toArray T (0, 0)) :: l) w := h
  refine Y2 ?_; refine Y5 ?_
  refine r_v (qq (v := .bool (decide (lf - clampN n <= 0))) rfl (h.b 0 rfl) rfl) rfl ?_
  refine Yx ?_; refine Ya ?_
  exact qk (bq1 ⟨rfl, h⟩)
abbrev DecPt (p : Nat) (s : WkS) (ba : Option Addr) (m bc : Nat) (la : Option Addr) (n lc : Nat) : HProp := pt p (.cells (decC s ba m bc la n lc).toArray 222 (0, 0))
theorem wk {sl : Option Addr} {c : Nat} {bs : List UInt8} (hn : bs.length <= 140737488355328) (hr : Reads w0 l 1 sl bs.length (bytesV bs)) (h : St w0 l w) :
  Ret prog 140 [.slice sl bs.length c] w fun v w' => ∃ p ba bc, v = .pz p ∧ St w0 (DecPt p ⟨false, false, 0, false⟩ ba bs.length bc none 0 0 :: OwnB ba bc bs :: l) w' := by
 refine en func140 results140 ntmps140 ?_
 refine Y3k ?_; refine Ye ?_
 refine r_c rfl (qg rfl (uh h hr.rd hn) ?_)
 rintro _ w ⟨ba, bc, rfl, h⟩
 refine r_v (qc (r := decC ⟨false, false, 0, false⟩ ba bs.length bc none 0 0) rfl) rfl ?_
 refine r_c rfl (jv h (show _ = Value.agg (decC ⟨false, false, 0, false⟩ ba bs.length bc none 0 0).toArray from rfl) fun p w h => ?_)
 refine Y3g ?_
 exact qk (bq1 ⟨p, ba, bc, rfl, h⟩)
def decL (bs : List UInt8) : List Smp := ((chOpen bs).map Prod.fst).getD []
def decBegin (bs : List UInt8) : WkS := ⟨true, false, (decL bs).length, !(chOpen bs).isSome⟩
theorem ol (hT : Tz w0) {p : Nat} {ba : Option Addr} {bc : Nat} {bs : List UInt8} (n : Int) (hV : TagOk bs) (hn : bs.length <= 140737488355328) (h : St w0 (DecPt p ⟨false, false, 0, false⟩ ba bs.length bc none 0 0 :: OwnB ba bc bs :: l) w) :
  Ret prog 123 [.pz p, .iz n] w fun v w' => ∃ la lc, v = .bool ((decBegin bs).more n) ∧ (decL bs).length <= 65535 ∧ St w0 (DecPt p ((decBegin bs).step n) ba bs.length bc la (decL bs).length lc :: OwnS la lc (decL bs) :: OwnB ba bc bs :: l) w' := by
 have hbc := (h.f 1).own_cases.2.1
 refine en func123 results123 ntmps123 ?_
 refine Y12 ?_
 refine qt (Γ := Option Addr × Nat) (fun _ => [(0, .pz p), (1, .iz n)]) (fun q w => (decL bs).length <= 65535 ∧ St w0 (DecPt p (decBegin bs) ba bs.length bc q.1 (decL bs).length q.2 :: OwnS q.1 q.2 (decL bs) :: OwnB ba bc bs :: l) w) ?_ ?_
 ·refine Y3o ?_
  refine r_v (qq (v := .bool false) rfl (h.b 0 rfl) rfl) rfl ?_
  refine Yx ?_; refine Yd ?_; refine Y5 ?_
  refine r_v (qq (v := .slice ba bs.length bc) rfl (h.b 0 rfl) rfl) rfl ?_
  refine r_c rfl (qg rfl (oi hT hV hn hbc Reads.own.cons h) ?_)
  rintro _ w ⟨oa, oc, rfl, hwf, h⟩
  have hl16 : (decL bs).length <= 65535 := by
   unfold decL
   cases hO : chOpen bs with
   | none => exact Ud _
   | some q => obtain ⟨M, t⟩ := q; exact (hwf M t hO).1
  replace h : St w0 (OwnS oa oc (decL bs) :: DecPt p ⟨false, false, 0, false⟩ ba bs.length bc none 0 0 :: OwnB ba bc bs :: l) w := h
  show Rn _ _ _ _ _ (upd _ _ (.tuple [.slice oa (decL bs).length oc, .iz _, .bool (chOpen bs).isSome].toArray)) _
  refine Y2o ?_; refine Yo ?_; refine Y1n ?_; refine Y2u ?_; refine Y22 ?_; refine Y22 ?_; refine Y22 ?_; refine Yj ?_; refine Y1g ?_; refine Y17 ?_; refine Yi ?_; refine Yk ?_
  refine r_c rfl (qb 1 h rfl (show _ = Value.bool true from rfl) rfl rfl rfl rfl fun w h => ?_)
  refine Yi ?_
  refine r_c rfl (qb 1 h rfl (show _ = Value.slice oa (decL bs).length oc from rfl) rfl rfl rfl rfl fun w h => ?_)
  refine Yi ?_
  refine r_c rfl (qb 1 h rfl (show _ = Value.bool (!(chOpen bs).isSome) from rfl) rfl rfl rfl rfl fun w h => ?_)
  refine Yi ?_; refine Yk ?_
  refine r_c rfl (qb 1 h rfl (show _ = Value.iz ((decL bs).length : Int) from rfl) rfl rfl rfl rfl fun w h => ?_)
  replace h : St w0 (OwnS oa oc (decL bs) :: DecPt p (decBegin bs) ba bs.length bc oa (decL bs).length oc :: OwnB ba bc bs :: l) w := h
  exact qv ⟨(oa, oc), zz2, hl16, h.f 1⟩
 clear h
 rintro ⟨la, lc⟩ w e ⟨hl16, h⟩
 dsimp only at h ⊢
 refine Y5 ?_; refine Y0 ?_
 refine r_c rfl (qg rfl (s9 (s := decBegin bs) n (by unfold decBegin; dsimp only; omega) h) ?_)
 rintro _ w ⟨rfl, h⟩
 refine Ya ?_
 exact qk (bq1 ⟨la, lc, rfl, hl16, h⟩)
theorem qqr {p : Nat} {s : WkS} {ba : Option Addr} {bm bc : Nat} {la : Option Addr} {m lc : Nat} (n : Int) (hb : s.bg = true) (hlf : -200000 <= s.lf ∧ s.lf <= 200000) (h : St w0 (DecPt p s ba bm bc la m lc :: l) w) :
  Ret prog 123 [.pz p, .iz n] w fun v w' => v = .bool (s.more n) ∧ St w0 (DecPt p (s.step n) ba bm bc la m lc :: l) w' := by
 refine en func123 results123 ntmps123 ?_
 refine Y12 ?_; refine Y2n ?_; refine Yk ?_
 refine r_v (qq (v := .bool s.bg) rfl (h.b 0 rfl) rfl) rfl ?_
 rw [hb]
 refine Y41 ?_; refine Y5 ?_; refine Y0 ?_
 refine r_c rfl (qg rfl (s9 (s := s) n hlf h) ?_)
 rintro _ w ⟨rfl, h⟩
 refine Ya ?_
 exact qk (bq1 ⟨rfl, h⟩)
theorem qq0 {p : Nat} {s : WkS} {ba : Option Addr} {bm bc : Nat} {la : Option Addr} {lc : Nat} {L : List Smp} (hn : L.length <= 1073741824) (hr : Reads w0 (DecPt p s ba bm bc la L.length lc :: l) 2 la L.length (smpsV L)) (h : St w0 (DecPt p s ba bm bc la L.length lc :: l) w) :
  Ret prog 143 [.pz p] w fun v w' => ∃ a c, v = .tuple [.slice a (if s.ov = true ∧ s.bad = false then L else []).length c, .bool (s.ov && !s.bad)].toArray ∧ St w0 (OwnS a c (if s.ov = true ∧ s.bad = false then L else []) :: DecPt p s ba bm bc la L.length lc :: l) w' := by
 obtain ⟨bg, ov, lf, bd⟩ := s
 dsimp only
 refine en func143 results143 ntmps143 ?_
 refine Yu ?_; refine Y2n ?_; refine Yk ?_
 refine r_v (qq (v := .bool ov) rfl (h.b 0 rfl) rfl) rfl ?_
 cases ov with
 | false =>
  refine Yx ?_; refine Y19 ?_; refine Y1s ?_; refine Yu ?_
  rw [if_neg O8]
  exact qk (bq2 ⟨none, 0, rfl, St.ownNil _ _ h⟩)
 | true =>
  refine Yx ?_; refine Y32 ?_
  refine r_v (qq (v := .bool bd) rfl (h.b 0 rfl) rfl) rfl ?_
  refine Y9 ?_
  cases bd with
  | true =>
   refine Y4b ?_
   rw [if_neg O8]
   exact qk (bq2 ⟨none, 0, rfl, St.ownNil _ _ h⟩)
  | false =>
   refine Yb ?_; refine Y5 ?_
   refine r_v (qq (v := .slice la L.length lc) rfl (h.b 0 rfl) rfl) rfl ?_
   refine r_c rfl (qg rfl (uj h hr hn) ?_)
   rintro _ w ⟨a, c, rfl, h⟩
   refine Ys ?_
   rw [if_pos ⟨rfl, rfl⟩]
   exact qk (bq2 ⟨a, c, rfl, h⟩)
end
end
end Go.Proofs.YtngdfdangkdgcaaGreatDoor
namespace Go.Hw
section
structure Cac where
 clk : Clk
 rows : List (Key3 × List Smp)
def Clk.page (q : Clk) (k : Key3) : Option Pg := (q.find k).bind fun i => q.pages[i]?
theorem St.vmap_none {w0 w : World} {l : List HProp} {κ α γ : Type} [DecidableEq κ] {kv : κ -> Value} {vf : γ × α -> Value} {R : γ -> α -> HProp} {b : Nat} {m : List (κ × α)} {k : κ} {p : Prop} (h : St w0 (VMap kv b vf R m :: l) w) (hk : mget k m = none)
  (kk : ∀ ps, IsMap kv w b ps -> mget k ps = none -> p) : p := by
 obtain ⟨mm, hmm, h0⟩ := St.vmap.1 h
 subst hmm
 have hk' := (gj (fun p : γ × α => p.2) k mm).symm.trans hk
 refine kk _ h0.isMap ?_
 rw [gj (fun p : γ × α => vf p) k mm]
 rw [Option.map_eq_none_iff] at hk' ⊢
 exact hk'
namespace Cac
def new (n : Int) : Cac := ⟨Clk.new n, []⟩
def get (C : Cac) (k : Key3) : Cac × Option (List Smp) := if (C.clk.touch k).2 then (⟨(C.clk.touch k).1, C.rows⟩, some ((mget k C.rows).getD [])) else (C, none)
def dels (m : List (Key3 × List Smp)) (ks : List Key3) : List (Key3 × List Smp) := ks.foldl (fun m x => mdel x m) m
def put (C : Cac) (k : Key3) (L : List Smp) : Cac × Bool := if (C.clk.lets k).2.2 then (⟨(C.clk.lets k).1, mset k L (dels C.rows (C.clk.lets k).2.1)⟩, true) else (C, false)
def pinN (C : Cac) (k : Key3) (n : Int) : Cac × Bool := if (C.clk.pin k n).2 then (⟨(C.clk.pin k n).1, C.rows⟩, true) else (C, false)
def unpin (C : Cac) (k : Key3) : Cac × Bool := match C.clk.page k with
 | some p => if 0 < p.pins then C.pinN k (-1) else (C, false)
 | none => (C, false)
def drop (C : Cac) (k : Key3) : Cac × Bool := match C.clk.page k with
 | some p => if 0 < p.pins then (C, false) else (⟨(C.clk.drop k).1, mdel k C.rows⟩, true)
 | none => (C, false)
structure Ok (C : Cac) : Prop where
 wf : C.clk.Wf
 len : C.clk.pages.length <= 100000
 res : (C.clk.count Pg.resident : Int) <= C.clk.most
 pins : ∀ p ∈ C.clk.pages, 0 <= p.pins ∧ p.pins <= 1099511627776
 rows : ∀ k L, mget k C.rows = some L -> L.length <= 1073741824
end Cac
end
end Go.Hw
namespace Go.Proofs.YtngdfdangkdgcaaGreatDoor
open Go.Hw _root_.Go.Proofs.Tryz
section
instance mkKey : MK prog 51 Key3 (fun k => .agg k.C.toArray) :=
 MK.ints (P := prog) (kt := 51) (ks := [.i64, .i64, .i64]) eqiKey (fun k : Key3 => [k.series, k.life, k.blob]) (fun _ => rfl) (fun a b h => by obtain ⟨_, _, _⟩ := a; obtain ⟨_, _, _⟩ := b; simpa using h) (fun e w k => by kernel_rfl)
abbrev rowF (x : (Option Addr × Nat) × List Smp) : Value := .slice x.1.1 x.2.length x.1.2
abbrev rowR (y : Option Addr × Nat) (L : List Smp) : HProp := OwnS y.1 y.2 L
abbrev CaPt (p : Nat) (a : Option Addr) (c m : Nat) (q : Clk) : HProp := pt p (.cells (q.C a c ++ [Value.map (some m)]).toArray 110 (0, 0))
abbrev RwMap (m : Nat) (rows : List (Key3 × List Smp)) : HProp := VMap (fun k : Key3 => .agg k.C.toArray) m rowF rowR rows
def IsCache (p : Nat) (C : Cac) : HProp := ex fun x : (Option Addr × Nat) × Nat => all [CaPt p x.1.1 x.1.2 x.2 C.clk, OwnPg x.1.1 x.1.2 C.clk.pages, RwMap x.2 C.rows]
section
variable {w0 w : World} {l : List HProp} {p : Nat} {C : Cac}
theorem St.cac : St w0 (IsCache p C :: l) w ↔ ∃ a c m, St w0 (CaPt p a c m C.clk :: OwnPg a c C.clk.pages :: RwMap m C.rows :: l) w := by
 unfold IsCache
 rw [St.ex]
 exact ⟨fun ⟨x, h⟩ => ⟨x.1.1, x.1.2, x.2, h.join⟩, fun ⟨a, c, m, h⟩ => ⟨((a, c), m), St.fold [_, _, _] h⟩⟩
theorem cac_reads {b a c m} {q : Clk} {M : List HProp} : Reads w0 (CaPt b a c m q :: OwnPg a c q.pages :: M) 7 a q.pages.length (pgsV q.pages) := Reads.own.cons
theorem qq1 (n : Int) (h : St w0 l w) : Ret prog 32 [.iz n] w fun v w' => ∃ p, v = .pz p ∧ St w0 (IsCache p (Cac.new n) :: l) w' := by
 refine en func32 results32 ntmps32 ?_
 refine Y3k ?_; refine Y8 ?_
 refine r_c rfl (qg rfl (qqo n h) ?_)
 clear h
 rintro _ w ⟨rfl, h⟩
 refine r_c rfl (qgg (fun k : Key3 => .agg k.C.toArray) rowF rowR h fun m w h => ?_)
 refine r_v (qc (r := (Clk.new n).C none 0 ++ [Value.map (some m)]) rfl) rfl ?_
 refine r_c rfl (jv h (show _ = Value.agg ((Clk.new n).C none 0 ++ [Value.map (some m)]).toArray from rfl) fun p w h => ?_)
 refine Y1i ?_
 refine qv (qk (bq1 ⟨p, rfl, ?_⟩))
 exact St.cac.2 ⟨none, 0, m, (St.ownNil 113 7 h).f 1⟩
def pgZ : Pg := ⟨⟨0, 0, 0⟩, 0, false, false, 0⟩
theorem lr {k : Key3} (hC : C.Ok) (h : St w0 (IsCache p C :: l) w) : Ret prog 47 [.pz p, .agg k.C.toArray] w fun v w' => v = .tuple [.agg ((C.clk.page k).getD pgZ).C.toArray, .bool (C.clk.page k).isSome].toArray ∧ St w0 (IsCache p C :: l) w' := by
 obtain ⟨a, c, m, h⟩ := St.cac.1 h
 have hlen := hC.len
 refine en func47 results47 ntmps47 ?_
 refine Y1 ?_
 refine r_c rfl (jv h (show _ = Value.agg k.C.toArray from rfl) fun b3 w h => ?_)
 refine r_c rfl (qp h fun b4 w h => ?_)
 replace h : St w0 (PgPt b4 pgZ :: KeyPt b3 k :: CaPt p a c m C.clk :: OwnPg a c C.clk.pages :: RwMap m C.rows :: l) w := h
 refine Ya ?_
 refine qf (jh none (fun w => St w0 (PgPt b4 pgZ :: KeyPt b3 k :: CaPt p a c m C.clk :: OwnPg a c C.clk.pages :: RwMap m C.rows :: l) w) O1 O1 h.drew fun w h => ?_)
 refine Y3 ?_
 refine qj rfl rfl rfl rfl h (fun _ h => qh rfl (qx (l := C.clk.C a c) rfl rfl (qw (h.b 2 rfl) rfl))) ?_
 refine qj rfl rfl rfl rfl h (fun _ h => qh rfl (qx (l := k.C) rfl rfl (qw (h.b 1 rfl) rfl))) ?_
 refine Yq ?_
 refine qd 5 rfl rfl rfl rfl (qg rfl (yf O0 (cac_reads.more [_, _]) h) ?_)
 clear h
 rintro _ w ⟨rfl, h⟩
 refine ⟨fun _ => h, ?_⟩
 refine Y2s ?_
 refine qn ?_
 refine Y1w ?_; refine Y1u ?_
 cases hf : C.clk.find k with
 | none =>
  have hp : C.clk.page k = none := by unfold Clk.page; rw [hf]; rfl
  refine Y27 ?_
  refine r_v (qc (r := pgZ.C) rfl) rfl ?_
  refine r_c rfl (qy (vs := pgZ.C) 0 h rfl rfl rfl rfl rfl rfl rfl fun w h => ?_)
  refine Y7 ?_
  refine qv (qk ?_)
  refine bqct (v := .agg pgZ.C.toArray) (js (by rfl) (qw (h.b 0 rfl) rfl)) ⟨by rw [hp]; rfl, ?_⟩
  exact St.cac.2 ⟨a, c, m, h.drop.drop⟩
 | some i =>
  obtain ⟨pg, hpg, _⟩ := Clk.find_some hf
  have hlt := (Uf.1 hpg).1
  have hp : C.clk.page k = some pg := by unfold Clk.page; rw [hf]; exact hpg
  obtain ⟨g, rfl⟩ := vu hpg (h.f 3)
  refine qz (.bool false) (by congr 1) ?_
  refine Yb ?_; refine Y3o ?_
  refine r_v (qq (v := .slice (sQ g) C.clk.pages.length c) rfl (h.b 2 rfl) rfl) rfl ?_
  refine Y0 ?_
  refine r_v (jb (j := i) (o' := 0 + i * 7) rfl rfl rfl hlt rfl) rfl ?_
  refine r_v (qx (l := pg.C) rfl rfl (((h.f 3).own_rd).elem gy hpg)) rfl ?_
  refine r_c rfl (qy (vs := pg.C) 0 h rfl rfl rfl rfl rfl rfl rfl fun w h => ?_)
  refine Y7 ?_
  refine qv (qk ?_)
  refine bqct (v := .agg pg.C.toArray) (js (by rfl) (qw (h.b 0 rfl) rfl)) ⟨by rw [hp]; rfl, ?_⟩
  exact St.cac.2 ⟨_, c, m, h.drop.drop⟩
theorem cd {k : Key3} {n : Int} (hn : -1 <= n ∧ n <= 1) (hC : C.Ok) (h : St w0 (IsCache p C :: l) w) : Ret prog 46 [.pz p, .agg k.C.toArray, .iz n] w fun v w' => v = .bool (C.pinN k n).2 ∧ St w0 (IsCache p (C.pinN k n).1 :: l) w' := by
 obtain ⟨a, c, m, h⟩ := St.cac.1 h
 have hlen := hC.len
 refine en func46 results46 ntmps46 ?_
 refine Y1 ?_
 refine r_c rfl (jv h (show _ = Value.agg k.C.toArray from rfl) fun b3 w h => ?_)
 replace h : St w0 (KeyPt b3 k :: CaPt p a c m C.clk :: OwnPg a c C.clk.pages :: RwMap m C.rows :: l) w := h
 refine Ya ?_
 refine qt (Γ := (Option Addr × Nat) × Nat) (fun x => [(0, .pz p), (7, .pointer (some ⟨x.2, 0, none⟩)), (8, .bool (C.clk.pin k n).2)]) (fun x w => St w0 (ClkPt x.2 x.1.1 x.1.2 (C.clk.pin k n).1 :: OwnPg x.1.1 x.1.2 (C.clk.pin k n).1.pages :: KeyPt b3 k :: CaPt p a c m C.clk :: OwnPg a c C.clk.pages :: RwMap m C.rows :: l) w) ?_ ?_
 ·refine vo [0, 1, 2, 3, 4, 5, 6, 7, 8, 11, 9, 10, 12] (some 11) (fun w => St w0 (KeyPt b3 k :: CaPt p a c m C.clk :: OwnPg a c C.clk.pages :: RwMap m C.rows :: l) w) O1 O1 h.drew fun w h => ?_
  refine Y3 ?_
  refine qj rfl rfl rfl rfl h (fun _ h => qh rfl (qx (l := C.clk.C a c) rfl rfl (qw (h.b 1 rfl) rfl))) ?_
  refine qj rfl rfl rfl rfl h (fun _ h => qh rfl (qx (l := k.C) rfl rfl (qw (h.b 0 rfl) rfl))) ?_
  refine Y18 ?_; refine Y4i ?_
  refine j4 6 10 rfl rfl rfl rfl rfl rfl ?_ ?_
  ·refine qg rfl (cu hC.pins hn O0 (cac_reads.more [_]) h) ?_
   clear h
   rintro _ w ⟨a', c', rfl, h⟩
   refine ⟨fun _ => h.drop, ?_⟩
   have h1 := h
   replace h := h1.drop
   refine Y29 ?_; refine Y11 ?_
   refine qd 10 rfl rfl rfl rfl ?_
   refine qp h1 fun b7 w h1 => ?_
   have h := h1.drop.drop
   refine ⟨fun _ => h, ?_⟩
   refine Yq ?_
   refine jy 11 none rfl rfl rfl rfl ?_
   refine (qy (vs := (C.clk.pin k n).1.C a' c') 0 h1 rfl rfl rfl rfl rfl rfl rfl fun w h => ?_)
   refine jz h ?_
   refine Y1d ?_
   refine qn ⟨((a', c'), b7), zz3, h⟩
  ·refine qp h fun b7 w h1 => ?_
   have h := h1.drop
   refine ⟨fun _ => h, ?_⟩
   refine Y2q ?_
   refine qd 6 rfl rfl rfl rfl ?_
   refine qg rfl (cu hC.pins hn O0 (cac_reads.more [_, _]) h1) ?_
   clear h h1
   rintro _ w ⟨a', c', rfl, h1⟩
   have h := h1.drop.drop
   refine ⟨fun _ => h, ?_⟩
   refine Y29 ?_; refine Yq ?_
   refine jy 11 none rfl rfl rfl rfl ?_
   refine (qy (vs := (C.clk.pin k n).1.C a' c') 1 h1 rfl rfl rfl rfl rfl rfl rfl fun w h => ?_)
   refine jz h ?_
   refine Y1d ?_
   refine qn ⟨((a', c'), b7), zz3, h.f 1⟩
 rintro ⟨⟨a', c'⟩, b7⟩ w e h
 refine Y2v ?_; refine Y1p ?_; refine Y2 ?_
 cases hp : (C.clk.pin k n).2 with
 | false =>
  have e1 : C.pinN k n = (C, false) := by unfold Cac.pinN; rw [hp]; rfl
  refine Y1r ?_; refine Y31 ?_; refine Y7 ?_
  refine qv (qk (bq1 ⟨by rw [e1]; rfl, ?_⟩))
  rw [e1]
  exact St.cac.2 ⟨a, c, m, h.x [0, 1, 2]⟩
 | true =>
  have e1 : C.pinN k n = (⟨(C.clk.pin k n).1, C.rows⟩, true) := by unfold Cac.pinN; rw [hp]; rfl
  refine Y1k ?_; refine Y2u ?_
  refine r_v (qx (l := (C.clk.pin k n).1.C a' c') rfl rfl (qw (h.b 0 rfl) rfl)) rfl ?_
  refine Yi ?_
  refine r_c rfl (qy (vs := (C.clk.pin k n).1.C a' c') 3 h rfl rfl rfl rfl rfl rfl rfl fun w h => ?_)
  refine Yn ?_; refine Y1p ?_; refine Y7 ?_
  refine qv (qk (bq1 ⟨by rw [e1]; rfl, ?_⟩))
  rw [e1]
  exact St.cac.2 ⟨a', c', m, (h.x [0, 2, 4]).f 1⟩
theorem cm {k : Key3} (hC : C.Ok) (h : St w0 (IsCache p C :: l) w) : Ret prog 25 [.pz p, .agg k.C.toArray] w fun v w' => v = .bool (C.pinN k 1).2 ∧ St w0 (IsCache p (C.pinN k 1).1 :: l) w' := by
 refine en func25 results25 ntmps25 ?_
 refine Y1 ?_
 refine r_c rfl (jv h (show _ = Value.agg k.C.toArray from rfl) fun b3 w h => ?_)
 refine Ya ?_; refine Ym ?_
 refine r_v (qx (l := k.C) rfl rfl (qw (h.b 0 rfl) rfl)) rfl ?_
 refine r_c rfl (qg rfl (cd (n := 1) O0 hC (h.f 1)) ?_)
 clear h
 rintro _ w ⟨rfl, h⟩
 refine Y7 ?_
 exact qv (qk (bq1 ⟨rfl, h.x [1]⟩))
theorem zu {k : Key3} (hC : C.Ok) (h : St w0 (IsCache p C :: l) w) : Ret prog 26 [.pz p, .agg k.C.toArray] w fun v w' => v = .bool (C.unpin k).2 ∧ St w0 (IsCache p (C.unpin k).1 :: l) w' := by
 refine en func26 results26 ntmps26 ?_
 refine Y1 ?_
 refine r_c rfl (jv h (show _ = Value.agg k.C.toArray from rfl) fun b3 w h => ?_)
 replace h : St w0 (KeyPt b3 k :: IsCache p C :: l) w := h
 refine Ya ?_; refine Ym ?_
 refine r_v (qx (l := k.C) rfl rfl (qw (h.b 0 rfl) rfl)) rfl ?_
 have hpg := lr (k := k) hC (h.f 1)
 clear h
 cases hp : C.clk.page k with
 | none =>
  rw [hp] at hpg
  have e1 : C.unpin k = (C, false) := by unfold Cac.unpin; rw [hp]
  refine r_c rfl (qg rfl hpg ?_)
  rintro _ w ⟨rfl, h⟩
  refine Y3e ?_
  refine r_c rfl (qp h fun b5 w h => ?_)
  refine r_c rfl (qy (vs := pgZ.C) 0 h rfl rfl rfl rfl rfl rfl rfl fun w h => ?_)
  refine Ya ?_; refine Y31 ?_; refine Y2f ?_; refine Y9 ?_; refine Y2f ?_; refine Y2h ?_
  refine qv (qk (bq1 ⟨by rw [e1]; rfl, ?_⟩))
  rw [e1]
  exact h.x [0, 2]
 | some pg =>
  rw [hp] at hpg
  refine r_c rfl (qg rfl hpg ?_)
  rintro _ w ⟨rfl, h⟩
  refine Y3e ?_
  refine r_c rfl (qp h fun b5 w h => ?_)
  refine r_c rfl (qy (vs := pg.C) 0 h rfl rfl rfl rfl rfl rfl rfl fun w h => ?_)
  replace h : St w0 (PgPt b5 pg :: IsCache p C :: KeyPt b3 k :: l) w := h
  refine Ya ?_; refine Y31 ?_; refine Y1e ?_
  refine r_v (qq (v := .iz pg.pins) rfl (h.b 0 rfl) rfl) rfl ?_
  refine Yc ?_; refine Y2j ?_
  by_cases hpos : 0 < pg.pins
  ·have e1 : C.unpin k = C.pinN k (-1) := by unfold Cac.unpin; rw [hp]; exact if_pos hpos
   refine qz (.bool true) O3 ?_
   refine Yf ?_; refine Y3f ?_
   refine r_v (qx (l := k.C) rfl rfl (qw (h.b 2 rfl) rfl)) rfl ?_
   refine Yc ?_
   refine r_c rfl (qg rfl (cd (n := -1) O0 hC (h.f 1)) ?_)
   clear h
   rintro _ w ⟨rfl, h⟩
   refine Y2m ?_
   refine qv (qk (bq1 ⟨by rw [e1]; rfl, ?_⟩))
   rw [e1]
   exact h.x [1, 2]
  ·have e1 : C.unpin k = (C, false) := by unfold Cac.unpin; rw [hp]; exact if_neg hpos
   refine qz (.bool false) O4 ?_
   refine Yf ?_; refine Y2f ?_; refine Y2h ?_
   refine qv (qk (bq1 ⟨by rw [e1]; rfl, ?_⟩))
   rw [e1]
   exact h.x [0, 2]
theorem l8 (q : Clk) (k : Key3) : (q.lets k).2.1.length <= 1 := by
 have hr : ∀ q : Clk, q.room.2.length <= 1 := by
  intro q
  unfold Clk.room
  split
  ·cases q.coldTurns.2 <;> simp
  ·simp
 unfold Clk.lets
 split
 ·simp
 ·split
  ·simp
  ·exact hr _
theorem qgv (k : Key3) : k.C.length = 3 := rfl
theorem cn {k : Key3} {sl : Option Addr} {c0 : Nat} {L : List Smp} (hC : C.Ok) (hr : Reads w0 l 2 sl L.length (smpsV L)) (hL : L.length <= 1073741824) (h : St w0 (IsCache p C :: l) w) :
  Ret prog 24 [.pz p, .agg k.C.toArray, .slice sl L.length c0] w fun v w' => v = .bool (C.put k L).2 ∧ St w0 (IsCache p (C.put k L).1 :: l) w' := by
 obtain ⟨a, c, m, h⟩ := St.cac.1 h
 have hlen := hC.len
 refine en func24 results24 ntmps24 ?_
 refine Y1 ?_
 refine r_c rfl (jv h (show _ = Value.agg k.C.toArray from rfl) fun b4 w h => ?_)
 replace h : St w0 (KeyPt b4 k :: CaPt p a c m C.clk :: OwnPg a c C.clk.pages :: RwMap m C.rows :: l) w := h
 refine Ya ?_
 refine qt (Γ := ((Option Addr × Nat) × Nat) × (Option Addr × Nat)) (fun x => [(0, .pz p), (2, .slice sl L.length c0), (4, .pz b4), (7, .pointer (some ⟨x.1.2, 0, none⟩)), (8, .slice x.2.1 (C.clk.lets k).2.1.length x.2.2), (9, .bool (C.clk.lets k).2.2)])
  (fun x w => St w0 (ClkPt x.1.2 x.1.1.1 x.1.1.2 (C.clk.lets k).1 :: OwnPg x.1.1.1 x.1.1.2 (C.clk.lets k).1.pages :: OwnKs x.2.1 x.2.2 (C.clk.lets k).2.1 :: KeyPt b4 k :: CaPt p a c m C.clk :: OwnPg a c C.clk.pages :: RwMap m C.rows :: l) w) ?_ ?_
 ·refine vo [0, 1, 2, 3, 4, 5, 6, 7, 10, 12, 8, 9, 11, 13] (some 11) (fun w => St w0 (KeyPt b4 k :: CaPt p a c m C.clk :: OwnPg a c C.clk.pages :: RwMap m C.rows :: l) w) O1 O1 h.drew fun w h => ?_
  refine Y3 ?_
  refine qj rfl rfl rfl rfl h (fun _ h => qh rfl (qx (l := C.clk.C a c) rfl rfl (qw (h.b 1 rfl) rfl))) ?_
  refine qj rfl rfl rfl rfl h (fun _ h => qh rfl (qx (l := k.C) rfl rfl (qw (h.b 0 rfl) rfl))) ?_
  refine Y16 ?_; refine Y3m ?_
  refine j4 5 10 rfl rfl rfl rfl rfl rfl ?_ ?_
  ·refine qg rfl (dt hC.wf hlen hC.res (cac_reads.more [_]) h) ?_
   clear h
   rintro _ w ⟨a', c', ao, co, rfl, h1⟩
   have h := h1.drop.drop
   refine ⟨fun _ => h, ?_⟩
   refine Y29 ?_; refine Y4q ?_; refine Y16 ?_
   refine qd 10 rfl rfl rfl rfl ?_
   refine qp h1 fun b7 w h1 => ?_
   have h := h1.drop.drop.drop
   refine ⟨fun _ => h, ?_⟩
   refine Y11 ?_
   refine jy 11 none rfl rfl rfl rfl ?_
   refine (qy (vs := (C.clk.lets k).1.C a' c') 0 h1 rfl rfl rfl rfl rfl rfl rfl fun w h => ?_)
   refine jz h ?_
   refine Y1y ?_; refine Y1d ?_
   refine qn ⟨(((a', c'), b7), (ao, co)), zz6, h⟩
  ·refine qp h fun b7 w h1 => ?_
   have h := h1.drop
   refine ⟨fun _ => h, ?_⟩
   refine Y16 ?_; refine Y16 ?_
   refine qd 5 rfl rfl rfl rfl ?_
   refine qg rfl (dt hC.wf hlen hC.res (cac_reads.more [_, _]) h1) ?_
   clear h h1
   rintro _ w ⟨a', c', ao, co, rfl, h1⟩
   have h := h1.drop.drop.drop
   refine ⟨fun _ => h, ?_⟩
   refine Y29 ?_; refine Y4q ?_; refine Y11 ?_
   refine jy 11 none rfl rfl rfl rfl ?_
   refine (qy (vs := (C.clk.lets k).1.C a' c') 2 h1 rfl rfl rfl rfl rfl rfl rfl fun w h => ?_)
   refine jz h ?_
   refine Y1y ?_; refine Y1d ?_
   refine qn ⟨(((a', c'), b7), (ao, co)), zz6, h.f 2⟩
 rintro ⟨⟨⟨a', c'⟩, b7⟩, ao, co⟩ w e h
 replace h : St w0 (ClkPt b7 a' c' (C.clk.lets k).1 :: OwnPg a' c' (C.clk.lets k).1.pages :: OwnKs ao co (C.clk.lets k).2.1 :: KeyPt b4 k :: CaPt p a c m C.clk :: OwnPg a c C.clk.pages :: RwMap m C.rows :: l) w := h
 have hk1 := l8 C.clk k
 obtain ⟨ks, hks⟩ : ∃ ks, (C.clk.lets k).2.1 = ks := ⟨_, rfl⟩
 have hpt := @Cac.put.eq_1 C k L
 rw [hks] at hk1 h hpt
 refine Y1h ?_; refine Y2 ?_
 cases hp : (C.clk.lets k).2.2 with
 | false =>
  rw [hp] at hpt
  have e1 : C.put k L = (C, false) := hpt
  refine Y1k ?_; refine Y4f ?_
  refine qv (qk (bq1 ⟨by rw [e1]; rfl, ?_⟩))
  rw [e1]
  exact St.cac.2 ⟨a, c, m, h.x [0, 1, 2, 3]⟩
 | true =>
  rw [hp] at hpt
  have e1 : C.put k L = (⟨(C.clk.lets k).1, mset k L (Cac.dels C.rows ks)⟩, true) := hpt
  clear hpt
  refine Y1r ?_; refine Ym ?_
  refine r_v (qx (l := (C.clk.lets k).1.C a' c') rfl rfl (qw (h.b 0 rfl) rfl)) rfl ?_
  refine Yi ?_
  refine r_c rfl (qy (vs := (C.clk.lets k).1.C a' c') 4 h rfl rfl rfl rfl rfl rfl rfl fun w h => ?_)
  replace h : St w0 (ClkPt b7 a' c' (C.clk.lets k).1 :: OwnPg a' c' (C.clk.lets k).1.pages :: OwnKs ao co ks :: KeyPt b4 k :: CaPt p a' c' m (C.clk.lets k).1 :: OwnPg a c C.clk.pages :: RwMap m C.rows :: l) w := h
  replace h : St w0 (OwnPg a' c' (C.clk.lets k).1.pages :: OwnKs ao co ks :: KeyPt b4 k :: CaPt p a' c' m (C.clk.lets k).1 :: RwMap m C.rows :: l) w := h.x [0, 5]
  refine Y2 ?_
  refine qt (Γ := Unit) (fun _ => [(0, .pz p), (2, .slice sl L.length c0), (4, .pz b4)]) (fun _ w => St w0 (OwnPg a' c' (C.clk.lets k).1.pages :: OwnKs ao co ks :: KeyPt b4 k :: CaPt p a' c' m (C.clk.lets k).1 :: RwMap m (Cac.dels C.rows ks) :: l) w) ?_ ?_
  ·refine Y1 ?_
   refine r_v (m0 (a := ao) (m := ks.length) (c := co) (by rw [<- hks]; rfl)) rfl ?_
   refine Y15 ?_; refine Y20 ?_
   refine jx (Γ := Nat) (fun i => [(0, .pz p), (2, .slice sl L.length c0), (4, .pz b4), (28, .slice ao ks.length co), (29, .iz ks.length), (30, .iz i)])
    (fun i w => i <= ks.length ∧ St w0 (OwnPg a' c' (C.clk.lets k).1.pages :: OwnKs ao co ks :: KeyPt b4 k :: CaPt p a' c' m (C.clk.lets k).1 :: RwMap m (Cac.dels C.rows (ks.take i)) :: l) w) (fun i => ks.length - i) 0 zz6 ⟨Ud _, h⟩ ?_
   clear h
   rintro i w e ⟨hi, h⟩
   refine Y3p ?_
   by_cases hlt : i < ks.length
   ·refine qz (.bool true) O3 ?_
    refine Y42 ?_; refine Yl ?_
    have hget : ks[i]? = some ks[i] := Uc hlt
    generalize ks[i] = x at hget
    have hkr : Reads w0 (OwnPg a' c' (C.clk.lets k).1.pages :: OwnKs ao co ks :: KeyPt b4 k :: CaPt p a' c' m (C.clk.lets k).1 :: RwMap m (Cac.dels C.rows (ks.take i)) :: l) 3 ao ks.length (ksV ks) := Reads.own.cons
    have hcur := h
    obtain ⟨b2, o2, rfl⟩ := (hkr.at_ h).some O0
    have h := hcur
    refine Y38 ?_; refine Y1 ?_
    refine r_v (jb (j := i) (o' := o2 + i * 3) rfl rfl rfl hlt rfl) rfl ?_
    refine r_v (qx (l := x.C) rfl rfl ((hkr.at_ h).elem qgv hget)) rfl ?_
    refine r_c rfl (qp h fun b5 w h => ?_)
    refine r_c rfl (qy (vs := x.C) 0 h rfl rfl rfl rfl rfl rfl rfl fun w h => ?_)
    replace h : St w0 (KeyPt b5 x :: OwnPg a' c' (C.clk.lets k).1.pages :: OwnKs (some ⟨b2, o2, none⟩) co ks :: KeyPt b4 k :: CaPt p a' c' m (C.clk.lets k).1 :: RwMap m (Cac.dels C.rows (ks.take i)) :: l) w := h
    refine Y2 ?_
    refine jh (some 5) (fun w => St w0 (KeyPt b5 x :: OwnPg a' c' (C.clk.lets k).1.pages :: OwnKs (some ⟨b2, o2, none⟩) co ks :: KeyPt b4 k :: CaPt p a' c' m (C.clk.lets k).1 :: RwMap m (Cac.dels C.rows (ks.take i)) :: l) w) O1 O1 h.drew fun w h => ?_
    refine Y3 ?_
    refine qj rfl rfl rfl rfl h (fun _ h => qh rfl (qq (v := .map (some m)) rfl (h.b 4 rfl) rfl)) ?_
    refine qj rfl rfl rfl rfl h (fun _ h => qh rfl (qx (l := x.C) rfl rfl (qw (h.b 0 rfl) rfl))) ?_
    refine Yg ?_
    refine jk 5 rfl rfl rfl ?_
    refine x_vdel (k := x) (h.f 5) rfl rfl fun w h => ?_
    refine Yt ?_
    refine qz (.iz (i + 1 : Nat)) O17 ?_
    refine Y0 ?_
    refine qv ⟨i + 1, zz6, ⟨hlt, ?_⟩, O_o⟩
    have e2 : Cac.dels C.rows (ks.take (i + 1)) = mdel x (Cac.dels C.rows (ks.take i)) := by
     rw [Vl, hget, Cac.dels, List.foldl_append]; rfl
    rw [e2]
    exact (h.x [1]).o [1, 2, 3, 4, 0]
   ·refine qz (.bool false) O4 ?_
    refine qv (qf (qe rfl (ju ?_)))
    obtain rfl : i = ks.length := by omega
    rw [Zj] at h
    refine Eq.mpr (if_pos rfl) ⟨(), zz3, h⟩
  rintro - w e h
  refine qf (jh (some 7) (fun w => St w0 (OwnPg a' c' (C.clk.lets k).1.pages :: OwnKs ao co ks :: KeyPt b4 k :: CaPt p a' c' m (C.clk.lets k).1 :: RwMap m (Cac.dels C.rows ks) :: l) w) O1 O1 h.drew fun w h => ?_)
  refine Y3 ?_
  refine qj rfl rfl rfl rfl h (fun _ h => qh rfl (qq (v := .map (some m)) rfl (h.b 3 rfl) rfl)) ?_
  refine qj rfl rfl rfl rfl h (fun _ h => qh rfl (qx (l := k.C) rfl rfl (qw (h.b 2 rfl) rfl))) ?_
  refine Y1x ?_; refine Yq ?_
  refine qd 6 rfl rfl rfl rfl ?_
  refine qg rfl (uj h (hr.more [_, _, _, _, _]) hL) ?_
  clear h
  rintro _ w ⟨a9, c9, rfl, h1⟩
  have h := h1.drop
  refine ⟨fun _ => h, ?_⟩
  refine Yg ?_
  refine jk 7 rfl rfl rfl ?_
  refine x_vset (vf := rowF) (R := rowR) (k := k) (u := (a9, c9)) (v := L) (h1.o [0, 5]) rfl rfl rfl fun w h => ?_
  clear h1
  refine Y4f ?_
  refine qv (qk (bq1 ⟨by rw [e1]; rfl, ?_⟩))
  rw [e1]
  exact St.cac.2 ⟨a', c', m, (h.x [2, 3]).o [2, 1, 0]⟩
theorem qq2 {k : Key3} (hC : C.Ok) (h : St w0 (IsCache p C :: l) w) :
  Ret prog 137 [.pz p, .agg k.C.toArray] w fun v w' => ∃ a' c', v = .tuple [.slice a' ((C.get k).2.getD []).length c', .bool (C.get k).2.isSome].toArray ∧ St w0 (OwnS a' c' ((C.get k).2.getD []) :: IsCache p (C.get k).1 :: l) w' := by
 obtain ⟨a, c, m, h⟩ := St.cac.1 h
 have hlen := hC.len
 refine en func137 results137 ntmps137 ?_
 refine Y1 ?_
 refine r_c rfl (jv h (show _ = Value.agg k.C.toArray from rfl) fun b3 w h => ?_)
 replace h : St w0 (KeyPt b3 k :: CaPt p a c m C.clk :: OwnPg a c C.clk.pages :: RwMap m C.rows :: l) w := h
 refine Ys ?_
 refine qt (Γ := (Option Addr × Nat) × Nat) (fun x => [(0, .pz p), (3, .pz b3), (6, .pointer (some ⟨x.2, 0, none⟩)), (7, .bool (C.clk.touch k).2)]) (fun x w => St w0 (ClkPt x.2 x.1.1 x.1.2 (C.clk.touch k).1 :: OwnPg x.1.1 x.1.2 (C.clk.touch k).1.pages :: KeyPt b3 k :: CaPt p a c m C.clk :: OwnPg a c C.clk.pages :: RwMap m C.rows :: l) w) ?_ ?_
 ·refine vo [0, 1, 2, 3, 4, 5, 6, 7, 10, 8, 9, 11] (some 10) (fun w => St w0 (KeyPt b3 k :: CaPt p a c m C.clk :: OwnPg a c C.clk.pages :: RwMap m C.rows :: l) w) O1 O1 h.drew fun w h => ?_
  refine Y3 ?_
  refine qj rfl rfl rfl rfl h (fun _ h => qh rfl (qx (l := C.clk.C a c) rfl rfl (qw (h.b 1 rfl) rfl))) ?_
  refine qj rfl rfl rfl rfl h (fun _ h => qh rfl (qx (l := k.C) rfl rfl (qw (h.b 0 rfl) rfl))) ?_
  refine Y4i ?_
  refine j4 5 9 rfl rfl rfl rfl rfl rfl ?_ ?_
  ·refine qg rfl (zv O0 (cac_reads.more [_]) h) ?_
   clear h
   rintro _ w ⟨a', c', rfl, h1⟩
   have h := h1.drop
   refine ⟨fun _ => h, ?_⟩
   refine Y29 ?_; refine Y11 ?_
   refine qd 9 rfl rfl rfl rfl ?_
   refine qp h1 fun b7 w h1 => ?_
   have h := h1.drop.drop
   refine ⟨fun _ => h, ?_⟩
   refine Yq ?_
   refine jy 10 none rfl rfl rfl rfl ?_
   refine (qy (vs := (C.clk.touch k).1.C a' c') 0 h1 rfl rfl rfl rfl rfl rfl rfl fun w h => ?_)
   refine jz h ?_
   refine Y1d ?_
   refine qn ⟨((a', c'), b7), zz4, h⟩
  ·refine qp h fun b7 w h1 => ?_
   have h := h1.drop
   refine ⟨fun _ => h, ?_⟩
   refine Y2q ?_
   refine qd 5 rfl rfl rfl rfl ?_
   refine qg rfl (zv O0 (cac_reads.more [_, _]) h1) ?_
   clear h h1
   rintro _ w ⟨a', c', rfl, h1⟩
   have h := h1.drop.drop
   refine ⟨fun _ => h, ?_⟩
   refine Y29 ?_; refine Yq ?_
   refine jy 10 none rfl rfl rfl rfl ?_
   refine (qy (vs := (C.clk.touch k).1.C a' c') 1 h1 rfl rfl rfl rfl rfl rfl rfl fun w h => ?_)
   refine jz h ?_
   refine Y1d ?_
   refine qn ⟨((a', c'), b7), zz4, h.f 1⟩
 rintro ⟨⟨a', c'⟩, b7⟩ w e h
 replace h : St w0 (ClkPt b7 a' c' (C.clk.touch k).1 :: OwnPg a' c' (C.clk.touch k).1.pages :: KeyPt b3 k :: CaPt p a c m C.clk :: OwnPg a c C.clk.pages :: RwMap m C.rows :: l) w := h
 refine Y1h ?_; refine Y2 ?_
 cases hp : (C.clk.touch k).2 with
 | false =>
  have e1 : C.get k = (C, none) := by unfold Cac.get; rw [hp]; rfl
  refine Y1k ?_; refine Y3r ?_
  rw [e1]
  refine qv (qk (bq2 ⟨none, 0, rfl, ?_⟩))
  exact St.ownNil 57 2 (St.cac.2 ⟨a, c, m, h.x [0, 1, 2]⟩)
 | true =>
  have e1 : C.get k = (⟨(C.clk.touch k).1, C.rows⟩, some ((mget k C.rows).getD [])) := by unfold Cac.get; rw [hp]; rfl
  rw [e1]
  refine Y1r ?_; refine Ym ?_
  refine r_v (qx (l := (C.clk.touch k).1.C a' c') rfl rfl (qw (h.b 0 rfl) rfl)) rfl ?_
  refine Yi ?_
  refine r_c rfl (qy (vs := (C.clk.touch k).1.C a' c') 3 h rfl rfl rfl rfl rfl rfl rfl fun w h => ?_)
  replace h : St w0 (ClkPt b7 a' c' (C.clk.touch k).1 :: OwnPg a' c' (C.clk.touch k).1.pages :: KeyPt b3 k :: CaPt p a' c' m (C.clk.touch k).1 :: OwnPg a c C.clk.pages :: RwMap m C.rows :: l) w := h
  replace h : St w0 (OwnPg a' c' (C.clk.touch k).1.pages :: KeyPt b3 k :: CaPt p a' c' m (C.clk.touch k).1 :: RwMap m C.rows :: l) w := h.x [0, 4]
  refine Y2 ?_
  cases hg : mget k C.rows with
  | none =>
   refine qf (jh none (fun w => St w0 (OwnPg a' c' (C.clk.touch k).1.pages :: KeyPt b3 k :: CaPt p a' c' m (C.clk.touch k).1 :: RwMap m C.rows :: l) w) O1 O1 h.drew fun w h => ?_)
   refine Y3 ?_
   refine qj rfl rfl rfl rfl h (fun _ h => qh rfl (qq (v := .map (some m)) rfl (h.b 2 rfl) rfl)) ?_
   refine qj rfl rfl rfl rfl h (fun _ h => qh rfl (qx (l := k.C) rfl rfl (qw (h.b 1 rfl) rfl))) ?_
   refine qj (v := .slice none 0 0) rfl rfl rfl rfl h (fun _ h => (h.f 3).vmap_none hg fun ps i1 i2 => qh rfl (qr (sm (k := k) rfl rfl i1) (by rw [i2]; rfl))) ?_
   refine Y11 ?_
   refine qd 6 rfl rfl rfl rfl ?_
   refine qg rfl (uj (L := []) h Reads.nil O2) ?_
   clear h
   rintro _ w ⟨a9, c9, rfl, h1⟩
   have h := h1.drop
   refine ⟨fun _ => h, ?_⟩
   refine Y1y ?_; refine Y1d ?_
   refine qn (qk (bq2 ⟨a9, c9, rfl, ?_⟩))
   exact ((St.cac (C := ⟨(C.clk.touch k).1, C.rows⟩)).2 ⟨a', c', m, (h1.x [2]).o [2, 1, 3, 0]⟩).f 1
  | some L =>
   have hL := hC.rows k L hg
   obtain ⟨y, mm, e2, e3, h⟩ := (h.f 3).vopen hg
   have e4 := qgj (vf := rowF) e3
   refine qf (jh none (fun w => St w0 (rowR y L :: MapOf (fun k : Key3 => .agg k.C.toArray) m (mm.map fun p => (p.1, rowF p.2)) :: big (fun p => rowR p.2.1 p.2.2) (mdel k mm) :: OwnPg a' c' (C.clk.touch k).1.pages :: KeyPt b3 k :: CaPt p a' c' m (C.clk.touch k).1 :: l) w) O1 O1 h.drew fun w h => ?_)
   refine Y3 ?_
   refine qj rfl rfl rfl rfl h (fun _ h => qh rfl (qq (v := .map (some m)) rfl (h.b 5 rfl) rfl)) ?_
   refine qj rfl rfl rfl rfl h (fun _ h => qh rfl (qx (l := k.C) rfl rfl (qw (h.b 4 rfl) rfl))) ?_
   refine qj (v := .slice y.1 L.length y.2) rfl rfl rfl rfl h (fun _ h => qh rfl (qr (sm (k := k) rfl rfl (h.f 1).isMap) (by rw [e4]; rfl))) ?_
   refine Y11 ?_
   refine qd 6 rfl rfl rfl rfl ?_
   refine qg rfl (uj (L := L) h Reads.own hL) ?_
   clear h
   rintro _ w ⟨a9, c9, rfl, h1⟩
   have h := h1.drop
   refine ⟨fun _ => h, ?_⟩
   refine Y1y ?_; refine Y1d ?_
   refine qn (qk (bq2 ⟨a9, c9, rfl, ?_⟩))
   have h2 := St.vshut (vf := rowF) (R := rowR) e3 (h1.o [1, 2, 3])
   rw [e2] at h2
   exact ((St.cac (C := ⟨(C.clk.touch k).1, C.rows⟩)).2 ⟨a', c', m, (h2.x [3]).o [3, 2, 0, 1]⟩).f 1
end
end
end Go.Proofs.YtngdfdangkdgcaaGreatDoor
namespace Go.Hw
section
def within (L : List Smp) (fr to : Int) : List Smp := L.filter fun s => decide (fr <= s.T) && decide (s.T <= to)
theorem cp {L : List Smp} {k : Nat} {s : Smp} (hs : L[k]? = some s) (fr to : Int) : within (L.take (k + 1)) fr to = within (L.take k) fr to ++ (if fr <= s.T ∧ s.T <= to then [s] else []) := by
 rw [Vl, hs, within, Kl]
 congr 1
 by_cases h : fr <= s.T ∧ s.T <= to
 ·rw [if_pos h]; simp [h.1, h.2]
 ·rw [if_neg h]
  simp only [Option.toList, Vv, List.filter_nil]
  rw [if_neg]
  simpa using h
theorem mq (l : List Smp) (i : Nat) : (smpsV l).take (i * 2) = smpsV (l.take i) := by
 induction l generalizing i with
 | nil => simp
 | cons a l ih =>
  cases i with
  | zero => simp
  | succ i =>
   rw [Vu, smpsV, smpsV, Uh, Uh, Zk, Wt, Kc, j5, Xr, Uv (by rw [j5]; omega)]
   exact congrArg _ (ih i)
theorem mj (l : List Smp) (i : Nat) : (smpsV l).drop (i * 2) = smpsV (l.drop i) := by
 induction l generalizing i with
 | nil => simp
 | cons a l ih =>
  cases i with
  | zero => simp
  | succ i =>
   rw [Wc, smpsV, smpsV, Uh, Zk, Wt, Zi, j5, Xr, Vo (by rw [j5]; omega), Up]
   exact ih i
end
end Go.Hw
namespace Go.Proofs.YtngdfdangkdgcaaGreatDoor
open Go.Hw _root_.Go.Proofs.Tryz
section
structure Dcd where
 bs : List UInt8
 s : WkS
namespace Dcd
def new (bs : List UInt8) : Dcd := ⟨bs, ⟨false, false, 0, false⟩⟩
def on (d : Dcd) : WkS := if d.s.bg then d.s else decBegin d.bs
def step (d : Dcd) (n : Int) : Dcd := ⟨d.bs, d.on.step n⟩
def more (d : Dcd) (n : Int) : Bool := d.on.more n
def rows (d : Dcd) : List Smp := if d.s.bg then decL d.bs else []
def told (d : Dcd) : Option (List Smp) := if d.s.ov = true ∧ d.s.bad = false then some d.rows else none
structure Ok (d : Dcd) : Prop where
 bs : d.bs.length <= 140737488355328
 rows : d.rows.length <= 65535
 lf : -65535 <= d.s.lf ∧ d.s.lf <= 65535
 pos : d.s.ov = false -> 0 <= d.s.lf
 fresh : d.s.bg = false -> d.s = ⟨false, false, 0, false⟩
end Dcd
def IsDec (q : Nat) (d : Dcd) : HProp := ex fun x : (Option Addr × Nat) × (Option Addr × Nat) => all [lift (d.Ok ∧ (d.s.bg = false -> x.2 = (none, 0))), DecPt q d.s x.1.1 d.bs.length x.1.2 x.2.1 d.rows.length x.2.2, OwnS x.2.1 x.2.2 d.rows, OwnB x.1.1 x.1.2 d.bs]
theorem WkS.step_ok {s : WkS} (n : Int) (h1 : -65535 <= s.lf ∧ s.lf <= 65535) (h2 : s.ov = false -> 0 <= s.lf) : (-65535 <= (s.step n).lf ∧ (s.step n).lf <= 65535) ∧ ((s.step n).ov = false -> 0 <= (s.step n).lf) := by
 have hc := clampN_le n
 obtain ⟨bg, ov, lf, bad⟩ := s
 cases ov with
 | true => exact ⟨h1, fun h => by simp [WkS.step] at h⟩
 | false =>
  have := h2 rfl
  simp only [WkS.step, Bool.false_or, Xc, if_false, decide_eq_false_iff_not] at h1 this ⊢
  exact ⟨O_o, fun h => by omega⟩
section
variable {w0 w : World} {l : List HProp} {q : Nat} {d : Dcd}
theorem St.dec : St w0 (IsDec q d :: l) w ↔ ∃ ba bc la lc, (d.Ok ∧ (d.s.bg = false -> la = none ∧ lc = 0)) ∧ St w0 (DecPt q d.s ba d.bs.length bc la d.rows.length lc :: OwnS la lc d.rows :: OwnB ba bc d.bs :: l) w := by
 unfold IsDec
 rw [St.ex]
 constructor
 ·rintro ⟨⟨⟨ba, bc⟩, la, lc⟩, h⟩
  have h := h.join
  have h := St.lift.1 h
  exact ⟨ba, bc, la, lc, ⟨h.1.1, fun hb => by have := h.1.2 hb; simpa using this⟩, h.2⟩
 ·rintro ⟨ba, bc, la, lc, ⟨h1, h2⟩, h⟩
  refine ⟨((ba, bc), (la, lc)), St.fold [_, _, _, _] (St.lift.2 ⟨⟨h1, fun hb => ?_⟩, h⟩)⟩
  obtain ⟨rfl, rfl⟩ := h2 hb
  rfl
theorem qgu {sl : Option Addr} {c : Nat} {bs : List UInt8} (hn : bs.length <= 140737488355328) (hr : Reads w0 l 1 sl bs.length (bytesV bs)) (h : St w0 l w) :
  Ret prog 140 [.slice sl bs.length c] w fun v w' => ∃ p, v = .pz p ∧ St w0 (IsDec p (Dcd.new bs) :: l) w' :=
 (wk hn hr h).mono fun v w' ⟨p, ba, bc, hv, h⟩ => ⟨p, hv, St.dec.2 ⟨ba, bc, none, 0, ⟨⟨hn, by simp [Dcd.rows, Dcd.new], by simp [Dcd.new], fun _ => by simp [Dcd.new], fun _ => rfl⟩, fun _ => ⟨rfl, rfl⟩⟩, (St.ownNil 57 2 h).f 1⟩⟩
theorem l9 (hT : Tz w0) (n : Int) (hV : d.s.bg = false -> TagOk d.bs) (h : St w0 (IsDec q d :: l) w) :
  Ret prog 123 [.pz q, .iz n] w fun v w' => v = .bool (d.more n) ∧ St w0 (IsDec q (d.step n) :: l) w' := by
 obtain ⟨ba, bc, la, lc, ⟨hd, hf⟩, h⟩ := St.dec.1 h
 obtain ⟨bs, s⟩ := d
 cases hb : s.bg with
 | true =>
  have e1 : Dcd.on ⟨bs, s⟩ = s := by unfold Dcd.on; exact if_pos hb
  have h1 := hd.lf
  have h2 := hd.pos
  refine (qqr n hb (by dsimp only at h1; omega) h).mono fun v w' ⟨hv, h⟩ => ⟨by unfold Dcd.more; rw [e1]; exact hv, ?_⟩
  have hk := WkS.step_ok n h1 h2
  have e2 : Dcd.step ⟨bs, s⟩ n = ⟨bs, s.step n⟩ := by unfold Dcd.step; rw [e1]
  have e3 : Dcd.rows ⟨bs, s.step n⟩ = Dcd.rows ⟨bs, s⟩ := rfl
  rw [e2]
  have hbg : (s.step n).bg = true := hb
  refine St.dec.2 ⟨ba, bc, la, lc, ⟨⟨hd.bs, hd.rows, hk.1, hk.2, fun h => ?_⟩, fun h => ?_⟩, h⟩
  ·dsimp only at h; rw [hbg] at h; cases h
  ·dsimp only at h; rw [hbg] at h; cases h
 | false =>
  obtain ⟨rfl, rfl⟩ := hf hb
  have e0 := hd.fresh hb
  dsimp only at e0
  subst e0
  have e1 : Dcd.on ⟨bs, ⟨false, false, 0, false⟩⟩ = decBegin bs := rfl
  refine (ol hT n (hV hb) hd.bs (h.x [1])).mono fun v w' ⟨la, lc, hv, hlen, h⟩ => ⟨hv, St.dec.2 ⟨ba, bc, la, lc, ⟨⟨hd.bs, hlen, ?_, ?_, fun h => by cases h⟩, fun h => by cases h⟩, h⟩⟩
  ·exact (WkS.step_ok n (s := decBegin bs) (by have h9 : (decL bs).length <= 65535 := hlen; unfold decBegin; dsimp only; omega) (fun _ => by unfold decBegin; dsimp only; omega)).1
  ·exact (WkS.step_ok n (s := decBegin bs) (by have h9 : (decL bs).length <= 65535 := hlen; unfold decBegin; dsimp only; omega) (fun _ => by unfold decBegin; dsimp only; omega)).2
theorem qq3 (h : St w0 (IsDec q d :: l) w) :
  Ret prog 143 [.pz q] w fun v w' => ∃ a c, v = .tuple [.slice a (d.told.getD []).length c, .bool d.told.isSome].toArray ∧ St w0 (OwnS a c (d.told.getD []) :: IsDec q d :: l) w' := by
 obtain ⟨ba, bc, la, lc, ⟨hd, hf⟩, h⟩ := St.dec.1 h
 have hl := hd.rows
 refine (qq0 O0 Reads.own.cons h).mono fun v w' ⟨a, c, hv, h⟩ => ⟨a, c, ?_, ?_⟩
 ·rw [hv]
  unfold Dcd.told
  by_cases hc : d.s.ov = true ∧ d.s.bad = false
  ·rw [if_pos hc, if_pos hc, hc.1, hc.2]; rfl
  ·rw [if_neg hc, if_neg hc]
   congr 4
   simp only [Option.isSome_none]
   cases h1 : d.s.ov <;> cases h2 : d.s.bad <;> simp_all
 ·have e : (if d.s.ov = true ∧ d.s.bad = false then d.rows else []) = d.told.getD [] := by unfold Dcd.told; split <;> rfl
  rw [e] at h
  exact (St.dec.2 ⟨ba, bc, la, lc, ⟨hd, hf⟩, h.f 0 |>.o [1, 2, 3, 0]⟩).f 1
theorem mg {a : Option Addr} {c n : Nat} {xs : List Value} (h : St w0 (Own 57 2 a n c xs :: l) w) : Ret prog 96 [.slice a n c] w fun v w' => v = .slice a n n ∧ St w0 (Own 57 2 a n n xs :: l) w' := by
 have hc := h.own_cases.2.1
 refine en func96 results96 ntmps96 ?_
 refine Y2c ?_; refine Ye ?_; refine Y17 ?_; refine Y17 ?_
 refine r_v (xv rfl rfl rfl (Ug _) hc) rfl ?_
 refine Yw ?_
 exact qk (bq1 ⟨rfl, h.own_clip⟩)
theorem cf {sl : Option Addr} {c : Nat} {L : List Smp} (fr to : Int) (hn : L.length <= 1073741824) (hr : Reads w0 l 2 sl L.length (smpsV L)) (h : St w0 l w) :
  Ret prog 148 [.slice sl L.length c, .iz fr, .iz to] w fun v w' => ∃ a, v = .slice a (within L fr to).length (within L fr to).length ∧ St w0 (OwnS a (within L fr to).length (within L fr to) :: l) w' := by
 refine en func148 results148 ntmps148 ?_
 refine Y2c ?_; refine Y2c ?_
 refine qt (Γ := Option Addr × Nat) (fun y => [(7, .slice y.1 (within L fr to).length y.2)]) (fun y w => St w0 (OwnS y.1 y.2 (within L fr to) :: l) w) ?_ ?_
 ·refine Y3l ?_
  refine jx (Γ := Nat × Option Addr × Nat) (fun x => [(1, .iz fr), (2, .iz to), (7, .slice x.2.1 (within (L.take x.1) fr to).length x.2.2), (10, .slice sl L.length c), (11, .iz L.length), (12, .iz x.1)])
   (fun x w => x.1 <= L.length ∧ St w0 (OwnS x.2.1 x.2.2 (within (L.take x.1) fr to) :: l) w) (fun x => L.length - x.1) (0, none, 0) zz6 ⟨Ud _, St.ownNil 57 2 h⟩ ?_
  clear h
  rintro ⟨i, a, ac⟩ w e ⟨hi, h⟩
  dsimp only at hi h
  refine Y3p ?_
  by_cases hlt : i < L.length
  ·refine qz (.bool true) O3 ?_
   refine Y42 ?_; refine Yl ?_
   obtain ⟨s, hs⟩ : ∃ s, L[i]? = some s := ⟨L[i], Uc hlt⟩
   have hcur := h
   obtain ⟨b2, o2, rfl⟩ := ((hr.more [_]).at_ h).some O0
   have h := hcur
   have hw := cp hs fr to
   have hwl : (within (L.take i) fr to).length <= i := by unfold within; exact Uy (Wx _ _) (by rw [Us]; omega)
   refine Y38 ?_; refine Y1 ?_
   refine r_v (jb (j := i) (o' := o2 + i * 2) rfl rfl rfl hlt rfl) rfl ?_
   refine r_v (qx (l := s.cells) rfl rfl (((hr.more [_]).at_ h).elem j5 hs)) rfl ?_
   refine r_c rfl (qp h fun b9 w h => ?_)
   refine r_c rfl (qy (vs := s.cells) 0 h rfl rfl rfl rfl rfl rfl rfl fun w h => ?_)
   replace h : St w0 (pt b9 (.cells s.cells.toArray 57 (0, 0)) :: OwnS a ac (within (L.take i) fr to) :: l) w := h
   refine Y3n ?_
   refine r_v (qq (v := .iz s.T) rfl (h.b 0 rfl) rfl) rfl ?_
   refine Y0 ?_
   have hpost : ∀ (e' : Env) (w' : World), True := fun _ _ => trivial
   by_cases h1 : fr <= s.T
   ·refine r_v (qr (v' := .bool true) (yr rfl rfl) (congrArg Value.bool (decide_eq_true h1))) rfl ?_
    refine Y1e ?_
    refine r_v (qq (v := .iz s.T) rfl (h.b 0 rfl) rfl) rfl ?_
    refine Y33 ?_
    by_cases h2 : s.T <= to
    ·refine r_v (qr (v' := .bool true) (ni rfl rfl) (congrArg Value.bool (decide_eq_true h2))) rfl ?_
     rw [if_pos ⟨h1, h2⟩] at hw
     refine Y1s ?_; refine Y3j ?_
     refine r_v (qx (l := s.cells) rfl rfl (qw (h.b 0 rfl) rfl)) rfl ?_
     refine r_c rfl (jg (r := smpsV [s]) h rfl rfl rfl fun b5 w h => ?_)
     refine r_c rfl (q9 (ys := smpsV [s]) (zs := smpsV (within (L.take (i + 1)) fr to)) (m3 := (within (L.take (i + 1)) fr to).length) (h.f 2) rfl rfl ⟨rfl, .inr ⟨b5, 0, rfl, qw (h.b 0 rfl) rfl⟩⟩ (jt _) (by rw [hw]; simp) (by rw [hw]; simp [smpsV]) (by rw [hw]; simp; omega) (by rw [hw]; simp; omega) rfl fun a2 c2 w _ h => ?_)
     refine Yw ?_; refine Yt ?_
     refine qz (.iz (i + 1 : Nat)) O17 ?_
     refine Y0 ?_
     exact qv ⟨(i + 1, a2, c2), zz6, ⟨hlt, (h.x [1, 2])⟩, O_d⟩
    ·refine r_v (qr (v' := .bool false) (ni rfl rfl) (congrArg Value.bool (decide_eq_false h2))) rfl ?_
     rw [if_neg (fun hh => h2 hh.2), Uw] at hw
     refine Yf ?_; refine Yb ?_; refine Yt ?_
     refine qz (.iz (i + 1 : Nat)) O17 ?_
     refine Y0 ?_
     refine qv ⟨(i + 1, a, ac), ⟨rfl, rfl, ?_, rfl, rfl, rfl, trivial⟩, ⟨hlt, ?_⟩, O_d⟩
     ·dsimp only; rw [hw]; rfl
     ·dsimp only; rw [hw]; exact h.drop
   ·refine r_v (qr (v' := .bool false) (yr rfl rfl) (congrArg Value.bool (decide_eq_false h1))) rfl ?_
    rw [if_neg (fun hh => h1 hh.1), Uw] at hw
    refine Y19 ?_; refine Y9 ?_; refine Yb ?_; refine Yt ?_
    refine qz (.iz (i + 1 : Nat)) O17 ?_
    refine Y0 ?_
    refine qv ⟨(i + 1, a, ac), ⟨rfl, rfl, ?_, rfl, rfl, rfl, trivial⟩, ⟨hlt, ?_⟩, O_d⟩
    ·dsimp only; rw [hw]; rfl
    ·dsimp only; rw [hw]; exact h.drop
  ·refine qz (.bool false) O4 ?_
   refine qv (qf (qe rfl (ju ?_)))
   obtain rfl : i = L.length := by omega
   rw [Zj] at h
   refine Eq.mpr (if_pos rfl) ⟨(a, ac), ⟨?_, trivial⟩, h⟩
   show Value.slice a (within (L.take L.length) fr to).length ac = _
   rw [Zj]
 rintro ⟨a, ac⟩ w e h
 refine Ye ?_
 refine r_c rfl (qg rfl (mg h) ?_)
 clear h
 rintro _ w ⟨rfl, h⟩
 refine Yo ?_
 exact qv (qk (bq1 ⟨a, rfl, h⟩))
end
end
end Go.Proofs.YtngdfdangkdgcaaGreatDoor
