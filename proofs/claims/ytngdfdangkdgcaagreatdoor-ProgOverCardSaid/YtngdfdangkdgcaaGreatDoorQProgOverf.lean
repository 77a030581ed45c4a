/- What the proof of ProgOver needs, part 6: plain lemmas, and what each function does. -/
import Derived.Test.YtngdfdangkdgcaaGreatDoorQProgOvere
import Derived.KernelRfl
set_option linter.unusedVariables false
set_option linter.unusedSimpArgs false
set_option linter.unnecessarySimpa false
set_option maxRecDepth 100000
set_option maxHeartbeats 4000000
namespace Go.Proofs.YtngdfdangkdgcaaGreatDoor
open Go.Hw _root_.Go.Proofs.Tryz
section
variable {s s' s2 : Shd} {a : Ag} {A : List Ag} {acc : List SlotV} {al : Int → Bool} {G G' : Int → Blb} {n n' : Nat} {r : Run} {ps pn : List Key3} {b b' : Int} {who series : Int} {k : Nat} {fl se : Option (Int × SlotV)} {held : List Prt}
theorem pre_drop_take {L M : List Smp} (h : L <+: M) {d c : Nat} (hl : d + c ≤ L.length) : (M.drop d).take c = (L.drop d).take c := by
 obtain ⟨t, rfl⟩ := h
 rw [List.drop_append_of_le_length O0, Xo O21]
theorem cap_rng (r : Run) : 0 ≤ r.cap ∧ r.cap ≤ 1000 := by unfold Run.cap; omega
theorem tell_step (hI : Inv s (a :: A) acc al G n) (hr : RunOk al r) (hk : r.o.kind = 6) (hR : Rel G s r a k) (hn : n + 2 ≤ 1000000000) (hTg : ∀ id, 1 ≤ id → id ≤ s.b.last → CodOk (G id).tag) : r.TellOk s ∧ ∃ a' acc' G', Out A al s G n r k (r.tell s) a' acc' G' := by
 have hlast := hI.last
 have hadd : r.adds = 0 := if_neg O0
 have h1l : s.b.last ≤ s.b.last + r.adds := by omega
 have hcap := cap_rng r
 have hcr : min (max r.o.N 0) 1000 = r.cap := rfl
 have hte := Run.tell_eq r s
 rw [hcr] at hte
 cases hR with
 | make hk' => exact absurd hk' O10
 | put hk' => exact absurd hk' O10
 | hard hk' => omega
 | read hk' => omega
 | idle h0 hf hb =>
  refine ⟨⟨hI.tfits, fun h => by omega, by rw [hb.got]; exact Ud _, fun h => absurd h0 h⟩, ?_⟩
  rw [if_pos h0] at hte
  rw [hte]
  rcases run_use hI with ⟨u1, u2⟩ | ⟨u1, u2⟩ | ⟨o, u1, u2, u3, u4, u5, u6, u7⟩
  ·rw [u2, if_neg Xd]
   refine ⟨_, _, G, (hI.set_n hn).2, fun _ _ => rfl, Ut _, h1l, fun _ h1 h2 => absurd h1 (Vi.2 h2), Keeps.refl _ _, rfl, rfl, rfl, rfl, .point rfl rfl (holds0 hf hb.using_ hb.held) rfl ?_⟩
   rw [act_noiter hr.bad (.inl hk) (by show mget r.o.iter (itsOf s.t.l G) = none; rw [itsOf_get, u1]; rfl)]; rfl
  ·rw [u2, if_neg Xd]
   exact ⟨_, _, G, (hI.set_n hn).2, fun _ _ => rfl, Ut _, h1l, fun _ h1 h2 => absurd h1 (Vi.2 h2), Keeps.refl _ _, rfl, rfl, rfl, rfl, .none rfl h0 (.inr ⟨.inl hk, u1⟩)⟩
  ·rw [u3, if_pos rfl]
   have hon : s.t.on r.o.iter = o := by unfold Tb.on; rw [u1]; rfl
   rw [hon]
   by_cases hc : r.cap = 0
   ·rw [if_pos hc]
    obtain ⟨s', h1, h2, h3, h4, h5, h6⟩ := hand_step (r := { r with using_ := true, x := o.x, told := o.told, ph := 2 }) (L := []) u4 u5 rfl rfl hr.bad hk (by show [] = (_ : List Smp).take r.cap.toNat; rw [hc]; rfl)
    rw [h1]
    have h4' : s'.b.last = s.b.last ∧ s'.b.budget = s.b.budget := by rw [h4]; exact ⟨rfl, rfl⟩
    refine ⟨_, acc, G, (h2.set_n hn).2, fun _ _ => rfl, by show _ ≤ s'.b.last; omega, by show s'.b.last ≤ _; omega, fun _ h1 h2 => absurd h1 (Vi.2 (Vw h2 O24)), u6.trans h3, rfl, rfl, ?_, h4'.2, .point rfl rfl (holds0 hf rfl hb.held) rfl ?_⟩
    ·show s'.c.clk.most = _; rw [h5]
    ·rw [u7] at h6; exact h6
   ·rw [if_neg hc]
    obtain ⟨o1, o2, o3, o4, _⟩ := hI.tab.on _ _ u1
    have hfew := o1.few
    refine ⟨_, acc, G, (u4.set_n hn).2, fun _ _ => rfl, Ut _, h1l, fun _ h1 h2 => absurd h1 (Vi.2 h2), u6, rfl, rfl, rfl, rfl, .some rfl ⟨hr.over, hr.bad, hr.wf, hr.al, hr.s4, hr.s5, hr.n4, hr.n5, O_t, hr.f0, hr.f3⟩ (6 * o.x.parts.length + 1) ?_ (.inl (by rw [need_next hk u1]; omega)) u7 (fun h => absurd h O10)⟩
    refine Rel.next (r := { r with using_ := true, x := o.x, told := o.told, ph := if o.x.parts.length = 0 then 3 else 2 }) hk hf hb.held rfl (o := { o with used := true, who := r.who }) (pn := []) u5 rfl rfl rfl rfl ?_ hc ?_
    ·show PartSt G o.x o.series r.one r.i r.got [] _
     rw [hb.one, hb.i, hb.got]; exact PartSt.new G o.x o.series
    ·show (((if o.x.parts.length = 0 then (3 : Int) else 2) = 2 ∧ r.i ≠ _ ∧ (r.got.length : Int) < o.told + r.cap) ∨ ((if o.x.parts.length = 0 then (3 : Int) else 2) = 3 ∧ r.one = none ∧ _ ∧ (r.i = (o.x.parts.length : Int) ∨ _)))
     rw [hb.i, hb.got, hb.one]
     by_cases h0 : o.x.parts.length = 0
     ·rw [if_pos h0]; exact .inr ⟨rfl, rfl, rfl, .inl O0⟩
     ·rw [if_neg h0]; exact .inl ⟨rfl, by show (0 : Int) ≠ (o.x.parts.length : Int); omega, by show (0 : Int) < o.told + r.cap; omega⟩
 | @next _ hf hh hu o pn k hg hou how hox hot hp hn0 hph =>
  obtain ⟨o', h1, _, _, o1, o2, o3, o4⟩ := hI.mine rfl
  rw [hg] at h1
  obtain rfl := Un h1
  have hxok : SnpOk G s.b.last r.x := by rw [← hox]; exact o1
  have hfew := hxok.few
  have htail := hxok.tail
  have hsl := Snp.len hxok
  have hgl := hp.got_len hxok.prts
  have hon : s.t.on r.o.iter = o := by unfold Tb.on; rw [hg]; rfl
  rw [hon] at hte
  rw [hox] at o3
  have ht0 : 0 ≤ r.told ∧ r.told ≤ 800007 := by omega
  have hS : ∀ p ∈ r.x.parts, ∃ e, mget p.blob s.b.l = some e ∧ (G p.blob).Ok e.bs := fun p hp => by
   obtain ⟨e, he, ho, _⟩ := hI.sto.alive (cnt_tab hg (show p ∈ o.x.parts by rw [hox]; exact hp))
   exact ⟨e, he, ho⟩
  have hplen := hI.pins_le
  rw [Uh, Ua] at hplen
  rcases hph with ⟨h2, hi, hlt⟩ | ⟨h3, hone, hpn, hfull⟩
  ·obtain ⟨z, hz⟩ : ∃ z, r.part s o.series = z := ⟨_, rfl⟩
   rw [if_neg O0, if_pos h2, hz] at hte
   have hpo := part_all hI rfl hp hxok hi o4 hS hTg
   obtain ⟨_, hst⟩ := part_step (s := s) hp hxok hlast hi o4 hI.cac_in hS
   rw [hte]
   rcases hst with ⟨one, i, got, pn', k', C, e1, e2, e3, e4, e5⟩ | ⟨y, kk, e1, e2, e3, e4, e5⟩
   ·have hp1 := e2.pins1
    refine ⟨⟨hI.tfits, fun _ => by rw [hon]; exact ⟨hpo, by rw [e1]; exact e4.good.ok O25⟩, O_o, fun _ h => absurd h2 h⟩, ?_⟩
    rw [e1] at hz
    rw [← hz, if_neg (fun h => h rfl)]
    dsimp only
    have hwt : wI (r.told + r.cap) = r.told + r.cap := jf O0 O0
    rw [hwt, hox]
    have hI' := hI.cache (pn := pn') O0 e4
    have hgl' := e2.got_len hxok.prts
    refine ⟨_, acc, G, hI'.mono O0 O0, fun _ _ => rfl, Ut _, h1l, fun _ h1 h2 => absurd h1 (Vi.2 h2), Keeps.same rfl rfl, rfl, rfl, e5, rfl, .some rfl ⟨hr.over, hr.bad, hr.wf, hr.al, hr.s4, hr.s5, hr.n4, hr.n5, hr.xp, hr.f0, hr.f3⟩ (k' + 1) ?_ (.inl O0) rfl (fun h => absurd h O10)⟩
    refine Rel.next (r := { r with one := one, i := i, got := got, ph := if i = (r.x.parts.length : Int) ∨ (got.length : Int) ≥ r.told + r.cap then 3 else 2 }) hk hf hh hu hg hou how hox hot e2 hn0 ?_
    show ((if i = (r.x.parts.length : Int) ∨ (got.length : Int) ≥ r.told + r.cap then (3 : Int) else 2) = 2 ∧ i ≠ _ ∧ (got.length : Int) < r.told + r.cap) ∨ ((if i = (r.x.parts.length : Int) ∨ (got.length : Int) ≥ r.told + r.cap then (3 : Int) else 2) = 3 ∧ one = none ∧ pn' = [] ∧ (i = (r.x.parts.length : Int) ∨ r.told + r.cap ≤ (got.length : Int)))
    by_cases h0 : i = (r.x.parts.length : Int) ∨ (got.length : Int) ≥ r.told + r.cap
    ·rw [if_pos h0]
     have hnone : one = none ∧ pn' = [] := by
      rcases h0 with h0 | h0
      ·rw [h0] at e2
       exact ⟨e2.full.2.1, e2.full.2.2⟩
      ·obtain ⟨j, q1, q2, q3, ⟨q4, q5, _⟩ | ⟨y, p, kk, q4, q5, _⟩⟩ := e2
       ·exact ⟨q4, q5⟩
       ·exfalso
        rw [Run.part_eq] at e1
        split at e1
        ·have := congrArg (fun z => z.2.2) e1
         dsimp only at this
         rename_i hne
         exact hne this
        ·split at e1
         ·have := congrArg (fun z : Run × Shd × Int => z.1.one) e1
          dsimp only at this
          rw [← this] at q4; cases q4
         ·have := congrArg (fun z : Run × Shd × Int => z.1.got) e1
          dsimp only at this
          rw [← this] at h0
          omega
     exact .inr ⟨rfl, hnone.1, hnone.2, h0⟩
    ·rw [if_neg h0]
     exact .inl ⟨rfl, fun h => h0 (.inl h), O_o⟩
   ·refine ⟨⟨hI.tfits, fun _ => by rw [hon]; exact ⟨hpo, by rw [e1]; exact hI.cacOk⟩, O_o, fun _ h => absurd h2 h⟩, ?_⟩
    rw [e1] at hz
    rw [← hz, if_pos (show (6 : Int) ≠ 0 by decide)]
    obtain ⟨c1, c2⟩ := e3.leave (ps := A.flatMap Ag.pins) (C := s.c) (by
     have := hI.cac_in
     (try dsimp only at this)
     rw [e2] at this
     exact this)
    have hI1 := hI.cache (pn := []) (Ud _) c1
    have hm : Tb.mine s.t r.o.iter r.who = some o := by
     unfold Tb.mine
     rw [hg]
     dsimp only
     rw [if_pos ⟨hou, how⟩]
    have hI2 := hI1.frees (o := o) (told := o.told) rfl hg o2 (by rw [hox]; exact o3)
    have key : ((({ r with one := some y } : Run).fail s).1.free (({ r with one := some y } : Run).fail s).2) = ({ r with one := some (y.leave s.c).1, using_ := false }, { s with c := (y.leave s.c).2, t := ⟨s.t.last, mset r.o.iter { o with used := false } s.t.l⟩ }) := by
     rw [Run.free_eq]
     unfold Run.fail Tb.free
     dsimp only
     rw [hm]
    dsimp only
    rw [key]
    refine ⟨_, acc, G, (hI2.set_n hn).2, fun _ _ => rfl, Ut _, h1l, fun _ h1 h2 => absurd h1 (Vi.2 h2), Keeps.on hg (.inr how) rfl rfl, rfl, rfl, c2, rfl, .busy rfl rfl (holds0 hf rfl hh) rfl ?_ rfl (allPinned_of (al := al) (G := G) (b := s.b.last) (by
     have hcc := hI.cac_in
     (try dsimp only at hcc)
     rw [e2] at hcc
     exact hcc) e4 e5) (.inr hk)⟩
    show (⟨serOf s.d G, itsOf (mset r.o.iter { o with used := false } s.t.l) G, s.t.last⟩ : Mdl) = _
    rw [show itsOf (mset r.o.iter { o with used := false } s.t.l) G = itsOf s.t.l G from itsOf_same hg rfl rfl]; rfl
  ·rw [if_neg O0, if_neg O0] at hte
   refine ⟨⟨hI.tfits, fun h => by omega, O_o, fun _ _ => ht0.1⟩, ?_⟩
   rw [hte]
   rw [hpn] at hI hp
   have hpre := hp.pre
   have hL : r.told_ o r.cap = ((o.x.all G).drop o.told.toNat).take r.cap.toNat := by
    unfold Run.told_
    dsimp only
    rw [hox, hot]
    by_cases hi : r.i = (r.x.parts.length : Int)
    ·rw [if_pos hi]
     rw [hi] at hp
     rw [hp.full.1]
     rw [show (min r.told ((r.x.all G).length : Int)) = r.told by omega]
     generalize (r.x.all G).drop r.told.toNat = M
     by_cases hm : r.cap ≤ (M.length : Int)
     ·rw [show min r.cap (M.length : Int) = r.cap by omega]
     ·rw [show min r.cap (M.length : Int) = (M.length : Int) by omega, Uv O0, Uv O0]
    ·rw [if_neg hi]
     have hgc : r.told + r.cap ≤ (r.got.length : Int) := by
      rcases hfull with h | h
      ·exact absurd h hi
      ·exact h
     rw [show min r.told (r.got.length : Int) = r.told by omega, pre_drop_take hpre (d := r.told.toNat) (c := r.cap.toNat) O0]
     have : ((r.got.drop r.told.toNat).length : Int) = (r.got.length : Int) - r.told := by rw [Ur]; omega
     rw [show min r.cap ((r.got.drop r.told.toNat).length : Int) = r.cap by omega]
   obtain ⟨s', h1, h2, h3, h4, h5, h6⟩ := hand_step hI hg hou how hr.bad hk hL
   rw [h1]
   have h4' : s'.b.last = s.b.last ∧ s'.b.budget = s.b.budget := by rw [h4]; exact ⟨rfl, rfl⟩
   refine ⟨_, acc, G, (h2.set_n hn).2, fun _ _ => rfl, by show _ ≤ s'.b.last; omega, by show s'.b.last ≤ _; omega, fun _ h1 h2 => absurd h1 (Vi.2 (Vw h2 O24)), h3, rfl, rfl, ?_, h4'.2, .point rfl rfl (holds0 hf rfl hh) rfl h6⟩
   show s'.c.clk.most = _; rw [h5]
theorem run_step (hI : Inv s (a :: A) acc al G n) (hr : RunOk al r) (hR : Rel G s r a k) (hn : n + 2 ≤ 1000000000) (hb : s.b.last < 100000) (hTg : ∀ id, 1 ≤ id → id ≤ s.b.last → CodOk (G id).tag) : r.StepOk s ∧ ∃ a' acc' G', Out A al s G n r k (r.step s) a' acc' G' := by
 have hst : r.step s = if r.o.kind = 2 then r.read s else if r.o.kind = 5 then r.open_ s else if r.o.kind = 6 then r.tell s else if r.o.kind = 7 then r.shut s else r.write s := by
  unfold Run.step
  rw [hr.over, if_neg Xd, hr.bad, if_neg Xd]
 rw [hst]
 by_cases h2 : r.o.kind = 2
 ·rw [if_pos h2]
  obtain ⟨q1, q2⟩ := read_step hI hr h2 hR hn hTg
  exact ⟨⟨fun _ _ _ => q1, fun _ _ h => by omega, fun _ _ h => by omega, fun _ _ h => by omega, fun _ _ h => absurd h2 h⟩, q2⟩
 rw [if_neg h2]
 by_cases h5 : r.o.kind = 5
 ·rw [if_pos h5]
  obtain ⟨q1, q2⟩ := open_step hI hr h5 hR hn
  exact ⟨⟨fun _ _ h => absurd h h2, fun _ _ _ => q1, fun _ _ h => by omega, fun _ _ h => by omega, fun _ _ _ h => absurd h5 h⟩, q2⟩
 rw [if_neg h5]
 by_cases h6 : r.o.kind = 6
 ·rw [if_pos h6]
  obtain ⟨q1, q2⟩ := tell_step hI hr h6 hR hn hTg
  exact ⟨⟨fun _ _ h => absurd h h2, fun _ _ h => absurd h h5, fun _ _ _ => q1, fun _ _ h => by omega, fun _ _ _ _ h => absurd h6 h⟩, q2⟩
 rw [if_neg h6]
 by_cases h7 : r.o.kind = 7
 ·rw [if_pos h7]
  obtain ⟨q1, q2⟩ := shut_step hI hr h7 hR hn
  exact ⟨⟨fun _ _ h => absurd h h2, fun _ _ h => absurd h h5, fun _ _ h => absurd h h6, fun _ _ _ => q1, fun _ _ _ _ _ h => absurd h7 h⟩, q2⟩
 rw [if_neg h7]
 have hw : r.wrt := by
  have hb := hr.bad
  unfold Run.bad at hb
  by_cases hk : 1 ≤ r.o.kind ∧ r.o.kind ≤ 5
  ·unfold Run.wrt; omega
  ·rw [if_neg hk] at hb
   simp [h6, h7] at hb
 obtain ⟨q1, q2⟩ := write_step hI hr hw hR hn hb
 exact ⟨⟨fun _ _ h => absurd h h2, fun _ _ h => absurd h h5, fun _ _ h => absurd h h6, fun _ _ h => absurd h h7, fun _ _ _ _ _ _ => q1⟩, q2⟩
end
section
section
variable {w0 w : World} {l : List HProp} {t p : Nat} {r : Run} {s : Shd} {q : RunQ}
theorem prog_Holds (h : St w0 (IsRun t r :: l) w) :
  Ret prog 16 [.pz t] w fun v w' => v = .iz r.holds ∧ St w0 (IsRun t r :: l) w' := by
 obtain ⟨P, hP⟩ : ∃ P : Nat → Int, P = fun k => (if 1 ≤ k ∧ r.flag = true then 1 else 0) + (if 2 ≤ k ∧ r.using_ = true then 1 else 0) + (if 3 ≤ k ∧ r.held = true then 1 else 0) := ⟨_, rfl⟩
 have p0 : P 0 = 0 := by rw [hP]; rfl
 have hPr : ∀ k, 0 ≤ P k ∧ P k ≤ 3 := by
  intro k
  rw [hP]
  dsimp only
  split <;> split <;> split <;> omega
 have p3 : P 3 = r.holds := by
  rw [hP]
  unfold Run.holds
  cases r.flag <;> cases r.using_ <;> cases r.held <;> rfl
 have hh := h
 obtain ⟨q, h⟩ := (St.run (r := r)).1 h
 replace h : St w0 (RunPt t r q :: (r.rows q ++ l)) w := h
 generalize hX : r.rows q ++ l = X at h
 refine en func16 results16 ntmps16 ?_
 refine Yq ?_; refine Yq ?_
 refine qi (qi (jb none (fun w => St w0 (RunPt t r q :: X) w) O1 O1 h.drew fun w h => ?_))
 refine Y5 ?_
 refine qq rfl rfl rfl rfl h (fun _ h => qb rfl (qj (v := .bool r.flag) rfl (h.b 0 rfl) rfl)) ?_
 refine Y5 ?_
 refine qq rfl rfl rfl rfl h (fun _ h => qb rfl (qj (v := .bool r.using_) rfl (h.b 0 rfl) rfl)) ?_
 refine Y5 ?_
 refine qq rfl rfl rfl rfl h (fun _ h => qb rfl (qj (v := .bool r.held) rfl (h.b 0 rfl) rfl)) ?_
 refine Yp ?_; refine Y18 ?_
 refine qn 12 rfl rfl rfl rfl ?_
 refine jv (r := [.bool r.flag, .bool r.using_, .bool r.held]) h rfl rfl rfl fun b w h => ⟨fun _ => h.drop, ?_⟩
 have hφ := h.drop
 refine qv rfl rfl rfl rfl (fun _ => hφ) (fun _ => qb rfl (q_len rfl)) ?_
 refine qp ?_
 refine Yh ?_
 refine jd (Γ := Nat) (fun i => [(3, .iz (P i)), (18, .slice (sQ b) 3 3), (19, .iz 3), (20, .iz (i : Int))]) (fun i w => i ≤ 3 ∧ St w0 (pt b (.cells [.bool r.flag, .bool r.using_, .bool r.held].toArray 4 (0, 0)) :: RunPt t r q :: X) w) (fun i => 3 - i) 0 ⟨by rw [p0]; rfl, rfl, rfl, rfl, trivial⟩ ⟨Ud _, h⟩ ?_
 clear h
 rintro i w e ⟨hi, h⟩
 refine Y3j ?_
 by_cases hlt : i < 3
 ·refine qz (.bool true) O3 ?_
  refine Y3v ?_; refine Yk ?_
  refine ql (Γ := Unit) (fun _ => [(3, .iz (P (i + 1))), (18, .slice (sQ b) 3 3), (19, .iz 3), (20, .iz (i : Int))]) (fun _ w => St w0 (pt b (.cells [.bool r.flag, .bool r.using_, .bool r.held].toArray 4 (0, 0)) :: RunPt t r q :: X) w) (c_block ?_) ?_
  rotate_left
  ·rintro _ w e h
   refine Ys ?_
   refine qz (.iz ((i + 1 : Nat) : Int)) O22 ?_
   refine Y0 ?_
   exact qu ⟨i + 1, zz4, ⟨O_o, h⟩, O_o⟩
  obtain rfl | rfl | rfl : i = 0 ∨ i = 1 ∨ i = 2 := by omega
  ·have hp : P 1 = P 0 + (if r.flag = true then 1 else 0) := by
    rw [hP]
    dsimp only
    cases r.flag <;> cases r.using_ <;> cases r.held <;> rfl
   refine Y1 ?_
   refine qh (jh (j := 0) (o' := 0) rfl rfl rfl O2 rfl) rfl ?_
   refine qh (qj (v := .bool r.flag) rfl (h.b 0 rfl) rfl) rfl ?_
   refine Y9 ?_; refine Y36 ?_
   refine qu (qt r.flag rfl (fun hc => ?_) (fun hc => ?_))
   ·rw [if_pos hc] at hp
    refine Y30 ?_
    refine qz (.iz (P 1)) (by rw [hp, wrap64 (by have := hPr 0; omega) (by have := hPr 0; omega)]) ?_
    refine Y7 ?_
    exact qu ⟨(), zz4, h⟩
   ·rw [if_neg (by rw [hc]; decide), Int.add_zero] at hp
    exact q9 ⟨(), ⟨by rw [hp]; rfl, rfl, rfl, rfl, trivial⟩, h⟩
  ·have hp : P 2 = P 1 + (if r.using_ = true then 1 else 0) := by
    rw [hP]
    dsimp only
    cases r.flag <;> cases r.using_ <;> cases r.held <;> rfl
   refine Y1 ?_
   refine qh (jh (j := 1) (o' := 1) rfl rfl rfl O2 rfl) rfl ?_
   refine qh (qj (v := .bool r.using_) rfl (h.b 0 rfl) rfl) rfl ?_
   refine Y9 ?_; refine Y36 ?_
   refine qu (qt r.using_ rfl (fun hc => ?_) (fun hc => ?_))
   ·rw [if_pos hc] at hp
    refine Y30 ?_
    refine qz (.iz (P 2)) (by rw [hp, wrap64 (by have := hPr 1; omega) (by have := hPr 1; omega)]) ?_
    refine Y7 ?_
    exact qu ⟨(), zz4, h⟩
   ·rw [if_neg (by rw [hc]; decide), Int.add_zero] at hp
    exact q9 ⟨(), ⟨by rw [hp]; rfl, rfl, rfl, rfl, trivial⟩, h⟩
  ·have hp : P 3 = P 2 + (if r.held = true then 1 else 0) := by
    rw [hP]
    dsimp only
    cases r.flag <;> cases r.using_ <;> cases r.held <;> rfl
   refine Y1 ?_
   refine qh (jh (j := 2) (o' := 2) rfl rfl rfl O2 rfl) rfl ?_
   refine qh (qj (v := .bool r.held) rfl (h.b 0 rfl) rfl) rfl ?_
   refine Y9 ?_; refine Y36 ?_
   refine qu (qt r.held rfl (fun hc => ?_) (fun hc => ?_))
   ·rw [if_pos hc] at hp
    refine Y30 ?_
    refine qz (.iz (P 3)) (by rw [hp, wrap64 (by have := hPr 2; omega) (by have := hPr 2; omega)]) ?_
    refine Y7 ?_
    exact qu ⟨(), zz4, h⟩
   ·rw [if_neg (by rw [hc]; decide), Int.add_zero] at hp
    exact q9 ⟨(), ⟨by rw [hp]; rfl, rfl, rfl, rfl, trivial⟩, h⟩
 ·refine qz (.bool false) O4 ?_
  refine qu (qi (qr rfl (ju ?_)))
  obtain rfl : i = 3 := by omega
  refine Ya ?_; refine Y7 ?_
  refine qu (qk (bq1 ⟨by rw [p3]; rfl, ?_⟩))
  rw [← hX] at h
  exact (St.run (r := r)).2 ⟨q, h.drop⟩
end
end
section
section
variable {w0 w : World} {l : List HProp} {t p : Nat} {r r' : Run} {s s' : Shd} {n : Nat} {d : Int}
inductive Solo : Run → Shd → Nat → Run → Shd → Int → Prop
 | last {r : Run} {s : Shd} {d : Int} (hok : r.StepOk s) (hd : (r.step s).2.2 = d) (h : d = 2 ∨ d = 3) : Solo r s 1 (r.step s).1 (r.step s).2.1 d
 | more {r : Run} {s : Shd} {n : Nat} {r' : Run} {s' : Shd} {d : Int} (hok : r.StepOk s) (hd : (r.step s).2.2 = 1) (h : Solo (r.step s).1 (r.step s).2.1 n r' s' d) : Solo r s (n + 1) r' s' d
theorem law22_whole (h : St w0 (IsSh p s :: l) w) : Ret prog 12 [.pz p] w fun v w' => v = .bool true ∧ St w0 (IsSh p s :: l) w' := by
 refine en func12 results12 ntmps12 ?_
 refine Y12 ?_; refine Ym ?_; refine qh (q_nenil rfl rfl) rfl ?_; refine Y33 ?_
 refine qw rfl (qg rfl (shd_Dir h) ?_)
 clear h
 rintro _ w ⟨q, rfl, h⟩
 replace h := St.shd.2 ⟨q, h⟩
 refine Ye ?_; refine qh (q_nenil rfl rfl) rfl ?_; refine Yg ?_; refine Y33 ?_
 refine qw rfl (qg rfl (shd_Cache h) ?_)
 clear h
 rintro _ w ⟨q, rfl, h⟩
 replace h := St.shd.2 ⟨q, h⟩
 refine Ye ?_; refine qh (q_nenil rfl rfl) rfl ?_; refine Yg ?_; refine Y33 ?_
 refine qw rfl (qg rfl (shd_Store h) ?_)
 clear h
 rintro _ w ⟨q, rfl, h⟩
 replace h := St.shd.2 ⟨q, h⟩
 refine Ye ?_; refine qh (q_nenil rfl rfl) rfl ?_; refine Yg ?_; refine Y33 ?_
 refine qw rfl (qg rfl (shd_Iters h) ?_)
 clear h
 rintro _ w ⟨q, rfl, h⟩
 replace h := St.shd.2 ⟨q, h⟩
 refine Ye ?_; refine qh (q_nenil rfl rfl) rfl ?_; refine Y2v ?_
 exact qu (qk (bq1 ⟨rfl, h⟩))
theorem law22_alone (hT : Tz w0) {o : Opr} (hs : Solo (Run.new 0 o) s n r' s' d) (hn : n ≤ 3000) (ho : r'.over = true) (hh : r'.holds = 0) (hl : r'.res.list.length ≤ 1073741824) (h : St w0 (IsSh p s :: l) w) :
  Ret prog 13 [.pz p, .agg o.C.toArray] w fun v w' => ∃ a c, v = .tuple [.agg (r'.res.C a c).toArray, .iz (n : Int), .bool true].toArray ∧ St w0 (OwnS a c r'.res.list :: IsSh p s' :: l) w' := by
 have hout : r'.out = r'.res := by unfold Run.out; rw [ho]; rfl
 refine en func13 results13 ntmps13 ?_
 refine Y1 ?_
 refine qw rfl (jk h (show _ = Value.agg o.C.toArray from rfl) fun b3 w h => ?_)
 refine qw rfl (qc h fun b4 w h => ?_)
 refine Y22 ?_; refine Y1 ?_
 refine qh (qx (l := o.C) rfl rfl (qd (h.b 1 rfl) rfl)) rfl ?_
 refine qw rfl (qg rfl (prog_New 0 o h) ?_)
 clear h
 rintro _ w ⟨t, rfl, h⟩
 obtain ⟨res0, hr0⟩ : ∃ v : List Value, [.iz 0, .iz 0, .slice none 0 0] = v := ⟨_, rfl⟩
 replace h : St w0 (IsRun t (Run.new 0 o) :: pt b4 (.cells [.iz 0, .iz 0, .slice none 0 0].toArray 28 (0, 0)) :: pt b3 (.cells o.C.toArray 33 (0, 0)) :: IsSh p s :: l) w := h
 replace h : St w0 (IsRun t (Run.new 0 o) :: IsSh p s :: pt b4 (.cells [.iz 0, .iz 0, .slice none 0 0].toArray 28 (0, 0)) :: l) w := (h.x [2]).o [0, 2, 1]
 refine Y38 ?_; refine Yb ?_; refine qi ?_; refine Y4h ?_
 refine jd (Γ := Nat × Nat × Run × Shd) (fun g => [(0, .pz p), (4, .pz b4), (7, .pz t), (8, .iz ((g.1 + 1 : Nat) : Int))])
  (fun g w => g.1 + g.2.1 = n ∧ Solo g.2.2.1 g.2.2.2 g.2.1 r' s' d ∧ St w0 (IsRun t g.2.2.1 :: IsSh p g.2.2.2 :: pt b4 (.cells [.iz 0, .iz 0, .slice none 0 0].toArray 28 (0, 0)) :: l) w) (fun g => g.2.1) (0, n, Run.new 0 o, s) zz4 ⟨Ux _, hs, h⟩ ?_
 clear h hs
 rintro ⟨i, m, r, s⟩ w e ⟨him, hs, h⟩
 dsimp only at him hs h ⊢
 have hm1 : 1 ≤ m := by cases hs <;> omega
 refine Y1x ?_; refine Y3w ?_
 refine qz (.bool true) O3 ?_
 refine Yd ?_; refine Y21 ?_; refine Y10 ?_
 have hok : r.StepOk s := by cases hs with | last hok => exact hok | more hok => exact hok
 refine qw rfl (qg rfl (gr hT hok h) ?_)
 clear h
 rintro _ w ⟨rfl, h⟩
 obtain ⟨dd, hdd⟩ : ∃ dd, (r.step s).2.2 = dd := ⟨_, rfl⟩
 rw [hdd]
 have hd0 : dd ≠ 0 := by
  rw [← hdd]
  cases hs with
  | last _ hd h => omega
  | more _ hd => omega
 refine Y3 ?_; refine Y3z ?_
 refine qz (.bool false) (by congr 1; rw [beq_eq_false_iff_ne]; exact hd0) ?_
 refine Yb ?_
 cases hs with
 | last _ hd hdc =>
  rw [hdd] at hd
  subst hd
  generalize hr1 : (r.step s).1 = r1 at h ho hh hl hout
  generalize hs1 : (r.step s).2.1 = s1 at h
  refine ql (Γ := Unit) (fun _ => [(4, .pz b4), (7, .pz t), (8, .iz ((i + 1 : Nat) : Int)), (32, .bool true)]) (fun _ w => St w0 (IsRun t r1 :: IsSh p s1 :: pt b4 (.cells [.iz 0, .iz 0, .slice none 0 0].toArray 28 (0, 0)) :: l) w) ?_ ?_
  ·refine Y1v ?_; refine Yt ?_
   rcases hdc with rfl | rfl
   ·refine qz (.bool true) rfl ?_
    refine Y4l ?_
    exact qu ⟨(), zz4, h⟩
   ·refine qz (.bool false) rfl ?_
    refine Y3u ?_; refine Y8 ?_
    exact qu ⟨(), zz4, h⟩
  clear h
  rintro _ w e h
  refine Y1i ?_; refine Ym ?_
  refine qw rfl (qg rfl (vq hl h) ?_)
  clear h
  rintro _ w ⟨a, c, rfl, h⟩
  rw [hout, ho]
  rw [hout] at h
  refine Y2z ?_
  refine qw rfl (qc h fun b10 w h => ?_)
  refine qw rfl (qy (vs := r1.res.C a c) 0 h rfl rfl rfl rfl rfl rfl rfl fun w h => ?_)
  refine Y4 ?_
  replace h : St w0 (IsRun t r1 :: pt b10 (.cells (r1.res.C a c).toArray 28 (0, 0)) :: OwnS a c r1.res.list :: IsSh p s1 :: pt b4 (.cells [.iz 0, .iz 0, .slice none 0 0].toArray 28 (0, 0)) :: l) w := h.f 2
  refine Y2e ?_
  refine c_anyR [0, 6, 1, 2, 3, 4, 8, 9, 5, 7, 10] (some 8) (fun w => St w0 (IsRun t r1 :: pt b10 (.cells (r1.res.C a c).toArray 28 (0, 0)) :: OwnS a c r1.res.list :: IsSh p s1 :: pt b4 (.cells [.iz 0, .iz 0, .slice none 0 0].toArray 28 (0, 0)) :: l) w) O1 O1 h.drew fun w h => ?_
  refine qq rfl rfl rfl rfl h (fun _ h => qb rfl (qx (l := r1.res.C a c) rfl rfl (qd (h.b 1 rfl) rfl))) ?_
  refine Y18 ?_; refine Yu ?_; refine Yu ?_; refine qv rfl rfl rfl rfl (fun _ => h) (fun _ => qf rfl rfl (j1 rfl)) ?_; refine Y2o ?_
  refine qn 5 rfl rfl rfl (wanted_g rfl rfl rfl) ?_
  refine qg rfl (prog_Holds h) ?_
  clear h
  rintro _ w ⟨rfl, h⟩
  rw [hh]
  refine ⟨fun _ => h, ?_⟩
  refine qv rfl rfl rfl rfl (fun _ => h) (fun _ => qf rfl rfl (gj rfl rfl)) (cpv rfl rfl rfl rfl h rfl (jl rfl rfl rfl) ?_); refine Y11 ?_
  refine jz 8 none rfl rfl rfl rfl ?_
  refine qy (vs := r1.res.C a c) 4 h rfl rfl rfl rfl rfl rfl rfl fun w h => ?_
  refine jx h ?_
  refine Y2r ?_; refine Y1d ?_
  exact qp (qk (bqS3 (l := r1.res.C a c) rfl rfl (qd (h.b 4 rfl) rfl) ⟨a, c, by rw [← him]; rfl, (h.x [0, 1, 4]).o [0, 1]⟩))
 | more _ hd hs =>
  rw [hdd] at hd
  subst hd
  refine Y4a ?_
  refine qz (.bool false) rfl ?_
  refine Y3u ?_; refine Y8 ?_; refine Yb ?_; refine Y30 ?_
  refine qz (.iz ((i + 1 + 1 : Nat) : Int)) O22 ?_
  refine Y7 ?_
  exact qu ⟨(i + 1, _, _, _), zz4, ⟨O_d, hs, h⟩, O_d⟩
end
end
section
variable {s s' s2 : Shd} {a : Ag} {A : List Ag} {acc : List SlotV} {al : Int → Bool} {G G' : Int → Blb} {n n' : Nat} {r r' : Run} {who : Int} {k : Nat}
def Quiet (r : Run) (s : Shd) : Prop := r.o.kind = 2 → r.flag = false → r.ph ≠ 0 → ∃ sl, Dir.look s.d r.o.series = some sl ∧ sl.life = r.x.life ∧ sl.ver = r.x.ver
theorem begin_quiet {sl : SlotV} (hk : r.o.kind = 2) (hs : r.flag = true ∨ Dir.look s.d r.o.series = some sl) (h : (r.begin_ s sl).2.2 = 1) : Quiet (r.begin_ s sl).1 (r.begin_ s sl).2.1 ∧ (r.begin_ s sl).1.ph ≠ 0 := by
 obtain ⟨z, hz⟩ : ∃ z, r.begin_ s sl = z := ⟨_, rfl⟩
 rw [hz] at h ⊢
 unfold Run.begin_ at hz
 by_cases ht : sl.there = false
 ·rw [if_pos ht] at hz
  subst hz
  cases h
 ·rw [if_neg ht] at hz
  dsimp only at hz
  generalize s.b.hold [] (sl.snap r.o.F r.o.To).parts = q at hz
  obtain ⟨q1, q2⟩ := q
  cases q1 with
  | false => subst hz; cases h
  | true =>
   subst hz
   refine ⟨fun _ hf _ => ?_, ?_⟩
   ·have hf' : r.flag = false := hf
    rcases hs with hs | hs
    ·rw [hs] at hf'; cases hf'
    ·exact ⟨sl, hs, rfl, rfl⟩
   ·show (if (sl.snap r.o.F r.o.To).parts.length = 0 then (3 : Int) else 2) ≠ 0
    split <;> decide
theorem read_quiet (hk : r.o.kind = 2) (hQ : Quiet r s) (h1 : r.ph = 1 → r.flag = true) (h : (r.read s).2.2 = 1) : Quiet (r.read s).1 (r.read s).2.1 ∧ (r.read s).1.ph ≠ 0 := by
 obtain ⟨z, hz⟩ : ∃ z, r.read s = z := ⟨_, rfl⟩
 rw [hz] at h ⊢
 unfold Run.read at hz
 by_cases p0 : r.ph = 0
 ·rw [if_pos p0] at hz
  unfold Run.look at hz
  by_cases hf : r.fails ≥ 3
  ·rw [if_pos hf] at hz
   unfold Run.take at hz
   cases hl : Dir.look s.d r.o.series with
   | none => rw [hl] at hz; subst hz; cases h
   | some sl =>
    rw [hl] at hz
    dsimp only at hz
    cases ht : Dir.take s.d r.o.series r.who with
    | none => rw [ht] at hz; subst hz; cases h
    | some D =>
     rw [ht] at hz
     subst hz
     exact ⟨fun _ hf _ => (by cases hf), by show (1 : Int) ≠ 0; decide⟩
  ·rw [if_neg hf] at hz
   cases hl : Dir.look s.d r.o.series with
   | none => rw [hl] at hz; subst hz; cases h
   | some sl =>
    rw [hl] at hz
    subst hz
    exact begin_quiet hk (.inr hl) h
 ·rw [if_neg p0] at hz
  by_cases p1 : r.ph = 1
  ·rw [if_pos p1] at hz
   subst hz
   exact begin_quiet hk (.inl (h1 p1)) h
  ·rw [if_neg p1] at hz
   by_cases p2 : r.ph = 2
   ·rw [if_pos p2, Run.part_eq] at hz
    by_cases c1 : ((r.cur r.o.series).step s.b s.c).2.2 ≠ 0
    ·rw [if_pos c1] at hz
     dsimp only at hz
     rw [if_pos c1] at hz
     subst hz; cases h
    ·rw [if_neg c1] at hz
     by_cases c2 : ((r.cur r.o.series).step s.b s.c).1.done = true
     ·rw [if_pos c2] at hz
      dsimp only at hz
      rw [if_neg (fun h => h rfl)] at hz
      subst hz
      refine ⟨fun _ hf _ => hQ hk hf p0, ?_⟩
      show (if _ then (3 : Int) else 2) ≠ 0
      split <;> decide
     ·rw [if_neg c2] at hz
      dsimp only at hz
      rw [if_neg (fun h => h rfl)] at hz
      subst hz
      refine ⟨fun _ hf _ => hQ hk hf p0, ?_⟩
      show (if _ then (3 : Int) else 2) ≠ 0
      split <;> decide
   ·rw [if_neg p2] at hz
    by_cases hf : r.flag = true
    ·rw [if_pos hf] at hz
     subst hz; cases h
    ·rw [if_neg hf] at hz
     obtain ⟨sl, q1, q2, q3⟩ := hQ hk (by cases hx : r.flag with | false => rfl | true => exact absurd hx hf) p0
     rw [q1] at hz
     dsimp only at hz
     rw [if_pos ⟨q2, q3⟩] at hz
     subst hz; cases h
theorem Rel.pos (h : Rel G s r a k) : 1 ≤ k := by
 cases h with
 | idle => unfold Run.need; split <;> (try split) <;> (try split) <;> omega
 | _ => omega
theorem Rel.ph1 (h : Rel G s r a k) (h1 : r.ph = 1) : r.flag = true := by
 cases h with
 | idle h0 => omega
 | make _ _ hf => exact hf
 | put _ _ hf => exact hf
 | hard _ _ hf => exact hf
 | read _ _ _ _ _ _ _ _ hph => omega
 | next _ _ _ _ _ _ _ _ _ _ _ hph => omega
inductive End_ (A : List Ag) (s : Shd) (G : Int → Blb) (r : Run) (s' : Shd) (G' : Int → Blb) (res : Res) : Int → Prop
 | point (ha : (abs s G).act r.o = (abs s' G', res)) : End_ A s G r s' G' res 2
 | full (ha : abs s' G' = abs s G) (hr : res = ⟨9, 0, []⟩) (hp : r.ph = 0 ∨ r.ph = 1) (hk : r.wrt) (hb : s'.b = s.b) (hw : (r.o.kind = 1 ∧ (s.b.room < 16 ∨ ∃ sl : SlotV, sl.opn.length = 7 ∧ (r.ph = 1 → sl = r.slot) ∧ (r.ph = 0 → Dir.look s.d r.o.series = some sl))) ∨ r.o.kind = 3) (hroom : s.b.room < 300) : End_ A s G r s' G' res 3
 | busy (ha : abs s' G' = abs s G) (hr : res = ⟨6, 0, []⟩) (hk : r.o.kind = 2 ∨ r.o.kind = 6) (hc : AllPinned A s.c) : End_ A s G r s' G' res 3
structure Kpt (who : Int) (s : Shd) (G : Int → Blb) (s' : Shd) (G' : Int → Blb) : Prop where
 same : ∀ id, id ≤ s.b.last → G' id = G id
 le : s.b.last ≤ s'.b.last
 tag : ∀ id, s.b.last < id → id ≤ s'.b.last → (G' id).tag = 1 ∧ (G' id).L.length ≤ 8
 keeps : Keeps who s s'
 most : s'.c.clk.most = s.c.clk.most
 budget : s'.b.budget = s.b.budget
theorem Kpt.refl (who : Int) (s : Shd) (G : Int → Blb) : Kpt who s G s G := ⟨fun _ _ => rfl, Ut _, fun _ h1 h2 => absurd h1 (Vi.2 h2), Keeps.refl _ _, rfl, rfl⟩
theorem Kpt.trans {G2 : Int → Blb} (h : Kpt who s G s' G') (h' : Kpt who s' G' s2 G2) : Kpt who s G s2 G2 := by
 refine ⟨fun id hid => (h'.same id (Vw hid h.le)).trans (h.same id hid), Vw h.le h'.le, fun id h1 h2 => ?_, h.keeps.trans h'.keeps, h'.most.trans h.most, h'.budget.trans h.budget⟩
 by_cases hm : id ≤ s'.b.last
 ·rw [h'.same id hm]; exact h.tag id h1 hm
 ·exact h'.tag id O0 h2
theorem Out.kept {q : Run × Shd × Int} {a' : Ag} {acc' : List SlotV} (h : Out A al s G n r k q a' acc' G') : Kpt r.who s G q.2.1 G' := ⟨h.same, h.le, h.tag, h.keeps, h.most, h.budget⟩
theorem AllPinned.same {C C' : Cac} (h : AllPinned A C) (hm : C'.clk.most = C.clk.most) : AllPinned A C' := by
 obtain ⟨ks, h1, h2, h3⟩ := h
 exact ⟨ks, h1, by rw [hm]; exact h2, h3⟩
theorem step_read (ho : r.over = false) (hb : Run.bad r.o = false) (hk : r.o.kind = 2) : r.step s = r.read s := by
 unfold Run.step
 rw [ho, if_neg Xd, hb, if_neg Xd, if_pos hk]
def Run.todo (r : Run) : Int := if (r.o.kind = 1 ∨ r.o.kind = 3 ∨ r.o.kind = 4) ∧ r.ph ≠ 3 then 1 else 0
theorem adds_todo (r : Run) : 0 ≤ r.adds ∧ r.adds ≤ r.todo ∧ r.todo ≤ 1 := by
 unfold Run.adds Run.todo
 split <;> split <;> omega
theorem solo_go : ∀ (N k : Nat) (r : Run) (s : Shd) (a : Ag) (acc : List SlotV) (G : Int → Blb) (n : Nat), k ≤ N → Inv s (a :: A) acc al G n → RunOk al r → Rel G s r a k → Quiet r s → ¬ Blk A r.o → n + 2 * k ≤ 1000000000 → s.b.last + r.todo < 100000 → (∀ id, 1 ≤ id → id ≤ s.b.last → CodOk (G id).tag) →
  ∃ (m : Nat) (r' : Run) (s' : Shd) (d : Int) (acc' : List SlotV) (G' : Int → Blb), Solo r s m r' s' d ∧ 1 ≤ m ∧ m ≤ k ∧ Inv s' (Ag.idle r.who :: A) acc' al G' (n + 2 * m) ∧ Kpt r.who s G s' G' ∧ s'.b.last ≤ s.b.last + r.todo ∧ r'.over = true ∧ r'.holds = 0 ∧ r'.who = r.who ∧ r'.o = r.o ∧ End_ A s G r s' G' r'.res d
 | 0, k, r, s, a, acc, G, n, hkN, hI, hr, hR, hQ, hnb, hn, hb1, hTg => by have := hR.pos; omega
 | N + 1, k, r, s, a, acc, G, n, hkN, hI, hr, hR, hQ, hnb, hn, hb1, hTg => by
  have hk1 := hR.pos
  have hadds := adds_todo r
  obtain ⟨hok, a', acc', G', hO⟩ := run_step hI hr hR O0 O0 hTg
  obtain ⟨q, hq⟩ : ∃ q, r.step s = q := ⟨_, rfl⟩
  rw [hq] at hO
  have hle1 := hO.le1
  have hinv := hO.inv
  cases hO.did with
  | none h hp hB => exact absurd hB hnb
  | point h ho hh ha' ha =>
   subst ha'
   refine ⟨1, q.1, q.2.1, 2, acc', G', ?_, Ug _, hk1, hinv, hO.kept, O_o, ho, hh, hO.who, hO.o, .point ha⟩
   rw [← hq] at h ⊢
   exact Solo.last hok h (.inl rfl)
  | full h h1 ho hh ha' ha he hs hw hroom =>
   subst ha'
   refine ⟨1, q.1, q.2.1, 3, acc', G', ?_, Ug _, hk1, hinv, hO.kept, O_o, ho, hh, hO.who, hO.o, .full ha he (.inr h1) ?_ hs ?_ hroom⟩
   ·rw [← hq] at h ⊢
    exact Solo.last hok h (.inr rfl)
   ·unfold Run.wrt; omega
   ·rcases hw with ⟨w1, w2 | w2⟩ | ⟨w1, _⟩
    ·exact .inl ⟨w1, .inl w2⟩
    ·exact .inl ⟨w1, .inr ⟨r.slot, w2, fun _ => rfl, fun h0 => by omega⟩⟩
    ·exact .inr w1
  | busy h ho hh ha' ha he hc hk =>
   subst ha'
   refine ⟨1, q.1, q.2.1, 3, acc', G', ?_, Ug _, hk1, hinv, hO.kept, O_o, ho, hh, hO.who, hO.o, .busy ha he hk hc⟩
   rw [← hq] at h ⊢
   exact Solo.last hok h (.inr rfl)
  | some h ho k' hr' hkk ha hw =>
   have hQ' : Quiet q.1 q.2.1 ∧ (r.o.kind = 2 → q.1.ph ≠ 0) := by
    by_cases hk : r.o.kind = 2
    ·have h1 := read_quiet hk hQ hR.ph1 (by rw [← step_read hr.over hr.bad hk, hq]; exact h)
     rw [← step_read hr.over hr.bad hk, hq] at h1
     exact ⟨h1.1, fun _ => h1.2⟩
    ·exact ⟨fun h => absurd (hO.o ▸ h) hk, fun h => absurd h hk⟩
   have hk' : k' < k := by
    rcases hkk with h | ⟨h1, h2, _⟩
    ·exact h
    ·exact absurd h2 (hQ'.2 h1)
   have hlt : q.2.1.b.last + q.1.todo ≤ s.b.last + r.todo := by
    by_cases hwr : r.wrt
    ·have ht : r.ph ≠ 3 → r.todo = 1 := fun h3 => if_pos ⟨hwr, h3⟩
     rcases hw hwr with ⟨p0, p1, p2, _⟩ | ⟨p0, p1⟩
     ·have := (adds_todo q.1).2.2
      have h1 := ht O0
      rw [p2]; omega
     ·have h1 := ht O0
      have h2 : q.1.todo = 0 := if_neg (fun h => h.2 p1)
      omega
    ·have h1 : r.todo = 0 := if_neg (fun h => hwr h.1)
     have h2 : q.1.todo = 0 := if_neg (fun h => hwr (by unfold Run.wrt; rw [← hO.o]; exact h.1))
     omega
   obtain ⟨m, r', s', d, acc2, G2, g1, g2, g3, g4, g5, g6, g7, g8, g9, g10, g11⟩ := solo_go N k' q.1 q.2.1 a' acc' G' (n + 2) O0 hinv ho hr' hQ'.1 (by rw [hO.o]; exact hnb) O0 O0 (fun id h1 h2 => by
    by_cases hm : id ≤ s.b.last
    ·rw [hO.same id hm]; exact hTg id h1 hm
    ·rw [(hO.tag id O0 h2).1]; exact cod_1)
   rw [hO.who] at g4 g5 g9
   rw [hO.o] at g10
   refine ⟨m + 1, r', s', d, acc2, G2, ?_, O_o, O_o, by rw [show n + 2 * (m + 1) = n + 2 + 2 * m by omega]; exact g4, hO.kept.trans g5, ?_, g7, g8, g9, g10, ?_⟩
   ·rw [← hq] at h g1
    exact Solo.more hok h g1
   ·omega
   ·cases g11 with
    | point e => exact .point (by rw [← ha, ← hO.o]; exact e)
    | full e1 e2 e3 e4 e5 e6 e7 =>
     have hwr : r.wrt := by unfold Run.wrt at e4 ⊢; rw [hO.o] at e4; exact e4
     rcases hw hwr with ⟨p0, p1, p2, p3⟩ | ⟨p0, p1⟩
     ·refine .full (e1.trans ha) e2 (.inl p0) hwr (e5.trans p2) ?_ (by rw [← p2]; exact e7)
      rcases e6 with ⟨w1, w2⟩ | w1
      ·refine .inl ⟨by rw [← hO.o]; exact w1, ?_⟩
       rcases w2 with w2 | ⟨sl, w2, w3, _⟩
       ·exact .inl (by rw [← p2]; exact w2)
       ·exact .inr ⟨sl, w2, fun h1 => absurd (p0.symm.trans h1) O2, fun _ => by rw [w3 p1]; exact p3⟩
      ·exact .inr (by rw [← hO.o]; exact w1)
     ·exfalso; clear e6; omega
    | busy e1 e2 e3 e4 => exact .busy (e1.trans ha) e2 (by rw [← hO.o]; exact e3) (e4.same hO.most.symm)
end
section
variable {s s' s2 : Shd} {a : Ag} {A : List Ag} {acc : List SlotV} {al : Int → Bool} {G G' : Int → Blb} {n n' : Nat} {r r' : Run} {who : Int} {k : Nat} {o : Opr}
theorem need_le (hI : Inv s A acc al G n) (r : Run) : r.need s ≤ 3 + 6 * s.b.last.toNat := by
 have hb0 : 0 ≤ s.b.last := hI.sto.ok.l0
 unfold Run.need
 split
 ·cases ha : Dir.at_ s.d r.o.series with
  | none => dsimp only; omega
  | some p =>
   have hm : ∃ i : Nat, s.d[i]? = some p := by
    unfold Dir.at_ at ha
    split at ha
    ·exact ⟨_, ha⟩
    ·cases ha
   obtain ⟨i, hi⟩ := hm
   have := (hI.dir.ok i p hi).2.1
   dsimp only; omega
 ·split
  ·cases ha : mget r.o.iter s.t.l with
   | none => dsimp only; omega
   | some o =>
    have := (hI.tab.on _ o ha).1.few
    dsimp only; omega
  ·split <;> omega
theorem slot_len {sl : SlotV} {b : Int} (hs : SlotOk G b sl) : (sl.all G).length ≤ 8 * sl.chunks.length + 7 := by
 unfold SlotV.all rowsOf
 rw [Ua]
 have := flat_len (f := fun p => (G p.blob).L) (l := sl.chunks) fun p hp => (hs.prts p hp).len
 have := hs.few
 omega
theorem act_len (hI : Inv s A acc al G n) (o : Opr) : ((abs s G).act o).2.list.length ≤ 800007 := by
 have hlast := hI.last
 have hits : ∀ L, mget o.iter (abs s G).its = some L → L.length ≤ 800007 := by
  intro L hL
  have hL' : mget o.iter (itsOf s.t.l G) = some L := hL
  rw [itsOf_get] at hL'
  cases hg : mget o.iter s.t.l with
  | none => rw [hg] at hL'; cases hL'
  | some x =>
   rw [hg] at hL'
   obtain rfl := Un hL'
   have h1 := (hI.tab.on _ x hg).1
   have h2 := Snp.len h1
   have h3 := h1.few
   rw [Ur]
   omega
 have hser : ∀ cl L, (abs s G).ser o.series = some (cl, L) → L.length ≤ 800007 := by
  intro cl L hL
  have hL' : serOf s.d G o.series = some (cl, L) := hL
  unfold serOf at hL'
  cases ha : Dir.at_ s.d o.series with
  | none => rw [ha] at hL'; cases hL'
  | some p =>
   rw [ha] at hL'
   have hm : ∃ i : Nat, s.d[i]? = some p := by
    unfold Dir.at_ at ha
    split at ha
    ·exact ⟨_, ha⟩
    ·cases ha
   obtain ⟨i, hi⟩ := hm
   obtain ⟨h1, h2, _⟩ := hI.dir.ok i p hi
   have h3 := slot_len h1
   have hL2 : p.s.tells G = some (cl, L) := hL'
   unfold SlotV.tells at hL2
   split at hL2
   ·have := congrArg Prod.snd (Un hL2)
    dsimp only at this
    rw [← this]; omega
   ·cases hL2
 unfold Mdl.act Mdl.err
 split
 ·exact Ud _
 split
 ·cases hg : mget o.iter (abs s G).its with
  | none => exact Ud _
  | some L =>
   have := hits L hg
   dsimp only
   rw [Uo]; omega
 split
 ·cases hg : mget o.iter (abs s G).its with
  | none => exact Ud _
  | some L => exact Ud _
 cases hg : (abs s G).ser o.series with
 | none =>
  dsimp only
  split <;> exact Ud _
 | some x =>
  obtain ⟨cl, L⟩ := x
  have hL := hser cl L hg
  dsimp only
  split
  ·split
   ·exact Ud _
   ·split <;> exact Ud _
  split
  ·exact Uw (within_len _ _ _) hL
  split
  ·split <;> exact Ud _
  split
  ·exact Ud _
  split <;> exact Ud _
theorem End_.len (hI : Inv s A acc al G n) (hr : r.o = o) {res : Res} {d : Int} (h : End_ A s G r s' G' res d) : res.list.length ≤ 800007 := by
 cases h with
 | point ha =>
  have := act_len hI r.o
  rw [ha] at this
  exact this
 | full _ hr => rw [hr]; exact Ud _
 | busy _ hr => rw [hr]; exact Ud _
theorem run_new_ok (hb : Run.bad o = false) (ho : o.Wf) (hal : o.kind ≤ 5 → al o.series = false) : RunOk al (Run.new who o) :=
 ⟨rfl, hb, ho, hal, Ud _, Ud _, Ud _, Ud _, Ud _, Ut _, by show (0 : Int) ≤ 3; decide⟩
theorem run_new_rel (G : Int → Blb) (s : Shd) : Rel G s (Run.new who o) (Ag.idle who) ((Run.new who o).need s) := Rel.idle (r := Run.new who o) rfl rfl ⟨rfl, rfl, rfl, rfl, rfl⟩
theorem solo_new (hI : Inv s A acc al G n) (hw : who ∉ A.map Ag.who) (hf : A.length + 1 ≤ 100) (ho : o.Wf) (hal : o.kind ≤ 5 → al o.series = false) (hnb : ¬ Blk A o) (hn : n + 2 * (Run.new who o).need s ≤ 1000000000) (hb : s.b.last + 1 < 100000) (hTg : ∀ id, 1 ≤ id → id ≤ s.b.last → CodOk (G id).tag) :
  ∃ (m : Nat) (r' : Run) (s' : Shd) (d : Int) (acc' : List SlotV) (G' : Int → Blb), Solo (Run.new who o) s m r' s' d ∧ 1 ≤ m ∧ m ≤ (Run.new who o).need s ∧ Inv s' A acc' al G' (n + 2 * m) ∧ Kpt who s G s' G' ∧ s'.b.last ≤ s.b.last + (Run.new who o).todo ∧ r'.over = true ∧ r'.holds = 0 ∧ r'.res.list.length ≤ 800007 ∧ End_ A s G (Run.new who o) s' G' r'.res d := by
 have hneed : 1 ≤ (Run.new who o).need s := (run_new_rel G s).pos
 cases hbad : Run.bad o with
 | true =>
  have hstep : (Run.new who o).step s = (Run.new who o).refuse s 4 := by
   unfold Run.step
   have h1 : (Run.new who o).over = false := rfl
   have h2 : (Run.new who o).o = o := rfl
   rw [h1, if_neg Xd, h2, hbad, if_pos rfl]
  have hact : (abs s G).act o = (abs s G, ⟨4, 0, []⟩) := by unfold Mdl.act; rw [hbad, if_pos rfl]; rfl
  have hno : Run.bad (Run.new who o).o = false → False := fun h => by rw [show (Run.new who o).o = o from rfl, hbad] at h; cases h
  have hok : (Run.new who o).StepOk s := ⟨fun _ h => (hno h).elim, fun _ h => (hno h).elim, fun _ h => (hno h).elim, fun _ h => (hno h).elim, fun _ h => (hno h).elim⟩
  have hsolo := Solo.last hok (d := 2) (by rw [hstep]; rfl) (.inl rfl)
  rw [hstep] at hsolo
  have hadds := adds_todo (Run.new who o)
  exact ⟨1, _, _, 2, acc, G, hsolo, Ug _, hneed, hI.mono O0 O0, Kpt.refl _ _ _, by show s.b.last ≤ _; omega, rfl, rfl, Ud _, .point hact⟩
 | false =>
  have hadds := adds_todo (Run.new who o)
  obtain ⟨m, r', s', d, acc', G', g1, g2, g3, g4, g5, g6, g7, g8, g9, g10, g11⟩ := solo_go _ _ (Run.new who o) s (Ag.idle who) acc G n (Ug _) (hI.enter hw hf) (run_new_ok hbad ho hal) (run_new_rel G s) (fun _ _ h => absurd rfl h) hnb hn O0 hTg
  refine ⟨m, r', s', d, acc', G', g1, g2, g3, g4.exit rfl rfl rfl rfl, g5, g6, g7, g8, g11.len hI rfl, g11⟩
end
section
variable {s s' s2 : Shd} {a : Ag} {A : List Ag} {acc : List SlotV} {al : Int → Bool} {G G' : Int → Blb} {n n' : Nat} {r r' : Run} {who : Int} {k : Nat} {o : Opr}
def G0 : Int → Blb := fun _ => ⟨0, []⟩
theorem get_rep {α : Type} {k i : Nat} {x y : α} (h : (List.replicate k x)[i]? = some y) : y = x := (Km.1 (Uj h)).2
theorem zero_ok (G : Int → Blb) (b : Int) : SlotOk G b SlotV.zero := ⟨fun _ => ⟨rfl, rfl⟩, fun h => (by cases h), Ud _, fun _ => rfl, fun x hx => (by cases hx), fun p hp => (by cases hp), List.Pairwise.nil⟩
theorem inv_new (f b : Int) (al : Int → Bool) : Inv (Shd.new f b) [] (List.replicate 16 SlotV.zero) al G0 0 := by
 have hd : (Shd.new f b).d = List.replicate 16 ⟨SlotV.zero, false, 0⟩ := rfl
 have hz : ∀ id, cntOf (List.replicate 16 SlotV.zero) [] (Shd.new f b).t id = 0 := by
  intro id
  have h1 : sumF (fun x : SlotV => rc id x.chunks) (List.replicate 16 SlotV.zero) ≤ (List.replicate 16 SlotV.zero).length * 0 := sumF_bound fun x hx => by rw [(Km.1 hx).2]; exact Ug _
  unfold cntOf
  show _ + 0 + 0 = 0
  omega
 have hz2 : chOf (List.replicate 16 SlotV.zero) = 0 := by
  have h1 : chOf (List.replicate 16 SlotV.zero) ≤ (List.replicate 16 SlotV.zero).length * 0 := sumF_bound fun x hx => by rw [(Km.1 hx).2]; exact Ug _
  omega
 refine ⟨⟨by rw [hd, Xy], Xy, fun i p hp => ?_, fun i p hp ht => ?_, fun i p hp ht => ?_, Zw, fun f hf => (by cases hf), fun x hx => ?_⟩,
  ⟨Zw, fun id hid => (by cases hid), fun id e he => (by cases he), fun id => ?_, fun id => ?_, rfl, ?_, ⟨?_, Ut _, Ut _, ?_, Ut _, (by show (0 : Int) < _; decide)⟩⟩,
  ⟨Cac.new_good f, fun k a h => (by cases h), fun k hk => (by cases hk), fun k L h => (by cases h)⟩,
  ⟨Zw, fun id hid => (by cases hid), Ut _, Ut _, Ud _, fun id o ho => (by cases ho), fun u hu => (by cases hu), Zw⟩,
  fun a ha => (by cases ha), Zw, (by show (0 : Int) ≤ _; decide), Ud _, Ud _⟩
 ·rw [hd] at hp
  rw [get_rep hp]
  exact ⟨zero_ok _ _, Ut _, Ut _, Ut _, Ut _, Ut _⟩
 ·rw [hd] at hp
  have hi := (Ue.1 hp).1
  rw [Xy] at hi
  rw [get_rep hp]
  exact ⟨rfl, by rw [List.getElem?_replicate, if_pos hi]⟩
 ·rw [hd] at hp
  rw [get_rep hp] at ht; cases ht
 ·rw [(Km.1 hx).2]; exact ⟨Ut _, Ud _⟩
 ·rw [hz]; exact ⟨fun h => (Nat.lt_irrefl _ h).elim, fun h => (by cases h)⟩
 ·rw [hz]; exact Ud _
 ·rw [hz2]; rfl
 ·show min (max b 0) 1073741824 ≤ 1073741824; omega
 ·show (0 : Int) + 0 ≤ min (max b 0) 1073741824; omega
def Tags1 (G : Int → Blb) (b : Int) : Prop := ∀ id, 1 ≤ id → id ≤ b → (G id).tag = 1 ∧ (G id).L.length ≤ 8
theorem Tags1.cod (h : Tags1 G s.b.last) : ∀ id, 1 ≤ id → id ≤ s.b.last → CodOk (G id).tag := fun id h1 h2 => by rw [(h id h1 h2).1]; exact cod_1
theorem Tags1.step {s s' : Shd} (h : Tags1 G s.b.last) (hk : Kpt who s G s' G') : Tags1 G' s'.b.last := by
 intro id h1 h2
 by_cases hm : id ≤ s.b.last
 ·rw [hk.same id hm]; exact h id h1 hm
 ·exact hk.tag id O0 h2
theorem used_zero (hI : Inv s A acc al G n) (hA : ∀ a ∈ A, a.held = []) (hd : ∀ (i : Nat) (p : Plc), s.d[i]? = some p → p.taken = false ∧ p.s.there = false) (ht : s.t.l = []) : s.b.bytes = 0 ∧ s.b.charged = 0 := by
 have hacc : ∀ x ∈ acc, x.opn = [] ∧ x.chunks = [] := by
  intro x hx
  obtain ⟨i, hi⟩ := Zn.1 hx
  have hlt : i < s.d.length := by
   have := (Ue.1 hi).1
   rw [hI.dir.alen] at this
   rw [hI.dir.len]; exact this
  obtain ⟨p, hp⟩ : ∃ p, s.d[i]? = some p := ⟨_, Uc hlt⟩
  obtain ⟨d1, d2⟩ := hd i p hp
  have h1 := (hI.dir.idle i p hp d1).2
  rw [hi] at h1
  obtain rfl := Un h1
  exact (hI.dir.ok i p hp).1.no d2
 have hch : chOf acc = 0 := Nat.le_zero.1 (Uw (sumF_bound (B := 0) fun x hx => by rw [(hacc x hx).1]; exact Ug _) (by rw [Nat.mul_zero]; exact Ug _))
 have hcnt : ∀ id, cntOf acc A s.t id = 0 := by
  intro id
  unfold cntOf
  have h1 : sumF (fun x : SlotV => rc id x.chunks) acc ≤ acc.length * 0 := sumF_bound fun x hx => by rw [(hacc x hx).2]; exact Ug _
  have h2 : sumF (fun a : Ag => rc id a.held) A ≤ A.length * 0 := sumF_bound fun x hx => by rw [hA x hx]; exact Ug _
  rw [ht]
  show _ + _ + 0 = 0
  omega
 have hl : s.b.l = [] := by
  cases hl : s.b.l with
  | nil => rfl
  | cons p m =>
   exfalso
   have h1 := (hI.sto.pos p.1).2 (by rw [hl, mget, if_pos rfl]; rfl)
   rw [hcnt] at h1
   omega
 refine ⟨?_, ?_⟩
 ·rw [hI.sto.sum, hl]; rfl
 ·rw [hI.sto.chg, hch]; rfl
end
section
def soloN : Nat → Run → Shd → Option (Nat × Run × Shd × Int)
 | 0, _, _ => none
 | n + 1, r, s => if (r.step s).2.2 = 2 ∨ (r.step s).2.2 = 3 then some (1, r.step s) else if (r.step s).2.2 = 1 then (soloN n (r.step s).1 (r.step s).2.1).map fun x => (x.1 + 1, x.2) else none
theorem solo_det {r r' : Run} {s s' : Shd} {m : Nat} {d : Int} (h : Solo r s m r' s' d) : ∀ F, m ≤ F → soloN F r s = some (m, r', s', d) := by
 induction h with
 | last hok hd hdc =>
  intro F hF
  obtain ⟨F, rfl⟩ : ∃ k, F = k + 1 := ⟨F - 1, O_o⟩
  rw [soloN, hd, if_pos hdc, ← hd]
 | more hok hd h ih =>
  intro F hF
  obtain ⟨F, rfl⟩ : ∃ k, F = k + 1 := ⟨F - 1, O_o⟩
  rw [soloN, hd, if_neg O2, if_pos rfl, ih F O0]; rfl
namespace Aw
def sh (x : Option (Nat × Run × Shd × Int)) : Shd := (x.map (·.2.2.1)).getD (Shd.new 2 1000)
def an (x : Option (Nat × Run × Shd × Int)) : Nat × Int × List Smp := (x.map fun x => (x.1, x.2.1.res.err, x.2.1.res.list)).getD (0, 0, [])
def s0 : Shd := Shd.new 2 1000
def a1 := soloN 40 (Run.new 0 ⟨1, 3, 0, 5, 7, 0, 0, 0⟩) s0
def a2 := soloN 40 (Run.new 0 ⟨2, 3, 0, 0, 0, 0, 9, 0⟩) (sh a1)
def a3 := soloN 40 (Run.new 0 ⟨3, 3, 0, 0, 0, 0, 0, 0⟩) (sh a2)
def a4 := soloN 40 (Run.new 0 ⟨2, 3, 0, 0, 0, 0, 9, 0⟩) (sh a3)
def a5 := soloN 40 (Run.new 0 ⟨99, 0, 0, 0, 0, 0, 0, 0⟩) (sh a4)
def a6 := soloN 40 (Run.new 1 ⟨1, 4, 0, 1, 0, 0, 0, 0⟩) (sh a5)
theorem e1 : an a1 = (3, 0, []) := by kernel_rfl
theorem e2 : (an a2).2 = (0, [⟨5, 7⟩]) := by kernel_rfl
theorem e3 : (an a3).2 = (0, []) := by kernel_rfl
theorem e4 : (an a4).2.2 = [⟨5, 7⟩] := by kernel_rfl
theorem e5 : (an a5).2 = (4, []) := by kernel_rfl
theorem e6 : an a6 = (3, 0, []) := by kernel_rfl
theorem next {s : Shd} {acc : List SlotV} {G : Int → Blb} {n : Nat} (hI : Inv s [] acc (fun _ => false) G n) (ht : Tags1 G s.b.last) (who : Int) (o : Opr) (ho : o.Wf) (hn : n ≤ 1000) (hb : s.b.last ≤ 5) :
  ∃ m r' s' d acc' G', Solo (Run.new who o) s m r' s' d ∧ Inv s' [] acc' (fun _ => false) G' (n + 2 * m) ∧ Tags1 G' s'.b.last ∧ m ≤ 33 ∧ s'.b.last ≤ s.b.last + (Run.new who o).todo ∧ r'.over = true ∧ r'.holds = 0 ∧ r'.res.list.length ≤ 1073741824 ∧ soloN 40 (Run.new who o) s = some (m, r', s', d) ∧ (d = 2 ∨ d = 3) := by
 have hb0 : 0 ≤ s.b.last := hI.sto.ok.l0
 have hneed := need_le hI (Run.new who o)
 obtain ⟨m, r', s', d, acc', G', g1, g2, g3, g4, g5, g6, g7, g8, g9, g10⟩ := solo_new hI (who := who) (o := o) (by intro h; cases h) O2 ho (fun _ => rfl) (by rintro (⟨_, _, x, hx, _⟩ | ⟨_, x, hx, _⟩) <;> cases hx) O0 O0 ht.cod
 refine ⟨m, r', s', d, acc', G', g1, g4, ht.step g5, O_o, g6, g7, g8, O_o, solo_det g1 40 O0, ?_⟩
 cases g10 with
 | point => exact .inl rfl
 | full => exact .inr rfl
 | busy => exact .inr rfl
theorem wf0 {o : Opr} (h : ([o.kind, o.series, o.iter, o.T, o.F, o.To, o.N].all fun x => decide (-4294967296 ≤ x ∧ x ≤ 4294967296)) = true) (hv : o.V < 18446744073709551616) : o.Wf := by
 have hi : ∀ x : Int, x ∈ [o.kind, o.series, o.iter, o.T, o.F, o.To, o.N] → I64 x := fun x hx => by
  have := Xf.1 h x hx
  rw [decide_eq_true_eq] at this
  unfold I64; omega
 exact ⟨hi _ O8, hi _ O8, hi _ O8, hi _ O8, hv, hi _ O8, hi _ O8, hi _ O8⟩
theorem an_of {x : Option (Nat × Run × Shd × Int)} {m : Nat} {r : Run} {s : Shd} {d : Int} (h : x = some (m, r, s, d)) : an x = (m, r.res.err, r.res.list) ∧ sh x = s := by
 subst h; exact ⟨rfl, rfl⟩
theorem l1 : (sh a1).b.last = 0 := by kernel_rfl
theorem l2 : (sh a2).b.last = 0 := by kernel_rfl
theorem l3 : (sh a3).b.last = 1 := by kernel_rfl
theorem l4 : (sh a4).b.last = 1 := by kernel_rfl
theorem l5 : (sh a5).b.last = 1 := by kernel_rfl
def b1 := (Run.new 1 ⟨1, 4, 0, 1, 0, 0, 0, 0⟩).step (sh a5)
def b2 := b1.1.step b1.2.1
def b3 := b2.1.step b2.2.1
def tell (q : Run × Shd × Int) : Int × Bool × Int × List Smp := (q.2.2, q.1.over, q.1.holds, q.1.res.list)
theorem z1 : b1.2.2 = 1 := by kernel_rfl
theorem z2 : tell b2 = (1, false, 1, []) := by kernel_rfl
theorem z3 : tell b3 = (2, true, 0, []) := by kernel_rfl
end Aw
section
variable {w0 w : World} {l : List HProp}
theorem law22_awake (hT : Tz w0) (h : St w0 l w) : Ret prog 22 [] w fun v w' => v = .bool true ∧ St w0 l w' := by
 have hI0 : Inv Aw.s0 [] (List.replicate 16 SlotV.zero) (fun _ => false) G0 0 := inv_new 2 1000 _
 have hT0 : Tags1 G0 Aw.s0.b.last := fun id h1 h2 => by
  have : Aw.s0.b.last = 0 := rfl
  omega
 have hl0 : Aw.s0.b.last ≤ 5 := by rw [show Aw.s0.b.last = 0 from rfl]; decide
 obtain ⟨m1, r1, s1, d1, acc1, G1, k1, hI1, hT1, hm1, hb1, ho1, hh1, hn1, q1, _⟩ := Aw.next hI0 hT0 0 ⟨1, 3, 0, 5, 7, 0, 0, 0⟩ (Aw.wf0 O2 O2) (Ud _) hl0
 have ha1 : Aw.a1 = some (m1, r1, s1, d1) := q1
 obtain ⟨hv1, hs1⟩ := Aw.an_of ha1
 have hx1 := Aw.e1
 rw [hv1] at hx1
 have hl1 : s1.b.last ≤ 5 := by rw [← hs1, Aw.l1]; decide
 obtain ⟨m2, r2, s2, d2, acc2, G2, k2, hI2, hT2, hm2, hb2, ho2, hh2, hn2, q2, _⟩ := Aw.next hI1 hT1 0 ⟨2, 3, 0, 0, 0, 0, 9, 0⟩ (Aw.wf0 O2 O2) O0 hl1
 have ha2 : Aw.a2 = some (m2, r2, s2, d2) := by unfold Aw.a2; rw [hs1]; exact q2
 obtain ⟨hv2, hs2⟩ := Aw.an_of ha2
 have hx2 := Aw.e2
 rw [hv2] at hx2
 have hl2 : s2.b.last ≤ 5 := by rw [← hs2, Aw.l2]; decide
 obtain ⟨m3, r3, s3, d3, acc3, G3, k3, hI3, hT3, hm3, hb3, ho3, hh3, hn3, q3, _⟩ := Aw.next hI2 hT2 0 ⟨3, 3, 0, 0, 0, 0, 0, 0⟩ (Aw.wf0 O2 O2) O0 hl2
 have ha3 : Aw.a3 = some (m3, r3, s3, d3) := by unfold Aw.a3; rw [hs2]; exact q3
 obtain ⟨hv3, hs3⟩ := Aw.an_of ha3
 have hx3 := Aw.e3
 rw [hv3] at hx3
 have hl3 : s3.b.last ≤ 5 := by rw [← hs3, Aw.l3]; decide
 obtain ⟨m4, r4, s4, d4, acc4, G4, k4, hI4, hT4, hm4, hb4, ho4, hh4, hn4, q4, _⟩ := Aw.next hI3 hT3 0 ⟨2, 3, 0, 0, 0, 0, 9, 0⟩ (Aw.wf0 O2 O2) O0 hl3
 have ha4 : Aw.a4 = some (m4, r4, s4, d4) := by unfold Aw.a4; rw [hs3]; exact q4
 obtain ⟨hv4, hs4⟩ := Aw.an_of ha4
 have hx4 := Aw.e4
 rw [hv4] at hx4
 have hl4 : s4.b.last ≤ 5 := by rw [← hs4, Aw.l4]; decide
 obtain ⟨m5, r5, s5, d5, acc5, G5, k5, hI5, hT5, hm5, hb5, ho5, hh5, hn5, q5, _⟩ := Aw.next hI4 hT4 0 ⟨99, 0, 0, 0, 0, 0, 0, 0⟩ (Aw.wf0 O2 O2) O0 hl4
 have ha5 : Aw.a5 = some (m5, r5, s5, d5) := by unfold Aw.a5; rw [hs4]; exact q5
 obtain ⟨hv5, hs5⟩ := Aw.an_of ha5
 have hx5 := Aw.e5
 rw [hv5] at hx5
 have hl5 : s5.b.last ≤ 5 := by rw [← hs5, Aw.l5]; decide
 obtain ⟨m6, r6, s6, d6, acc6, G6, k6, hI6, hT6, hm6, hb6, ho6, hh6, hn6, q6, _⟩ := Aw.next hI5 hT5 1 ⟨1, 4, 0, 1, 0, 0, 0, 0⟩ (Aw.wf0 O2 O2) O0 hl5
 have ha6 : Aw.a6 = some (m6, r6, s6, d6) := by unfold Aw.a6; rw [hs5]; exact q6
 obtain ⟨hv6, hs6⟩ := Aw.an_of ha6
 have hx6 := Aw.e6
 rw [hv6] at hx6
 obtain rfl : m6 = 3 := congrArg Prod.fst hx6
 have z1 := Aw.z1
 have z2 := Aw.z2
 have z3 := Aw.z3
 unfold Aw.b3 Aw.b2 Aw.b1 at z3
 unfold Aw.b2 Aw.b1 at z2
 unfold Aw.b1 at z1
 rw [hs5] at z1 z2 z3
 obtain ⟨R0, hR0⟩ : ∃ R0, Run.new 1 ⟨1, 4, 0, 1, 0, 0, 0, 0⟩ = R0 := ⟨_, rfl⟩
 rw [hR0] at k6 z1 z2 z3
 have hx : ∀ i : Nat, True := fun _ => trivial
 obtain ⟨st1, st2, st3⟩ : R0.StepOk s5 ∧ (R0.step s5).1.StepOk (R0.step s5).2.1 ∧ ((R0.step s5).1.step (R0.step s5).2.1).1.StepOk ((R0.step s5).1.step (R0.step s5).2.1).2.1 := by
  cases k6 with
  | more u1 _ k =>
   cases k with
   | more u2 _ k =>
    cases k with
    | last u3 => exact ⟨u1, u2, u3⟩
    | more u3 => exact ⟨u1, u2, u3⟩
 clear k6 q1 q2 q3 q4 q5 q6 hI0 hI1 hI2 hI3 hI4 hI5 hI6 ha1 ha2 ha3 ha4 ha5 ha6 hs1 hs2 hs3 hs4 hs5 hs6
 obtain ⟨rfl, y1, y1'⟩ : m1 = 3 ∧ r1.res.err = 0 ∧ r1.res.list = [] := ⟨congrArg Prod.fst hx1, congrArg (fun z : Nat × Int × List Smp => z.2.1) hx1, congrArg (fun z : Nat × Int × List Smp => z.2.2) hx1⟩
 obtain ⟨y2, y2'⟩ : r2.res.err = 0 ∧ r2.res.list = [⟨5, 7⟩] := ⟨congrArg Prod.fst hx2, congrArg Prod.snd hx2⟩
 obtain ⟨y3, y3'⟩ : r3.res.err = 0 ∧ r3.res.list = [] := ⟨congrArg Prod.fst hx3, congrArg Prod.snd hx3⟩
 have y4' : r4.res.list = [⟨5, 7⟩] := hx4
 obtain ⟨y5, y5'⟩ : r5.res.err = 4 ∧ r5.res.list = [] := ⟨congrArg Prod.fst hx5, congrArg Prod.snd hx5⟩
 obtain ⟨x1, x2⟩ : (R0.step s5).2.2 = 1 ∧ True := ⟨z1, trivial⟩
 obtain ⟨t1, t2, t3, t4⟩ : ((R0.step s5).1.step (R0.step s5).2.1).2.2 = 1 ∧ ((R0.step s5).1.step (R0.step s5).2.1).1.over = false ∧ ((R0.step s5).1.step (R0.step s5).2.1).1.holds = 1 ∧ ((R0.step s5).1.step (R0.step s5).2.1).1.res.list = [] := by
  have e := z2
  unfold Aw.tell at e
  exact ⟨congrArg (·.1) e, congrArg (·.2.1) e, congrArg (·.2.2.1) e, congrArg (·.2.2.2) e⟩
 generalize hR1 : (R0.step s5).1 = R1 at st2 st3 t1 t2 t3 t4 z3
 generalize hS1 : (R0.step s5).2.1 = S1 at st2 st3 t1 t2 t3 t4 z3
 obtain ⟨u1, u2, u3, u4⟩ : ((R1.step S1).1.step (R1.step S1).2.1).2.2 = 2 ∧ ((R1.step S1).1.step (R1.step S1).2.1).1.over = true ∧ ((R1.step S1).1.step (R1.step S1).2.1).1.holds = 0 ∧ ((R1.step S1).1.step (R1.step S1).2.1).1.res.list = [] := by
  have e := z3
  unfold Aw.tell at e
  exact ⟨congrArg (·.1) e, congrArg (·.2.1) e, congrArg (·.2.2.1) e, congrArg (·.2.2.2) e⟩
 clear z1 z2 z3 hx1 hx2 hx3 hx4 hx5 hx6 hv1 hv2 hv3 hv4 hv5 hv6
 generalize hR2 : (R1.step S1).1 = R2 at st3 t2 t3 t4 u1 u2 u3 u4
 generalize hS2 : (R1.step S1).2.1 = S2 at st3 u1 u2 u3 u4
 generalize hR3 : (R2.step S2).1 = R3 at u2 u3 u4
 generalize hS3 : (R2.step S2).2.1 = S3
 have st4 : R3.StepOk S3 := ⟨fun h => (by rw [u2] at h; cases h), fun h => (by rw [u2] at h; cases h), fun h => (by rw [u2] at h; cases h), fun h => (by rw [u2] at h; cases h), fun h => (by rw [u2] at h; cases h)⟩
 have e4 : R3.step S3 = (R3, S3, 0) := by unfold Run.step; rw [u2, if_pos rfl]
 refine en func22 results22 ntmps22 ?_
 refine Y12 ?_; refine Y1 ?_
 refine qw rfl (qg rfl (prog_NewShared 2 1000 h) ?_)
 clear h
 rintro _ w ⟨p, rfl, h⟩
 replace h : St w0 (IsSh p Aw.s0 :: l) w := h
 refine Y53 ?_
 refine qw rfl (qg rfl (law22_whole h) ?_)
 clear h
 rintro _ w ⟨rfl, h⟩
 refine Y42 ?_; refine Ym ?_
 refine qh (qe (r := (⟨1, 3, 0, 5, 7, 0, 0, 0⟩ : Opr).C) rfl) rfl ?_
 refine qw rfl (qg rfl (law22_alone hT k1 O0 ho1 hh1 hn1 h) ?_)
 clear h
 rintro _ w ⟨la1, lc1, rfl, h⟩
 refine Y3e ?_
 refine qw rfl (qc h fun b1 w h => ?_)
 refine qw rfl (qy (vs := r1.res.C la1 lc1) 0 h rfl rfl rfl rfl rfl rfl rfl fun w h => ?_)
 refine Y7 ?_; refine Y4 ?_
 replace h : St w0 (pt b1 (.cells (r1.res.C la1 lc1).toArray 28 (0, 0)) :: OwnS la1 lc1 r1.res.list :: IsSh p s1 :: l) w := h
 replace h : St w0 (IsSh p s1 :: pt b1 (.cells (r1.res.C la1 lc1).toArray 28 (0, 0)) :: OwnS la1 lc1 r1.res.list :: l) w := h.f 2
 refine Y1a ?_
 refine qh (qe (r := (⟨2, 3, 0, 0, 0, 0, 9, 0⟩ : Opr).C) rfl) rfl ?_
 refine qw rfl (qg rfl (law22_alone hT k2 O0 ho2 hh2 hn2 h) ?_)
 clear h
 rintro _ w ⟨la2, lc2, rfl, h⟩
 refine Y3e ?_
 refine qw rfl (qc h fun b2 w h => ?_)
 refine qw rfl (qy (vs := r2.res.C la2 lc2) 0 h rfl rfl rfl rfl rfl rfl rfl fun w h => ?_)
 refine Y7 ?_; refine Y4 ?_
 replace h : St w0 (pt b2 (.cells (r2.res.C la2 lc2).toArray 28 (0, 0)) :: OwnS la2 lc2 r2.res.list :: IsSh p s2 :: pt b1 (.cells (r1.res.C la1 lc1).toArray 28 (0, 0)) :: OwnS la1 lc1 r1.res.list :: l) w := h
 replace h : St w0 (IsSh p s2 :: pt b2 (.cells (r2.res.C la2 lc2).toArray 28 (0, 0)) :: OwnS la2 lc2 r2.res.list :: pt b1 (.cells (r1.res.C la1 lc1).toArray 28 (0, 0)) :: OwnS la1 lc1 r1.res.list :: l) w := h.f 2
 refine Y1a ?_
 refine qh (qe (r := (⟨3, 3, 0, 0, 0, 0, 0, 0⟩ : Opr).C) rfl) rfl ?_
 refine qw rfl (qg rfl (law22_alone hT k3 O0 ho3 hh3 hn3 h) ?_)
 clear h
 rintro _ w ⟨la3, lc3, rfl, h⟩
 refine Y3e ?_
 refine qw rfl (qc h fun b3 w h => ?_)
 refine qw rfl (qy (vs := r3.res.C la3 lc3) 0 h rfl rfl rfl rfl rfl rfl rfl fun w h => ?_)
 refine Y7 ?_; refine Y4 ?_
 replace h : St w0 (pt b3 (.cells (r3.res.C la3 lc3).toArray 28 (0, 0)) :: OwnS la3 lc3 r3.res.list :: IsSh p s3 :: pt b2 (.cells (r2.res.C la2 lc2).toArray 28 (0, 0)) :: OwnS la2 lc2 r2.res.list :: pt b1 (.cells (r1.res.C la1 lc1).toArray 28 (0, 0)) :: OwnS la1 lc1 r1.res.list :: l) w := h
 replace h : St w0 (IsSh p s3 :: pt b3 (.cells (r3.res.C la3 lc3).toArray 28 (0, 0)) :: OwnS la3 lc3 r3.res.list :: pt b2 (.cells (r2.res.C la2 lc2).toArray 28 (0, 0)) :: OwnS la2 lc2 r2.res.list :: pt b1 (.cells (r1.res.C la1 lc1).toArray 28 (0, 0)) :: OwnS la1 lc1 r1.res.list :: l) w := h.f 2
 refine Y1a ?_
 refine qh (qe (r := (⟨2, 3, 0, 0, 0, 0, 9, 0⟩ : Opr).C) rfl) rfl ?_
 refine qw rfl (qg rfl (law22_alone hT k4 O0 ho4 hh4 hn4 h) ?_)
 clear h
 rintro _ w ⟨la4, lc4, rfl, h⟩
 refine Y3e ?_
 refine qw rfl (qc h fun b4 w h => ?_)
 refine qw rfl (qy (vs := r4.res.C la4 lc4) 0 h rfl rfl rfl rfl rfl rfl rfl fun w h => ?_)
 refine Y7 ?_; refine Y4 ?_
 replace h : St w0 (pt b4 (.cells (r4.res.C la4 lc4).toArray 28 (0, 0)) :: OwnS la4 lc4 r4.res.list :: IsSh p s4 :: pt b3 (.cells (r3.res.C la3 lc3).toArray 28 (0, 0)) :: OwnS la3 lc3 r3.res.list :: pt b2 (.cells (r2.res.C la2 lc2).toArray 28 (0, 0)) :: OwnS la2 lc2 r2.res.list :: pt b1 (.cells (r1.res.C la1 lc1).toArray 28 (0, 0)) :: OwnS la1 lc1 r1.res.list :: l) w := h
 replace h : St w0 (IsSh p s4 :: pt b4 (.cells (r4.res.C la4 lc4).toArray 28 (0, 0)) :: OwnS la4 lc4 r4.res.list :: pt b3 (.cells (r3.res.C la3 lc3).toArray 28 (0, 0)) :: OwnS la3 lc3 r3.res.list :: pt b2 (.cells (r2.res.C la2 lc2).toArray 28 (0, 0)) :: OwnS la2 lc2 r2.res.list :: pt b1 (.cells (r1.res.C la1 lc1).toArray 28 (0, 0)) :: OwnS la1 lc1 r1.res.list :: l) w := h.f 2
 refine Y1a ?_
 refine qh (qe (r := (⟨99, 0, 0, 0, 0, 0, 0, 0⟩ : Opr).C) rfl) rfl ?_
 refine qw rfl (qg rfl (law22_alone hT k5 O0 ho5 hh5 hn5 h) ?_)
 clear h
 rintro _ w ⟨la5, lc5, rfl, h⟩
 refine Y3e ?_
 refine qw rfl (qc h fun b5 w h => ?_)
 refine qw rfl (qy (vs := r5.res.C la5 lc5) 0 h rfl rfl rfl rfl rfl rfl rfl fun w h => ?_)
 refine Y7 ?_; refine Y4 ?_
 replace h : St w0 (pt b5 (.cells (r5.res.C la5 lc5).toArray 28 (0, 0)) :: OwnS la5 lc5 r5.res.list :: IsSh p s5 :: pt b4 (.cells (r4.res.C la4 lc4).toArray 28 (0, 0)) :: OwnS la4 lc4 r4.res.list :: pt b3 (.cells (r3.res.C la3 lc3).toArray 28 (0, 0)) :: OwnS la3 lc3 r3.res.list :: pt b2 (.cells (r2.res.C la2 lc2).toArray 28 (0, 0)) :: OwnS la2 lc2 r2.res.list :: pt b1 (.cells (r1.res.C la1 lc1).toArray 28 (0, 0)) :: OwnS la1 lc1 r1.res.list :: l) w := h
 replace h : St w0 (IsSh p s5 :: pt b5 (.cells (r5.res.C la5 lc5).toArray 28 (0, 0)) :: OwnS la5 lc5 r5.res.list :: pt b4 (.cells (r4.res.C la4 lc4).toArray 28 (0, 0)) :: OwnS la4 lc4 r4.res.list :: pt b3 (.cells (r3.res.C la3 lc3).toArray 28 (0, 0)) :: OwnS la3 lc3 r3.res.list :: pt b2 (.cells (r2.res.C la2 lc2).toArray 28 (0, 0)) :: OwnS la2 lc2 r2.res.list :: pt b1 (.cells (r1.res.C la1 lc1).toArray 28 (0, 0)) :: OwnS la1 lc1 r1.res.list :: l) w := h.f 2
 refine Yl ?_
 refine qh (qe (r := (⟨1, 4, 0, 1, 0, 0, 0, 0⟩ : Opr).C) rfl) rfl ?_
 refine qw rfl (qg rfl (prog_New 1 ⟨1, 4, 0, 1, 0, 0, 0, 0⟩ h) ?_)
 clear h
 rintro _ w ⟨t, rfl, h⟩
 rw [hR0] at h
 refine Y38 ?_; refine Yb ?_; refine Y10 ?_
 refine qw rfl (qg rfl (gr hT st1 h) ?_)
 clear h
 rintro _ w ⟨rfl, h⟩
 rw [x1]
 rw [hR1, hS1] at h
 refine Y23 ?_; refine Y23 ?_
 refine qw rfl (qg rfl (gr hT st2 h) ?_)
 clear h
 rintro _ w ⟨rfl, h⟩
 rw [t1]
 rw [hR2, hS2] at h
 refine Y3r ?_; refine Ym ?_
 refine qw rfl (qg rfl (vq (by rw [t4]; exact Ud _) h) ?_)
 clear h
 rintro _ w ⟨xa, xc, rfl, h⟩
 rw [t2]
 refine Y2z ?_
 refine qw rfl (qc h fun b20 w h => ?_)
 refine qw rfl (qy (vs := R2.out.C xa xc) 0 h rfl rfl rfl rfl rfl rfl rfl fun w h => ?_)
 refine Y4 ?_
 replace h := h.drop.drop
 refine Y2 ?_; refine Y10 ?_
 refine qw rfl (qg rfl (gr hT st3 h) ?_)
 clear h
 rintro _ w ⟨rfl, h⟩
 rw [u1]
 rw [hR3, hS3] at h
 refine Y3 ?_; refine Ym ?_
 refine qw rfl (qg rfl (vq (by rw [u4]; exact Ud _) h) ?_)
 clear h
 rintro _ w ⟨ya, yc, rfl, h⟩
 rw [u2]
 refine Y2z ?_
 refine qw rfl (qc h fun b23 w h => ?_)
 refine qw rfl (qy (vs := R3.out.C ya yc) 0 h rfl rfl rfl rfl rfl rfl rfl fun w h => ?_)
 refine Y4 ?_
 replace h := h.drop.drop
 refine Yl ?_; refine Y1m ?_; refine Y3u ?_; refine Yg ?_; refine Y1t ?_
 refine qh (qj (v := .iz r1.res.err) rfl (h.b 10 rfl) rfl) rfl ?_
 rw [y1]
 refine Y3n ?_; refine Yg ?_; refine Y2y ?_; refine Y1m ?_; refine Yg ?_; refine Y1t ?_
 refine qh (qj (v := .slice la2 r2.res.list.length lc2) rfl (h.b 8 rfl) rfl) rfl ?_
 rw [show r2.res.list.length = 1 from by rw [y2']; rfl]
 refine Ye ?_; refine Y17 ?_; refine Y3n ?_; refine Yg ?_; refine Y2y ?_; refine Y1m ?_; refine Yg ?_; refine Y1t ?_
 refine qh (qj (v := .iz r3.res.err) rfl (h.b 6 rfl) rfl) rfl ?_
 rw [y3]
 refine Y3n ?_; refine Yg ?_; refine Y2y ?_; refine Y1m ?_; refine Yg ?_; refine Y1t ?_
 refine qh (qj (v := .slice la2 r2.res.list.length lc2) rfl (h.b 8 rfl) rfl) rfl ?_
 refine Y4r ?_
 refine qh (qj (v := .slice la4 r4.res.list.length lc4) rfl (h.b 4 rfl) rfl) rfl ?_
 refine Ye ?_
 refine qw rfl (qg rfl (ref10_Same (L1 := r2.res.list) (L2 := r4.res.list) h (fun w' h' => (h'.f 9).own_rd) (fun w' h' => (h'.f 5).own_rd) (by rw [y2']; decide)) ?_)
 clear h
 rintro _ w ⟨rfl, h⟩
 rw [show decide (r2.res.list = r4.res.list) = true from decide_eq_true (y2'.trans y4'.symm)]
 refine Yg ?_; refine Y2y ?_; refine Y1m ?_; refine Yg ?_; refine Y1t ?_
 refine qh (qj (v := .iz r5.res.err) rfl (h.b 2 rfl) rfl) rfl ?_
 rw [y5]
 refine Y3n ?_; refine Yg ?_; refine Y3u ?_; refine Yg ?_; refine Y3u ?_; refine Yg ?_; refine Y2y ?_; refine Y2y ?_; refine Yz ?_; refine Yg ?_; refine Y3u ?_; refine Yg ?_; refine Y2y ?_; refine Y1m ?_; refine Yg ?_; refine Y33 ?_
 refine qw rfl (qg rfl (prog_Holds h) ?_)
 clear h
 rintro _ w ⟨rfl, h⟩
 rw [u3]
 refine Y3n ?_; refine Yg ?_; refine Y33 ?_; refine Y4t ?_
 refine qw rfl (qg rfl (gr hT st4 h) ?_)
 clear h
 rintro _ w ⟨rfl, h⟩
 rw [e4]
 refine Y3n ?_; refine Y2v ?_
 exact qu (qk (bq1 ⟨rfl, h.x [0, 1, 2, 3, 4, 5, 6, 7, 8, 9, 10, 11]⟩))
end
end
section
variable {s s' s2 : Shd} {a : Ag} {A : List Ag} {acc : List SlotV} {al : Int → Bool} {G G' : Int → Blb} {n n' i : Nat} {r r' : Run} {who : Int} {k : Nat} {o : Opr}
abbrev noAl : Int → Bool := fun _ => false
def Rest (s : Shd) (G : Int → Blb) (i : Nat) : Prop := ∃ acc n, n ≤ 20000 * i ∧ s.b.last ≤ (i : Int) ∧ Inv s [] acc noAl G n ∧ Tags1 G s.b.last ∧ 1 ≤ s.c.clk.most
theorem Rest.new (f b : Int) : Rest (Shd.new f b) G0 0 := ⟨_, 0, Ug _, Ut _, inv_new f b _, fun id h1 h2 => by
 have : (Shd.new f b).b.last = 0 := rfl
 omega, by show 1 ≤ min (max f 1) 1000; omega⟩
theorem Rest.more (h : Rest s G i) {j : Nat} (hj : i ≤ j) : Rest s G j := by
 obtain ⟨acc, n, h1, h2, h3⟩ := h
 exact ⟨acc, n, O_o, O_o, h3⟩
theorem not_blk : ¬ Blk [] o := by rintro (⟨_, _, x, hx, _⟩ | ⟨_, x, hx, _⟩) <;> cases hx
inductive Done (s : Shd) (G : Int → Blb) (o : Opr) (s' : Shd) (G' : Int → Blb) (res : Res) : Int → Prop
 | point (ha : (abs s G).act o = (abs s' G', res)) : Done s G o s' G' res 2
 | full (ha : abs s' G' = abs s G) (hr : res = ⟨9, 0, []⟩) (hb : s'.b = s.b) (hw : (o.kind = 1 ∧ (s.b.room < 16 ∨ ∃ sl : SlotV, sl.opn.length = 7 ∧ Dir.look s.d o.series = some sl)) ∨ o.kind = 3) (hroom : s.b.room < 300) : Done s G o s' G' res 3
theorem Rest.op (h : Rest s G i) (hi : i ≤ 1000) (who : Int) (ho : o.Wf) : ∃ m r' s' d G', Solo (Run.new who o) s m r' s' d ∧ 1 ≤ m ∧ m ≤ (Run.new who o).need s ∧ m ≤ 3 + 6 * i ∧ Rest s' G' (i + 1) ∧ Kpt who s G s' G' ∧ r'.over = true ∧ r'.holds = 0 ∧ r'.res.list.length ≤ 800007 ∧ Done s G o s' G' r'.res d := by
 obtain ⟨acc, n, h1, h2, h3, h4, h5⟩ := h
 have hb0 : 0 ≤ s.b.last := h3.sto.ok.l0
 have hneed := need_le h3 (Run.new who o)
 obtain ⟨m, r', s', d, acc', G', g1, g2, g3, g4, g5, g6, g7, g8, g9, g10⟩ := solo_new h3 (who := who) (o := o) (by intro h; cases h) O2 ho (fun _ => rfl) not_blk O0 O0 h4.cod
 have ht := adds_todo (Run.new who o)
 refine ⟨m, r', s', d, G', g1, g2, g3, O_o, ⟨acc', _, O_o, O_o, g4, h4.step g5, by rw [g5.most]; exact h5⟩, g5, g7, g8, g9, ?_⟩
 cases g10 with
 | point ha => exact .point ha
 | full ha hr hp hk hb hw hroom =>
  refine .full ha hr hb ?_ hroom
  rcases hw with ⟨w1, w2 | ⟨sl, w2, _, w3⟩⟩ | w1
  ·exact .inl ⟨w1, .inl w2⟩
  ·exact .inl ⟨w1, .inr ⟨sl, w2, w3 rfl⟩⟩
  ·exact .inr w1
 | busy _ _ _ hc =>
  obtain ⟨ks, k1, k2, k3⟩ := hc
  cases ks with
  | nil => exfalso; simp only [Xr] at k2; omega
  | cons x l => have := k3 x (Ub ..); cases this
theorem Rest.zero (h : Rest s G i) (hs : ∀ j, (abs s G).ser j = none) (hi : (abs s G).its = []) : s.b.bytes = 0 ∧ s.b.charged = 0 ∧ ∀ (j : Nat) (p : Plc), s.d[j]? = some p → p.s.opn = [] := by
 obtain ⟨acc, n, h1, h2, h3, h4, h5⟩ := h
 have hd : ∀ (j : Nat) (p : Plc), s.d[j]? = some p → p.taken = false ∧ p.s.there = false := by
  intro j p hp
  have ht : p.taken = false := by
   cases ht : p.taken with
   | false => rfl
   | true =>
    obtain ⟨_, f, hf, _⟩ := h3.dir.busy j p hp ht
    cases hf
  refine ⟨ht, ?_⟩
  have h16 := h3.lt16 hp
  have e := hs (j : Int)
  have e' : serOf s.d G (j : Int) = none := e
  rw [serOf_at hp h16] at e'
  unfold SlotV.tells at e'
  cases hth : p.s.there with
  | false => rfl
  | true => rw [hth] at e'; cases e'
 have ht : s.t.l = [] := by
  have e : itsOf s.t.l G = [] := hi
  unfold itsOf at e
  exact List.map_eq_nil_iff.1 e
 obtain ⟨u1, u2⟩ := used_zero h3 (fun a ha => by cases ha) hd ht
 exact ⟨u1, u2, fun j p hp => ((h3.dir.ok j p hp).1.no (hd j p hp).2).1⟩
theorem Rest.used (h : Rest s G i) : s.b.bytes + s.b.charged ≤ s.b.budget ∧ 0 ≤ s.b.bytes ∧ 0 ≤ s.b.charged ∧ s.b.Ok := by
 obtain ⟨acc, n, h1, h2, h3, h4, h5⟩ := h
 exact ⟨h3.sto.ok.sum, h3.sto.ok.y0, h3.sto.ok.c0, h3.sto.ok⟩
end
end Go.Proofs.YtngdfdangkdgcaaGreatDoor
namespace Go.Hw
section
def bf (n : Int) (s k : Nat) : Int := n / 2 ^ s % 2 ^ k
theorem bf_lt (n : Int) (s k : Nat) : 0 ≤ bf n s k ∧ bf n s k < 2 ^ k := by
 have h : (0 : Int) < 2 ^ k := Int.pow_pos O2
 exact ⟨Int.emod_nonneg _ O0, Int.emod_lt_of_pos _ h⟩
def opB (n at_ kind : Int) (V : Nat) (series : Int) : Opr := ⟨kind, series, bf n 8 3, at_ + bf n 11 2, V, at_ - bf n 13 6, at_ + bf n 19 4 - 4, bf n 23 4⟩
def opV (n : Int) : Nat := (bf n 13 8).toNat
def opX (n : Int) : Nat := (IntKind.u64.wrap (IntKind.u64.wrap n * 11400714819323198485)).toNat
def opOf (n at_ : Int) : Opr :=
 if bf n 0 6 < 34 then (if bf n 21 3 = 0 then opB n at_ 1 (opX n) (bf n 6 2) else opB n at_ 1 (opV n) (bf n 6 2))
 else if bf n 0 6 < 44 then opB n at_ 2 (opV n) (bf n 6 2)
 else if bf n 0 6 < 46 then (if 0 < bf n 23 2 then opB n at_ 2 (opV n) (bf n 6 2) else opB n at_ 3 (opV n) (bf n 6 2))
 else if bf n 0 6 < 48 then (if 0 < bf n 23 2 then opB n at_ 1 (opV n) (bf n 6 2) else opB n at_ 4 (opV n) (bf n 6 2))
 else if bf n 0 6 < 53 then opB n at_ 5 (opV n) (bf n 6 2)
 else if bf n 0 6 < 60 then opB n at_ 6 (opV n) (bf n 6 2)
 else if bf n 0 6 < 62 then opB n at_ 7 (opV n) (bf n 6 2)
 else opB n at_ (bf n 6 4) (opV n) (bf n 10 5 - 5)
theorem opX_lt (n : Int) : opX n < 18446744073709551616 := by
 unfold opX IntKind.wrap
 simp [IntKind.signed, IntKind.bits]
 omega
theorem opX_int (n : Int) : ((opX n : Nat) : Int) = IntKind.u64.wrap (IntKind.u64.wrap n * 11400714819323198485) := by
 unfold opX
 refine Ze ?_
 unfold IntKind.wrap
 simp [IntKind.signed, IntKind.bits]
 omega
theorem opV_int (n : Int) : ((opV n : Nat) : Int) = bf n 13 8 := Ze (bf_lt n 13 8).1
theorem opB_wf {n at_ kind : Int} {V : Nat} {series : Int} (h0 : 0 ≤ at_) (h1 : at_ ≤ 1152921504606846976) (hk : 0 ≤ kind ∧ kind ≤ 15) (hV : V < 18446744073709551616) (hs : -5 ≤ series ∧ series ≤ 26) : (opB n at_ kind V series).Wf := by
 have b1 := bf_lt n 8 3
 have b2 := bf_lt n 11 2
 have b3 := bf_lt n 13 6
 have b4 := bf_lt n 19 4
 have b5 := bf_lt n 23 4
 refine ⟨⟨?_, ?_⟩, ⟨?_, ?_⟩, ⟨?_, ?_⟩, ⟨?_, ?_⟩, ?_, ⟨?_, ?_⟩, ⟨?_, ?_⟩, ⟨?_, ?_⟩⟩ <;> dsimp only [opB] <;> omega
theorem opOf_wf {n at_ : Int} (h0 : 0 ≤ at_) (h1 : at_ ≤ 1152921504606846976) : (opOf n at_).Wf := by
 have b1 := bf_lt n 6 2
 have b2 := bf_lt n 6 4
 have b3 := bf_lt n 10 5
 have b4 := bf_lt n 13 8
 have hV : opV n < 18446744073709551616 := by have := opV_int n; omega
 have hX := opX_lt n
 unfold opOf
 repeat' split
 all_goals exact opB_wf h0 h1 ⟨O_o, O_o⟩ O14 ⟨O_o, O_o⟩
theorem shr_bf {n : Int} {s k : Nat} (hs : s < 64) (hk : k < 63) : bitOp .and .i64 (n.fdiv (2 ^ (min ((s : Int)).toNat IntKind.i64.bits))) ((2 : Int) ^ k - 1) = bf n s k := by
 rw [and_mask k O0 O0]
 have e : min ((s : Int)).toNat IntKind.i64.bits = s := by
  have : IntKind.i64.bits = 64 := rfl
  rw [this]; omega
 rw [e, Xv _ (Int.le_of_lt (Int.pow_pos O2))]
 rfl
theorem wrap_u64i {x : Int} (h0 : 0 ≤ x) (h1 : x < 18446744073709551616) : IntKind.u64.wrap x = x := by
 unfold IntKind.wrap
 simp [IntKind.signed, IntKind.bits]
 omega
theorem and_bf {n : Int} {k : Nat} (hk : k < 63) : bitOp .and .i64 n ((2 : Int) ^ k - 1) = bf n 0 k := by
 rw [and_mask k O0 O0]
 unfold bf
 rw [Int.pow_zero, Int.ediv_one]
end
end Go.Hw
namespace Go.Proofs.YtngdfdangkdgcaaGreatDoor
open Go.Hw _root_.Go.Proofs.Tryz
section
open Go.Hw Go.Lib
section
variable {w0 w : World} {l : List HProp}
abbrev OpPt' (b : Nat) (o : Opr) : HProp := pt b (.cells o.C.toArray 33 (0, 0))
theorem law14_Op {n at_ : Int} (h0 : 0 ≤ at_) (h1 : at_ ≤ 1152921504606846976) (h : St w0 l w) : Ret prog 27 [.iz n, .iz at_] w fun v w' => v = .agg (opOf n at_).C.toArray ∧ St w0 l w' := by
 have b2 := bf_lt n 11 2
 have b3 := bf_lt n 13 6
 have b4 := bf_lt n 19 4
 have b5 := bf_lt n 10 5
 refine en func27 results27 ntmps27 ?_
 refine Y1 ?_
 refine qw rfl (qc h fun br w h => ?_)
 replace h : St w0 (OpPt' br Opr.zero :: l) w := h
 refine Y2 ?_
 refine ql (Γ := Nat) (fun b => [(0, .iz n), (4, .pz br), (5, .pz b)]) (fun b w => St w0 (OpPt' b (opB n at_ 0 (opV n) (bf n 6 2)) :: OpPt' br Opr.zero :: l) w) ?_ ?_
 ·refine Y1v ?_
  refine qh (j4 rfl rfl O2) rfl ?_
  refine qh (qa (v' := .iz (bf n 6 2)) (gi rfl rfl) (congrArg Value.iz (shr_bf (s := 6) (k := 2) O2 O2))) rfl ?_
  refine Y0 ?_
  refine qh (j4 rfl rfl O2) rfl ?_
  refine qh (qa (v' := .iz (bf n 8 3)) (gi rfl rfl) (congrArg Value.iz (shr_bf (s := 8) (k := 3) O2 O2))) rfl ?_
  refine Y1y ?_
  refine qh (j4 rfl rfl O2) rfl ?_
  refine qh (qa (v' := .iz (bf n 11 2)) (gi rfl rfl) (congrArg Value.iz (shr_bf (s := 11) (k := 2) O2 O2))) rfl ?_
  refine qh (qa (v' := .iz (at_ + bf n 11 2)) (vj rfl rfl) (congrArg Value.iz (wrap64 O0 O0))) rfl ?_
  refine Y0 ?_
  refine qh (j4 rfl rfl O2) rfl ?_
  refine qh (qa (v' := .iz (bf n 13 8)) (gi rfl rfl) (congrArg Value.iz (shr_bf (s := 13) (k := 8) O2 O2))) rfl ?_
  refine qh (qa (v' := .int .u64 (opV n)) (q_conv rfl) (congrArg (Value.int .u64) ((wrap_u64i (bf_lt n 13 8).1 (by have := (bf_lt n 13 8).2; omega)).trans (opV_int n).symm))) rfl ?_
  refine Y1y ?_
  refine qh (j4 rfl rfl O2) rfl ?_
  refine qh (qa (v' := .iz (bf n 13 6)) (gi rfl rfl) (congrArg Value.iz (shr_bf (s := 13) (k := 6) O2 O2))) rfl ?_
  refine qh (qa (v' := .iz (at_ - bf n 13 6)) (vg rfl rfl) (congrArg Value.iz (wrap64 O0 O0))) rfl ?_
  refine Y1y ?_
  refine qh (j4 rfl rfl O2) rfl ?_
  refine qh (qa (v' := .iz (bf n 19 4)) (gi rfl rfl) (congrArg Value.iz (shr_bf (s := 19) (k := 4) O2 O2))) rfl ?_
  refine qh (qa (v' := .iz (at_ + bf n 19 4)) (vj rfl rfl) (congrArg Value.iz (wrap64 O0 O0))) rfl ?_
  refine qh (qa (v' := .iz (at_ + bf n 19 4 - 4)) (vg rfl rfl) (congrArg Value.iz (wrap64 O0 O0))) rfl ?_
  refine Y0 ?_
  refine qh (j4 rfl rfl O2) rfl ?_
  refine qh (qa (v' := .iz (bf n 23 4)) (gi rfl rfl) (congrArg Value.iz (shr_bf (s := 23) (k := 4) O2 O2))) rfl ?_
  refine qh (qe (r := (opB n at_ 0 (opV n) (bf n 6 2)).C) O1) rfl ?_
  refine qw rfl (qc h fun b w h => ?_)
  refine qw rfl (qy (vs := (opB n at_ 0 (opV n) (bf n 6 2)).C) 0 h rfl rfl rfl rfl rfl rfl rfl fun w h => ?_)
  exact qu ⟨b, zz3, h⟩
 rintro b w e h
 refine Ya ?_
 refine qh (qa (v' := .iz (bf n 0 6)) (gi rfl rfl) (congrArg Value.iz (and_bf (k := 6) O2))) rfl ?_
 refine Y3 ?_
 refine ql (Γ := Opr) (fun _ => [(4, .pz br), (5, .pz b)]) (fun o w => o = opOf n at_ ∧ St w0 (OpPt' b o :: OpPt' br Opr.zero :: l) w) ?_ ?_
 ·refine Yh ?_; refine Y3b ?_; refine Y4 ?_
  refine qu (qt _ rfl (fun hc => ?_) (fun hc => ?_))
  ·replace hc : bf n 0 6 < 34 := by simpa using hc
   refine Y1o ?_
   refine qw rfl (qm 0 h rfl (show _ = Value.iz 1 from rfl) rfl rfl rfl rfl fun w h => ?_)
   replace h : St w0 (OpPt' b (opB n at_ 1 (opV n) (bf n 6 2)) :: OpPt' br Opr.zero :: l) w := h
   refine Y2 ?_; refine Ya ?_
   refine qh (j4 rfl rfl O2) rfl ?_
   refine qh (qa (v' := .iz (bf n 21 3)) (gi rfl rfl) (congrArg Value.iz (shr_bf (s := 21) (k := 3) O2 O2))) rfl ?_
   refine Yt ?_
   refine qu (qt _ rfl (fun hd => ?_) (fun hd => ?_))
   ·replace hd : bf n 21 3 = 0 := by simpa using hd
    refine Y1v ?_; refine Yy ?_; refine Y4s ?_
    refine qz (.int .u64 (opX n)) (congrArg (Value.int .u64) (opX_int n).symm) ?_
    refine Yi ?_
    refine qw rfl (qm 0 h rfl (show _ = Value.int .u64 (opX n) from rfl) rfl rfl rfl rfl fun w h => ?_)
    replace h : St w0 (OpPt' b (opB n at_ 1 (opX n) (bf n 6 2)) :: OpPt' br Opr.zero :: l) w := h
    exact qu ⟨_, zz2, by rw [opOf, if_pos (show bf n 0 6 < 34 by omega), if_pos hd], h⟩
   ·replace hd : ¬ bf n 21 3 = 0 := by simpa using hd
    exact q9 ⟨_, zz2, by rw [opOf, if_pos (show bf n 0 6 < 34 by omega), if_neg hd], h⟩
  replace hc : ¬ bf n 0 6 < 34 := by simpa using hc
  refine Y3b ?_; refine Y4 ?_
  refine qu (qt _ rfl (fun hc => ?_) (fun hc => ?_))
  ·replace hc : bf n 0 6 < 44 := by simpa using hc
   refine Y43 ?_
   refine qw rfl (qm 0 h rfl (show _ = Value.iz 2 from rfl) rfl rfl rfl rfl fun w h => ?_)
   replace h : St w0 (OpPt' b (opB n at_ 2 (opV n) (bf n 6 2)) :: OpPt' br Opr.zero :: l) w := h
   exact qu ⟨_, zz2, by rw [opOf, if_neg (show ¬ bf n 0 6 < 34 by omega), if_pos (show bf n 0 6 < 44 by omega)], h⟩
  replace hc : ¬ bf n 0 6 < 44 := by simpa using hc
  refine Y3b ?_; refine Y4 ?_
  refine qu (qt _ rfl (fun hc => ?_) (fun hc => ?_))
  ·replace hc : bf n 0 6 < 46 := by simpa using hc
   refine Y1o ?_
   refine qw rfl (qm 0 h rfl (show _ = Value.iz 3 from rfl) rfl rfl rfl rfl fun w h => ?_)
   replace h : St w0 (OpPt' b (opB n at_ 3 (opV n) (bf n 6 2)) :: OpPt' br Opr.zero :: l) w := h
   refine Y2 ?_; refine Ya ?_
   refine qh (j4 rfl rfl O2) rfl ?_
   refine qh (qa (v' := .iz (bf n 23 2)) (gi rfl rfl) (congrArg Value.iz (shr_bf (s := 23) (k := 2) O2 O2))) rfl ?_
   refine Y29 ?_
   refine qu (qt _ rfl (fun hd => ?_) (fun hd => ?_))
   ·replace hd : 0 < bf n 23 2 := by simpa using hd
    refine Y43 ?_
    refine qw rfl (qm 0 h rfl (show _ = Value.iz 2 from rfl) rfl rfl rfl rfl fun w h => ?_)
    replace h : St w0 (OpPt' b (opB n at_ 2 (opV n) (bf n 6 2)) :: OpPt' br Opr.zero :: l) w := h
    exact qu ⟨_, zz2, by rw [opOf, if_neg (show ¬ bf n 0 6 < 34 by omega), if_neg (show ¬ bf n 0 6 < 44 by omega), if_pos (show bf n 0 6 < 46 by omega), if_pos hd], h⟩
   ·replace hd : ¬ 0 < bf n 23 2 := by simpa using hd
    exact q9 ⟨_, zz2, by rw [opOf, if_neg (show ¬ bf n 0 6 < 34 by omega), if_neg (show ¬ bf n 0 6 < 44 by omega), if_pos (show bf n 0 6 < 46 by omega), if_neg hd], h⟩
  replace hc : ¬ bf n 0 6 < 46 := by simpa using hc
  refine Y3b ?_; refine Y4 ?_
  refine qu (qt _ rfl (fun hc => ?_) (fun hc => ?_))
  ·replace hc : bf n 0 6 < 48 := by simpa using hc
   refine Y1o ?_
   refine qw rfl (qm 0 h rfl (show _ = Value.iz 4 from rfl) rfl rfl rfl rfl fun w h => ?_)
   replace h : St w0 (OpPt' b (opB n at_ 4 (opV n) (bf n 6 2)) :: OpPt' br Opr.zero :: l) w := h
   refine Y2 ?_; refine Ya ?_
   refine qh (j4 rfl rfl O2) rfl ?_
   refine qh (qa (v' := .iz (bf n 23 2)) (gi rfl rfl) (congrArg Value.iz (shr_bf (s := 23) (k := 2) O2 O2))) rfl ?_
   refine Y29 ?_
   refine qu (qt _ rfl (fun hd => ?_) (fun hd => ?_))
   ·replace hd : 0 < bf n 23 2 := by simpa using hd
    refine Y43 ?_
    refine qw rfl (qm 0 h rfl (show _ = Value.iz 1 from rfl) rfl rfl rfl rfl fun w h => ?_)
    replace h : St w0 (OpPt' b (opB n at_ 1 (opV n) (bf n 6 2)) :: OpPt' br Opr.zero :: l) w := h
    exact qu ⟨_, zz2, by rw [opOf, if_neg (show ¬ bf n 0 6 < 34 by omega), if_neg (show ¬ bf n 0 6 < 44 by omega), if_neg (show ¬ bf n 0 6 < 46 by omega), if_pos (show bf n 0 6 < 48 by omega), if_pos hd], h⟩
   ·replace hd : ¬ 0 < bf n 23 2 := by simpa using hd
    exact q9 ⟨_, zz2, by rw [opOf, if_neg (show ¬ bf n 0 6 < 34 by omega), if_neg (show ¬ bf n 0 6 < 44 by omega), if_neg (show ¬ bf n 0 6 < 46 by omega), if_pos (show bf n 0 6 < 48 by omega), if_neg hd], h⟩
  replace hc : ¬ bf n 0 6 < 48 := by simpa using hc
  refine Y3b ?_; refine Y4 ?_
  refine qu (qt _ rfl (fun hc => ?_) (fun hc => ?_))
  ·replace hc : bf n 0 6 < 53 := by simpa using hc
   refine Y43 ?_
   refine qw rfl (qm 0 h rfl (show _ = Value.iz 5 from rfl) rfl rfl rfl rfl fun w h => ?_)
   replace h : St w0 (OpPt' b (opB n at_ 5 (opV n) (bf n 6 2)) :: OpPt' br Opr.zero :: l) w := h
   exact qu ⟨_, zz2, by rw [opOf, if_neg (show ¬ bf n 0 6 < 34 by omega), if_neg (show ¬ bf n 0 6 < 44 by omega), if_neg (show ¬ bf n 0 6 < 46 by omega), if_neg (show ¬ bf n 0 6 < 48 by omega), if_pos (show bf n 0 6 < 53 by omega)], h⟩
  replace hc : ¬ bf n 0 6 < 53 := by simpa using hc
  refine Y3b ?_; refine Y4 ?_
  refine qu (qt _ rfl (fun hc => ?_) (fun hc => ?_))
  ·replace hc : bf n 0 6 < 60 := by simpa using hc
   refine Y43 ?_
   refine qw rfl (qm 0 h rfl (show _ = Value.iz 6 from rfl) rfl rfl rfl rfl fun w h => ?_)
   replace h : St w0 (OpPt' b (opB n at_ 6 (opV n) (bf n 6 2)) :: OpPt' br Opr.zero :: l) w := h
   exact qu ⟨_, zz2, by rw [opOf, if_neg (show ¬ bf n 0 6 < 34 by omega), if_neg (show ¬ bf n 0 6 < 44 by omega), if_neg (show ¬ bf n 0 6 < 46 by omega), if_neg (show ¬ bf n 0 6 < 48 by omega), if_neg (show ¬ bf n 0 6 < 53 by omega), if_pos (show bf n 0 6 < 60 by omega)], h⟩
  replace hc : ¬ bf n 0 6 < 60 := by simpa using hc
  refine Y3b ?_; refine Y4 ?_
  refine qu (qt _ rfl (fun hc => ?_) (fun hc => ?_))
  ·replace hc : bf n 0 6 < 62 := by simpa using hc
   refine Y43 ?_
   refine qw rfl (qm 0 h rfl (show _ = Value.iz 7 from rfl) rfl rfl rfl rfl fun w h => ?_)
   replace h : St w0 (OpPt' b (opB n at_ 7 (opV n) (bf n 6 2)) :: OpPt' br Opr.zero :: l) w := h
   exact qu ⟨_, zz2, by rw [opOf, if_neg (show ¬ bf n 0 6 < 34 by omega), if_neg (show ¬ bf n 0 6 < 44 by omega), if_neg (show ¬ bf n 0 6 < 46 by omega), if_neg (show ¬ bf n 0 6 < 48 by omega), if_neg (show ¬ bf n 0 6 < 53 by omega), if_neg (show ¬ bf n 0 6 < 60 by omega), if_pos (show bf n 0 6 < 62 by omega)], h⟩
  replace hc : ¬ bf n 0 6 < 62 := by simpa using hc
  refine Ya ?_
  refine qh (j4 rfl rfl O2) rfl ?_
  refine qh (qa (v' := .iz (bf n 6 4)) (gi rfl rfl) (congrArg Value.iz (shr_bf (s := 6) (k := 4) O2 O2))) rfl ?_
  refine Yi ?_
  refine qw rfl (qm 0 h rfl (show _ = Value.iz (bf n 6 4) from rfl) rfl rfl rfl rfl fun w h => ?_)
  replace h : St w0 (OpPt' b (opB n at_ (bf n 6 4) (opV n) (bf n 6 2)) :: OpPt' br Opr.zero :: l) w := h
  refine Y2 ?_; refine Y1v ?_
  refine qh (j4 rfl rfl O2) rfl ?_
  refine qh (qa (v' := .iz (bf n 10 5)) (gi rfl rfl) (congrArg Value.iz (shr_bf (s := 10) (k := 5) O2 O2))) rfl ?_
  refine qh (qa (v' := .iz (bf n 10 5 - 5)) (vg rfl rfl) (congrArg Value.iz (wrap64 O0 O0))) rfl ?_
  refine Yi ?_
  refine qw rfl (qm 0 h rfl (show _ = Value.iz (bf n 10 5 - 5) from rfl) rfl rfl rfl rfl fun w h => ?_)
  replace h : St w0 (OpPt' b (opB n at_ (bf n 6 4) (opV n) (bf n 10 5 - 5)) :: OpPt' br Opr.zero :: l) w := h
  exact qu ⟨_, zz2, by rw [opOf, if_neg (show ¬ bf n 0 6 < 34 by omega), if_neg (show ¬ bf n 0 6 < 44 by omega), if_neg (show ¬ bf n 0 6 < 46 by omega), if_neg (show ¬ bf n 0 6 < 48 by omega), if_neg (show ¬ bf n 0 6 < 53 by omega), if_neg (show ¬ bf n 0 6 < 60 by omega), if_neg (show ¬ bf n 0 6 < 62 by omega)], h⟩
 rintro o w e ⟨rfl, h⟩
 refine Y1 ?_
 refine qh (qx (l := (opOf n at_).C) rfl rfl (qd (h.b 0 rfl) rfl)) rfl ?_
 refine qw rfl (qy (vs := (opOf n at_).C) 1 h rfl rfl rfl rfl rfl rfl rfl fun w h => ?_)
 refine qu (qk ?_)
 refine bqc (v := .agg (opOf n at_).C.toArray) ?_ ⟨rfl, h.drop.drop⟩
 exact jm (by rfl) (qd (h.b 1 rfl) rfl)
end
end
section
def turned (L : List Smp) (j : Nat) : List Smp := (L.take j).map (fun s => ⟨s.T, IntKind.u64.wrap (s.V + 1)⟩) ++ L.drop j
theorem turned_get {L : List Smp} {j : Nat} {x : Smp} (h : L[j]? = some x) : (turned L j)[j]? = some x := by
 have hj := (Ue.1 h).1
 unfold turned
 rw [Wo (by rw [Vy, Uo]; omega), Vy, Uo, Kj, show j + (j - min j L.length) = j by omega, h]
theorem turned_set {L : List Smp} {j : Nat} {x : Smp} (h : L[j]? = some x) : (turned L j).set j ⟨x.T, IntKind.u64.wrap (x.V + 1)⟩ = turned L (j + 1) := by
 have hj := (Ue.1 h).1
 unfold turned
 rw [List.set_append_right _ _ (by rw [Vy, Uo]; omega), Vy, Uo, Vh, h, Wc, Uk]
 congr 1
 rw [show j - min j L.length = 0 by omega, Vp hj]
 have hx : L[j] = x := by rw [Uc hj] at h; exact Un h
 rw [hx]; rfl
theorem turned_first {L : List Smp} {x : Smp} (h : L[0]? = some x) : (turned L L.length)[0]? = some ⟨x.T, IntKind.u64.wrap (x.V + 1)⟩ := by
 unfold turned
 rw [Xu, Zi, Uy, Wm, h]; rfl
section
variable {w0 w : World} {l : List HProp}
theorem law22_ProgOver (hT : Tz w0) {st : Option Addr} {ct : Nat} {xs : List Int} (hx : ∀ x ∈ xs, I64 x) (hn : xs.length ≤ 9223372036854775807) (hrt : Reads w0 l 1 st xs.length (i64V xs)) (h : St w0 l w) :
  Ret prog 5 [.slice st xs.length ct] w fun v w' => v = .bool true ∧ St w0 l w' := by
 refine en func5 results5 ntmps5 ?_
 refine Y12 ?_; refine Y1 ?_
 refine qw rfl (qg rfl (prog_NewShared 2 1048576 h) ?_)
 clear h
 rintro _ w ⟨p, rfl, h⟩
 refine Y53 ?_
 refine qw rfl (qg rfl (law22_whole h) ?_)
 clear h
 rintro _ w ⟨rfl, h⟩
 refine Y42 ?_
 refine ql (Γ := Unit) (fun _ => []) (fun _ w => St w0 l w) ?_ ?_
 rotate_left
 ·clear h
  rintro _ w e h
  refine Y1 ?_
  refine qw rfl (qg rfl (law22_awake hT h) ?_)
  clear h
  rintro _ w ⟨rfl, h⟩
  refine Y4 ?_
  exact qu (qk (bq1 ⟨rfl, h⟩))
 refine Y4h ?_
 refine jd (Γ := Nat × Shd) (fun g => [(0, .slice st xs.length ct), (3, .pz p), (4, .iz (g.1 : Int))])
  (fun g w => (g.1 ≤ xs.length ∧ g.1 ≤ 40) ∧ (∃ G, Rest g.2 G g.1) ∧ St w0 (IsSh p g.2 :: l) w) (fun g => 40 - g.1) (0, Shd.new 2 1048576) zz3 ⟨⟨Ud _, Ud _⟩, ⟨_, Rest.new _ _⟩, h⟩ ?_
 clear h
 rintro ⟨i, s⟩ w e ⟨⟨hi1, hi2⟩, ⟨G, hF⟩, h⟩
 dsimp only at hi1 hi2 hF h ⊢
 refine Y1x ?_; refine Y14 ?_; refine Y2q ?_
 by_cases hgo : i < xs.length ∧ i < 40
 rotate_left
 ·by_cases hg1 : i < xs.length
  ·refine qz (.bool true) O3 ?_
   refine Y1r ?_
   refine qh (qa (v' := .bool false) (q_lss rfl rfl) (congrArg Value.bool (by rw [decide_eq_false_iff_not]; omega))) rfl ?_
   refine Yg ?_
   refine qu (qr rfl (ju ?_))
   exact Eq.mpr (if_pos rfl) ⟨(), trivial, h.x [0]⟩
  ·refine qz (.bool false) O4 ?_
   refine Y2d ?_; refine Y8 ?_
   refine qu (qr rfl (ju ?_))
   exact Eq.mpr (if_pos rfl) ⟨(), trivial, h.x [0]⟩
 obtain ⟨hg1, hg2⟩ := hgo
 refine qz (.bool true) O3 ?_
 refine Y1r ?_
 refine qh (qa (v' := .bool true) (q_lss rfl rfl) (congrArg Value.bool (by rw [decide_eq_true_eq]; omega))) rfl ?_
 refine Y1k ?_; refine Yk ?_
 obtain ⟨v, hv⟩ : ∃ v, xs[i]? = some v := ⟨_, Uc hg1⟩
 obtain ⟨who, hwho⟩ : ∃ who : Int, (i : Int) % 2 ^ 3 = who := ⟨_, rfl⟩
 obtain ⟨m, r', s', d, G', k1, k2, k3, k4, k5, k6, k7, k8, k9, k10⟩ := hF.op O0 who (o := opOf v (i : Int)) (opOf_wf O0 O0)
 have hm : m ≤ 243 := by omega
 have hout : r'.out = r'.res := by unfold Run.out; rw [k7]; rfl
 have hd23 : d = 2 ∨ d = 3 := by
  cases k10 with
  | point => exact .inl rfl
  | full => exact .inr rfl
 refine ql (Γ := Unit) (fun _ => [(0, .slice st xs.length ct), (3, .pz p), (4, .iz (i : Int))]) (fun _ w => St w0 (IsSh p s' :: l) w) (c_block ?_) ?_
 rotate_left
 ·clear h
  rintro _ w e h
  refine Y30 ?_
  refine qz (.iz ((i + 1 : Nat) : Int)) O22 ?_
  refine Y7 ?_
  exact qu ⟨(i + 1, s'), zz3, ⟨⟨O_d, O_d⟩, ⟨G', k5⟩, h⟩, O_d⟩
 refine Ya ?_
 refine qh (qa (v' := .iz who) (gi rfl rfl) (congrArg Value.iz ((and_mask 3 O2 O2).trans hwho))) rfl ?_
 refine Y4c ?_
 obtain ⟨bb, oo, rfl⟩ : ∃ bb oo, st = some ⟨bb, oo, none⟩ := (hrt.rd w (h.x [0])).some O0
 refine qh (jh (j := i) (o' := oo + i) rfl rfl rfl hg1 O8) rfl ?_
 refine qh (jq (v := .iz v) rfl ((hrt.rd w (h.x [0])).cell (by simp [i64V, hv]))) rfl ?_
 refine Y0 ?_
 refine qw rfl (qg rfl (law14_Op (n := v) (at_ := (i : Int)) O0 O0 h) ?_)
 clear h
 rintro _ w ⟨rfl, h⟩
 refine qw rfl (qg rfl (prog_New who (opOf v (i : Int)) h) ?_)
 clear h
 rintro _ w ⟨t, rfl, h⟩
 obtain ⟨R0, hR0⟩ : ∃ R0, Run.new who (opOf v (i : Int)) = R0 := ⟨_, rfl⟩
 have hR0o : R0.over = false := by rw [← hR0]; rfl
 have hR0l : R0.res.list.length ≤ 1073741824 := by rw [← hR0]; exact Ud _
 rw [hR0] at h k1
 refine Y38 ?_; refine Yb ?_; refine Y44 ?_
 refine qw rfl (qg rfl (vq hR0l h) ?_)
 clear h
 rintro _ w ⟨xa, xc, rfl, h⟩
 rw [hR0o]
 refine Y2z ?_
 refine qw rfl (qc h fun b6 w h => ?_)
 refine qw rfl (qy (vs := R0.out.C xa xc) 0 h rfl rfl rfl rfl rfl rfl rfl fun w h => ?_)
 refine Y4 ?_
 replace h := h.drop.drop
 refine Yl ?_; refine Y1m ?_; refine Yb ?_; refine Y12 ?_
 refine ql (Γ := Unit) (fun _ => [(0, .slice (some ⟨bb, oo, none⟩) xs.length ct), (3, .pz p), (4, .iz (i : Int)), (5, .pz t)]) (fun _ w => St w0 (IsRun t r' :: IsSh p s' :: l) w) ?_ ?_
 ·refine Y4h ?_
  refine jd (Γ := Nat × Bool × Nat × Run × Shd) (fun g => [(0, .slice (some ⟨bb, oo, none⟩) xs.length ct), (3, .pz p), (4, .iz (i : Int)), (5, .pz t), (8, .bool g.2.1), (9, .iz (g.1 : Int))])
   (fun g w => (g.1 ≤ m ∧ (g.2.1 = false → g.1 + g.2.2.1 = m ∧ Solo g.2.2.2.1 g.2.2.2.2 g.2.2.1 r' s' d) ∧ (g.2.1 = true → g.2.2.2.1 = r' ∧ g.2.2.2.2 = s')) ∧ St w0 (IsRun t g.2.2.2.1 :: IsSh p g.2.2.2.2 :: l) w) (fun g => if g.2.1 then 0 else g.2.2.1 + 1) (0, false, m, R0, s) zz6 ⟨⟨Ud _, fun _ => ⟨Ux _, k1⟩, fun h => by cases h⟩, h⟩ ?_
  clear h k1
  rintro ⟨k, ov, n1, r, s⟩ w e ⟨⟨hkm, hof, hot⟩, h⟩
  dsimp only at hkm hof hot h ⊢
  refine Y1x ?_; refine Y2q ?_
  refine qz (.bool true) O3 ?_
  refine Y2y ?_; refine Y2y ?_; refine Yz ?_
  cases ov with
  | true =>
   obtain ⟨rfl, rfl⟩ := hot rfl
   refine Yg ?_
   refine qu (qr rfl (ju ?_))
   exact Eq.mpr (if_pos rfl) ⟨(), zz4, h⟩
  | false =>
   obtain ⟨hkn, hs⟩ := hof rfl
   refine Y1k ?_; refine Yk ?_
   have hok : r.StepOk s := by cases hs with | last hok => exact hok | more hok => exact hok
   refine ql (Γ := Bool) (fun b => [(0, .slice (some ⟨bb, oo, none⟩) xs.length ct), (3, .pz p), (4, .iz (i : Int)), (5, .pz t), (8, .bool b), (9, .iz (k : Int))])
    (fun b w => (k + 1 ≤ m ∧ (b = false → k + 1 + (n1 - 1) = m ∧ 1 ≤ n1 ∧ Solo (r.step s).1 (r.step s).2.1 (n1 - 1) r' s' d) ∧ (b = true → (r.step s).1 = r' ∧ (r.step s).2.1 = s')) ∧ St w0 (IsRun t (r.step s).1 :: IsSh p (r.step s).2.1 :: l) w) (c_block ?_) ?_
   rotate_left
   ·clear h
    rintro b w e ⟨⟨q1, q2, q3⟩, h⟩
    refine Y30 ?_
    refine qz (.iz ((k + 1 : Nat) : Int)) O22 ?_
    refine Y7 ?_
    refine qu ⟨(k + 1, b, n1 - 1, _, _), zz6, ⟨⟨q1, fun hb => ⟨(q2 hb).1, (q2 hb).2.2⟩, q3⟩, h⟩, ?_⟩
    cases b with
    | true => show 0 < n1 + 1; omega
    | false =>
     have := (q2 rfl).2.1
     show n1 - 1 + 1 < n1 + 1; omega
   refine Y10 ?_
   refine qw rfl (qg rfl (gr hT hok h) ?_)
   clear h
   rintro _ w ⟨rfl, h⟩
   obtain ⟨dd, hdd⟩ : ∃ dd, (r.step s).2.2 = dd := ⟨_, rfl⟩
   rw [hdd]
   refine Y3 ?_; refine Y4a ?_
   cases hs with
   | last _ hd hdc =>
    rw [hdd] at hd
    subst hd
    rcases hdc with rfl | rfl
    ·refine qz (.bool true) rfl ?_
     refine Y4l ?_; refine Y9 ?_; refine Y4k ?_; refine Y2d ?_; refine Y8 ?_
     exact qu (qr rfl (q9 ⟨true, zz6, ⟨O_o, fun h => (by cases h), fun _ => ⟨rfl, rfl⟩⟩, h⟩))
    ·refine qz (.bool false) rfl ?_
     refine Y3u ?_; refine Y8 ?_; refine Y9 ?_; refine Y4k ?_; refine Y2d ?_; refine Y8 ?_
     exact qu (qr rfl (q9 ⟨true, zz6, ⟨O_o, fun h => (by cases h), fun _ => ⟨rfl, rfl⟩⟩, h⟩))
   | more _ hd hs =>
    rw [hdd] at hd
    subst hd
    refine qz (.bool false) rfl ?_
    refine Y3u ?_; refine Y8 ?_; refine Y9 ?_; refine Y4k ?_; refine Y1r ?_; refine Y1p ?_; refine Yg ?_
    exact qu (qr rfl (q9 ⟨false, zz6, ⟨O_o, fun _ => ⟨O_o, O_o, hs⟩, fun h => (by cases h)⟩, h⟩))
 clear h k1
 rintro _ w e h
 have st4 : r'.StepOk s' := ⟨fun h => (by rw [k7] at h; cases h), fun h => (by rw [k7] at h; cases h), fun h => (by rw [k7] at h; cases h), fun h => (by rw [k7] at h; cases h), fun h => (by rw [k7] at h; cases h)⟩
 have e4 : r'.step s' = (r', s', 0) := by unfold Run.step; rw [k7, if_pos rfl]
 have hu4 := k5.used.2.2.2
 refine Ym ?_
 refine qw rfl (qg rfl (shd_Store (h.f 1)) ?_)
 clear h
 rintro _ w ⟨q, rfl, h⟩
 replace h : St w0 (IsStore q.b s'.b :: ShPt p q :: IsDir q.d s'.d :: IsCache q.c s'.c :: IsTab q.t s'.t.V :: IsRun t r' :: l) w := h.f 3
 refine qw rfl (qg rfl (blob_UsedOk hu4 h) ?_)
 clear h
 rintro _ w ⟨rfl, h⟩
 replace h : St w0 (IsSh p s' :: IsRun t r' :: l) w := St.shd.2 ⟨q, h.o [1, 2, 3, 0]⟩
 replace h := h.f 1
 obtain ⟨us, hus⟩ : ∃ us, s'.b.bytes + s'.b.charged = us := ⟨_, rfl⟩
 rw [hus]
 refine Y3 ?_; refine Ym ?_
 refine qw rfl (qg rfl (vq O0 h) ?_)
 clear h
 rintro _ w ⟨a, c, rfl, h⟩
 rw [hout, k7]
 rw [hout] at h
 refine Y2z ?_
 refine qw rfl (qc h fun b12 w h => ?_)
 refine qw rfl (qy (vs := r'.res.C a c) 0 h rfl rfl rfl rfl rfl rfl rfl fun w h => ?_)
 refine Y4 ?_
 obtain ⟨L, hL⟩ : ∃ L, r'.res.list = L := ⟨_, rfl⟩
 rw [hL] at h k9
 replace h : St w0 (Own 57 2 a L.length c (smpsV L) :: pt b12 (.cells (r'.res.C a c).toArray 28 (0, 0)) :: IsRun t r' :: IsSh p s' :: l) w := h.f 1
 refine Y2 ?_
 refine ql (Γ := Unit) (fun _ => [(0, .slice (some ⟨bb, oo, none⟩) xs.length ct), (3, .pz p), (4, .iz (i : Int)), (5, .pz t), (11, .iz us), (12, .pz b12), (13, .bool true)])
  (fun _ w => St w0 (Own 57 2 a L.length c (smpsV (turned L L.length)) :: pt b12 (.cells (r'.res.C a c).toArray 28 (0, 0)) :: IsRun t r' :: IsSh p s' :: l) w) ?_ ?_
 ·refine Y1o ?_
  refine qh (qj (v := .slice a L.length c) rfl (h.b 1 rfl) O28) rfl ?_
  refine Y17 ?_; refine Y1w ?_
  refine jd (Γ := Nat) (fun k => [(0, .slice (some ⟨bb, oo, none⟩) xs.length ct), (3, .pz p), (4, .iz (i : Int)), (5, .pz t), (11, .iz us), (12, .pz b12), (13, .bool true), (81, .iz (L.length : Int)), (82, .iz (k : Int))])
   (fun k w => k ≤ L.length ∧ St w0 (Own 57 2 a L.length c (smpsV (turned L k)) :: pt b12 (.cells (r'.res.C a c).toArray 28 (0, 0)) :: IsRun t r' :: IsSh p s' :: l) w) (fun k => L.length - k) 0 zz9 ⟨Ud _, h⟩ ?_
  clear h
  rintro k w e ⟨hkL, h⟩
  refine Y3j ?_
  by_cases hk : k < L.length
  rotate_left
  ·refine qz (.bool false) O4 ?_
   refine qu (qi (qr rfl (ju ?_)))
   obtain rfl : k = L.length := by omega
   exact Eq.mpr (if_pos rfl) ⟨(), zz7, h⟩
  refine qz (.bool true) O3 ?_
  refine Y3v ?_; refine Yk ?_
  obtain ⟨x, hxk⟩ : ∃ x, L[k]? = some x := ⟨_, Uc hk⟩
  obtain ⟨g, rfl⟩ : ∃ g, a = some ⟨g, 0, none⟩ := h.own_some O0
  refine ql (Γ := Unit) (fun _ => [(0, .slice (some ⟨bb, oo, none⟩) xs.length ct), (3, .pz p), (4, .iz (i : Int)), (5, .pz t), (11, .iz us), (12, .pz b12), (13, .bool true), (81, .iz (L.length : Int)), (82, .iz (k : Int))])
   (fun _ w => St w0 (Own 57 2 (sQ g) L.length c (smpsV (turned L (k + 1))) :: pt b12 (.cells (r'.res.C (sQ g) c).toArray 28 (0, 0)) :: IsRun t r' :: IsSh p s' :: l) w) (c_block ?_) ?_
  rotate_left
  ·clear h
   rintro _ w e h
   refine Ys ?_
   refine qz (.iz ((k + 1 : Nat) : Int)) O22 ?_
   refine Y0 ?_
   exact qu ⟨k + 1, zz9, ⟨O_o, h⟩, O_o⟩
  refine Y3c ?_; refine Y43 ?_
  refine qh (qj (v := .slice (sQ g) L.length c) rfl (h.b 1 rfl) O28) rfl ?_
  refine Y0 ?_
  refine qh (jh (j := k) (o' := k * 2) rfl rfl rfl hk O8) rfl ?_
  refine Yi ?_
  have hcv := h.own_rd.cell (flat_get je (turned L k) k x (turned_get hxk) 1 (.int .u64 x.V) rfl)
  rw [Ux] at hcv
  refine qh (jq (v := .int .u64 x.V) rfl hcv) rfl ?_
  refine Y1e ?_
  refine qh (jh (j := k) (o' := k * 2) rfl rfl rfl hk O8) rfl ?_
  refine Yi ?_
  refine qw rfl (ji (v := .int .u64 (IntKind.u64.wrap (x.V + 1))) h rfl rfl O0 rfl fun w h => ?_)
  rw [flat_set je (turned L k) k x ⟨x.T, IntKind.u64.wrap (x.V + 1)⟩ 1 (.int .u64 (IntKind.u64.wrap (x.V + 1))) (turned_get hxk) O2 rfl, turned_set hxk] at h
  exact qu ⟨(), zz9, h⟩
 clear h
 rintro _ w e h
 replace h : St w0 (IsRun t r' :: IsSh p s' :: Own 57 2 a L.length c (smpsV (turned L L.length)) :: pt b12 (.cells (r'.res.C a c).toArray 28 (0, 0)) :: l) w := h.o [2, 3]
 refine ql (Γ := Unit) (fun _ => [(0, .slice (some ⟨bb, oo, none⟩) xs.length ct), (3, .pz p), (4, .iz (i : Int)), (5, .pz t), (12, .pz b12)])
  (fun _ w => St w0 (IsRun t r' :: IsSh p s' :: Own 57 2 a L.length c (smpsV (turned L L.length)) :: pt b12 (.cells (r'.res.C a c).toArray 28 (0, 0)) :: l) w) ?_ ?_
 ·refine Y4k ?_; refine Y33 ?_; refine Y4t ?_
  refine qw rfl (qg rfl (gr hT st4 h) ?_)
  clear h
  rintro _ w ⟨rfl, h⟩
  rw [e4] at h ⊢
  refine Ye ?_; refine Y1p ?_; refine Y8 ?_; refine Y33 ?_; refine Y4t ?_
  refine qw rfl (qg rfl (gr hT st4 h) ?_)
  clear h
  rintro _ w ⟨rfl, h⟩
  rw [e4] at h ⊢
  refine Ye ?_; refine Y1p ?_; refine Y8 ?_; refine Y33 ?_
  refine qw rfl (qg rfl (prog_Holds h) ?_)
  clear h
  rintro _ w ⟨rfl, h⟩
  rw [k8]
  refine Ye ?_; refine Y1p ?_; refine Y8 ?_; refine Y33 ?_
  refine qw rfl (qg rfl (shd_Store (h.f 1)) ?_)
  clear h
  rintro _ w ⟨q, rfl, h⟩
  replace h : St w0 (IsStore q.b s'.b :: ShPt p q :: IsDir q.d s'.d :: IsCache q.c s'.c :: IsTab q.t s'.t.V :: IsRun t r' :: Own 57 2 a L.length c (smpsV (turned L L.length)) :: pt b12 (.cells (r'.res.C a c).toArray 28 (0, 0)) :: l) w := h.f 3
  refine Ye ?_
  refine qw rfl (qg rfl (blob_UsedOk hu4 h) ?_)
  clear h
  rintro _ w ⟨rfl, h⟩
  replace h : St w0 (IsSh p s' :: IsRun t r' :: Own 57 2 a L.length c (smpsV (turned L L.length)) :: pt b12 (.cells (r'.res.C a c).toArray 28 (0, 0)) :: l) w := St.shd.2 ⟨q, h.o [1, 2, 3, 0]⟩
  rw [hus]
  refine Y3g ?_
  refine qh (qa (v' := .bool false) (q_neq rfl rfl) (congrArg Value.bool O8)) rfl ?_
  refine Y8 ?_
  exact qu (qr rfl (q9 ⟨(), zz5, h.f 1⟩))
 clear h
 rintro _ w e h
 refine Ym ?_
 refine qw rfl (qg rfl (vq (by rw [hL]; omega) h) ?_)
 clear h
 rintro _ w ⟨a2, c2, rfl, h⟩
 rw [hout, k7]
 rw [hout] at h
 refine Y2z ?_
 refine qw rfl (qc h fun b15 w h => ?_)
 refine qw rfl (qy (vs := r'.res.C a2 c2) 0 h rfl rfl rfl rfl rfl rfl rfl fun w h => ?_)
 refine Y4 ?_
 rw [hL] at h
 replace h : St w0 (pt b15 (.cells (r'.res.C a2 c2).toArray 28 (0, 0)) :: pt b12 (.cells (r'.res.C a c).toArray 28 (0, 0)) :: Own 57 2 a2 L.length c2 (smpsV L) :: Own 57 2 a L.length c (smpsV (turned L L.length)) :: IsSh p s' :: l) w := (h.x [2]).o [0, 4, 1, 3]
 refine Y2 ?_
 refine qi (jb none (fun w => St w0 (pt b15 (.cells (r'.res.C a2 c2).toArray 28 (0, 0)) :: pt b12 (.cells (r'.res.C a c).toArray 28 (0, 0)) :: Own 57 2 a2 L.length c2 (smpsV L) :: Own 57 2 a L.length c (smpsV (turned L L.length)) :: IsSh p s' :: l) w) O1 O1 h.drew fun w h => ?_)
 refine Yu ?_; refine cpv rfl rfl rfl rfl h rfl (q_not rfl) ?_; refine Yu ?_; refine qv rfl rfl rfl rfl (fun _ => h) (fun _ => qf rfl rfl (gq rfl)) ?_
 refine qq rfl rfl rfl rfl h (fun _ h => qf rfl rfl (qj (v := .iz r'.res.err) rfl (h.b 0 rfl) rfl)) ?_
 refine qv rfl rfl rfl rfl (fun _ => h) (fun _ => qf rfl rfl (gq rfl)) ?_
 refine qq rfl rfl rfl rfl h (fun _ h => qf rfl rfl (qj (v := .iz r'.res.err) rfl (h.b 1 rfl) rfl)) ?_
 refine qv rfl rfl rfl rfl (fun _ => h) (fun _ => qf rfl rfl (qa (v' := .bool false) (q_neq rfl rfl) (congrArg Value.bool O8))) ?_
 refine cpv rfl rfl rfl rfl h rfl (jn rfl rfl rfl) ?_; refine Yu ?_; refine qv rfl rfl rfl rfl (fun _ => h) (fun _ => qf rfl rfl (gq rfl)) ?_
 refine qq rfl rfl rfl rfl h (fun _ h => qf rfl rfl (qj (v := .iz r'.res.iter) rfl (h.b 0 rfl) rfl)) ?_
 refine qv rfl rfl rfl rfl (fun _ => h) (fun _ => qf rfl rfl (gq rfl)) ?_
 refine qq rfl rfl rfl rfl h (fun _ h => qf rfl rfl (qj (v := .iz r'.res.iter) rfl (h.b 1 rfl) rfl)) ?_
 refine qv rfl rfl rfl rfl (fun _ => h) (fun _ => qf rfl rfl (qa (v' := .bool false) (q_neq rfl rfl) (congrArg Value.bool O8))) ?_
 refine cpv rfl rfl rfl rfl h rfl (jn rfl rfl rfl) ?_; refine Yu ?_; refine qv rfl rfl rfl rfl (fun _ => h) (fun _ => qf rfl rfl (gq rfl)) ?_
 refine qq rfl rfl rfl rfl h (fun _ h => qf rfl rfl (qj (v := .slice a2 L.length c2) rfl (h.b 0 rfl) O28)) ?_
 refine qv rfl rfl rfl rfl (fun _ => h) (fun _ => qf rfl rfl (q_len rfl)) (qv rfl rfl rfl rfl (fun _ => h) (fun _ => qf rfl rfl (gq rfl)) ?_)
 refine qq rfl rfl rfl rfl h (fun _ h => qf rfl rfl (qj (v := .slice a L.length c) rfl (h.b 1 rfl) O28)) ?_
 refine qv rfl rfl rfl rfl (fun _ => h) (fun _ => qf rfl rfl (q_len rfl)) ?_
 refine qv rfl rfl rfl rfl (fun _ => h) (fun _ => qf rfl rfl (qa (v' := .bool false) (q_neq rfl rfl) (congrArg Value.bool O8))) ?_
 refine cpv rfl rfl rfl rfl h rfl (jn rfl rfl rfl) ?_; refine Yu ?_; refine qv rfl rfl rfl rfl (fun _ => h) (fun _ => qf rfl rfl (gq rfl)) ?_
 refine qq rfl rfl rfl rfl h (fun _ h => qf rfl rfl (qj (v := .slice a L.length c) rfl (h.b 1 rfl) O28)) ?_
 refine qv rfl rfl rfl rfl (fun _ => h) (fun _ => qf rfl rfl (q_len rfl)) ?_
 by_cases hL0 : L = []
 ·refine qv rfl rfl rfl rfl (fun _ => h) (fun _ => qf rfl rfl (qa (v' := .bool false) (q_gtr rfl rfl) (congrArg Value.bool (by rw [hL0]; rfl)))) ?_
  refine qv rfl rfl rfl rfl (fun _ => h) (fun _ => qf rfl rfl (q_moveB rfl)) (qv rfl rfl rfl rfl (fun _ => h) (fun _ => qo rfl rfl) (qv rfl rfl rfl rfl (fun _ => h) (fun _ => qo rfl rfl) (qv rfl rfl rfl rfl (fun _ => h) (fun _ => qo rfl rfl) (qv rfl rfl rfl rfl (fun _ => h) (fun _ => qo rfl rfl) (qv rfl rfl rfl rfl (fun _ => h) (fun _ => qo rfl rfl) ?_))))); refine qv rfl rfl rfl rfl (fun _ => h) (fun _ => qo rfl rfl) (qv rfl rfl rfl rfl (fun _ => h) (fun _ => qo rfl rfl) (qv rfl rfl rfl rfl (fun _ => h) (fun _ => qo rfl rfl) (qv rfl rfl rfl rfl (fun _ => h) (fun _ => qo rfl rfl) (qv rfl rfl rfl rfl (fun _ => h) (fun _ => qo rfl rfl) (qv rfl rfl rfl rfl (fun _ => h) (fun _ => qo rfl rfl) ?_))))); refine qv rfl rfl rfl rfl (fun _ => h) (fun _ => qo rfl rfl) (qv rfl rfl rfl rfl (fun _ => h) (fun _ => qf rfl rfl (jn rfl rfl rfl)) (cpv rfl rfl rfl rfl h rfl (jn rfl rfl rfl) ?_))
  exact qp (qr rfl (q9 ⟨(), zz3, h.x [0, 1, 2, 3]⟩))
 ·have hpos : 0 < L.length := Vk.2 hL0
  obtain ⟨x, hx0⟩ : ∃ x, L[0]? = some x := ⟨_, Uc hpos⟩
  obtain ⟨g2, rfl⟩ : ∃ g, a2 = some ⟨g, 0, none⟩ := (h.f 2).own_some O0
  obtain ⟨g1, rfl⟩ : ∃ g, a = some ⟨g, 0, none⟩ := (h.f 3).own_some O0
  have hc2 : ∀ {w'}, St w0 (pt b15 (.cells (r'.res.C (sQ g2) c2).toArray 28 (0, 0)) :: pt b12 (.cells (r'.res.C (sQ g1) c).toArray 28 (0, 0)) :: Own 57 2 (sQ g2) L.length c2 (smpsV L) :: Own 57 2 (sQ g1) L.length c (smpsV (turned L L.length)) :: IsSh p s' :: l) w' → w'.cell? ⟨g2, 0 + 1, none⟩ = some (.int .u64 x.V) := fun h' => (h'.f 2).own_rd.cell (flat_get je L 0 x hx0 1 (.int .u64 x.V) rfl)
  have hc1 : ∀ {w'}, St w0 (pt b15 (.cells (r'.res.C (sQ g2) c2).toArray 28 (0, 0)) :: pt b12 (.cells (r'.res.C (sQ g1) c).toArray 28 (0, 0)) :: Own 57 2 (sQ g2) L.length c2 (smpsV L) :: Own 57 2 (sQ g1) L.length c (smpsV (turned L L.length)) :: IsSh p s' :: l) w' → w'.cell? ⟨g1, 0 + 1, none⟩ = some (.int .u64 (IntKind.u64.wrap (x.V + 1))) := fun h' => (h'.f 3).own_rd.cell (flat_get je (turned L L.length) 0 _ (turned_first hx0) 1 (.int .u64 (IntKind.u64.wrap (x.V + 1))) rfl)
  refine qv rfl rfl rfl rfl (fun _ => h) (fun _ => qf rfl rfl (qa (v' := .bool true) (q_gtr rfl rfl) (congrArg Value.bool (by rw [decide_eq_true_eq]; omega)))) ?_
  refine qv rfl rfl rfl rfl (fun _ => h) (fun _ => qf rfl rfl (q_moveB rfl)) (qv rfl rfl rfl rfl (fun _ => h) (fun _ => qf rfl rfl (gq rfl)) ?_)
  refine qq rfl rfl rfl rfl h (fun _ h => qf rfl rfl (qj (v := .slice (sQ g2) L.length c2) rfl (h.b 0 rfl) O28)) ?_
  refine qv rfl rfl rfl rfl (fun _ => h) (fun _ => qf rfl rfl (jh (j := 0) (o' := 0) rfl rfl rfl hpos O8)) ?_
  refine qv rfl rfl rfl rfl (fun _ => h) (fun _ => qf rfl rfl (gq rfl)) ?_
  refine qq rfl rfl rfl rfl h (fun _ h => qf rfl rfl (jq (v := .int .u64 x.V) rfl (hc2 h))) ?_
  refine qv rfl rfl rfl rfl (fun _ => h) (fun _ => qf rfl rfl (vj rfl rfl)) (qv rfl rfl rfl rfl (fun _ => h) (fun _ => qf rfl rfl (gq rfl)) ?_)
  refine qq rfl rfl rfl rfl h (fun _ h => qf rfl rfl (qj (v := .slice (sQ g1) L.length c) rfl (h.b 1 rfl) O28)) ?_
  refine qv rfl rfl rfl rfl (fun _ => h) (fun _ => qf rfl rfl (jh (j := 0) (o' := 0) rfl rfl rfl hpos O8)) ?_
  refine qv rfl rfl rfl rfl (fun _ => h) (fun _ => qf rfl rfl (gq rfl)) ?_
  refine qq rfl rfl rfl rfl h (fun _ h => qf rfl rfl (jq (v := .int .u64 (IntKind.u64.wrap (x.V + 1))) rfl (hc1 h))) ?_
  refine qv rfl rfl rfl rfl (fun _ => h) (fun _ => qf rfl rfl (qa (v' := .bool false) (q_neq rfl rfl) (congrArg Value.bool O8))) ?_
  refine qv rfl rfl rfl rfl (fun _ => h) (fun _ => qf rfl rfl (jl rfl rfl rfl)) (cpv rfl rfl rfl rfl h rfl (jn rfl rfl rfl) ?_)
  exact qp (qr rfl (q9 ⟨(), zz3, h.x [0, 1, 2, 3]⟩))
end
end
end Go.Proofs.YtngdfdangkdgcaaGreatDoor
