/- What the proof of ProgIters needs, part 6: plain lemmas, and what each function does. -/
import Derived.Test.YtngdfdangkdgcaaGreatDoorQProgIterse
set_option linter.unusedVariables false
set_option linter.unusedSimpArgs false
set_option linter.unnecessarySimpa false
set_option maxRecDepth 100000
set_option maxHeartbeats 4000000
namespace Go.Proofs.YtngdfdangkdgcaaGreatDoor
open Go.Hw _root_.Go.Proofs.Tryz
section
variable {s s' s2 : Shd} {a : Ag} {A : List Ag} {acc : List SlotV} {al : Int → Bool} {G G' : Int → Blb} {n n' : Nat} {r : Run} {ps pn : List Key3} {b b' : Int} {who series : Int} {k : Nat} {fl se : Option (Int × SlotV)} {held : List Prt}
theorem pre_drop_take {L M : List Smp} (h : L <+: M) {d c : Nat} (hl : d + c ≤ L.length) : (M.drop d).take c = (L.drop d).take c := by
 obtain ⟨t, rfl⟩ := h
 rw [List.drop_append_of_le_length O0, Xp O22]
theorem cap_rng (r : Run) : 0 ≤ r.cap ∧ r.cap ≤ 1000 := by unfold Run.cap; omega
theorem tell_step (hI : Inv s (a :: A) acc al G n) (hr : RunOk al r) (hk : r.o.kind = 6) (hR : Rel G s r a k) (hn : n + 2 ≤ 1000000000) (hTg : ∀ id, 1 ≤ id → id ≤ s.b.last → CodOk (G id).tag) : r.TellOk s ∧ ∃ a' acc' G', Out A al s G n r k (r.tell s) a' acc' G' := by
 have hlast := hI.last
 have hadd : r.adds = 0 := if_neg O0
 have h1l : s.b.last ≤ s.b.last + r.adds := by omega
 have hcap := cap_rng r
 have hcr : min (max r.o.N 0) 1000 = r.cap := rfl
 have hte := Run.tell_eq r s
 rw [hcr] at hte
 cases hR with
 | make hk' => exact absurd hk' O11
 | put hk' => exact absurd hk' O11
 | hard hk' => omega
 | read hk' => omega
 | idle h0 hf hb =>
  refine ⟨⟨hI.tfits, fun h => by omega, by rw [hb.got]; exact Ud _, fun h => absurd h0 h⟩, ?_⟩
  rw [if_pos h0] at hte
  rw [hte]
  rcases run_use hI with ⟨u1, u2⟩ | ⟨u1, u2⟩ | ⟨o, u1, u2, u3, u4, u5, u6, u7⟩
  ·rw [u2, if_neg Wi]
   refine ⟨_, _, G, (hI.set_n hn).2, fun _ _ => rfl, Uu _, h1l, fun _ h1 h2 => absurd h1 (Vh.2 h2), Keeps.refl _ _, rfl, rfl, rfl, rfl, .point rfl rfl (holds0 hf hb.using_ hb.held) rfl ?_⟩
   rw [act_noiter hr.bad (.inl hk) (by show mget r.o.iter (itsOf s.t.l G) = none; rw [itsOf_get, u1]; rfl)]; rfl
  ·rw [u2, if_neg Wi]
   exact ⟨_, _, G, (hI.set_n hn).2, fun _ _ => rfl, Uu _, h1l, fun _ h1 h2 => absurd h1 (Vh.2 h2), Keeps.refl _ _, rfl, rfl, rfl, rfl, .none rfl h0 (.inr ⟨.inl hk, u1⟩)⟩
  ·rw [u3, if_pos rfl]
   have hon : s.t.on r.o.iter = o := by unfold Tb.on; rw [u1]; rfl
   rw [hon]
   by_cases hc : r.cap = 0
   ·rw [if_pos hc]
    obtain ⟨s', h1, h2, h3, h4, h5, h6⟩ := hand_step (r := { r with using_ := true, x := o.x, told := o.told, ph := 2 }) (L := []) u4 u5 rfl rfl hr.bad hk (by show [] = (_ : List Smp).take r.cap.toNat; rw [hc]; rfl)
    rw [h1]
    have h4' : s'.b.last = s.b.last ∧ s'.b.budget = s.b.budget := by rw [h4]; exact ⟨rfl, rfl⟩
    refine ⟨_, acc, G, (h2.set_n hn).2, fun _ _ => rfl, by show _ ≤ s'.b.last; omega, by show s'.b.last ≤ _; omega, fun _ h1 h2 => absurd h1 (Vh.2 (Vw h2 O24)), u6.trans h3, rfl, rfl, ?_, h4'.2, .point rfl rfl (holds0 hf rfl hb.held) rfl ?_⟩
    ·show s'.c.clk.most = _; rw [h5]
    ·rw [u7] at h6; exact h6
   ·rw [if_neg hc]
    obtain ⟨o1, o2, o3, o4, _⟩ := hI.tab.on _ _ u1
    have hfew := o1.few
    refine ⟨_, acc, G, (u4.set_n hn).2, fun _ _ => rfl, Uu _, h1l, fun _ h1 h2 => absurd h1 (Vh.2 h2), u6, rfl, rfl, rfl, rfl, .some rfl ⟨hr.over, hr.bad, hr.wf, hr.al, hr.s4, hr.s5, hr.n4, hr.n5, O_t, hr.f0, hr.f3⟩ (6 * o.x.parts.length + 1) ?_ (.inl (by rw [need_next hk u1]; omega)) u7 (fun h => absurd h O11)⟩
    refine Rel.next (r := { r with using_ := true, x := o.x, told := o.told, ph := if o.x.parts.length = 0 then 3 else 2 }) hk hf hb.held rfl (o := { o with used := true, who := r.who }) (pn := []) u5 rfl rfl rfl rfl ?_ hc ?_
    ·show PartSt G o.x o.series r.one r.i r.got [] _
     rw [hb.one, hb.i, hb.got]; exact PartSt.new G o.x o.series
    ·show (((if o.x.parts.length = 0 then (3 : Int) else 2) = 2 ∧ r.i ≠ _ ∧ (r.got.length : Int) < o.told + r.cap) ∨ ((if o.x.parts.length = 0 then (3 : Int) else 2) = 3 ∧ r.one = none ∧ _ ∧ (r.i = (o.x.parts.length : Int) ∨ _)))
     rw [hb.i, hb.got, hb.one]
     by_cases h0 : o.x.parts.length = 0
     ·rw [if_pos h0]; exact .inr ⟨rfl, rfl, rfl, .inl O0⟩
     ·rw [if_neg h0]; exact .inl ⟨rfl, by show (0 : Int) ≠ (o.x.parts.length : Int); omega, by show (0 : Int) < o.told + r.cap; omega⟩
 | @next _ hf hh hu o pn k hg hou how hox hot hp hn0 hph =>
  obtain ⟨o', h1, _, _, o1, o2, o3, o4⟩ := hI.mine rfl
  rw [hg] at h1
  obtain rfl := Un h1
  have hxok : SnpOk G s.b.last r.x := by rw [← hox]; exact o1
  have hfew := hxok.few
  have htail := hxok.tail
  have hsl := Snp.len hxok
  have hgl := hp.got_len hxok.prts
  have hon : s.t.on r.o.iter = o := by unfold Tb.on; rw [hg]; rfl
  rw [hon] at hte
  rw [hox] at o3
  have ht0 : 0 ≤ r.told ∧ r.told ≤ 800007 := by omega
  have hS : ∀ p ∈ r.x.parts, ∃ e, mget p.blob s.b.l = some e ∧ (G p.blob).Ok e.bs := fun p hp => by
   obtain ⟨e, he, ho, _⟩ := hI.sto.alive (cnt_tab hg (show p ∈ o.x.parts by rw [hox]; exact hp))
   exact ⟨e, he, ho⟩
  have hplen := hI.pins_le
  rw [Uh, Ua] at hplen
  rcases hph with ⟨h2, hi, hlt⟩ | ⟨h3, hone, hpn, hfull⟩
  ·obtain ⟨z, hz⟩ : ∃ z, r.part s o.series = z := ⟨_, rfl⟩
   rw [if_neg O0, if_pos h2, hz] at hte
   have hpo := part_all hI rfl hp hxok hi o4 hS hTg
   obtain ⟨_, hst⟩ := part_step (s := s) hp hxok hlast hi o4 hI.cac_in hS
   rw [hte]
   rcases hst with ⟨one, i, got, pn', k', C, e1, e2, e3, e4, e5⟩ | ⟨y, kk, e1, e2, e3, e4, e5⟩
   ·have hp1 := e2.pins1
    refine ⟨⟨hI.tfits, fun _ => by rw [hon]; exact ⟨hpo, by rw [e1]; exact e4.good.ok O25⟩, O_o, fun _ h => absurd h2 h⟩, ?_⟩
    rw [e1] at hz
    rw [← hz, if_neg (fun h => h rfl)]
    dsimp only
    have hwt : wI (r.told + r.cap) = r.told + r.cap := jc O0 O0
    rw [hwt, hox]
    have hI' := hI.cache (pn := pn') O0 e4
    have hgl' := e2.got_len hxok.prts
    refine ⟨_, acc, G, hI'.mono O0 O0, fun _ _ => rfl, Uu _, h1l, fun _ h1 h2 => absurd h1 (Vh.2 h2), Keeps.same rfl rfl, rfl, rfl, e5, rfl, .some rfl ⟨hr.over, hr.bad, hr.wf, hr.al, hr.s4, hr.s5, hr.n4, hr.n5, hr.xp, hr.f0, hr.f3⟩ (k' + 1) ?_ (.inl O0) rfl (fun h => absurd h O11)⟩
    refine Rel.next (r := { r with one := one, i := i, got := got, ph := if i = (r.x.parts.length : Int) ∨ (got.length : Int) ≥ r.told + r.cap then 3 else 2 }) hk hf hh hu hg hou how hox hot e2 hn0 ?_
    show ((if i = (r.x.parts.length : Int) ∨ (got.length : Int) ≥ r.told + r.cap then (3 : Int) else 2) = 2 ∧ i ≠ _ ∧ (got.length : Int) < r.told + r.cap) ∨ ((if i = (r.x.parts.length : Int) ∨ (got.length : Int) ≥ r.told + r.cap then (3 : Int) else 2) = 3 ∧ one = none ∧ pn' = [] ∧ (i = (r.x.parts.length : Int) ∨ r.told + r.cap ≤ (got.length : Int)))
    by_cases h0 : i = (r.x.parts.length : Int) ∨ (got.length : Int) ≥ r.told + r.cap
    ·rw [if_pos h0]
     have hnone : one = none ∧ pn' = [] := by
      rcases h0 with h0 | h0
      ·rw [h0] at e2
       exact ⟨e2.full.2.1, e2.full.2.2⟩
      ·obtain ⟨j, q1, q2, q3, ⟨q4, q5, _⟩ | ⟨y, p, kk, q4, q5, _⟩⟩ := e2
       ·exact ⟨q4, q5⟩
       ·exfalso
        rw [Run.part_eq] at e1
        split at e1
        ·have := congrArg (fun z => z.2.2) e1
         dsimp only at this
         rename_i hne
         exact hne this
        ·split at e1
         ·have := congrArg (fun z : Run × Shd × Int => z.1.one) e1
          dsimp only at this
          rw [← this] at q4; cases q4
         ·have := congrArg (fun z : Run × Shd × Int => z.1.got) e1
          dsimp only at this
          rw [← this] at h0
          omega
     exact .inr ⟨rfl, hnone.1, hnone.2, h0⟩
    ·rw [if_neg h0]
     exact .inl ⟨rfl, fun h => h0 (.inl h), O_o⟩
   ·refine ⟨⟨hI.tfits, fun _ => by rw [hon]; exact ⟨hpo, by rw [e1]; exact hI.cacOk⟩, O_o, fun _ h => absurd h2 h⟩, ?_⟩
    rw [e1] at hz
    rw [← hz, if_pos (show (6 : Int) ≠ 0 by decide)]
    obtain ⟨c1, c2⟩ := e3.leave (ps := A.flatMap Ag.pins) (C := s.c) (by
     have := hI.cac_in
     (try dsimp only at this)
     rw [e2] at this
     exact this)
    have hI1 := hI.cache (pn := []) (Ud _) c1
    have hm : Tb.mine s.t r.o.iter r.who = some o := by
     unfold Tb.mine
     rw [hg]
     dsimp only
     rw [if_pos ⟨hou, how⟩]
    have hI2 := hI1.frees (o := o) (told := o.told) rfl hg o2 (by rw [hox]; exact o3)
    have key : ((({ r with one := some y } : Run).fail s).1.free (({ r with one := some y } : Run).fail s).2) = ({ r with one := some (y.leave s.c).1, using_ := false }, { s with c := (y.leave s.c).2, t := ⟨s.t.last, mset r.o.iter { o with used := false } s.t.l⟩ }) := by
     rw [Run.free_eq]
     unfold Run.fail Tb.free
     dsimp only
     rw [hm]
    dsimp only
    rw [key]
    refine ⟨_, acc, G, (hI2.set_n hn).2, fun _ _ => rfl, Uu _, h1l, fun _ h1 h2 => absurd h1 (Vh.2 h2), Keeps.on hg (.inr how) rfl rfl, rfl, rfl, c2, rfl, .busy rfl rfl (holds0 hf rfl hh) rfl ?_ rfl (allPinned_of (al := al) (G := G) (b := s.b.last) (by
     have hcc := hI.cac_in
     (try dsimp only at hcc)
     rw [e2] at hcc
     exact hcc) e4 e5) (.inr hk)⟩
    show (⟨serOf s.d G, itsOf (mset r.o.iter { o with used := false } s.t.l) G, s.t.last⟩ : Mdl) = _
    rw [show itsOf (mset r.o.iter { o with used := false } s.t.l) G = itsOf s.t.l G from itsOf_same hg rfl rfl]; rfl
  ·rw [if_neg O0, if_neg O0] at hte
   refine ⟨⟨hI.tfits, fun h => by omega, O_o, fun _ _ => ht0.1⟩, ?_⟩
   rw [hte]
   rw [hpn] at hI hp
   have hpre := hp.pre
   have hL : r.told_ o r.cap = ((o.x.all G).drop o.told.toNat).take r.cap.toNat := by
    unfold Run.told_
    dsimp only
    rw [hox, hot]
    by_cases hi : r.i = (r.x.parts.length : Int)
    ·rw [if_pos hi]
     rw [hi] at hp
     rw [hp.full.1]
     rw [show (min r.told ((r.x.all G).length : Int)) = r.told by omega]
     generalize (r.x.all G).drop r.told.toNat = M
     by_cases hm : r.cap ≤ (M.length : Int)
     ·rw [show min r.cap (M.length : Int) = r.cap by omega]
     ·rw [show min r.cap (M.length : Int) = (M.length : Int) by omega, Uv O0, Uv O0]
    ·rw [if_neg hi]
     have hgc : r.told + r.cap ≤ (r.got.length : Int) := by
      rcases hfull with h | h
      ·exact absurd h hi
      ·exact h
     rw [show min r.told (r.got.length : Int) = r.told by omega, pre_drop_take hpre (d := r.told.toNat) (c := r.cap.toNat) O0]
     have : ((r.got.drop r.told.toNat).length : Int) = (r.got.length : Int) - r.told := by rw [Ur]; omega
     rw [show min r.cap ((r.got.drop r.told.toNat).length : Int) = r.cap by omega]
   obtain ⟨s', h1, h2, h3, h4, h5, h6⟩ := hand_step hI hg hou how hr.bad hk hL
   rw [h1]
   have h4' : s'.b.last = s.b.last ∧ s'.b.budget = s.b.budget := by rw [h4]; exact ⟨rfl, rfl⟩
   refine ⟨_, acc, G, (h2.set_n hn).2, fun _ _ => rfl, by show _ ≤ s'.b.last; omega, by show s'.b.last ≤ _; omega, fun _ h1 h2 => absurd h1 (Vh.2 (Vw h2 O24)), h3, rfl, rfl, ?_, h4'.2, .point rfl rfl (holds0 hf rfl hh) rfl h6⟩
   show s'.c.clk.most = _; rw [h5]
theorem run_step (hI : Inv s (a :: A) acc al G n) (hr : RunOk al r) (hR : Rel G s r a k) (hn : n + 2 ≤ 1000000000) (hb : s.b.last < 100000) (hTg : ∀ id, 1 ≤ id → id ≤ s.b.last → CodOk (G id).tag) : r.StepOk s ∧ ∃ a' acc' G', Out A al s G n r k (r.step s) a' acc' G' := by
 have hst : r.step s = if r.o.kind = 2 then r.read s else if r.o.kind = 5 then r.open_ s else if r.o.kind = 6 then r.tell s else if r.o.kind = 7 then r.shut s else r.write s := by
  unfold Run.step
  rw [hr.over, if_neg Wi, hr.bad, if_neg Wi]
 rw [hst]
 by_cases h2 : r.o.kind = 2
 ·rw [if_pos h2]
  obtain ⟨q1, q2⟩ := read_step hI hr h2 hR hn hTg
  exact ⟨⟨fun _ _ _ => q1, fun _ _ h => by omega, fun _ _ h => by omega, fun _ _ h => by omega, fun _ _ h => absurd h2 h⟩, q2⟩
 rw [if_neg h2]
 by_cases h5 : r.o.kind = 5
 ·rw [if_pos h5]
  obtain ⟨q1, q2⟩ := open_step hI hr h5 hR hn
  exact ⟨⟨fun _ _ h => absurd h h2, fun _ _ _ => q1, fun _ _ h => by omega, fun _ _ h => by omega, fun _ _ _ h => absurd h5 h⟩, q2⟩
 rw [if_neg h5]
 by_cases h6 : r.o.kind = 6
 ·rw [if_pos h6]
  obtain ⟨q1, q2⟩ := tell_step hI hr h6 hR hn hTg
  exact ⟨⟨fun _ _ h => absurd h h2, fun _ _ h => absurd h h5, fun _ _ _ => q1, fun _ _ h => by omega, fun _ _ _ _ h => absurd h6 h⟩, q2⟩
 rw [if_neg h6]
 by_cases h7 : r.o.kind = 7
 ·rw [if_pos h7]
  obtain ⟨q1, q2⟩ := shut_step hI hr h7 hR hn
  exact ⟨⟨fun _ _ h => absurd h h2, fun _ _ h => absurd h h5, fun _ _ h => absurd h h6, fun _ _ _ => q1, fun _ _ _ _ _ h => absurd h7 h⟩, q2⟩
 rw [if_neg h7]
 have hw : r.wrt := by
  have hb := hr.bad
  unfold Run.bad at hb
  by_cases hk : 1 ≤ r.o.kind ∧ r.o.kind ≤ 5
  ·unfold Run.wrt; omega
  ·rw [if_neg hk] at hb
   simp [h6, h7] at hb
 obtain ⟨q1, q2⟩ := write_step hI hr hw hR hn hb
 exact ⟨⟨fun _ _ h => absurd h h2, fun _ _ h => absurd h h5, fun _ _ h => absurd h h6, fun _ _ h => absurd h h7, fun _ _ _ _ _ _ => q1⟩, q2⟩
end
section
section
variable {w0 w : World} {l : List HProp} {t p : Nat} {r : Run} {s : Shd} {q : RunQ}
theorem prog_Holds (h : St w0 (IsRun t r :: l) w) :
  Ret prog 16 [.pz t] w fun v w' => v = .iz r.holds ∧ St w0 (IsRun t r :: l) w' := by
 obtain ⟨P, hP⟩ : ∃ P : Nat → Int, P = fun k => (if 1 ≤ k ∧ r.flag = true then 1 else 0) + (if 2 ≤ k ∧ r.using_ = true then 1 else 0) + (if 3 ≤ k ∧ r.held = true then 1 else 0) := ⟨_, rfl⟩
 have p0 : P 0 = 0 := by rw [hP]; rfl
 have hPr : ∀ k, 0 ≤ P k ∧ P k ≤ 3 := by
  intro k
  rw [hP]
  dsimp only
  split <;> split <;> split <;> omega
 have p3 : P 3 = r.holds := by
  rw [hP]
  unfold Run.holds
  cases r.flag <;> cases r.using_ <;> cases r.held <;> rfl
 have hh := h
 obtain ⟨q, h⟩ := (St.run (r := r)).1 h
 replace h : St w0 (RunPt t r q :: (r.rows q ++ l)) w := h
 generalize hX : r.rows q ++ l = X at h
 refine en func16 results16 ntmps16 ?_
 refine Yr ?_; refine Yr ?_
 refine qo (qo (jb none (fun w => St w0 (RunPt t r q :: X) w) O1 O1 h.drew fun w h => ?_))
 refine Y3 ?_
 refine qj rfl rfl rfl rfl h (fun _ h => qb rfl (qq (v := .bool r.flag) rfl (h.b 0 rfl) rfl)) ?_
 refine Y3 ?_
 refine qj rfl rfl rfl rfl h (fun _ h => qb rfl (qq (v := .bool r.using_) rfl (h.b 0 rfl) rfl)) ?_
 refine Y3 ?_
 refine qj rfl rfl rfl rfl h (fun _ h => qb rfl (qq (v := .bool r.held) rfl (h.b 0 rfl) rfl)) ?_
 refine Yq ?_; refine Y18 ?_
 refine qm 12 rfl rfl rfl rfl ?_
 refine jv (r := [.bool r.flag, .bool r.using_, .bool r.held]) h rfl rfl rfl fun b w h => ⟨fun _ => h.drop, ?_⟩
 have hφ := h.drop
 refine qu rfl rfl rfl rfl (fun _ => hφ) (fun _ => qb rfl (q_len rfl)) ?_
 refine qp ?_
 refine Yi ?_
 refine jh (Γ := Nat) (fun i => [(3, .iz (P i)), (18, .slice (sQ b) 3 3), (19, .iz 3), (20, .iz (i : Int))]) (fun i w => i ≤ 3 ∧ St w0 (pt b (.cells [.bool r.flag, .bool r.using_, .bool r.held].toArray 4 (0, 0)) :: RunPt t r q :: X) w) (fun i => 3 - i) 0 ⟨by rw [p0]; rfl, rfl, rfl, rfl, trivial⟩ ⟨Ud _, h⟩ ?_
 clear h
 rintro i w e ⟨hi, h⟩
 refine Y3i ?_
 by_cases hlt : i < 3
 ·refine qz (.bool true) O3 ?_
  refine Y3t ?_; refine Yk ?_
  refine qi (Γ := Unit) (fun _ => [(3, .iz (P (i + 1))), (18, .slice (sQ b) 3 3), (19, .iz 3), (20, .iz (i : Int))]) (fun _ w => St w0 (pt b (.cells [.bool r.flag, .bool r.using_, .bool r.held].toArray 4 (0, 0)) :: RunPt t r q :: X) w) (c_block ?_) ?_
  rotate_left
  ·rintro _ w e h
   refine Yt ?_
   refine qz (.iz ((i + 1 : Nat) : Int)) O14 ?_
   refine Y0 ?_
   exact qv ⟨i + 1, zz4, ⟨O_o, h⟩, O_o⟩
  obtain rfl | rfl | rfl : i = 0 ∨ i = 1 ∨ i = 2 := by omega
  ·have hp : P 1 = P 0 + (if r.flag = true then 1 else 0) := by
    rw [hP]
    dsimp only
    cases r.flag <;> cases r.using_ <;> cases r.held <;> rfl
   refine Y1 ?_
   refine qh (jd (j := 0) (o' := 0) rfl rfl rfl O2 rfl) rfl ?_
   refine qh (qq (v := .bool r.flag) rfl (h.b 0 rfl) rfl) rfl ?_
   refine Ya ?_; refine Y34 ?_
   refine qv (ql r.flag rfl (fun hc => ?_) (fun hc => ?_))
   ·rw [if_pos hc] at hp
    refine Y2w ?_
    refine qz (.iz (P 1)) (by rw [hp, wrap64 (by have := hPr 0; omega) (by have := hPr 0; omega)]) ?_
    refine Y7 ?_
    exact qv ⟨(), zz4, h⟩
   ·rw [if_neg (by rw [hc]; decide), Int.add_zero] at hp
    exact qr ⟨(), ⟨by rw [hp]; rfl, rfl, rfl, rfl, trivial⟩, h⟩
  ·have hp : P 2 = P 1 + (if r.using_ = true then 1 else 0) := by
    rw [hP]
    dsimp only
    cases r.flag <;> cases r.using_ <;> cases r.held <;> rfl
   refine Y1 ?_
   refine qh (jd (j := 1) (o' := 1) rfl rfl rfl O2 rfl) rfl ?_
   refine qh (qq (v := .bool r.using_) rfl (h.b 0 rfl) rfl) rfl ?_
   refine Ya ?_; refine Y34 ?_
   refine qv (ql r.using_ rfl (fun hc => ?_) (fun hc => ?_))
   ·rw [if_pos hc] at hp
    refine Y2w ?_
    refine qz (.iz (P 2)) (by rw [hp, wrap64 (by have := hPr 1; omega) (by have := hPr 1; omega)]) ?_
    refine Y7 ?_
    exact qv ⟨(), zz4, h⟩
   ·rw [if_neg (by rw [hc]; decide), Int.add_zero] at hp
    exact qr ⟨(), ⟨by rw [hp]; rfl, rfl, rfl, rfl, trivial⟩, h⟩
  ·have hp : P 3 = P 2 + (if r.held = true then 1 else 0) := by
    rw [hP]
    dsimp only
    cases r.flag <;> cases r.using_ <;> cases r.held <;> rfl
   refine Y1 ?_
   refine qh (jd (j := 2) (o' := 2) rfl rfl rfl O2 rfl) rfl ?_
   refine qh (qq (v := .bool r.held) rfl (h.b 0 rfl) rfl) rfl ?_
   refine Ya ?_; refine Y34 ?_
   refine qv (ql r.held rfl (fun hc => ?_) (fun hc => ?_))
   ·rw [if_pos hc] at hp
    refine Y2w ?_
    refine qz (.iz (P 3)) (by rw [hp, wrap64 (by have := hPr 2; omega) (by have := hPr 2; omega)]) ?_
    refine Y7 ?_
    exact qv ⟨(), zz4, h⟩
   ·rw [if_neg (by rw [hc]; decide), Int.add_zero] at hp
    exact qr ⟨(), ⟨by rw [hp]; rfl, rfl, rfl, rfl, trivial⟩, h⟩
 ·refine qz (.bool false) O4 ?_
  refine qv (qo (qa rfl (ju ?_)))
  obtain rfl : i = 3 := by omega
  refine Y6 ?_; refine Y7 ?_
  refine qv (qk (bq1 ⟨by rw [p3]; rfl, ?_⟩))
  rw [← hX] at h
  exact (St.run (r := r)).2 ⟨q, h.drop⟩
end
end
section
section
variable {w0 w : World} {l : List HProp} {t p : Nat} {r r' : Run} {s s' : Shd} {n : Nat} {d : Int}
inductive Solo : Run → Shd → Nat → Run → Shd → Int → Prop
 | last {r : Run} {s : Shd} {d : Int} (hok : r.StepOk s) (hd : (r.step s).2.2 = d) (h : d = 2 ∨ d = 3) : Solo r s 1 (r.step s).1 (r.step s).2.1 d
 | more {r : Run} {s : Shd} {n : Nat} {r' : Run} {s' : Shd} {d : Int} (hok : r.StepOk s) (hd : (r.step s).2.2 = 1) (h : Solo (r.step s).1 (r.step s).2.1 n r' s' d) : Solo r s (n + 1) r' s' d
theorem law22_whole (h : St w0 (IsSh p s :: l) w) : Ret prog 12 [.pz p] w fun v w' => v = .bool true ∧ St w0 (IsSh p s :: l) w' := by
 refine en func12 results12 ntmps12 ?_
 refine Y12 ?_; refine Ym ?_; refine qh (q_nenil rfl rfl) rfl ?_; refine Y3r ?_
 refine qw rfl (qg rfl (shd_Dir h) ?_)
 clear h
 rintro _ w ⟨q, rfl, h⟩
 replace h := St.shd.2 ⟨q, h⟩
 refine Yd ?_; refine qh (q_nenil rfl rfl) rfl ?_; refine Yf ?_; refine Y3r ?_
 refine qw rfl (qg rfl (shd_Cache h) ?_)
 clear h
 rintro _ w ⟨q, rfl, h⟩
 replace h := St.shd.2 ⟨q, h⟩
 refine Yd ?_; refine qh (q_nenil rfl rfl) rfl ?_; refine Yf ?_; refine Y3r ?_
 refine qw rfl (qg rfl (shd_Store h) ?_)
 clear h
 rintro _ w ⟨q, rfl, h⟩
 replace h := St.shd.2 ⟨q, h⟩
 refine Yd ?_; refine qh (q_nenil rfl rfl) rfl ?_; refine Yf ?_; refine Y3r ?_
 refine qw rfl (qg rfl (shd_Iters h) ?_)
 clear h
 rintro _ w ⟨q, rfl, h⟩
 replace h := St.shd.2 ⟨q, h⟩
 refine Yd ?_; refine qh (q_nenil rfl rfl) rfl ?_; refine Y2v ?_
 exact qv (qk (bq1 ⟨rfl, h⟩))
theorem law22_alone (hT : Tz w0) {o : Opr} (hs : Solo (Run.new 0 o) s n r' s' d) (hn : n ≤ 3000) (ho : r'.over = true) (hh : r'.holds = 0) (hl : r'.res.list.length ≤ 1073741824) (h : St w0 (IsSh p s :: l) w) :
  Ret prog 13 [.pz p, .agg o.C.toArray] w fun v w' => ∃ a c, v = .tuple [.agg (r'.res.C a c).toArray, .iz (n : Int), .bool true].toArray ∧ St w0 (OwnS a c r'.res.list :: IsSh p s' :: l) w' := by
 have hout : r'.out = r'.res := by unfold Run.out; rw [ho]; rfl
 refine en func13 results13 ntmps13 ?_
 refine Y1 ?_
 refine qw rfl (jk h (show _ = Value.agg o.C.toArray from rfl) fun b3 w h => ?_)
 refine qw rfl (qc h fun b4 w h => ?_)
 refine Y1w ?_; refine Y1 ?_
 refine qh (qx (l := o.C) rfl rfl (qd (h.b 1 rfl) rfl)) rfl ?_
 refine qw rfl (qg rfl (prog_New 0 o h) ?_)
 clear h
 rintro _ w ⟨t, rfl, h⟩
 obtain ⟨res0, hr0⟩ : ∃ v : List Value, [.iz 0, .iz 0, .slice none 0 0] = v := ⟨_, rfl⟩
 replace h : St w0 (IsRun t (Run.new 0 o) :: pt b4 (.cells [.iz 0, .iz 0, .slice none 0 0].toArray 28 (0, 0)) :: pt b3 (.cells o.C.toArray 33 (0, 0)) :: IsSh p s :: l) w := h
 replace h : St w0 (IsRun t (Run.new 0 o) :: IsSh p s :: pt b4 (.cells [.iz 0, .iz 0, .slice none 0 0].toArray 28 (0, 0)) :: l) w := (h.x [2]).o [0, 2, 1]
 refine Y3e ?_; refine Y9 ?_; refine qo ?_; refine Y4g ?_
 refine jh (Γ := Nat × Nat × Run × Shd) (fun g => [(0, .pz p), (4, .pz b4), (7, .pz t), (8, .iz ((g.1 + 1 : Nat) : Int))])
  (fun g w => g.1 + g.2.1 = n ∧ Solo g.2.2.1 g.2.2.2 g.2.1 r' s' d ∧ St w0 (IsRun t g.2.2.1 :: IsSh p g.2.2.2 :: pt b4 (.cells [.iz 0, .iz 0, .slice none 0 0].toArray 28 (0, 0)) :: l) w) (fun g => g.2.1) (0, n, Run.new 0 o, s) zz4 ⟨Uz _, hs, h⟩ ?_
 clear h hs
 rintro ⟨i, m, r, s⟩ w e ⟨him, hs, h⟩
 dsimp only at him hs h ⊢
 have hm1 : 1 ≤ m := by cases hs <;> omega
 refine Y1v ?_; refine Y3u ?_
 refine qz (.bool true) O3 ?_
 refine Ye ?_; refine Y21 ?_; refine Y10 ?_
 have hok : r.StepOk s := by cases hs with | last hok => exact hok | more hok => exact hok
 refine qw rfl (qg rfl (prog_Step hT hok h) ?_)
 clear h
 rintro _ w ⟨rfl, h⟩
 obtain ⟨dd, hdd⟩ : ∃ dd, (r.step s).2.2 = dd := ⟨_, rfl⟩
 rw [hdd]
 have hd0 : dd ≠ 0 := by
  rw [← hdd]
  cases hs with
  | last _ hd h => omega
  | more _ hd => omega
 refine Y4 ?_; refine Y3y ?_
 refine qz (.bool false) (by congr 1; rw [beq_eq_false_iff_ne]; exact hd0) ?_
 refine Y9 ?_
 cases hs with
 | last _ hd hdc =>
  rw [hdd] at hd
  subst hd
  generalize hr1 : (r.step s).1 = r1 at h ho hh hl hout
  generalize hs1 : (r.step s).2.1 = s1 at h
  refine qi (Γ := Unit) (fun _ => [(4, .pz b4), (7, .pz t), (8, .iz ((i + 1 : Nat) : Int)), (32, .bool true)]) (fun _ w => St w0 (IsRun t r1 :: IsSh p s1 :: pt b4 (.cells [.iz 0, .iz 0, .slice none 0 0].toArray 28 (0, 0)) :: l) w) ?_ ?_
  ·refine Y2b ?_; refine Yp ?_
   rcases hdc with rfl | rfl
   ·refine qz (.bool true) rfl ?_
    refine Y1t ?_; refine Yf ?_
    exact qv ⟨(), zz4, h⟩
   ·refine qz (.bool false) rfl ?_
    refine Y48 ?_; refine Yb ?_
    exact qv ⟨(), zz4, h⟩
  clear h
  rintro _ w e h
  refine Y1l ?_; refine Ym ?_
  refine qw rfl (qg rfl (prog_Result hl h) ?_)
  clear h
  rintro _ w ⟨a, c, rfl, h⟩
  rw [hout, ho]
  rw [hout] at h
  refine Y3f ?_
  refine qw rfl (qc h fun b10 w h => ?_)
  refine qw rfl (qy (vs := r1.res.C a c) 0 h rfl rfl rfl rfl rfl rfl rfl fun w h => ?_)
  refine Y8 ?_
  replace h : St w0 (IsRun t r1 :: pt b10 (.cells (r1.res.C a c).toArray 28 (0, 0)) :: OwnS a c r1.res.list :: IsSh p s1 :: pt b4 (.cells [.iz 0, .iz 0, .slice none 0 0].toArray 28 (0, 0)) :: l) w := h.f 2
  refine Y24 ?_
  refine c_anyR [0, 6, 1, 2, 3, 4, 8, 9, 5, 7, 10] (some 8) (fun w => St w0 (IsRun t r1 :: pt b10 (.cells (r1.res.C a c).toArray 28 (0, 0)) :: OwnS a c r1.res.list :: IsSh p s1 :: pt b4 (.cells [.iz 0, .iz 0, .slice none 0 0].toArray 28 (0, 0)) :: l) w) O1 O1 h.drew fun w h => ?_
  refine qj rfl rfl rfl rfl h (fun _ h => qb rfl (qx (l := r1.res.C a c) rfl rfl (qd (h.b 1 rfl) rfl))) ?_
  refine Y18 ?_; refine Yz ?_; refine Yz ?_; refine qu rfl rfl rfl rfl (fun _ => h) (fun _ => qe rfl rfl (j1 rfl)) ?_; refine Y2q ?_
  refine qm 5 rfl rfl rfl (wanted_g rfl rfl rfl) ?_
  refine qg rfl (prog_Holds h) ?_
  clear h
  rintro _ w ⟨rfl, h⟩
  rw [hh]
  refine ⟨fun _ => h, ?_⟩
  refine qu rfl rfl rfl rfl (fun _ => h) (fun _ => qe rfl rfl (gq rfl rfl)) (cpv rfl rfl rfl rfl h rfl (jl rfl rfl rfl) ?_); refine Y11 ?_
  refine jz 8 none rfl rfl rfl rfl ?_
  refine qy (vs := r1.res.C a c) 4 h rfl rfl rfl rfl rfl rfl rfl fun w h => ?_
  refine jx h ?_
  refine Y2r ?_; refine Y1f ?_
  exact qp (qk (bqS3 (l := r1.res.C a c) rfl rfl (qd (h.b 4 rfl) rfl) ⟨a, c, by rw [← him]; rfl, (h.x [0, 1, 4]).o [0, 1]⟩))
 | more _ hd hs =>
  rw [hdd] at hd
  subst hd
  refine Y6 ?_; refine Yp ?_
  refine qz (.bool false) rfl ?_
  refine Y48 ?_; refine Yb ?_; refine Y9 ?_; refine Y2w ?_
  refine qz (.iz ((i + 1 + 1 : Nat) : Int)) O14 ?_
  refine Y7 ?_
  exact qv ⟨(i + 1, _, _, _), zz4, ⟨O_d, hs, h⟩, O_d⟩
end
end
section
variable {s s' s2 : Shd} {a : Ag} {A : List Ag} {acc : List SlotV} {al : Int → Bool} {G G' : Int → Blb} {n n' : Nat} {r r' : Run} {who : Int} {k : Nat}
def Quiet (r : Run) (s : Shd) : Prop := r.o.kind = 2 → r.flag = false → r.ph ≠ 0 → ∃ sl, Dir.look s.d r.o.series = some sl ∧ sl.life = r.x.life ∧ sl.ver = r.x.ver
theorem begin_quiet {sl : SlotV} (hk : r.o.kind = 2) (hs : r.flag = true ∨ Dir.look s.d r.o.series = some sl) (h : (r.begin_ s sl).2.2 = 1) : Quiet (r.begin_ s sl).1 (r.begin_ s sl).2.1 ∧ (r.begin_ s sl).1.ph ≠ 0 := by
 obtain ⟨z, hz⟩ : ∃ z, r.begin_ s sl = z := ⟨_, rfl⟩
 rw [hz] at h ⊢
 unfold Run.begin_ at hz
 by_cases ht : sl.there = false
 ·rw [if_pos ht] at hz
  subst hz
  cases h
 ·rw [if_neg ht] at hz
  dsimp only at hz
  generalize s.b.hold [] (sl.snap r.o.F r.o.To).parts = q at hz
  obtain ⟨q1, q2⟩ := q
  cases q1 with
  | false => subst hz; cases h
  | true =>
   subst hz
   refine ⟨fun _ hf _ => ?_, ?_⟩
   ·have hf' : r.flag = false := hf
    rcases hs with hs | hs
    ·rw [hs] at hf'; cases hf'
    ·exact ⟨sl, hs, rfl, rfl⟩
   ·show (if (sl.snap r.o.F r.o.To).parts.length = 0 then (3 : Int) else 2) ≠ 0
    split <;> decide
theorem read_quiet (hk : r.o.kind = 2) (hQ : Quiet r s) (h1 : r.ph = 1 → r.flag = true) (h : (r.read s).2.2 = 1) : Quiet (r.read s).1 (r.read s).2.1 ∧ (r.read s).1.ph ≠ 0 := by
 obtain ⟨z, hz⟩ : ∃ z, r.read s = z := ⟨_, rfl⟩
 rw [hz] at h ⊢
 unfold Run.read at hz
 by_cases p0 : r.ph = 0
 ·rw [if_pos p0] at hz
  unfold Run.look at hz
  by_cases hf : r.fails ≥ 3
  ·rw [if_pos hf] at hz
   unfold Run.take at hz
   cases hl : Dir.look s.d r.o.series with
   | none => rw [hl] at hz; subst hz; cases h
   | some sl =>
    rw [hl] at hz
    dsimp only at hz
    cases ht : Dir.take s.d r.o.series r.who with
    | none => rw [ht] at hz; subst hz; cases h
    | some D =>
     rw [ht] at hz
     subst hz
     exact ⟨fun _ hf _ => (by cases hf), by show (1 : Int) ≠ 0; decide⟩
  ·rw [if_neg hf] at hz
   cases hl : Dir.look s.d r.o.series with
   | none => rw [hl] at hz; subst hz; cases h
   | some sl =>
    rw [hl] at hz
    subst hz
    exact begin_quiet hk (.inr hl) h
 ·rw [if_neg p0] at hz
  by_cases p1 : r.ph = 1
  ·rw [if_pos p1] at hz
   subst hz
   exact begin_quiet hk (.inl (h1 p1)) h
  ·rw [if_neg p1] at hz
   by_cases p2 : r.ph = 2
   ·rw [if_pos p2, Run.part_eq] at hz
    by_cases c1 : ((r.cur r.o.series).step s.b s.c).2.2 ≠ 0
    ·rw [if_pos c1] at hz
     dsimp only at hz
     rw [if_pos c1] at hz
     subst hz; cases h
    ·rw [if_neg c1] at hz
     by_cases c2 : ((r.cur r.o.series).step s.b s.c).1.done = true
     ·rw [if_pos c2] at hz
      dsimp only at hz
      rw [if_neg (fun h => h rfl)] at hz
      subst hz
      refine ⟨fun _ hf _ => hQ hk hf p0, ?_⟩
      show (if _ then (3 : Int) else 2) ≠ 0
      split <;> decide
     ·rw [if_neg c2] at hz
      dsimp only at hz
      rw [if_neg (fun h => h rfl)] at hz
      subst hz
      refine ⟨fun _ hf _ => hQ hk hf p0, ?_⟩
      show (if _ then (3 : Int) else 2) ≠ 0
      split <;> decide
   ·rw [if_neg p2] at hz
    by_cases hf : r.flag = true
    ·rw [if_pos hf] at hz
     subst hz; cases h
    ·rw [if_neg hf] at hz
     obtain ⟨sl, q1, q2, q3⟩ := hQ hk (by cases hx : r.flag with | false => rfl | true => exact absurd hx hf) p0
     rw [q1] at hz
     dsimp only at hz
     rw [if_pos ⟨q2, q3⟩] at hz
     subst hz; cases h
theorem Rel.pos (h : Rel G s r a k) : 1 ≤ k := by
 cases h with
 | idle => unfold Run.need; split <;> (try split) <;> (try split) <;> omega
 | _ => omega
theorem Rel.ph1 (h : Rel G s r a k) (h1 : r.ph = 1) : r.flag = true := by
 cases h with
 | idle h0 => omega
 | make _ _ hf => exact hf
 | put _ _ hf => exact hf
 | hard _ _ hf => exact hf
 | read _ _ _ _ _ _ _ _ hph => omega
 | next _ _ _ _ _ _ _ _ _ _ _ hph => omega
inductive End_ (A : List Ag) (s : Shd) (G : Int → Blb) (r : Run) (s' : Shd) (G' : Int → Blb) (res : Res) : Int → Prop
 | point (ha : (abs s G).act r.o = (abs s' G', res)) : End_ A s G r s' G' res 2
 | full (ha : abs s' G' = abs s G) (hr : res = ⟨9, 0, []⟩) (hp : r.ph = 0 ∨ r.ph = 1) (hk : r.wrt) (hb : s'.b = s.b) (hw : (r.o.kind = 1 ∧ (s.b.room < 16 ∨ ∃ sl : SlotV, sl.opn.length = 7 ∧ (r.ph = 1 → sl = r.slot) ∧ (r.ph = 0 → Dir.look s.d r.o.series = some sl))) ∨ r.o.kind = 3) (hroom : s.b.room < 300) : End_ A s G r s' G' res 3
 | busy (ha : abs s' G' = abs s G) (hr : res = ⟨6, 0, []⟩) (hk : r.o.kind = 2 ∨ r.o.kind = 6) (hc : AllPinned A s.c) : End_ A s G r s' G' res 3
structure Kpt (who : Int) (s : Shd) (G : Int → Blb) (s' : Shd) (G' : Int → Blb) : Prop where
 same : ∀ id, id ≤ s.b.last → G' id = G id
 le : s.b.last ≤ s'.b.last
 tag : ∀ id, s.b.last < id → id ≤ s'.b.last → (G' id).tag = 1 ∧ (G' id).L.length ≤ 8
 keeps : Keeps who s s'
 most : s'.c.clk.most = s.c.clk.most
 budget : s'.b.budget = s.b.budget
theorem Kpt.refl (who : Int) (s : Shd) (G : Int → Blb) : Kpt who s G s G := ⟨fun _ _ => rfl, Uu _, fun _ h1 h2 => absurd h1 (Vh.2 h2), Keeps.refl _ _, rfl, rfl⟩
theorem Kpt.trans {G2 : Int → Blb} (h : Kpt who s G s' G') (h' : Kpt who s' G' s2 G2) : Kpt who s G s2 G2 := by
 refine ⟨fun id hid => (h'.same id (Vw hid h.le)).trans (h.same id hid), Vw h.le h'.le, fun id h1 h2 => ?_, h.keeps.trans h'.keeps, h'.most.trans h.most, h'.budget.trans h.budget⟩
 by_cases hm : id ≤ s'.b.last
 ·rw [h'.same id hm]; exact h.tag id h1 hm
 ·exact h'.tag id O0 h2
theorem Out.kept {q : Run × Shd × Int} {a' : Ag} {acc' : List SlotV} (h : Out A al s G n r k q a' acc' G') : Kpt r.who s G q.2.1 G' := ⟨h.same, h.le, h.tag, h.keeps, h.most, h.budget⟩
theorem AllPinned.same {C C' : Cac} (h : AllPinned A C) (hm : C'.clk.most = C.clk.most) : AllPinned A C' := by
 obtain ⟨ks, h1, h2, h3⟩ := h
 exact ⟨ks, h1, by rw [hm]; exact h2, h3⟩
theorem step_read (ho : r.over = false) (hb : Run.bad r.o = false) (hk : r.o.kind = 2) : r.step s = r.read s := by
 unfold Run.step
 rw [ho, if_neg Wi, hb, if_neg Wi, if_pos hk]
def Run.todo (r : Run) : Int := if (r.o.kind = 1 ∨ r.o.kind = 3 ∨ r.o.kind = 4) ∧ r.ph ≠ 3 then 1 else 0
theorem adds_todo (r : Run) : 0 ≤ r.adds ∧ r.adds ≤ r.todo ∧ r.todo ≤ 1 := by
 unfold Run.adds Run.todo
 split <;> split <;> omega
theorem solo_go : ∀ (N k : Nat) (r : Run) (s : Shd) (a : Ag) (acc : List SlotV) (G : Int → Blb) (n : Nat), k ≤ N → Inv s (a :: A) acc al G n → RunOk al r → Rel G s r a k → Quiet r s → ¬ Blk A r.o → n + 2 * k ≤ 1000000000 → s.b.last + r.todo < 100000 → (∀ id, 1 ≤ id → id ≤ s.b.last → CodOk (G id).tag) →
  ∃ (m : Nat) (r' : Run) (s' : Shd) (d : Int) (acc' : List SlotV) (G' : Int → Blb), Solo r s m r' s' d ∧ 1 ≤ m ∧ m ≤ k ∧ Inv s' (Ag.idle r.who :: A) acc' al G' (n + 2 * m) ∧ Kpt r.who s G s' G' ∧ s'.b.last ≤ s.b.last + r.todo ∧ r'.over = true ∧ r'.holds = 0 ∧ r'.who = r.who ∧ r'.o = r.o ∧ End_ A s G r s' G' r'.res d
 | 0, k, r, s, a, acc, G, n, hkN, hI, hr, hR, hQ, hnb, hn, hb1, hTg => by have := hR.pos; omega
 | N + 1, k, r, s, a, acc, G, n, hkN, hI, hr, hR, hQ, hnb, hn, hb1, hTg => by
  have hk1 := hR.pos
  have hadds := adds_todo r
  obtain ⟨hok, a', acc', G', hO⟩ := run_step hI hr hR O0 O0 hTg
  obtain ⟨q, hq⟩ : ∃ q, r.step s = q := ⟨_, rfl⟩
  rw [hq] at hO
  have hle1 := hO.le1
  have hinv := hO.inv
  cases hO.did with
  | none h hp hB => exact absurd hB hnb
  | point h ho hh ha' ha =>
   subst ha'
   refine ⟨1, q.1, q.2.1, 2, acc', G', ?_, Ug _, hk1, hinv, hO.kept, O_o, ho, hh, hO.who, hO.o, .point ha⟩
   rw [← hq] at h ⊢
   exact Solo.last hok h (.inl rfl)
  | full h h1 ho hh ha' ha he hs hw hroom =>
   subst ha'
   refine ⟨1, q.1, q.2.1, 3, acc', G', ?_, Ug _, hk1, hinv, hO.kept, O_o, ho, hh, hO.who, hO.o, .full ha he (.inr h1) ?_ hs ?_ hroom⟩
   ·rw [← hq] at h ⊢
    exact Solo.last hok h (.inr rfl)
   ·unfold Run.wrt; omega
   ·rcases hw with ⟨w1, w2 | w2⟩ | ⟨w1, _⟩
    ·exact .inl ⟨w1, .inl w2⟩
    ·exact .inl ⟨w1, .inr ⟨r.slot, w2, fun _ => rfl, fun h0 => by omega⟩⟩
    ·exact .inr w1
  | busy h ho hh ha' ha he hc hk =>
   subst ha'
   refine ⟨1, q.1, q.2.1, 3, acc', G', ?_, Ug _, hk1, hinv, hO.kept, O_o, ho, hh, hO.who, hO.o, .busy ha he hk hc⟩
   rw [← hq] at h ⊢
   exact Solo.last hok h (.inr rfl)
  | some h ho k' hr' hkk ha hw =>
   have hQ' : Quiet q.1 q.2.1 ∧ (r.o.kind = 2 → q.1.ph ≠ 0) := by
    by_cases hk : r.o.kind = 2
    ·have h1 := read_quiet hk hQ hR.ph1 (by rw [← step_read hr.over hr.bad hk, hq]; exact h)
     rw [← step_read hr.over hr.bad hk, hq] at h1
     exact ⟨h1.1, fun _ => h1.2⟩
    ·exact ⟨fun h => absurd (hO.o ▸ h) hk, fun h => absurd h hk⟩
   have hk' : k' < k := by
    rcases hkk with h | ⟨h1, h2, _⟩
    ·exact h
    ·exact absurd h2 (hQ'.2 h1)
   have hlt : q.2.1.b.last + q.1.todo ≤ s.b.last + r.todo := by
    by_cases hwr : r.wrt
    ·have ht : r.ph ≠ 3 → r.todo = 1 := fun h3 => if_pos ⟨hwr, h3⟩
     rcases hw hwr with ⟨p0, p1, p2, _⟩ | ⟨p0, p1⟩
     ·have := (adds_todo q.1).2.2
      have h1 := ht O0
      rw [p2]; omega
     ·have h1 := ht O0
      have h2 : q.1.todo = 0 := if_neg (fun h => h.2 p1)
      omega
    ·have h1 : r.todo = 0 := if_neg (fun h => hwr h.1)
     have h2 : q.1.todo = 0 := if_neg (fun h => hwr (by unfold Run.wrt; rw [← hO.o]; exact h.1))
     omega
   obtain ⟨m, r', s', d, acc2, G2, g1, g2, g3, g4, g5, g6, g7, g8, g9, g10, g11⟩ := solo_go N k' q.1 q.2.1 a' acc' G' (n + 2) O0 hinv ho hr' hQ'.1 (by rw [hO.o]; exact hnb) O0 O0 (fun id h1 h2 => by
    by_cases hm : id ≤ s.b.last
    ·rw [hO.same id hm]; exact hTg id h1 hm
    ·rw [(hO.tag id O0 h2).1]; exact cod_1)
   rw [hO.who] at g4 g5 g9
   rw [hO.o] at g10
   refine ⟨m + 1, r', s', d, acc2, G2, ?_, O_o, O_o, by rw [show n + 2 * (m + 1) = n + 2 + 2 * m by omega]; exact g4, hO.kept.trans g5, ?_, g7, g8, g9, g10, ?_⟩
   ·rw [← hq] at h g1
    exact Solo.more hok h g1
   ·omega
   ·cases g11 with
    | point e => exact .point (by rw [← ha, ← hO.o]; exact e)
    | full e1 e2 e3 e4 e5 e6 e7 =>
     have hwr : r.wrt := by unfold Run.wrt at e4 ⊢; rw [hO.o] at e4; exact e4
     rcases hw hwr with ⟨p0, p1, p2, p3⟩ | ⟨p0, p1⟩
     ·refine .full (e1.trans ha) e2 (.inl p0) hwr (e5.trans p2) ?_ (by rw [← p2]; exact e7)
      rcases e6 with ⟨w1, w2⟩ | w1
      ·refine .inl ⟨by rw [← hO.o]; exact w1, ?_⟩
       rcases w2 with w2 | ⟨sl, w2, w3, _⟩
       ·exact .inl (by rw [← p2]; exact w2)
       ·exact .inr ⟨sl, w2, fun h1 => absurd (p0.symm.trans h1) O2, fun _ => by rw [w3 p1]; exact p3⟩
      ·exact .inr (by rw [← hO.o]; exact w1)
     ·exfalso; clear e6; omega
    | busy e1 e2 e3 e4 => exact .busy (e1.trans ha) e2 (by rw [← hO.o]; exact e3) (e4.same hO.most.symm)
end
section
variable {s s' s2 : Shd} {a : Ag} {A : List Ag} {acc : List SlotV} {al : Int → Bool} {G G' : Int → Blb} {n n' : Nat} {r r' : Run} {who : Int} {k : Nat} {o : Opr}
theorem need_le (hI : Inv s A acc al G n) (r : Run) : r.need s ≤ 3 + 6 * s.b.last.toNat := by
 have hb0 : 0 ≤ s.b.last := hI.sto.ok.l0
 unfold Run.need
 split
 ·cases ha : Dir.at_ s.d r.o.series with
  | none => dsimp only; omega
  | some p =>
   have hm : ∃ i : Nat, s.d[i]? = some p := by
    unfold Dir.at_ at ha
    split at ha
    ·exact ⟨_, ha⟩
    ·cases ha
   obtain ⟨i, hi⟩ := hm
   have := (hI.dir.ok i p hi).2.1
   dsimp only; omega
 ·split
  ·cases ha : mget r.o.iter s.t.l with
   | none => dsimp only; omega
   | some o =>
    have := (hI.tab.on _ o ha).1.few
    dsimp only; omega
  ·split <;> omega
theorem slot_len {sl : SlotV} {b : Int} (hs : SlotOk G b sl) : (sl.all G).length ≤ 8 * sl.chunks.length + 7 := by
 unfold SlotV.all rowsOf
 rw [Ua]
 have := flat_len (f := fun p => (G p.blob).L) (l := sl.chunks) fun p hp => (hs.prts p hp).len
 have := hs.few
 omega
theorem act_len (hI : Inv s A acc al G n) (o : Opr) : ((abs s G).act o).2.list.length ≤ 800007 := by
 have hlast := hI.last
 have hits : ∀ L, mget o.iter (abs s G).its = some L → L.length ≤ 800007 := by
  intro L hL
  have hL' : mget o.iter (itsOf s.t.l G) = some L := hL
  rw [itsOf_get] at hL'
  cases hg : mget o.iter s.t.l with
  | none => rw [hg] at hL'; cases hL'
  | some x =>
   rw [hg] at hL'
   obtain rfl := Un hL'
   have h1 := (hI.tab.on _ x hg).1
   have h2 := Snp.len h1
   have h3 := h1.few
   rw [Ur]
   omega
 have hser : ∀ cl L, (abs s G).ser o.series = some (cl, L) → L.length ≤ 800007 := by
  intro cl L hL
  have hL' : serOf s.d G o.series = some (cl, L) := hL
  unfold serOf at hL'
  cases ha : Dir.at_ s.d o.series with
  | none => rw [ha] at hL'; cases hL'
  | some p =>
   rw [ha] at hL'
   have hm : ∃ i : Nat, s.d[i]? = some p := by
    unfold Dir.at_ at ha
    split at ha
    ·exact ⟨_, ha⟩
    ·cases ha
   obtain ⟨i, hi⟩ := hm
   obtain ⟨h1, h2, _⟩ := hI.dir.ok i p hi
   have h3 := slot_len h1
   have hL2 : p.s.tells G = some (cl, L) := hL'
   unfold SlotV.tells at hL2
   split at hL2
   ·have := congrArg Prod.snd (Un hL2)
    dsimp only at this
    rw [← this]; omega
   ·cases hL2
 unfold Mdl.act Mdl.err
 split
 ·exact Ud _
 split
 ·cases hg : mget o.iter (abs s G).its with
  | none => exact Ud _
  | some L =>
   have := hits L hg
   dsimp only
   rw [Us]; omega
 split
 ·cases hg : mget o.iter (abs s G).its with
  | none => exact Ud _
  | some L => exact Ud _
 cases hg : (abs s G).ser o.series with
 | none =>
  dsimp only
  split <;> exact Ud _
 | some x =>
  obtain ⟨cl, L⟩ := x
  have hL := hser cl L hg
  dsimp only
  split
  ·split
   ·exact Ud _
   ·split <;> exact Ud _
  split
  ·exact Ux (within_len _ _ _) hL
  split
  ·split <;> exact Ud _
  split
  ·exact Ud _
  split <;> exact Ud _
theorem End_.len (hI : Inv s A acc al G n) (hr : r.o = o) {res : Res} {d : Int} (h : End_ A s G r s' G' res d) : res.list.length ≤ 800007 := by
 cases h with
 | point ha =>
  have := act_len hI r.o
  rw [ha] at this
  exact this
 | full _ hr => rw [hr]; exact Ud _
 | busy _ hr => rw [hr]; exact Ud _
theorem run_new_ok (hb : Run.bad o = false) (ho : o.Wf) (hal : o.kind ≤ 5 → al o.series = false) : RunOk al (Run.new who o) :=
 ⟨rfl, hb, ho, hal, Ud _, Ud _, Ud _, Ud _, Ud _, Uu _, by show (0 : Int) ≤ 3; decide⟩
theorem run_new_rel (G : Int → Blb) (s : Shd) : Rel G s (Run.new who o) (Ag.idle who) ((Run.new who o).need s) := Rel.idle (r := Run.new who o) rfl rfl ⟨rfl, rfl, rfl, rfl, rfl⟩
theorem solo_new (hI : Inv s A acc al G n) (hw : who ∉ A.map Ag.who) (hf : A.length + 1 ≤ 100) (ho : o.Wf) (hal : o.kind ≤ 5 → al o.series = false) (hnb : ¬ Blk A o) (hn : n + 2 * (Run.new who o).need s ≤ 1000000000) (hb : s.b.last + 1 < 100000) (hTg : ∀ id, 1 ≤ id → id ≤ s.b.last → CodOk (G id).tag) :
  ∃ (m : Nat) (r' : Run) (s' : Shd) (d : Int) (acc' : List SlotV) (G' : Int → Blb), Solo (Run.new who o) s m r' s' d ∧ 1 ≤ m ∧ m ≤ (Run.new who o).need s ∧ Inv s' A acc' al G' (n + 2 * m) ∧ Kpt who s G s' G' ∧ s'.b.last ≤ s.b.last + (Run.new who o).todo ∧ r'.over = true ∧ r'.holds = 0 ∧ r'.res.list.length ≤ 800007 ∧ End_ A s G (Run.new who o) s' G' r'.res d := by
 have hneed : 1 ≤ (Run.new who o).need s := (run_new_rel G s).pos
 cases hbad : Run.bad o with
 | true =>
  have hstep : (Run.new who o).step s = (Run.new who o).refuse s 4 := by
   unfold Run.step
   have h1 : (Run.new who o).over = false := rfl
   have h2 : (Run.new who o).o = o := rfl
   rw [h1, if_neg Wi, h2, hbad, if_pos rfl]
  have hact : (abs s G).act o = (abs s G, ⟨4, 0, []⟩) := by unfold Mdl.act; rw [hbad, if_pos rfl]; rfl
  have hno : Run.bad (Run.new who o).o = false → False := fun h => by rw [show (Run.new who o).o = o from rfl, hbad] at h; cases h
  have hok : (Run.new who o).StepOk s := ⟨fun _ h => (hno h).elim, fun _ h => (hno h).elim, fun _ h => (hno h).elim, fun _ h => (hno h).elim, fun _ h => (hno h).elim⟩
  have hsolo := Solo.last hok (d := 2) (by rw [hstep]; rfl) (.inl rfl)
  rw [hstep] at hsolo
  have hadds := adds_todo (Run.new who o)
  exact ⟨1, _, _, 2, acc, G, hsolo, Ug _, hneed, hI.mono O0 O0, Kpt.refl _ _ _, by show s.b.last ≤ _; omega, rfl, rfl, Ud _, .point hact⟩
 | false =>
  have hadds := adds_todo (Run.new who o)
  obtain ⟨m, r', s', d, acc', G', g1, g2, g3, g4, g5, g6, g7, g8, g9, g10, g11⟩ := solo_go _ _ (Run.new who o) s (Ag.idle who) acc G n (Ug _) (hI.enter hw hf) (run_new_ok hbad ho hal) (run_new_rel G s) (fun _ _ h => absurd rfl h) hnb hn O0 hTg
  refine ⟨m, r', s', d, acc', G', g1, g2, g3, g4.exit rfl rfl rfl rfl, g5, g6, g7, g8, g11.len hI rfl, g11⟩
end
section
variable {s s' s2 : Shd} {a : Ag} {A : List Ag} {acc : List SlotV} {al : Int → Bool} {G G' : Int → Blb} {n n' : Nat} {r r' : Run} {who : Int} {k : Nat} {o : Opr}
def G0 : Int → Blb := fun _ => ⟨0, []⟩
theorem get_rep {α : Type} {k i : Nat} {x y : α} (h : (List.replicate k x)[i]? = some y) : y = x := (Ko.1 (Uj h)).2
theorem zero_ok (G : Int → Blb) (b : Int) : SlotOk G b SlotV.zero := ⟨fun _ => ⟨rfl, rfl⟩, fun h => (by cases h), Ud _, fun _ => rfl, fun x hx => (by cases hx), fun p hp => (by cases hp), List.Pairwise.nil⟩
theorem inv_new (f b : Int) (al : Int → Bool) : Inv (Shd.new f b) [] (List.replicate 16 SlotV.zero) al G0 0 := by
 have hd : (Shd.new f b).d = List.replicate 16 ⟨SlotV.zero, false, 0⟩ := rfl
 have hz : ∀ id, cntOf (List.replicate 16 SlotV.zero) [] (Shd.new f b).t id = 0 := by
  intro id
  have h1 : sumF (fun x : SlotV => rc id x.chunks) (List.replicate 16 SlotV.zero) ≤ (List.replicate 16 SlotV.zero).length * 0 := sumF_bound fun x hx => by rw [(Ko.1 hx).2]; exact Ug _
  unfold cntOf
  show _ + 0 + 0 = 0
  omega
 have hz2 : chOf (List.replicate 16 SlotV.zero) = 0 := by
  have h1 : chOf (List.replicate 16 SlotV.zero) ≤ (List.replicate 16 SlotV.zero).length * 0 := sumF_bound fun x hx => by rw [(Ko.1 hx).2]; exact Ug _
  omega
 refine ⟨⟨by rw [hd, Za], Za, fun i p hp => ?_, fun i p hp ht => ?_, fun i p hp ht => ?_, Zy, fun f hf => (by cases hf), fun x hx => ?_⟩,
  ⟨Zy, fun id hid => (by cases hid), fun id e he => (by cases he), fun id => ?_, fun id => ?_, rfl, ?_, ⟨?_, Uu _, Uu _, ?_, Uu _, (by show (0 : Int) < _; decide)⟩⟩,
  ⟨Cac.new_good f, fun k a h => (by cases h), fun k hk => (by cases hk), fun k L h => (by cases h)⟩,
  ⟨Zy, fun id hid => (by cases hid), Uu _, Uu _, Ud _, fun id o ho => (by cases ho), fun u hu => (by cases hu), Zy⟩,
  fun a ha => (by cases ha), Zy, (by show (0 : Int) ≤ _; decide), Ud _, Ud _⟩
 ·rw [hd] at hp
  rw [get_rep hp]
  exact ⟨zero_ok _ _, Uu _, Uu _, Uu _, Uu _, Uu _⟩
 ·rw [hd] at hp
  have hi := (Uf.1 hp).1
  rw [Za] at hi
  rw [get_rep hp]
  exact ⟨rfl, by rw [List.getElem?_replicate, if_pos hi]⟩
 ·rw [hd] at hp
  rw [get_rep hp] at ht; cases ht
 ·rw [(Ko.1 hx).2]; exact ⟨Uu _, Ud _⟩
 ·rw [hz]; exact ⟨fun h => (Nat.lt_irrefl _ h).elim, fun h => (by cases h)⟩
 ·rw [hz]; exact Ud _
 ·rw [hz2]; rfl
 ·show min (max b 0) 1073741824 ≤ 1073741824; omega
 ·show (0 : Int) + 0 ≤ min (max b 0) 1073741824; omega
def Tags1 (G : Int → Blb) (b : Int) : Prop := ∀ id, 1 ≤ id → id ≤ b → (G id).tag = 1 ∧ (G id).L.length ≤ 8
theorem Tags1.cod (h : Tags1 G s.b.last) : ∀ id, 1 ≤ id → id ≤ s.b.last → CodOk (G id).tag := fun id h1 h2 => by rw [(h id h1 h2).1]; exact cod_1
theorem Tags1.step {s s' : Shd} (h : Tags1 G s.b.last) (hk : Kpt who s G s' G') : Tags1 G' s'.b.last := by
 intro id h1 h2
 by_cases hm : id ≤ s.b.last
 ·rw [hk.same id hm]; exact h id h1 hm
 ·exact hk.tag id O0 h2
theorem sumM_le {κ β : Type} {f : β → Nat} {B : Nat} : ∀ {m : List (κ × β)}, (∀ p ∈ m, f p.2 ≤ B) → sumM f m ≤ m.length * B := fun {m} h => sumF_bound (l := m) (f := fun p => f p.2) h
theorem used_le (hI : Inv s A acc al G n) (ht : Tags1 G s.b.last) : s.b.bytes ≤ 2000 * s.b.last ∧ s.b.charged ≤ 2048 := by
 have hb0 : 0 ≤ s.b.last := hI.sto.ok.l0
 have h1 := hI.sto.sum
 have h2 : sumM (fun e : Kept => e.bs.length) s.b.l ≤ s.b.l.length * 2000 := sumM_le fun p hp => by
  obtain ⟨_, hok⟩ := hI.sto.has p.1 p.2 (mem_mget hI.sto.nd hp)
  obtain ⟨i1, i2⟩ := hI.sto.rng p.1 (Vb.2 ⟨p, hp, rfl⟩)
  obtain ⟨t1, t2⟩ := ht p.1 i1 i2
  have hm := hok.make
  rw [t1] at hm
  exact chMake1_len O0 hm
 have h3 : s.b.l.length ≤ s.b.last.toNat := by
  have := nodup_sub_len (l := keys s.b.l) (m := (List.range s.b.last.toNat).map fun i : Nat => ((i : Int) + 1)) hI.sto.nd fun x hx => by
   obtain ⟨i1, i2⟩ := hI.sto.rng x hx
   exact Vb.2 ⟨(x - 1).toNat, List.mem_range.2 O0, O_t⟩
  rw [Vq, Zs] at this
  unfold keys at this
  rwa [Vq] at this
 have h4 := hI.sto.chg
 have h5 : chOf acc ≤ acc.length * 8 := sumF_bound fun x hx => (hI.dir.accs x hx).2
 rw [hI.dir.alen] at h5
 constructor
 ·rw [h1]
  have : s.b.l.length * 2000 ≤ s.b.last.toNat * 2000 := Ut _ h3
  omega
 ·omega
theorem used_le3 (hI : Inv s A acc al G n) (ht : Tags1 G s.b.last) : s.b.bytes ≤ 300 * s.b.last ∧ s.b.charged ≤ 2048 := by
 refine ⟨?_, (used_le hI ht).2⟩
 have hb0 : 0 ≤ s.b.last := hI.sto.ok.l0
 have h1 := hI.sto.sum
 have h2 : sumM (fun e : Kept => e.bs.length) s.b.l ≤ s.b.l.length * 300 := sumM_le fun p hp => by
  obtain ⟨_, hok⟩ := hI.sto.has p.1 p.2 (mem_mget hI.sto.nd hp)
  obtain ⟨i1, i2⟩ := hI.sto.rng p.1 (Vb.2 ⟨p, hp, rfl⟩)
  obtain ⟨t1, t2⟩ := ht p.1 i1 i2
  have hm := hok.make
  rw [t1] at hm
  have := chMake1_lenN hm
  omega
 have h3 : s.b.l.length ≤ s.b.last.toNat := by
  have := nodup_sub_len (l := keys s.b.l) (m := (List.range s.b.last.toNat).map fun i : Nat => ((i : Int) + 1)) hI.sto.nd fun x hx => by
   obtain ⟨i1, i2⟩ := hI.sto.rng x hx
   exact Vb.2 ⟨(x - 1).toNat, List.mem_range.2 O0, O_t⟩
  rw [Vq, Zs] at this
  unfold keys at this
  rwa [Vq] at this
 rw [h1]
 have : s.b.l.length * 300 ≤ s.b.last.toNat * 300 := Ut _ h3
 omega
theorem used_zero (hI : Inv s A acc al G n) (hA : ∀ a ∈ A, a.held = []) (hd : ∀ (i : Nat) (p : Plc), s.d[i]? = some p → p.taken = false ∧ p.s.there = false) (ht : s.t.l = []) : s.b.bytes = 0 ∧ s.b.charged = 0 := by
 have hacc : ∀ x ∈ acc, x.opn = [] ∧ x.chunks = [] := by
  intro x hx
  obtain ⟨i, hi⟩ := Zp.1 hx
  have hlt : i < s.d.length := by
   have := (Uf.1 hi).1
   rw [hI.dir.alen] at this
   rw [hI.dir.len]; exact this
  obtain ⟨p, hp⟩ : ∃ p, s.d[i]? = some p := ⟨_, Uc hlt⟩
  obtain ⟨d1, d2⟩ := hd i p hp
  have h1 := (hI.dir.idle i p hp d1).2
  rw [hi] at h1
  obtain rfl := Un h1
  exact (hI.dir.ok i p hp).1.no d2
 have hch : chOf acc = 0 := Nat.le_zero.1 (Ux (sumF_bound (B := 0) fun x hx => by rw [(hacc x hx).1]; exact Ug _) (by rw [Nat.mul_zero]; exact Ug _))
 have hcnt : ∀ id, cntOf acc A s.t id = 0 := by
  intro id
  unfold cntOf
  have h1 : sumF (fun x : SlotV => rc id x.chunks) acc ≤ acc.length * 0 := sumF_bound fun x hx => by rw [(hacc x hx).2]; exact Ug _
  have h2 : sumF (fun a : Ag => rc id a.held) A ≤ A.length * 0 := sumF_bound fun x hx => by rw [hA x hx]; exact Ug _
  rw [ht]
  show _ + _ + 0 = 0
  omega
 have hl : s.b.l = [] := by
  cases hl : s.b.l with
  | nil => rfl
  | cons p m =>
   exfalso
   have h1 := (hI.sto.pos p.1).2 (by rw [hl, mget, if_pos rfl]; rfl)
   rw [hcnt] at h1
   omega
 refine ⟨?_, ?_⟩
 ·rw [hI.sto.sum, hl]; rfl
 ·rw [hI.sto.chg, hch]; rfl
end
section
def soloN : Nat → Run → Shd → Option (Nat × Run × Shd × Int)
 | 0, _, _ => none
 | n + 1, r, s => if (r.step s).2.2 = 2 ∨ (r.step s).2.2 = 3 then some (1, r.step s) else if (r.step s).2.2 = 1 then (soloN n (r.step s).1 (r.step s).2.1).map fun x => (x.1 + 1, x.2) else none
theorem solo_det {r r' : Run} {s s' : Shd} {m : Nat} {d : Int} (h : Solo r s m r' s' d) : ∀ F, m ≤ F → soloN F r s = some (m, r', s', d) := by
 induction h with
 | last hok hd hdc =>
  intro F hF
  obtain ⟨F, rfl⟩ : ∃ k, F = k + 1 := ⟨F - 1, O_o⟩
  rw [soloN, hd, if_pos hdc, ← hd]
 | more hok hd h ih =>
  intro F hF
  obtain ⟨F, rfl⟩ : ∃ k, F = k + 1 := ⟨F - 1, O_o⟩
  rw [soloN, hd, if_neg O2, if_pos rfl, ih F O0]; rfl
namespace Aw
def sh (x : Option (Nat × Run × Shd × Int)) : Shd := (x.map (·.2.2.1)).getD (Shd.new 2 1000)
def an (x : Option (Nat × Run × Shd × Int)) : Nat × Int × List Smp := (x.map fun x => (x.1, x.2.1.res.err, x.2.1.res.list)).getD (0, 0, [])
def s0 : Shd := Shd.new 2 1000
def a1 := soloN 40 (Run.new 0 ⟨1, 3, 0, 5, 7, 0, 0, 0⟩) s0
def a2 := soloN 40 (Run.new 0 ⟨2, 3, 0, 0, 0, 0, 9, 0⟩) (sh a1)
def a3 := soloN 40 (Run.new 0 ⟨3, 3, 0, 0, 0, 0, 0, 0⟩) (sh a2)
def a4 := soloN 40 (Run.new 0 ⟨2, 3, 0, 0, 0, 0, 9, 0⟩) (sh a3)
def a5 := soloN 40 (Run.new 0 ⟨99, 0, 0, 0, 0, 0, 0, 0⟩) (sh a4)
def a6 := soloN 40 (Run.new 1 ⟨1, 4, 0, 1, 0, 0, 0, 0⟩) (sh a5)
theorem e1 : an a1 = (3, 0, []) := by kernel_rfl
theorem e2 : (an a2).2 = (0, [⟨5, 7⟩]) := by kernel_rfl
theorem e3 : (an a3).2 = (0, []) := by kernel_rfl
theorem e4 : (an a4).2.2 = [⟨5, 7⟩] := by kernel_rfl
theorem e5 : (an a5).2 = (4, []) := by kernel_rfl
theorem e6 : an a6 = (3, 0, []) := by kernel_rfl
theorem next {s : Shd} {acc : List SlotV} {G : Int → Blb} {n : Nat} (hI : Inv s [] acc (fun _ => false) G n) (ht : Tags1 G s.b.last) (who : Int) (o : Opr) (ho : o.Wf) (hn : n ≤ 1000) (hb : s.b.last ≤ 5) :
  ∃ m r' s' d acc' G', Solo (Run.new who o) s m r' s' d ∧ Inv s' [] acc' (fun _ => false) G' (n + 2 * m) ∧ Tags1 G' s'.b.last ∧ m ≤ 33 ∧ s'.b.last ≤ s.b.last + (Run.new who o).todo ∧ r'.over = true ∧ r'.holds = 0 ∧ r'.res.list.length ≤ 1073741824 ∧ soloN 40 (Run.new who o) s = some (m, r', s', d) ∧ (d = 2 ∨ d = 3) := by
 have hb0 : 0 ≤ s.b.last := hI.sto.ok.l0
 have hneed := need_le hI (Run.new who o)
 obtain ⟨m, r', s', d, acc', G', g1, g2, g3, g4, g5, g6, g7, g8, g9, g10⟩ := solo_new hI (who := who) (o := o) (by intro h; cases h) O2 ho (fun _ => rfl) (by rintro (⟨_, _, x, hx, _⟩ | ⟨_, x, hx, _⟩) <;> cases hx) O0 O0 ht.cod
 refine ⟨m, r', s', d, acc', G', g1, g4, ht.step g5, O_o, g6, g7, g8, O_o, solo_det g1 40 O0, ?_⟩
 cases g10 with
 | point => exact .inl rfl
 | full => exact .inr rfl
 | busy => exact .inr rfl
theorem wf0 {o : Opr} (h : ([o.kind, o.series, o.iter, o.T, o.F, o.To, o.N].all fun x => decide (-4294967296 ≤ x ∧ x ≤ 4294967296)) = true) (hv : o.V < 18446744073709551616) : o.Wf := by
 have hi : ∀ x : Int, x ∈ [o.kind, o.series, o.iter, o.T, o.F, o.To, o.N] → I64 x := fun x hx => by
  have := Xe.1 h x hx
  rw [decide_eq_true_eq] at this
  unfold I64; omega
 exact ⟨hi _ O8, hi _ O8, hi _ O8, hi _ O8, hv, hi _ O8, hi _ O8, hi _ O8⟩
theorem an_of {x : Option (Nat × Run × Shd × Int)} {m : Nat} {r : Run} {s : Shd} {d : Int} (h : x = some (m, r, s, d)) : an x = (m, r.res.err, r.res.list) ∧ sh x = s := by
 subst h; exact ⟨rfl, rfl⟩
theorem l1 : (sh a1).b.last = 0 := by kernel_rfl
theorem l2 : (sh a2).b.last = 0 := by kernel_rfl
theorem l3 : (sh a3).b.last = 1 := by kernel_rfl
theorem l4 : (sh a4).b.last = 1 := by kernel_rfl
theorem l5 : (sh a5).b.last = 1 := by kernel_rfl
def b1 := (Run.new 1 ⟨1, 4, 0, 1, 0, 0, 0, 0⟩).step (sh a5)
def b2 := b1.1.step b1.2.1
def b3 := b2.1.step b2.2.1
def tell (q : Run × Shd × Int) : Int × Bool × Int × List Smp := (q.2.2, q.1.over, q.1.holds, q.1.res.list)
theorem z1 : b1.2.2 = 1 := by kernel_rfl
theorem z2 : tell b2 = (1, false, 1, []) := by kernel_rfl
theorem z3 : tell b3 = (2, true, 0, []) := by kernel_rfl
end Aw
section
variable {w0 w : World} {l : List HProp}
theorem law22_awake (hT : Tz w0) (h : St w0 l w) : Ret prog 22 [] w fun v w' => v = .bool true ∧ St w0 l w' := by
 have hI0 : Inv Aw.s0 [] (List.replicate 16 SlotV.zero) (fun _ => false) G0 0 := inv_new 2 1000 _
 have hT0 : Tags1 G0 Aw.s0.b.last := fun id h1 h2 => by
  have : Aw.s0.b.last = 0 := rfl
  omega
 have hl0 : Aw.s0.b.last ≤ 5 := by rw [show Aw.s0.b.last = 0 from rfl]; decide
 obtain ⟨m1, r1, s1, d1, acc1, G1, k1, hI1, hT1, hm1, hb1, ho1, hh1, hn1, q1, _⟩ := Aw.next hI0 hT0 0 ⟨1, 3, 0, 5, 7, 0, 0, 0⟩ (Aw.wf0 O2 O2) (Ud _) hl0
 have ha1 : Aw.a1 = some (m1, r1, s1, d1) := q1
 obtain ⟨hv1, hs1⟩ := Aw.an_of ha1
 have hx1 := Aw.e1
 rw [hv1] at hx1
 have hl1 : s1.b.last ≤ 5 := by rw [← hs1, Aw.l1]; decide
 obtain ⟨m2, r2, s2, d2, acc2, G2, k2, hI2, hT2, hm2, hb2, ho2, hh2, hn2, q2, _⟩ := Aw.next hI1 hT1 0 ⟨2, 3, 0, 0, 0, 0, 9, 0⟩ (Aw.wf0 O2 O2) O0 hl1
 have ha2 : Aw.a2 = some (m2, r2, s2, d2) := by unfold Aw.a2; rw [hs1]; exact q2
 obtain ⟨hv2, hs2⟩ := Aw.an_of ha2
 have hx2 := Aw.e2
 rw [hv2] at hx2
 have hl2 : s2.b.last ≤ 5 := by rw [← hs2, Aw.l2]; decide
 obtain ⟨m3, r3, s3, d3, acc3, G3, k3, hI3, hT3, hm3, hb3, ho3, hh3, hn3, q3, _⟩ := Aw.next hI2 hT2 0 ⟨3, 3, 0, 0, 0, 0, 0, 0⟩ (Aw.wf0 O2 O2) O0 hl2
 have ha3 : Aw.a3 = some (m3, r3, s3, d3) := by unfold Aw.a3; rw [hs2]; exact q3
 obtain ⟨hv3, hs3⟩ := Aw.an_of ha3
 have hx3 := Aw.e3
 rw [hv3] at hx3
 have hl3 : s3.b.last ≤ 5 := by rw [← hs3, Aw.l3]; decide
 obtain ⟨m4, r4, s4, d4, acc4, G4, k4, hI4, hT4, hm4, hb4, ho4, hh4, hn4, q4, _⟩ := Aw.next hI3 hT3 0 ⟨2, 3, 0, 0, 0, 0, 9, 0⟩ (Aw.wf0 O2 O2) O0 hl3
 have ha4 : Aw.a4 = some (m4, r4, s4, d4) := by unfold Aw.a4; rw [hs3]; exact q4
 obtain ⟨hv4, hs4⟩ := Aw.an_of ha4
 have hx4 := Aw.e4
 rw [hv4] at hx4
 have hl4 : s4.b.last ≤ 5 := by rw [← hs4, Aw.l4]; decide
 obtain ⟨m5, r5, s5, d5, acc5, G5, k5, hI5, hT5, hm5, hb5, ho5, hh5, hn5, q5, _⟩ := Aw.next hI4 hT4 0 ⟨99, 0, 0, 0, 0, 0, 0, 0⟩ (Aw.wf0 O2 O2) O0 hl4
 have ha5 : Aw.a5 = some (m5, r5, s5, d5) := by unfold Aw.a5; rw [hs4]; exact q5
 obtain ⟨hv5, hs5⟩ := Aw.an_of ha5
 have hx5 := Aw.e5
 rw [hv5] at hx5
 have hl5 : s5.b.last ≤ 5 := by rw [← hs5, Aw.l5]; decide
 obtain ⟨m6, r6, s6, d6, acc6, G6, k6, hI6, hT6, hm6, hb6, ho6, hh6, hn6, q6, _⟩ := Aw.next hI5 hT5 1 ⟨1, 4, 0, 1, 0, 0, 0, 0⟩ (Aw.wf0 O2 O2) O0 hl5
 have ha6 : Aw.a6 = some (m6, r6, s6, d6) := by unfold Aw.a6; rw [hs5]; exact q6
 obtain ⟨hv6, hs6⟩ := Aw.an_of ha6
 have hx6 := Aw.e6
 rw [hv6] at hx6
 obtain rfl : m6 = 3 := congrArg Prod.fst hx6
 have z1 := Aw.z1
 have z2 := Aw.z2
 have z3 := Aw.z3
 unfold Aw.b3 Aw.b2 Aw.b1 at z3
 unfold Aw.b2 Aw.b1 at z2
 unfold Aw.b1 at z1
 rw [hs5] at z1 z2 z3
 obtain ⟨R0, hR0⟩ : ∃ R0, Run.new 1 ⟨1, 4, 0, 1, 0, 0, 0, 0⟩ = R0 := ⟨_, rfl⟩
 rw [hR0] at k6 z1 z2 z3
 have hx : ∀ i : Nat, True := fun _ => trivial
 obtain ⟨st1, st2, st3⟩ : R0.StepOk s5 ∧ (R0.step s5).1.StepOk (R0.step s5).2.1 ∧ ((R0.step s5).1.step (R0.step s5).2.1).1.StepOk ((R0.step s5).1.step (R0.step s5).2.1).2.1 := by
  cases k6 with
  | more u1 _ k =>
   cases k with
   | more u2 _ k =>
    cases k with
    | last u3 => exact ⟨u1, u2, u3⟩
    | more u3 => exact ⟨u1, u2, u3⟩
 clear k6 q1 q2 q3 q4 q5 q6 hI0 hI1 hI2 hI3 hI4 hI5 hI6 ha1 ha2 ha3 ha4 ha5 ha6 hs1 hs2 hs3 hs4 hs5 hs6
 obtain ⟨rfl, y1, y1'⟩ : m1 = 3 ∧ r1.res.err = 0 ∧ r1.res.list = [] := ⟨congrArg Prod.fst hx1, congrArg (fun z : Nat × Int × List Smp => z.2.1) hx1, congrArg (fun z : Nat × Int × List Smp => z.2.2) hx1⟩
 obtain ⟨y2, y2'⟩ : r2.res.err = 0 ∧ r2.res.list = [⟨5, 7⟩] := ⟨congrArg Prod.fst hx2, congrArg Prod.snd hx2⟩
 obtain ⟨y3, y3'⟩ : r3.res.err = 0 ∧ r3.res.list = [] := ⟨congrArg Prod.fst hx3, congrArg Prod.snd hx3⟩
 have y4' : r4.res.list = [⟨5, 7⟩] := hx4
 obtain ⟨y5, y5'⟩ : r5.res.err = 4 ∧ r5.res.list = [] := ⟨congrArg Prod.fst hx5, congrArg Prod.snd hx5⟩
 obtain ⟨x1, x2⟩ : (R0.step s5).2.2 = 1 ∧ True := ⟨z1, trivial⟩
 obtain ⟨t1, t2, t3, t4⟩ : ((R0.step s5).1.step (R0.step s5).2.1).2.2 = 1 ∧ ((R0.step s5).1.step (R0.step s5).2.1).1.over = false ∧ ((R0.step s5).1.step (R0.step s5).2.1).1.holds = 1 ∧ ((R0.step s5).1.step (R0.step s5).2.1).1.res.list = [] := by
  have e := z2
  unfold Aw.tell at e
  exact ⟨congrArg (·.1) e, congrArg (·.2.1) e, congrArg (·.2.2.1) e, congrArg (·.2.2.2) e⟩
 generalize hR1 : (R0.step s5).1 = R1 at st2 st3 t1 t2 t3 t4 z3
 generalize hS1 : (R0.step s5).2.1 = S1 at st2 st3 t1 t2 t3 t4 z3
 obtain ⟨u1, u2, u3, u4⟩ : ((R1.step S1).1.step (R1.step S1).2.1).2.2 = 2 ∧ ((R1.step S1).1.step (R1.step S1).2.1).1.over = true ∧ ((R1.step S1).1.step (R1.step S1).2.1).1.holds = 0 ∧ ((R1.step S1).1.step (R1.step S1).2.1).1.res.list = [] := by
  have e := z3
  unfold Aw.tell at e
  exact ⟨congrArg (·.1) e, congrArg (·.2.1) e, congrArg (·.2.2.1) e, congrArg (·.2.2.2) e⟩
 clear z1 z2 z3 hx1 hx2 hx3 hx4 hx5 hx6 hv1 hv2 hv3 hv4 hv5 hv6
 generalize hR2 : (R1.step S1).1 = R2 at st3 t2 t3 t4 u1 u2 u3 u4
 generalize hS2 : (R1.step S1).2.1 = S2 at st3 u1 u2 u3 u4
 generalize hR3 : (R2.step S2).1 = R3 at u2 u3 u4
 generalize hS3 : (R2.step S2).2.1 = S3
 have st4 : R3.StepOk S3 := ⟨fun h => (by rw [u2] at h; cases h), fun h => (by rw [u2] at h; cases h), fun h => (by rw [u2] at h; cases h), fun h => (by rw [u2] at h; cases h), fun h => (by rw [u2] at h; cases h)⟩
 have e4 : R3.step S3 = (R3, S3, 0) := by unfold Run.step; rw [u2, if_pos rfl]
 refine en func22 results22 ntmps22 ?_
 refine Y12 ?_; refine Y1 ?_
 refine qw rfl (qg rfl (prog_NewShared 2 1000 h) ?_)
 clear h
 rintro _ w ⟨p, rfl, h⟩
 replace h : St w0 (IsSh p Aw.s0 :: l) w := h
 refine Y51 ?_
 refine qw rfl (qg rfl (law22_whole h) ?_)
 clear h
 rintro _ w ⟨rfl, h⟩
 refine Y44 ?_; refine Ym ?_
 refine qh (qf (r := (⟨1, 3, 0, 5, 7, 0, 0, 0⟩ : Opr).C) rfl) rfl ?_
 refine qw rfl (qg rfl (law22_alone hT k1 O0 ho1 hh1 hn1 h) ?_)
 clear h
 rintro _ w ⟨la1, lc1, rfl, h⟩
 refine Y2x ?_
 refine qw rfl (qc h fun b1 w h => ?_)
 refine qw rfl (qy (vs := r1.res.C la1 lc1) 0 h rfl rfl rfl rfl rfl rfl rfl fun w h => ?_)
 refine Y4l ?_
 replace h : St w0 (pt b1 (.cells (r1.res.C la1 lc1).toArray 28 (0, 0)) :: OwnS la1 lc1 r1.res.list :: IsSh p s1 :: l) w := h
 replace h : St w0 (IsSh p s1 :: pt b1 (.cells (r1.res.C la1 lc1).toArray 28 (0, 0)) :: OwnS la1 lc1 r1.res.list :: l) w := h.f 2
 refine Y1a ?_
 refine qh (qf (r := (⟨2, 3, 0, 0, 0, 0, 9, 0⟩ : Opr).C) rfl) rfl ?_
 refine qw rfl (qg rfl (law22_alone hT k2 O0 ho2 hh2 hn2 h) ?_)
 clear h
 rintro _ w ⟨la2, lc2, rfl, h⟩
 refine Y2x ?_
 refine qw rfl (qc h fun b2 w h => ?_)
 refine qw rfl (qy (vs := r2.res.C la2 lc2) 0 h rfl rfl rfl rfl rfl rfl rfl fun w h => ?_)
 refine Y4l ?_
 replace h : St w0 (pt b2 (.cells (r2.res.C la2 lc2).toArray 28 (0, 0)) :: OwnS la2 lc2 r2.res.list :: IsSh p s2 :: pt b1 (.cells (r1.res.C la1 lc1).toArray 28 (0, 0)) :: OwnS la1 lc1 r1.res.list :: l) w := h
 replace h : St w0 (IsSh p s2 :: pt b2 (.cells (r2.res.C la2 lc2).toArray 28 (0, 0)) :: OwnS la2 lc2 r2.res.list :: pt b1 (.cells (r1.res.C la1 lc1).toArray 28 (0, 0)) :: OwnS la1 lc1 r1.res.list :: l) w := h.f 2
 refine Y1a ?_
 refine qh (qf (r := (⟨3, 3, 0, 0, 0, 0, 0, 0⟩ : Opr).C) rfl) rfl ?_
 refine qw rfl (qg rfl (law22_alone hT k3 O0 ho3 hh3 hn3 h) ?_)
 clear h
 rintro _ w ⟨la3, lc3, rfl, h⟩
 refine Y2x ?_
 refine qw rfl (qc h fun b3 w h => ?_)
 refine qw rfl (qy (vs := r3.res.C la3 lc3) 0 h rfl rfl rfl rfl rfl rfl rfl fun w h => ?_)
 refine Y4l ?_
 replace h : St w0 (pt b3 (.cells (r3.res.C la3 lc3).toArray 28 (0, 0)) :: OwnS la3 lc3 r3.res.list :: IsSh p s3 :: pt b2 (.cells (r2.res.C la2 lc2).toArray 28 (0, 0)) :: OwnS la2 lc2 r2.res.list :: pt b1 (.cells (r1.res.C la1 lc1).toArray 28 (0, 0)) :: OwnS la1 lc1 r1.res.list :: l) w := h
 replace h : St w0 (IsSh p s3 :: pt b3 (.cells (r3.res.C la3 lc3).toArray 28 (0, 0)) :: OwnS la3 lc3 r3.res.list :: pt b2 (.cells (r2.res.C la2 lc2).toArray 28 (0, 0)) :: OwnS la2 lc2 r2.res.list :: pt b1 (.cells (r1.res.C la1 lc1).toArray 28 (0, 0)) :: OwnS la1 lc1 r1.res.list :: l) w := h.f 2
 refine Y1a ?_
 refine qh (qf (r := (⟨2, 3, 0, 0, 0, 0, 9, 0⟩ : Opr).C) rfl) rfl ?_
 refine qw rfl (qg rfl (law22_alone hT k4 O0 ho4 hh4 hn4 h) ?_)
 clear h
 rintro _ w ⟨la4, lc4, rfl, h⟩
 refine Y2x ?_
 refine qw rfl (qc h fun b4 w h => ?_)
 refine qw rfl (qy (vs := r4.res.C la4 lc4) 0 h rfl rfl rfl rfl rfl rfl rfl fun w h => ?_)
 refine Y4l ?_
 replace h : St w0 (pt b4 (.cells (r4.res.C la4 lc4).toArray 28 (0, 0)) :: OwnS la4 lc4 r4.res.list :: IsSh p s4 :: pt b3 (.cells (r3.res.C la3 lc3).toArray 28 (0, 0)) :: OwnS la3 lc3 r3.res.list :: pt b2 (.cells (r2.res.C la2 lc2).toArray 28 (0, 0)) :: OwnS la2 lc2 r2.res.list :: pt b1 (.cells (r1.res.C la1 lc1).toArray 28 (0, 0)) :: OwnS la1 lc1 r1.res.list :: l) w := h
 replace h : St w0 (IsSh p s4 :: pt b4 (.cells (r4.res.C la4 lc4).toArray 28 (0, 0)) :: OwnS la4 lc4 r4.res.list :: pt b3 (.cells (r3.res.C la3 lc3).toArray 28 (0, 0)) :: OwnS la3 lc3 r3.res.list :: pt b2 (.cells (r2.res.C la2 lc2).toArray 28 (0, 0)) :: OwnS la2 lc2 r2.res.list :: pt b1 (.cells (r1.res.C la1 lc1).toArray 28 (0, 0)) :: OwnS la1 lc1 r1.res.list :: l) w := h.f 2
 refine Y1a ?_
 refine qh (qf (r := (⟨99, 0, 0, 0, 0, 0, 0, 0⟩ : Opr).C) rfl) rfl ?_
 refine qw rfl (qg rfl (law22_alone hT k5 O0 ho5 hh5 hn5 h) ?_)
 clear h
 rintro _ w ⟨la5, lc5, rfl, h⟩
 refine Y2x ?_
 refine qw rfl (qc h fun b5 w h => ?_)
 refine qw rfl (qy (vs := r5.res.C la5 lc5) 0 h rfl rfl rfl rfl rfl rfl rfl fun w h => ?_)
 refine Y4l ?_
 replace h : St w0 (pt b5 (.cells (r5.res.C la5 lc5).toArray 28 (0, 0)) :: OwnS la5 lc5 r5.res.list :: IsSh p s5 :: pt b4 (.cells (r4.res.C la4 lc4).toArray 28 (0, 0)) :: OwnS la4 lc4 r4.res.list :: pt b3 (.cells (r3.res.C la3 lc3).toArray 28 (0, 0)) :: OwnS la3 lc3 r3.res.list :: pt b2 (.cells (r2.res.C la2 lc2).toArray 28 (0, 0)) :: OwnS la2 lc2 r2.res.list :: pt b1 (.cells (r1.res.C la1 lc1).toArray 28 (0, 0)) :: OwnS la1 lc1 r1.res.list :: l) w := h
 replace h : St w0 (IsSh p s5 :: pt b5 (.cells (r5.res.C la5 lc5).toArray 28 (0, 0)) :: OwnS la5 lc5 r5.res.list :: pt b4 (.cells (r4.res.C la4 lc4).toArray 28 (0, 0)) :: OwnS la4 lc4 r4.res.list :: pt b3 (.cells (r3.res.C la3 lc3).toArray 28 (0, 0)) :: OwnS la3 lc3 r3.res.list :: pt b2 (.cells (r2.res.C la2 lc2).toArray 28 (0, 0)) :: OwnS la2 lc2 r2.res.list :: pt b1 (.cells (r1.res.C la1 lc1).toArray 28 (0, 0)) :: OwnS la1 lc1 r1.res.list :: l) w := h.f 2
 refine Yl ?_
 refine qh (qf (r := (⟨1, 4, 0, 1, 0, 0, 0, 0⟩ : Opr).C) rfl) rfl ?_
 refine qw rfl (qg rfl (prog_New 1 ⟨1, 4, 0, 1, 0, 0, 0, 0⟩ h) ?_)
 clear h
 rintro _ w ⟨t, rfl, h⟩
 rw [hR0] at h
 refine Y3e ?_; refine Y9 ?_; refine Y10 ?_
 refine qw rfl (qg rfl (prog_Step hT st1 h) ?_)
 clear h
 rintro _ w ⟨rfl, h⟩
 rw [x1]
 rw [hR1, hS1] at h
 refine Y23 ?_; refine Y23 ?_
 refine qw rfl (qg rfl (prog_Step hT st2 h) ?_)
 clear h
 rintro _ w ⟨rfl, h⟩
 rw [t1]
 rw [hR2, hS2] at h
 refine Y3k ?_; refine Ym ?_
 refine qw rfl (qg rfl (prog_Result (by rw [t4]; exact Ud _) h) ?_)
 clear h
 rintro _ w ⟨xa, xc, rfl, h⟩
 rw [t2]
 refine Y3f ?_
 refine qw rfl (qc h fun b20 w h => ?_)
 refine qw rfl (qy (vs := R2.out.C xa xc) 0 h rfl rfl rfl rfl rfl rfl rfl fun w h => ?_)
 refine Y8 ?_
 replace h := h.drop.drop
 refine Y2 ?_; refine Y10 ?_
 refine qw rfl (qg rfl (prog_Step hT st3 h) ?_)
 clear h
 rintro _ w ⟨rfl, h⟩
 rw [u1]
 rw [hR3, hS3] at h
 refine Y4 ?_; refine Ym ?_
 refine qw rfl (qg rfl (prog_Result (by rw [u4]; exact Ud _) h) ?_)
 clear h
 rintro _ w ⟨ya, yc, rfl, h⟩
 rw [u2]
 refine Y3f ?_
 refine qw rfl (qc h fun b23 w h => ?_)
 refine qw rfl (qy (vs := R3.out.C ya yc) 0 h rfl rfl rfl rfl rfl rfl rfl fun w h => ?_)
 refine Y8 ?_
 replace h := h.drop.drop
 refine Yl ?_; refine Y1o ?_; refine Y48 ?_; refine Yf ?_; refine Y1k ?_
 refine qh (qq (v := .iz r1.res.err) rfl (h.b 10 rfl) rfl) rfl ?_
 rw [y1]
 refine Y3n ?_; refine Yf ?_; refine Y37 ?_; refine Y1o ?_; refine Yf ?_; refine Y1k ?_
 refine qh (qq (v := .slice la2 r2.res.list.length lc2) rfl (h.b 8 rfl) rfl) rfl ?_
 rw [show r2.res.list.length = 1 from by rw [y2']; rfl]
 refine Yd ?_; refine Y16 ?_; refine Y3n ?_; refine Yf ?_; refine Y37 ?_; refine Y1o ?_; refine Yf ?_; refine Y1k ?_
 refine qh (qq (v := .iz r3.res.err) rfl (h.b 6 rfl) rfl) rfl ?_
 rw [y3]
 refine Y3n ?_; refine Yf ?_; refine Y37 ?_; refine Y1o ?_; refine Yf ?_; refine Y1k ?_
 refine qh (qq (v := .slice la2 r2.res.list.length lc2) rfl (h.b 8 rfl) rfl) rfl ?_
 refine Y4p ?_
 refine qh (qq (v := .slice la4 r4.res.list.length lc4) rfl (h.b 4 rfl) rfl) rfl ?_
 refine Yd ?_
 refine qw rfl (qg rfl (ref10_Same (L1 := r2.res.list) (L2 := r4.res.list) h (fun w' h' => (h'.f 9).own_rd) (fun w' h' => (h'.f 5).own_rd) (by rw [y2']; decide)) ?_)
 clear h
 rintro _ w ⟨rfl, h⟩
 rw [show decide (r2.res.list = r4.res.list) = true from decide_eq_true (y2'.trans y4'.symm)]
 refine Yf ?_; refine Y37 ?_; refine Y1o ?_; refine Yf ?_; refine Y1k ?_
 refine qh (qq (v := .iz r5.res.err) rfl (h.b 2 rfl) rfl) rfl ?_
 rw [y5]
 refine Y3n ?_; refine Yf ?_; refine Y48 ?_; refine Yf ?_; refine Y48 ?_; refine Yf ?_; refine Y37 ?_; refine Y37 ?_; refine Yy ?_; refine Yf ?_; refine Y48 ?_; refine Yf ?_; refine Y37 ?_; refine Y1o ?_; refine Yf ?_; refine Y3r ?_
 refine qw rfl (qg rfl (prog_Holds h) ?_)
 clear h
 rintro _ w ⟨rfl, h⟩
 rw [u3]
 refine Y3n ?_; refine Yf ?_; refine Y3r ?_; refine Y4w ?_
 refine qw rfl (qg rfl (prog_Step hT st4 h) ?_)
 clear h
 rintro _ w ⟨rfl, h⟩
 rw [e4]
 refine Y3n ?_; refine Y2v ?_
 exact qv (qk (bq1 ⟨rfl, h.x [0, 1, 2, 3, 4, 5, 6, 7, 8, 9, 10, 11]⟩))
end
end
section
variable {s s' s2 : Shd} {a : Ag} {A : List Ag} {acc : List SlotV} {al : Int → Bool} {G G' : Int → Blb} {n n' i : Nat} {r r' : Run} {who : Int} {k : Nat} {o : Opr}
abbrev noAl : Int → Bool := fun _ => false
def Rest (s : Shd) (G : Int → Blb) (i : Nat) : Prop := ∃ acc n, n ≤ 20000 * i ∧ s.b.last ≤ (i : Int) ∧ Inv s [] acc noAl G n ∧ Tags1 G s.b.last ∧ 1 ≤ s.c.clk.most
theorem Rest.new (f b : Int) : Rest (Shd.new f b) G0 0 := ⟨_, 0, Ug _, Uu _, inv_new f b _, fun id h1 h2 => by
 have : (Shd.new f b).b.last = 0 := rfl
 omega, by show 1 ≤ min (max f 1) 1000; omega⟩
theorem Rest.more (h : Rest s G i) {j : Nat} (hj : i ≤ j) : Rest s G j := by
 obtain ⟨acc, n, h1, h2, h3⟩ := h
 exact ⟨acc, n, O_o, O_o, h3⟩
theorem not_blk : ¬ Blk [] o := by rintro (⟨_, _, x, hx, _⟩ | ⟨_, x, hx, _⟩) <;> cases hx
inductive Done (s : Shd) (G : Int → Blb) (o : Opr) (s' : Shd) (G' : Int → Blb) (res : Res) : Int → Prop
 | point (ha : (abs s G).act o = (abs s' G', res)) : Done s G o s' G' res 2
 | full (ha : abs s' G' = abs s G) (hr : res = ⟨9, 0, []⟩) (hb : s'.b = s.b) (hw : (o.kind = 1 ∧ (s.b.room < 16 ∨ ∃ sl : SlotV, sl.opn.length = 7 ∧ Dir.look s.d o.series = some sl)) ∨ o.kind = 3) (hroom : s.b.room < 300) : Done s G o s' G' res 3
theorem Rest.op (h : Rest s G i) (hi : i ≤ 1000) (who : Int) (ho : o.Wf) : ∃ m r' s' d G', Solo (Run.new who o) s m r' s' d ∧ 1 ≤ m ∧ m ≤ (Run.new who o).need s ∧ m ≤ 3 + 6 * i ∧ Rest s' G' (i + 1) ∧ Kpt who s G s' G' ∧ r'.over = true ∧ r'.holds = 0 ∧ r'.res.list.length ≤ 800007 ∧ Done s G o s' G' r'.res d := by
 obtain ⟨acc, n, h1, h2, h3, h4, h5⟩ := h
 have hb0 : 0 ≤ s.b.last := h3.sto.ok.l0
 have hneed := need_le h3 (Run.new who o)
 obtain ⟨m, r', s', d, acc', G', g1, g2, g3, g4, g5, g6, g7, g8, g9, g10⟩ := solo_new h3 (who := who) (o := o) (by intro h; cases h) O2 ho (fun _ => rfl) not_blk O0 O0 h4.cod
 have ht := adds_todo (Run.new who o)
 refine ⟨m, r', s', d, G', g1, g2, g3, O_o, ⟨acc', _, O_o, O_o, g4, h4.step g5, by rw [g5.most]; exact h5⟩, g5, g7, g8, g9, ?_⟩
 cases g10 with
 | point ha => exact .point ha
 | full ha hr hp hk hb hw hroom =>
  refine .full ha hr hb ?_ hroom
  rcases hw with ⟨w1, w2 | ⟨sl, w2, _, w3⟩⟩ | w1
  ·exact .inl ⟨w1, .inl w2⟩
  ·exact .inl ⟨w1, .inr ⟨sl, w2, w3 rfl⟩⟩
  ·exact .inr w1
 | busy _ _ _ hc =>
  obtain ⟨ks, k1, k2, k3⟩ := hc
  cases ks with
  | nil => exfalso; simp only [Xs] at k2; omega
  | cons x l => have := k3 x (Ub ..); cases this
theorem Rest.op2 (h : Rest s G i) (hi : i ≤ 1000) (who : Int) (ho : o.Wf) (hb : 300 * (i : Int) + 2400 ≤ s.b.budget) : ∃ m r' s' G', Solo (Run.new who o) s m r' s' 2 ∧ m ≤ 3 + 6 * i ∧ Rest s' G' (i + 1) ∧ Kpt who s G s' G' ∧ s'.b.budget = s.b.budget ∧ r'.over = true ∧ r'.holds = 0 ∧ r'.res.list.length ≤ 1073741824 ∧ (abs s G).act o = (abs s' G', r'.res) := by
 obtain ⟨m, r', s', d, G', g1, g2, g3, g4, g5, g6, g7, g8, g9, g10⟩ := h.op hi who ho
 cases g10 with
 | point ha => exact ⟨m, r', s', G', g1, g4, g5, g6, g6.budget, g7, g8, O_o, ha⟩
 | full ha hr hb' hw hroom =>
  exfalso
  obtain ⟨acc, n, h1, h2, h3, h4, h5⟩ := h
  have hu := used_le3 h3 h4
  have e : s.b.room = s.b.budget - s.b.bytes - s.b.charged := rfl
  omega
theorem Rest.zero (h : Rest s G i) (hs : ∀ j, (abs s G).ser j = none) (hi : (abs s G).its = []) : s.b.bytes = 0 ∧ s.b.charged = 0 ∧ ∀ (j : Nat) (p : Plc), s.d[j]? = some p → p.s.opn = [] := by
 obtain ⟨acc, n, h1, h2, h3, h4, h5⟩ := h
 have hd : ∀ (j : Nat) (p : Plc), s.d[j]? = some p → p.taken = false ∧ p.s.there = false := by
  intro j p hp
  have ht : p.taken = false := by
   cases ht : p.taken with
   | false => rfl
   | true =>
    obtain ⟨_, f, hf, _⟩ := h3.dir.busy j p hp ht
    cases hf
  refine ⟨ht, ?_⟩
  have h16 := h3.lt16 hp
  have e := hs (j : Int)
  have e' : serOf s.d G (j : Int) = none := e
  rw [serOf_at hp h16] at e'
  unfold SlotV.tells at e'
  cases hth : p.s.there with
  | false => rfl
  | true => rw [hth] at e'; cases e'
 have ht : s.t.l = [] := by
  have e : itsOf s.t.l G = [] := hi
  unfold itsOf at e
  exact List.map_eq_nil_iff.1 e
 obtain ⟨u1, u2⟩ := used_zero h3 (fun a ha => by cases ha) hd ht
 exact ⟨u1, u2, fun j p hp => ((h3.dir.ok j p hp).1.no (hd j p hp).2).1⟩
theorem Rest.used (h : Rest s G i) : s.b.bytes + s.b.charged ≤ s.b.budget ∧ 0 ≤ s.b.bytes ∧ 0 ≤ s.b.charged ∧ s.b.Ok := by
 obtain ⟨acc, n, h1, h2, h3, h4, h5⟩ := h
 exact ⟨h3.sto.ok.sum, h3.sto.ok.y0, h3.sto.ok.c0, h3.sto.ok⟩
theorem lastT_lt {L : List Smp} {b : Int} (hne : L ≠ []) (h : ∀ x ∈ L, x.T < b) : lastT L < b := by
 have e := List.dropLast_concat_getLast hne
 rw [← e, lastT_snoc]
 exact h _ (List.getLast_mem hne)
theorem within_self {L : List Smp} {f t : Int} (h : ∀ x ∈ L, f ≤ x.T ∧ x.T ≤ t) : within L f t = L := by
 refine List.filter_eq_self.2 fun x hx => ?_
 have := h x hx
 simp only [Uo, decide_eq_true_eq]
 omega
end
section
variable {s s' : Shd} {G G' : Int → Blb} {k i : Nat} {ser : Int} {V : Nat → Nat}
def smpN (V : Nat → Nat) (i : Nat) : List Smp := (List.range i).map fun j : Nat => ⟨(j : Int), (V j : Int)⟩
theorem smpN_len : (smpN V i).length = i := by unfold smpN; rw [Vq, Zs]
theorem smpN_succ : smpN V (i + 1) = smpN V i ++ [⟨(i : Int), (V i : Int)⟩] := by unfold smpN; rw [List.range_succ, Vz]; rfl
theorem smpN_T : ∀ x ∈ smpN V i, 0 ≤ x.T ∧ x.T < (i : Int) := by
 intro x hx
 unfold smpN at hx
 obtain ⟨j, hj, rfl⟩ := Vb.1 hx
 have := List.mem_range.1 hj
 dsimp only; omega
structure AppI (s : Shd) (G : Int → Blb) (k : Nat) (ser : Int) (V : Nat → Nat) (i : Nat) : Prop where
 rest : Rest s G k
 one : (abs s G).ser ser = if i = 0 then none else some (false, smpN V i)
 oth : ∀ j, j ≠ ser → (abs s G).ser j = none
 its : (abs s G).its = []
 next : (abs s G).next = 0
def opA (ser : Int) (i v : Nat) : Opr := ⟨1, ser, 0, (i : Int), v, 0, 0, 0⟩
theorem opA_wf {v : Nat} (h0 : 0 ≤ ser) (h1 : ser < 16) (hi : i ≤ 100000) (hv : v < 18446744073709551616) : (opA ser i v).Wf :=
 ⟨by show I64 1; unfold I64; omega, by show I64 ser; unfold I64; omega, by show I64 0; unfold I64; omega, by show I64 (i : Int); unfold I64; omega, hv, by show I64 0; unfold I64; omega, by show I64 0; unfold I64; omega, by show I64 0; unfold I64; omega⟩
theorem bad_series {kd : Int} (hk : 1 ≤ kd ∧ kd ≤ 5) (h0 : 0 ≤ ser) (h1 : ser < 16) {a b c d : Int} {v : Nat} {e : Int} : Run.bad ⟨kd, ser, a, b, v, c, d, e⟩ = false := by
 unfold Run.bad
 rw [if_pos hk, Zd, decide_eq_false_iff_not, decide_eq_false_iff_not]
 dsimp only; omega
theorem new_ser (f b : Int) : ∀ j, (abs (Shd.new f b) G0).ser j = none := by
 intro j
 show serOf (List.replicate 16 ⟨SlotV.zero, false, 0⟩) G0 j = none
 unfold serOf
 cases h : Dir.at_ (List.replicate 16 ⟨SlotV.zero, false, 0⟩) j with
 | none => rfl
 | some p =>
  unfold Dir.at_ at h
  split at h
  ·rw [get_rep h]; rfl
  ·cases h
theorem app_new (f b : Int) : AppI (Shd.new f b) G0 0 ser V 0 := ⟨Rest.new f b, new_ser f b ser, fun j _ => new_ser f b j, rfl, rfl⟩
theorem upS_at (f : Int → Option (Bool × List Smp)) (j : Int) (x : Option (Bool × List Smp)) : upS f j x j = x := if_pos rfl
theorem upS_ne (f : Int → Option (Bool × List Smp)) {i j : Int} (x : Option (Bool × List Smp)) (h : j ≠ i) : upS f i x j = f j := if_neg h
theorem act_app {m : Mdl} {T : Int} {v : Nat} {L : List Smp} {e : Bool} (h0 : 0 ≤ ser) (h1 : ser < 16) (hm : m.ser ser = if e then none else some (false, L)) (he : e = true → L = []) (hT : e = false → lastT L < T) :
  m.act ⟨1, ser, 0, T, v, 0, 0, 0⟩ = ({ m with ser := upS m.ser ser (some (false, L ++ [⟨T, (v : Int)⟩])) }, ⟨0, 0, []⟩) := by
 rw [act_ser (bad_series ⟨O_c, O_c⟩ h0 h1) (by show (1 : Int) ≠ 6; decide) (by show (1 : Int) ≠ 7; decide)]
 dsimp only
 rw [hm]
 cases e with
 | true => rw [he rfl]; rfl
 | false =>
  have := hT rfl
  rw [if_neg Wi]
  dsimp only
  rw [if_pos rfl, if_neg Wi, if_neg O0]
theorem app_step (h : AppI s G k ser V i) (h0 : 0 ≤ ser) (h1 : ser < 16) (hk : k ≤ 1000) (hi : i ≤ 1000) (hv : V i < 18446744073709551616) (who : Int) (hb : 300 * (k : Int) + 2400 ≤ s.b.budget) :
  ∃ m r' s' G', Solo (Run.new who (opA ser i (V i))) s m r' s' 2 ∧ m ≤ 3 + 6 * k ∧ r'.over = true ∧ r'.holds = 0 ∧ r'.res.list.length ≤ 1073741824 ∧ r'.res = ⟨0, 0, []⟩ ∧ s'.b.budget = s.b.budget ∧ AppI s' G' (k + 1) ser V (i + 1) := by
 obtain ⟨m, r', s', G', g1, g2, g3, g4, g5, g6, g7, g8, g9⟩ := h.rest.op2 hk who (o := opA ser i (V i)) (opA_wf h0 h1 O0 hv) hb
 have hone := h.one
 have hact := act_app (m := abs s G) (T := (i : Int)) (v := V i) (L := smpN V i) (e := decide (i = 0)) h0 h1 (by rw [hone]; simp only [decide_eq_true_eq]) (fun he => by
  rw [decide_eq_true_eq] at he
  rw [he]; rfl) (fun he => by
  rw [decide_eq_false_iff_not] at he
  exact lastT_lt (fun e => he (by have := smpN_len (V := V) (i := i); rw [e] at this; simpa using this.symm)) fun x hx => (smpN_T x hx).2)
 rw [← smpN_succ] at hact
 have hact' : (abs s G).act (opA ser i (V i)) = _ := hact
 rw [hact'] at g9
 have e1 := congrArg Prod.fst g9
 have e2 := congrArg Prod.snd g9
 dsimp only at e1 e2
 refine ⟨m, r', s', G', g1, g2, g6, g7, g8, e2.symm, g5, g3, ?_, fun j hj => ?_, ?_, ?_⟩
 ·rw [← e1, if_neg O0]
  exact upS_at _ _ _
 ·rw [← e1]
  exact (upS_ne _ _ hj).trans (h.oth j hj)
 ·rw [← e1]; exact h.its
 ·rw [← e1]; exact h.next
end
section
def sqN (want e : Nat) : List Smp := (List.range (e - want)).map fun j : Nat => ⟨((want + j : Nat) : Int), (((want + j) * (want + j) : Nat) : Int)⟩
theorem sqN_len {want e : Nat} : (sqN want e).length = e - want := by unfold sqN; rw [Vq, Zs]
theorem sqN_get {want e j : Nat} (hj : j < e - want) : (sqN want e)[j]? = some ⟨((want + j : Nat) : Int), (((want + j) * (want + j) : Nat) : Int)⟩ := by
 unfold sqN
 rw [Wo, Zg hj]; rfl
theorem sqN_drop {want e c : Nat} : (sqN want e).drop c = sqN (want + min c (e - want)) e := by
 apply List.ext_getElem?
 intro j
 rw [Kl]
 by_cases hj : c + j < e - want
 ·rw [sqN_get hj, sqN_get O0, Vm O0, show want + c + j = want + (c + j) by omega]
 ·rw [Vi (by rw [sqN_len]; omega), Vi (by rw [sqN_len]; omega)]
def sqV (j : Nat) : Nat := j * j
theorem sqN_within {n lo hi : Nat} : within (smpN sqV n) (lo : Int) (hi : Int) = sqN lo (min (hi + 1) n) := by
 induction n with
 | zero => unfold sqN; rw [show min (hi + 1) 0 - lo = 0 by omega]; rfl
 | succ n ih =>
  rw [smpN_succ, within_app, ih]
  by_cases h : lo ≤ n ∧ n ≤ hi
  ·have h1 : within [(⟨(n : Int), (sqV n : Int)⟩ : Smp)] (lo : Int) (hi : Int) = [⟨(n : Int), (sqV n : Int)⟩] := within_self fun x hx => by
    rw [Vk] at hx
    rw [hx]; dsimp only; omega
   rw [h1, Nat.min_eq_right O0, Nat.min_eq_right O0]
   unfold sqN
   rw [show n + 1 - lo = (n - lo) + 1 by omega, List.range_succ, Vz, Uw, List.map_nil, show lo + (n - lo) = n by omega]; rfl
  ·have h1 : within [(⟨(n : Int), (sqV n : Int)⟩ : Smp)] (lo : Int) (hi : Int) = [] := by
    refine List.filter_eq_nil_iff.2 fun x hx hc => h ?_
    rw [Vk] at hx
    subst hx
    simp only [Uo, decide_eq_true_eq] at hc
    omega
   rw [h1, Uy]
   unfold sqN
   rcases Xt n lo with h2 | h2
   ·rw [show min (hi + 1) n - lo = 0 by omega, show min (hi + 1) (n + 1) - lo = 0 by omega]
   ·rw [show min (hi + 1) (n + 1) = min (hi + 1) n by omega]
structure ItI (s : Shd) (G : Int → Blb) (k : Nat) (W : List Smp) : Prop where
 rest : Rest s G k
 its : (abs s G).its = [(1, W)]
 bud : s.b.budget = 1048576
theorem it_open {s : Shd} {G : Int → Blb} {k n lo hi : Nat} (h : AppI s G k 1 sqV n) (hn : n ≠ 0) (hb : s.b.budget = 1048576) (hk : k ≤ 400) (hlo : lo ≤ 1000) (hhi : hi ≤ 1000) :
  ∃ m r' s' G', Solo (Run.new 0 ⟨5, 1, 0, 0, 0, (lo : Int), (hi : Int), 0⟩) s m r' s' 2 ∧ m ≤ 3000 ∧ r'.over = true ∧ r'.holds = 0 ∧ r'.res.list.length ≤ 1073741824 ∧ r'.res = ⟨0, 1, []⟩ ∧ ItI s' G' (k + 1) (sqN lo (min (hi + 1) n)) := by
 obtain ⟨m, r', s', G', g1, g2, g3, g4, g5, g6, g7, g8, g9⟩ := h.rest.op2 O0 0 (o := ⟨5, 1, 0, 0, 0, (lo : Int), (hi : Int), 0⟩) ⟨by show I64 5; unfold I64; omega, by show I64 1; unfold I64; omega, by show I64 0; unfold I64; omega, by show I64 0; unfold I64; omega, by show 0 < 18446744073709551616; omega, by show I64 (lo : Int); unfold I64; omega, by show I64 (hi : Int); unfold I64; omega, by show I64 0; unfold I64; omega⟩ O0
 have hone := h.one
 rw [if_neg hn] at hone
 have hact : (abs s G).act ⟨5, 1, 0, 0, 0, (lo : Int), (hi : Int), 0⟩ = ({ abs s G with its := [(1, sqN lo (min (hi + 1) n))], next := 1 }, ⟨0, 1, []⟩) := by
  rw [act_ser (bad_series ⟨O_c, O_c⟩ O2 O2) (by show (5 : Int) ≠ 6; decide) (by show (5 : Int) ≠ 7; decide)]
  dsimp only
  rw [hone]
  dsimp only
  rw [if_neg O2, if_neg O2, if_neg O2, if_neg O2, if_neg (by rw [h.its]; decide), h.its, h.next, sqN_within]; rfl
 rw [hact] at g9
 have e1 := congrArg Prod.fst g9
 have e2 := congrArg Prod.snd g9
 dsimp only at e1 e2
 exact ⟨m, r', s', G', g1, O_o, g6, g7, g8, e2.symm, g3, by rw [← e1], g5.trans hb⟩
theorem it_other {s : Shd} {G : Int → Blb} {k : Nat} {W : List Smp} (h : ItI s G k W) (hk : k ≤ 400) {o : Opr} (ho : o.Wf) (hw : o.kind = 1 ∨ o.kind = 3 ∨ o.kind = 4) :
  ∃ m r' s' G', Solo (Run.new 0 o) s m r' s' 2 ∧ m ≤ 3000 ∧ r'.over = true ∧ r'.holds = 0 ∧ r'.res.list.length ≤ 1073741824 ∧ ItI s' G' (k + 1) W := by
 obtain ⟨m, r', s', G', g1, g2, g3, g4, g5, g6, g7, g8, g9⟩ := h.rest.op2 O0 0 ho (by rw [h.bud]; omega)
 refine ⟨m, r', s', G', g1, O_o, g6, g7, g8, g3, ?_, g5.trans h.bud⟩
 have e1 : ((abs s G).act o).1.its = (abs s G).its := by
  unfold Mdl.act Mdl.err
  split
  ·rfl
  rw [if_neg O0, if_neg O0]
  cases (abs s G).ser o.series with
  | none => dsimp only; split <;> rfl
  | some x =>
   obtain ⟨cl, L⟩ := x
   dsimp only
   split
   ·split
    ·rfl
    ·split <;> rfl
   rw [if_neg O0]
   split
   ·split <;> rfl
   rw [if_pos O0]
 rw [g9] at e1
 exact e1.trans h.its
theorem it_next {s : Shd} {G : Int → Blb} {k c : Nat} {W : List Smp} (h : ItI s G k W) (hk : k ≤ 400) (hc : c ≤ 1000) :
  ∃ m r' s' G', Solo (Run.new 0 ⟨6, 0, 1, 0, 0, 0, 0, (c : Int)⟩) s m r' s' 2 ∧ m ≤ 3000 ∧ r'.over = true ∧ r'.holds = 0 ∧ r'.res.list.length ≤ 1073741824 ∧ r'.res = ⟨0, 0, W.take c⟩ ∧ ItI s' G' (k + 1) (W.drop c) := by
 obtain ⟨m, r', s', G', g1, g2, g3, g4, g5, g6, g7, g8, g9⟩ := h.rest.op2 O0 0 (o := ⟨6, 0, 1, 0, 0, 0, 0, (c : Int)⟩) ⟨by show I64 6; unfold I64; omega, by show I64 0; unfold I64; omega, by show I64 1; unfold I64; omega, by show I64 0; unfold I64; omega, by show 0 < 18446744073709551616; omega, by show I64 0; unfold I64; omega, by show I64 0; unfold I64; omega, by show I64 (c : Int); unfold I64; omega⟩ (by rw [h.bud]; omega)
 have hact : (abs s G).act ⟨6, 0, 1, 0, 0, 0, 0, (c : Int)⟩ = ({ abs s G with its := [(1, W.drop c)] }, ⟨0, 0, W.take c⟩) := by
  rw [act_next rfl rfl]
  dsimp only
  rw [h.its, show (min (max (c : Int) 0) 1000).toNat = c by omega]; rfl
 rw [hact] at g9
 have e1 := congrArg Prod.fst g9
 have e2 := congrArg Prod.snd g9
 dsimp only at e1 e2
 exact ⟨m, r', s', G', g1, O_o, g6, g7, g8, e2.symm, g3, by rw [← e1], g5.trans h.bud⟩
section
variable {w0 w : World} {l : List HProp}
theorem law22_ProgIters (hT : Tz w0) (n fr to : Int) {st : Option Addr} {ct : Nat} {xs : List Int} (hx : ∀ x ∈ xs, I64 x) (hn : xs.length ≤ 9223372036854775807) (hrt : Reads w0 l 1 st xs.length (i64V xs)) (h : St w0 l w) :
  Ret prog 6 [.iz n, .iz fr, .iz to, .slice st xs.length ct] w fun v w' => v = .bool true ∧ St w0 l w' := by
 obtain ⟨nm, hnm⟩ := Xh (show 0 ≤ n % 2 ^ 6 by omega)
 obtain ⟨lo, hlo⟩ := Xh (show 0 ≤ fr % 2 ^ 6 by omega)
 obtain ⟨hi, hhi⟩ := Xh (show 0 ≤ to % 2 ^ 7 by omega)
 obtain ⟨nn, hnn⟩ : ∃ nn, nm + 1 = nn := ⟨_, rfl⟩
 have hn64 : 1 ≤ nn ∧ nn ≤ 64 := by omega
 have hlo63 : lo ≤ 63 := by omega
 have hhi127 : hi ≤ 127 := by omega
 obtain ⟨e, he⟩ : ∃ e, min (hi + 1) nn = e := ⟨_, rfl⟩
 have he64 : e ≤ 64 := by omega
 refine en func6 results6 ntmps6 ?_
 refine Y12 ?_; refine Y1 ?_
 refine qw rfl (qg rfl (prog_NewShared 2 1048576 h) ?_)
 clear h
 rintro _ w ⟨p, rfl, h⟩
 refine Y51 ?_
 refine qw rfl (qg rfl (law22_whole h) ?_)
 clear h
 rintro _ w ⟨rfl, h⟩
 refine Y44 ?_; refine Y6 ?_
 refine qh (q9 (v' := .iz (nm : Int)) (q_and rfl rfl) (congrArg Value.iz ((and_mask 6 O2 O2).trans hnm))) rfl ?_
 refine Y1b ?_
 refine qz (.iz (nn : Int)) O14 ?_
 refine Y4 ?_
 refine qi (Γ := Shd) (fun _ => [(0, .iz (nn : Int)), (1, .iz fr), (2, .iz to), (3, .slice st xs.length ct), (9, .pz p)]) (fun s w => (∃ G, AppI s G nn 1 sqV nn) ∧ s.b.budget = 1048576 ∧ St w0 (IsSh p s :: l) w) ?_ ?_
 ·refine Y4g ?_
  refine jh (Γ := Nat × Shd) (fun g => [(0, .iz (nn : Int)), (1, .iz fr), (2, .iz to), (3, .slice st xs.length ct), (9, .pz p), (10, .iz (g.1 : Int))])
   (fun g w => g.1 ≤ nn ∧ (∃ G, AppI g.2 G g.1 1 sqV g.1) ∧ g.2.b.budget = 1048576 ∧ St w0 (IsSh p g.2 :: l) w) (fun g => nn - g.1) (0, Shd.new 2 1048576) zz6 ⟨Ud _, ⟨_, app_new _ _⟩, rfl, h⟩ ?_
  clear h
  rintro ⟨i, s⟩ w e ⟨hi1, ⟨G, hF⟩, hbud, h⟩
  dsimp only at hi1 hF hbud h ⊢
  refine Y1v ?_; refine Y0 ?_; refine Y1p ?_
  by_cases hlt : i < nn
  rotate_left
  ·refine qz (.bool false) O4 ?_
   refine qv (qa rfl (ju ?_))
   obtain rfl : i = nn := by omega
   exact Eq.mpr (if_pos rfl) ⟨s, zz5, ⟨G, hF⟩, hbud, h⟩
  refine qz (.bool true) O3 ?_
  refine Ye ?_; refine Yk ?_
  have hii : i * i ≤ 64 * 64 := Xx O0 O0
  obtain ⟨m, r', s', G', k1, k2, k3, k4, k5, k6, k7, k8⟩ := app_step hF O2 O2 O0 O0 (by show i * i < _; omega) 0 O0
  refine qi (Γ := Unit) (fun _ => [(0, .iz (nn : Int)), (1, .iz fr), (2, .iz to), (3, .slice st xs.length ct), (9, .pz p), (10, .iz (i : Int))]) (fun _ w => St w0 (IsSh p s' :: l) w) (c_block ?_) ?_
  rotate_left
  ·clear h
   rintro _ w e h
   refine Y2w ?_
   refine qz (.iz ((i + 1 : Nat) : Int)) O14 ?_
   refine Y7 ?_
   exact qv ⟨(i + 1, s'), zz6, ⟨O_d, ⟨G', k8⟩, k7.trans hbud, h⟩, O_d⟩
  refine Ym ?_; refine Y1x ?_; refine Y0 ?_; refine Y4n ?_
  refine qz (.iz ((i * i : Nat) : Int)) (by congr 1; rw [← Zm, wrap64 O0 O0]) ?_
  refine Yw ?_
  refine qz (.int .u64 ((sqV i : Nat) : Int)) (by congr 1; rw [wrap_u64, Uk O0]; rfl) ?_
  refine qh (qf (r := (opA 1 i (sqV i)).C) rfl) rfl ?_
  refine qw rfl (qg rfl (law22_alone hT k1 O0 k3 k4 k5 h) ?_)
  clear h
  rintro _ w ⟨la, lc, rfl, h⟩
  refine Y2x ?_
  refine qw rfl (qc h fun b w h => ?_)
  refine qw rfl (qy (vs := r'.res.C la lc) 0 h rfl rfl rfl rfl rfl rfl rfl fun w h => ?_)
  refine Y1w ?_; refine Y1 ?_; refine Y1d ?_
  exact qv (qa rfl (qr ⟨(), zz6, h.drop.drop⟩))
 clear h
 rintro s w e' ⟨⟨G, hF⟩, hbud, h⟩
 obtain ⟨m, r', s1, G1, k1, k2, k3, k4, k5, k6, k7⟩ := it_open (lo := lo) (hi := hi) hF O0 hbud O0 O0 O0
 rw [he] at k7
 refine Y6 ?_
 refine qh (q9 (v' := .iz (lo : Int)) (q_and rfl rfl) (congrArg Value.iz ((and_mask 6 O2 O2).trans hlo))) rfl ?_
 refine Y0 ?_
 refine qh (q9 (v' := .iz (hi : Int)) (q_and rfl rfl) (congrArg Value.iz ((and_mask 7 O2 O2).trans hhi))) rfl ?_
 refine Y3k ?_; refine Ym ?_; refine Y1x ?_
 refine qh (qf (r := (⟨5, 1, 0, 0, 0, (lo : Int), (hi : Int), 0⟩ : Opr).C) rfl) rfl ?_
 refine qw rfl (qg rfl (law22_alone hT k1 k2 k3 k4 k5 h) ?_)
 clear h
 rintro _ w ⟨la, lc, rfl, h⟩
 rw [k6] at h ⊢
 refine Y2x ?_
 refine qw rfl (qc h fun b w h => ?_)
 refine qw rfl (qy (vs := (⟨0, 1, []⟩ : Res).C la lc) 0 h rfl rfl rfl rfl rfl rfl rfl fun w h => ?_)
 refine Y4l ?_
 replace h : St w0 (pt b (.cells ((⟨0, 1, []⟩ : Res).C la lc).toArray 28 (0, 0)) :: IsSh p s1 :: l) w := h.x [1]
 refine Y24 ?_; refine Y1 ?_; refine Y1d ?_; refine Y1k ?_
 refine qh (qq (v := .iz 1) rfl (h.b 0 rfl) rfl) rfl ?_
 refine Yd ?_; refine Y1y ?_; refine Yb ?_; refine Y9 ?_
 replace h := h.drop
 refine Y3b ?_
 refine qi (Γ := Unit) (fun _ => []) (fun _ w => St w0 l w) ?_ ?_
 rotate_left
 ·clear h
  rintro _ w e h
  refine Y1 ?_
  refine qw rfl (qg rfl (law22_awake hT h) ?_)
  clear h
  rintro _ w ⟨rfl, h⟩
  refine Y8 ?_
  exact qv (qk (bq1 ⟨rfl, h⟩))
 refine Y4g ?_
 refine jh (Γ := Nat × Nat × Shd) (fun g => [(0, .iz (nn : Int)), (3, .slice st xs.length ct), (9, .pz p), (15, .iz (hi : Int)), (19, .iz (g.2.1 : Int)), (20, .iz (g.1 : Int))])
  (fun g w => (g.1 ≤ 100 ∧ g.2.1 ≤ 64) ∧ (∃ G, ItI g.2.2 G (nn + 1 + 2 * g.1) (sqN g.2.1 e)) ∧ St w0 (IsSh p g.2.2 :: l) w) (fun g => 100 - g.1) (0, lo, s1) zz6 ⟨⟨Ud _, O_d⟩, ⟨_, k7⟩, h⟩ ?_
 clear h k1 k7
 rintro ⟨i, want, s⟩ w e0 ⟨⟨hi1, hw64⟩, ⟨G, hF⟩, h⟩
 dsimp only at hi1 hw64 hF h ⊢
 refine Y1v ?_; refine Y1p ?_
 by_cases hlt : i < 100
 rotate_left
 ·refine qz (.bool false) O4 ?_
  refine qv (qa rfl (ju ?_))
  exact Eq.mpr (if_pos rfl) ⟨(), trivial, h.x [0]⟩
 refine qz (.bool true) O3 ?_
 refine Ye ?_; refine Yk ?_
 refine qi (Γ := Nat × Shd) (fun g => [(0, .iz (nn : Int)), (3, .slice st xs.length ct), (9, .pz p), (15, .iz (hi : Int)), (19, .iz (g.1 : Int)), (20, .iz (i : Int))])
  (fun g w => g.1 ≤ 64 ∧ (∃ G, ItI g.2 G (nn + 1 + 2 * i + 2) (sqN g.1 e)) ∧ St w0 (IsSh p g.2 :: l) w) (c_block ?_) ?_
 rotate_left
 ·clear h
  rintro ⟨want', s2⟩ w e1 ⟨q1, ⟨G2, q2⟩, h⟩
  dsimp only at q1 q2 h ⊢
  refine Y2w ?_
  refine qz (.iz ((i + 1 : Nat) : Int)) O14 ?_
  refine Y7 ?_
  exact qv ⟨(i + 1, want', s2), zz6, ⟨⟨O_d, q1⟩, ⟨G2, by rw [show nn + 1 + 2 * (i + 1) = nn + 1 + 2 * i + 2 by omega]; exact q2⟩, h⟩, O_d⟩
 refine Yr ?_
 refine qi (Γ := Nat) (fun c => [(0, .iz (nn : Int)), (3, .slice st xs.length ct), (9, .pz p), (15, .iz (hi : Int)), (19, .iz (want : Int)), (20, .iz (i : Int)), (21, .iz (c : Int))]) (fun c w => c ≤ 15 ∧ St w0 (IsSh p s :: l) w) ?_ ?_
 ·refine Y6 ?_; refine Y14 ?_; refine Y1p ?_
  by_cases hil : i < xs.length
  ·refine qz (.bool true) O3 ?_
   refine Ye ?_; refine j0 ?_
   obtain ⟨x, hxi⟩ : ∃ x, xs[i]? = some x := ⟨_, Uc hil⟩
   obtain ⟨c, hc⟩ := Xh (show 0 ≤ x % 2 ^ 4 by omega)
   refine Y4b ?_
   obtain ⟨bb, oo, rfl⟩ : ∃ bb oo, st = some ⟨bb, oo, none⟩ := (hrt.rd w (h.x [0])).some O0
   refine qh (jd (j := i) (o' := oo + i) rfl rfl rfl hil O8) rfl ?_
   refine qh (jg (v := .iz x) rfl ((hrt.rd w (h.x [0])).cell (by simp [i64V, hxi]))) rfl ?_
   refine qh (q9 (v' := .iz (c : Int)) (q_and rfl rfl) (congrArg Value.iz ((and_mask 4 O2 O2).trans hc))) rfl ?_
   refine Y7 ?_
   exact qv ⟨c, zz7, O_o, h⟩
  ·refine qz (.bool false) O4 ?_
   exact qv (qa rfl (qr ⟨7, zz7, O_c, h⟩))
 clear h
 rintro c w e1 ⟨hc15, h⟩
 obtain ⟨i8, hi8⟩ := Xh (show 0 ≤ (i : Int) % 2 ^ 3 by omega)
 refine qi (Γ := Shd) (fun _ => [(0, .iz (nn : Int)), (3, .slice st xs.length ct), (9, .pz p), (15, .iz (hi : Int)), (19, .iz (want : Int)), (20, .iz (i : Int)), (21, .iz (c : Int))]) (fun s' w => (∃ G, ItI s' G (nn + 1 + 2 * i + 1) (sqN want e)) ∧ St w0 (IsSh p s' :: l) w) ?_ ?_
 ·refine Y6 ?_
  refine qh (q9 (v' := .iz (i8 : Int)) (q_and rfl rfl) (congrArg Value.iz ((and_mask 3 O2 O2).trans hi8))) rfl ?_
  refine Y42 ?_
  by_cases h1 : i8 = 1
  ·refine qz (.bool true) O10 ?_
   refine Y8 ?_
   obtain ⟨m, r', s2, G2, k1, k2, k3, k4, k5, k6⟩ := it_other hF O0 (o := opA 1 (1000 + i) 5) (opA_wf O2 O2 O0 O2) (.inl rfl)
   refine Y2m ?_; refine Y0 ?_; refine Y1b ?_
   refine qz (.iz ((1000 + i : Nat) : Int)) O14 ?_
   refine qh (qf (r := (opA 1 (1000 + i) 5).C) rfl) rfl ?_
   refine qw rfl (qg rfl (law22_alone hT k1 k2 k3 k4 k5 h) ?_)
   clear h
   rintro _ w ⟨la, lc, rfl, h⟩
   exact qv ⟨s2, zz7, ⟨G2, k6⟩, h.drop⟩
  refine qz (.bool false) O5 ?_
  refine Y2e ?_
  by_cases h4 : i8 = 4
  ·refine qz (.bool true) O10 ?_
   refine Y8 ?_
   obtain ⟨m, r', s2, G2, k1, k2, k3, k4, k5, k6⟩ := it_other hF O0 (o := ⟨3, 1, 0, 0, 0, 0, 0, 0⟩) (Aw.wf0 O2 O2) (.inr (.inl rfl))
   refine Y2m ?_
   refine qh (qf (r := (⟨3, 1, 0, 0, 0, 0, 0, 0⟩ : Opr).C) rfl) rfl ?_
   refine qw rfl (qg rfl (law22_alone hT k1 k2 k3 k4 k5 h) ?_)
   clear h
   rintro _ w ⟨la, lc, rfl, h⟩
   exact qv ⟨s2, zz7, ⟨G2, k6⟩, h.drop⟩
  refine qz (.bool false) O5 ?_
  refine Y2e ?_
  by_cases h6 : i8 = 6
  ·refine qz (.bool true) O10 ?_
   refine Y8 ?_
   obtain ⟨m, r', s2, G2, k1, k2, k3, k4, k5, k6⟩ := it_other hF O0 (o := ⟨4, 1, 0, 0, 0, 0, 0, 0⟩) (Aw.wf0 O2 O2) (.inr (.inr rfl))
   refine Y2m ?_
   refine qh (qf (r := (⟨4, 1, 0, 0, 0, 0, 0, 0⟩ : Opr).C) rfl) rfl ?_
   refine qw rfl (qg rfl (law22_alone hT k1 k2 k3 k4 k5 h) ?_)
   clear h
   rintro _ w ⟨la, lc, rfl, h⟩
   exact qv ⟨s2, zz7, ⟨G2, k6⟩, h.drop⟩
  refine qz (.bool false) O5 ?_
  refine Y8 ?_
  exact qv (qa rfl (qr ⟨s, zz7, ⟨G, hF.rest.more O0, hF.its, hF.bud⟩, h⟩))
 clear h hF
 rintro s2 w e2 ⟨⟨G2, hF⟩, h⟩
 obtain ⟨m, r', s3, G3, k1, k2, k3, k4, k5, k6, k7⟩ := it_next (c := c) hF O0 O0
 obtain ⟨cn, hcn⟩ : ∃ cn, min c (e - want) = cn := ⟨_, rfl⟩
 have hLl : ((sqN want e).take c).length = cn := by rw [Us, sqN_len, hcn]
 rw [sqN_drop, hcn] at k7
 obtain ⟨L, hL⟩ : ∃ L, (sqN want e).take c = L := ⟨_, rfl⟩
 rw [hL] at hLl k6
 refine Y40 ?_
 refine qh (qf (r := (⟨6, 0, 1, 0, 0, 0, 0, (c : Int)⟩ : Opr).C) rfl) rfl ?_
 refine qw rfl (qg rfl (law22_alone hT k1 k2 k3 k4 k5 h) ?_)
 clear h
 rintro _ w ⟨la, lc, rfl, h⟩
 rw [k6] at h ⊢
 dsimp only at h
 refine Y2x ?_
 refine qw rfl (qc h fun b w h => ?_)
 refine qw rfl (qy (vs := (⟨0, 0, L⟩ : Res).C la lc) 0 h rfl rfl rfl rfl rfl rfl rfl fun w h => ?_)
 refine Y4l ?_
 replace h : St w0 (pt b (.cells ((⟨0, 0, L⟩ : Res).C la lc).toArray 28 (0, 0)) :: OwnS la lc L :: IsSh p s3 :: l) w := h
 refine Y2 ?_
 refine qi (Γ := Unit) (fun _ => [(0, .iz (nn : Int)), (3, .slice st xs.length ct), (9, .pz p), (15, .iz (hi : Int)), (19, .iz (want : Int)), (20, .iz (i : Int)), (22, .pz b)]) (fun _ w => St w0 (pt b (.cells ((⟨0, 0, L⟩ : Res).C la lc).toArray 28 (0, 0)) :: OwnS la lc L :: IsSh p s3 :: l) w) ?_ ?_
 ·refine Y1 ?_; refine Y1d ?_; refine Y1k ?_
  refine qh (qq (v := .iz 0) rfl (h.b 0 rfl) rfl) rfl ?_
  refine Yd ?_; refine Y1y ?_; refine Yb ?_; refine Y1k ?_
  refine qh (qq (v := .slice la L.length lc) rfl (h.b 0 rfl) rfl) rfl ?_
  refine Yd ?_; refine Y16 ?_; refine Y35 ?_; refine Y4r ?_; refine Y4r ?_; refine Y1g ?_
  refine qz (.iz ((nn : Int) - 1)) (by congr 1; rw [wrap64 O0 O0]) ?_
  refine Yd ?_; refine Y3v ?_; refine Y35 ?_; refine Y1g ?_
  refine qz (.iz (min (hi : Int) ((nn : Int) - 1) - (want : Int))) (by congr 1; rw [wrap64 O0 O0]) ?_
  refine Yd ?_; refine Y1b ?_
  refine qz (.iz (min (hi : Int) ((nn : Int) - 1) - (want : Int) + 1)) (by congr 1; rw [wrap64 O0 O0]) ?_
  refine Yd ?_; refine Y3v ?_; refine Yd ?_; refine Y4q ?_; refine Yd ?_
  refine qh (q9 (v' := .bool false) (q_neq rfl rfl) (congrArg Value.bool (by rw [bne_eq_false_iff_eq, hLl]; omega))) rfl ?_
  refine Yb ?_
  exact qv (qa rfl (qr ⟨(), zz7, h⟩))
 clear h
 rintro _ w e3 h
 refine Y22 ?_
 refine qh (qq (v := .slice la L.length lc) rfl (h.b 0 rfl) rfl) rfl ?_
 refine Y16 ?_; refine Y1u ?_
 refine jh (Γ := Nat) (fun j => [(0, .iz (nn : Int)), (3, .slice st xs.length ct), (9, .pz p), (15, .iz (hi : Int)), (19, .iz ((want + j : Nat) : Int)), (20, .iz (i : Int)), (138, .slice la L.length lc), (139, .iz (L.length : Int)), (140, .iz (j : Int))])
  (fun j w => j ≤ L.length ∧ St w0 (OwnS la lc L :: IsSh p s3 :: l) w) (fun j => L.length - j) 0 zz9 ⟨Ud _, h.drop⟩ ?_
 clear h
 rintro j w e4 ⟨hj, h⟩
 refine Y3i ?_
 by_cases hjl : j < L.length
 rotate_left
 ·refine qz (.bool false) O4 ?_
  refine qv (qo (qa rfl (ju ?_)))
  obtain rfl : j = L.length := by omega
  exact Eq.mpr (if_pos rfl) ⟨(want + L.length, s3), zz6, O_d, ⟨G3, by rw [hLl]; exact k7⟩, h.x [0]⟩
 refine qz (.bool true) O3 ?_
 refine Y3t ?_; refine Yk ?_
 have hxj : L[j]? = some ⟨((want + j : Nat) : Int), (((want + j) * (want + j) : Nat) : Int)⟩ := by
  rw [← hL, Xw, if_pos O0, sqN_get O0]
 have hww : (want + j) * (want + j) ≤ 128 * 128 := Xx O0 O0
 obtain ⟨g, rfl⟩ : ∃ g, la = some ⟨g, 0, none⟩ := h.own_some O0
 refine qi (Γ := Unit) (fun _ => [(0, .iz (nn : Int)), (3, .slice st xs.length ct), (9, .pz p), (15, .iz (hi : Int)), (19, .iz ((want + (j + 1) : Nat) : Int)), (20, .iz (i : Int)), (138, .slice (sQ g) L.length lc), (139, .iz (L.length : Int)), (140, .iz (j : Int))])
  (fun _ w => St w0 (OwnS (sQ g) lc L :: IsSh p s3 :: l) w) (c_block ?_) ?_
 rotate_left
 ·clear h
  rintro _ w e5 h
  refine Yt ?_
  refine qz (.iz ((j + 1 : Nat) : Int)) O14 ?_
  refine Y0 ?_
  exact qv ⟨j + 1, zz9, ⟨O_o, h⟩, O_o⟩
 obtain ⟨sq, hsq⟩ : ∃ sq : Nat, (want + j) * (want + j) = sq := ⟨_, rfl⟩
 rw [hsq] at hxj hww
 refine Y1 ?_
 refine qh (jd (j := j) (o' := j * 2) rfl rfl rfl hjl O8) rfl ?_
 have hel := (h.own_rd (sz := 2)).elem j4 hxj
 refine qh (qx (l := (⟨((want + j : Nat) : Int), (sq : Int)⟩ : Smp).cells) rfl rfl (by simpa using hel)) rfl ?_
 refine qw rfl (qc h fun b26 w h => ?_)
 refine qw rfl (qy (vs := (⟨((want + j : Nat) : Int), (sq : Int)⟩ : Smp).cells) 0 h rfl rfl rfl rfl rfl rfl rfl fun w h => ?_)
 replace h : St w0 (pt b26 (.cells (⟨((want + j : Nat) : Int), (sq : Int)⟩ : Smp).cells.toArray 57 (0, 0)) :: OwnS (sQ g) lc L :: IsSh p s3 :: l) w := h
 refine Y24 ?_; refine Y1 ?_
 refine qh (qx (l := (⟨((want + j : Nat) : Int), (sq : Int)⟩ : Smp).cells) rfl rfl (qd (h.b 0 rfl) rfl)) rfl ?_
 refine Y1x ?_; refine Y0 ?_; refine Y4n ?_
 refine qz (.iz (sq : Int)) (by congr 1; rw [← Zm, hsq, wrap64 O0 O0]) ?_
 refine Yw ?_
 refine qz (.int .u64 (sq : Int)) (by congr 1; rw [wrap_u64, Uk O0]) ?_
 refine qh (qf (r := (⟨((want + j : Nat) : Int), (sq : Int)⟩ : Smp).cells) rfl) rfl ?_
 refine qh (q_neI [((want + j : Nat) : Int), (sq : Int)] [((want + j : Nat) : Int), (sq : Int)] rfl rfl rfl rfl) rfl ?_
 refine qz (.bool false) O8 ?_
 refine Y9 ?_; refine Y2w ?_
 refine qz (.iz ((want + (j + 1) : Nat) : Int)) O14 ?_
 refine Y7 ?_
 exact qv ⟨(), zz9, h.drop⟩
end
end
end Go.Proofs.YtngdfdangkdgcaaGreatDoor
