/- suit: telling rows. -/
import Derived.Test.YtjjacchnalemaaaDoorEnc2
namespace Go.Hw
theorem bigL_nil : bigL [] = [] := rfl
theorem simp_big (o : Option (List Nat)) : (o.map bigL).getD [] = bigL (o.getD []) ∧ (o.map bigL).isSome = o.isSome := by cases o <;> exact ⟨rfl, rfl⟩
theorem simpEncF_len : ∀ (k : Nat) (u ws : List Nat), simpEncF k u = some ws → ws.length ≤ u.length ∧ ∀ w ∈ ws, w < 18446744073709551616
  | _, [], ws, h => by rw [simpEncF] at h; cases h; exact ⟨Nat.le_refl _, fun _ h => by cases h⟩
  | 0, _ :: _, _, h => by rw [simpEncF] at h; cases h
  | k + 1, a :: r, ws, h => by
    rw [simpEncF] at h
    cases hw : wordA 0 kindsL (a :: r) with
    | none => rw [hw] at h; cases h
    | some wn =>
      obtain ⟨w, n⟩ := wn
      rw [hw] at h
      obtain ⟨y, h1, rfl⟩ := Option.map_eq_some_iff.1 h
      have hp := wordA_pos (by simp) hw
      obtain ⟨h2, h3⟩ := simpEncF_len k _ y h1
      rw [List.length_drop] at h2
      obtain ⟨j, kk, g1, g2, g3⟩ := wordA_some hw
      obtain ⟨f1, f2, f3⟩ := fitsK_some g2
      obtain ⟨k1, k2, k3, k4⟩ := kindsL_ok j kk g1
      have hlt : packW kk.2 ((a :: r).take n) < 1152921504606846976 := by
        refine Nat.lt_of_lt_of_le (packW_lt f2) ?_
        have : kk.2 * ((a :: r).take n).length ≤ 60 := by
          rw [List.length_take]
          exact Nat.le_trans (Nat.mul_le_mul_left _ (by omega)) k4
        exact Nat.pow_le_pow_right (by decide) this
      refine ⟨by rw [List.length_cons]; omega, fun z hz => ?_⟩
      rcases List.mem_cons.1 hz with rfl | hz
      · omega
      · exact h3 z hz
theorem simpEnc_len {u : List Nat} : ((simpEnc u).getD []).length ≤ u.length ∧ ∀ w ∈ (simpEnc u).getD [], w < 18446744073709551616 := by
  cases h : simpEnc u with
  | none => exact ⟨Nat.zero_le _, fun _ h => by cases h⟩
  | some ws => exact simpEncF_len _ u ws h
theorem valsOf_lt {L : List Smp} (hw : ∀ s ∈ L, s.Wf) : ∀ v ∈ valsOf L, v < 18446744073709551616 := by
  intro v hv
  obtain ⟨s, hs, rfl⟩ := List.mem_map.1 hv
  obtain ⟨_, h2, h3⟩ := hw s hs
  omega
theorem timesOf_wf {L : List Smp} (hw : ∀ s ∈ L, s.Wf) : ∀ t ∈ timesOf L, I64 t := by
  intro t ht
  obtain ⟨s, hs, rfl⟩ := List.mem_map.1 ht
  exact (hw s hs).1
theorem flat_len_le (f : Nat → Nat) (wide : Nat) (v : List Nat) : (v.flatMap fun y => bitsOf (f y) wide).length = wide * v.length := by
  induction v with
  | nil => rfl
  | cons x v ih => rw [List.flatMap_cons, List.length_append, bitsOf_len, ih, List.length_cons, Nat.mul_add]; omega
end Go.Hw
namespace Go.Proofs.YtjjacchnalemaaaDoor
open Go.Hw
set_option maxHeartbeats 4000000
set_option maxRecDepth 100000
section
variable {w0 w : World} {l : List HProp}
theorem frameEnc_len {u : List Nat} (hn : u.length ≤ 65535) (hu : ∀ x ∈ u, x < 18446744073709551616) : (frameEnc u).length ≤ 600000 := by
  cases u with
  | nil => exact Nat.zero_le _
  | cons x r =>
    have h1 := vput_len (leastA x r)
    have hg := greatA_lt r x (hu x (List.mem_cons_self ..)) fun y hy => hu y (List.mem_cons_of_mem _ hy)
    have hw : len64 (greatA x r - leastA x r) ≤ 64 := len64_64 (by omega)
    have h2 := flat_len_le (fun y => y - leastA x r) (len64 (greatA x r - leastA x r)) (x :: r)
    have h3 := pack_len ((x :: r).flatMap fun y => bitsOf (y - leastA x r) (len64 (greatA x r - leastA x r)))
    have h4 : len64 (greatA x r - leastA x r) * (x :: r).length ≤ 64 * 65535 := Nat.mul_le_mul hw hn
    rw [frameEnc, List.length_append, List.length_cons, h3]
    omega
theorem dictEnc_len {u : List Nat} (hn : u.length ≤ 65535) : ((dictEnc u).getD []).length ≤ 600000 := by
  unfold dictEnc
  cases hm : unlikeA [] u with
  | none => exact Nat.zero_le _
  | some m =>
    dsimp only
    split
    · exact Nat.zero_le _
    · obtain ⟨_, _, hm2, _⟩ := unlikeA_some u [] m hm (by simp)
      have h1 := vput_len m.length
      have hw : len64 (m.length - 1) ≤ 64 := len64_64 (by omega)
      have h2 := flat_len_le (fun y => m.idxOf y) (len64 (m.length - 1)) u
      have h3 := pack_len (u.flatMap fun x => bitsOf (m.idxOf x) (len64 (m.length - 1)))
      have h4 : len64 (m.length - 1) * u.length ≤ 64 * 65535 := Nat.mul_le_mul hw hn
      have h5 := vputs_len m
      show (dictBytes m u).length ≤ _
      unfold dictBytes
      rw [List.length_append, List.length_append, h3]
      omega
theorem valuesEnc_len {tag : Int} {u : List Nat} (hn : u.length ≤ 65535) (hu : ∀ x ∈ u, x < 18446744073709551616) : ((valuesEnc tag u).getD []).length ≤ 2000000 := by
  unfold valuesEnc
  repeat' split
  · have h1 := xorBits_len u
    have h2 := pack_len (xorBits u)
    show (pack (xorBits u)).length ≤ _
    omega
  · rw [(simp_big _).1, bigL_len]
    have := (simpEnc_len (u := stepsL 0 u)).1
    rw [stepsL_len] at this
    omega
  · have := runsEnc_len u; show (runsEnc u).length ≤ _; omega
  · have := frameEnc_len hn hu; show (frameEnc u).length ≤ _; omega
  · have := dictEnc_len (u := u) hn; omega
  · cases u with
    | nil => exact Nat.zero_le _
    | cons x r =>
      have := vput_len x
      rw [sameEnc]; split
      · show (vput x).length ≤ _; omega
      · exact Nat.zero_le _
  · exact Nat.zero_le _

theorem suit_values (hT : Tz w0) (tag : Int) {sl : Option Addr} {c : Nat} {u : List Nat} (hu : ∀ x ∈ u, x < 18446744073709551616) (hn : u.length ≤ 65535) (hc : u.length ≤ c) (hr : Reads w0 l 1 sl u.length (u64V u)) (h : St w0 l w) :
    Ret Tryd.prog 41 [.int .i64 tag, .slice sl u.length c] w fun v w' => ∃ a c', v = .tuple [.slice a ((valuesEnc tag u).getD []).length c', .bool (valuesEnc tag u).isSome].toArray ∧ St w0 (OwnB a c' ((valuesEnc tag u).getD []) :: l) w' := by
  refine enter Tryd.func41 rfl Tryd.results41 Tryd.ntmps41 rfl ?_
  refine c_seq (c_region ?_)
  refine r_v (q_assignS rfl) rfl ?_; refine r_v (q_assignB rfl) rfl ?_
  refine r_nil ?_
  refine c_seq (c_seq (c_region ?_))
  refine r_v (q_moveI rfl) rfl ?_
  refine r_nil ?_
  refine c_block ?_
  refine c_seq (c_region ?_)
  refine r_v (q_eql rfl rfl) rfl ?_; refine r_v (q_assignB rfl) rfl ?_
  refine r_nil ?_
  refine c_cond (tag == 1) rfl (fun hc1 => ?_) (fun hc1 => ?_)
  ·
    have ht : tag = 1 := by simpa using hc1
    have e1 : valuesEnc tag u = some (pack (xorBits u)) := by unfold valuesEnc; rw [if_pos ht]
    rw [e1]
    have hxl := xorBits_len u
    refine c_seq (c_region ?_)
    refine r_c rfl (x_call rfl (bits_NewWriter h) ?_)
    rintro _ w ⟨p, rfl, h⟩
    refine r_v (q_assignP rfl) rfl ?_
    refine r_nil ?_
    refine c_seq (c_region ?_)
    refine r_v (q_moveP rfl) rfl ?_; refine r_v (q_moveS rfl) rfl ?_
    refine r_c rfl (x_call rfl (xorv_Encode hT hu hn (by simp) h hr) ?_)
    rintro _ w ⟨rfl, h⟩
    rw [List.nil_append] at h
    refine r_nil ?_
    refine c_seq (c_region ?_)
    refine r_v (q_moveP rfl) rfl ?_
    refine r_c rfl (x_call rfl (bits_Bytes h (by omega)) ?_)
    rintro _ w ⟨a, c1, rfl, h⟩
    refine r_v (q_assignS rfl) rfl ?_; refine r_v (q_assignB rfl) rfl ?_
    refine r_nil ?_
    exact c_ret (bq2 ⟨a, c1, rfl, (h.f 1).drop⟩)
  have n1 : ¬ tag = 1 := by simpa using hc1
  refine c_seq (c_region ?_)
  refine r_v (q_eql rfl rfl) rfl ?_; refine r_v (q_assignB rfl) rfl ?_
  refine r_nil ?_
  refine c_cond (tag == 2) rfl (fun hc1 => ?_) (fun hc2 => ?_)
  ·
    have ht : tag = 2 := by simpa using hc1
    have e1 : valuesEnc tag u = (simpEnc (stepsL 0 u)).map bigL := by unfold valuesEnc; rw [if_neg n1, if_pos ht]
    rw [e1, (simp_big _).1, (simp_big _).2]
    have hsl := stepsL_len u 0
    refine c_seq (c_region ?_)
    refine r_v (q_moveS rfl) rfl ?_
    refine r_c rfl (x_call rfl (suit_steps hu hn hr h) ?_)
    rintro _ w ⟨a, c1, rfl, h⟩
    refine r_c rfl (x_call rfl (simp_Encode (stepsL_lt u 0) (by omega) h.own_cases.2.1 Reads.own h) ?_)
    rintro _ w ⟨a2, c2, rfl, h⟩
    refine r_v (q_moveT rfl) rfl ?_; refine r_v (q_ext rfl rfl) rfl ?_; refine r_v (q_ext rfl rfl) rfl ?_; refine r_v (q_assignS rfl) rfl ?_; refine r_v (q_assignB rfl) rfl ?_
    refine r_nil ?_
    obtain ⟨hl1, hl2⟩ := simpEnc_len (u := stepsL 0 u)
    refine c_seq (c_region ?_)
    refine r_v (q_moveS rfl) rfl ?_
    refine r_c rfl (x_call rfl (suit_big hl2 (by omega) Reads.own h) ?_)
    rintro _ w ⟨a3, c3, rfl, h⟩
    refine r_v (q_moveB rfl) rfl ?_; refine r_v (q_assignS rfl) rfl ?_; refine r_v (q_assignB rfl) rfl ?_
    refine r_nil ?_
    exact c_ret (bq2 ⟨a3, c3, rfl, ((h.f 1).drop.f 1).drop⟩)
  have n2 : ¬ tag = 2 := by simpa using hc2
  refine c_seq (c_region ?_)
  refine r_v (q_eql rfl rfl) rfl ?_; refine r_v (q_assignB rfl) rfl ?_
  refine r_nil ?_
  refine c_cond (tag == 3) rfl (fun hc1 => ?_) (fun hc3 => ?_)
  ·
    have ht : tag = 3 := by simpa using hc1
    have e1 : valuesEnc tag u = some (runsEnc u) := by unfold valuesEnc; rw [if_neg n1, if_neg n2, if_pos ht]
    rw [e1]
    refine c_seq (c_region ?_)
    refine r_v (q_moveS rfl) rfl ?_
    refine r_c rfl (x_call rfl (runl_Encode hu hn hc hr h) ?_)
    rintro _ w ⟨a, c1, rfl, h⟩
    refine r_v (q_assignS rfl) rfl ?_; refine r_v (q_assignB rfl) rfl ?_
    refine r_nil ?_
    exact c_ret (bq2 ⟨a, c1, rfl, h⟩)
  have n3 : ¬ tag = 3 := by simpa using hc3
  refine c_seq (c_region ?_)
  refine r_v (q_eql rfl rfl) rfl ?_; refine r_v (q_assignB rfl) rfl ?_
  refine r_nil ?_
  refine c_cond (tag == 4) rfl (fun hc1 => ?_) (fun hc4 => ?_)
  ·
    have ht : tag = 4 := by simpa using hc1
    have e1 : valuesEnc tag u = some (frameEnc u) := by unfold valuesEnc; rw [if_neg n1, if_neg n2, if_neg n3, if_pos ht]
    rw [e1]
    refine c_seq (c_region ?_)
    refine r_v (q_moveS rfl) rfl ?_
    refine r_c rfl (x_call rfl (forp_Encode hu hn hr h) ?_)
    rintro _ w ⟨a, c1, rfl, h⟩
    refine r_v (q_assignS rfl) rfl ?_; refine r_v (q_assignB rfl) rfl ?_
    refine r_nil ?_
    exact c_ret (bq2 ⟨a, c1, rfl, h⟩)
  have n4 : ¬ tag = 4 := by simpa using hc4
  refine c_seq (c_region ?_)
  refine r_v (q_eql rfl rfl) rfl ?_; refine r_v (q_assignB rfl) rfl ?_
  refine r_nil ?_
  refine c_cond (tag == 5) rfl (fun hc1 => ?_) (fun hc5 => ?_)
  ·
    have ht : tag = 5 := by simpa using hc1
    have e1 : valuesEnc tag u = dictEnc u := by unfold valuesEnc; rw [if_neg n1, if_neg n2, if_neg n3, if_neg n4, if_pos ht]
    rw [e1]
    refine c_seq (c_region ?_)
    refine r_v (q_moveS rfl) rfl ?_
    refine r_c rfl (x_call rfl (dict_Encode hu hn hr h) ?_)
    rintro _ w ⟨a, c1, rfl, h⟩
    refine r_v (q_ext rfl rfl) rfl ?_; refine r_v (q_ext rfl rfl) rfl ?_; refine r_v (q_assignS rfl) rfl ?_; refine r_v (q_assignB rfl) rfl ?_
    refine r_nil ?_
    exact c_ret (bq2 ⟨a, c1, rfl, h⟩)
  have n5 : ¬ tag = 5 := by simpa using hc5
  refine c_seq (c_region ?_)
  refine r_v (q_eql rfl rfl) rfl ?_; refine r_v (q_assignB rfl) rfl ?_
  refine r_nil ?_
  refine c_cond (tag == 6) rfl (fun hc1 => ?_) (fun hc6 => ?_)
  ·
    have ht : tag = 6 := by simpa using hc1
    have e1 : valuesEnc tag u = sameEnc u := by unfold valuesEnc; rw [if_neg n1, if_neg n2, if_neg n3, if_neg n4, if_neg n5, if_pos ht]
    rw [e1]
    refine c_seq (c_region ?_)
    refine r_v (q_moveS rfl) rfl ?_
    refine r_c rfl (x_call rfl (suit_same hu hn hr h) ?_)
    rintro _ w ⟨a, c1, rfl, h⟩
    refine r_v (q_ext rfl rfl) rfl ?_; refine r_v (q_ext rfl rfl) rfl ?_; refine r_v (q_assignS rfl) rfl ?_; refine r_v (q_assignB rfl) rfl ?_
    refine r_nil ?_
    exact c_ret (bq2 ⟨a, c1, rfl, h⟩)
  have n6 : ¬ tag = 6 := by simpa using hc6
  have e1 : valuesEnc tag u = none := by unfold valuesEnc; rw [if_neg n1, if_neg n2, if_neg n3, if_neg n4, if_neg n5, if_neg n6]
  rw [e1]
  refine c_skip ?_
  refine c_seq (c_region ?_)
  refine r_v (q_assignS rfl) rfl ?_; refine r_v (q_assignB rfl) rfl ?_
  refine r_nil ?_
  exact c_ret (bq2 ⟨none, 0, rfl, St.ownNil _ _ h⟩)

theorem suit_Rising {sl : Option Addr} {c : Nat} {L : List Smp} (hn : L.length ≤ 1073741824) (hr : Reads w0 l 2 sl L.length (smpsV L)) (h : St w0 l w) :
    Ret Tryd.prog 16 [.slice sl L.length c] w fun v w' => v = .bool (rising L) ∧ St w0 l w' := by
  refine enter Tryd.func16 rfl Tryd.results16 Tryd.ntmps16 rfl ?_
  refine c_seq (c_region ?_)
  refine r_v (q_assignB rfl) rfl ?_
  refine r_nil ?_
  refine c_seq (c_seq (c_region ?_))
  refine r_v (q_assignI rfl) rfl ?_
  refine r_nil ?_
  refine c_block ?_
  refine c_loop (Γ := Nat) (fun k => [(0, .slice sl L.length c), (3, .int .i64 ((k + 1 : Nat) : Int))]) (fun k w => (L = [] ∨ (k < L.length ∧ ∀ s, L[k]? = some s → rises L = risesA s.T (L.drop (k + 1)))) ∧ St w0 l w) (fun k => L.length - k) 0 ⟨rfl, rfl, trivial⟩ ⟨by
    cases L with
    | nil => exact .inl rfl
    | cons s r => exact .inr ⟨by simp, fun x hx => by simp at hx; subst hx; rfl⟩, h⟩ ?_
  clear h
  rintro k w e ⟨inv, h⟩
  refine c_seq (c_seq (c_region ?_))
  refine r_v (q_moveI rfl) rfl ?_; refine r_v (q_moveS rfl) rfl ?_; refine r_v (q_len rfl) rfl ?_; refine r_v (q_lss rfl rfl) rfl ?_
  by_cases hlt : k + 1 < L.length
  · refine r_is (.bool true) (by simp; omega) ?_
    refine r_nil (c_true rfl (c_skip ?_))
    rcases inv with inv | ⟨hk, inv⟩
    · rw [inv] at hlt; simp at hlt
    have hg0 := List.getElem?_eq_getElem hk
    have hg := List.getElem?_eq_getElem hlt
    have hdr := List.drop_eq_getElem_cons hlt
    generalize L[k + 1] = s1 at hg hdr
    have he := inv _ hg0
    generalize L[k] = s0 at hg0 he
    rw [hdr, risesA] at he
    obtain ⟨b, o, hsl⟩ := (hr.at_ h).some (by omega)
    have hat1 : ∀ {w'}, St w0 l w' → w'.cell? ⟨b, o + (k + 1) * 2 + 0, none⟩ = some (.int .i64 s1.T) := fun h' => (hsl ▸ hr.at_ h').elem smp_len hg 0 _ rfl
    have hat0 : ∀ {w'}, St w0 l w' → w'.cell? ⟨b, o + k * 2 + 0, none⟩ = some (.int .i64 s0.T) := fun h' => (hsl ▸ hr.at_ h').elem smp_len hg0 0 _ rfl
    refine c_seq (c_block ?_)
    refine c_seq (c_any none (fun w => St w0 _ w) (by kernel_rfl) (by kernel_rfl) h.drew fun w h => ?_)
    refine cur_pure rfl rfl rfl rfl (fun _ => h) (fun _ => flt_v rfl (q_moveS rfl)) ?_; refine cur_pure rfl rfl rfl rfl (fun _ => h) (fun _ => flt_v rfl (q_moveI rfl)) ?_
    refine cur_pure rfl rfl rfl rfl (fun _ => h) (fun _ => flt_v rfl (q_idx (b := b) (o := o) (m := L.length) (c := c) (o' := o + (k + 1) * 2) (by rw [← hsl]; rfl) rfl rfl hlt rfl)) ?_
    refine cur_pure rfl rfl rfl rfl (fun _ => h) (fun _ => flt_v rfl (q_fa rfl)) ?_
    refine cur_float rfl rfl rfl rfl h (fun w h => flt_v rfl (q_loadc (v := .int .i64 s1.T) rfl (hat1 h))) ?_
    refine cur_pure rfl rfl rfl rfl (fun _ => h) (fun _ => flt_v rfl (q_moveS rfl)) ?_; refine cur_pure rfl rfl rfl rfl (fun _ => h) (fun _ => flt_v rfl (q_moveI rfl)) ?_
    refine cur_pure rfl rfl rfl rfl (fun _ => h) (fun _ => flt_v rfl (q_is (v' := .int .i64 (k : Int)) (q_sub rfl rfl) (by rw [wrap64 (by omega) (by omega)]; congr 1; omega))) ?_
    refine cur_pure rfl rfl rfl rfl (fun _ => h) (fun _ => flt_v rfl (q_idx (b := b) (o := o) (m := L.length) (c := c) (o' := o + k * 2) (by rw [← hsl]; rfl) rfl rfl hk rfl)) ?_
    refine cur_pure rfl rfl rfl rfl (fun _ => h) (fun _ => flt_v rfl (q_fa rfl)) ?_
    refine cur_float rfl rfl rfl rfl h (fun w h => flt_v rfl (q_loadc (v := .int .i64 s0.T) rfl (hat0 h))) ?_
    refine cur_pure rfl rfl rfl rfl (fun _ => h) (fun _ => flt_v rfl (q_leq rfl rfl)) ?_
    refine cur_end ?_
    refine c_cond (decide (s1.T ≤ s0.T)) rfl (fun hc => ?_) (fun hc => ?_)
    ·
      refine c_seq (c_region ?_)
      refine r_v (q_assignB rfl) rfl ?_
      refine r_nil ?_
      refine c_ret (bq1 ⟨?_, h⟩)
      have : rising L = false := by
        unfold rising
        rw [he, show decide (s0.T < s1.T) = false by rw [decide_eq_true_eq] at hc; rw [decide_eq_false_iff_not]; omega]
        rfl
      rw [this]; rfl
    · rw [show decide (s0.T < s1.T) = true by rw [decide_eq_false_iff_not] at hc; rw [decide_eq_true_eq]; omega, Bool.true_and] at he
      refine c_skip ?_
      refine c_region ?_
      refine r_v (q_moveI rfl) rfl ?_; refine r_v (q_add rfl rfl) rfl ?_
      refine r_is (.int .i64 ((k + 1 + 1 : Nat) : Int)) (by rw [wrap64 (by omega) (by omega)]; rfl) ?_
      refine r_v (q_assignI rfl) rfl ?_
      refine r_nil ⟨k + 1, ⟨rfl, rfl, trivial⟩, ⟨.inr ⟨hlt, fun s hs => ?_⟩, h⟩, by omega⟩
      rw [hg] at hs; cases hs
      exact he
  refine r_is (.bool false) (by simp; omega) ?_
  refine r_nil (c_false rfl ?_)
  have hrise : rises L = true := by
    rcases inv with inv | ⟨hk, inv⟩
    · rw [inv]; rfl
    · have := inv _ (List.getElem?_eq_getElem hk)
      rw [this, show k + 1 = L.length by omega, List.drop_length]; rfl
  refine c_exit ?_
  refine c_seq (c_region ?_)
  refine r_v (q_moveS rfl) rfl ?_; refine r_v (q_len rfl) rfl ?_; refine r_v (q_leq rfl rfl) rfl ?_; refine r_v (q_assignB rfl) rfl ?_
  refine r_nil ?_
  refine c_ret (bq1 ⟨?_, h⟩)
  show Value.bool (decide ((L.length : Int) ≤ 65535)) = _
  unfold rising
  rw [hrise, Bool.true_and]
  congr 1
  rw [decide_eq_decide]
  omega

theorem suit_Encode (hT : Tz w0) (tag : Int) {sl : Option Addr} {c : Nat} {L : List Smp} (hw : ∀ s ∈ L, s.Wf) (hn : L.length ≤ 1073741824) (hr : Reads w0 l 2 sl L.length (smpsV L)) (h : St w0 l w) :
    Ret Tryd.prog 17 [.int .i64 tag, .slice sl L.length c] w fun v w' => ∃ a c', v = .tuple [.slice a ((suitEnc tag L).getD []).length c', .bool (suitEnc tag L).isSome].toArray ∧ St w0 (OwnB a c' ((suitEnc tag L).getD []) :: l) w' := by
  refine enter Tryd.func17 rfl Tryd.results17 Tryd.ntmps17 rfl ?_
  refine c_seq (c_region ?_)
  refine r_v (q_assignS rfl) rfl ?_; refine r_v (q_assignB rfl) rfl ?_
  refine r_nil ?_
  refine c_seq (c_seq (c_region ?_))
  refine r_v (q_moveS rfl) rfl ?_
  refine r_c rfl (x_call rfl (suit_Rising hn hr h) ?_)
  rintro _ w ⟨rfl, h⟩
  refine r_v (q_not rfl) rfl ?_
  refine r_nil ?_
  cases hrise : rising L with
  | false =>
    refine c_true rfl ?_
    refine c_seq (c_region ?_)
    refine r_v (q_assignS rfl) rfl ?_; refine r_v (q_assignB rfl) rfl ?_
    refine r_nil ?_
    have e1 : suitEnc tag L = none := by unfold suitEnc; rw [hrise]; rfl
    rw [e1]
    exact c_ret (bq2 ⟨none, 0, rfl, St.ownNil _ _ h⟩)
  | true =>
  have hn16 : L.length ≤ 65535 := by
    unfold rising at hrise
    simp only [Bool.and_eq_true, decide_eq_true_eq] at hrise
    exact hrise.2
  have e1 : suitEnc tag L = (valuesEnc tag (valsOf L)).map (suitBytes L) := by unfold suitEnc; rw [hrise, if_pos rfl]
  rw [e1]
  refine c_false rfl (c_skip ?_)
  refine c_seq (c_region ?_)
  refine r_v (q_assignS rfl) rfl ?_
  refine r_nil ?_
  refine c_seq (c_region ?_)
  refine r_v (q_assignS rfl) rfl ?_
  refine r_nil ?_
  refine c_seq (c_seq (c_region ?_))
  refine r_v (q_moveS rfl) rfl ?_; refine r_v (q_len rfl) rfl ?_; refine r_v (q_moveI rfl) rfl ?_
  refine r_nil ?_
  refine c_block ?_
  refine c_loop (Γ := Nat × (Option Addr × Nat) × (Option Addr × Nat)) (fun k => [(0, .int .i64 tag), (6, .slice k.2.1.1 (timesOf (L.take k.1)).length k.2.1.2), (7, .slice k.2.2.1 (valsOf (L.take k.1)).length k.2.2.2), (17, .slice sl L.length c), (18, .int .i64 L.length), (19, .int .i64 k.1)])
    (fun k w => k.1 ≤ L.length ∧ St w0 (Own 2 1 k.2.1.1 (timesOf (L.take k.1)).length k.2.1.2 (i64V (timesOf (L.take k.1))) :: OwnU k.2.2.1 k.2.2.2 (valsOf (L.take k.1)) :: l) w) (fun k => L.length - k.1) (0, (none, 0), (none, 0)) ⟨rfl, rfl, rfl, rfl, rfl, rfl, trivial⟩ ⟨Nat.zero_le _, St.ownNil _ _ (St.ownNil _ _ h)⟩ ?_
  clear h
  rintro ⟨k, ⟨ta, tc⟩, va, vc⟩ w e ⟨hk, h⟩
  dsimp only at hk h ⊢
  refine c_seq (c_region ?_)
  refine r_v (q_lss rfl rfl) rfl ?_
  refine r_nil ?_
  refine c_seq (c_cond (decide ((k : Int) < (L.length : Int))) rfl (fun hc => ?_) (fun hc => ?_))
  ·
    have hlt : k < L.length := by simp at hc; omega
    have hg := List.getElem?_eq_getElem hlt
    have hmem : L[k] ∈ L := List.getElem_mem _
    generalize L[k] = s at hg hmem
    obtain ⟨hs1, hs2, hs3⟩ := hw s hmem
    have ht1 : timesOf (L.take (k + 1)) = timesOf (L.take k) ++ [s.T] := by unfold timesOf; rw [List.take_add_one, hg, List.map_append]; rfl
    have hv1 : valsOf (L.take (k + 1)) = valsOf (L.take k) ++ [s.V.toNat] := by unfold valsOf; rw [List.take_add_one, hg, List.map_append]; rfl
    have htl : (timesOf (L.take k)).length = k := by simp [timesOf]; omega
    have hvl : (valsOf (L.take k)).length = k := by simp [valsOf]; omega
    have hsv : Value.int .u64 s.V = .int .u64 (s.V.toNat : Int) := by rw [Int.toNat_of_nonneg hs2]
    obtain ⟨b, o, hsl⟩ := ((hr.more [_, _]).at_ h).some (by omega)
    refine c_skip ?_
    refine c_cut (Γ := (Option Addr × Nat) × (Option Addr × Nat)) (fun q => [(0, .int .i64 tag), (6, .slice q.1.1 (timesOf (L.take k) ++ [s.T]).length q.1.2), (7, .slice q.2.1 (valsOf (L.take k) ++ [s.V.toNat]).length q.2.2), (17, .slice sl L.length c), (18, .int .i64 L.length), (19, .int .i64 k)])
      (fun q w => St w0 (Own 2 1 q.1.1 (timesOf (L.take k) ++ [s.T]).length q.1.2 (i64V (timesOf (L.take k) ++ [s.T])) :: OwnU q.2.1 q.2.2 (valsOf (L.take k) ++ [s.V.toNat]) :: l) w) ?_ ?_
    · refine c_block ?_
      refine c_seq (c_region ?_)
      refine r_v (q_idx (b := b) (o := o) (m := L.length) (c := c) (o' := o + k * 2) (by rw [← hsl]; rfl) rfl rfl hlt rfl) rfl ?_
      refine r_v (q_loadS (l := s.cells) rfl rfl ((hsl ▸ (hr.more [_, _]).at_ h).elem smp_len hg)) rfl ?_
      refine r_c rfl (x_alloc h fun b9 w h => ?_)
      refine r_c rfl (x_storeA (vs := s.cells) 0 h rfl rfl rfl rfl rfl rfl rfl fun w h => ?_)
      replace h : St w0 (pt b9 (.cells s.cells.toArray 25 (0, 0)) :: Own 2 1 ta (timesOf (L.take k)).length tc (i64V (timesOf (L.take k))) :: OwnU va vc (valsOf (L.take k)) :: l) w := h
      refine r_nil ?_
      refine c_anyW [0, 1, 2, 3, 4, 5, 6, 7, 8, 9, 10, 11] none (fun w => w.heap[b9]? = some (.cells s.cells.toArray 25 (0, 0))) (by kernel_rfl) (by kernel_rfl) ?_
      replace h := h.drew
      generalize w.drew = w at h
      have hs := h
      replace h := hs.b 0 rfl
      refine cur_pure rfl rfl rfl rfl (fun _ => h) (fun _ => flt_v rfl (q_moveS rfl)) ?_; refine cur_pure rfl rfl rfl rfl (fun _ => h) (fun _ => flt_v rfl (q_fa rfl)) ?_
      refine cur_float rfl rfl rfl rfl h (fun _ h => flt_v rfl (q_load (v := .int .i64 s.T) rfl h rfl)) ?_
      refine cur_skip ?_; refine cur_skip ?_; refine cur_pure rfl rfl rfl rfl (fun _ => h) (fun _ => flt_v rfl (q_moveS rfl)) ?_; refine cur_pure rfl rfl rfl rfl (fun _ => h) (fun _ => flt_v rfl (q_fa rfl)) ?_
      refine cur_float rfl rfl rfl rfl h (fun _ h => flt_v rfl (q_is (q_load (v := .int .u64 s.V) rfl h rfl) hsv)) ?_
      refine cur_skip ?_; refine cur_skip ?_; refine cur_skip ?_; refine cur_skip ?_
      refine cur_two 3 8 rfl rfl rfl rfl rfl rfl ?_ ?_
      · refine x_bslice (r := i64V [s.T]) hs rfl rfl rfl fun b1 w hs => ?_
        replace h := hs.b 1 rfl
        refine ⟨fun _ => h, ?_⟩
        refine cur_skip ?_; refine cur_skip ?_; refine cur_skip ?_; refine cur_skip ?_; refine cur_skip ?_
        refine cur_two 4 8 rfl rfl rfl rfl rfl rfl ?_ ?_
        · refine x_append' (ys := i64V [s.T]) (zs := i64V (timesOf (L.take k) ++ [s.T])) (m3 := (timesOf (L.take k) ++ [s.T]).length) (hs.f 2) rfl rfl ⟨rfl, .inr ⟨b1, 0, rfl, at_of (hs.b 0 rfl) rfl⟩⟩ (i64V_one _) (by simp) (by simp [i64V]) (by simp; omega) (by simp; omega) rfl fun ta' tc' w _ hs => ?_
          replace h := hs.b 2 rfl
          refine ⟨fun _ => h, ?_⟩
          refine cur_skip ?_; refine cur_skip ?_; refine cur_skip ?_; refine cur_skip ?_
          refine cur_one 8 rfl rfl rfl rfl ?_
          refine x_bslice (r := u64V [s.V.toNat]) hs rfl rfl rfl fun b2 w hs => ?_
          replace h := hs.b 3 rfl
          refine ⟨fun _ => h, ?_⟩
          refine cur_skip ?_; refine cur_skip ?_; refine cur_skip ?_
          refine cur_one 9 rfl rfl rfl rfl ?_
          refine x_append' (ys := u64V [s.V.toNat]) (zs := u64V (valsOf (L.take k) ++ [s.V.toNat])) (m3 := (valsOf (L.take k) ++ [s.V.toNat]).length) (hs.f 4) rfl rfl ⟨rfl, .inr ⟨b2, 0, rfl, at_of (hs.b 0 rfl) rfl⟩⟩ (u64V_one _) (by simp) (by simp [u64V]) (by simp; omega) (by simp; omega) rfl fun va' vc' w _ hs => ?_
          replace h := hs.b 4 rfl
          refine ⟨fun _ => h, ?_⟩
          refine cur_pure rfl rfl rfl rfl (fun _ => h) (fun _ => flt_v rfl (q_assignS rfl)) ?_; refine cur_pure rfl rfl rfl rfl (fun _ => h) (fun _ => flt_v rfl (q_assignS rfl)) ?_
          exact cur_end ⟨((ta', tc'), (va', vc')), ⟨rfl, rfl, rfl, rfl, rfl, rfl, trivial⟩, ((((hs.f 2).f 2).drop.f 2).drop.f 2).drop⟩
        · refine x_bslice (r := u64V [s.V.toNat]) hs rfl rfl rfl fun b2 w hs => ?_
          replace h := hs.b 2 rfl
          refine ⟨fun _ => h, ?_⟩
          refine cur_skip ?_; refine cur_skip ?_; refine cur_skip ?_; refine cur_skip ?_
          refine cur_one 4 rfl rfl rfl rfl ?_
          refine x_append' (ys := i64V [s.T]) (zs := i64V (timesOf (L.take k) ++ [s.T])) (m3 := (timesOf (L.take k) ++ [s.T]).length) (hs.f 3) rfl rfl ⟨rfl, .inr ⟨b1, 0, rfl, at_of (hs.b 1 rfl) rfl⟩⟩ (i64V_one _) (by simp) (by simp [i64V]) (by simp; omega) (by simp; omega) rfl fun ta' tc' w _ hs => ?_
          replace h := hs.b 3 rfl
          refine ⟨fun _ => h, ?_⟩
          refine cur_skip ?_; refine cur_skip ?_; refine cur_skip ?_
          refine cur_one 9 rfl rfl rfl rfl ?_
          refine x_append' (ys := u64V [s.V.toNat]) (zs := u64V (valsOf (L.take k) ++ [s.V.toNat])) (m3 := (valsOf (L.take k) ++ [s.V.toNat]).length) (hs.f 4) rfl rfl ⟨rfl, .inr ⟨b2, 0, rfl, at_of (hs.b 1 rfl) rfl⟩⟩ (u64V_one _) (by simp) (by simp [u64V]) (by simp; omega) (by simp; omega) rfl fun va' vc' w _ hs => ?_
          replace h := hs.b 4 rfl
          refine ⟨fun _ => h, ?_⟩
          refine cur_pure rfl rfl rfl rfl (fun _ => h) (fun _ => flt_v rfl (q_assignS rfl)) ?_; refine cur_pure rfl rfl rfl rfl (fun _ => h) (fun _ => flt_v rfl (q_assignS rfl)) ?_
          exact cur_end ⟨((ta', tc'), (va', vc')), ⟨rfl, rfl, rfl, rfl, rfl, rfl, trivial⟩, ((((hs.f 1).f 2).drop.f 2).drop.f 2).drop⟩
      · refine x_bslice (r := u64V [s.V.toNat]) hs rfl rfl rfl fun b2 w hs => ?_
        replace h := hs.b 1 rfl
        refine ⟨fun _ => h, ?_⟩
        refine cur_skip ?_; refine cur_skip ?_; refine cur_skip ?_; refine cur_skip ?_; refine cur_skip ?_
        refine cur_one 3 rfl rfl rfl rfl ?_
        refine x_bslice (r := i64V [s.T]) hs rfl rfl rfl fun b1 w hs => ?_
        replace h := hs.b 2 rfl
        refine ⟨fun _ => h, ?_⟩
        refine cur_skip ?_; refine cur_skip ?_; refine cur_skip ?_; refine cur_skip ?_
        refine cur_one 4 rfl rfl rfl rfl ?_
        refine x_append' (ys := i64V [s.T]) (zs := i64V (timesOf (L.take k) ++ [s.T])) (m3 := (timesOf (L.take k) ++ [s.T]).length) (hs.f 3) rfl rfl ⟨rfl, .inr ⟨b1, 0, rfl, at_of (hs.b 0 rfl) rfl⟩⟩ (i64V_one _) (by simp) (by simp [i64V]) (by simp; omega) (by simp; omega) rfl fun ta' tc' w _ hs => ?_
        replace h := hs.b 3 rfl
        refine ⟨fun _ => h, ?_⟩
        refine cur_skip ?_; refine cur_skip ?_; refine cur_skip ?_
        refine cur_one 9 rfl rfl rfl rfl ?_
        refine x_append' (ys := u64V [s.V.toNat]) (zs := u64V (valsOf (L.take k) ++ [s.V.toNat])) (m3 := (valsOf (L.take k) ++ [s.V.toNat]).length) (hs.f 4) rfl rfl ⟨rfl, .inr ⟨b2, 0, rfl, at_of (hs.b 2 rfl) rfl⟩⟩ (u64V_one _) (by simp) (by simp [u64V]) (by simp; omega) (by simp; omega) rfl fun va' vc' w _ hs => ?_
        replace h := hs.b 4 rfl
        refine ⟨fun _ => h, ?_⟩
        refine cur_pure rfl rfl rfl rfl (fun _ => h) (fun _ => flt_v rfl (q_assignS rfl)) ?_; refine cur_pure rfl rfl rfl rfl (fun _ => h) (fun _ => flt_v rfl (q_assignS rfl)) ?_
        exact cur_end ⟨((ta', tc'), (va', vc')), ⟨rfl, rfl, rfl, rfl, rfl, rfl, trivial⟩, ((((hs.f 1).f 2).drop.f 2).drop.f 2).drop⟩
    clear h
    rintro ⟨⟨ta, tc⟩, va, vc⟩ w e h
    dsimp only at h ⊢
    refine c_region ?_
    refine r_v (q_add rfl rfl) rfl ?_
    refine r_is (.int .i64 ((k + 1 : Nat) : Int)) (by rw [wrap64 (by omega) (by omega)]; rfl) ?_
    refine r_v (q_moveI rfl) rfl ?_
    refine r_nil ⟨(k + 1, (ta, tc), (va, vc)), ⟨rfl, ?_, ?_, rfl, rfl, rfl, trivial⟩, ⟨hlt, ?_⟩, by dsimp only; omega⟩
    · show Value.slice _ _ _ = Value.slice _ _ _
      rw [ht1]
    · show Value.slice _ _ _ = Value.slice _ _ _
      rw [hv1]
    · dsimp only
      rw [ht1, hv1]
      exact h
  have hkn : k = L.length := by simp at hc; omega
  rw [hkn, List.take_length] at h ⊢
  refine c_exit ?_
  have hvl : (valsOf L).length = L.length := by simp [valsOf]
  have htl : (timesOf L).length = L.length := by simp [timesOf]
  have htb := timesBits_len (timesOf L)
  have hvel := valuesEnc_len (tag := tag) (u := valsOf L) (by omega) (valsOf_lt hw)
  refine c_seq (c_region ?_)
  refine r_v (q_moveI rfl) rfl ?_; refine r_v (q_moveS rfl) rfl ?_
  refine r_c rfl (x_call rfl (suit_values hT tag (u := valsOf L) (valsOf_lt hw) (by omega) (h.f 1).own_cases.2.1 Reads.own.cons h) ?_)
  rintro _ w ⟨a1, c1, rfl, h⟩
  refine r_v (q_moveT rfl) rfl ?_; refine r_v (q_ext rfl rfl) rfl ?_; refine r_v (q_ext rfl rfl) rfl ?_; refine r_v (q_assignS rfl) rfl ?_; refine r_v (q_assignB rfl) rfl ?_
  refine r_nil ?_
  refine c_seq (c_seq (c_region ?_))
  refine r_v (q_moveB rfl) rfl ?_; refine r_v (q_not rfl) rfl ?_
  refine r_nil ?_
  cases hve : valuesEnc tag (valsOf L) with
  | none =>
    refine c_true rfl ?_
    refine c_seq (c_region ?_)
    refine r_v (q_assignS rfl) rfl ?_; refine r_v (q_assignB rfl) rfl ?_
    refine r_nil ?_
    exact c_ret (bq2 ⟨none, 0, rfl, St.ownNil _ _ h.drop.drop.drop⟩)
  | some vb =>
  rw [hve] at h hvel
  dsimp only [Option.getD_some] at h hvel
  refine c_false rfl (c_skip ?_)
  refine c_seq (c_region ?_)
  refine r_c rfl (x_call rfl (bits_NewWriter h) ?_)
  rintro _ w ⟨p, rfl, h⟩
  refine r_v (q_assignP rfl) rfl ?_
  refine r_nil ?_
  refine c_seq (c_region ?_)
  refine r_v (q_moveP rfl) rfl ?_; refine r_v (q_moveS rfl) rfl ?_
  refine r_c rfl (x_call rfl (time_Encode (ts := timesOf L) (timesOf_wf hw) (by omega) (by simp) h (fun bs' w' h' => (h'.f 2).own_rd)) ?_)
  rintro _ w ⟨rfl, h⟩
  rw [List.nil_append] at h
  refine r_nil ?_
  refine c_seq (c_region ?_)
  refine r_v (q_moveP rfl) rfl ?_
  refine r_c rfl (x_call rfl (bits_Bytes h (by omega)) ?_)
  rintro _ w ⟨a2, c2, rfl, h⟩
  refine r_v (q_assignS rfl) rfl ?_
  refine r_nil ?_
  have hpl := pack_len (timesBits (timesOf L))
  generalize hX : pack (timesBits (timesOf L)) = X at *
  have hvx := vput_len X.length
  have hsb : suitBytes L vb = vput X.length ++ (X ++ vb) := by unfold suitBytes; rw [hX]
  refine c_seq (c_region ?_)
  refine r_v (q_moveS rfl) rfl ?_; refine r_v (q_len rfl) rfl ?_; refine r_v (q_conv rfl) rfl ?_
  refine r_is (.int .u64 (X.length : Int)) (by rw [wrap_u64, Nat.mod_eq_of_lt (by omega)]) ?_
  refine r_c rfl (x_call rfl (vint_Put (bs := []) X.length (by omega) h (fun w' h' => Reads.nil.at_ h') (by simp)) ?_)
  rintro _ w ⟨a3, c3, rfl, h⟩
  rw [List.nil_append] at h ⊢
  refine r_v (q_moveS rfl) rfl ?_
  refine r_c rfl (x_append' (ys := bytesV X) (zs := bytesV (vput X.length ++ X)) (m3 := (vput X.length ++ X).length) h rfl rfl (h.f 1).own_rd (bytesV_one _) (by simp) (by simp [bytesV]) (by rw [List.length_append]; omega) (by rw [List.length_append]; omega) rfl fun a4 c4 w _ h => ?_)
  refine r_v (q_moveS rfl) rfl ?_
  refine r_c rfl (x_append' (ys := bytesV vb) (zs := bytesV (suitBytes L vb)) (m3 := (suitBytes L vb).length) h rfl rfl (h.f 3).own_rd (bytesV_one _) (by rw [hsb]; simp; omega) (by rw [hsb]; simp [bytesV]) (by rw [hsb, List.length_append, List.length_append]; omega) (by rw [hsb, List.length_append, List.length_append]; omega) rfl fun a5 c5 w _ h => ?_)
  refine r_v (q_assignS rfl) rfl ?_; refine r_v (q_assignB rfl) rfl ?_
  refine r_nil ?_
  refine c_ret (bq2 ⟨a5, c5, rfl, ?_⟩)
  exact (((((h.f 1).drop.f 1).drop.f 1).drop.f 1).drop.f 1).drop
end
end Go.Proofs.YtjjacchnalemaaaDoor
