/- What the proof of ChnkTells needs, part 5: plain lemmas, and what each function does. -/
import Derived.Test.YtjjacchnalemaaaGreatDoorQChnkTellsd
import Derived.KernelRfl
namespace Go.Hw
theorem xr_zero {win : Win} {was now : Nat} {V : List Nat} {r : List Bool} {s : RS} (hb : s.bad = false) (hs : s.rest = xorRest win was (now :: V) ++ r) (hx : now ^^^ was = 0) :
  s.get 1 = (0, ⟨xorRest win now V ++ r, false⟩) := by
 obtain ⟨rest, bad⟩ := s
 dsimp only at hb hs
 subst hb hs
 rw [xorRest, if_pos hx, List.append_assoc, RS.get_put]
theorem xr_one {win : Win} {was now : Nat} {V : List Nat} {r : List Bool} {s : RS} (hb : s.bad = false) (hs : s.rest = xorRest win was (now :: V) ++ r) (hx : now ^^^ was ≠ 0) : (s.get 1).1 = 1 ∧
  ((win.fits (now ^^^ was) = true ∧ (s.get 1).2.get 1 = (0, ⟨bitsOf ((now ^^^ was) / 2 ^ win.trail) win.long ++ (xorRest win now V ++ r), false⟩)) ∨
   (win.fits (now ^^^ was) = false ∧ (s.get 1).2.get 1 = (1, ⟨bitsOf (winOf (now ^^^ was)).lead 5 ++ (bitsOf ((winOf (now ^^^ was)).long - 1) 6 ++ (bitsOf ((now ^^^ was) / 2 ^ (winOf (now ^^^ was)).trail) (winOf (now ^^^ was)).long ++ (xorRest (winOf (now ^^^ was)) now V ++ r))), false⟩))) := by
 obtain ⟨rest, bad⟩ := s
 dsimp only at hb hs
 subst hb hs
 rw [xorRest, if_neg hx]
 by_cases hf : win.fits (now ^^^ was) = true
 ·rw [if_pos hf, show bitsOf 2 2 = bitsOf 1 1 ++ bitsOf 0 1 by decide]
  simp only [List.append_assoc]
  rw [RS.get_put]
  refine ⟨rfl, .inl ⟨hf, ?_⟩⟩
  dsimp only
  rw [RS.get_put]
 ·rw [if_neg hf, show bitsOf 3 2 = bitsOf 1 1 ++ bitsOf 1 1 by decide]
  simp only [List.append_assoc]
  rw [RS.get_put]
  refine ⟨rfl, .inr ⟨by simpa using hf, ?_⟩⟩
  dsimp only
  rw [RS.get_put]
def looseA : List Nat → Nat → List Nat
 | [], _ => []
 | x :: ws, room => if room = 0 then [] else
  unpackW (x % 1152921504606846976) (kindsL.getD (x / 1152921504606846976) (0, 0)).2 (min (kindsL.getD (x / 1152921504606846976) (0, 0)).1 room) ++ looseA ws (room - min (kindsL.getD (x / 1152921504606846976) (0, 0)).1 room)
theorem looseA_of : ∀ (ws : List Nat) (room : Nat) (r : List Nat), simpDecA ws room = some r → looseA ws room = r
 | [], _, r, h => by rw [simpDecA] at h; cases h; rfl
 | x :: ws, room, r, h => by
  rw [simpDecA] at h
  rw [looseA]
  split at h
  ·cases h
  ·rename_i hr
   rw [if_neg hr]
   obtain ⟨y, hy, rfl⟩ := Option.map_eq_some_iff.1 h
   rw [looseA_of ws _ y hy]
theorem looseA_zero : ∀ (ws : List Nat), looseA ws 0 = []
 | [] => rfl
 | x :: ws => by rw [looseA, if_pos rfl]
theorem unpackW_lt {x b m : Nat} (hb : b ≤ 60) : ∀ y ∈ unpackW x b m, y < 18446744073709551616 := by
 intro y hy
 simp only [unpackW, List.mem_map, List.mem_range] at hy
 obtain ⟨j, _, rfl⟩ := hy
 have h1 := Nat.mod_lt (x / 2 ^ (j * b)) (Nat.two_pow_pos b)
 have h2 : 2 ^ b ≤ 2 ^ 60 := Nat.pow_le_pow_right (by decide) hb
 omega
theorem unpackW_snoc (x b m : Nat) : unpackW x b (m + 1) = unpackW x b m ++ [x / 2 ^ (m * b) % 2 ^ b] := by simp [unpackW, List.range_succ]
theorem unpack_at {x j b : Nat} (h : j * b + b ≤ 60) : x % 1152921504606846976 / 2 ^ (j * b) % 2 ^ b = x / 2 ^ (j * b) % 2 ^ b := by
 have e : (1152921504606846976 : Nat) = 2 ^ (j * b) * 2 ^ (60 - j * b) := by rw [← Nat.pow_add, show j * b + (60 - j * b) = 60 by omega]
 rw [e, Nat.mod_mul_right_div_self]
 have e2 : 2 ^ (60 - j * b) = 2 ^ b * 2 ^ (60 - j * b - b) := by rw [← Nat.pow_add]; congr 1; omega
 rw [e2, Nat.mod_mul_right_mod]
end Go.Hw
namespace Go.Proofs.YtjjacchnalemaaaGreatDoor
open Go.Hw
set_option maxHeartbeats 8000000
set_option maxRecDepth 100000
section
variable {w0 w : World} {l : List HProp}
theorem ref4_GetValues {p : Nat} {a : Option Addr} {c : Nat} {B : List UInt8} (n : Int) (hB : B.length ≤ 140737488355328) (hr : Reads w0 l 1 a B.length (bytesV B)) (h : St w0 (RrPt p a B.length c 0 false :: l) w) :
  Ret Tryz.prog 94 [.pointer (some ⟨p, 0, none⟩), .int .i64 n] w fun v w' => ∃ ok vs va vc, v = .tuple [.slice va vs.length vc, .bool ok].toArray ∧ (∀ x ∈ vs, x < 18446744073709551616) ∧
   (∀ V r, (∀ x ∈ V, x < 18446744073709551616) → V.length = askN n → bitsB B = xorBits V ++ r → ok = true ∧ vs = V) ∧ St w0 (OwnU va vc vs :: l) w' := by
 have hm := askN_le n
 have hbl := bitsB_len B
 refine enter Tryz.func94 rfl Tryz.results94 Tryz.ntmps94 rfl ?_
 refine c_seq (c_region ?_)
 refine r_v (q_assignS rfl) rfl ?_; refine r_v (q_assignB rfl) rfl ?_
 refine r_nil ?_
 refine c_seq (c_region ?_)
 refine r_v (q_moveI rfl) rfl ?_
 refine r_c rfl (x_call rfl (ref4_held n h) ?_)
 rintro _ w ⟨rfl, h⟩
 generalize askN n = m at hm ⊢
 refine r_v (q_assignI rfl) rfl ?_
 refine r_nil ?_
 refine c_seq (c_region ?_)
 refine r_v (q_moveP rfl) rfl ?_; refine r_v (q_nil rfl) rfl ?_; refine r_v (q_fa rfl) rfl ?_; refine r_v (q_load rfl (h.b 0) rfl) rfl ?_; refine r_v (q_assignI rfl) rfl ?_
 refine r_nil ?_
 refine c_seq (c_region ?_)
 refine r_v (q_assignS rfl) rfl ?_
 refine r_nil ?_
 refine c_seq (c_region ?_)
 refine r_v (q_assignB rfl) rfl ?_; refine r_v (q_assignI rfl) rfl ?_; refine r_v (q_assignI rfl) rfl ?_
 refine r_nil ?_
 replace h : St w0 (RrS p a c B ⟨bitsB B, false⟩ :: l) w := by
  show St w0 (RrPt p a B.length c (8 * B.length - (bitsB B).length) false :: l) w
  rw [hbl, Nat.sub_self]; exact h
 have none_ok : ∀ {w' : World}, (∀ V r, (∀ x ∈ V, x < 18446744073709551616) → V.length = m → bitsB B = xorBits V ++ r → False) → St w0 l w' → ∃ ok vs va vc, Value.tuple [.slice none 0 0, .bool false].toArray = .tuple [.slice va (vs : List Nat).length vc, .bool ok].toArray ∧ (∀ x ∈ vs, x < 18446744073709551616) ∧
   (∀ V r, (∀ x ∈ V, x < 18446744073709551616) → V.length = m → bitsB B = xorBits V ++ r → ok = true ∧ vs = V) ∧ St w0 (OwnU va vc vs :: l) w' := fun hno h' =>
  ⟨false, [], none, 0, rfl, (fun _ h => by cases h), fun V r h1 h2 h3 => (hno V r h1 h2 h3).elim, St.ownNil _ _ h'⟩
 refine c_cut (Γ := List Nat × RS × Option Addr × Nat) (fun q => [(0, .pointer (some ⟨p, 0, none⟩)), (6, .int .i64 0), (7, .slice q.2.2.1 q.1.length q.2.2.2)])
  (fun q w => q.1.length ≤ m ∧ (∀ x ∈ q.1, x < 18446744073709551616) ∧ Suf B q.2.1 ∧ (∀ V r, (∀ x ∈ V, x < 18446744073709551616) → V.length = m → bitsB B = xorBits V ++ r → q.2.1.bad = false ∧ q.1 = V ∧ q.2.1.rest = r) ∧ St w0 (OwnU q.2.2.1 q.2.2.2 q.1 :: RrS p a c B q.2.1 :: l) w) ?_ ?_
 ·refine c_seq (c_region ?_)
  refine r_v (q_assignI rfl) rfl ?_
  refine r_nil ?_
  refine c_block ?_
  refine c_loop (Γ := Nat × List Nat × Win × RS × Option Addr × Nat) (fun k => [(0, .pointer (some ⟨p, 0, none⟩)), (1, .int .i64 m), (6, .int .i64 0), (7, .slice k.2.2.2.2.1 k.2.1.length k.2.2.2.2.2), (8, .bool k.2.2.1.is), (9, .int .i64 k.2.2.1.lead), (10, .int .i64 k.2.2.1.trail), (11, .int .i64 k.1)])
   (fun k w => k.1 ≤ m ∧ k.2.1.length = k.1 ∧ WinOk k.2.2.1 ∧ Suf B k.2.2.2.1 ∧ (∀ x ∈ k.2.1, x < 18446744073709551616) ∧ (k.1 = 0 → k.2.2.1 = ⟨false, 0, 0⟩ ∧ k.2.2.2.1 = ⟨bitsB B, false⟩) ∧
    (0 < k.1 → ∀ V r, (∀ x ∈ V, x < 18446744073709551616) → V.length = m → bitsB B = xorBits V ++ r → k.2.2.2.1.bad = false ∧ k.2.1 = V.take k.1 ∧ k.2.2.2.1.rest = xorRest k.2.2.1 (V.getD (k.1 - 1) 0) (V.drop k.1) ++ r) ∧
    St w0 (OwnU k.2.2.2.2.1 k.2.2.2.2.2 k.2.1 :: RrS p a c B k.2.2.2.1 :: l) w) (fun k => m - k.1) (0, [], ⟨false, 0, 0⟩, ⟨bitsB B, false⟩, none, 0) ⟨rfl, rfl, rfl, rfl, rfl, rfl, rfl, rfl, trivial⟩
    ⟨Nat.zero_le _, rfl, (show (0 : Nat) + 0 ≤ 63 by decide), Suf.all B, (fun _ h => by cases h), fun _ => ⟨rfl, rfl⟩, (fun h => absurd h (by decide : ¬ (0 : Nat) < 0)), St.ownNil _ _ h⟩ ?_
  clear h
  rintro ⟨i, out, win, s, oa, oc⟩ w e ⟨hi, hol, hwo, hs, hlt64, h00, hnz, h⟩
  dsimp only at hi hol hwo hs hlt64 h00 hnz h ⊢
  have stop : ¬ (i < m ∧ s.bad = false) → ∀ V r, (∀ x ∈ V, x < 18446744073709551616) → V.length = m → bitsB B = xorBits V ++ r → s.bad = false ∧ out = V ∧ s.rest = r := by
   intro hno V r h1 h2 h3
   rcases Nat.eq_zero_or_pos i with h0 | h0
   ·obtain ⟨_, e1⟩ := h00 h0
    have : m = 0 := by
     rcases Nat.eq_zero_or_pos m with h | h
     ·exact h
     ·exact absurd ⟨by omega, by rw [e1]⟩ hno
    have hV : V = [] := List.eq_nil_of_length_eq_zero (by omega)
    subst hV
    rw [e1]
    exact ⟨rfl, List.eq_nil_of_length_eq_zero (by omega), by rw [h3]; rfl⟩
   ·obtain ⟨k1, k2, k3⟩ := hnz h0 V r h1 h2 h3
    have him : i = m := by
     rcases Nat.lt_or_ge i m with h | h
     ·exact absurd ⟨h, k1⟩ hno
     ·omega
    rw [him, ← h2, List.take_length] at k2
    rw [him, ← h2, List.drop_length] at k3
    exact ⟨k1, k2, by rw [k3]; rfl⟩
  refine c_seq (c_seq (c_region ?_))
  refine r_v (q_moveI rfl) rfl ?_; refine r_v (q_moveI rfl) rfl ?_; refine r_v (q_lss rfl rfl) rfl ?_
  by_cases hlt : i < m
  ·refine r_is (.bool true) (by simp; omega) ?_
   refine r_v (q_moveB rfl) rfl ?_; refine r_gd rfl rfl ?_; refine r_v (q_moveP rfl) rfl ?_; refine r_gd rfl rfl ?_; refine r_v (q_nil rfl) rfl ?_; refine r_gd rfl rfl ?_; refine r_v (q_fa rfl) rfl ?_; refine r_gd rfl rfl ?_
   refine r_v (q_load (v := .bool s.bad) rfl (h.b 1 rfl) rfl) rfl ?_
   cases hbad : s.bad with
   | true =>
    refine r_gd rfl rfl ?_; refine r_v (q_not rfl) rfl ?_; refine r_v (q_pick1 rfl rfl rfl) rfl ?_
    have t1 := stop (by rw [hbad]; simp)
    exact r_nil (c_false rfl (c_exit ⟨(out, s, oa, oc), ⟨rfl, rfl, rfl, trivial⟩, by dsimp only; omega, hlt64, hs, t1, h⟩))
   | false =>
   refine r_gd rfl rfl ?_; refine r_v (q_not rfl) rfl ?_; refine r_v (q_pick1 rfl rfl rfl) rfl ?_
   refine r_nil (c_true rfl (c_skip ?_))
   refine c_cut (Γ := List Nat × Win × RS × Option Addr × Nat) (fun k => [(0, .pointer (some ⟨p, 0, none⟩)), (1, .int .i64 m), (6, .int .i64 0), (7, .slice k.2.2.2.1 k.1.length k.2.2.2.2), (8, .bool k.2.1.is), (9, .int .i64 k.2.1.lead), (10, .int .i64 k.2.1.trail), (11, .int .i64 i)])
    (fun k w => k.1.length = i + 1 ∧ WinOk k.2.1 ∧ Suf B k.2.2.1 ∧ (∀ x ∈ k.1, x < 18446744073709551616) ∧
     (∀ V r, (∀ x ∈ V, x < 18446744073709551616) → V.length = m → bitsB B = xorBits V ++ r → k.2.2.1.bad = false ∧ k.1 = V.take (i + 1) ∧ k.2.2.1.rest = xorRest k.2.1 (V.getD i 0) (V.drop (i + 1)) ++ r) ∧
     St w0 (OwnU k.2.2.2.1 k.2.2.2.2 k.1 :: RrS p a c B k.2.2.1 :: l) w) ?_ ?_
   ·refine c_block ?_
    refine c_seq (c_seq (c_region ?_))
    refine r_v (q_moveI rfl) rfl ?_; refine r_v (q_eql rfl rfl) rfl ?_
    by_cases hi0 : i = 0
    ·refine r_is (.bool true) (by subst hi0; rfl) ?_
     refine r_nil (c_true rfl ?_)
     obtain ⟨e1, e2⟩ := h00 hi0
     have hout : out = [] := List.eq_nil_of_length_eq_zero (by omega)
     refine c_seq (c_region ?_)
     refine r_v (q_moveS rfl) rfl ?_; refine r_v (q_moveP rfl) rfl ?_
     refine r_c rfl (x_call rfl (rr_Get 64 hs hB hr.cons (h.f 1)) ?_)
     rintro _ w ⟨rfl, h⟩
     rw [show heldN 64 = 64 from rfl] at h ⊢
     have hg64 := RS.get_lt s 64
     refine r_app1 (v := .int .u64 ((s.get 64).1 : Nat)) (m3 := (out ++ [(s.get 64).1]).length) (zs := u64V (out ++ [(s.get 64).1])) (h.f 1) rfl rfl rfl rfl rfl (by simp) (by simp [u64V, vcells]) (by simp; omega) (by simp; omega) rfl rfl rfl rfl rfl fun b2 a2 c2 w _ h => ?_
     refine r_v (q_assignS rfl) rfl ?_
     refine r_nil ?_
     refine c_exit ⟨(out ++ [(s.get 64).1], win, (s.get 64).2, a2, c2), ⟨rfl, rfl, rfl, rfl, rfl, rfl, rfl, rfl, trivial⟩, by simp; omega, hwo, hs.get 64, ?_, ?_, h⟩
     ·intro x hx
      rw [hout] at hx
      have : x = (s.get 64).1 := by simpa using hx
      rw [this]; exact hg64
     ·intro V r h1 h2 h3
      cases V with
      | nil => simp at h2; omega
      | cons v V =>
      have hv := h1 v (List.mem_cons_self ..)
      have hst : s.get 64 = (v, ⟨xorRest ⟨false, 0, 0⟩ v V ++ r, false⟩) := by
       rw [e2, h3, xorBits, List.append_assoc, RS.get_put, Nat.mod_eq_of_lt hv]
      dsimp only
      rw [hst, hout, hi0, e1]
      exact ⟨rfl, rfl, rfl⟩
    refine r_is (.bool false) (by simp; omega) ?_
    refine r_nil (c_false rfl (c_skip ?_))
    have hyp := hnz (by omega)
    have hgl : out[i - 1]? = some (out.getD (i - 1) 0) := by rw [List.getD, List.getElem?_eq_getElem (by omega)]; rfl
    have hlast := hlt64 _ (List.mem_of_getElem? hgl)
    have hwas : ∀ V r, (∀ x ∈ V, x < 18446744073709551616) → V.length = m → bitsB B = xorBits V ++ r → ∃ now V', V.drop i = now :: V' ∧ V.drop (i + 1) = V' ∧ V.getD i 0 = now ∧ V.getD (i - 1) 0 = out.getD (i - 1) 0 ∧ now < 18446744073709551616 ∧ V.take (i + 1) = out ++ [now] ∧ s.rest = xorRest win (out.getD (i - 1) 0) (now :: V') ++ r := by
     intro V r h1 h2 h3
     obtain ⟨k1, k2, k3⟩ := hyp V r h1 h2 h3
     have hdr := List.drop_eq_getElem_cons (show i < V.length by omega)
     have hgv := List.getElem?_eq_getElem (show i < V.length by omega)
     have hge : V.getD (i - 1) 0 = out.getD (i - 1) 0 := by
      rw [List.getD, List.getD, k2, List.getElem?_take, if_pos (by omega)]
     refine ⟨V[i]'(by omega), V.drop (i + 1), hdr, rfl, by rw [List.getD, hgv]; rfl, hge, h1 _ (List.getElem_mem _), ?_, ?_⟩
     ·rw [List.take_add_one, hgv]
      exact congrArg (· ++ [V[i]'(by omega)]) k2.symm
     ·rw [k3, hge, hdr]
    generalize out.getD (i - 1) 0 = was at hgl hlast hwas
    refine c_seq (c_region ?_)
    refine r_v (q_assignI rfl) rfl ?_
    refine r_nil ?_
    refine c_cut (Γ := Win × RS × Nat) (fun k => [(0, .pointer (some ⟨p, 0, none⟩)), (1, .int .i64 m), (6, .int .i64 0), (7, .slice oa out.length oc), (8, .bool k.1.is), (9, .int .i64 k.1.lead), (10, .int .i64 k.1.trail), (11, .int .i64 i), (12, .int .u64 k.2.2)])
     (fun k w => WinOk k.1 ∧ Suf B k.2.1 ∧ k.2.2 < 18446744073709551616 ∧ (∀ V r, (∀ x ∈ V, x < 18446744073709551616) → V.length = m → bitsB B = xorBits V ++ r → k.2.1.bad = false ∧ k.2.2 = V.getD i 0 ^^^ was ∧ k.2.1.rest = xorRest k.1 (V.getD i 0) (V.drop (i + 1)) ++ r) ∧ St w0 (RrS p a c B k.2.1 :: OwnU oa oc out :: l) w) ?_ ?_
    ·refine c_seq (c_region ?_)
     refine r_v (q_moveP rfl) rfl ?_
     refine r_c rfl (x_call rfl (rr_Get 1 hs hB hr.cons (h.f 1)) ?_)
     rintro _ w ⟨rfl, h⟩
     rw [heldN_one] at h ⊢
     have hs1 := hs.get 1
     refine r_v (q_eql rfl rfl) rfl ?_
     by_cases hg1 : (s.get 1).1 = 1
     ·refine r_is (.bool true) (by rw [hg1]; rfl) ?_
      refine r_nil (c_true rfl ?_)
      have hwas1 : ∀ V r, (∀ x ∈ V, x < 18446744073709551616) → V.length = m → bitsB B = xorBits V ++ r → V.getD i 0 ^^^ was ≠ 0 := by
       intro V r h1 h2 h3 h0
       obtain ⟨now, V', k1, k2, k3, k4, k5, k6, k7⟩ := hwas V r h1 h2 h3
       rw [k3] at h0
       rw [xr_zero hbad k7 h0] at hg1
       cases hg1
      refine c_cut (Γ := Win × RS) (fun k => [(0, .pointer (some ⟨p, 0, none⟩)), (1, .int .i64 m), (6, .int .i64 0), (7, .slice oa out.length oc), (8, .bool k.1.is), (9, .int .i64 k.1.lead), (10, .int .i64 k.1.trail), (11, .int .i64 i)])
       (fun k w => WinOk k.1 ∧ Suf B k.2 ∧ (∀ V r, (∀ x ∈ V, x < 18446744073709551616) → V.length = m → bitsB B = xorBits V ++ r → k.1.lead ≤ (winOf (V.getD i 0 ^^^ was)).lead ∧ k.1.trail ≤ (winOf (V.getD i 0 ^^^ was)).trail ∧ k.2 = ⟨bitsOf ((V.getD i 0 ^^^ was) / 2 ^ k.1.trail) k.1.long ++ (xorRest k.1 (V.getD i 0) (V.drop (i + 1)) ++ r), false⟩) ∧ St w0 (RrS p a c B k.2 :: OwnU oa oc out :: l) w) ?_ ?_
      ·refine c_seq (c_region ?_)
       refine r_v (q_moveP rfl) rfl ?_
       refine r_c rfl (x_call rfl (rr_Get 1 hs1 hB hr.cons h) ?_)
       rintro _ w ⟨rfl, h⟩
       rw [heldN_one] at h ⊢
       have hs2 := hs1.get 1
       have two : ∀ V r, (∀ x ∈ V, x < 18446744073709551616) → V.length = m → bitsB B = xorBits V ++ r → (win.fits (V.getD i 0 ^^^ was) = true ∧ (s.get 1).2.get 1 = (0, ⟨bitsOf ((V.getD i 0 ^^^ was) / 2 ^ win.trail) win.long ++ (xorRest win (V.getD i 0) (V.drop (i + 1)) ++ r), false⟩)) ∨
         (win.fits (V.getD i 0 ^^^ was) = false ∧ (s.get 1).2.get 1 = (1, ⟨bitsOf (winOf (V.getD i 0 ^^^ was)).lead 5 ++ (bitsOf ((winOf (V.getD i 0 ^^^ was)).long - 1) 6 ++ (bitsOf ((V.getD i 0 ^^^ was) / 2 ^ (winOf (V.getD i 0 ^^^ was)).trail) (winOf (V.getD i 0 ^^^ was)).long ++ (xorRest (winOf (V.getD i 0 ^^^ was)) (V.getD i 0) (V.drop (i + 1)) ++ r))), false⟩)) := by
        intro V r h1 h2 h3
        obtain ⟨now, V', k1, k2, k3, k4, k5, k6, k7⟩ := hwas V r h1 h2 h3
        rw [k3, k2]
        exact (xr_one hbad k7 (by rw [← k3]; exact hwas1 V r h1 h2 h3)).2
       generalize hq : (s.get 1).2.get 1 = q at *
       obtain ⟨g2, s2⟩ := q
       dsimp only at hs2 h ⊢
       refine r_v (q_eql rfl rfl) rfl ?_
       by_cases hg2 : g2 = 1
       ·refine r_is (.bool true) (by rw [hg2]; rfl) ?_
        refine r_nil (c_true rfl ?_)
        refine c_seq (c_region ?_)
        refine r_v (q_moveP rfl) rfl ?_
        refine r_c rfl (x_call rfl (rr_Get 5 hs2 hB hr.cons h) ?_)
        rintro _ w ⟨rfl, h⟩
        rw [show heldN 5 = 5 from rfl] at h ⊢
        have hs3 := hs2.get 5
        have hg5 := RS.get_lt s2 5
        refine r_v (q_conv rfl) rfl ?_
        refine r_is (.int .i64 ((s2.get 5).1 : Nat)) (by rw [wrap64 (by omega) (by omega)]) ?_
        refine r_v (q_assignI rfl) rfl ?_
        refine r_nil ?_
        refine c_seq (c_region ?_)
        refine r_v (q_moveP rfl) rfl ?_
        refine r_c rfl (x_call rfl (rr_Get 6 hs3 hB hr.cons h) ?_)
        rintro _ w ⟨rfl, h⟩
        rw [show heldN 6 = 6 from rfl] at h ⊢
        have hs4 := hs3.get 6
        have hg6 := RS.get_lt (s2.get 5).2 6
        refine r_v (q_conv rfl) rfl ?_
        refine r_is (.int .i64 (((s2.get 5).2.get 6).1 : Nat)) (by rw [wrap64 (by omega) (by omega)]) ?_
        refine r_v (q_add rfl rfl) rfl ?_
        refine r_is (.int .i64 ((((s2.get 5).2.get 6).1 + 1 : Nat) : Int)) (by rw [wrap64 (by omega) (by omega)]; rfl) ?_
        refine r_v (q_assignI rfl) rfl ?_
        refine r_nil ?_
        have three : ∀ V r, (∀ x ∈ V, x < 18446744073709551616) → V.length = m → bitsB B = xorBits V ++ r → (s2.get 5).1 = (winOf (V.getD i 0 ^^^ was)).lead ∧ ((s2.get 5).2.get 6).1 + 1 = (winOf (V.getD i 0 ^^^ was)).long ∧ (winOf (V.getD i 0 ^^^ was)).lead + (winOf (V.getD i 0 ^^^ was)).trail + (winOf (V.getD i 0 ^^^ was)).long = 64 ∧
          ((s2.get 5).2.get 6).2 = ⟨bitsOf ((V.getD i 0 ^^^ was) / 2 ^ (winOf (V.getD i 0 ^^^ was)).trail) (winOf (V.getD i 0 ^^^ was)).long ++ (xorRest (winOf (V.getD i 0 ^^^ was)) (V.getD i 0) (V.drop (i + 1)) ++ r), false⟩ := by
         intro V r h1 h2 h3
         obtain ⟨now, V', k1, k2, k3, k4, k5, k6, k7⟩ := hwas V r h1 h2 h3
         have hx : V.getD i 0 ^^^ was < 18446744073709551616 := Nat.xor_lt_two_pow (n := 64) (by rw [k3]; exact k5) hlast
         obtain ⟨l1, l2, l3, l4⟩ := winOf_long (hwas1 V r h1 h2 h3) hx
         rcases two V r h1 h2 h3 with ⟨_, hq⟩ | ⟨_, hq⟩
         ·have hh := congrArg Prod.fst hq; dsimp only at hh; omega
         ·have hh := congrArg Prod.snd hq
          dsimp only at hh
          rw [hh, RS.get_put]
          dsimp only
          rw [RS.get_put]
          dsimp only
          rw [Nat.mod_eq_of_lt (by omega), Nat.mod_eq_of_lt (by omega)]
          exact ⟨rfl, by omega, l1, rfl⟩
        generalize (s2.get 5).1 = la at *
        generalize hQ : (s2.get 5).2.get 6 = Q at *
        obtain ⟨lb, s4⟩ := Q
        dsimp only at hs4 h hg6 three ⊢
        refine c_seq (c_seq (c_region ?_))
        refine r_v (q_moveI rfl) rfl ?_; refine r_v (q_moveI rfl) rfl ?_; refine r_v (q_add rfl rfl) rfl ?_
        refine r_is (.int .i64 ((la + (lb + 1) : Nat) : Int)) (by rw [wrap64 (by omega) (by omega)]; congr 1) ?_
        refine r_v (q_gtr rfl rfl) rfl ?_
        by_cases h64 : la + (lb + 1) > 64
        ·refine r_is (.bool true) (by congr 1; rw [decide_eq_true_eq]; omega) ?_
         refine r_nil (c_true rfl ?_)
         refine c_seq (c_region ?_)
         refine r_v (q_assignS rfl) rfl ?_; refine r_v (q_assignB rfl) rfl ?_
         refine r_nil (c_ret (bq2 (none_ok ?_ h.drop.drop)))
         intro V r h1 h2 h3
         obtain ⟨k1, k2, k3, _⟩ := three V r h1 h2 h3
         omega
        ·refine r_is (.bool false) (by congr 1; rw [decide_eq_false_iff_not]; omega) ?_
         refine r_nil (c_false rfl (c_skip ?_))
         refine c_region ?_
         refine r_v (q_moveI rfl) rfl ?_; refine r_v (q_sub rfl rfl) rfl ?_
         refine r_is (.int .i64 ((64 - la : Nat) : Int)) (by rw [wrap64 (by omega) (by omega)]; congr 1; omega) ?_
         refine r_v (q_moveI rfl) rfl ?_; refine r_v (q_sub rfl rfl) rfl ?_
         refine r_is (.int .i64 ((64 - la - (lb + 1) : Nat) : Int)) (by rw [wrap64 (by omega) (by omega)]; congr 1; omega) ?_
         refine r_v (q_assignB rfl) rfl ?_; refine r_v (q_assignI rfl) rfl ?_
         refine r_nil ⟨(⟨true, la, 64 - la - (lb + 1)⟩, s4), ⟨rfl, rfl, rfl, rfl, rfl, rfl, rfl, rfl, trivial⟩, by unfold WinOk; dsimp only; omega, hs4, ?_, h⟩
         intro V r h1 h2 h3
         obtain ⟨k1, k2, k3, k4⟩ := three V r h1 h2 h3
         dsimp only at k4 ⊢
         have hwe : (⟨true, la, 64 - la - (lb + 1)⟩ : Win) = winOf (V.getD i 0 ^^^ was) := by
          show _ = Win.mk true (winOf (V.getD i 0 ^^^ was)).lead (winOf (V.getD i 0 ^^^ was)).trail
          congr 1
          omega
         have ht : 64 - la - (lb + 1) = (winOf (V.getD i 0 ^^^ was)).trail := by omega
         rw [hwe, k4, ht]
         exact ⟨by omega, Nat.le_refl _, rfl⟩
       ·refine r_is (.bool false) (by congr 1; rw [beq_eq_false_iff_ne]; omega) ?_
        refine r_nil (c_false rfl ?_)
        have four : ∀ V r, (∀ x ∈ V, x < 18446744073709551616) → V.length = m → bitsB B = xorBits V ++ r → win.fits (V.getD i 0 ^^^ was) = true ∧ s2 = ⟨bitsOf ((V.getD i 0 ^^^ was) / 2 ^ win.trail) win.long ++ (xorRest win (V.getD i 0) (V.drop (i + 1)) ++ r), false⟩ := by
         intro V r h1 h2 h3
         rcases two V r h1 h2 h3 with ⟨k1, hq⟩ | ⟨_, hq⟩
         ·exact ⟨k1, congrArg Prod.snd hq⟩
         ·exact absurd (congrArg Prod.fst hq) hg2
        refine c_seq (c_region ?_)
        refine r_v (q_moveB rfl) rfl ?_; refine r_v (q_not rfl) rfl ?_
        cases hwi : win.is with
        | false =>
         refine r_nil (c_true rfl ?_)
         refine c_seq (c_region ?_)
         refine r_v (q_assignS rfl) rfl ?_; refine r_v (q_assignB rfl) rfl ?_
         refine r_nil (c_ret (bq2 (none_ok ?_ h.drop.drop)))
         intro V r h1 h2 h3
         have := (fits_le (four V r h1 h2 h3).1).1
         rw [hwi] at this; cases this
        | true =>
         refine r_nil (c_false rfl (c_skip ⟨(win, s2), ⟨rfl, rfl, rfl, rfl, hwi.symm ▸ rfl, rfl, rfl, rfl, trivial⟩, hwo, hs2, ?_, h⟩))
         intro V r h1 h2 h3
         obtain ⟨k1, k2⟩ := four V r h1 h2 h3
         obtain ⟨_, k3, k4⟩ := fits_le k1
         exact ⟨k3, k4, k2⟩
      clear h
      rintro ⟨wn, s2⟩ w e ⟨hwn, hs2, hx2, h⟩
      dsimp only at hwn hs2 hx2 h ⊢
      have hwn2 := hwn
      unfold WinOk at hwn2
      refine c_region ?_
      refine r_v (q_moveP rfl) rfl ?_; refine r_v (q_moveI rfl) rfl ?_; refine r_v (q_sub rfl rfl) rfl ?_
      refine r_is (.int .i64 ((64 - wn.lead : Nat) : Int)) (by rw [wrap64 (by omega) (by omega)]; congr 1; omega) ?_
      refine r_v (q_moveI rfl) rfl ?_; refine r_v (q_sub rfl rfl) rfl ?_
      refine r_is (.int .i64 (wn.long : Nat)) (by unfold Win.long; rw [wrap64 (by omega) (by omega)]; congr 1; omega) ?_
      refine r_c rfl (x_call rfl (rr_Get (wn.long : Nat) hs2 hB hr.cons h) ?_)
      rintro _ w ⟨rfl, h⟩
      rw [heldN_nat (win_long_le wn)] at h ⊢
      refine r_v (q_moveI rfl) rfl ?_; refine r_v (q_conv rfl) rfl ?_
      refine r_is (.int .u64 (wn.trail : Int)) (by rw [wrap_u64, Nat.mod_eq_of_lt (by omega)]) ?_
      refine r_v (q_is (v' := .int .u64 (((s2.get wn.long).1 * 2 ^ wn.trail % 18446744073709551616 : Nat) : Int)) (q_shl rfl rfl (by omega)) (by rw [shl_u64 _ _ (by omega)])) rfl ?_
      refine r_v (q_assignI rfl) rfl ?_
      refine r_nil ⟨(wn, (s2.get wn.long).2, (s2.get wn.long).1 * 2 ^ wn.trail % 18446744073709551616), ⟨rfl, rfl, rfl, rfl, rfl, rfl, rfl, rfl, rfl, trivial⟩, hwn, hs2.get _, Nat.mod_lt _ (by decide), ?_, h⟩
      intro V r h1 h2 h3
      obtain ⟨k1, k2, k3⟩ := hx2 V r h1 h2 h3
      obtain ⟨now, V', _, _, j3, _, j5, _, _⟩ := hwas V r h1 h2 h3
      have hx : V.getD i 0 ^^^ was < 18446744073709551616 := Nat.xor_lt_two_pow (n := 64) (by rw [j3]; exact j5) hlast
      dsimp only
      rw [k3, RS.get_put]
      exact ⟨rfl, shown hx k1 k2, rfl⟩
     ·refine r_is (.bool false) (by congr 1; rw [beq_eq_false_iff_ne]; omega) ?_
      refine r_nil (c_false rfl (c_skip ⟨(win, (s.get 1).2, 0), ⟨rfl, rfl, rfl, rfl, rfl, rfl, rfl, rfl, rfl, trivial⟩, hwo, hs1, (by decide : (0 : Nat) < 18446744073709551616), ?_, h⟩))
      intro V r h1 h2 h3
      obtain ⟨now, V', k1, k2, k3, k4, k5, k6, k7⟩ := hwas V r h1 h2 h3
      dsimp only
      rw [k3, k2]
      by_cases hx : now ^^^ was = 0
      ·rw [xr_zero hbad k7 hx]
       exact ⟨rfl, hx.symm, rfl⟩
      ·exact absurd (xr_one hbad k7 hx).1 hg1
    clear h
    rintro ⟨wn, s2, x⟩ w e ⟨hwn, hs2, hx, hx2, h⟩
    dsimp only at hwn hs2 hx hx2 h ⊢
    have hxw : was ^^^ x < 18446744073709551616 := Nat.xor_lt_two_pow (n := 64) hlast hx
    obtain ⟨g, rfl⟩ := (h.f 1).own_some (by omega)
    refine c_region ?_
    refine r_v (q_moveS rfl) rfl ?_; refine r_v (q_moveS rfl) rfl ?_; refine r_v (q_moveI rfl) rfl ?_; refine r_v (q_sub rfl rfl) rfl ?_
    refine r_is (.int .i64 ((i - 1 : Nat) : Int)) (by rw [wrap64 (by omega) (by omega)]; congr 1; omega) ?_
    refine r_v (q_idx (o' := i - 1) rfl rfl rfl (by omega) (by simp)) rfl ?_
    refine r_v (q_loadc (v := .int .u64 was) rfl (by have := (h.f 1).own_rd.cell (u64V_get hgl); simpa using this)) rfl ?_
    refine r_v (q_moveI rfl) rfl ?_; refine r_v (q_xor rfl rfl) rfl ?_
    refine r_is (.int .u64 ((was ^^^ x : Nat) : Int)) (by rw [(bit_u64 hlast hx).2.2]) ?_
    refine r_app1 (v := .int .u64 ((was ^^^ x : Nat) : Int)) (m3 := (out ++ [was ^^^ x]).length) (zs := u64V (out ++ [was ^^^ x])) (h.f 1) rfl rfl rfl rfl rfl (by simp) (by simp [u64V, vcells]) (by simp; omega) (by simp; omega) rfl rfl rfl rfl rfl fun b2 a2 c2 w _ h => ?_
    refine r_v (q_assignS rfl) rfl ?_
    refine r_nil ⟨(out ++ [was ^^^ x], wn, s2, a2, c2), ⟨rfl, rfl, rfl, rfl, rfl, rfl, rfl, rfl, trivial⟩, by simp; omega, hwn, hs2, ?_, ?_, h⟩
    ·intro y hy
     rcases List.mem_append.1 hy with hy | hy
     ·exact hlt64 y hy
     ·have : y = was ^^^ x := by simpa using hy
      rw [this]; exact hxw
    ·intro V r h1 h2 h3
     obtain ⟨k1, k2, k3⟩ := hx2 V r h1 h2 h3
     obtain ⟨now, V', _, _, j3, _, j5, j6, _⟩ := hwas V r h1 h2 h3
     refine ⟨k1, ?_, k3⟩
     dsimp only
     rw [j6, k2, j3, xor_back]
   clear h
   rintro ⟨out', wn, s2, oa', oc'⟩ w e ⟨k1, k2, k3, k4, k5, h⟩
   dsimp only at k1 k2 k3 k4 k5 h ⊢
   refine c_region ?_
   refine r_v (q_moveI rfl) rfl ?_; refine r_v (q_add rfl rfl) rfl ?_
   refine r_is (.int .i64 ((i + 1 : Nat) : Int)) (by rw [wrap64 (by omega) (by omega)]; rfl) ?_
   refine r_v (q_assignI rfl) rfl ?_
   exact r_nil ⟨(i + 1, out', wn, s2, oa', oc'), ⟨rfl, rfl, rfl, rfl, rfl, rfl, rfl, rfl, trivial⟩, ⟨hlt, k1, k2, k3, k4, (fun h => by cases h), fun _ => k5, h⟩, by dsimp only; omega⟩
  ·refine r_is (.bool false) (by simp; omega) ?_
   refine r_v (q_moveB rfl) rfl ?_; refine r_gn rfl rfl rfl ?_; refine r_gn rfl rfl rfl ?_; refine r_gn rfl rfl rfl ?_; refine r_gn rfl rfl rfl ?_; refine r_gn rfl rfl rfl ?_; refine r_v (q_pick0 rfl rfl rfl) rfl ?_
   have t1 := stop (fun hh => hlt hh.1)
   exact r_nil (c_false rfl (c_exit ⟨(out, s, oa, oc), ⟨rfl, rfl, rfl, trivial⟩, by dsimp only; omega, hlt64, hs, t1, h⟩))
 clear h
 rintro ⟨out, s, oa, oc⟩ w e ⟨hlm, hlt64, hs, hyp, h⟩
 dsimp only at hlm hlt64 hs hyp h ⊢
 refine c_seq (c_seq (c_region ?_))
 refine r_v (q_moveP rfl) rfl ?_; refine r_v (q_nil rfl) rfl ?_; refine r_v (q_fa rfl) rfl ?_
 refine r_v (q_load (v := .bool s.bad) rfl (h.b 1 rfl) rfl) rfl ?_
 cases hbad : s.bad with
 | true =>
  refine r_nil (c_true rfl ?_)
  refine c_seq (c_region ?_)
  refine r_v (q_assignS rfl) rfl ?_; refine r_v (q_assignB rfl) rfl ?_
  refine r_nil (c_ret (bq2 (none_ok ?_ h.drop.drop)))
  intro V r h1 h2 h3
  have := (hyp V r h1 h2 h3).1
  rw [hbad] at this; cases this
 | false =>
 refine r_nil (c_false rfl (c_skip ?_))
 obtain ⟨hsl, hsr⟩ := hs
 have hxl := xorBits_len out
 refine c_seq (c_region ?_)
 refine r_v (q_build (r := [.slice none 0 0]) rfl) rfl ?_
 refine r_c rfl (x_box h (show _ = Value.agg [.slice none 0 0].toArray from rfl) fun p2 w h => ?_)
 replace h : St w0 (IsRW p2 [] :: OwnU oa oc out :: RrS p a c B s :: l) w := St.rw_new h
 refine r_v (q_assignP rfl) rfl ?_
 refine r_nil ?_
 refine c_seq (c_region ?_)
 refine r_v (q_moveP rfl) rfl ?_; refine r_v (q_moveS rfl) rfl ?_
 refine r_c rfl (x_call rfl (ref4_Values hlt64 (by omega) (by decide) h Reads.own) ?_)
 rintro _ w ⟨rfl, h⟩
 rw [List.nil_append] at h
 refine r_nil ?_
 have hyp2 : ∀ V r, (∀ x ∈ V, x < 18446744073709551616) → V.length = m → bitsB B = xorBits V ++ r → out = V ∧ bitsB B = xorBits out ++ r ∧ 8 * B.length - s.rest.length = (xorBits out).length := by
  intro V r h1 h2 h3
  obtain ⟨_, k2, k3⟩ := hyp V r h1 h2 h3
  refine ⟨k2, by rw [k2]; exact h3, ?_⟩
  have := congrArg List.length h3
  rw [List.length_append, hbl] at this
  rw [k3, k2]; omega
 clear hyp
 generalize hX : xorBits out = X at *
 obtain ⟨xa, xc, h⟩ := St.rw.1 h
 generalize hat : 8 * B.length - s.rest.length = at_ at *
 replace h : St w0 (RwPt p2 xa X.length xc :: Own 5 1 xa X.length xc (bytesV (b2us X)) :: OwnU oa oc out :: RrPt p a B.length c at_ s.bad :: l) w := by rw [← hat]; exact h
 refine c_seq (c_seq (c_any none (fun w => St w0 (RwPt p2 xa X.length xc :: Own 5 1 xa X.length xc (bytesV (b2us X)) :: OwnU oa oc out :: RrPt p a B.length c at_ s.bad :: l) w) (by kernel_rfl) (by kernel_rfl) h.drew fun w h => ?_))
 refine cur_pure rfl rfl rfl rfl (fun _ => h) (fun _ => flt_v rfl (q_moveP rfl)) ?_; refine cur_pure rfl rfl rfl rfl (fun _ => h) (fun _ => flt_v rfl (q_nil rfl)) ?_; refine cur_pure rfl rfl rfl rfl (fun _ => h) (fun _ => flt_v rfl (q_fa rfl)) ?_; refine cur_float rfl rfl rfl rfl h (fun _ h => flt_v rfl (q_load rfl (h.b 0) rfl)) ?_; refine cur_pure rfl rfl rfl rfl (fun _ => h) (fun _ => flt_v rfl (q_len rfl)) ?_; refine cur_pure rfl rfl rfl rfl (fun _ => h) (fun _ => flt_v rfl (q_moveP rfl)) ?_; refine cur_pure rfl rfl rfl rfl (fun _ => h) (fun _ => flt_v rfl (q_nil rfl)) ?_; refine cur_pure rfl rfl rfl rfl (fun _ => h) (fun _ => flt_v rfl (q_fa rfl)) ?_
 refine cur_float rfl rfl rfl rfl h (fun _ h => flt_v rfl (q_load (v := .int .i64 at_) rfl (h.b 3 rfl) rfl)) ?_
 refine cur_pure rfl rfl rfl rfl (fun _ => h) (fun _ => flt_v rfl (q_moveI rfl)) ?_
 refine cur_pure rfl rfl rfl rfl (fun _ => h) (fun _ => flt_v rfl (q_is (v' := .int .i64 ((at_ : Nat) : Int)) (q_sub rfl rfl) (by rw [Int.sub_zero, wrap64 (by omega) (by omega)]))) ?_
 refine cur_pure rfl rfl rfl rfl (fun _ => h) (fun _ => flt_v rfl (q_neq rfl rfl)) ?_
 refine cur_end ?_
 refine c_cond ((X.length : Int) != (at_ : Int)) rfl (fun hc => ?_) (fun hc => ?_)
 ·refine c_seq (c_region ?_)
  refine r_v (q_assignS rfl) rfl ?_; refine r_v (q_assignB rfl) rfl ?_
  refine r_nil (c_ret (bq2 (none_ok ?_ h.drop.drop.drop.drop)))
  intro V r h1 h2 h3
  have := (hyp2 V r h1 h2 h3).2.2
  rw [this] at hc; simp at hc
 have hXat : X.length = at_ := by rw [bne_eq_false_iff_eq] at hc; omega
 refine c_skip ?_
 refine c_cut (Γ := Unit) (fun _ => [(7, .slice oa out.length oc)]) (fun _ w => St w0 (OwnU oa oc out :: l) w) ?_ ?_
 ·refine c_seq (c_region ?_)
  refine r_v (q_assignI rfl) rfl ?_
  refine r_nil ?_
  refine c_block ?_
  refine c_loop (Γ := Nat) (fun k => [(0, .pointer (some ⟨p, 0, none⟩)), (6, .int .i64 0), (7, .slice oa out.length oc), (14, .pointer (some ⟨p2, 0, none⟩)), (15, .int .i64 k)])
   (fun k w => k ≤ X.length ∧ St w0 (RwPt p2 xa X.length xc :: Own 5 1 xa X.length xc (bytesV (b2us X)) :: OwnU oa oc out :: RrPt p a B.length c at_ s.bad :: l) w) (fun k => X.length - k) 0 ⟨rfl, rfl, rfl, rfl, rfl, trivial⟩ ⟨Nat.zero_le _, h⟩ ?_
  clear h
  rintro k w e ⟨hk, h⟩
  refine c_seq (c_seq (c_region ?_))
  refine r_v (q_moveI rfl) rfl ?_; refine r_v (q_moveP rfl) rfl ?_; refine r_v (q_nil rfl) rfl ?_; refine r_v (q_fa rfl) rfl ?_; refine r_v (q_load rfl (h.b 0) rfl) rfl ?_; refine r_v (q_len rfl) rfl ?_; refine r_v (q_lss rfl rfl) rfl ?_
  refine r_nil ?_
  refine c_cond (decide ((k : Int) < (X.length : Int))) rfl (fun hc => ?_) (fun hc => ?_)
  ·have hlt : k < X.length := by simp at hc; omega
   have hgx := List.getElem?_eq_getElem hlt
   generalize X[k] = bx at hgx
   have hgb := List.getElem?_eq_getElem (show k / 8 < B.length by omega)
   generalize B[k / 8]'(by omega) = y at hgb
   have hbit := bitsB_get B k y hgb
   have hy := y.toNat_lt
   have hb1 : (b2u bx).toNat ≤ 1 := by cases bx <;> decide
   obtain ⟨g, rfl⟩ := (h.f 1).own_some (by omega)
   obtain ⟨b, o, hsl2⟩ := (hr [_, _, _, _] _ h).some (by omega)
   refine c_skip ?_
   refine c_seq (c_block ?_)
   refine c_seq (c_region ?_)
   refine r_v (q_moveI rfl) rfl ?_; refine r_v (q_moveI rfl) rfl ?_; refine r_v (q_add rfl rfl) rfl ?_
   refine r_is (.int .i64 (k : Nat)) (by rw [Int.zero_add, wrap64 (by omega) (by omega)]) ?_
   refine r_v (q_assignI rfl) rfl ?_
   refine r_nil ?_
   refine c_seq (c_any none (fun w => St w0 (RwPt p2 (some ⟨g, 0, none⟩) X.length xc :: Own 5 1 (some ⟨g, 0, none⟩) X.length xc (bytesV (b2us X)) :: OwnU oa oc out :: RrPt p a B.length c at_ s.bad :: l) w) (by kernel_rfl) (by kernel_rfl) h.drew fun w h => ?_)
   refine cur_pure rfl rfl rfl rfl (fun _ => h) (fun _ => flt_v rfl (q_moveP rfl)) ?_; refine cur_pure rfl rfl rfl rfl (fun _ => h) (fun _ => flt_v rfl (q_nil rfl)) ?_; refine cur_pure rfl rfl rfl rfl (fun _ => h) (fun _ => flt_v rfl (q_fa rfl)) ?_; refine cur_float rfl rfl rfl rfl h (fun _ h => flt_v rfl (q_load rfl (h.b 0) rfl)) ?_; refine cur_pure rfl rfl rfl rfl (fun _ => h) (fun _ => flt_v rfl (q_moveI rfl)) ?_
   refine cur_pure rfl rfl rfl rfl (fun _ => h) (fun _ => flt_v rfl (q_idx (o' := k) rfl rfl rfl hlt (by simp))) ?_
   refine cur_float rfl rfl rfl rfl h (fun w h => flt_v rfl (q_loadc (v := .int .u8 (b2u bx).toNat) rfl (by have := (h.f 1).own_rd.cell (bytesV_get (b2us_get hgx)); simpa using this))) ?_
   refine cur_pure rfl rfl rfl rfl (fun _ => h) (fun _ => flt_v rfl (q_moveP rfl)) ?_; refine cur_pure rfl rfl rfl rfl (fun _ => h) (fun _ => flt_v rfl (q_nil rfl)) ?_; refine cur_pure rfl rfl rfl rfl (fun _ => h) (fun _ => flt_v rfl (q_fa rfl)) ?_
   refine cur_float rfl rfl rfl rfl h (fun _ h => flt_v rfl (q_load (v := .slice a B.length c) rfl (h.b 3 rfl) rfl)) ?_
   refine cur_pure rfl rfl rfl rfl (fun _ => h) (fun _ => flt_v rfl (q_moveI rfl)) ?_
   refine cur_pure rfl rfl rfl rfl (fun _ => h) (fun _ => flt_v rfl (q_is (v' := .int .i64 ((k / 8 : Nat) : Int)) (q_quo rfl rfl (by decide)) (by rw [show ((k : Nat) : Int).tdiv 8 = ((k / 8 : Nat) : Int) from tdiv_nat _ 8, wrap64 (by omega) (by omega)]))) ?_
   refine cur_pure rfl rfl rfl rfl (fun _ => h) (fun _ => flt_v rfl (q_idx (b := b) (o := o) (m := B.length) (c := c) (o' := o + k / 8) (by rw [← hsl2]; rfl) rfl rfl (by omega) (by simp))) ?_
   refine cur_float rfl rfl rfl rfl h (fun _ h => flt_v rfl (q_loadc (v := .int .u8 y.toNat) rfl ((hsl2 ▸ hr [_, _, _, _] _ h).cell (bytesV_get hgb)))) ?_
   refine cur_pure rfl rfl rfl rfl (fun _ => h) (fun _ => flt_v rfl (q_moveI rfl)) ?_
   refine cur_pure rfl rfl rfl rfl (fun _ => h) (fun _ => flt_v rfl (q_is (v' := .int .i64 ((k % 8 : Nat) : Int)) (q_rem rfl rfl (by decide)) (congrArg (Value.int .i64) (tmod_nat _ 8)))) ?_
   refine cur_pure rfl rfl rfl rfl (fun _ => h) (fun _ => flt_v rfl (q_is (v' := .int .i64 ((7 - k % 8 : Nat) : Int)) (q_sub rfl rfl) (by rw [wrap64 (by omega) (by omega)]; congr 1; omega))) ?_
   refine cur_pure rfl rfl rfl rfl (fun _ => h) (fun _ => flt_v rfl (q_is (v' := .int .u64 ((7 - k % 8 : Nat) : Int)) (q_conv rfl) (by rw [wrap_u64, Nat.mod_eq_of_lt (by omega)]))) ?_
   refine cur_pure rfl rfl rfl rfl (fun _ => h) (fun _ => flt_v rfl (q_is (v' := .int .u8 ((y.toNat / 2 ^ (7 - k % 8) : Nat) : Int)) (q_shr rfl rfl (by omega)) (congrArg (Value.int .u8) (fdiv_nat y.toNat (7 - k % 8) _ (show 7 - k % 8 ≤ 8 by omega))))) ?_
   refine cur_pure rfl rfl rfl rfl (fun _ => h) (fun _ => flt_v rfl (q_is (v' := .int .u8 (((y.toNat.testBit (7 - k % 8)).toNat : Nat) : Int)) (q_and rfl rfl) (by
    rw [show bitOp .and .u8 ((y.toNat / 2 ^ (7 - k % 8) : Nat) : Int) 1 = ((y.toNat / 2 ^ (7 - k % 8) &&& 1 : Nat) : Int) from (bit_u8 (Nat.lt_of_le_of_lt (Nat.div_le_self _ _) hy) (by decide)).1, Nat.and_one_is_mod, testBit_toNat]))) ?_
   refine cur_pure rfl rfl rfl rfl (fun _ => h) (fun _ => flt_v rfl (q_neq rfl rfl)) ?_
   refine cur_end ?_
   generalize y.toNat.testBit (7 - k % 8) = by_ at hbit ⊢
   refine c_cond (((b2u bx).toNat : Int) != (by_.toNat : Int)) rfl (fun hc => ?_) (fun hc => ?_)
   ·refine c_seq (c_region ?_)
    refine r_v (q_assignS rfl) rfl ?_; refine r_v (q_assignB rfl) rfl ?_
    refine r_nil (c_ret (bq2 (none_ok ?_ h.drop.drop.drop.drop)))
    intro V r h1 h2 h3
    obtain ⟨_, k2, _⟩ := hyp2 V r h1 h2 h3
    rw [k2, List.getElem?_append_left hlt, hgx] at hbit
    rw [Option.some.inj hbit, b2u_nat] at hc
    simp at hc
   ·refine c_skip ?_
    refine c_region ?_
    refine r_v (q_moveI rfl) rfl ?_; refine r_v (q_add rfl rfl) rfl ?_
    refine r_is (.int .i64 ((k + 1 : Nat) : Int)) (by rw [wrap64 (by omega) (by omega)]; rfl) ?_
    refine r_v (q_assignI rfl) rfl ?_
    exact r_nil ⟨k + 1, ⟨rfl, rfl, rfl, rfl, rfl, trivial⟩, ⟨hlt, h⟩, by omega⟩
  ·exact c_exit ⟨(), ⟨rfl, trivial⟩, h.x [0, 1, 3]⟩
 clear h
 rintro ⟨⟩ w e h
 refine c_seq (c_region ?_)
 refine r_v (q_moveS rfl) rfl ?_; refine r_v (q_assignS rfl) rfl ?_; refine r_v (q_assignB rfl) rfl ?_
 exact r_nil (c_ret (bq2 ⟨true, out, oa, oc, rfl, hlt64, fun V r h1 h2 h3 => ⟨rfl, (hyp2 V r h1 h2 h3).1⟩, h⟩))
theorem ref1_SameWords {a1 a2 : Option Addr} {c1 c2 : Nat} {L1 L2 : List Nat} (hr1 : Reads w0 l 1 a1 L1.length (u64V L1)) (hr2 : Reads w0 l 1 a2 L2.length (u64V L2)) (hn : L1.length < 9223372036854775807) (h : St w0 l w) :
  Ret Tryz.prog 129 [.slice a1 L1.length c1, .slice a2 L2.length c2] w fun v w' => v = .bool (decide (L1 = L2)) ∧ St w0 l w' := by
 refine enter Tryz.func129 rfl Tryz.results129 Tryz.ntmps129 rfl ?_
 refine c_seq (c_region ?_)
 refine r_v (q_assignB rfl) rfl ?_
 refine r_nil ?_
 refine c_seq (c_seq (c_region ?_))
 refine r_v (q_moveS rfl) rfl ?_; refine r_v (q_len rfl) rfl ?_; refine r_v (q_moveS rfl) rfl ?_; refine r_v (q_len rfl) rfl ?_; refine r_v (q_neq rfl rfl) rfl ?_
 refine r_nil ?_
 refine c_cond ((L1.length : Int) != (L2.length : Int)) rfl (fun hc => ?_) (fun hc => ?_)
 ·refine c_seq (c_region ?_)
  refine r_v (q_assignB rfl) rfl ?_
  refine r_nil (c_ret (bq1 ⟨?_, h⟩))
  have : L1 ≠ L2 := by rintro rfl; simp at hc
  exact congrArg Value.bool (decide_eq_false this).symm
 have hnn : L1.length = L2.length := by rw [bne_eq_false_iff_eq] at hc; omega
 refine c_skip ?_
 refine c_cut (Γ := Unit) (fun _ => []) (fun _ w => L1 = L2 ∧ St w0 l w) ?_ ?_
 ·refine c_seq (c_region ?_)
  refine r_v (q_assignI rfl) rfl ?_
  refine r_nil ?_
  refine c_block ?_
  refine c_loop (Γ := Nat) (fun k => [(0, .slice a1 L1.length c1), (1, .slice a2 L2.length c2), (5, .int .i64 k)]) (fun k w => k ≤ L1.length ∧ L1.take k = L2.take k ∧ St w0 l w) (fun k => L1.length - k) 0 ⟨rfl, rfl, rfl, trivial⟩ ⟨Nat.zero_le _, by simp, h⟩ ?_
  clear h
  rintro k w e ⟨hk, hpre, h⟩
  refine c_seq (c_seq (c_region ?_))
  refine r_v (q_moveI rfl) rfl ?_; refine r_v (q_moveS rfl) rfl ?_; refine r_v (q_len rfl) rfl ?_; refine r_v (q_lss rfl rfl) rfl ?_
  refine r_nil ?_
  refine c_cond (decide ((k : Int) < (L1.length : Int))) rfl (fun hc => ?_) (fun hc => ?_)
  ·have hlt : k < L1.length := by simp at hc; omega
   have hg1 := List.getElem?_eq_getElem hlt
   have hg2 := List.getElem?_eq_getElem (show k < L2.length by omega)
   generalize L1[k] = x at hg1
   generalize L2[k]'(by omega) = y at hg2
   obtain ⟨b1, o1, hsl1⟩ := (hr1.at_ h).some (by omega)
   obtain ⟨b2, o2, hsl2⟩ := (hr2.at_ h).some (by omega)
   refine c_skip ?_
   refine c_seq (c_block ?_)
   refine c_seq (c_any none (fun w => St w0 l w) (by kernel_rfl) (by kernel_rfl) h.drew fun w h => ?_)
   refine cur_pure rfl rfl rfl rfl (fun _ => h) (fun _ => flt_v rfl (q_moveS rfl)) ?_; refine cur_pure rfl rfl rfl rfl (fun _ => h) (fun _ => flt_v rfl (q_moveI rfl)) ?_
   refine cur_pure rfl rfl rfl rfl (fun _ => h) (fun _ => flt_v rfl (q_idx (b := b1) (o := o1) (m := L1.length) (c := c1) (o' := o1 + k) (by rw [← hsl1]; rfl) rfl rfl hlt (by simp))) ?_
   refine cur_float rfl rfl rfl rfl h (fun w h => flt_v rfl (q_loadc (v := .int .u64 x) rfl ((hsl1 ▸ hr1.at_ h).cell (u64V_get hg1)))) ?_
   refine cur_pure rfl rfl rfl rfl (fun _ => h) (fun _ => flt_v rfl (q_moveS rfl)) ?_; refine cur_pure rfl rfl rfl rfl (fun _ => h) (fun _ => flt_v rfl (q_moveI rfl)) ?_
   refine cur_pure rfl rfl rfl rfl (fun _ => h) (fun _ => flt_v rfl (q_idx (b := b2) (o := o2) (m := L2.length) (c := c2) (o' := o2 + k) (by rw [← hsl2]; rfl) rfl rfl (by omega) (by simp))) ?_
   refine cur_float rfl rfl rfl rfl h (fun w h => flt_v rfl (q_loadc (v := .int .u64 y) rfl ((hsl2 ▸ hr2.at_ h).cell (u64V_get hg2)))) ?_
   refine cur_pure rfl rfl rfl rfl (fun _ => h) (fun _ => flt_v rfl (q_neq rfl rfl)) ?_
   refine cur_end ?_
   refine c_cond ((x : Int) != (y : Int)) rfl (fun hc => ?_) (fun hc => ?_)
   ·refine c_seq (c_region ?_)
    refine r_v (q_assignB rfl) rfl ?_
    refine r_nil (c_ret (bq1 ⟨?_, h⟩))
    have : L1 ≠ L2 := by
     rintro rfl
     rw [hg1] at hg2
     cases hg2
     simp at hc
    exact congrArg Value.bool (decide_eq_false this).symm
   ·have hxy : x = y := by rw [bne_eq_false_iff_eq] at hc; omega
    refine c_skip ?_
    refine c_region ?_
    refine r_v (q_moveI rfl) rfl ?_; refine r_v (q_add rfl rfl) rfl ?_
    refine r_is (.int .i64 ((k + 1 : Nat) : Int)) (by rw [wrap64 (by omega) (by omega)]; rfl) ?_
    refine r_v (q_assignI rfl) rfl ?_
    exact r_nil ⟨k + 1, ⟨rfl, rfl, rfl, trivial⟩, ⟨hlt, by rw [List.take_add_one, List.take_add_one, hg1, hg2, hpre, hxy], h⟩, by omega⟩
  ·obtain rfl : k = L1.length := by simp at hc; omega
   rw [List.take_length, hnn, List.take_length] at hpre
   exact c_exit ⟨(), trivial, hpre, h⟩
 clear h
 rintro ⟨⟩ w e ⟨he, h⟩
 rw [decide_eq_true he]
 refine c_seq (c_region ?_)
 refine r_v (q_assignB rfl) rfl ?_
 exact r_nil (c_ret (bq1 ⟨rfl, h⟩))
end
end Go.Proofs.YtjjacchnalemaaaGreatDoor

namespace Go.Hw
def getsL : Nat → Nat → RS → List Nat
 | 0, _, _ => []
 | k + 1, wide, s => (s.get wide).1 :: getsL k wide (s.get wide).2
theorem getsL_len : ∀ (k wide : Nat) (s : RS), (getsL k wide s).length = k
 | 0, _, _ => rfl
 | k + 1, wide, s => by rw [getsL, List.length_cons, getsL_len]
theorem getsL_lt {wide : Nat} (hw : wide ≤ 64) : ∀ (k : Nat) (s : RS), ∀ x ∈ getsL k wide s, x < 18446744073709551616
 | 0, _, x, h => by cases h
 | k + 1, s, x, h => by
  rw [getsL] at h
  rcases List.mem_cons.1 h with rfl | h
  ·exact Nat.lt_of_lt_of_le (RS.get_lt s wide) (Nat.pow_le_pow_right (n := 2) (by decide) hw)
  ·exact getsL_lt hw k _ x h
theorem getAll_gets : ∀ (k wide : Nat) (s : RS) (ys : List Nat), getAll k wide s = some ys → getsL k wide s = ys
 | 0, _, _, ys, h => by cases h; rfl
 | k + 1, wide, s, ys, h => by
  rw [getAll] at h
  split at h
  ·cases h
  ·obtain ⟨y, h1, rfl⟩ := Option.map_eq_some_iff.1 h
   rw [getsL, getAll_gets k wide _ y h1]
end Go.Hw
namespace Go.Proofs.YtjjacchnalemaaaGreatDoor
open Go.Hw
set_option maxHeartbeats 4000000
set_option maxRecDepth 100000
section
variable {w0 w : World} {l : List HProp}
theorem ref1_Zag {u : Nat} (hu : u < 18446744073709551616) (h : St w0 l w) : Ret Tryz.prog 96 [.int .u64 (u : Int)] w fun v w' => v = .int .i64 (sg (zagU u)) ∧ St w0 l w' := by
 refine enter Tryz.func96 rfl Tryz.results96 Tryz.ntmps96 rfl ?_
 refine c_seq (c_region ?_)
 refine r_v (q_assignI rfl) rfl ?_
 refine r_nil ?_
 have hb : bitOp .and .u64 (u : Int) 1 = ((u % 2 : Nat) : Int) := by
  have := (bit_u64 hu (by decide : (1 : Nat) < 18446744073709551616)).1
  rw [Nat.and_one_is_mod] at this
  exact this
 refine c_seq (c_seq (c_region ?_))
 refine r_v (q_moveI rfl) rfl ?_; refine r_v (q_and rfl rfl) rfl ?_
 refine r_is (.int .u64 ((u % 2 : Nat) : Int)) (by rw [hb]) ?_
 refine r_v (q_eql rfl rfl) rfl ?_
 by_cases hp : u % 2 = 1
 ·refine r_is (.bool true) (by rw [hp]; rfl) ?_
  refine r_nil (c_true rfl ?_)
  refine c_seq (c_region ?_)
  refine r_v (q_moveI rfl) rfl ?_
  refine r_v (q_is (v' := .int .u64 ((u / 2 : Nat) : Int)) (q_shr rfl rfl (by omega)) (congrArg (Value.int .u64) (fdiv_nat u 1 64 (by decide)))) rfl ?_
  refine r_v (q_conv rfl) rfl ?_
  refine r_is (.int .i64 ((u / 2 : Nat) : Int)) (by rw [wrap64 (by omega) (by omega)]) ?_
  refine r_v (q_neg rfl) rfl ?_
  refine r_is (.int .i64 (-((u / 2 : Nat) : Int))) (by rw [wrap64 (by omega) (by omega)]; congr 1; omega) ?_
  refine r_v (q_sub rfl rfl) rfl ?_
  refine r_is (.int .i64 (sg (zagU u))) (by rw [wrap64 (by omega) (by omega)]; congr 1; rw [show zagU u = 18446744073709551615 - u / 2 by unfold zagU; rw [if_neg (by omega)]]; unfold sg; split <;> omega) ?_
  refine r_v (q_assignI rfl) rfl ?_
  exact r_nil (c_ret (bq1 ⟨rfl, h⟩))
 ·refine r_is (.bool false) (by congr 1; rw [beq_eq_false_iff_ne]; omega) ?_
  refine r_nil (c_false rfl (c_skip ?_))
  refine c_seq (c_region ?_)
  refine r_v (q_moveI rfl) rfl ?_
  refine r_v (q_is (v' := .int .u64 ((u / 2 : Nat) : Int)) (q_shr rfl rfl (by omega)) (congrArg (Value.int .u64) (fdiv_nat u 1 64 (by decide)))) rfl ?_
  refine r_v (q_conv rfl) rfl ?_
  refine r_is (.int .i64 (sg (zagU u))) (by rw [wrap64 (by omega) (by omega)]; congr 1; rw [show zagU u = u / 2 by unfold zagU; rw [if_pos (by omega)]]; unfold sg; split <;> omega) ?_
  refine r_v (q_assignI rfl) rfl ?_
  exact r_nil (c_ret (bq1 ⟨rfl, h⟩))
theorem ref4_unpack {sl : Option Addr} {c : Nat} {B : List UInt8} {n wide : Nat} (hn : n ≤ 65535) (hw : wide ≤ 64) (hB : B.length ≤ 140737488355328) (hr : Reads w0 l 1 sl B.length (bytesV B)) (h : St w0 l w) :
  Ret Tryz.prog 130 [.slice sl B.length c, .int .i64 (n : Int), .int .i64 (wide : Int)] w fun v w' => ∃ a c', v = .slice a (getsL n wide ⟨bitsB B, false⟩).length c' ∧ St w0 (OwnU a c' (getsL n wide ⟨bitsB B, false⟩) :: l) w' := by
 refine enter Tryz.func130 rfl Tryz.results130 Tryz.ntmps130 rfl ?_
 refine c_seq (c_region ?_)
 refine r_v (q_assignS rfl) rfl ?_
 refine r_nil ?_
 refine c_seq (c_region ?_)
 refine r_v (q_moveS rfl) rfl ?_; refine r_v (q_build rfl) rfl ?_
 refine r_c rfl (x_box h rfl fun p w h => ?_)
 replace h : St w0 (RrS p sl c B ⟨bitsB B, false⟩ :: l) w := by
  show St w0 (RrPt p sl B.length c (8 * B.length - (bitsB B).length) false :: l) w
  rw [bitsB_len, Nat.sub_self]; exact h
 refine r_v (q_assignP rfl) rfl ?_
 refine r_nil ?_
 refine c_seq (c_region ?_)
 refine r_v (q_assignS rfl) rfl ?_
 refine r_nil ?_
 refine c_seq (c_seq (c_region ?_))
 refine r_v (q_assignI rfl) rfl ?_
 refine r_nil ?_
 refine c_block ?_
 have hs := Suf.all B
 generalize (⟨bitsB B, false⟩ : RS) = s0 at h hs ⊢
 refine c_loop (Γ := Nat × List Nat × RS × Option Addr × Nat) (fun k => [(1, .int .i64 n), (2, .int .i64 wide), (7, .pointer (some ⟨p, 0, none⟩)), (8, .slice k.2.2.2.1 k.2.1.length k.2.2.2.2), (9, .int .i64 k.1)])
  (fun k w => k.1 ≤ n ∧ k.2.1.length = k.1 ∧ getsL n wide s0 = k.2.1 ++ getsL (n - k.1) wide k.2.2.1 ∧ Suf B k.2.2.1 ∧ St w0 (OwnU k.2.2.2.1 k.2.2.2.2 k.2.1 :: RrS p sl c B k.2.2.1 :: l) w)
  (fun k => n - k.1) (0, [], s0, none, 0) ⟨rfl, rfl, rfl, rfl, rfl, trivial⟩ ⟨Nat.zero_le _, rfl, rfl, hs, St.ownNil _ _ h⟩ ?_
 clear h hs
 rintro ⟨i, out, s, oa, oc⟩ w e ⟨hi, hol, inv, hs, h⟩
 dsimp only at hi hol inv hs h ⊢
 refine c_seq (c_seq (c_region ?_))
 refine r_v (q_moveI rfl) rfl ?_; refine r_v (q_moveI rfl) rfl ?_; refine r_v (q_lss rfl rfl) rfl ?_
 by_cases hlt : i < n
 ·refine r_is (.bool true) (by simp; omega) ?_
  refine r_nil (c_true rfl (c_skip ?_))
  refine c_seq (c_block ?_)
  refine c_region ?_
  refine r_v (q_moveS rfl) rfl ?_; refine r_v (q_moveP rfl) rfl ?_; refine r_v (q_moveI rfl) rfl ?_
  refine r_c rfl (x_call rfl (rr_Get (wide : Int) hs hB hr.cons (h.f 1)) ?_)
  rw [heldN_nat hw]
  rintro _ w ⟨rfl, h⟩
  rw [show n - i = (n - (i + 1)) + 1 by omega, getsL] at inv
  refine r_app1 (v := .int .u64 ((s.get wide).1 : Nat)) (m3 := (out ++ [(s.get wide).1]).length) (zs := u64V (out ++ [(s.get wide).1])) (h.f 1) rfl rfl rfl rfl rfl (by simp) (by simp [u64V, vcells]) (by simp; omega) (by simp; omega) rfl rfl rfl rfl rfl fun b2 a2 c2 w _ h => ?_
  refine r_v (q_assignS rfl) rfl ?_
  refine r_nil ?_
  refine c_region ?_
  refine r_v (q_moveI rfl) rfl ?_; refine r_v (q_add rfl rfl) rfl ?_
  refine r_is (.int .i64 ((i + 1 : Nat) : Int)) (by rw [wrap64 (by omega) (by omega)]; rfl) ?_
  refine r_v (q_assignI rfl) rfl ?_
  exact r_nil ⟨(i + 1, out ++ [(s.get wide).1], (s.get wide).2, a2, c2), ⟨rfl, rfl, rfl, rfl, rfl, trivial⟩, ⟨hlt, by simp; omega, by rw [inv]; simp, hs.get _, h⟩, by dsimp only; omega⟩
 ·refine r_is (.bool false) (by simp; omega) ?_
  refine r_nil (c_false rfl ?_)
  have hin : i = n := by omega
  rw [hin, Nat.sub_self, getsL, List.append_nil] at inv
  refine c_exit ?_
  refine c_seq (c_region ?_)
  refine r_v (q_moveS rfl) rfl ?_; refine r_v (q_assignS rfl) rfl ?_
  refine r_nil (c_ret (bq1 ⟨oa, oc, ?_, ?_⟩))
  ·rw [inv]; rfl
  ·rw [inv]; exact (h.f 1).drop
theorem Told.nil {n : Nat} {bs : List UInt8} {D : Option (List Nat)} (hn0 : n = 0) (hD : D = if bs = [] then some [] else none) (h : St w0 l w) : Told w0 l n D (.tuple [.slice none 0 0, .bool (decide (bs = []))].toArray) w :=
 ⟨none, 0, [], decide (bs = []), rfl, (by rw [hD]; by_cases hb : bs = [] <;> simp [hb]), fun _ => ⟨hn0.symm, (fun _ h => by cases h)⟩, St.ownNil _ _ h⟩
theorem ref4_GetRuns {sl : Option Addr} {c : Nat} {bs : List UInt8} {n : Nat} (hn : n ≤ 65535) (hbn : bs.length ≤ 140737488355328) (hc : bs.length ≤ c) (hr : Reads w0 l 1 sl bs.length (bytesV bs)) (h : St w0 l w) :
  Ret Tryz.prog 97 [.slice sl bs.length c, .int .i64 (n : Int)] w fun v w' => Told w0 l n (runsDec bs n) v w' := by
 refine enter Tryz.func97 rfl Tryz.results97 Tryz.ntmps97 rfl ?_
 refine c_seq (c_region ?_)
 refine r_v (q_assignS rfl) rfl ?_; refine r_v (q_assignB rfl) rfl ?_
 refine r_nil ?_
 refine c_seq (c_region ?_)
 refine r_v (q_moveI rfl) rfl ?_
 refine r_c rfl (x_call rfl (ref4_held n h) ?_)
 rw [askN_nat hn]
 rintro _ w ⟨rfl, h⟩
 refine r_v (q_assignI rfl) rfl ?_
 refine r_nil ?_
 refine c_seq (c_region ?_)
 refine r_v (q_moveS rfl) rfl ?_; refine r_v (q_assignS rfl) rfl ?_
 refine r_nil ?_
 refine c_seq (c_region ?_)
 refine r_v (q_assignS rfl) rfl ?_
 refine r_nil ?_
 refine c_seq (c_block ?_)
 refine c_loop (Γ := List UInt8 × Option Addr × Nat × Nat × List Nat × Option Addr × Nat) (fun k => [(1, .int .i64 n), (6, .slice k.2.1 k.1.length k.2.2.1), (7, .slice k.2.2.2.2.2.1 k.2.2.2.2.1.length k.2.2.2.2.2.2)])
  (fun k w => k.1.length ≤ bs.length ∧ k.1.length ≤ k.2.2.2.1 ∧ k.1.length ≤ k.2.2.1 ∧ k.2.2.2.2.1.length ≤ n ∧ (∀ x ∈ k.2.2.2.2.1, x < 18446744073709551616) ∧ runsDec bs n = (runsDecA k.2.2.2.1 k.1 (n - k.2.2.2.2.1.length) k.2.2.2.2.1.getLast?).map (fun r => k.2.2.2.2.1 ++ r) ∧ Reads w0 l 1 k.2.1 k.1.length (bytesV k.1) ∧ St w0 (OwnU k.2.2.2.2.2.1 k.2.2.2.2.2.2 k.2.2.2.2.1 :: l) w)
  (fun k => k.1.length) (bs, sl, c, bs.length, [], none, 0) ⟨rfl, rfl, rfl, trivial⟩ ⟨Nat.le_refl _, Nat.le_refl _, hc, Nat.zero_le _, (fun _ h => by cases h), (by simp [runsDec]), hr, St.ownNil _ _ h⟩ ?_
 clear h hr hc
 rintro ⟨b, ba, bc, f, out, oa, oc⟩ w e ⟨hbl, hbf, hc, hol, hout, inv, hr, h⟩
 dsimp only at hbl hbf hc hol hout inv hr h ⊢
 refine c_seq (c_seq (c_region ?_))
 refine r_v (q_moveS rfl) rfl ?_; refine r_v (q_len rfl) rfl ?_; refine r_v (q_gtr rfl rfl) rfl ?_
 refine r_nil ?_
 refine c_cond (decide ((b.length : Int) > 0)) rfl (fun hcc => ?_) (fun hcc => ?_)
 ·have hpos : 0 < b.length := by simp at hcc; omega
  have hne : b ≠ [] := List.length_pos_iff.1 hpos
  cases f with
  | zero => omega
  | succ f =>
  rw [runsDecA_step hne] at inv
  have hk := vget_le b
  have hm := vget_lt b
  refine c_skip ?_
  refine c_block ?_
  refine c_seq (c_region ?_)
  refine r_v (q_moveS rfl) rfl ?_
  refine r_c rfl (x_call rfl (ref1_Get h hr.cons (by omega)) ?_)
  rintro _ w ⟨rfl, h⟩
  refine r_v (q_moveT rfl) rfl ?_; refine r_v (q_ext rfl rfl) rfl ?_; refine r_v (q_ext rfl rfl) rfl ?_; refine r_v (q_assignI rfl) rfl ?_; refine r_v (q_assignI rfl) rfl ?_
  refine r_nil ?_
  generalize (vget b).1 = many at hm inv ⊢
  generalize (vget b).2 = i at hk inv ⊢
  have hrt := hr.tailB hk hc
  have hk2 := vget_le (b.drop i)
  have hx := vget_lt (b.drop i)
  refine c_seq (c_region ?_)
  refine r_v (q_moveS rfl) rfl ?_; refine r_v (q_moveI rfl) rfl ?_
  refine r_v (q_tail (i := i) rfl rfl hk) rfl ?_
  show Rn _ _ _ _ _ (upd _ _ (.slice (adv ba (i * 1) (Nat.beq bc i)) (b.length - i) (bc - i))) _
  rw [← List.length_drop]
  refine r_v (q_assignS rfl) rfl ?_
  refine r_nil ?_
  refine c_seq (c_region ?_)
  refine r_v (q_moveS rfl) rfl ?_
  refine r_c rfl (x_call rfl (ref1_Get h hrt.cons (by rw [List.length_drop]; omega)) ?_)
  rintro _ w ⟨rfl, h⟩
  refine r_v (q_moveT rfl) rfl ?_; refine r_v (q_ext rfl rfl) rfl ?_; refine r_v (q_ext rfl rfl) rfl ?_; refine r_v (q_assignI rfl) rfl ?_; refine r_v (q_assignI rfl) rfl ?_
  refine r_nil ?_
  generalize (vget (b.drop i)).1 = x at hx inv ⊢
  generalize (vget (b.drop i)).2 = k at hk2 inv ⊢
  have hrt2 := hrt.tailB (i := k) (c := bc - i) hk2 (by rw [List.length_drop]; omega)
  rw [List.drop_drop] at hrt2
  refine c_seq (c_region ?_)
  refine r_v (q_moveS rfl) rfl ?_; refine r_v (q_moveI rfl) rfl ?_
  refine r_v (q_tail (i := k) rfl rfl hk2) rfl ?_
  show Rn _ _ _ _ _ (upd _ _ (.slice (adv (adv ba (i * 1) (Nat.beq bc i)) (k * 1) (Nat.beq (bc - i) k)) ((b.drop i).length - k) (bc - i - k))) _
  rw [← List.length_drop, List.drop_drop]
  refine r_v (q_assignS rfl) rfl ?_
  refine r_nil ?_
  rw [List.length_drop] at hk2
  refine c_cut (Γ := Unit) (fun _ => [(1, .int .i64 n), (6, .slice (adv (adv ba (i * 1) (Nat.beq bc i)) (k * 1) (Nat.beq (bc - i) k)) (b.drop (i + k)).length (bc - i - k)), (7, .slice oa out.length oc), (8, .int .u64 many), (10, .int .u64 x)])
   (fun _ w => ¬ (i = 0 ∨ k = 0 ∨ many = 0 ∨ n - out.length < many ∨ out.getLast? = some x) ∧ St w0 (OwnU oa oc out :: l) w) ?_ ?_
  ·have bad : ∀ {w : World}, (i = 0 ∨ k = 0 ∨ many = 0 ∨ n - out.length < many ∨ out.getLast? = some x) → St w0 (OwnU oa oc out :: l) w → Told w0 l n (runsDec bs n) (.tuple [.slice none 0 0, .bool false].toArray) w := fun hb h => Told.no (by rw [inv, if_pos hb]; rfl) h.drop
   refine c_seq (c_region ?_)
   by_cases g1 : i = 0
   ·refine r_v (q_moveI rfl) rfl ?_
    refine r_v (q_is (v' := .bool true) (q_eql rfl rfl) (by rw [g1]; rfl)) rfl ?_
    refine r_v (q_moveB rfl) rfl ?_; refine r_gn rfl rfl rfl ?_; refine r_gn rfl rfl rfl ?_; refine r_v (q_pick1 rfl rfl rfl) rfl ?_; refine r_v (q_moveB rfl) rfl ?_; refine r_gn rfl rfl rfl ?_; refine r_gn rfl rfl rfl ?_; refine r_v (q_pick1 rfl rfl rfl) rfl ?_; refine r_v (q_moveB rfl) rfl ?_; refine r_gn rfl rfl rfl ?_; refine r_gn rfl rfl rfl ?_; refine r_gn rfl rfl rfl ?_; refine r_gn rfl rfl rfl ?_; refine r_gn rfl rfl rfl ?_; refine r_gn rfl rfl rfl ?_; refine r_gn rfl rfl rfl ?_; refine r_v (q_pick1 rfl rfl rfl) rfl ?_; refine r_v (q_moveB rfl) rfl ?_; refine r_gn rfl rfl rfl ?_; refine r_gn rfl rfl rfl ?_; refine r_gn rfl rfl rfl ?_; refine r_gn rfl rfl rfl ?_; refine r_gu rfl rfl ?_; refine r_gu rfl rfl ?_; refine r_gu rfl rfl ?_; refine r_gu rfl rfl ?_; refine r_gu rfl rfl ?_; refine r_gu rfl rfl ?_; refine r_gu rfl rfl ?_; refine r_gu rfl rfl ?_; refine r_gn rfl rfl rfl ?_; refine r_v (q_pick1 rfl rfl rfl) rfl ?_
    refine r_nil (c_true rfl ?_)
    refine c_seq (c_region ?_)
    refine r_v (q_assignS rfl) rfl ?_; refine r_v (q_assignB rfl) rfl ?_
    exact r_nil (c_ret (bq2 (bad (.inl g1) h)))
   refine r_v (q_moveI rfl) rfl ?_
   refine r_v (q_is (v' := .bool false) (q_eql rfl rfl) (by congr 1; rw [beq_eq_false_iff_ne]; omega)) rfl ?_
   refine r_v (q_moveB rfl) rfl ?_; refine r_gd rfl rfl ?_; refine r_v (q_moveI rfl) rfl ?_; refine r_gd rfl rfl ?_
   by_cases g2 : k = 0
   ·refine r_v (q_is (v' := .bool true) (q_eql rfl rfl) (by rw [g2]; rfl)) rfl ?_
    refine r_v (q_pick0 rfl rfl rfl) rfl ?_; refine r_v (q_moveB rfl) rfl ?_; refine r_gn rfl rfl rfl ?_; refine r_gn rfl rfl rfl ?_; refine r_v (q_pick1 rfl rfl rfl) rfl ?_; refine r_v (q_moveB rfl) rfl ?_; refine r_gn rfl rfl rfl ?_; refine r_gn rfl rfl rfl ?_; refine r_gn rfl rfl rfl ?_; refine r_gn rfl rfl rfl ?_; refine r_gn rfl rfl rfl ?_; refine r_gn rfl rfl rfl ?_; refine r_gn rfl rfl rfl ?_; refine r_v (q_pick1 rfl rfl rfl) rfl ?_; refine r_v (q_moveB rfl) rfl ?_; refine r_gn rfl rfl rfl ?_; refine r_gn rfl rfl rfl ?_; refine r_gn rfl rfl rfl ?_; refine r_gn rfl rfl rfl ?_; refine r_gu rfl rfl ?_; refine r_gu rfl rfl ?_; refine r_gu rfl rfl ?_; refine r_gu rfl rfl ?_; refine r_gu rfl rfl ?_; refine r_gu rfl rfl ?_; refine r_gu rfl rfl ?_; refine r_gu rfl rfl ?_; refine r_gn rfl rfl rfl ?_; refine r_v (q_pick1 rfl rfl rfl) rfl ?_
    refine r_nil (c_true rfl ?_)
    refine c_seq (c_region ?_)
    refine r_v (q_assignS rfl) rfl ?_; refine r_v (q_assignB rfl) rfl ?_
    exact r_nil (c_ret (bq2 (bad (.inr (.inl g2)) h)))
   refine r_v (q_is (v' := .bool false) (q_eql rfl rfl) (by congr 1; rw [beq_eq_false_iff_ne]; omega)) rfl ?_
   refine r_v (q_pick0 rfl rfl rfl) rfl ?_; refine r_v (q_moveB rfl) rfl ?_; refine r_gd rfl rfl ?_; refine r_v (q_moveI rfl) rfl ?_; refine r_gd rfl rfl ?_
   by_cases g3 : many = 0
   ·refine r_v (q_is (v' := .bool true) (q_eql rfl rfl) (by rw [g3]; rfl)) rfl ?_
    refine r_v (q_pick0 rfl rfl rfl) rfl ?_; refine r_v (q_moveB rfl) rfl ?_; refine r_gn rfl rfl rfl ?_; refine r_gn rfl rfl rfl ?_; refine r_gn rfl rfl rfl ?_; refine r_gn rfl rfl rfl ?_; refine r_gn rfl rfl rfl ?_; refine r_gn rfl rfl rfl ?_; refine r_gn rfl rfl rfl ?_; refine r_v (q_pick1 rfl rfl rfl) rfl ?_; refine r_v (q_moveB rfl) rfl ?_; refine r_gn rfl rfl rfl ?_; refine r_gn rfl rfl rfl ?_; refine r_gn rfl rfl rfl ?_; refine r_gn rfl rfl rfl ?_; refine r_gu rfl rfl ?_; refine r_gu rfl rfl ?_; refine r_gu rfl rfl ?_; refine r_gu rfl rfl ?_; refine r_gu rfl rfl ?_; refine r_gu rfl rfl ?_; refine r_gu rfl rfl ?_; refine r_gu rfl rfl ?_; refine r_gn rfl rfl rfl ?_; refine r_v (q_pick1 rfl rfl rfl) rfl ?_
    refine r_nil (c_true rfl ?_)
    refine c_seq (c_region ?_)
    refine r_v (q_assignS rfl) rfl ?_; refine r_v (q_assignB rfl) rfl ?_
    exact r_nil (c_ret (bq2 (bad (.inr (.inr (.inl g3))) h)))
   refine r_v (q_is (v' := .bool false) (q_eql rfl rfl) (by congr 1; rw [beq_eq_false_iff_ne]; omega)) rfl ?_
   refine r_v (q_pick0 rfl rfl rfl) rfl ?_; refine r_v (q_moveB rfl) rfl ?_; refine r_gd rfl rfl ?_; refine r_v (q_moveI rfl) rfl ?_; refine r_gd rfl rfl ?_; refine r_v (q_moveI rfl) rfl ?_; refine r_gd rfl rfl ?_; refine r_v (q_moveS rfl) rfl ?_; refine r_gd rfl rfl ?_; refine r_v (q_len rfl) rfl ?_; refine r_gd rfl rfl ?_
   refine r_v (q_is (v' := .int .i64 ((n - out.length : Nat) : Int)) (q_sub rfl rfl) (by rw [wrap64 (by omega) (by omega)]; congr 1; omega)) rfl ?_
   refine r_gd rfl rfl ?_
   refine r_v (q_is (v' := .int .u64 ((n - out.length : Nat) : Int)) (q_conv rfl) (congrArg (Value.int .u64) (conv_nat (by omega)))) rfl ?_
   refine r_gd rfl rfl ?_
   by_cases g4 : n - out.length < many
   ·refine r_v (q_is (v' := .bool true) (q_gtr rfl rfl) (by congr 1; simp; omega)) rfl ?_
    refine r_v (q_pick0 rfl rfl rfl) rfl ?_; refine r_v (q_moveB rfl) rfl ?_; refine r_gn rfl rfl rfl ?_; refine r_gn rfl rfl rfl ?_; refine r_gn rfl rfl rfl ?_; refine r_gn rfl rfl rfl ?_; refine r_gu rfl rfl ?_; refine r_gu rfl rfl ?_; refine r_gu rfl rfl ?_; refine r_gu rfl rfl ?_; refine r_gu rfl rfl ?_; refine r_gu rfl rfl ?_; refine r_gu rfl rfl ?_; refine r_gu rfl rfl ?_; refine r_gn rfl rfl rfl ?_; refine r_v (q_pick1 rfl rfl rfl) rfl ?_
    refine r_nil (c_true rfl ?_)
    refine c_seq (c_region ?_)
    refine r_v (q_assignS rfl) rfl ?_; refine r_v (q_assignB rfl) rfl ?_
    exact r_nil (c_ret (bq2 (bad (.inr (.inr (.inr (.inl g4)))) h)))
   refine r_v (q_is (v' := .bool false) (q_gtr rfl rfl) (by congr 1; simp; omega)) rfl ?_
   refine r_v (q_pick0 rfl rfl rfl) rfl ?_; refine r_v (q_moveB rfl) rfl ?_; refine r_gd rfl rfl ?_; refine r_v (q_moveS rfl) rfl ?_; refine r_gd rfl rfl ?_; refine r_v (q_len rfl) rfl ?_; refine r_gd rfl rfl ?_
   by_cases g0 : out.length = 0
   ·have ho : out = [] := List.eq_nil_of_length_eq_zero g0
    refine r_v (q_is (v' := .bool false) (q_gtr rfl rfl) (by rw [g0]; rfl)) rfl ?_
    refine r_gd rfl rfl ?_; refine r_v (q_moveB rfl) rfl ?_; refine r_gn rfl rfl rfl ?_; refine r_gn rfl rfl rfl ?_; refine r_gn rfl rfl rfl ?_; refine r_gn rfl rfl rfl ?_; refine r_gn rfl rfl rfl ?_; refine r_gn rfl rfl rfl ?_; refine r_gn rfl rfl rfl ?_; refine r_gn rfl rfl rfl ?_; refine r_gd rfl rfl ?_; refine r_v (q_pick0 rfl rfl rfl) rfl ?_; refine r_v (q_pick0 rfl rfl rfl) rfl ?_
    refine r_nil (c_false rfl ?_)
    refine c_skip ⟨(), ⟨rfl, rfl, rfl, rfl, rfl, trivial⟩, ?_, h⟩
    rw [ho]
    simp
    rw [ho] at g4
    simp at g4
    omega
   ·refine r_v (q_is (v' := .bool true) (q_gtr rfl rfl) (by congr 1; simp; omega)) rfl ?_
    have hgl := List.getElem?_eq_getElem (show out.length - 1 < out.length by omega)
    have hlast : out.getLast? = some (out[out.length - 1]'(by omega)) := by rw [List.getLast?_eq_getElem?, hgl]
    generalize out[out.length - 1]'(by omega) = z at hgl hlast
    obtain ⟨bo, hosl⟩ := h.own_some (by omega)
    refine r_gd rfl rfl ?_; refine r_v (q_moveB rfl) rfl ?_; refine r_gd rfl rfl ?_; refine r_v (q_moveS rfl) rfl ?_; refine r_gd rfl rfl ?_; refine r_v (q_moveS rfl) rfl ?_; refine r_gd rfl rfl ?_; refine r_v (q_len rfl) rfl ?_; refine r_gd rfl rfl ?_
    refine r_v (q_is (v' := .int .i64 ((out.length - 1 : Nat) : Int)) (q_sub rfl rfl) (by rw [wrap64 (by omega) (by omega)]; congr 1; omega)) rfl ?_
    refine r_gd rfl rfl ?_
    refine r_v (q_idx (b := bo) (o := 0) (m := out.length) (c := oc) (o' := out.length - 1) (by rw [← hosl]; rfl) rfl rfl (by omega) (by simp)) rfl ?_
    refine r_gd rfl rfl ?_
    refine r_v (q_loadc (v := .int .u64 z) rfl (by have := (hosl ▸ h.own_rd).cell (u64V_get hgl); simpa using this)) rfl ?_
    refine r_gd rfl rfl ?_; refine r_v (q_moveI rfl) rfl ?_; refine r_gd rfl rfl ?_; refine r_v (q_eql rfl rfl) rfl ?_; refine r_gd rfl rfl ?_; refine r_v (q_pick1 rfl rfl rfl) rfl ?_; refine r_v (q_pick0 rfl rfl rfl) rfl ?_
    refine r_nil (c_cond ((z : Int) == (x : Int)) rfl (fun hc1 => ?_) (fun hc1 => ?_))
    ·refine c_seq (c_region ?_)
     refine r_v (q_assignS rfl) rfl ?_; refine r_v (q_assignB rfl) rfl ?_
     exact r_nil (c_ret (bq2 (bad (.inr (.inr (.inr (.inr (by rw [hlast]; congr 1; rw [beq_iff_eq] at hc1; omega))))) h)))
    ·refine c_skip ⟨(), ⟨rfl, rfl, rfl, rfl, rfl, trivial⟩, ?_, h⟩
     rw [beq_eq_false_iff_ne] at hc1
     rintro (h | h | h | h | h)
     ·omega
     ·omega
     ·omega
     ·omega
     ·rw [hlast] at h; cases h; exact hc1 rfl
  clear h
  rintro _ w e ⟨hcond, h⟩
  rw [if_neg hcond] at inv
  have hmn : many ≤ n - out.length := by omega
  have hik : i + k ≤ b.length := by omega
  refine c_block ?_
  generalize adv (adv ba (i * 1) (Nat.beq bc i)) (k * 1) (Nat.beq (bc - i) k) = ba2 at hrt2 ⊢
  refine c_loop (Γ := Nat × Option Addr × Nat) (fun q => [(1, .int .i64 n), (6, .slice ba2 (b.drop (i + k)).length (bc - i - k)), (7, .slice q.2.1 (out ++ List.replicate q.1 x).length q.2.2), (8, .int .u64 (many - q.1 : Nat)), (10, .int .u64 x)])
   (fun q w => q.1 ≤ many ∧ St w0 (OwnU q.2.1 q.2.2 (out ++ List.replicate q.1 x) :: l) w) (fun q => many - q.1) (0, oa, oc) ⟨rfl, rfl, (by show Value.slice _ _ _ = Value.slice _ _ _; simp), rfl, rfl, trivial⟩ ⟨Nat.zero_le _, by simpa using h⟩ ?_
  clear h
  rintro ⟨j, oa, oc⟩ w e ⟨hj, h⟩
  dsimp only at hj h ⊢
  refine c_seq (c_seq (c_region ?_))
  refine r_v (q_moveI rfl) rfl ?_; refine r_v (q_gtr rfl rfl) rfl ?_
  refine r_nil ?_
  refine c_cond (decide (((many - j : Nat) : Int) > 0)) rfl (fun hc1 => ?_) (fun hc1 => ?_)
  ·have hlt : j < many := by simp at hc1; omega
   have hstep : out ++ List.replicate (j + 1) x = out ++ List.replicate j x ++ [x] := by rw [List.replicate_succ', List.append_assoc]
   refine c_skip ?_
   refine c_seq (c_block ?_)
   refine c_region ?_
   refine r_v (q_moveS rfl) rfl ?_; refine r_v (q_moveI rfl) rfl ?_
   refine r_app1 (v := .int .u64 (x : Int)) (m3 := (out ++ List.replicate (j + 1) x).length) (zs := u64V (out ++ List.replicate (j + 1) x)) h rfl rfl rfl rfl rfl (by rw [hstep]; simp; omega) (by rw [hstep]; simp [u64V, vcells]) (by simp; omega) (by simp; omega) rfl rfl rfl rfl rfl fun b2 a2 c2 w _ h => ?_
   refine r_v (q_assignS rfl) rfl ?_
   refine r_nil ?_
   refine c_region ?_
   refine r_v (q_moveI rfl) rfl ?_; refine r_v (q_sub rfl rfl) rfl ?_
   refine r_is (.int .u64 ((many - (j + 1) : Nat) : Int)) (by rw [show ((many - j : Nat) : Int) - 1 = ((many - (j + 1) : Nat) : Int) by omega, wrap_u64, Nat.mod_eq_of_lt (by omega)]) ?_
   refine r_v (q_assignI rfl) rfl ?_
   exact r_nil ⟨(j + 1, a2, c2), ⟨rfl, rfl, rfl, rfl, rfl, trivial⟩, ⟨hlt, h⟩, by dsimp only; omega⟩
  have hjm : j = many := by simp at hc1; omega
  subst hjm
  refine c_exit ⟨(b.drop (i + k), ba2, bc - i - k, f, out ++ List.replicate j x, oa, oc), ⟨rfl, rfl, rfl, trivial⟩, ⟨by dsimp only; rw [List.length_drop]; omega, by dsimp only; rw [List.length_drop]; omega, by dsimp only; rw [List.length_drop]; omega, by dsimp only; rw [List.length_append, List.length_replicate]; omega, fun z hz => ?_, ?_, hrt2, h⟩, by dsimp only; rw [List.length_drop]; omega⟩
  ·rcases List.mem_append.1 hz with hz | hz
   ·exact hout z hz
   ·rw [(List.mem_replicate.1 hz).2]; exact hx
  ·rw [inv, getLast?_rep out (by omega), List.length_append, List.length_replicate, Option.map_map, Nat.sub_sub]
   congr 1
   funext r
   simp
 have hb0 : b = [] := List.eq_nil_of_length_eq_zero (by rw [decide_eq_false_iff_not] at hcc; omega)
 subst hb0
 have inv : runsDec bs n = (if n - out.length = 0 then some [] else none).map (fun r => out ++ r) := by
  rw [inv]
  cases f <;> rfl
 refine c_exit ?_
 refine c_seq (c_seq (c_region ?_))
 refine r_v (q_moveS rfl) rfl ?_; refine r_v (q_len rfl) rfl ?_; refine r_v (q_moveI rfl) rfl ?_; refine r_v (q_neq rfl rfl) rfl ?_
 by_cases hon : out.length = n
 ·refine r_is (.bool false) (by rw [hon]; simp) ?_
  refine r_nil (c_false rfl (c_skip ?_))
  refine c_seq (c_region ?_)
  refine r_v (q_moveS rfl) rfl ?_; refine r_v (q_assignS rfl) rfl ?_; refine r_v (q_assignB rfl) rfl ?_
  refine r_nil ?_
  exact c_ret (bq2 ⟨oa, oc, out, true, rfl, by rw [inv, if_pos (by omega)]; simp, fun _ => ⟨hon, hout⟩, h⟩)
 ·refine r_is (.bool true) (by congr 1; rw [bne_iff_ne]; omega) ?_
  refine r_nil (c_true rfl ?_)
  refine c_seq (c_region ?_)
  refine r_v (q_assignS rfl) rfl ?_; refine r_v (q_assignB rfl) rfl ?_
  refine r_nil ?_
  exact c_ret (bq2 (Told.no (by rw [inv, if_neg (by omega)]; rfl) h.drop))
end
end Go.Proofs.YtjjacchnalemaaaGreatDoor

namespace Go.Hw
theorem half_set (f : Nat → Nat) (U : List Nat) {k z : Nat} (h : U[k]? = some z) : ((U.take k).map f ++ U.drop k).set k (f z) = (U.take (k + 1)).map f ++ U.drop (k + 1) := by
 have hk := (List.getElem?_eq_some_iff.1 h).1
 have hz := (List.getElem?_eq_some_iff.1 h).2
 have hl : ((U.take k).map f).length = k := by simp; omega
 rw [List.set_append_right _ _ (by omega), hl, Nat.sub_self, List.drop_eq_getElem_cons hk, List.set_cons_zero, List.take_add_one, h]
 simp
theorem half_get (f : Nat → Nat) (U : List Nat) {k z : Nat} (h : U[k]? = some z) : ((U.take k).map f ++ U.drop k)[k]? = some z := by
 have hk := (List.getElem?_eq_some_iff.1 h).1
 have hl : ((U.take k).map f).length = k := by simp; omega
 rw [List.getElem?_append_right (by omega), hl, Nat.sub_self, List.getElem?_drop, Nat.add_zero, h]
theorem strB_eq (a b : List UInt8) : ((strB a).data.toList == (strB b).data.toList) = decide (a = b) := by
 show (a.toArray.toList == b.toArray.toList) = _
 by_cases h : a = b
 ·subst h; simp
 ·simp [h]
theorem dictDec_sound {b : List UInt8} {n : Nat} {D : List Nat} (h : dictDec b n = some D) : dictEnc D = some b := by
 unfold dictDec at h
 repeat' split at h
 all_goals first | cases h | skip
 ·subst_vars; rfl
 ·assumption
theorem pickAll_none {l : List Nat} : ∀ (at_ : List Nat) (a : Nat), a ∈ at_ → l.length ≤ a → pickAll l at_ = none
 | x :: r, a, h, hl => by
  rw [pickAll]
  rcases List.mem_cons.1 h with rfl | h
  ·rw [List.getElem?_eq_none hl]
  ·split
   ·rfl
   ·rw [pickAll_none r a h hl]; rfl
theorem pickAll_map {l : List Nat} : ∀ (at_ : List Nat), (∀ a ∈ at_, a < l.length) → pickAll l at_ = some (at_.map fun a => l.getD a 0)
 | [], _ => rfl
 | x :: r, h => by
  have hx := h x (List.mem_cons_self ..)
  rw [pickAll, List.getElem?_eq_getElem hx]
  dsimp only
  rw [pickAll_map r fun a ha => h a (List.mem_cons_of_mem _ ha), Option.map_some, List.map_cons, List.getD, List.getElem?_eq_getElem hx]
  rfl
theorem simpDec_loose {ws : List Nat} {n : Nat} : simpDec ws n = if (looseA ws n).length = n ∧ simpEnc (looseA ws n) = some ws then some (looseA ws n) else none := by
 unfold simpDec
 cases hD : simpDecA ws n with
 | none =>
  dsimp only
  rw [if_neg]
  rintro ⟨h1, h2⟩
  have := (simpDecA_told _ _ ws (Nat.le_refl _) h2).1
  rw [h1, hD] at this
  cases this
 | some x =>
  rw [looseA_of ws n x hD]
theorem looseA_le : ∀ (ws : List Nat) (room : Nat), (looseA ws room).length ≤ room
 | [], _ => Nat.zero_le _
 | x :: ws, room => by
  rw [looseA]
  split
  ·exact Nat.zero_le _
  ·rw [List.length_append, unpackW_len]
   have := looseA_le ws (room - min (kindsL.getD (x / 1152921504606846976) (0, 0)).1 room)
   omega
end Go.Hw
namespace Go.Proofs.YtjjacchnalemaaaGreatDoor
open Go.Hw
set_option maxHeartbeats 4000000
set_option maxRecDepth 100000
section
variable {w0 w : World} {l : List HProp}
theorem ref4_GetFrame {sl : Option Addr} {c : Nat} {bs : List UInt8} {n : Nat} (hn : n ≤ 65535) (hbn : bs.length ≤ 140737488355328) (hc : bs.length ≤ c) (hr : Reads w0 l 1 sl bs.length (bytesV bs)) (h : St w0 l w) :
  Ret Tryz.prog 98 [.slice sl bs.length c, .int .i64 (n : Int)] w fun v w' => Told w0 l n (frameDec bs n) v w' := by
 have hdef : frameDec bs n = _ := rfl
 conv at hdef => rhs; unfold frameDec
 refine enter Tryz.func98 rfl Tryz.results98 Tryz.ntmps98 rfl ?_
 refine c_seq (c_region ?_)
 refine r_v (q_assignS rfl) rfl ?_; refine r_v (q_assignB rfl) rfl ?_
 refine r_nil ?_
 refine c_seq (c_region ?_)
 refine r_v (q_moveI rfl) rfl ?_
 refine r_c rfl (x_call rfl (ref4_held n h) ?_)
 rw [askN_nat hn]
 rintro _ w ⟨rfl, h⟩
 refine r_v (q_assignI rfl) rfl ?_
 refine r_nil ?_
 refine c_seq (c_seq (c_region ?_))
 refine r_v (q_moveI rfl) rfl ?_; refine r_v (q_eql rfl rfl) rfl ?_
 by_cases hn0 : n = 0
 ·refine r_is (.bool true) (by rw [hn0]; rfl) ?_
  refine r_nil (c_true rfl ?_)
  refine c_seq (c_region ?_)
  refine r_v (q_moveS rfl) rfl ?_; refine r_v (q_len rfl) rfl ?_; refine r_v (q_eql rfl rfl) rfl ?_
  refine r_is (.bool (decide (bs = []))) (by congr 1; rw [Bool.eq_iff_iff]; simp) ?_
  refine r_v (q_assignS rfl) rfl ?_; refine r_v (q_assignB rfl) rfl ?_
  refine r_nil (c_ret (bq2 (Told.nil hn0 (by rw [hdef, if_pos hn0]) h)))
 refine r_is (.bool false) (by congr 1; rw [beq_eq_false_iff_ne]; omega) ?_
 refine r_nil (c_false rfl (c_skip ?_))
 rw [if_neg hn0] at hdef
 have hk := vget_le bs
 have hm := vget_lt bs
 refine c_seq (c_region ?_)
 refine r_v (q_moveS rfl) rfl ?_
 refine r_c rfl (x_call rfl (ref1_Get h hr hbn) ?_)
 rintro _ w ⟨rfl, h⟩
 refine r_v (q_moveT rfl) rfl ?_; refine r_v (q_ext rfl rfl) rfl ?_; refine r_v (q_ext rfl rfl) rfl ?_; refine r_v (q_assignI rfl) rfl ?_; refine r_v (q_assignI rfl) rfl ?_
 refine r_nil ?_
 generalize (vget bs).1 = least at hm hdef ⊢
 generalize (vget bs).2 = i at hk hdef ⊢
 refine c_cut (Γ := UInt8) (fun _ => [(0, .slice sl bs.length c), (1, .int .i64 n), (6, .int .u64 least), (7, .int .i64 i)])
  (fun q w => bs[i]? = some q ∧ q.toNat ≤ 64 ∧ i ≠ 0 ∧ St w0 l w) ?_ ?_
 ·refine c_seq (c_region ?_)
  by_cases g1 : i = 0
  ·refine r_v (q_moveI rfl) rfl ?_
   refine r_v (q_is (v' := .bool true) (q_eql rfl rfl) (by rw [g1]; rfl)) rfl ?_
   refine r_v (q_moveB rfl) rfl ?_; refine r_gn rfl rfl rfl ?_; refine r_gn rfl rfl rfl ?_; refine r_gn rfl rfl rfl ?_; refine r_gn rfl rfl rfl ?_; refine r_v (q_pick1 rfl rfl rfl) rfl ?_; refine r_v (q_moveB rfl) rfl ?_; refine r_gn rfl rfl rfl ?_; refine r_gn rfl rfl rfl ?_; refine r_gn rfl rfl rfl ?_; refine r_gn rfl rfl rfl ?_; refine r_gn rfl rfl rfl ?_; refine r_v (q_pick1 rfl rfl rfl) rfl ?_
   refine r_nil (c_true rfl ?_)
   refine c_seq (c_region ?_)
   refine r_v (q_assignS rfl) rfl ?_; refine r_v (q_assignB rfl) rfl ?_
   exact r_nil (c_ret (bq2 (Told.no (by rw [hdef, if_pos g1]) h)))
  rw [if_neg g1] at hdef
  refine r_v (q_moveI rfl) rfl ?_
  refine r_v (q_is (v' := .bool false) (q_eql rfl rfl) (by congr 1; rw [beq_eq_false_iff_ne]; omega)) rfl ?_
  refine r_v (q_moveB rfl) rfl ?_; refine r_gd rfl rfl ?_; refine r_v (q_moveI rfl) rfl ?_; refine r_gd rfl rfl ?_; refine r_v (q_moveS rfl) rfl ?_; refine r_gd rfl rfl ?_; refine r_v (q_len rfl) rfl ?_; refine r_gd rfl rfl ?_
  by_cases g2 : i = bs.length
  ·refine r_v (q_is (v' := .bool true) (q_geq rfl rfl) (by rw [g2]; simp)) rfl ?_
   refine r_v (q_pick0 rfl rfl rfl) rfl ?_; refine r_v (q_moveB rfl) rfl ?_; refine r_gn rfl rfl rfl ?_; refine r_gn rfl rfl rfl ?_; refine r_gn rfl rfl rfl ?_; refine r_gn rfl rfl rfl ?_; refine r_gn rfl rfl rfl ?_; refine r_v (q_pick1 rfl rfl rfl) rfl ?_
   refine r_nil (c_true rfl ?_)
   refine c_seq (c_region ?_)
   refine r_v (q_assignS rfl) rfl ?_; refine r_v (q_assignB rfl) rfl ?_
   exact r_nil (c_ret (bq2 (Told.no (by rw [hdef, List.getElem?_eq_none (by omega)]) h)))
  have hil : i < bs.length := by omega
  have hg := List.getElem?_eq_getElem hil
  generalize bs[i] = q at hg
  rw [hg] at hdef
  dsimp only at hdef
  obtain ⟨b, o, hsl⟩ := (hr.at_ h).some (by omega)
  refine r_v (q_is (v' := .bool false) (q_geq rfl rfl) (by congr 1; simp; omega)) rfl ?_
  refine r_v (q_pick0 rfl rfl rfl) rfl ?_; refine r_v (q_moveB rfl) rfl ?_; refine r_gd rfl rfl ?_; refine r_v (q_moveS rfl) rfl ?_; refine r_gd rfl rfl ?_; refine r_v (q_moveI rfl) rfl ?_; refine r_gd rfl rfl ?_
  refine r_v (q_idx (b := b) (o := o) (m := bs.length) (c := c) (o' := o + i) (by rw [← hsl]; rfl) rfl rfl hil (by simp)) rfl ?_
  refine r_gd rfl rfl ?_
  refine r_v (q_loadc (v := .int .u8 q.toNat) rfl ((hsl ▸ hr.at_ h).cell (bytesV_get hg))) rfl ?_
  refine r_gd rfl rfl ?_; refine r_v (q_gtr rfl rfl) rfl ?_; refine r_v (q_pick0 rfl rfl rfl) rfl ?_
  refine r_nil (c_cond (decide ((q.toNat : Int) > 64)) rfl (fun hc1 => ?_) (fun hc1 => ?_))
  ·refine c_seq (c_region ?_)
   refine r_v (q_assignS rfl) rfl ?_; refine r_v (q_assignB rfl) rfl ?_
   exact r_nil (c_ret (bq2 (Told.no (by rw [hdef, if_pos (by simp at hc1; omega)]) h)))
  ·exact c_skip ⟨q, ⟨rfl, rfl, rfl, rfl, trivial⟩, hg, by simp at hc1; omega, g1, h⟩
 clear h
 rintro q w e ⟨hg, hq64, hi0, h⟩
 have hil : i < bs.length := (List.getElem?_eq_some_iff.1 hg).1
 rw [if_neg hi0, hg] at hdef
 dsimp only at hdef
 rw [if_neg (by omega)] at hdef
 have hrt := hr.tailB (i := i + 1) hil hc
 obtain ⟨b, o, hsl⟩ := (hr.at_ h).some (by omega)
 refine c_cut (Γ := Option Addr × Nat) (fun k => [(0, .slice sl bs.length c), (1, .int .i64 n), (6, .int .u64 least), (8, .slice k.1 (getsL n q.toNat ⟨bitsB (bs.drop (i + 1)), false⟩).length k.2)])
  (fun k w => St w0 (OwnU k.1 k.2 (getsL n q.toNat ⟨bitsB (bs.drop (i + 1)), false⟩) :: l) w) ?_ ?_
 ·refine c_any none (fun w => St w0 l w) (by kernel_rfl) (by kernel_rfl) h.drew fun w h => ?_
  refine cur_pure rfl rfl rfl rfl (fun _ => h) (fun _ => flt_v rfl (q_moveS rfl)) ?_; refine cur_pure rfl rfl rfl rfl (fun _ => h) (fun _ => flt_v rfl (q_moveI rfl)) ?_
  refine cur_pure rfl rfl rfl rfl (fun _ => h) (fun _ => flt_v rfl (q_is (v' := .int .i64 ((i + 1 : Nat) : Int)) (q_add rfl rfl) (by rw [wrap64 (by omega) (by omega)]; rfl))) ?_
  refine cur_pure rfl rfl rfl rfl (fun _ => h) (fun _ => flt_v rfl (q_is (v' := .slice (adv sl ((i + 1) * 1) (Nat.beq c (i + 1))) (bs.drop (i + 1)).length (c - (i + 1))) (q_tail (i := i + 1) rfl rfl hil) (by rw [List.length_drop]; rfl))) ?_
  refine cur_pure rfl rfl rfl rfl (fun _ => h) (fun _ => flt_v rfl (q_moveI rfl)) ?_; refine cur_pure rfl rfl rfl rfl (fun _ => h) (fun _ => flt_v rfl (q_moveS rfl)) ?_; refine cur_pure rfl rfl rfl rfl (fun _ => h) (fun _ => flt_v rfl (q_moveI rfl)) ?_
  refine cur_pure rfl rfl rfl rfl (fun _ => h) (fun _ => flt_v rfl (q_idx (b := b) (o := o) (m := bs.length) (c := c) (o' := o + i) (by rw [← hsl]; rfl) rfl rfl hil (by simp))) ?_
  refine cur_float rfl rfl rfl rfl h (fun w h => flt_v rfl (q_loadc (v := .int .u8 q.toNat) rfl ((hsl ▸ hr.at_ h).cell (bytesV_get hg)))) ?_
  refine cur_pure rfl rfl rfl rfl (fun _ => h) (fun _ => flt_v rfl (q_is (v' := .int .i64 (q.toNat : Int)) (q_conv rfl) (by rw [wrap64 (by omega) (by omega)]))) ?_
  refine cur_skip ?_; refine cur_skip ?_
  refine cur_one 10 rfl rfl rfl rfl ?_
  refine (x_call rfl (ref4_unpack hn hq64 (by rw [List.length_drop]; omega) hrt h) ?_)
  rintro _ w ⟨ua, uc, rfl, hs⟩
  replace h := hs.drop
  refine ⟨fun _ => h, ?_⟩
  refine cur_pure rfl rfl rfl rfl (fun _ => h) (fun _ => flt_v rfl (q_assignS rfl)) ?_
  exact cur_end ⟨(ua, uc), ⟨rfl, rfl, rfl, rfl, trivial⟩, hs⟩
 clear h
 have hUl := getsL_len n q.toNat ⟨bitsB (bs.drop (i + 1)), false⟩
 have hU64 := getsL_lt hq64 n ⟨bitsB (bs.drop (i + 1)), false⟩
 have hga := getAll_gets n q.toNat ⟨bitsB (bs.drop (i + 1)), false⟩
 generalize getsL n q.toNat ⟨bitsB (bs.drop (i + 1)), false⟩ = U at hUl hU64 hga ⊢
 generalize getAll n q.toNat ⟨bitsB (bs.drop (i + 1)), false⟩ = G at hga hdef
 rintro ⟨ua, uc⟩ w e h
 dsimp only at h ⊢
 refine c_cut (Γ := Unit) (fun _ => [(0, .slice sl bs.length c), (8, .slice ua (U.map fun y => summ least y).length uc)]) (fun _ w => St w0 (OwnU ua uc (U.map fun y => summ least y) :: l) w) ?_ ?_
 ·refine c_seq (c_region ?_)
  refine r_v (q_assignI rfl) rfl ?_
  refine r_nil ?_
  refine c_block ?_
  refine c_loop (Γ := Nat) (fun k => [(0, .slice sl bs.length c), (1, .int .i64 n), (6, .int .u64 least), (8, .slice ua U.length uc), (9, .int .i64 k)])
   (fun k w => k ≤ n ∧ St w0 (Own 51 1 ua U.length uc (u64V ((U.take k).map (fun y => summ least y) ++ U.drop k)) :: l) w) (fun k => n - k) 0 ⟨rfl, rfl, rfl, rfl, rfl, trivial⟩ ⟨Nat.zero_le _, by simpa using h⟩ ?_
  clear h
  rintro k w e ⟨hk, h⟩
  refine c_seq (c_seq (c_region ?_))
  refine r_v (q_moveI rfl) rfl ?_; refine r_v (q_moveI rfl) rfl ?_; refine r_v (q_lss rfl rfl) rfl ?_
  by_cases hlt : k < n
  ·refine r_is (.bool true) (by simp; omega) ?_
   refine r_nil (c_true rfl (c_skip ?_))
   have hgz := List.getElem?_eq_getElem (show k < U.length by omega)
   generalize U[k]'(by omega) = z at hgz
   have hz := hU64 z (List.mem_of_getElem? hgz)
   have hgz2 := half_get (fun y => summ least y) U hgz
   have hst := half_set (fun y => summ least y) U hgz
   generalize (U.take k).map (fun y => summ least y) ++ U.drop k = X at h hgz2 hst
   obtain ⟨g, rfl⟩ := h.own_some (by omega)
   refine c_seq (c_block ?_)
   refine c_region ?_
   refine r_v (q_moveS rfl) rfl ?_; refine r_v (q_moveI rfl) rfl ?_; refine r_v (q_moveS rfl) rfl ?_; refine r_v (q_moveI rfl) rfl ?_
   refine r_v (q_idx (b := g) (o := 0) (m := U.length) (c := uc) (o' := k) rfl rfl rfl (by omega) (by simp)) rfl ?_
   refine r_v (q_loadc (v := .int .u64 (z : Int)) rfl (by have := h.own_rd.cell (u64V_get hgz2); simpa using this)) rfl ?_
   refine r_v (q_moveI rfl) rfl ?_; refine r_v (q_add rfl rfl) rfl ?_
   refine r_is (.int .u64 (summ least z : Nat)) (by rw [← wrap_summ]; congr 2; omega) ?_
   refine r_v (q_idx (b := g) (o := 0) (m := U.length) (c := uc) (o' := k) rfl rfl rfl (by omega) (by simp)) rfl ?_
   refine r_c rfl (x_ownset (v := .int .u64 (summ least z : Nat)) h rfl rfl (by simp [u64V]; have := (List.getElem?_eq_some_iff.1 hgz2).1; omega) rfl fun w h => ?_)
   refine r_nil ?_
   refine c_region ?_
   refine r_v (q_moveI rfl) rfl ?_; refine r_v (q_add rfl rfl) rfl ?_
   refine r_is (.int .i64 ((k + 1 : Nat) : Int)) (by rw [wrap64 (by omega) (by omega)]; rfl) ?_
   refine r_v (q_assignI rfl) rfl ?_
   refine r_nil ⟨k + 1, ⟨rfl, rfl, rfl, rfl, rfl, trivial⟩, ⟨hlt, ?_⟩, by omega⟩
   rw [← hst]
   have : u64V (X.set k (summ least z)) = (u64V X).set k (.int .u64 (summ least z : Nat)) := by unfold u64V; rw [List.map_set]
   rw [this]
   exact h
  ·refine r_is (.bool false) (by simp; omega) ?_
   refine r_nil (c_false rfl ?_)
   rw [show k = U.length by omega, List.take_length, List.drop_length, List.append_nil] at h
   refine c_exit ⟨(), ⟨rfl, (by show Value.slice _ _ _ = Value.slice _ _ _; rw [List.length_map]), trivial⟩, ?_⟩
   show St w0 (Own _ 1 ua (U.map fun y => summ least y).length uc _ :: l) w
   rw [List.length_map]; exact h
 clear h
 rintro ⟨⟩ w e h
 have hml : (U.map fun y => summ least y).length = n := by rw [List.length_map, hUl]
 have hmlt : ∀ x ∈ U.map (fun y => summ least y), x < 18446744073709551616 := fun x hx => by
  obtain ⟨y, _, rfl⟩ := List.mem_map.1 hx
  exact Nat.mod_lt _ (by decide)
 have hdef2 : frameDec bs n = if frameEnc (U.map fun y => summ least y) = bs then some (U.map fun y => summ least y) else none := by
  by_cases hE : frameEnc (U.map fun y => summ least y) = bs
  ·rw [if_pos hE, ← hE, ← hml]
   exact frameDec_told hmlt
  ·rw [if_neg hE, hdef]
   cases G with
   | none => rfl
   | some x => dsimp only; rw [← hga x rfl, if_neg hE]
 generalize U.map (fun y => summ least y) = out at hml hmlt hdef2 h ⊢
 refine c_seq (c_seq (c_any none (fun w => St w0 _ w) (by kernel_rfl) (by kernel_rfl) h.drew fun w h => ?_))
 refine cur_pure rfl rfl rfl rfl (fun _ => h) (fun _ => flt_v rfl (q_moveS rfl)) ?_; refine cur_skip ?_; refine cur_skip ?_; refine cur_pure rfl rfl rfl rfl (fun _ => h) (fun _ => flt_v rfl (q_moveS rfl)) ?_
 refine cur_float rfl rfl rfl rfl h (fun w h => flt_v rfl (q_btos (bs := bs) rfl (hr.cons.at_ h))) ?_
 refine cur_skip ?_
 refine cur_one 1 rfl rfl rfl rfl ?_
 refine (x_call rfl (ref4_Frame hmlt (by omega) Reads.own h) ?_)
 rintro _ w ⟨fa, fc, rfl, hs⟩
 refine ⟨fun _ => hs.drop, ?_⟩
 refine cur_skip ?_; refine cur_skip ?_
 refine cur_one 2 rfl rfl rfl rfl ?_
 refine x_v (q_btos (bs := frameEnc out) rfl hs.own_rd) ⟨fun _ => hs.drop, ?_⟩
 replace h := hs.drop
 refine cur_pure rfl rfl rfl rfl (fun _ => h) (fun _ => flt_v rfl (q_strne rfl rfl)) ?_
 rw [strB_eq]
 refine cur_end ?_
 refine c_cond (!decide (frameEnc out = bs)) rfl (fun hc2 => ?_) (fun hc2 => ?_)
 ·refine c_seq (c_region ?_)
  refine r_v (q_assignS rfl) rfl ?_; refine r_v (q_assignB rfl) rfl ?_
  exact r_nil (c_ret (bq2 (Told.no (by rw [hdef2, if_neg (by simpa using hc2)]) h.drop)))
 refine c_skip ?_
 refine c_seq (c_region ?_)
 refine r_v (q_moveS rfl) rfl ?_; refine r_v (q_assignS rfl) rfl ?_; refine r_v (q_assignB rfl) rfl ?_
 exact r_nil (c_ret (bq2 ⟨ua, uc, out, true, rfl, by rw [hdef2, if_pos (by simpa using hc2)]; rfl, fun _ => ⟨hml, hmlt⟩, h⟩))
end
end Go.Proofs.YtjjacchnalemaaaGreatDoor

namespace Go.Proofs.YtjjacchnalemaaaGreatDoor
open Go.Hw
set_option maxHeartbeats 4000000
set_option maxRecDepth 100000
section
variable {w0 w : World} {l : List HProp}
theorem ref4_GetDict {sl : Option Addr} {c : Nat} {bs : List UInt8} {n : Nat} (hn : n ≤ 65535) (hbn : bs.length ≤ 140737488355328) (hc : bs.length ≤ c) (hr : Reads w0 l 1 sl bs.length (bytesV bs)) (h : St w0 l w) :
  Ret Tryz.prog 99 [.slice sl bs.length c, .int .i64 (n : Int)] w fun v w' => Told w0 l n (dictDec bs n) v w' := by
 have hdef : dictDec bs n = _ := rfl
 conv at hdef => rhs; unfold dictDec
 refine enter Tryz.func99 rfl Tryz.results99 Tryz.ntmps99 rfl ?_
 refine c_seq (c_region ?_)
 refine r_v (q_assignS rfl) rfl ?_; refine r_v (q_assignB rfl) rfl ?_
 refine r_nil ?_
 refine c_seq (c_region ?_)
 refine r_v (q_moveI rfl) rfl ?_
 refine r_c rfl (x_call rfl (ref4_held n h) ?_)
 rw [askN_nat hn]
 rintro _ w ⟨rfl, h⟩
 refine r_v (q_assignI rfl) rfl ?_
 refine r_nil ?_
 refine c_seq (c_seq (c_region ?_))
 refine r_v (q_moveI rfl) rfl ?_; refine r_v (q_eql rfl rfl) rfl ?_
 by_cases hn0 : n = 0
 ·refine r_is (.bool true) (by rw [hn0]; rfl) ?_
  refine r_nil (c_true rfl ?_)
  refine c_seq (c_region ?_)
  refine r_v (q_moveS rfl) rfl ?_; refine r_v (q_len rfl) rfl ?_; refine r_v (q_eql rfl rfl) rfl ?_
  refine r_is (.bool (decide (bs = []))) (by congr 1; rw [Bool.eq_iff_iff]; simp) ?_
  refine r_v (q_assignS rfl) rfl ?_; refine r_v (q_assignB rfl) rfl ?_
  refine r_nil (c_ret (bq2 (Told.nil hn0 (by rw [hdef, if_pos hn0]) h)))
 refine r_is (.bool false) (by congr 1; rw [beq_eq_false_iff_ne]; omega) ?_
 refine r_nil (c_false rfl (c_skip ?_))
 rw [if_neg hn0] at hdef
 have hk := vget_le bs
 have hm := vget_lt bs
 refine c_seq (c_region ?_)
 refine r_v (q_moveS rfl) rfl ?_
 refine r_c rfl (x_call rfl (ref1_Get h hr hbn) ?_)
 rintro _ w ⟨rfl, h⟩
 refine r_v (q_moveT rfl) rfl ?_; refine r_v (q_ext rfl rfl) rfl ?_; refine r_v (q_ext rfl rfl) rfl ?_; refine r_v (q_assignI rfl) rfl ?_; refine r_v (q_assignI rfl) rfl ?_
 refine r_nil ?_
 generalize (vget bs).1 = x at hm hdef ⊢
 generalize (vget bs).2 = i at hk hdef ⊢
 have hrt := hr.tailB hk hc
 have fin : ∀ {w : World}, (i = 0 ∨ x = 0 ∨ 256 < x) → St w0 l w → Told w0 l n (dictDec bs n) (.tuple [.slice none 0 0, .bool false].toArray) w := fun hb h => Told.no (by rw [hdef, if_pos hb]) h
 refine c_cut (Γ := Unit) (fun _ => [(0, .slice sl bs.length c), (1, .int .i64 n), (6, .int .u64 x), (7, .int .i64 i)]) (fun _ w => ¬ (i = 0 ∨ x = 0 ∨ 256 < x) ∧ St w0 l w) ?_ ?_
 ·refine c_seq (c_region ?_)
  by_cases g1 : i = 0
  ·refine r_v (q_moveI rfl) rfl ?_
   refine r_v (q_is (v' := .bool true) (q_eql rfl rfl) (by rw [g1]; rfl)) rfl ?_
   refine r_v (q_moveB rfl) rfl ?_; refine r_gn rfl rfl rfl ?_; refine r_gn rfl rfl rfl ?_; refine r_v (q_pick1 rfl rfl rfl) rfl ?_; refine r_v (q_moveB rfl) rfl ?_; refine r_gn rfl rfl rfl ?_; refine r_gn rfl rfl rfl ?_; refine r_v (q_pick1 rfl rfl rfl) rfl ?_
   refine r_nil (c_true rfl ?_)
   refine c_seq (c_region ?_)
   refine r_v (q_assignS rfl) rfl ?_; refine r_v (q_assignB rfl) rfl ?_
   exact r_nil (c_ret (bq2 (fin (.inl g1) h)))
  refine r_v (q_moveI rfl) rfl ?_
  refine r_v (q_is (v' := .bool false) (q_eql rfl rfl) (by congr 1; rw [beq_eq_false_iff_ne]; omega)) rfl ?_
  refine r_v (q_moveB rfl) rfl ?_; refine r_gd rfl rfl ?_; refine r_v (q_moveI rfl) rfl ?_; refine r_gd rfl rfl ?_
  by_cases g2 : x = 0
  ·refine r_v (q_is (v' := .bool true) (q_eql rfl rfl) (by rw [g2]; rfl)) rfl ?_
   refine r_v (q_pick0 rfl rfl rfl) rfl ?_; refine r_v (q_moveB rfl) rfl ?_; refine r_gn rfl rfl rfl ?_; refine r_gn rfl rfl rfl ?_; refine r_v (q_pick1 rfl rfl rfl) rfl ?_
   refine r_nil (c_true rfl ?_)
   refine c_seq (c_region ?_)
   refine r_v (q_assignS rfl) rfl ?_; refine r_v (q_assignB rfl) rfl ?_
   exact r_nil (c_ret (bq2 (fin (.inr (.inl g2)) h)))
  refine r_v (q_is (v' := .bool false) (q_eql rfl rfl) (by congr 1; rw [beq_eq_false_iff_ne]; omega)) rfl ?_
  refine r_v (q_pick0 rfl rfl rfl) rfl ?_; refine r_v (q_moveB rfl) rfl ?_; refine r_gd rfl rfl ?_; refine r_v (q_moveI rfl) rfl ?_; refine r_gd rfl rfl ?_; refine r_v (q_gtr rfl rfl) rfl ?_; refine r_v (q_pick0 rfl rfl rfl) rfl ?_
  refine r_nil (c_cond (decide ((x : Int) > 256)) rfl (fun hc1 => ?_) (fun hc1 => ?_))
  ·refine c_seq (c_region ?_)
   refine r_v (q_assignS rfl) rfl ?_; refine r_v (q_assignB rfl) rfl ?_
   exact r_nil (c_ret (bq2 (fin (.inr (.inr (by simp at hc1; omega))) h)))
  ·exact c_skip ⟨(), ⟨rfl, rfl, rfl, rfl, trivial⟩, by simp at hc1; omega, h⟩
 clear h
 rintro _ w e ⟨hcond, h⟩
 rw [if_neg hcond] at hdef
 refine c_seq (c_region ?_)
 refine r_v (q_moveS rfl) rfl ?_; refine r_v (q_moveI rfl) rfl ?_
 refine r_v (q_tail (i := i) rfl rfl hk) rfl ?_
 show Rn _ _ _ _ _ (upd _ _ (.slice (adv sl (i * 1) (Nat.beq c i)) (bs.length - i) (c - i))) _
 rw [← List.length_drop]
 refine r_v (q_assignS rfl) rfl ?_
 refine r_nil ?_
 refine c_seq (c_region ?_)
 refine r_v (q_assignS rfl) rfl ?_
 refine r_nil ?_
 generalize hG : getVs x (bs.drop i) = G at hdef
 refine c_cut (Γ := List Nat × List UInt8 × Option Addr × Nat × Option Addr × Nat) (fun k => [(0, .slice sl bs.length c), (1, .int .i64 n), (6, .int .u64 x), (8, .slice k.2.2.1 k.2.1.length k.2.2.2.1), (9, .slice k.2.2.2.2.1 k.1.length k.2.2.2.2.2)])
  (fun k w => G = some (k.1, k.2.1) ∧ k.1.length = x ∧ (∀ y ∈ k.1, y < 18446744073709551616) ∧ k.2.1.length ≤ bs.length ∧ k.2.1.length ≤ k.2.2.2.1 ∧ Reads w0 l 1 k.2.2.1 k.2.1.length (bytesV k.2.1) ∧ St w0 (OwnU k.2.2.2.2.1 k.2.2.2.2.2 k.1 :: l) w) ?_ ?_
 ·refine c_seq (c_region ?_)
  refine r_v (q_assignI rfl) rfl ?_
  refine r_nil ?_
  refine c_block ?_
  refine c_loop (Γ := Nat × List Nat × List UInt8 × Option Addr × Nat × Option Addr × Nat) (fun k => [(0, .slice sl bs.length c), (1, .int .i64 n), (6, .int .u64 x), (8, .slice k.2.2.2.1 k.2.2.1.length k.2.2.2.2.1), (9, .slice k.2.2.2.2.2.1 k.2.1.length k.2.2.2.2.2.2), (10, .int .u64 k.1)])
   (fun k w => k.1 ≤ x ∧ k.2.1.length = k.1 ∧ (∀ y ∈ k.2.1, y < 18446744073709551616) ∧ G = (getVs (x - k.1) k.2.2.1).map (fun q => (k.2.1 ++ q.1, q.2)) ∧ k.2.2.1.length ≤ bs.length ∧ k.2.2.1.length ≤ k.2.2.2.2.1 ∧ Reads w0 l 1 k.2.2.2.1 k.2.2.1.length (bytesV k.2.2.1) ∧ St w0 (OwnU k.2.2.2.2.2.1 k.2.2.2.2.2.2 k.2.1 :: l) w)
   (fun k => x - k.1) (0, [], bs.drop i, adv sl (i * 1) (Nat.beq c i), c - i, none, 0) ⟨rfl, rfl, rfl, rfl, rfl, rfl, trivial⟩ ⟨Nat.zero_le _, rfl, (fun _ h => by cases h), (by rw [← hG]; simp), (by dsimp only; rw [List.length_drop]; omega), (by dsimp only; rw [List.length_drop]; omega), hrt, St.ownNil _ _ h⟩ ?_
  clear h
  rintro ⟨k, vals, rest, ra, rc, va, vc⟩ w e ⟨hkx, hvl, hv, inv, hrl, hrc, hrr, h⟩
  dsimp only at hkx hvl hv inv hrl hrc hrr h ⊢
  refine c_seq (c_seq (c_region ?_))
  refine r_v (q_moveI rfl) rfl ?_; refine r_v (q_moveI rfl) rfl ?_; refine r_v (q_lss rfl rfl) rfl ?_
  refine r_nil ?_
  refine c_cond (decide ((k : Int) < (x : Int))) rfl (fun hc1 => ?_) (fun hc1 => ?_)
  ·have hlt : k < x := by simp at hc1; omega
   rw [show x - k = (x - (k + 1)) + 1 by omega, getVs] at inv
   have hk2 := vget_le rest
   have hy := vget_lt rest
   refine c_skip ?_
   refine c_seq (c_block ?_)
   refine c_seq (c_region ?_)
   refine r_v (q_moveS rfl) rfl ?_
   refine r_c rfl (x_call rfl (ref1_Get h hrr.cons (by omega)) ?_)
   rintro _ w ⟨rfl, h⟩
   refine r_v (q_moveT rfl) rfl ?_; refine r_v (q_ext rfl rfl) rfl ?_; refine r_v (q_ext rfl rfl) rfl ?_; refine r_v (q_assignI rfl) rfl ?_; refine r_v (q_assignI rfl) rfl ?_
   refine r_nil ?_
   generalize (vget rest).1 = y at hy inv ⊢
   generalize (vget rest).2 = j at hk2 inv ⊢
   refine c_seq (c_seq (c_region ?_))
   refine r_v (q_moveI rfl) rfl ?_; refine r_v (q_eql rfl rfl) rfl ?_
   by_cases hj0 : j = 0
   ·refine r_is (.bool true) (by rw [hj0]; rfl) ?_
    refine r_nil (c_true rfl ?_)
    refine c_seq (c_region ?_)
    refine r_v (q_assignS rfl) rfl ?_; refine r_v (q_assignB rfl) rfl ?_
    rw [if_pos hj0, Option.map_none] at inv
    exact r_nil (c_ret (bq2 (Told.no (by rw [hdef, inv]) h.drop)))
   refine r_is (.bool false) (by congr 1; rw [beq_eq_false_iff_ne]; omega) ?_
   refine r_nil (c_false rfl (c_skip ?_))
   rw [if_neg hj0, Option.map_map] at inv
   refine c_seq (c_region ?_)
   refine r_v (q_moveS rfl) rfl ?_; refine r_v (q_moveI rfl) rfl ?_
   refine r_app1 (v := .int .u64 (y : Int)) (m3 := (vals ++ [y]).length) (zs := u64V (vals ++ [y])) h rfl rfl rfl rfl rfl (by simp) (by simp [u64V, vcells]) (by simp; omega) (by simp; omega) rfl rfl rfl rfl rfl fun b2 a2 c2 w _ h => ?_
   refine r_v (q_assignS rfl) rfl ?_
   refine r_nil ?_
   refine c_region ?_
   refine r_v (q_moveS rfl) rfl ?_; refine r_v (q_moveI rfl) rfl ?_
   refine r_v (q_tail (i := j) rfl rfl hk2) rfl ?_
   show Rn _ _ _ _ _ (upd _ _ (.slice (adv ra (j * 1) (Nat.beq rc j)) (rest.length - j) (rc - j))) _
   rw [← List.length_drop]
   refine r_v (q_assignS rfl) rfl ?_
   refine r_nil ?_
   refine c_region ?_
   refine r_v (q_moveI rfl) rfl ?_; refine r_v (q_add rfl rfl) rfl ?_
   refine r_is (.int .u64 ((k + 1 : Nat) : Int)) (congrArg (Value.int .u64) (conv_nat (x := k + 1) (by omega))) ?_
   refine r_v (q_assignI rfl) rfl ?_
   refine r_nil ⟨(k + 1, vals ++ [y], rest.drop j, adv ra (j * 1) (Nat.beq rc j), rc - j, a2, c2), ⟨rfl, rfl, rfl, rfl, rfl, rfl, trivial⟩, ⟨hlt, by simp; omega, ?_, ?_, by dsimp only; rw [List.length_drop]; omega, by dsimp only; rw [List.length_drop]; omega, hrr.tailB hk2 hrc, h⟩, by dsimp only; omega⟩
   ·intro z hz
    rcases List.mem_append.1 hz with hz | hz
    ·exact hv z hz
    ·rw [show z = y by simpa using hz]; exact hy
   ·rw [inv]
    congr 1
    funext q
    simp
  ·have hkx2 : k = x := by simp at hc1; omega
   rw [hkx2, Nat.sub_self, getVs, Option.map_some, List.append_nil] at inv
   exact c_exit ⟨(vals, rest, ra, rc, va, vc), ⟨rfl, rfl, rfl, rfl, rfl, trivial⟩, inv, by dsimp only; omega, hv, hrl, hrc, hrr, h⟩
 clear h
 rintro ⟨vals, rest, ra, rc, va, vc⟩ w e ⟨hG2, hvl, hv64, hrl, hrc, hrr, h⟩
 dsimp only at hG2 hvl hv64 hrl hrc hrr h ⊢
 rw [hG2] at hdef
 dsimp only at hdef
 subst hvl
 have hw64 : len64 (vals.length - 1) ≤ 64 := len64_64 (by omega)
 refine c_seq (c_region ?_)
 refine r_v (q_moveS rfl) rfl ?_; refine r_v (q_moveI rfl) rfl ?_; refine r_v (q_moveI rfl) rfl ?_; refine r_v (q_sub rfl rfl) rfl ?_
 refine r_is (.int .u64 ((vals.length - 1 : Nat) : Int)) (by rw [show ((vals.length : Nat) : Int) - 1 = ((vals.length - 1 : Nat) : Int) by omega, wrap_u64, Nat.mod_eq_of_lt (by omega)]) ?_
 refine r_c rfl (x_call rfl (ref4_width (x := vals.length - 1) (by omega) h) ?_)
 rintro _ w ⟨rfl, h⟩
 refine r_c rfl (x_call rfl (ref4_unpack hn hw64 (by omega) hrr.cons h) ?_)
 have hUl := getsL_len n (len64 (vals.length - 1)) ⟨bitsB rest, false⟩
 have hU64 := getsL_lt hw64 n ⟨bitsB rest, false⟩
 have hga := getAll_gets n (len64 (vals.length - 1)) ⟨bitsB rest, false⟩
 generalize getsL n (len64 (vals.length - 1)) ⟨bitsB rest, false⟩ = U at hUl hU64 hga ⊢
 generalize getAll n (len64 (vals.length - 1)) ⟨bitsB rest, false⟩ = G at hga hdef
 rintro _ w ⟨ua, uc, rfl, h⟩
 refine r_v (q_assignS rfl) rfl ?_
 refine r_nil ?_
 refine c_seq (c_region ?_)
 refine r_v (q_assignS rfl) rfl ?_
 refine r_nil ?_
 refine c_cut (Γ := Option Addr × Nat) (fun q => [(0, .slice sl bs.length c), (14, .slice q.1 (U.map fun a => vals.getD a 0).length q.2)]) (fun q w => (∀ a ∈ U, a < vals.length) ∧ St w0 (OwnU q.1 q.2 (U.map fun a => vals.getD a 0) :: l) w) ?_ ?_
 ·refine c_seq (c_region ?_)
  refine r_v (q_assignI rfl) rfl ?_
  refine r_nil ?_
  refine c_block ?_
  refine c_loop (Γ := Nat × Option Addr × Nat) (fun k => [(0, .slice sl bs.length c), (1, .int .i64 n), (6, .int .u64 vals.length), (9, .slice va vals.length vc), (13, .slice ua U.length uc), (14, .slice k.2.1 ((U.take k.1).map fun a => vals.getD a 0).length k.2.2), (15, .int .i64 k.1)])
   (fun k w => k.1 ≤ n ∧ (∀ a ∈ U.take k.1, a < vals.length) ∧ St w0 (OwnU k.2.1 k.2.2 ((U.take k.1).map fun a => vals.getD a 0) :: OwnU ua uc U :: OwnU va vc vals :: l) w) (fun k => n - k.1) (0, none, 0) ⟨rfl, rfl, rfl, rfl, rfl, rfl, rfl, trivial⟩ ⟨Nat.zero_le _, (fun a h => by simp at h), St.ownNil _ _ h⟩ ?_
  clear h
  rintro ⟨k, oa, oc⟩ w e ⟨hk, hall, h⟩
  dsimp only at hk hall h ⊢
  refine c_seq (c_seq (c_region ?_))
  refine r_v (q_moveI rfl) rfl ?_; refine r_v (q_moveI rfl) rfl ?_; refine r_v (q_lss rfl rfl) rfl ?_
  by_cases hlt : k < n
  ·refine r_is (.bool true) (by simp; omega) ?_
   refine r_nil (c_true rfl (c_skip ?_))
   have hgz := List.getElem?_eq_getElem (show k < U.length by omega)
   generalize U[k]'(by omega) = z at hgz
   have hz := hU64 z (List.mem_of_getElem? hgz)
   have hst : (U.take (k + 1)).map (fun a => vals.getD a 0) = (U.take k).map (fun a => vals.getD a 0) ++ [vals.getD z 0] := by rw [List.take_add_one, hgz]; simp
   have htl : ((U.take k).map (fun a => vals.getD a 0)).length = k := by simp; omega
   obtain ⟨g, rfl⟩ := (h.f 1).own_some (by omega)
   refine c_seq (c_block ?_)
   refine c_seq (c_seq (c_region ?_))
   refine r_v (q_moveS rfl) rfl ?_; refine r_v (q_moveI rfl) rfl ?_
   refine r_v (q_idx (b := g) (o := 0) (m := U.length) (c := uc) (o' := k) rfl rfl rfl (by omega) (by simp)) rfl ?_
   refine r_v (q_loadc (v := .int .u64 (z : Int)) rfl (by have := (h.f 1).own_rd.cell (u64V_get hgz); simpa using this)) rfl ?_
   refine r_v (q_moveI rfl) rfl ?_; refine r_v (q_geq rfl rfl) rfl ?_
   by_cases hzl : vals.length ≤ z
   ·refine r_is (.bool true) (by congr 1; rw [decide_eq_true_eq]; omega) ?_
    refine r_nil (c_true rfl ?_)
    refine c_seq (c_region ?_)
    refine r_v (q_assignS rfl) rfl ?_; refine r_v (q_assignB rfl) rfl ?_
    refine r_nil (c_ret (bq2 (Told.no ?_ h.drop.drop.drop)))
    rw [hdef]
    cases G with
    | none => rfl
    | some y => dsimp only; rw [← hga y rfl, pickAll_none U z (List.mem_of_getElem? hgz) hzl]
   refine r_is (.bool false) (by congr 1; rw [decide_eq_false_iff_not]; omega) ?_
   refine r_nil (c_false rfl (c_skip ?_))
   have hgv : vals[z]? = some (vals.getD z 0) := by rw [List.getD, List.getElem?_eq_getElem (by omega)]; rfl
   obtain ⟨g2, rfl⟩ := (h.f 2).own_some (by omega)
   refine c_region ?_
   refine r_v (q_moveS rfl) rfl ?_; refine r_v (q_moveS rfl) rfl ?_; refine r_v (q_moveS rfl) rfl ?_; refine r_v (q_moveI rfl) rfl ?_
   refine r_v (q_idx (b := g) (o := 0) (m := U.length) (c := uc) (o' := k) rfl rfl rfl (by omega) (by simp)) rfl ?_
   refine r_v (q_loadc (v := .int .u64 (z : Int)) rfl (by have := (h.f 1).own_rd.cell (u64V_get hgz); simpa using this)) rfl ?_
   refine r_v (q_idx (b := g2) (o := 0) (m := vals.length) (c := vc) (o' := z) rfl rfl rfl (by omega) (by simp)) rfl ?_
   refine r_v (q_loadc (v := .int .u64 (vals.getD z 0 : Nat)) rfl (by have := (h.f 2).own_rd.cell (u64V_get hgv); simpa using this)) rfl ?_
   refine r_app1 (v := .int .u64 (vals.getD z 0 : Nat)) (m3 := ((U.take (k + 1)).map fun a => vals.getD a 0).length) (zs := u64V ((U.take (k + 1)).map fun a => vals.getD a 0)) h rfl rfl rfl rfl rfl (by rw [hst]; simp) (by rw [hst]; simp [u64V, vcells]) (by simp; omega) (by simp; omega) rfl rfl rfl rfl rfl fun b2 a2 c2 w _ h => ?_
   refine r_v (q_assignS rfl) rfl ?_
   refine r_nil ?_
   refine c_region ?_
   refine r_v (q_moveI rfl) rfl ?_; refine r_v (q_add rfl rfl) rfl ?_
   refine r_is (.int .i64 ((k + 1 : Nat) : Int)) (by rw [wrap64 (by omega) (by omega)]; rfl) ?_
   refine r_v (q_assignI rfl) rfl ?_
   refine r_nil ⟨(k + 1, a2, c2), ⟨rfl, rfl, rfl, rfl, rfl, rfl, rfl, trivial⟩, ⟨hlt, fun a ha => ?_, h⟩, by dsimp only; omega⟩
   dsimp only at ha
   rw [List.take_add_one, hgz] at ha
   rcases List.mem_append.1 ha with ha | ha
   ·exact hall a ha
   ·rw [show a = z by simpa using ha]; omega
  ·refine r_is (.bool false) (by simp; omega) ?_
   refine r_nil (c_false rfl ?_)
   rw [show k = U.length by omega, List.take_length] at h hall
   refine c_exit ⟨(oa, oc), ⟨rfl, ?_, trivial⟩, hall, h.x [1, 2]⟩
   show Value.slice _ _ _ = Value.slice _ _ _
   rw [show k = U.length by omega, List.take_length]
 clear h
 rintro ⟨oa, oc⟩ w e ⟨hall, h⟩
 dsimp only at h ⊢
 have hml : (U.map fun a => vals.getD a 0).length = n := by rw [List.length_map, hUl]
 have hmlt : ∀ x ∈ U.map (fun a => vals.getD a 0), x < 18446744073709551616 := fun x hx => by
  obtain ⟨y, hy, rfl⟩ := List.mem_map.1 hx
  have := hall y hy
  rw [List.getD, List.getElem?_eq_getElem this]
  exact hv64 _ (List.getElem_mem _)
 have hdef2 : dictDec bs n = if dictEnc (U.map fun a => vals.getD a 0) = some bs then some (U.map fun a => vals.getD a 0) else none := by
  by_cases hE : dictEnc (U.map fun a => vals.getD a 0) = some bs
  ·rw [if_pos hE, ← hml]
   exact dictDec_told hmlt hE
  ·rw [if_neg hE, hdef]
   cases G with
   | none => rfl
   | some x => dsimp only; rw [← hga x rfl, pickAll_map U hall]; dsimp only; rw [if_neg hE]
 generalize U.map (fun a => vals.getD a 0) = out at hml hmlt hdef2 h ⊢
 refine c_seq (c_region ?_)
 refine r_v (q_moveS rfl) rfl ?_
 refine r_c rfl (x_call rfl (ref4_Dict hmlt (by omega) Reads.own h) ?_)
 rintro _ w ⟨da, dc, rfl, h⟩
 refine r_v (q_moveT rfl) rfl ?_; refine r_v (q_ext rfl rfl) rfl ?_; refine r_v (q_ext rfl rfl) rfl ?_; refine r_v (q_assignS rfl) rfl ?_; refine r_v (q_assignB rfl) rfl ?_
 refine r_nil ?_
 refine c_seq (c_seq (c_region ?_))
 cases hE : dictEnc out with
 | none =>
  refine r_v (q_moveB rfl) rfl ?_; refine r_v (q_not rfl) rfl ?_; refine r_v (q_moveB rfl) rfl ?_; refine r_gn rfl rfl rfl ?_; refine r_gn rfl rfl rfl ?_; refine r_gn rfl rfl rfl ?_; refine r_gn rfl rfl rfl ?_; refine r_gn rfl rfl rfl ?_; refine r_v (q_pick1 rfl rfl rfl) rfl ?_
  refine r_nil (c_true rfl ?_)
  refine c_seq (c_region ?_)
  refine r_v (q_assignS rfl) rfl ?_; refine r_v (q_assignB rfl) rfl ?_
  exact r_nil (c_ret (bq2 (Told.no (by rw [hdef2, hE]; rfl) h.drop.drop)))
 | some d =>
  rw [hE] at h hdef2
  refine r_v (q_moveB rfl) rfl ?_; refine r_v (q_not rfl) rfl ?_; refine r_v (q_moveB rfl) rfl ?_; refine r_gd rfl rfl ?_; refine r_v (q_moveS rfl) rfl ?_; refine r_gd rfl rfl ?_
  refine r_v (q_btos (bs := d) rfl h.own_rd) rfl ?_
  refine r_gd rfl rfl ?_; refine r_v (q_moveS rfl) rfl ?_; refine r_gd rfl rfl ?_
  refine r_v (q_btos (bs := bs) rfl ((hr.more [_, _]).at_ h)) rfl ?_
  refine r_gd rfl rfl ?_; refine r_v (q_strne rfl rfl) rfl ?_
  rw [strB_eq]
  refine r_v (q_pick0 rfl rfl rfl) rfl ?_
  refine r_nil (c_cond (!decide (d = bs)) rfl (fun hc2 => ?_) (fun hc2 => ?_))
  ·refine c_seq (c_region ?_)
   refine r_v (q_assignS rfl) rfl ?_; refine r_v (q_assignB rfl) rfl ?_
   exact r_nil (c_ret (bq2 (Told.no (by rw [hdef2, if_neg (by simpa using hc2)]) h.drop.drop)))
  ·refine c_skip ?_
   refine c_seq (c_region ?_)
   refine r_v (q_moveS rfl) rfl ?_; refine r_v (q_assignS rfl) rfl ?_; refine r_v (q_assignB rfl) rfl ?_
   exact r_nil (c_ret (bq2 ⟨oa, oc, out, true, rfl, by rw [hdef2, if_pos (by simpa using hc2)]; rfl, fun _ => ⟨hml, hmlt⟩, h.drop⟩))
end
end Go.Proofs.YtjjacchnalemaaaGreatDoor

namespace Go.Proofs.YtjjacchnalemaaaGreatDoor
open Go.Hw
set_option maxHeartbeats 4000000
set_option maxRecDepth 100000
section
variable {w0 w : World} {l : List HProp}
abbrev ToldE (w0 : World) (l : List HProp) (n : Nat) (D : Option (List Nat)) (v : Value) (w' : World) : Prop := ∃ a c xs b, v = .tuple [.slice a xs.length c, .bool b].toArray ∧ D = (if b = true then some xs else none) ∧ (b = true → xs.length = n) ∧ (∀ x ∈ xs, x < 18446744073709551616) ∧ xs.length ≤ n ∧ St w0 (OwnU a c xs :: l) w'
theorem ToldE.no {n : Nat} {D : Option (List Nat)} (hb : D = none) (h : St w0 l w) : ToldE w0 l n D (.tuple [.slice none 0 0, .bool false].toArray) w := ⟨none, 0, [], false, rfl, hb, (fun h => by cases h), (fun _ h => by cases h), Nat.zero_le _, St.ownNil _ _ h⟩
theorem ref4_GetSimple {sl : Option Addr} {c : Nat} {ws : List Nat} {n : Nat} (hws : ∀ x ∈ ws, x < 18446744073709551616) (hwn : ws.length ≤ 140737488355328) (hn : n ≤ 65535) (hr : Reads w0 l 1 sl ws.length (u64V ws)) (h : St w0 l w) :
  Ret Tryz.prog 95 [.slice sl ws.length c, .int .i64 (n : Int)] w fun v w' => ToldE w0 l n (simpDec ws n) v w' := by
 have hdef := simpDec_loose (ws := ws) (n := n)
 have hLn := looseA_le ws n
 refine enter Tryz.func95 rfl Tryz.results95 Tryz.ntmps95 rfl ?_
 refine c_seq (c_region ?_)
 refine r_v (q_assignS rfl) rfl ?_; refine r_v (q_assignB rfl) rfl ?_
 refine r_nil ?_
 refine c_seq (c_region ?_)
 refine r_v (q_moveI rfl) rfl ?_
 refine r_c rfl (x_call rfl (ref4_held n h) ?_)
 rw [askN_nat hn]
 rintro _ w ⟨rfl, h⟩
 refine r_v (q_assignI rfl) rfl ?_
 refine r_nil ?_
 refine c_seq (c_region ?_)
 refine r_v (q_assignS rfl) rfl ?_
 refine r_nil ?_
 generalize hL : looseA ws n = L at hdef hLn
 refine c_cut (Γ := Option Addr × Nat) (fun q => [(0, .slice sl ws.length c), (1, .int .i64 n), (6, .slice q.1 L.length q.2)]) (fun q w => (∀ x ∈ L, x < 18446744073709551616) ∧ St w0 (OwnU q.1 q.2 L :: l) w) ?_ ?_
 ·refine c_seq (c_region ?_)
  refine r_v (q_assignI rfl) rfl ?_
  refine r_nil ?_
  refine c_block ?_
  refine c_loop (Γ := Nat × List Nat × Option Addr × Nat) (fun k => [(0, .slice sl ws.length c), (1, .int .i64 n), (6, .slice k.2.2.1 k.2.1.length k.2.2.2), (7, .int .i64 k.1)])
   (fun k w => k.1 ≤ ws.length ∧ k.2.1.length ≤ n ∧ (∀ x ∈ k.2.1, x < 18446744073709551616) ∧ L = k.2.1 ++ looseA (ws.drop k.1) (n - k.2.1.length) ∧ St w0 (OwnU k.2.2.1 k.2.2.2 k.2.1 :: l) w)
   (fun k => ws.length - k.1) (0, [], none, 0) ⟨rfl, rfl, rfl, rfl, trivial⟩ ⟨Nat.zero_le _, Nat.zero_le _, (fun _ h => by cases h), hL.symm, St.ownNil _ _ h⟩ ?_
  clear h
  rintro ⟨i, out, oa, oc⟩ w e ⟨hi, hol, hout, inv, h⟩
  dsimp only at hi hol hout inv h ⊢
  refine c_seq (c_seq (c_region ?_))
  refine r_v (q_moveI rfl) rfl ?_; refine r_v (q_moveS rfl) rfl ?_; refine r_v (q_len rfl) rfl ?_; refine r_v (q_lss rfl rfl) rfl ?_
  by_cases hlt : i < ws.length
  ·refine r_is (.bool true) (by simp; omega) ?_
   refine r_v (q_moveB rfl) rfl ?_; refine r_gd rfl rfl ?_; refine r_v (q_moveS rfl) rfl ?_; refine r_gd rfl rfl ?_; refine r_v (q_len rfl) rfl ?_; refine r_gd rfl rfl ?_; refine r_v (q_moveI rfl) rfl ?_; refine r_gd rfl rfl ?_; refine r_v (q_lss rfl rfl) rfl ?_; refine r_v (q_pick1 rfl rfl rfl) rfl ?_
   by_cases hfull : out.length < n
   ·refine r_is (.bool true) (by simp; omega) ?_
    refine r_nil (c_true rfl (c_skip ?_))
    have hg := List.getElem?_eq_getElem hlt
    have hdr := List.drop_eq_getElem_cons hlt
    generalize ws[i] = x at hg hdr
    have hx := hws x (List.mem_of_getElem? hg)
    rw [hdr, looseA, if_neg (by omega)] at inv
    have hkx : x / 1152921504606846976 < 16 := by omega
    obtain ⟨k1, k2, k3, k4⟩ := kinds_le _ hkx
    rw [show (kindsL.getD (x / 1152921504606846976) (0, 0)).1 = kNum (x / 1152921504606846976) from rfl, show (kindsL.getD (x / 1152921504606846976) (0, 0)).2 = kBit (x / 1152921504606846976) from rfl] at inv
    obtain ⟨b, o, hsl⟩ := (hr.cons.at_ h).some (by omega)
    refine c_seq (c_block ?_)
    refine c_seq (c_region ?_)
    refine r_v (q_moveS rfl) rfl ?_; refine r_v (q_moveI rfl) rfl ?_
    refine r_v (q_idx (b := b) (o := o) (m := ws.length) (c := c) (o' := o + i) (by rw [← hsl]; rfl) rfl rfl hlt (by simp)) rfl ?_
    refine r_v (q_loadc (v := .int .u64 (x : Int)) rfl ((hsl ▸ hr.cons.at_ h).cell (u64V_get hg))) rfl ?_
    refine r_v (q_is (v' := .int .u64 ((x / 2 ^ 60 : Nat) : Int)) (q_shr rfl rfl (by omega)) (congrArg (Value.int .u64) (fdiv_nat x 60 64 (by decide)))) rfl ?_
    rw [show x / 2 ^ 60 = x / 1152921504606846976 from rfl]
    refine r_v (q_conv rfl) rfl ?_
    refine r_is (.int .i64 ((x / 1152921504606846976 : Nat) : Int)) (by rw [wrap64 (by omega) (by omega)]) ?_
    refine r_v (q_assignI rfl) rfl ?_
    refine r_nil ?_
    generalize hK : x / 1152921504606846976 = K at inv hkx k1 k2 k3 k4 ⊢
    generalize hM : min (kNum K) (n - out.length) = m at inv
    have hm1 : m ≤ kNum K := by omega
    have hm2 : m ≤ n - out.length := by omega
    refine c_seq (c_region ?_)
    refine r_v (q_assignI rfl) rfl ?_
    refine r_nil ?_
    refine c_block ?_
    refine c_loop (Γ := Nat × Option Addr × Nat) (fun k => [(0, .slice sl ws.length c), (1, .int .i64 n), (6, .slice k.2.1 (out ++ unpackW (x % 1152921504606846976) (kBit K) k.1).length k.2.2), (7, .int .i64 i), (8, .int .i64 K), (9, .int .i64 k.1)])
     (fun k w => k.1 ≤ m ∧ St w0 (OwnU k.2.1 k.2.2 (out ++ unpackW (x % 1152921504606846976) (kBit K) k.1) :: l) w)
     (fun k => m - k.1) (0, oa, oc) ⟨rfl, rfl, (by show Value.slice _ _ _ = Value.slice _ _ _; simp [unpackW]), rfl, rfl, rfl, trivial⟩ ⟨Nat.zero_le _, by simp only [unpackW, List.range_zero, List.map_nil, List.append_nil]; exact h⟩ ?_
    clear h
    rintro ⟨j, oa, oc⟩ w e ⟨hj, h⟩
    dsimp only at hj h ⊢
    have hul : (out ++ unpackW (x % 1152921504606846976) (kBit K) j).length = out.length + j := by rw [List.length_append, unpackW_len]
    have leave : ∀ {w : World}, j = m → St w0 (OwnU oa oc (out ++ unpackW (x % 1152921504606846976) (kBit K) j) :: l) w → (∀ z ∈ out ++ unpackW (x % 1152921504606846976) (kBit K) j, z < 18446744073709551616) ∧ L = (out ++ unpackW (x % 1152921504606846976) (kBit K) j) ++ looseA (ws.drop (i + 1)) (n - (out ++ unpackW (x % 1152921504606846976) (kBit K) j).length) := by
     intro w hjm _
     refine ⟨fun z hz => ?_, ?_⟩
     ·rcases List.mem_append.1 hz with hz | hz
      ·exact hout z hz
      ·exact unpackW_lt k2 z hz
     ·rw [inv, hul, hjm, List.append_assoc, Nat.sub_sub]
    refine c_seq (c_seq (c_region ?_))
    refine r_v (q_moveI rfl) rfl ?_; refine r_v (q_moveI rfl) rfl ?_
    refine r_c rfl (x_call rfl (ref4_numbers hkx h) ?_)
    rintro _ w ⟨rfl, h⟩
    refine r_v (q_lss rfl rfl) rfl ?_
    by_cases hjk : j < kNum K
    ·refine r_is (.bool true) (by simp; omega) ?_
     refine r_v (q_moveB rfl) rfl ?_; refine r_gd rfl rfl ?_; refine r_v (q_moveS rfl) rfl ?_; refine r_gd rfl rfl ?_; refine r_v (q_len rfl) rfl ?_; refine r_gd rfl rfl ?_; refine r_v (q_moveI rfl) rfl ?_; refine r_gd rfl rfl ?_; refine r_v (q_lss rfl rfl) rfl ?_; refine r_v (q_pick1 rfl rfl rfl) rfl ?_
     by_cases hjn : out.length + j < n
     ·refine r_is (.bool true) (by rw [hul]; congr 1; rw [decide_eq_true_eq]; omega) ?_
      refine r_nil (c_true rfl (c_skip ?_))
      have hjm : j < m := by omega
      have hjb : j * kBit K + kBit K ≤ 60 := by
       have h1 : (j + 1) * kBit K ≤ kNum K * kBit K := Nat.mul_le_mul_right _ hjk
       rw [Nat.mul_comm (kNum K), Nat.succ_mul] at h1
       omega
      have hun := unpack_at (x := x) hjb
      have hstep := unpackW_snoc (x % 1152921504606846976) (kBit K) j
      rw [hun] at hstep
      have hp := pow_le_64 k2
      have hp0 := Nat.two_pow_pos (kBit K)
      have hyd : x / 2 ^ (j * kBit K) < 18446744073709551616 := Nat.lt_of_le_of_lt (Nat.div_le_self _ _) hx
      refine c_seq (c_block ?_)
      refine c_seq (c_region ?_)
      refine r_v (q_assignI rfl) rfl ?_
      refine r_nil ?_
      refine c_cut (Γ := Unit) (fun _ => [(0, .slice sl ws.length c), (1, .int .i64 n), (6, .slice oa (out ++ unpackW (x % 1152921504606846976) (kBit K) j).length oc), (7, .int .i64 i), (8, .int .i64 K), (9, .int .i64 j), (10, .int .u64 (x / 2 ^ (j * kBit K) % 2 ^ kBit K : Nat))])
       (fun _ w => St w0 (OwnU oa oc (out ++ unpackW (x % 1152921504606846976) (kBit K) j) :: l) w) ?_ ?_
      ·refine c_seq (c_region ?_)
       refine r_v (q_moveI rfl) rfl ?_
       refine r_c rfl (x_call rfl (ref4_bits hkx h) ?_)
       rintro _ w ⟨rfl, h⟩
       refine r_v (q_gtr rfl rfl) rfl ?_
       refine r_nil (c_cond (decide ((kBit K : Int) > 0)) rfl (fun hc1 => ?_) (fun hc1 => ?_))
       ·refine c_any none (fun w => St w0 _ w) (by kernel_rfl) (by kernel_rfl) h.drew fun w h => ?_
        refine cur_pure rfl rfl rfl rfl (fun _ => h) (fun _ => flt_v rfl (q_moveS rfl)) ?_; refine cur_pure rfl rfl rfl rfl (fun _ => h) (fun _ => flt_v rfl (q_moveI rfl)) ?_
        refine cur_pure rfl rfl rfl rfl (fun _ => h) (fun _ => flt_v rfl (q_idx (b := b) (o := o) (m := ws.length) (c := c) (o' := o + i) (by rw [← hsl]; rfl) rfl rfl hlt (by simp))) ?_
        refine cur_float rfl rfl rfl rfl h (fun w h => flt_v rfl (q_loadc (v := .int .u64 (x : Int)) rfl ((hsl ▸ hr.cons.at_ h).cell (u64V_get hg)))) ?_
        refine cur_pure rfl rfl rfl rfl (fun _ => h) (fun _ => flt_v rfl (q_moveI rfl)) ?_; refine cur_pure rfl rfl rfl rfl (fun _ => h) (fun _ => flt_v rfl (q_moveI rfl)) ?_; refine cur_skip ?_; refine cur_skip ?_; refine cur_skip ?_; refine cur_skip ?_; refine cur_pure rfl rfl rfl rfl (fun _ => h) (fun _ => flt_v rfl (q_moveI rfl)) ?_; refine cur_skip ?_; refine cur_skip ?_; refine cur_skip ?_; refine cur_skip ?_; refine cur_skip ?_; refine cur_skip ?_
        refine cur_one 6 rfl rfl rfl rfl ?_
        refine (x_call rfl (ref4_bits hkx h) ?_)
        rintro _ w ⟨rfl, h⟩
        refine ⟨fun _ => h, ?_⟩
        refine cur_pure rfl rfl rfl rfl (fun _ => h) (fun _ => flt_v rfl (q_is (v' := .int .i64 ((j * kBit K : Nat) : Int)) (q_mul rfl rfl) (by rw [← Int.natCast_mul, wrap64 (by omega) (by omega)]))) ?_
        refine cur_pure rfl rfl rfl rfl (fun _ => h) (fun _ => flt_v rfl (q_is (v' := .int .u64 ((j * kBit K : Nat) : Int)) (q_conv rfl) (by rw [wrap_u64, Nat.mod_eq_of_lt (by omega)]))) ?_
        refine cur_pure rfl rfl rfl rfl (fun _ => h) (fun _ => flt_v rfl (q_is (v' := .int .u64 ((x / 2 ^ (j * kBit K) : Nat) : Int)) (q_shr rfl rfl (by omega)) (congrArg (Value.int .u64) (fdiv_nat x (j * kBit K) 64 (by omega))))) ?_
        refine cur_skip ?_; refine cur_skip ?_; refine cur_skip ?_; refine cur_skip ?_; refine cur_skip ?_; refine cur_skip ?_
        refine cur_one 11 rfl rfl rfl rfl ?_
        refine (x_call rfl (ref4_bits hkx h) ?_)
        rintro _ w ⟨rfl, h⟩
        refine ⟨fun _ => h, ?_⟩
        refine cur_pure rfl rfl rfl rfl (fun _ => h) (fun _ => flt_v rfl (q_is (v' := .int .u64 ((kBit K : Nat) : Int)) (q_conv rfl) (by rw [wrap_u64, Nat.mod_eq_of_lt (by omega)]))) ?_
        refine cur_pure rfl rfl rfl rfl (fun _ => h) (fun _ => flt_v rfl (q_is (v' := .int .u64 ((2 ^ kBit K : Nat) : Int)) (q_shl rfl rfl (by omega)) (congrArg (Value.int .u64) ((shl_u64 1 (kBit K) (by omega)).trans (by rw [Nat.one_mul, Nat.mod_eq_of_lt hp]))))) ?_
        refine cur_pure rfl rfl rfl rfl (fun _ => h) (fun _ => flt_v rfl (q_is (v' := .int .u64 ((2 ^ kBit K - 1 : Nat) : Int)) (q_sub rfl rfl) (by rw [show (((2 ^ kBit K : Nat) : Int) - 1) = ((2 ^ kBit K - 1 : Nat) : Int) by omega, wrap_u64, Nat.mod_eq_of_lt (by omega)]))) ?_
        refine cur_pure rfl rfl rfl rfl (fun _ => h) (fun _ => flt_v rfl (q_is (v' := .int .u64 ((x / 2 ^ (j * kBit K) % 2 ^ kBit K : Nat) : Int)) (q_and rfl rfl) (congrArg (Value.int .u64) (((bit_u64 hyd (by omega)).1).trans (by rw [Nat.and_two_pow_sub_one_eq_mod]))))) ?_
        refine cur_pure rfl rfl rfl rfl (fun _ => h) (fun _ => flt_v rfl (q_assignI rfl)) ?_
        exact cur_end ⟨(), ⟨rfl, rfl, rfl, rfl, rfl, rfl, rfl, trivial⟩, h⟩
       ·have hb0 : kBit K = 0 := by simp at hc1; omega
        refine c_skip ⟨(), ⟨rfl, rfl, rfl, rfl, rfl, rfl, ?_, trivial⟩, h⟩
        show Value.int .u64 0 = Value.int .u64 _
        rw [hb0, Nat.pow_zero, Nat.mod_one]; rfl
      clear h
      rintro ⟨⟩ w e h
      generalize x / 2 ^ (j * kBit K) % 2 ^ kBit K = z at hstep e ⊢
      have hst2 : out ++ unpackW (x % 1152921504606846976) (kBit K) (j + 1) = (out ++ unpackW (x % 1152921504606846976) (kBit K) j) ++ [z] := by rw [hstep, List.append_assoc]
      refine c_region ?_
      refine r_v (q_moveS rfl) rfl ?_; refine r_v (q_moveI rfl) rfl ?_
      refine r_app1 (v := .int .u64 (z : Int)) (m3 := (out ++ unpackW (x % 1152921504606846976) (kBit K) (j + 1)).length) (zs := u64V (out ++ unpackW (x % 1152921504606846976) (kBit K) (j + 1))) h rfl rfl rfl rfl rfl (by rw [hst2]; simp; omega) (by rw [hst2]; simp [u64V, vcells]) (by rw [hst2, List.length_append, hul]; simp; omega) (by rw [hst2, List.length_append, hul]; simp; omega) rfl rfl rfl rfl rfl fun b2 a2 c2 w _ h => ?_
      refine r_v (q_assignS rfl) rfl ?_
      refine r_nil ?_
      refine c_region ?_
      refine r_v (q_moveI rfl) rfl ?_; refine r_v (q_add rfl rfl) rfl ?_
      refine r_is (.int .i64 ((j + 1 : Nat) : Int)) (by rw [wrap64 (by omega) (by omega)]; rfl) ?_
      refine r_v (q_assignI rfl) rfl ?_
      exact r_nil ⟨(j + 1, a2, c2), ⟨rfl, rfl, rfl, rfl, rfl, rfl, trivial⟩, ⟨hjm, h⟩, by dsimp only; omega⟩
     ·refine r_is (.bool false) (by rw [hul]; congr 1; rw [decide_eq_false_iff_not]; omega) ?_
      refine r_nil (c_false rfl ?_)
      obtain ⟨t1, t2⟩ := leave (by omega) h
      refine c_exit ?_
      refine c_region ?_
      refine r_v (q_moveI rfl) rfl ?_; refine r_v (q_add rfl rfl) rfl ?_
      refine r_is (.int .i64 ((i + 1 : Nat) : Int)) (by rw [wrap64 (by omega) (by omega)]; rfl) ?_
      refine r_v (q_assignI rfl) rfl ?_
      exact r_nil ⟨(i + 1, out ++ unpackW (x % 1152921504606846976) (kBit K) j, oa, oc), ⟨rfl, rfl, rfl, rfl, trivial⟩, ⟨hlt, by dsimp only; rw [hul]; omega, t1, t2, h⟩, by dsimp only; omega⟩
    ·refine r_is (.bool false) (by simp; omega) ?_
     refine r_v (q_moveB rfl) rfl ?_; refine r_gn rfl rfl rfl ?_; refine r_gn rfl rfl rfl ?_; refine r_gn rfl rfl rfl ?_; refine r_gn rfl rfl rfl ?_; refine r_v (q_pick0 rfl rfl rfl) rfl ?_
     refine r_nil (c_false rfl ?_)
     obtain ⟨t1, t2⟩ := leave (by omega) h
     refine c_exit ?_
     refine c_region ?_
     refine r_v (q_moveI rfl) rfl ?_; refine r_v (q_add rfl rfl) rfl ?_
     refine r_is (.int .i64 ((i + 1 : Nat) : Int)) (by rw [wrap64 (by omega) (by omega)]; rfl) ?_
     refine r_v (q_assignI rfl) rfl ?_
     exact r_nil ⟨(i + 1, out ++ unpackW (x % 1152921504606846976) (kBit K) j, oa, oc), ⟨rfl, rfl, rfl, rfl, trivial⟩, ⟨hlt, by dsimp only; rw [hul]; omega, t1, t2, h⟩, by dsimp only; omega⟩
   ·refine r_is (.bool false) (by simp; omega) ?_
    refine r_nil (c_false rfl ?_)
    rw [show n - out.length = 0 by omega, looseA_zero, List.append_nil] at inv
    subst inv
    exact c_exit ⟨(oa, oc), ⟨rfl, rfl, rfl, trivial⟩, hout, h⟩
  ·refine r_is (.bool false) (by simp; omega) ?_
   refine r_v (q_moveB rfl) rfl ?_; refine r_gn rfl rfl rfl ?_; refine r_gn rfl rfl rfl ?_; refine r_gn rfl rfl rfl ?_; refine r_gn rfl rfl rfl ?_; refine r_v (q_pick0 rfl rfl rfl) rfl ?_
   refine r_nil (c_false rfl ?_)
   rw [List.drop_eq_nil_of_le (by omega), looseA, List.append_nil] at inv
   subst inv
   exact c_exit ⟨(oa, oc), ⟨rfl, rfl, rfl, trivial⟩, hout, h⟩
 clear h
 rintro ⟨oa, oc⟩ w e ⟨hL64, h⟩
 dsimp only at h ⊢
 refine c_seq (c_region ?_)
 refine r_v (q_moveS rfl) rfl ?_
 refine r_c rfl (x_call rfl (ref4_Simple hL64 (by omega) h.own_cases.2.1 Reads.own h) ?_)
 rintro _ w ⟨ea, ec, rfl, h⟩
 refine r_v (q_moveT rfl) rfl ?_; refine r_v (q_ext rfl rfl) rfl ?_; refine r_v (q_ext rfl rfl) rfl ?_; refine r_v (q_assignS rfl) rfl ?_; refine r_v (q_assignB rfl) rfl ?_
 refine r_nil ?_
 refine c_seq (c_seq (c_region ?_))
 refine r_v (q_moveS rfl) rfl ?_; refine r_v (q_len rfl) rfl ?_; refine r_v (q_moveI rfl) rfl ?_; refine r_v (q_neq rfl rfl) rfl ?_
 by_cases hon : L.length = n
 ·refine r_is (.bool false) (by rw [hon]; simp) ?_
  cases hE : simpEnc L with
  | none =>
   refine r_v (q_moveB rfl) rfl ?_; refine r_gd rfl rfl ?_; refine r_v (q_moveB rfl) rfl ?_; refine r_gd rfl rfl ?_; refine r_v (q_not rfl) rfl ?_; refine r_v (q_pick0 rfl rfl rfl) rfl ?_; refine r_v (q_moveB rfl) rfl ?_; refine r_gn rfl rfl rfl ?_; refine r_gn rfl rfl rfl ?_; refine r_gn rfl rfl rfl ?_; refine r_gn rfl rfl rfl ?_; refine r_v (q_pick1 rfl rfl rfl) rfl ?_
   refine r_nil (c_true rfl ?_)
   refine c_seq (c_region ?_)
   refine r_v (q_assignS rfl) rfl ?_; refine r_v (q_assignB rfl) rfl ?_
   exact r_nil (c_ret (bq2 (ToldE.no (by rw [hdef, if_neg]; rintro ⟨_, hh⟩; rw [hE] at hh; cases hh) h.drop.drop)))
  | some d =>
   rw [hE] at h
   refine r_v (q_moveB rfl) rfl ?_; refine r_gd rfl rfl ?_; refine r_v (q_moveB rfl) rfl ?_; refine r_gd rfl rfl ?_; refine r_v (q_not rfl) rfl ?_; refine r_v (q_pick0 rfl rfl rfl) rfl ?_; refine r_v (q_moveB rfl) rfl ?_; refine r_gd rfl rfl ?_; refine r_v (q_moveS rfl) rfl ?_; refine r_gd rfl rfl ?_; refine r_v (q_moveS rfl) rfl ?_; refine r_gd rfl rfl ?_
   refine r_c rfl (x_call rfl (ref1_SameWords (L1 := d) (L2 := ws) Reads.own (hr.more [_, _]) (by have := (simpEnc_len (u := L)).1; rw [hE] at this; exact Nat.lt_of_le_of_lt this (by omega)) h) ?_)
   rintro _ w ⟨rfl, h⟩
   refine r_gd rfl rfl ?_; refine r_v (q_not rfl) rfl ?_; refine r_v (q_pick0 rfl rfl rfl) rfl ?_
   refine r_nil (c_cond (!decide (d = ws)) rfl (fun hc1 => ?_) (fun hc1 => ?_))
   ·refine c_seq (c_region ?_)
    refine r_v (q_assignS rfl) rfl ?_; refine r_v (q_assignB rfl) rfl ?_
    exact r_nil (c_ret (bq2 (ToldE.no (by rw [hdef, if_neg]; rintro ⟨_, hh⟩; rw [hE] at hh; cases hh; simp at hc1) h.drop.drop)))
   ·refine c_skip ?_
    refine c_seq (c_region ?_)
    refine r_v (q_moveS rfl) rfl ?_; refine r_v (q_assignS rfl) rfl ?_; refine r_v (q_assignB rfl) rfl ?_
    exact r_nil (c_ret (bq2 ⟨oa, oc, L, true, rfl, by rw [hdef, if_pos ⟨hon, by rw [hE]; congr 1; simpa using hc1⟩]; rfl, fun _ => hon, hL64, hLn, h.drop⟩))
 ·refine r_is (.bool true) (by congr 1; rw [bne_iff_ne]; omega) ?_
  refine r_v (q_moveB rfl) rfl ?_; refine r_gn rfl rfl rfl ?_; refine r_gn rfl rfl rfl ?_; refine r_v (q_pick1 rfl rfl rfl) rfl ?_; refine r_v (q_moveB rfl) rfl ?_; refine r_gn rfl rfl rfl ?_; refine r_gn rfl rfl rfl ?_; refine r_gn rfl rfl rfl ?_; refine r_gn rfl rfl rfl ?_; refine r_v (q_pick1 rfl rfl rfl) rfl ?_
  refine r_nil (c_true rfl ?_)
  refine c_seq (c_region ?_)
  refine r_v (q_assignS rfl) rfl ?_; refine r_v (q_assignB rfl) rfl ?_
  exact r_nil (c_ret (bq2 (ToldE.no (by rw [hdef, if_neg]; rintro ⟨hh, _⟩; exact hon hh) h.drop.drop)))
end
end Go.Proofs.YtjjacchnalemaaaGreatDoor

namespace Go.Hw
set_option maxRecDepth 100000
theorem turnR_lt {s : RS} {win win' : Win} {x : Nat} {s' : RS} (h : turnR s win = (some (x, win'), s')) : x < 18446744073709551616 := by
 unfold turnR at h
 split at h
 ·cases h; decide
 ·split at h
  ·dsimp only at h
   split at h
   ·cases h; exact Nat.mod_lt _ (by decide)
   ·cases h
  ·dsimp only at h
   split at h
   ·cases h
   ·split at h
    ·cases h
    ·cases h; exact Nat.mod_lt _ (by decide)
theorem xorDecA_ok : ∀ (k was : Nat) (win : Win) (s : RS) (v : List Nat), was < 18446744073709551616 → xorDecA k was win s = some v → v.length = k ∧ ∀ x ∈ v, x < 18446744073709551616
 | 0, _, _, _, v, _, h => by cases h; exact ⟨rfl, fun _ h => by cases h⟩
 | k + 1, was, win, s, v, hw, h => by
  rw [xorDecA] at h
  split at h
  ·cases h
  ·rename_i x win' s' ht
   split at h
   ·cases h
   ·obtain ⟨y, h1, rfl⟩ := Option.map_eq_some_iff.1 h
    have hx : was ^^^ x < 18446744073709551616 := Nat.xor_lt_two_pow (n := 64) hw (turnR_lt ht)
    obtain ⟨h2, h3⟩ := xorDecA_ok k _ _ _ y hx h1
    refine ⟨by simp [h2], fun z hz => ?_⟩
    rcases List.mem_cons.1 hz with rfl | hz
    ·exact hx
    ·exact h3 z hz
theorem xorDec_ok {n : Nat} {s : RS} {v : List Nat} (h : xorDec n s = some v) : v.length = n ∧ ∀ x ∈ v, x < 18446744073709551616 := by
 cases n with
 | zero =>
  unfold xorDec at h
  dsimp only at h
  split at h
  ·cases h
  ·cases h; exact ⟨rfl, fun _ h => by cases h⟩
 | succ k =>
  unfold xorDec at h
  dsimp only at h
  split at h
  ·cases h
  ·obtain ⟨y, h1, rfl⟩ := Option.map_eq_some_iff.1 h
   have hx : (s.get 64).1 < 18446744073709551616 := RS.get_lt s 64
   obtain ⟨h2, h3⟩ := xorDecA_ok k _ _ _ y hx h1
   refine ⟨by simp [h2], fun z hz => ?_⟩
   rcases List.mem_cons.1 hz with rfl | hz
   ·exact hx
   ·exact h3 z hz
theorem sumsL_lt : ∀ (v : List Nat) (was : Nat), ∀ x ∈ sumsL was v, x < 18446744073709551616
 | [], _, x, h => by cases h
 | y :: r, was, x, h => by
  rw [sumsL] at h
  rcases List.mem_cons.1 h with rfl | h
  ·exact Nat.mod_lt _ (by decide)
  ·exact sumsL_lt r _ x h
theorem runsDecA_ok : ∀ (f : Nat) (b : List UInt8) (room : Nat) (last : Option Nat) (v : List Nat), runsDecA f b room last = some v → v.length = room ∧ ∀ x ∈ v, x < 18446744073709551616
 | f, [], room, last, v, h => by
  have : runsDecA f [] room last = if room = 0 then some [] else none := by cases f <;> rfl
  rw [this] at h
  split at h
  ·cases h; exact ⟨by simp [*], fun _ h => by cases h⟩
  ·cases h
 | 0, _ :: _, _, _, _, h => by cases h
 | f + 1, c :: b, room, last, v, h => by
  rw [runsDecA] at h
  split at h
  ·cases h
  ·rename_i hc
   obtain ⟨y, h1, rfl⟩ := Option.map_eq_some_iff.1 h
   obtain ⟨h2, h3⟩ := runsDecA_ok f _ _ _ y h1
   refine ⟨by rw [List.length_append, List.length_replicate, h2]; omega, fun z hz => ?_⟩
   rcases List.mem_append.1 hz with hz | hz
   ·rw [(List.mem_replicate.1 hz).2]; exact vget_lt _
   ·exact h3 z hz
theorem frameDec_ok {b : List UInt8} {n : Nat} {v : List Nat} (h : frameDec b n = some v) : v.length = n ∧ ∀ x ∈ v, x < 18446744073709551616 := by
 unfold frameDec at h
 repeat' split at h
 all_goals first | cases h | skip
 ·subst_vars; exact ⟨rfl, fun _ h => by cases h⟩
 ·rename_i l hl _
  refine ⟨by rw [List.length_map]; exact getAll_len _ _ _ _ hl, fun z hz => ?_⟩
  obtain ⟨y, _, rfl⟩ := List.mem_map.1 hz
  exact Nat.mod_lt _ (by decide)
theorem getVs_lt : ∀ (k : Nat) (b : List UInt8) (x : List Nat × List UInt8), getVs k b = some x → ∀ y ∈ x.1, y < 18446744073709551616
 | 0, _, x, h => by cases h; exact fun _ h => by cases h
 | k + 1, b, x, h => by
  rw [getVs] at h; split at h
  ·cases h
  ·obtain ⟨y, h1, rfl⟩ := Option.map_eq_some_iff.1 h
   intro z hz
   rcases List.mem_cons.1 hz with rfl | hz
   ·exact vget_lt _
   ·exact getVs_lt k _ y h1 z hz
theorem pickAll_ok {l : List Nat} : ∀ (at_ v : List Nat), pickAll l at_ = some v → v.length = at_.length ∧ ∀ x ∈ v, x ∈ l
 | [], v, h => by cases h; exact ⟨rfl, fun _ h => by cases h⟩
 | a :: r, v, h => by
  rw [pickAll] at h
  split at h
  ·cases h
  ·rename_i x hx
   obtain ⟨y, h1, rfl⟩ := Option.map_eq_some_iff.1 h
   obtain ⟨h2, h3⟩ := pickAll_ok r y h1
   refine ⟨by simp [h2], fun z hz => ?_⟩
   rcases List.mem_cons.1 hz with rfl | hz
   ·exact List.mem_of_getElem? hx
   ·exact h3 z hz
theorem dictDec_ok {b : List UInt8} {n : Nat} {v : List Nat} (h : dictDec b n = some v) : v.length = n ∧ ∀ x ∈ v, x < 18446744073709551616 := by
 rw [dictDec] at h
 split at h
 ·split at h
  ·cases h; subst_vars; exact ⟨rfl, fun _ h => by cases h⟩
  ·cases h
 ·split at h
  ·cases h
  ·split at h
   ·cases h
   ·rename_i l rest hg
    split at h
    ·cases h
    ·rename_i at_ ha
     split at h
     ·cases h
     ·rename_i out ho
      split at h
      ·cases h
       obtain ⟨h1, h2⟩ := pickAll_ok _ _ ho
       exact ⟨by rw [h1]; exact getAll_len _ _ _ _ ha, fun x hx => getVs_lt _ _ _ hg x (h2 x hx)⟩
      ·cases h
theorem simpDec_len {ws : List Nat} {n : Nat} {v : List Nat} (h : simpDec ws n = some v) : v.length = n := by
 rw [simpDec_loose] at h
 split at h
 ·rename_i hh; cases h; exact hh.1
 ·cases h
theorem valuesDec_ok {tag : Int} {b : List UInt8} {n : Nat} {v : List Nat} (h : valuesDec tag b n = some v) : v.length = n ∧ ∀ x ∈ v, x < 18446744073709551616 := by
 unfold valuesDec at h
 split at h
 ·exact xorDec_ok h
 split at h
 ·split at h
  ·obtain ⟨y, h1, rfl⟩ := Option.map_eq_some_iff.1 h
   exact ⟨by rw [sumsL_len]; exact simpDec_len h1, sumsL_lt _ _⟩
  ·cases h
 split at h
 ·exact runsDecA_ok _ _ _ _ _ h
 split at h
 ·exact frameDec_ok h
 split at h
 ·exact dictDec_ok h
 split at h
 ·cases h
  refine ⟨List.length_replicate, fun x hx => ?_⟩
  rw [(List.mem_replicate.1 hx).2]; exact vget_lt _
 ·cases h
theorem vals_zipS : ∀ (x : List Int) (v : List Nat), x.length = v.length → valsOf (zipS x v) = v
 | [], [], _ => rfl
 | [], _ :: _, h => by simp at h
 | _ :: _, [], h => by simp at h
 | t :: x, a :: v, h => by
  have := vals_zipS x v (by simpa using h)
  show Int.toNat (a : Int) :: valsOf (zipS x v) = _
  rw [this, Int.toNat_natCast]
theorem be8_get (x : Nat) (r : List UInt8) {j : Nat} (h : j < 8) : (be8 x ++ r)[j]? = some (UInt8.ofNat (x / 2 ^ (56 - 8 * j))) := by
 rcases j with _ | _ | _ | _ | _ | _ | _ | _ | j
 ·rfl
 ·rfl
 ·rfl
 ·rfl
 ·rfl
 ·rfl
 ·rfl
 ·show some (UInt8.ofNat x) = some (UInt8.ofNat (x / 2 ^ 0))
  rw [Nat.pow_zero, Nat.div_one]
 ·omega
theorem bigL_get : ∀ (ws : List Nat) (k : Nat) {j x : Nat}, ws[k]? = some x → j < 8 → (bigL ws)[8 * k + j]? = some (UInt8.ofNat (x / 2 ^ (56 - 8 * j)))
 | [], _, _, _, h, _ => by cases h
 | y :: ws, 0, j, x, h, hj => by
  cases h
  rw [show 8 * 0 + j = j by omega]
  exact be8_get y (bigL ws) hj
 | y :: ws, k + 1, j, x, h, hj => by
  show (be8 y ++ bigL ws)[8 * (k + 1) + j]? = _
  have hl : (be8 y).length = 8 := rfl
  rw [List.getElem?_append_right (by omega), hl, show 8 * (k + 1) + j - 8 = 8 * k + j by omega]
  exact bigL_get ws k h hj
theorem word_up {x j : Nat} (hj : j < 8) : x / 2 ^ (64 - 8 * j) * 256 + (UInt8.ofNat (x / 2 ^ (56 - 8 * j))).toNat = x / 2 ^ (64 - 8 * (j + 1)) := by
 have e : 2 ^ (64 - 8 * j) = 2 ^ (56 - 8 * j) * 256 := by rw [show 64 - 8 * j = (56 - 8 * j) + 8 by omega, Nat.pow_add]
 rw [UInt8.toNat_ofNat', show 64 - 8 * (j + 1) = 56 - 8 * j by omega, e, ← Nat.div_div_eq_div_mul]
 generalize x / 2 ^ (56 - 8 * j) = z
 omega
end Go.Hw
namespace Go.Proofs.YtjjacchnalemaaaGreatDoor
open Go.Hw
set_option maxHeartbeats 4000000
set_option maxRecDepth 100000
theorem suitDec_parts {tag : Int} {bs : List UInt8} {n : Int} {D : List Smp} (h : suitDec tag bs n = some D) : 0 ≤ n ∧ n ≤ 65535 ∧ (vget bs).2 ≠ 0 ∧ (vget bs).1 ≤ bs.length - (vget bs).2 ∧
  ∃ x v, timesDec n.toNat ⟨bitsB ((bs.drop (vget bs).2).take (vget bs).1), false⟩ = some x ∧ v.length = n.toNat ∧ (∀ y ∈ v, y < 18446744073709551616) ∧ valuesEnc tag v = some (bs.drop ((vget bs).2 + (vget bs).1)) ∧ D = zipS x.1 v ∧ suitEnc tag D = some bs ∧ (∀ s ∈ D, s.Wf) ∧ (D.length : Int) = n := by
 unfold suitDec at h
 split at h
 ·cases h
 rename_i hc
 split at h
 ·rename_i x v hx hv
  split at h
  ·rename_i hE
   cases h
   obtain ⟨hvl, hv64⟩ := valuesDec_ok hv
   have htl := timesDec_len hx
   have hwf := zipS_wf x.1 v (timesDec_i64 hx) hv64
   refine ⟨by omega, by omega, by omega, by omega, x, v, hx, hvl, hv64, ?_, rfl, hE, hwf, by rw [zipS_len _ _ (by omega)]; omega⟩
   have hlen := suitEnc_len (tag := tag) hwf
   rw [hE] at hlen
   have hbl : bs.length ≤ 3000000 := hlen
   have hE2 := hE
   unfold suitEnc at hE2
   split at hE2
   ·obtain ⟨b, hb, hb2⟩ := Option.map_eq_some_iff.1 hE2
    rw [vals_zipS _ _ (by omega)] at hb
    rw [hb]
    congr 1
    unfold suitBytes at hb2
    generalize pack (timesBits (timesOf (zipS x.1 v))) = tb at hb2
    have hg := vget_vput (show tb.length < 18446744073709551616 by rw [← hb2] at hbl; simp at hbl; omega) (tb ++ b)
    rw [hb2] at hg
    rw [hg, ← hb2, ← List.drop_drop, List.drop_left, List.drop_left]
   ·cases hE2
  ·cases h
 ·cases h
section
variable {w0 w : World} {l : List HProp}
abbrev ReadsV (w0 : World) (l : List HProp) (n : Nat) (tag : Int) (bs : List UInt8) (v : Value) (w' : World) : Prop := ∃ ok a c vs, v = .tuple [.slice a vs.length c, .bool ok].toArray ∧ (ok = true → ∀ x ∈ vs, x < 18446744073709551616) ∧ (∀ V : List Nat, (∀ x ∈ V, x < 18446744073709551616) → V.length = n → valuesEnc tag V = some bs → ok = true ∧ vs = V) ∧ St w0 (OwnU a c vs :: l) w'
theorem Told.reads {n : Nat} {tag : Int} {bs : List UInt8} {D : Option (List Nat)} {v : Value} {w' : World} (h : Told w0 l n D v w') (hD : ∀ V : List Nat, (∀ x ∈ V, x < 18446744073709551616) → V.length = n → valuesEnc tag V = some bs → D = some V) : ReadsV w0 l n tag bs v w' := by
 obtain ⟨a, c, xs, b, rfl, h1, h2, h3⟩ := h
 refine ⟨b, a, c, xs, rfl, fun hb => (h2 hb).2, fun V v1 v2 v3 => ?_, h3⟩
 have := hD V v1 v2 v3
 rw [h1] at this
 cases b with
 | false => cases this
 | true => cases this; exact ⟨rfl, rfl⟩
theorem sameEnc_some {V : List Nat} {bs : List UInt8} (h : sameEnc V = some bs) : (V = [] ∧ bs = []) ∨ ∃ x, V = List.replicate V.length x ∧ 0 < V.length ∧ x ∈ V ∧ bs = vput x := by
 cases V with
 | nil => cases h; exact .inl ⟨rfl, rfl⟩
 | cons x r =>
  rw [sameEnc] at h
  split at h
  ·rename_i ha
   cases h
   refine .inr ⟨x, ?_, by simp, List.mem_cons_self .., rfl⟩
   rw [List.length_cons, List.replicate_succ]
   congr 1
   exact List.eq_replicate_iff.2 ⟨rfl, fun b hb => by simpa using List.all_eq_true.1 ha b hb⟩
  ·cases h
end
end Go.Proofs.YtjjacchnalemaaaGreatDoor

namespace Go.Proofs.YtjjacchnalemaaaGreatDoor
open Go.Hw
set_option maxHeartbeats 4000000
set_option maxRecDepth 100000
section
variable {w0 w : World} {l : List HProp}
theorem valuesEnc_other {tag : Int} {V : List Nat} (h : tag < 1 ∨ 6 < tag) : valuesEnc tag V = none := by
 unfold valuesEnc
 rw [if_neg (by omega), if_neg (by omega), if_neg (by omega), if_neg (by omega), if_neg (by omega), if_neg (by omega)]
theorem ref10_read (tag : Int) {sl : Option Addr} {c : Nat} {bs : List UInt8} {n : Nat} (hn : n ≤ 65535) (hbn : bs.length ≤ 140737488355328) (hc : bs.length ≤ c) (hr : Reads w0 l 1 sl bs.length (bytesV bs)) (h : St w0 l w) :
  Ret Tryz.prog 50 [.int .i64 tag, .slice sl bs.length c, .int .i64 (n : Int)] w fun v w' => ReadsV w0 l n tag bs v w' := by
 refine enter Tryz.func50 rfl Tryz.results50 Tryz.ntmps50 rfl ?_
 refine c_seq (c_region ?_)
 refine r_v (q_assignS rfl) rfl ?_; refine r_v (q_assignB rfl) rfl ?_
 refine r_nil ?_
 refine c_seq (c_seq (c_region ?_))
 refine r_v (q_moveI rfl) rfl ?_
 refine r_nil ?_
 refine c_block ?_
 refine c_seq (c_region ?_)
 refine r_v (q_eql rfl rfl) rfl ?_; refine r_v (q_assignB rfl) rfl ?_
 refine r_nil ?_
 refine c_cond (tag == 1) rfl (fun hc1 => ?_) (fun hc1 => ?_)
 ·have ht : tag = 1 := by simpa using hc1
  subst ht
  refine c_seq (c_region ?_)
  refine r_v (q_moveS rfl) rfl ?_; refine r_v (q_build rfl) rfl ?_
  refine r_c rfl (x_box h rfl fun b w h => ?_)
  replace h : St w0 (RrPt b sl bs.length c 0 false :: l) w := h
  refine r_v (q_moveI rfl) rfl ?_
  refine r_c rfl (x_call rfl (ref4_GetValues (n : Int) hbn hr h) ?_)
  rw [askN_nat hn]
  rintro _ w ⟨ok, vs, va, vc, rfl, h64, hV, h⟩
  refine r_v (q_ext rfl rfl) rfl ?_; refine r_v (q_ext rfl rfl) rfl ?_; refine r_v (q_assignS rfl) rfl ?_; refine r_v (q_assignB rfl) rfl ?_
  refine r_nil (c_ret (bq2 ⟨ok, va, vc, vs, rfl, fun _ => h64, fun V v1 v2 v3 => ?_, h⟩))
  have e : pack (xorBits V) = bs := by
   unfold valuesEnc at v3
   rw [if_pos rfl] at v3
   exact Option.some.inj v3
  exact hV V _ v1 v2 (by rw [← e, bitsB_pack])
 have n1 : tag ≠ 1 := by simpa using hc1
 refine c_seq (c_region ?_)
 refine r_v (q_eql rfl rfl) rfl ?_; refine r_v (q_assignB rfl) rfl ?_
 refine r_nil ?_
 refine c_cond (tag == 2) rfl (fun hc1 => ?_) (fun hc1 => ?_)
 ·have ht : tag = 2 := by simpa using hc1
  subst ht
  clear n1
  have hve : ∀ V : List Nat, valuesEnc 2 V = some bs → ∃ ws, simpEnc (stepsL 0 V) = some ws ∧ bs = bigL ws ∧ ∀ x ∈ ws, x < 18446744073709551616 := by
   intro V v3
   unfold valuesEnc at v3
   rw [if_neg (by decide), if_pos rfl] at v3
   obtain ⟨ws, h1, h2⟩ := Option.map_eq_some_iff.1 v3
   exact ⟨ws, h1, h2.symm, (simpDecA_told _ _ ws (Nat.le_refl _) h1).2⟩
  refine c_seq (c_region ?_)
  refine r_v (q_assignS rfl) rfl ?_
  refine r_nil ?_
  refine c_cut (Γ := List Nat × Option Addr × Nat) (fun k => [(2, .int .i64 n), (8, .slice k.2.1 k.1.length k.2.2)])
   (fun k w => (∀ x ∈ k.1, x < 18446744073709551616) ∧ k.1.length ≤ bs.length ∧ (∀ ws : List Nat, (∀ x ∈ ws, x < 18446744073709551616) → bs = bigL ws → k.1 = ws) ∧ St w0 (OwnU k.2.1 k.2.2 k.1 :: l) w) ?_ ?_
  ·refine c_seq (c_region ?_)
   refine r_v (q_assignI rfl) rfl ?_
   refine r_nil ?_
   refine c_block ?_
   refine c_loop (Γ := Nat × List Nat × Option Addr × Nat) (fun k => [(1, .slice sl bs.length c), (2, .int .i64 n), (8, .slice k.2.2.1 k.2.1.length k.2.2.2), (9, .int .i64 (8 * k.1 : Nat))])
    (fun k w => 8 * k.1 ≤ bs.length ∧ k.2.1.length = k.1 ∧ (∀ x ∈ k.2.1, x < 18446744073709551616) ∧ (∀ ws : List Nat, (∀ x ∈ ws, x < 18446744073709551616) → bs = bigL ws → k.2.1 = ws.take k.1) ∧ St w0 (OwnU k.2.2.1 k.2.2.2 k.2.1 :: l) w) (fun k => bs.length - 8 * k.1) (0, [], none, 0) ⟨rfl, rfl, rfl, rfl, trivial⟩ ⟨Nat.zero_le _, rfl, (fun _ h => by cases h), (fun _ _ _ => by simp), St.ownNil _ _ h⟩ ?_
   clear h
   rintro ⟨k, out, oa, oc⟩ w e ⟨hk, hol, hout, hT, h⟩
   dsimp only at hk hol hout hT h ⊢
   refine c_seq (c_seq (c_region ?_))
   refine r_v (q_moveI rfl) rfl ?_; refine r_v (q_add rfl rfl) rfl ?_
   refine r_is (.int .i64 ((8 * (k + 1) : Nat) : Int)) (by rw [wrap64 (by omega) (by omega)]; congr 1) ?_
   refine r_v (q_moveS rfl) rfl ?_; refine r_v (q_len rfl) rfl ?_; refine r_v (q_leq rfl rfl) rfl ?_
   by_cases hlt : 8 * (k + 1) ≤ bs.length
   ·refine r_is (.bool true) (by congr 1; rw [decide_eq_true_eq]; omega) ?_
    refine r_nil (c_true rfl (c_skip ?_))
    refine c_seq (c_block ?_)
    refine c_seq (c_region ?_)
    refine r_v (q_assignI rfl) rfl ?_
    refine r_nil ?_
    refine c_cut (Γ := Nat) (fun x => [(1, .slice sl bs.length c), (2, .int .i64 n), (8, .slice oa out.length oc), (9, .int .i64 (8 * k : Nat)), (10, .int .u64 x)])
     (fun x w => x < 18446744073709551616 ∧ (∀ ws : List Nat, (∀ x ∈ ws, x < 18446744073709551616) → bs = bigL ws → ws[k]? = some x) ∧ St w0 (OwnU oa oc out :: l) w) ?_ ?_
    ·refine c_seq (c_region ?_)
     refine r_v (q_assignI rfl) rfl ?_
     refine r_nil ?_
     refine c_block ?_
     refine c_loop (Γ := Nat × Nat) (fun q => [(1, .slice sl bs.length c), (2, .int .i64 n), (8, .slice oa out.length oc), (9, .int .i64 (8 * k : Nat)), (10, .int .u64 q.2), (11, .int .i64 q.1)])
      (fun q w => q.1 ≤ 8 ∧ q.2 < 18446744073709551616 ∧ (∀ (ws : List Nat), (∀ x ∈ ws, x < 18446744073709551616) → bs = bigL ws → ∀ x, ws[k]? = some x → q.2 = x / 2 ^ (64 - 8 * q.1)) ∧ St w0 (OwnU oa oc out :: l) w) (fun q => 8 - q.1) (0, 0) ⟨rfl, rfl, rfl, rfl, rfl, rfl, trivial⟩
      ⟨by decide, by decide, (fun ws h1 h2 x hx => (Nat.div_eq_of_lt (h1 x (List.mem_of_getElem? hx))).symm), h⟩ ?_
     clear h
     rintro ⟨j, y⟩ w e ⟨hj, hy, hY, h⟩
     dsimp only at hj hy hY h ⊢
     refine c_seq (c_seq (c_region ?_))
     refine r_v (q_moveI rfl) rfl ?_; refine r_v (q_lss rfl rfl) rfl ?_
     by_cases hj8 : j < 8
     ·refine r_is (.bool true) (by congr 1; rw [decide_eq_true_eq]; omega) ?_
      refine r_nil (c_true rfl (c_skip ?_))
      have hlt2 : 8 * k + j < bs.length := by omega
      have hg := List.getElem?_eq_getElem hlt2
      generalize bs[8 * k + j] = q at hg
      have hq := q.toNat_lt
      obtain ⟨b, o, hsl⟩ := (hr.cons.at_ h).some (by omega)
      refine c_seq (c_block ?_)
      refine c_region ?_
      refine r_v (q_moveI rfl) rfl ?_
      refine r_v (q_is (v' := .int .u64 ((y * 2 ^ 8 % 18446744073709551616 : Nat) : Int)) (q_shl rfl rfl (by omega)) (congrArg (Value.int .u64) (shl_u64 y 8 (by decide)))) rfl ?_
      refine r_v (q_moveS rfl) rfl ?_; refine r_v (q_moveI rfl) rfl ?_; refine r_v (q_moveI rfl) rfl ?_; refine r_v (q_add rfl rfl) rfl ?_
      refine r_is (.int .i64 ((8 * k + j : Nat) : Int)) (by rw [wrap64 (by omega) (by omega)]; rfl) ?_
      refine r_v (q_idx (b := b) (o := o) (m := bs.length) (c := c) (o' := o + (8 * k + j)) (by rw [← hsl]; rfl) rfl rfl hlt2 (by simp)) rfl ?_
      refine r_v (q_loadc (v := .int .u8 q.toNat) rfl ((hsl ▸ hr.cons.at_ h).cell (bytesV_get hg))) rfl ?_
      refine r_v (q_conv rfl) rfl ?_
      refine r_is (.int .u64 ((q.toNat : Nat) : Int)) (by rw [wrap_u64, Nat.mod_eq_of_lt (by omega)]) ?_
      refine r_v (q_or rfl rfl) rfl ?_
      refine r_is (.int .u64 (((y * 256 + q.toNat) % 18446744073709551616 : Nat) : Int)) (by rw [(bit_u64 (Nat.mod_lt _ (by decide)) (by omega)).2.1, shl8_or (by omega)]) ?_
      refine r_v (q_assignI rfl) rfl ?_
      refine r_nil ?_
      refine c_region ?_
      refine r_v (q_moveI rfl) rfl ?_; refine r_v (q_add rfl rfl) rfl ?_
      refine r_is (.int .i64 ((j + 1 : Nat) : Int)) (by rw [wrap64 (by omega) (by omega)]; rfl) ?_
      refine r_v (q_assignI rfl) rfl ?_
      refine r_nil ⟨(j + 1, (y * 256 + q.toNat) % 18446744073709551616), ⟨rfl, rfl, rfl, rfl, rfl, rfl, trivial⟩, ⟨hj8, Nat.mod_lt _ (by decide), fun ws h1 h2 x hx => ?_, h⟩, by dsimp only; omega⟩
      dsimp only
      have hb := bigL_get ws k hx hj8
      rw [← h2, hg] at hb
      rw [Option.some.inj hb, hY ws h1 h2 x hx, word_up hj8]
      exact Nat.mod_eq_of_lt (Nat.lt_of_le_of_lt (Nat.div_le_self _ _) (h1 x (List.mem_of_getElem? hx)))
     ·refine r_is (.bool false) (by congr 1; rw [decide_eq_false_iff_not]; omega) ?_
      refine r_nil (c_false rfl ?_)
      refine c_exit ⟨y, ⟨rfl, rfl, rfl, rfl, rfl, trivial⟩, hy, fun ws h1 h2 => ?_, h⟩
      have hwl : bs.length = 8 * ws.length := by rw [h2, bigL_len]
      have hgw := List.getElem?_eq_getElem (show k < ws.length by omega)
      rw [hgw]
      congr 1
      rw [hY ws h1 h2 _ hgw, show 64 - 8 * j = 0 by omega, Nat.pow_zero, Nat.div_one]
    clear h
    rintro x w e ⟨hx, hX, h⟩
    refine c_region ?_
    refine r_v (q_moveS rfl) rfl ?_; refine r_v (q_moveI rfl) rfl ?_
    refine r_app1 (v := .int .u64 (x : Int)) (m3 := (out ++ [x]).length) (zs := u64V (out ++ [x])) h rfl rfl rfl rfl rfl (by simp) (by simp [u64V, vcells]) (by simp; omega) (by simp; omega) rfl rfl rfl rfl rfl fun b2 a2 c2 w _ h => ?_
    refine r_v (q_assignS rfl) rfl ?_
    refine r_nil ?_
    refine c_region ?_
    refine r_v (q_moveI rfl) rfl ?_; refine r_v (q_add rfl rfl) rfl ?_
    refine r_is (.int .i64 ((8 * (k + 1) : Nat) : Int)) (by rw [wrap64 (by omega) (by omega)]; congr 1) ?_
    refine r_v (q_assignI rfl) rfl ?_
    refine r_nil ⟨(k + 1, out ++ [x], a2, c2), ⟨rfl, rfl, rfl, rfl, trivial⟩, ⟨hlt, by simp; omega, fun z hz => ?_, fun ws h1 h2 => ?_, h⟩, by dsimp only; omega⟩
    ·rcases List.mem_append.1 hz with hz | hz
     ·exact hout z hz
     ·rw [show z = x by simpa using hz]; exact hx
    ·dsimp only
     rw [List.take_add_one, hX ws h1 h2, hT ws h1 h2]; rfl
   ·refine r_is (.bool false) (by congr 1; rw [decide_eq_false_iff_not]; omega) ?_
    refine r_nil (c_false rfl ?_)
    refine c_exit ⟨(out, oa, oc), ⟨rfl, rfl, trivial⟩, hout, by dsimp only; omega, fun ws h1 h2 => ?_, h⟩
    have hwl : bs.length = 8 * ws.length := by rw [h2, bigL_len]
    dsimp only
    rw [hT ws h1 h2, List.take_of_length_le (by omega)]
  clear h
  rintro ⟨ws, wa, wc⟩ w e ⟨hws, hwl, hW, h⟩
  dsimp only at hws hwl hW h ⊢
  refine c_seq (c_region ?_)
  refine r_v (q_moveS rfl) rfl ?_; refine r_v (q_moveI rfl) rfl ?_
  refine r_c rfl (x_call rfl (ref4_GetSimple hws (by omega) hn Reads.own h) ?_)
  rintro _ w ⟨sa, sc, S, ok, rfl, hS1, hS2, hS64, hSn, h⟩
  refine r_v (q_moveT rfl) rfl ?_; refine r_v (q_ext rfl rfl) rfl ?_; refine r_v (q_ext rfl rfl) rfl ?_; refine r_v (q_assignS rfl) rfl ?_; refine r_v (q_assignB rfl) rfl ?_
  refine r_nil ?_
  refine c_seq (c_region ?_)
  refine r_v (q_assignS rfl) rfl ?_
  refine r_nil ?_
  refine c_seq (c_region ?_)
  refine r_v (q_assignI rfl) rfl ?_
  refine r_nil ?_
  refine c_cut (Γ := Option Addr × Nat) (fun k => [(13, .bool ok), (14, .slice k.1 (sumsL 0 S).length k.2)]) (fun k w => St w0 (OwnU k.1 k.2 (sumsL 0 S) :: l) w) ?_ ?_
  ·refine c_seq (c_region ?_)
   refine r_v (q_assignI rfl) rfl ?_
   refine r_nil ?_
   refine c_block ?_
   refine c_loop (Γ := Nat × List Nat × Nat × Option Addr × Nat) (fun k => [(12, .slice sa S.length sc), (13, .bool ok), (14, .slice k.2.2.2.1 k.2.1.length k.2.2.2.2), (15, .int .u64 k.2.2.1), (16, .int .i64 k.1)])
    (fun k w => k.1 ≤ S.length ∧ k.2.1.length = k.1 ∧ k.2.2.1 < 18446744073709551616 ∧ sumsL 0 S = k.2.1 ++ sumsL k.2.2.1 (S.drop k.1) ∧ St w0 (OwnU k.2.2.2.1 k.2.2.2.2 k.2.1 :: OwnU sa sc S :: l) w) (fun k => S.length - k.1) (0, [], 0, none, 0) ⟨rfl, rfl, rfl, rfl, rfl, trivial⟩ ⟨Nat.zero_le _, rfl, by decide, rfl, St.ownNil _ _ (h.x [1])⟩ ?_
   clear h
   rintro ⟨k, out, was, oa, oc⟩ w e ⟨hk, hol, hwas, inv, h⟩
   dsimp only at hk hol hwas inv h ⊢
   refine c_seq (c_seq (c_region ?_))
   refine r_v (q_moveI rfl) rfl ?_; refine r_v (q_moveS rfl) rfl ?_; refine r_v (q_len rfl) rfl ?_; refine r_v (q_lss rfl rfl) rfl ?_
   refine r_nil ?_
   refine c_cond (decide ((k : Int) < (S.length : Int))) rfl (fun hc1 => ?_) (fun hc1 => ?_)
   ·have hlt : k < S.length := by simp at hc1; omega
    have hg := List.getElem?_eq_getElem hlt
    have hdr := List.drop_eq_getElem_cons hlt
    generalize S[k] = z at hg hdr
    have hz := hS64 z (List.mem_of_getElem? hg)
    rw [hdr, sumsL] at inv
    obtain ⟨g, rfl⟩ := (h.f 1).own_some (by omega)
    refine c_skip ?_
    refine c_seq (c_block ?_)
    refine c_seq (c_region ?_)
    refine r_v (q_moveI rfl) rfl ?_; refine r_v (q_moveS rfl) rfl ?_; refine r_v (q_moveI rfl) rfl ?_
    refine r_v (q_idx (b := g) (o := 0) (m := S.length) (c := sc) (o' := k) rfl rfl rfl hlt (by simp)) rfl ?_
    refine r_v (q_loadc (v := .int .u64 (z : Int)) rfl (by have := (h.f 1).own_rd.cell (u64V_get hg); simpa using this)) rfl ?_
    refine r_c rfl (x_call rfl (ref1_Zag hz h) ?_)
    rintro _ w ⟨rfl, h⟩
    refine r_v (q_conv rfl) rfl ?_
    refine r_is (.int .u64 (zagU z : Nat)) (by rw [wrap_us, us_sg (zagU_lt hz)]) ?_
    refine r_v (q_add rfl rfl) rfl ?_
    refine r_is (.int .u64 (summ was (zagU z) : Nat)) (by rw [wrap_summ]) ?_
    refine r_v (q_assignI rfl) rfl ?_
    refine r_nil ?_
    have hx : summ was (zagU z) < 18446744073709551616 := Nat.mod_lt _ (by decide)
    generalize summ was (zagU z) = x at inv hx ⊢
    refine c_region ?_
    refine r_v (q_moveS rfl) rfl ?_; refine r_v (q_moveI rfl) rfl ?_
    refine r_app1 (v := .int .u64 (x : Int)) (m3 := (out ++ [x]).length) (zs := u64V (out ++ [x])) h rfl rfl rfl rfl rfl (by simp) (by simp [u64V, vcells]) (by simp; omega) (by simp; omega) rfl rfl rfl rfl rfl fun b2 a2 c2 w _ h => ?_
    refine r_v (q_assignS rfl) rfl ?_
    refine r_nil ?_
    refine c_region ?_
    refine r_v (q_moveI rfl) rfl ?_; refine r_v (q_add rfl rfl) rfl ?_
    refine r_is (.int .i64 ((k + 1 : Nat) : Int)) (by rw [wrap64 (by omega) (by omega)]; rfl) ?_
    refine r_v (q_assignI rfl) rfl ?_
    exact r_nil ⟨(k + 1, out ++ [x], x, a2, c2), ⟨rfl, rfl, rfl, rfl, rfl, trivial⟩, ⟨hlt, by simp; omega, hx, by rw [inv]; simp, h⟩, by dsimp only; omega⟩
   ·obtain rfl : k = S.length := by simp at hc1; omega
    rw [List.drop_length, sumsL, List.append_nil] at inv
    rw [inv]
    exact c_exit ⟨(oa, oc), ⟨rfl, rfl, trivial⟩, h.x [1]⟩
  clear h
  rintro ⟨oa, oc⟩ w e h
  dsimp only at h ⊢
  refine c_seq (c_region ?_)
  refine r_v (q_moveS rfl) rfl ?_; refine r_v (q_moveB rfl) rfl ?_; refine r_v (q_assignS rfl) rfl ?_; refine r_v (q_assignB rfl) rfl ?_
  refine r_nil (c_ret (bq2 ⟨ok, oa, oc, sumsL 0 S, rfl, fun _ => sumsL_lt S 0, fun V v1 v2 v3 => ?_, h⟩))
  obtain ⟨ws', e1, e2, e3⟩ := hve V v3
  obtain rfl := hW ws' e3 e2
  have e4 := simpDec_told e1
  rw [stepsL_len, v2] at e4
  rw [e4] at hS1
  cases ok with
  | false => cases hS1
  | true => cases hS1; exact ⟨rfl, sums_steps V 0 (by decide) v1⟩
 have n2 : tag ≠ 2 := by simpa using hc1
 refine c_seq (c_region ?_)
 refine r_v (q_eql rfl rfl) rfl ?_; refine r_v (q_assignB rfl) rfl ?_
 refine r_nil ?_
 refine c_cond (tag == 3) rfl (fun hc1 => ?_) (fun hc1 => ?_)
 ·have ht : tag = 3 := by simpa using hc1
  subst ht
  refine c_seq (c_region ?_)
  refine r_v (q_moveS rfl) rfl ?_; refine r_v (q_moveI rfl) rfl ?_
  refine r_c rfl (x_call rfl (ref4_GetRuns hn hbn hc hr h) ?_)
  intro v w h
  obtain ⟨ok, a, c', vs, rfl, h1, h2, h⟩ : ReadsV w0 l n 3 bs v w := Told.reads h fun V v1 v2 v3 => by
   unfold valuesEnc at v3
   rw [if_neg (by decide), if_neg (by decide), if_pos rfl] at v3
   rw [← Option.some.inj v3, ← v2]
   exact runsDec_told (by omega) v1
  refine r_v (q_ext rfl rfl) rfl ?_; refine r_v (q_ext rfl rfl) rfl ?_; refine r_v (q_assignS rfl) rfl ?_; refine r_v (q_assignB rfl) rfl ?_
  exact r_nil (c_ret (bq2 ⟨ok, a, c', vs, rfl, h1, h2, h⟩))
 have n3 : tag ≠ 3 := by simpa using hc1
 refine c_seq (c_region ?_)
 refine r_v (q_eql rfl rfl) rfl ?_; refine r_v (q_assignB rfl) rfl ?_
 refine r_nil ?_
 refine c_cond (tag == 4) rfl (fun hc1 => ?_) (fun hc1 => ?_)
 ·have ht : tag = 4 := by simpa using hc1
  subst ht
  refine c_seq (c_region ?_)
  refine r_v (q_moveS rfl) rfl ?_; refine r_v (q_moveI rfl) rfl ?_
  refine r_c rfl (x_call rfl (ref4_GetFrame hn hbn hc hr h) ?_)
  intro v w h
  obtain ⟨ok, a, c', vs, rfl, h1, h2, h⟩ : ReadsV w0 l n 4 bs v w := Told.reads h fun V v1 v2 v3 => by
   unfold valuesEnc at v3
   rw [if_neg (by decide), if_neg (by decide), if_neg (by decide), if_pos rfl] at v3
   rw [← Option.some.inj v3, ← v2]
   exact frameDec_told v1
  refine r_v (q_ext rfl rfl) rfl ?_; refine r_v (q_ext rfl rfl) rfl ?_; refine r_v (q_assignS rfl) rfl ?_; refine r_v (q_assignB rfl) rfl ?_
  exact r_nil (c_ret (bq2 ⟨ok, a, c', vs, rfl, h1, h2, h⟩))
 have n4 : tag ≠ 4 := by simpa using hc1
 refine c_seq (c_region ?_)
 refine r_v (q_eql rfl rfl) rfl ?_; refine r_v (q_assignB rfl) rfl ?_
 refine r_nil ?_
 refine c_cond (tag == 5) rfl (fun hc1 => ?_) (fun hc1 => ?_)
 ·have ht : tag = 5 := by simpa using hc1
  subst ht
  refine c_seq (c_region ?_)
  refine r_v (q_moveS rfl) rfl ?_; refine r_v (q_moveI rfl) rfl ?_
  refine r_c rfl (x_call rfl (ref4_GetDict hn hbn hc hr h) ?_)
  intro v w h
  obtain ⟨ok, a, c', vs, rfl, h1, h2, h⟩ : ReadsV w0 l n 5 bs v w := Told.reads h fun V v1 v2 v3 => by
   unfold valuesEnc at v3
   rw [if_neg (by decide), if_neg (by decide), if_neg (by decide), if_neg (by decide), if_pos rfl] at v3
   rw [← v2]
   exact dictDec_told v1 v3
  refine r_v (q_ext rfl rfl) rfl ?_; refine r_v (q_ext rfl rfl) rfl ?_; refine r_v (q_assignS rfl) rfl ?_; refine r_v (q_assignB rfl) rfl ?_
  exact r_nil (c_ret (bq2 ⟨ok, a, c', vs, rfl, h1, h2, h⟩))
 have n5 : tag ≠ 5 := by simpa using hc1
 refine c_seq (c_region ?_)
 refine r_v (q_eql rfl rfl) rfl ?_; refine r_v (q_assignB rfl) rfl ?_
 refine r_nil ?_
 refine c_cond (tag == 6) rfl (fun hc1 => ?_) (fun hc1 => ?_)
 ·have ht : tag = 6 := by simpa using hc1
  subst ht
  have hm := vget_lt bs
  have hk := vget_le bs
  refine c_seq (c_region ?_)
  refine r_v (q_moveS rfl) rfl ?_
  refine r_c rfl (x_call rfl (ref1_Get h hr hbn) ?_)
  rintro _ w ⟨rfl, h⟩
  refine r_v (q_moveT rfl) rfl ?_; refine r_v (q_ext rfl rfl) rfl ?_; refine r_v (q_ext rfl rfl) rfl ?_; refine r_v (q_assignI rfl) rfl ?_; refine r_v (q_assignI rfl) rfl ?_
  refine r_nil ?_
  refine c_seq (c_region ?_)
  refine r_v (q_assignS rfl) rfl ?_
  refine r_nil ?_
  have hV : ∀ V : List Nat, (∀ x ∈ V, x < 18446744073709551616) → V.length = n → valuesEnc 6 V = some bs → (n = 0 ∨ 0 < (vget bs).2) ∧ V = List.replicate n (vget bs).1 := by
   intro V v1 v2 v3
   unfold valuesEnc at v3
   rw [if_neg (by decide), if_neg (by decide), if_neg (by decide), if_neg (by decide), if_neg (by decide), if_pos rfl] at v3
   rcases sameEnc_some v3 with ⟨rfl, _⟩ | ⟨x, e1, e2, e3, rfl⟩
   ·obtain rfl : 0 = n := v2
    exact ⟨.inl rfl, rfl⟩
   ·have hg := vget_vput (v1 x e3) []
    rw [List.append_nil] at hg
    rw [hg, ← v2]
    have := vput_len x
    exact ⟨.inr (by dsimp only; omega), e1⟩
  generalize (vget bs).1 = x at hm hV ⊢
  generalize (vget bs).2 = i at hk hV ⊢
  refine c_cut (Γ := Option Addr × Nat) (fun k => [(2, .int .i64 n), (18, .int .i64 i), (19, .slice k.1 (List.replicate n x).length k.2)]) (fun k w => St w0 (OwnU k.1 k.2 (List.replicate n x) :: l) w) ?_ ?_
  ·refine c_seq (c_region ?_)
   refine r_v (q_assignI rfl) rfl ?_
   refine r_nil ?_
   refine c_block ?_
   refine c_loop (Γ := Nat × Option Addr × Nat) (fun k => [(2, .int .i64 n), (17, .int .u64 x), (18, .int .i64 i), (19, .slice k.2.1 (List.replicate k.1 x).length k.2.2), (20, .int .i64 k.1)])
    (fun k w => k.1 ≤ n ∧ St w0 (OwnU k.2.1 k.2.2 (List.replicate k.1 x) :: l) w) (fun k => n - k.1) (0, none, 0) ⟨rfl, rfl, rfl, rfl, rfl, trivial⟩ ⟨Nat.zero_le _, St.ownNil _ _ h⟩ ?_
   clear h
   rintro ⟨k, oa, oc⟩ w e ⟨hkn, h⟩
   dsimp only at hkn h ⊢
   refine c_seq (c_seq (c_region ?_))
   refine r_v (q_moveI rfl) rfl ?_; refine r_v (q_moveI rfl) rfl ?_; refine r_v (q_lss rfl rfl) rfl ?_
   by_cases hlt : k < n
   ·refine r_is (.bool true) (by congr 1; rw [decide_eq_true_eq]; omega) ?_
    refine r_nil (c_true rfl (c_skip ?_))
    refine c_seq (c_block ?_)
    refine c_region ?_
    refine r_v (q_moveS rfl) rfl ?_; refine r_v (q_moveI rfl) rfl ?_
    refine r_app1 (v := .int .u64 (x : Int)) (m3 := (List.replicate (k + 1) x).length) (zs := u64V (List.replicate (k + 1) x)) h rfl rfl rfl rfl rfl (by simp) (by rw [List.replicate_succ']; simp [u64V, vcells]) (by simp; omega) (by simp; omega) rfl rfl rfl rfl rfl fun b2 a2 c2 w _ h => ?_
    refine r_v (q_assignS rfl) rfl ?_
    refine r_nil ?_
    refine c_region ?_
    refine r_v (q_moveI rfl) rfl ?_; refine r_v (q_add rfl rfl) rfl ?_
    refine r_is (.int .i64 ((k + 1 : Nat) : Int)) (by rw [wrap64 (by omega) (by omega)]; rfl) ?_
    refine r_v (q_assignI rfl) rfl ?_
    exact r_nil ⟨(k + 1, a2, c2), ⟨rfl, rfl, rfl, rfl, rfl, trivial⟩, ⟨hlt, h⟩, by dsimp only; omega⟩
   ·refine r_is (.bool false) (by congr 1; rw [decide_eq_false_iff_not]; omega) ?_
    refine r_nil (c_false rfl ?_)
    obtain rfl : k = n := by omega
    exact c_exit ⟨(oa, oc), ⟨rfl, rfl, rfl, trivial⟩, h⟩
  clear h
  rintro ⟨oa, oc⟩ w e h
  dsimp only at h ⊢
  refine c_seq (c_region ?_)
  refine r_v (q_moveS rfl) rfl ?_; refine r_v (q_moveI rfl) rfl ?_; refine r_v (q_eql rfl rfl) rfl ?_
  by_cases hn0 : n = 0
  ·refine r_is (.bool true) (by rw [hn0]; rfl) ?_
   refine r_v (q_moveB rfl) rfl ?_; refine r_gn rfl rfl rfl ?_; refine r_gn rfl rfl rfl ?_; refine r_v (q_pick1 rfl rfl rfl) rfl ?_; refine r_v (q_assignS rfl) rfl ?_; refine r_v (q_assignB rfl) rfl ?_
   refine r_nil (c_ret (bq2 ⟨true, oa, oc, List.replicate n x, rfl, fun _ y hy => by rw [(List.mem_replicate.1 hy).2]; exact hm, fun V v1 v2 v3 => ⟨rfl, ((hV V v1 v2 v3).2).symm⟩, h⟩))
  ·refine r_is (.bool false) (by congr 1; rw [beq_eq_false_iff_ne]; omega) ?_
   refine r_v (q_moveB rfl) rfl ?_; refine r_gd rfl rfl ?_; refine r_v (q_moveI rfl) rfl ?_; refine r_gd rfl rfl ?_; refine r_v (q_gtr rfl rfl) rfl ?_; refine r_v (q_pick0 rfl rfl rfl) rfl ?_; refine r_v (q_assignS rfl) rfl ?_; refine r_v (q_assignB rfl) rfl ?_
   refine r_nil (c_ret (bq2 ⟨decide ((i : Int) > 0), oa, oc, List.replicate n x, rfl, fun _ y hy => by rw [(List.mem_replicate.1 hy).2]; exact hm, fun V v1 v2 v3 => ⟨?_, ((hV V v1 v2 v3).2).symm⟩, h⟩))
   have := (hV V v1 v2 v3).1
   rw [decide_eq_true_eq]; omega
 have n6 : tag ≠ 6 := by simpa using hc1
 refine c_skip ?_
 refine c_seq (c_region ?_)
 refine r_v (q_assignS rfl) rfl ?_; refine r_v (q_assignB rfl) rfl ?_
 refine r_nil (c_ret (bq2 ⟨false, none, 0, [], rfl, (fun h => by cases h), fun V v1 v2 v3 => ?_, St.ownNil _ _ h⟩))
 unfold valuesEnc at v3
 rw [if_neg n1, if_neg n2, if_neg n3, if_neg n4, if_neg n5, if_neg n6] at v3
 cases v3
end
end Go.Proofs.YtjjacchnalemaaaGreatDoor

namespace Go.Proofs.YtjjacchnalemaaaGreatDoor
open Go.Hw
set_option maxHeartbeats 4000000
set_option maxRecDepth 100000
section
variable {w0 w : World} {l : List HProp}
theorem ref10_Decode {tag : Int} {sl : Option Addr} {c : Nat} {bs : List UInt8} (n : Int) (hn : bs.length ≤ 140737488355328) (hc : bs.length ≤ c) (hr : Reads w0 l 1 sl bs.length (bytesV bs)) (h : St w0 l w) :
  Ret Tryz.prog 15 [.int .i64 tag, .slice sl bs.length c, .int .i64 n] w fun v w' => ∃ a c', v = .tuple [.slice a ((suitDec tag bs n).getD []).length c', .bool (suitDec tag bs n).isSome].toArray ∧ (∀ L, suitDec tag bs n = some L → (L.length : Int) = n ∧ ∀ s ∈ L, s.Wf) ∧ St w0 (OwnS a c' ((suitDec tag bs n).getD []) :: l) w' := by
 have hk := vget_le bs
 have hsz := vget_lt bs
 have hM : ∀ L, suitDec tag bs n = some L → (L.length : Int) = n ∧ ∀ s ∈ L, s.Wf := fun L hL => by
  obtain ⟨_, _, _, _, _, _, _, _, _, _, _, _, h1, h2⟩ := suitDec_parts hL
  exact ⟨h2, h1⟩
 have bad : ∀ {w : World}, suitDec tag bs n = none → St w0 l w → ∃ a c', Value.tuple [.slice none 0 0, .bool false].toArray = .tuple [.slice a ((suitDec tag bs n).getD []).length c', .bool (suitDec tag bs n).isSome].toArray ∧ (∀ L, suitDec tag bs n = some L → (L.length : Int) = n ∧ ∀ s ∈ L, s.Wf) ∧ St w0 (OwnS a c' ((suitDec tag bs n).getD []) :: l) w := fun hb h => by
  rw [hb]
  exact ⟨none, 0, rfl, (fun _ h => by cases h), St.ownNil _ _ h⟩
 have hdef : ∀ D, suitDec tag bs n = some D → _ := fun D hD => suitDec_parts hD
 have htold := fun (D : List Smp) (hw : ∀ s ∈ D, s.Wf) (hE : suitEnc tag D = some bs) => suitDec_told hw (by omega) hE
 have none_of : (∀ D, suitDec tag bs n = some D → False) → suitDec tag bs n = none := fun hh => by
  cases hD : suitDec tag bs n with
  | none => rfl
  | some D => exact (hh D hD).elim
 refine enter Tryz.func15 rfl Tryz.results15 Tryz.ntmps15 rfl ?_
 refine c_seq (c_region ?_)
 refine r_v (q_assignS rfl) rfl ?_; refine r_v (q_assignB rfl) rfl ?_
 refine r_nil ?_
 refine c_seq (c_region ?_)
 refine r_v (q_moveS rfl) rfl ?_
 refine r_c rfl (x_call rfl (ref1_Get h hr hn) ?_)
 rintro _ w ⟨rfl, h⟩
 refine r_v (q_moveT rfl) rfl ?_; refine r_v (q_ext rfl rfl) rfl ?_; refine r_v (q_ext rfl rfl) rfl ?_; refine r_v (q_assignI rfl) rfl ?_; refine r_v (q_assignI rfl) rfl ?_
 refine r_nil ?_
 generalize (vget bs).1 = size at hsz hdef ⊢
 generalize (vget bs).2 = k at hk hdef ⊢
 refine c_cut (Γ := Unit) (fun _ => [(0, .int .i64 tag), (1, .slice sl bs.length c), (2, .int .i64 n), (8, .int .u64 size), (9, .int .i64 k)]) (fun _ w => (¬ (k = 0 ∨ n < 0 ∨ 65535 < n ∨ bs.length - k < size)) ∧ St w0 l w) ?_ ?_
 ·refine c_seq (c_region ?_)
  have bad2 : ∀ {w : World}, (k = 0 ∨ n < 0 ∨ 65535 < n ∨ bs.length - k < size) → St w0 l w → _ := fun hb h => bad (none_of fun D hD => by have := hdef D hD; omega) h
  by_cases g2 : n < 0
  ·refine r_v (q_moveI rfl) rfl ?_
   refine r_v (q_is (v' := .bool true) (q_lss rfl rfl) (by congr 1; simpa using g2)) rfl ?_
   refine r_v (q_moveB rfl) rfl ?_; refine r_gn rfl rfl rfl ?_; refine r_gn rfl rfl rfl ?_; refine r_v (q_pick1 rfl rfl rfl) rfl ?_; refine r_v (q_moveB rfl) rfl ?_; refine r_gn rfl rfl rfl ?_; refine r_gn rfl rfl rfl ?_; refine r_v (q_pick1 rfl rfl rfl) rfl ?_; refine r_v (q_moveB rfl) rfl ?_; refine r_gn rfl rfl rfl ?_; refine r_gn rfl rfl rfl ?_; refine r_gn rfl rfl rfl ?_; refine r_gn rfl rfl rfl ?_; refine r_gn rfl rfl rfl ?_; refine r_gn rfl rfl rfl ?_; refine r_gn rfl rfl rfl ?_; refine r_v (q_pick1 rfl rfl rfl) rfl ?_
   refine r_nil (c_true rfl ?_)
   refine c_seq (c_region ?_)
   refine r_v (q_assignS rfl) rfl ?_; refine r_v (q_assignB rfl) rfl ?_
   exact r_nil (c_ret (bq2 (bad2 (.inr (.inl g2)) h)))
  refine r_v (q_moveI rfl) rfl ?_
  refine r_v (q_is (v' := .bool false) (q_lss rfl rfl) (by congr 1; simpa using g2)) rfl ?_
  by_cases g3 : 65535 < n
  ·refine r_v (q_moveB rfl) rfl ?_; refine r_gd rfl rfl ?_; refine r_v (q_moveI rfl) rfl ?_; refine r_gd rfl rfl ?_
   refine r_v (q_is (v' := .bool true) (q_gtr rfl rfl) (by congr 1; simpa using g3)) rfl ?_
   refine r_v (q_pick0 rfl rfl rfl) rfl ?_; refine r_v (q_moveB rfl) rfl ?_; refine r_gn rfl rfl rfl ?_; refine r_gn rfl rfl rfl ?_; refine r_v (q_pick1 rfl rfl rfl) rfl ?_; refine r_v (q_moveB rfl) rfl ?_; refine r_gn rfl rfl rfl ?_; refine r_gn rfl rfl rfl ?_; refine r_gn rfl rfl rfl ?_; refine r_gn rfl rfl rfl ?_; refine r_gn rfl rfl rfl ?_; refine r_gn rfl rfl rfl ?_; refine r_gn rfl rfl rfl ?_; refine r_v (q_pick1 rfl rfl rfl) rfl ?_
   refine r_nil (c_true rfl ?_)
   refine c_seq (c_region ?_)
   refine r_v (q_assignS rfl) rfl ?_; refine r_v (q_assignB rfl) rfl ?_
   exact r_nil (c_ret (bq2 (bad2 (.inr (.inr (.inl g3))) h)))
  refine r_v (q_moveB rfl) rfl ?_; refine r_gd rfl rfl ?_; refine r_v (q_moveI rfl) rfl ?_; refine r_gd rfl rfl ?_
  refine r_v (q_is (v' := .bool false) (q_gtr rfl rfl) (by congr 1; simpa using g3)) rfl ?_
  by_cases g1 : k = 0
  ·refine r_v (q_pick0 rfl rfl rfl) rfl ?_; refine r_v (q_moveB rfl) rfl ?_; refine r_gd rfl rfl ?_; refine r_v (q_moveI rfl) rfl ?_; refine r_gd rfl rfl ?_
   refine r_v (q_is (v' := .bool true) (q_eql rfl rfl) (by rw [g1]; rfl)) rfl ?_
   refine r_v (q_pick0 rfl rfl rfl) rfl ?_; refine r_v (q_moveB rfl) rfl ?_; refine r_gn rfl rfl rfl ?_; refine r_gn rfl rfl rfl ?_; refine r_gn rfl rfl rfl ?_; refine r_gn rfl rfl rfl ?_; refine r_gn rfl rfl rfl ?_; refine r_gn rfl rfl rfl ?_; refine r_gn rfl rfl rfl ?_; refine r_v (q_pick1 rfl rfl rfl) rfl ?_
   refine r_nil (c_true rfl ?_)
   refine c_seq (c_region ?_)
   refine r_v (q_assignS rfl) rfl ?_; refine r_v (q_assignB rfl) rfl ?_
   exact r_nil (c_ret (bq2 (bad2 (.inl g1) h)))
  refine r_v (q_pick0 rfl rfl rfl) rfl ?_; refine r_v (q_moveB rfl) rfl ?_; refine r_gd rfl rfl ?_; refine r_v (q_moveI rfl) rfl ?_; refine r_gd rfl rfl ?_
  refine r_v (q_is (v' := .bool false) (q_eql rfl rfl) (by congr 1; rw [beq_eq_false_iff_ne]; omega)) rfl ?_
  refine r_v (q_pick0 rfl rfl rfl) rfl ?_; refine r_v (q_moveB rfl) rfl ?_; refine r_gd rfl rfl ?_; refine r_v (q_moveI rfl) rfl ?_; refine r_gd rfl rfl ?_; refine r_v (q_moveS rfl) rfl ?_; refine r_gd rfl rfl ?_; refine r_v (q_len rfl) rfl ?_; refine r_gd rfl rfl ?_; refine r_v (q_moveI rfl) rfl ?_; refine r_gd rfl rfl ?_
  refine r_v (q_is (v' := .int .i64 ((bs.length - k : Nat) : Int)) (q_sub rfl rfl) (by rw [wrap64 (by omega) (by omega)]; congr 1; omega)) rfl ?_
  refine r_gd rfl rfl ?_
  refine r_v (q_is (v' := .int .u64 ((bs.length - k : Nat) : Int)) (q_conv rfl) (congrArg (Value.int .u64) (conv_nat (by omega)))) rfl ?_
  refine r_gd rfl rfl ?_; refine r_v (q_gtr rfl rfl) rfl ?_; refine r_v (q_pick0 rfl rfl rfl) rfl ?_
  refine r_nil (c_cond (decide ((size : Int) > ((bs.length - k : Nat) : Int))) rfl (fun hc1 => ?_) (fun hc1 => ?_))
  ·refine c_seq (c_region ?_)
   refine r_v (q_assignS rfl) rfl ?_; refine r_v (q_assignB rfl) rfl ?_
   exact r_nil (c_ret (bq2 (bad2 (.inr (.inr (.inr (by simp at hc1; omega)))) h)))
  ·exact c_skip ⟨(), ⟨rfl, rfl, rfl, rfl, rfl, trivial⟩, by simp at hc1; omega, h⟩
 clear h
 rintro _ w e ⟨hcond, h⟩
 obtain ⟨n, rfl⟩ := Int.eq_ofNat_of_zero_le (show 0 ≤ n by omega)
 have hn16 : n ≤ 65535 := by omega
 have hsk : k + size ≤ bs.length := by omega
 refine c_seq (c_region ?_)
 refine r_v (q_moveS rfl) rfl ?_; refine r_v (q_moveI rfl) rfl ?_; refine r_v (q_moveI rfl) rfl ?_; refine r_v (q_moveI rfl) rfl ?_; refine r_v (q_conv rfl) rfl ?_
 refine r_is (.int .i64 (size : Int)) (by rw [wrap64 (by omega) (by omega)]) ?_
 refine r_v (q_add rfl rfl) rfl ?_
 refine r_is (.int .i64 ((k + size : Nat) : Int)) (by rw [wrap64 (by omega) (by omega)]; rfl) ?_
 refine r_v (q_cut rfl rfl rfl (by omega) (by omega)) rfl ?_
 have hrc := Reads.cut hr (i := k) (j := k + size) (by omega) (by omega) hc
 have hpl : ((bs.drop k).take size).length = k + size - k := by rw [List.length_take, List.length_drop]; omega
 have hrc' : Reads w0 l 1 (adv sl (k * 1) (Nat.beq c k)) ((bs.drop k).take size).length (bytesV ((bs.drop k).take size)) := by
  rw [hpl]
  have : bytesV ((bs.drop k).take size) = ((bytesV bs).drop (k * 1)).take ((k + size - k) * 1) := by
   unfold bytesV
   rw [List.map_take, List.map_drop]
   congr 1
   ·omega
   ·congr 1; omega
  rw [this]
  exact hrc
 show Rn _ _ _ _ _ (upd _ _ (.slice (adv sl (k * 1) (Nat.beq c k)) (k + size - k) (c - k))) _
 rw [← hpl]
 refine r_v (q_build rfl) rfl ?_
 generalize hP : (bs.drop k).take size = P at hpl hrc' hdef
 refine r_c rfl (x_box h rfl fun b w h => ?_)
 replace h : St w0 (RrS b (adv sl (k * 1) (Nat.beq c k)) (c - k) P ⟨bitsB P, false⟩ :: l) w := by
  show St w0 (RrPt b (adv sl (k * 1) (Nat.beq c k)) P.length (c - k) (8 * P.length - (bitsB P).length) false :: l) w
  rw [bitsB_len, Nat.sub_self]; exact h
 refine r_v (q_moveI rfl) rfl ?_
 refine r_c rfl (x_call rfl (ref4_GetTimes (n : Int) (Suf.all P) (by omega) hrc' h) ?_)
 rw [askN_nat hn16]
 simp only [Int.toNat_natCast] at hdef
 generalize hX : timesDec n ⟨bitsB P, false⟩ = X at hdef
 rintro _ w ⟨ta, tc, s', rfl, hti, h⟩
 refine r_v (q_moveT rfl) rfl ?_; refine r_v (q_ext rfl rfl) rfl ?_; refine r_v (q_ext rfl rfl) rfl ?_; refine r_v (q_assignS rfl) rfl ?_; refine r_v (q_assignB rfl) rfl ?_
 refine r_nil ?_
 have hrt : Reads w0 l 1 (adv sl ((k + size) * 1) (Nat.beq c (k + size))) (bs.drop (k + size)).length (bytesV (bs.drop (k + size))) := by
  have := Reads.tail hr (i := k + size) hsk hc
  rw [List.length_drop]
  have e1 : bytesV (bs.drop (k + size)) = (bytesV bs).drop ((k + size) * 1) := by
   unfold bytesV
   rw [List.map_drop]
   congr 1; omega
  rw [e1]
  exact this
 refine c_seq (c_region ?_)
 refine r_v (q_moveI rfl) rfl ?_; refine r_v (q_moveS rfl) rfl ?_; refine r_v (q_moveI rfl) rfl ?_; refine r_v (q_moveI rfl) rfl ?_; refine r_v (q_conv rfl) rfl ?_
 refine r_is (.int .i64 (size : Int)) (by rw [wrap64 (by omega) (by omega)]) ?_
 refine r_v (q_add rfl rfl) rfl ?_
 refine r_is (.int .i64 ((k + size : Nat) : Int)) (by rw [wrap64 (by omega) (by omega)]; rfl) ?_
 refine r_v (q_tail (i := k + size) rfl rfl hsk) rfl ?_
 show Rn _ _ _ _ _ (upd _ _ (.slice (adv sl ((k + size) * 1) (Nat.beq c (k + size))) (bs.length - (k + size)) (c - (k + size)))) _
 rw [← List.length_drop]
 refine r_v (q_moveI rfl) rfl ?_
 refine r_c rfl (x_call rfl (ref10_read tag hn16 (by rw [List.length_drop]; omega) (by rw [List.length_drop]; omega) (hrt.more [_, _]) h) ?_)
 rintro _ w ⟨ok, va, vc, vs, rfl, hv64, hvt, h⟩
 refine r_v (q_moveT rfl) rfl ?_; refine r_v (q_ext rfl rfl) rfl ?_; refine r_v (q_ext rfl rfl) rfl ?_; refine r_v (q_assignS rfl) rfl ?_; refine r_v (q_assignB rfl) rfl ?_
 refine r_nil ?_
 refine c_cut (Γ := List Int × RS) (fun q => [(0, .int .i64 tag), (1, .slice sl bs.length c), (2, .int .i64 n), (10, .slice ta q.1.length tc), (12, .slice va vs.length vc)]) (fun q w => X = some q ∧ ok = true ∧ vs.length = n ∧ St w0 (OwnU va vc vs :: OwnT64 ta tc q.1 :: RrS b (adv sl (k * 1) (Nat.beq c k)) (c - k) P s' :: l) w) ?_ ?_
 ·have bad2 : ∀ {w : World}, (X = none ∨ ok = false ∨ vs.length ≠ n) → St w0 l w → _ := fun hb h => bad (none_of fun D hD => by
   obtain ⟨_, _, _, _, x', v, e1, e2, e3, e4, _⟩ := hdef D hD
   obtain ⟨t1, t2⟩ := hvt v e3 e2 e4
   rcases hb with hb | hb | hb
   ·rw [hb] at e1; cases e1
   ·rw [hb] at t1; cases t1
   ·rw [t2] at hb; exact hb e2) h
  refine c_seq (c_region ?_)
  cases X with
  | none =>
   refine r_v (q_moveB rfl) rfl ?_; refine r_v (q_not rfl) rfl ?_; refine r_v (q_moveB rfl) rfl ?_; refine r_gn rfl rfl rfl ?_; refine r_gn rfl rfl rfl ?_; refine r_v (q_pick1 rfl rfl rfl) rfl ?_; refine r_v (q_moveB rfl) rfl ?_; refine r_gn rfl rfl rfl ?_; refine r_gn rfl rfl rfl ?_; refine r_gn rfl rfl rfl ?_; refine r_gn rfl rfl rfl ?_; refine r_v (q_pick1 rfl rfl rfl) rfl ?_; refine r_v (q_moveB rfl) rfl ?_; refine r_gn rfl rfl rfl ?_; refine r_gn rfl rfl rfl ?_; refine r_gn rfl rfl rfl ?_; refine r_gn rfl rfl rfl ?_; refine r_v (q_pick1 rfl rfl rfl) rfl ?_
   refine r_nil (c_true rfl ?_)
   refine c_seq (c_region ?_)
   refine r_v (q_assignS rfl) rfl ?_; refine r_v (q_assignB rfl) rfl ?_
   exact r_nil (c_ret (bq2 (bad2 (.inl rfl) h.drop.drop.drop)))
  | some x =>
   have hxl := timesDec_len hX
   cases ok with
   | false =>
    refine r_v (q_moveB rfl) rfl ?_; refine r_v (q_not rfl) rfl ?_; refine r_v (q_moveB rfl) rfl ?_; refine r_gd rfl rfl ?_; refine r_v (q_moveB rfl) rfl ?_; refine r_gd rfl rfl ?_; refine r_v (q_not rfl) rfl ?_; refine r_v (q_pick0 rfl rfl rfl) rfl ?_; refine r_v (q_moveB rfl) rfl ?_; refine r_gn rfl rfl rfl ?_; refine r_gn rfl rfl rfl ?_; refine r_gn rfl rfl rfl ?_; refine r_gn rfl rfl rfl ?_; refine r_v (q_pick1 rfl rfl rfl) rfl ?_; refine r_v (q_moveB rfl) rfl ?_; refine r_gn rfl rfl rfl ?_; refine r_gn rfl rfl rfl ?_; refine r_gn rfl rfl rfl ?_; refine r_gn rfl rfl rfl ?_; refine r_v (q_pick1 rfl rfl rfl) rfl ?_
    refine r_nil (c_true rfl ?_)
    refine c_seq (c_region ?_)
    refine r_v (q_assignS rfl) rfl ?_; refine r_v (q_assignB rfl) rfl ?_
    exact r_nil (c_ret (bq2 (bad2 (.inr (.inl rfl)) h.drop.drop.drop)))
   | true =>
    refine r_v (q_moveB rfl) rfl ?_; refine r_v (q_not rfl) rfl ?_; refine r_v (q_moveB rfl) rfl ?_; refine r_gd rfl rfl ?_; refine r_v (q_moveB rfl) rfl ?_; refine r_gd rfl rfl ?_; refine r_v (q_not rfl) rfl ?_; refine r_v (q_pick0 rfl rfl rfl) rfl ?_; refine r_v (q_moveB rfl) rfl ?_; refine r_gd rfl rfl ?_; refine r_v (q_moveS rfl) rfl ?_; refine r_gd rfl rfl ?_; refine r_v (q_len rfl) rfl ?_; refine r_gd rfl rfl ?_; refine r_v (q_moveI rfl) rfl ?_; refine r_gd rfl rfl ?_
    refine r_v (q_is (v' := .bool false) (q_neq rfl rfl) (by rw [show ((Option.map Prod.fst (some x)).getD []).length = n from hxl]; simp)) rfl ?_
    refine r_v (q_pick0 rfl rfl rfl) rfl ?_; refine r_v (q_moveB rfl) rfl ?_; refine r_gd rfl rfl ?_; refine r_v (q_moveS rfl) rfl ?_; refine r_gd rfl rfl ?_; refine r_v (q_len rfl) rfl ?_; refine r_gd rfl rfl ?_; refine r_v (q_moveI rfl) rfl ?_; refine r_gd rfl rfl ?_; refine r_v (q_neq rfl rfl) rfl ?_; refine r_v (q_pick0 rfl rfl rfl) rfl ?_
    refine r_nil (c_cond ((vs.length : Int) != (n : Int)) rfl (fun hc1 => ?_) (fun hc1 => ?_))
    ·refine c_seq (c_region ?_)
     refine r_v (q_assignS rfl) rfl ?_; refine r_v (q_assignB rfl) rfl ?_
     exact r_nil (c_ret (bq2 (bad2 (.inr (.inr (by rw [bne_iff_ne] at hc1; omega))) h.drop.drop.drop)))
    ·exact c_skip ⟨x, ⟨rfl, rfl, rfl, rfl, rfl, trivial⟩, rfl, rfl, by rw [bne_eq_false_iff_eq] at hc1; omega, h⟩
 clear h
 rintro ⟨ts, s2⟩ w e ⟨hX2, rfl, hvl, h⟩
 dsimp only at h ⊢
 rw [hX2] at hX hdef hti
 have htl : ts.length = n := timesDec_len hX
 replace hti : ∀ t ∈ ts, I64 t := hti
 replace hv64 := hv64 rfl
 have hzl : (zipS ts vs).length = n := by rw [zipS_len _ _ (by omega), htl]
 have hzw := zipS_wf ts vs hti hv64
 refine c_seq (c_region ?_)
 refine r_v (q_assignS rfl) rfl ?_
 refine r_nil ?_
 refine c_cut (Γ := Option Addr × Nat) (fun q => [(0, .int .i64 tag), (1, .slice sl bs.length c), (14, .slice q.1 (zipS ts vs).length q.2)]) (fun q w => St w0 (OwnS q.1 q.2 (zipS ts vs) :: l) w) ?_ ?_
 ·refine c_seq (c_region ?_)
  refine r_v (q_assignI rfl) rfl ?_
  refine r_nil ?_
  refine c_block ?_
  refine c_loop (Γ := Nat × Option Addr × Nat) (fun q => [(0, .int .i64 tag), (1, .slice sl bs.length c), (2, .int .i64 n), (10, .slice ta ts.length tc), (12, .slice va vs.length vc), (14, .slice q.2.1 (zipS (ts.take q.1) (vs.take q.1)).length q.2.2), (15, .int .i64 q.1)])
   (fun q w => q.1 ≤ n ∧ St w0 (OwnS q.2.1 q.2.2 (zipS (ts.take q.1) (vs.take q.1)) :: OwnU va vc vs :: OwnT64 ta tc ts :: l) w) (fun q => n - q.1) (0, none, 0) ⟨rfl, rfl, rfl, rfl, rfl, rfl, rfl, trivial⟩ ⟨Nat.zero_le _, St.ownNil _ _ (h.x [2])⟩ ?_
  clear h
  rintro ⟨i, a, c1⟩ w e ⟨hi, h⟩
  dsimp only at hi h ⊢
  refine c_seq (c_seq (c_region ?_))
  refine r_v (q_moveI rfl) rfl ?_; refine r_v (q_moveI rfl) rfl ?_; refine r_v (q_lss rfl rfl) rfl ?_
  by_cases hlt : i < n
  ·refine r_is (.bool true) (by congr 1; rw [decide_eq_true_eq]; omega) ?_
   refine r_nil (c_true rfl (c_skip ?_))
   have hgt := List.getElem?_eq_getElem (show i < ts.length by omega)
   generalize ts[i]'(by omega) = t at hgt
   have hgv := List.getElem?_eq_getElem (show i < vs.length by omega)
   generalize vs[i]'(by omega) = x at hgv
   have hstep := zipS_snoc ts vs i t x hgt hgv
   have hzi : (zipS (ts.take i) (vs.take i)).length = i := by rw [zipS_len _ _ (by rw [take_len1 (by omega), take_len1 (by omega)]), take_len1 (by omega)]
   obtain ⟨bt, htsl⟩ := (h.f 2).own_some (by omega)
   obtain ⟨bv, hvsl⟩ := (h.f 1).own_some (by omega)
   refine c_seq (c_block ?_)
   have hct : ∀ {w'}, (∃ L, St w0 (L ++ (OwnU va vc vs :: OwnT64 ta tc ts :: l)) w') → w'.cell? ⟨bt, i, none⟩ = some (.int .i64 t) := fun ⟨L, h'⟩ => by
    have := (htsl ▸ (h'.drops.f 1).own_rd).cell (i64V_get hgt); simpa using this
   have hcv : ∀ {w'}, (∃ L, St w0 (L ++ (OwnU va vc vs :: OwnT64 ta tc ts :: l)) w') → w'.cell? ⟨bv, i, none⟩ = some (.int .u64 x) := fun ⟨L, h'⟩ => by
    have := (hvsl ▸ (h'.drops.f 0).own_rd).cell (u64V_get hgv); simpa using this
   refine c_anyW [0, 1, 2, 3, 4, 5, 6, 7, 8, 9, 10, 11, 12] none (fun w => ∃ L, St w0 (L ++ (OwnU va vc vs :: OwnT64 ta tc ts :: l)) w) (by kernel_rfl) (by kernel_rfl) ?_
   replace h := h.drew
   generalize w.drew = w at h
   have hs := h
   replace h : ∃ L, St w0 (L ++ (OwnU va vc vs :: OwnT64 ta tc ts :: l)) w := ⟨[_], hs⟩
   refine cur_pure rfl rfl rfl rfl (fun _ => h) (fun _ => flt_v rfl (q_moveS rfl)) ?_; refine cur_pure rfl rfl rfl rfl (fun _ => h) (fun _ => flt_v rfl (q_moveS rfl)) ?_; refine cur_pure rfl rfl rfl rfl (fun _ => h) (fun _ => flt_v rfl (q_moveI rfl)) ?_
   refine cur_pure rfl rfl rfl rfl (fun _ => h) (fun _ => flt_v rfl (q_idx (b := bt) (o := 0) (m := ts.length) (c := tc) (j := i) (o' := i) (by rw [← htsl]; rfl) rfl rfl (by omega) (by simp))) ?_
   refine cur_float rfl rfl rfl rfl h (fun w h => flt_v rfl (q_loadc (v := .int .i64 t) rfl (hct h))) ?_
   refine cur_pure rfl rfl rfl rfl (fun _ => h) (fun _ => flt_v rfl (q_moveS rfl)) ?_; refine cur_pure rfl rfl rfl rfl (fun _ => h) (fun _ => flt_v rfl (q_moveI rfl)) ?_
   refine cur_pure rfl rfl rfl rfl (fun _ => h) (fun _ => flt_v rfl (q_idx (b := bv) (o := 0) (m := vs.length) (c := vc) (j := i) (o' := i) (by rw [← hvsl]; rfl) rfl rfl (by omega) (by simp))) ?_
   refine cur_float rfl rfl rfl rfl h (fun w h => flt_v rfl (q_loadc (v := .int .u64 x) rfl (hcv h))) ?_
   refine cur_pure rfl rfl rfl rfl (fun _ => h) (fun _ => flt_v rfl (q_build (r := (Smp.mk t x).cells) rfl)) ?_
   refine cur_skip ?_; refine cur_skip ?_; refine cur_skip ?_
   refine cur_one 10 rfl rfl rfl rfl ?_
   refine (x_bslice (r := smpsV [Smp.mk t x]) hs rfl rfl rfl fun b2 w hs => ?_)
   replace h : ∃ L, St w0 (L ++ (OwnU va vc vs :: OwnT64 ta tc ts :: l)) w := ⟨[_, _], hs⟩
   refine ⟨fun _ => h, ?_⟩
   refine cur_skip ?_; refine cur_skip ?_
   refine cur_one 11 rfl rfl rfl rfl ?_
   refine (x_append' (ys := smpsV [Smp.mk t x]) (zs := smpsV (zipS (ts.take (i + 1)) (vs.take (i + 1)))) (m3 := (zipS (ts.take (i + 1)) (vs.take (i + 1))).length) (hs.f 1) rfl rfl ⟨rfl, .inr ⟨b2, 0, rfl, at_of (hs.b 0 rfl) rfl⟩⟩ (smps_one _) (by rw [hstep]; simp) (by rw [hstep]; simp [smpsV]) (by rw [hstep]; simp; omega) (by rw [hstep]; simp; omega) rfl fun a2 c2 w _ hs => ?_)
   replace h : ∃ L, St w0 (L ++ (OwnU va vc vs :: OwnT64 ta tc ts :: l)) w := ⟨[_, _], hs⟩
   refine ⟨fun _ => h, ?_⟩
   refine cur_pure rfl rfl rfl rfl (fun _ => h) (fun _ => flt_v rfl (q_assignS rfl)) ?_
   refine cur_end ?_
   refine c_region ?_
   refine r_v (q_moveI rfl) rfl ?_; refine r_v (q_add rfl rfl) rfl ?_
   refine r_is (.int .i64 ((i + 1 : Nat) : Int)) (by rw [wrap64 (by omega) (by omega)]; rfl) ?_
   refine r_v (q_assignI rfl) rfl ?_
   exact r_nil ⟨(i + 1, a2, c2), ⟨rfl, rfl, rfl, rfl, rfl, rfl, rfl, trivial⟩, ⟨hlt, (hs.f 1).drop⟩, by dsimp only; omega⟩
  ·refine r_is (.bool false) (by congr 1; rw [decide_eq_false_iff_not]; omega) ?_
   refine r_nil (c_false rfl ?_)
   have hz : zipS (ts.take i) (vs.take i) = zipS ts vs := by rw [show i = n by omega, List.take_of_length_le (by omega), List.take_of_length_le (by omega)]
   rw [hz] at h
   refine c_exit ⟨(a, c1), ⟨rfl, rfl, ?_, trivial⟩, h.x [1, 2]⟩
   show Value.slice _ _ _ = Value.slice _ _ _
   rw [hz]
 clear h
 rintro ⟨a, c1⟩ w e h
 dsimp only at h ⊢
 have hdef2 : suitDec tag bs (n : Int) = if suitEnc tag (zipS ts vs) = some bs then some (zipS ts vs) else none := by
  by_cases hE : suitEnc tag (zipS ts vs) = some bs
  ·have := htold _ hzw hE
   rw [hzl] at this
   rw [if_pos hE, this]
  ·rw [if_neg hE]
   refine none_of fun D hD => ?_
   obtain ⟨_, _, _, _, x', v, e1, e2, e3, e4, e5, e6, _⟩ := hdef D hD
   obtain ⟨_, t2⟩ := hvt v e3 e2 e4
   cases e1
   rw [← t2] at e5
   rw [e5] at e6
   exact hE e6
 refine c_seq (c_region ?_)
 refine r_v (q_moveI rfl) rfl ?_; refine r_v (q_moveS rfl) rfl ?_
 refine r_c rfl (x_call rfl (ref10_Encode tag hzw (by omega) Reads.own h) ?_)
 rintro _ w ⟨ea, ec, rfl, h⟩
 refine r_v (q_moveT rfl) rfl ?_; refine r_v (q_ext rfl rfl) rfl ?_; refine r_v (q_ext rfl rfl) rfl ?_; refine r_v (q_assignS rfl) rfl ?_; refine r_v (q_assignB rfl) rfl ?_
 refine r_nil ?_
 generalize zipS ts vs = Z at hdef2 h hzl hzw ⊢
 refine c_seq (c_seq (c_region ?_))
 cases hE : suitEnc tag Z with
 | none =>
  rw [hE] at hdef2
  refine r_v (q_moveB rfl) rfl ?_; refine r_v (q_not rfl) rfl ?_; refine r_v (q_moveB rfl) rfl ?_; refine r_gn rfl rfl rfl ?_; refine r_gn rfl rfl rfl ?_; refine r_gn rfl rfl rfl ?_; refine r_gn rfl rfl rfl ?_; refine r_gn rfl rfl rfl ?_; refine r_v (q_pick1 rfl rfl rfl) rfl ?_
  refine r_nil (c_true rfl ?_)
  refine c_seq (c_region ?_)
  refine r_v (q_assignS rfl) rfl ?_; refine r_v (q_assignB rfl) rfl ?_
  exact r_nil (c_ret (bq2 (bad (by rw [hdef2]; rfl) h.drop.drop)))
 | some d =>
  rw [hE] at hdef2 h
  refine r_v (q_moveB rfl) rfl ?_; refine r_v (q_not rfl) rfl ?_; refine r_v (q_moveB rfl) rfl ?_; refine r_gd rfl rfl ?_; refine r_v (q_moveS rfl) rfl ?_; refine r_gd rfl rfl ?_
  refine r_v (q_btos (bs := d) rfl h.own_rd) rfl ?_
  refine r_gd rfl rfl ?_; refine r_v (q_moveS rfl) rfl ?_; refine r_gd rfl rfl ?_
  refine r_v (q_btos (bs := bs) rfl ((hr.more [_, _]).at_ h)) rfl ?_
  refine r_gd rfl rfl ?_; refine r_v (q_strne rfl rfl) rfl ?_
  rw [strB_eq]
  refine r_v (q_pick0 rfl rfl rfl) rfl ?_
  refine r_nil (c_cond (!decide (d = bs)) rfl (fun hc2 => ?_) (fun hc2 => ?_))
  ·refine c_seq (c_region ?_)
   refine r_v (q_assignS rfl) rfl ?_; refine r_v (q_assignB rfl) rfl ?_
   exact r_nil (c_ret (bq2 (bad (by rw [hdef2, if_neg (by simpa using hc2)]) h.drop.drop)))
  ·refine c_skip ?_
   refine c_seq (c_region ?_)
   refine r_v (q_moveS rfl) rfl ?_; refine r_v (q_assignS rfl) rfl ?_; refine r_v (q_assignB rfl) rfl ?_
   refine r_nil (c_ret (bq2 ?_))
   rw [hdef2, if_pos (by simpa using hc2)]
   exact ⟨a, c1, rfl, fun L hL => by cases hL; exact ⟨by omega, hzw⟩, h.drop⟩
end
end Go.Proofs.YtjjacchnalemaaaGreatDoor

namespace Go.Hw
theorem getVs3 (r : List UInt8) : getVs 3 r = if (vget r).2 = 0 ∨ (vget (r.drop (vget r).2)).2 = 0 ∨ (vget ((r.drop (vget r).2).drop (vget (r.drop (vget r).2)).2)).2 = 0 then none
  else some ([(vget r).1, (vget (r.drop (vget r).2)).1, (vget ((r.drop (vget r).2).drop (vget (r.drop (vget r).2)).2)).1], ((r.drop (vget r).2).drop (vget (r.drop (vget r).2)).2).drop (vget ((r.drop (vget r).2).drop (vget (r.drop (vget r).2)).2)).2) := by
 rw [getVs, getVs, getVs, getVs]
 by_cases h0 : (vget r).2 = 0
 ·rw [if_pos h0, if_pos (.inl h0)]
 rw [if_neg h0]
 by_cases h1 : (vget (r.drop (vget r).2)).2 = 0
 ·rw [if_pos h1, if_pos (.inr (.inl h1))]; rfl
 rw [if_neg h1]
 by_cases h2 : (vget ((r.drop (vget r).2).drop (vget (r.drop (vget r).2)).2)).2 = 0
 ·rw [if_pos h2, if_pos (.inr (.inr h2))]; rfl
 rw [if_neg h2, if_neg (by rintro (h | h | h); exact h0 h; exact h1 h; exact h2 h)]
 rfl
end Go.Hw
namespace Go.Proofs.YtjjacchnalemaaaGreatDoor
open Go.Hw
set_option maxHeartbeats 4000000
set_option maxRecDepth 100000
section
variable {w0 w : World} {l : List HProp}
abbrev HeadR (bs : List UInt8) (v : Value) : Prop :=
 (headDec bs = none ∧ v = .tuple [.agg hdZ.toArray, .int .i64 0, .bool false].toArray) ∨
 ∃ hd k, headDec bs = some (hd, bs.drop k) ∧ v = .tuple [.agg (hdC hd).toArray, .int .i64 (k : Nat), .bool true].toArray ∧ k ≤ bs.length ∧ hd.count ≤ 65535 ∧ hd.tag ≤ 6
theorem ref10_head {sl : Option Addr} {c : Nat} {bs : List UInt8} (hn : bs.length ≤ 140737488355328) (hc : bs.length ≤ c) (hr : Reads w0 l 1 sl bs.length (bytesV bs)) (h : St w0 l w) :
  Ret Tryz.prog 57 [.slice sl bs.length c] w fun v w' => HeadR bs v ∧ St w0 l w' := by
 refine enter Tryz.func57 rfl Tryz.results57 Tryz.ntmps57 rfl ?_
 refine c_seq (c_region ?_)
 refine r_c rfl (x_alloc h fun b2 w h => ?_)
 replace h : St w0 (pt b2 (.cells hdZ.toArray 43 (0, 0)) :: l) w := h
 refine r_v (q_assignI rfl) rfl ?_; refine r_v (q_assignB rfl) rfl ?_
 refine r_nil ?_
 cases bs with
 | nil =>
  refine c_seq (c_seq (c_region ?_))
  refine r_v (q_moveS rfl) rfl ?_; refine r_v (q_len rfl) rfl ?_
  refine r_v (q_is (v' := .bool true) (q_eql rfl rfl) rfl) rfl ?_
  refine r_v (q_moveB rfl) rfl ?_; refine r_gn rfl rfl rfl ?_; refine r_gn rfl rfl rfl ?_; refine r_gn rfl rfl rfl ?_; refine r_gn rfl rfl rfl ?_; refine r_v (q_pick1 rfl rfl rfl) rfl ?_; refine r_v (q_moveB rfl) rfl ?_; refine r_gn rfl rfl rfl ?_; refine r_gn rfl rfl rfl ?_; refine r_gn rfl rfl rfl ?_; refine r_gn rfl rfl rfl ?_; refine r_v (q_pick1 rfl rfl rfl) rfl ?_
  refine r_nil (c_true rfl ?_)
  refine c_seq (c_region ?_)
  refine r_v (q_build (r := hdZ) rfl) rfl ?_
  refine r_c rfl (x_storeA (vs := hdZ) 0 h rfl rfl rfl rfl rfl rfl rfl fun w h => ?_)
  replace h : St w0 (pt b2 (.cells hdZ.toArray 43 (0, 0)) :: l) w := h
  refine r_v (q_assignI rfl) rfl ?_; refine r_v (q_assignB rfl) rfl ?_
  refine r_nil ?_
  exact c_ret (bqS3 (l := hdZ) rfl rfl (at_of (h.b 0 rfl) rfl) ⟨.inl ⟨rfl, rfl⟩, h.drop⟩)
 | cons ch r =>
 have hdef : headDec (ch :: r) = _ := rfl
 conv at hdef => rhs; unfold headDec
 dsimp only at hdef
 have hlc : (ch :: r).length = r.length + 1 := rfl
 obtain ⟨b, o, hsl⟩ := (hr.cons.at_ h).some (by simp)
 have hc0 : ∀ {M : List HProp} {w'}, St w0 (M ++ l) w' → w'.cell? ⟨b, o, none⟩ = some (.int .u8 ch.toNat) := fun {M} {w'} h' => by
  have := (hsl ▸ hr M _ h').cell (bytesV_get (bs := ch :: r) (j := 0) rfl); simpa using this
 refine c_cut (Γ := Unit) (fun _ => [(0, .slice sl (ch :: r).length c), (2, .pointer (some ⟨b2, 0, none⟩))]) (fun _ w => ¬ (ch.toNat < 1 ∨ 6 < ch.toNat) ∧ St w0 (pt b2 (.cells hdZ.toArray 43 (0, 0)) :: l) w) ?_ ?_
 ·refine c_seq (c_region ?_)
  refine r_v (q_moveS rfl) rfl ?_; refine r_v (q_len rfl) rfl ?_
  refine r_v (q_is (v' := .bool false) (q_eql rfl rfl) (by congr 1)) rfl ?_
  refine r_v (q_moveB rfl) rfl ?_; refine r_gd rfl rfl ?_; refine r_v (q_moveS rfl) rfl ?_; refine r_gd rfl rfl ?_
  refine r_v (q_idx (b := b) (o := o) (m := (ch :: r).length) (c := c) (j := 0) (o' := o) (by rw [← hsl]; rfl) rfl rfl (by simp) (by simp)) rfl ?_
  refine r_gd rfl rfl ?_
  refine r_v (q_loadc (v := .int .u8 ch.toNat) rfl (hc0 (M := [_]) h)) rfl ?_
  refine r_gd rfl rfl ?_
  by_cases g1 : ch.toNat < 1
  ·refine r_v (q_is (v' := .bool true) (q_lss rfl rfl) (by congr 1; simp; omega)) rfl ?_
   refine r_v (q_pick0 rfl rfl rfl) rfl ?_; refine r_v (q_moveB rfl) rfl ?_; refine r_gn rfl rfl rfl ?_; refine r_gn rfl rfl rfl ?_; refine r_gn rfl rfl rfl ?_; refine r_gn rfl rfl rfl ?_; refine r_v (q_pick1 rfl rfl rfl) rfl ?_
   refine r_nil (c_true rfl ?_)
   refine c_seq (c_region ?_)
   refine r_v (q_build (r := hdZ) rfl) rfl ?_
   refine r_c rfl (x_storeA (vs := hdZ) 0 h rfl rfl rfl rfl rfl rfl rfl fun w h => ?_)
   replace h : St w0 (pt b2 (.cells hdZ.toArray 43 (0, 0)) :: l) w := h
   refine r_v (q_assignI rfl) rfl ?_; refine r_v (q_assignB rfl) rfl ?_
   refine r_nil ?_
   exact c_ret (bqS3 (l := hdZ) rfl rfl (at_of (h.b 0 rfl) rfl) ⟨.inl ⟨by rw [hdef, if_pos (.inl g1)], rfl⟩, h.drop⟩)
  refine r_v (q_is (v' := .bool false) (q_lss rfl rfl) (by congr 1; simp; omega)) rfl ?_
  refine r_v (q_pick0 rfl rfl rfl) rfl ?_; refine r_v (q_moveB rfl) rfl ?_; refine r_gd rfl rfl ?_; refine r_v (q_moveS rfl) rfl ?_; refine r_gd rfl rfl ?_
  refine r_v (q_idx (b := b) (o := o) (m := (ch :: r).length) (c := c) (j := 0) (o' := o) (by rw [← hsl]; rfl) rfl rfl (by simp) (by simp)) rfl ?_
  refine r_gd rfl rfl ?_
  refine r_v (q_loadc (v := .int .u8 ch.toNat) rfl (hc0 (M := [_]) h)) rfl ?_
  refine r_gd rfl rfl ?_; refine r_v (q_gtr rfl rfl) rfl ?_; refine r_v (q_pick0 rfl rfl rfl) rfl ?_
  refine r_nil (c_cond (decide ((ch.toNat : Int) > 6)) rfl (fun hc1 => ?_) (fun hc1 => ?_))
  ·refine c_seq (c_region ?_)
   refine r_v (q_build (r := hdZ) rfl) rfl ?_
   refine r_c rfl (x_storeA (vs := hdZ) 0 h rfl rfl rfl rfl rfl rfl rfl fun w h => ?_)
   replace h : St w0 (pt b2 (.cells hdZ.toArray 43 (0, 0)) :: l) w := h
   refine r_v (q_assignI rfl) rfl ?_; refine r_v (q_assignB rfl) rfl ?_
   refine r_nil ?_
   exact c_ret (bqS3 (l := hdZ) rfl rfl (at_of (h.b 0 rfl) rfl) ⟨.inl ⟨by rw [hdef, if_pos (.inr (by simp at hc1; omega))], rfl⟩, h.drop⟩)
  ·exact c_skip ⟨(), ⟨rfl, rfl, trivial⟩, by simp at hc1; omega, h⟩
 clear h
 rintro _ w e ⟨hcond, h⟩
 rw [if_neg hcond, getVs3] at hdef
 have hrt := hr.tailB (i := 1) (by omega) hc
 rw [show (ch :: r).drop 1 = r from rfl] at hrt
 have hk0 := vget_le r
 have hv0 := vget_lt r
 refine c_seq (c_region ?_)
 refine r_v (q_moveS rfl) rfl ?_
 refine r_v (q_tail (i := 1) rfl rfl (by omega)) rfl ?_
 show Rn _ _ _ _ _ (upd _ _ (.slice (adv sl (1 * 1) (Nat.beq c 1)) r.length (c - 1))) _
 refine r_c rfl (x_call rfl (ref1_Get h hrt.cons (by omega)) ?_)
 rintro _ w ⟨rfl, h⟩
 refine r_v (q_moveT rfl) rfl ?_; refine r_v (q_ext rfl rfl) rfl ?_; refine r_v (q_ext rfl rfl) rfl ?_; refine r_v (q_assignI rfl) rfl ?_; refine r_v (q_assignI rfl) rfl ?_
 refine r_nil ?_
 generalize (vget r).1 = v0 at hv0 hdef ⊢
 generalize (vget r).2 = k0 at hk0 hdef ⊢
 have hrt1 := hr.tailB (i := 1 + k0) (by omega) hc
 rw [show (ch :: r).drop (1 + k0) = r.drop k0 by rw [Nat.add_comm]; rfl] at hrt1
 have hk1 := vget_le (r.drop k0)
 have hv1 := vget_lt (r.drop k0)
 refine c_seq (c_region ?_)
 refine r_v (q_moveS rfl) rfl ?_; refine r_v (q_moveI rfl) rfl ?_; refine r_v (q_add rfl rfl) rfl ?_
 refine r_is (.int .i64 ((1 + k0 : Nat) : Int)) (by rw [wrap64 (by omega) (by omega)]; rfl) ?_
 refine r_v (q_tail (i := 1 + k0) rfl rfl (by omega)) rfl ?_
 show Rn _ _ _ _ _ (upd _ _ (.slice (adv sl ((1 + k0) * 1) (Nat.beq c (1 + k0))) (r.length + 1 - (1 + k0)) (c - (1 + k0)))) _
 rw [show r.length + 1 - (1 + k0) = (r.drop k0).length by rw [List.length_drop]; omega]
 refine r_c rfl (x_call rfl (ref1_Get h hrt1.cons (by rw [List.length_drop]; omega)) ?_)
 rintro _ w ⟨rfl, h⟩
 refine r_v (q_moveT rfl) rfl ?_; refine r_v (q_ext rfl rfl) rfl ?_; refine r_v (q_ext rfl rfl) rfl ?_; refine r_v (q_assignI rfl) rfl ?_; refine r_v (q_assignI rfl) rfl ?_
 refine r_nil ?_
 generalize (vget (r.drop k0)).1 = v1 at hv1 hdef ⊢
 generalize (vget (r.drop k0)).2 = k1 at hk1 hdef ⊢
 rw [List.length_drop] at hk1
 have hrt2 := hr.tailB (i := 1 + k0 + k1) (by omega) hc
 have ed : (ch :: r).drop (1 + k0 + k1) = (r.drop k0).drop k1 := by rw [List.drop_drop, show 1 + k0 + k1 = (k0 + k1) + 1 by omega]; rfl
 rw [ed] at hrt2
 have hk2 := vget_le ((r.drop k0).drop k1)
 have hv2 := vget_lt ((r.drop k0).drop k1)
 refine c_seq (c_region ?_)
 refine r_v (q_moveS rfl) rfl ?_; refine r_v (q_moveI rfl) rfl ?_; refine r_v (q_add rfl rfl) rfl ?_
 refine r_is (.int .i64 ((1 + k0 : Nat) : Int)) (by rw [wrap64 (by omega) (by omega)]; rfl) ?_
 refine r_v (q_moveI rfl) rfl ?_; refine r_v (q_add rfl rfl) rfl ?_
 refine r_is (.int .i64 ((1 + k0 + k1 : Nat) : Int)) (by rw [wrap64 (by omega) (by omega)]; exact congrArg (Value.int .i64) (by omega)) ?_
 refine r_v (q_tail (i := 1 + k0 + k1) rfl rfl (by omega)) rfl ?_
 show Rn _ _ _ _ _ (upd _ _ (.slice (adv sl ((1 + k0 + k1) * 1) (Nat.beq c (1 + k0 + k1))) (r.length + 1 - (1 + k0 + k1)) (c - (1 + k0 + k1)))) _
 rw [show r.length + 1 - (1 + k0 + k1) = ((r.drop k0).drop k1).length by rw [List.length_drop, List.length_drop]; omega]
 refine r_c rfl (x_call rfl (ref1_Get h hrt2.cons (by rw [List.length_drop, List.length_drop]; omega)) ?_)
 rintro _ w ⟨rfl, h⟩
 refine r_v (q_moveT rfl) rfl ?_; refine r_v (q_ext rfl rfl) rfl ?_; refine r_v (q_ext rfl rfl) rfl ?_; refine r_v (q_assignI rfl) rfl ?_; refine r_v (q_assignI rfl) rfl ?_
 refine r_nil ?_
 generalize (vget ((r.drop k0).drop k1)).1 = v2 at hv2 hdef ⊢
 generalize (vget ((r.drop k0).drop k1)).2 = k2 at hk2 hdef ⊢
 rw [List.length_drop, List.length_drop] at hk2
 have hch := ch.toNat_lt
 refine c_cut (Γ := Nat) (fun b10 => [(2, .pointer (some ⟨b2, 0, none⟩)), (5, .int .u64 v0), (6, .int .i64 k0), (8, .int .i64 k1), (10, .int .i64 k2), (11, .pointer (some ⟨b10, 0, none⟩))])
  (fun b10 w => St w0 (pt b10 (.cells (hdC ⟨ch.toNat, min v0 65536, sg (zagU v1), sg (zagU v2)⟩).toArray 43 (0, 0)) :: pt b2 (.cells hdZ.toArray 43 (0, 0)) :: l) w) ?_ ?_
 ·have hcc : ∀ {w'}, (∃ M, St w0 (M ++ (pt b2 (.cells hdZ.toArray 43 (0, 0)) :: l)) w') → w'.cell? ⟨b, o, none⟩ = some (.int .u8 ch.toNat) := fun ⟨M, h'⟩ => hc0 (M := []) ((h'.drops).drop)
  refine c_anyW [0, 1, 2, 3, 4, 5, 6, 7, 8, 9, 10, 11, 12, 13] (some 13) (fun w => ∃ M, St w0 (M ++ (pt b2 (.cells hdZ.toArray 43 (0, 0)) :: l)) w) (by kernel_rfl) (by kernel_rfl) ?_
  replace h := h.drew
  generalize w.drew = w at h
  have hs := h
  replace h : ∃ M, St w0 (M ++ (pt b2 (.cells hdZ.toArray 43 (0, 0)) :: l)) w := ⟨[], hs⟩
  refine cur_pure rfl rfl rfl rfl (fun _ => h) (fun _ => flt_v rfl (q_moveS rfl)) ?_
  refine cur_pure rfl rfl rfl rfl (fun _ => h) (fun _ => flt_v rfl (q_idx (b := b) (o := o) (m := (ch :: r).length) (c := c) (j := 0) (o' := o) (by rw [← hsl]; rfl) rfl rfl (by simp) (by simp))) ?_
  refine cur_float rfl rfl rfl rfl h (fun w h => flt_v rfl (q_loadc (v := .int .u8 ch.toNat) rfl (hcc h))) ?_
  refine cur_pure rfl rfl rfl rfl (fun _ => h) (fun _ => flt_v rfl (q_is (v' := .int .i64 (ch.toNat : Int)) (q_conv rfl) (by rw [wrap64 (by omega) (by omega)]))) ?_
  refine cur_pure rfl rfl rfl rfl (fun _ => h) (fun _ => flt_v rfl (q_moveI rfl)) ?_
  refine cur_pure rfl rfl rfl rfl (fun _ => h) (fun _ => flt_v rfl (q_is (v' := .int .u64 ((min v0 65536 : Nat) : Int)) (q_min rfl rfl) (by congr 1; omega))) ?_
  refine cur_pure rfl rfl rfl rfl (fun _ => h) (fun _ => flt_v rfl (q_is (v' := .int .i64 ((min v0 65536 : Nat) : Int)) (q_conv rfl) (by rw [wrap64 (by omega) (by omega)]))) ?_
  refine cur_pure rfl rfl rfl rfl (fun _ => h) (fun _ => flt_v rfl (q_moveI rfl)) ?_; refine cur_skip ?_; refine cur_pure rfl rfl rfl rfl (fun _ => h) (fun _ => flt_v rfl (q_moveI rfl)) ?_; refine cur_skip ?_; refine cur_skip ?_; refine cur_skip ?_; refine cur_skip ?_
  refine cur_two 8 12 rfl rfl rfl rfl rfl rfl ?_ ?_
  ·refine (x_call rfl (ref1_Zag hv1 hs) ?_)
   rintro _ w ⟨rfl, hs⟩
   replace h : ∃ M, St w0 (M ++ (pt b2 (.cells hdZ.toArray 43 (0, 0)) :: l)) w := ⟨[], hs⟩
   refine ⟨fun _ => h, ?_⟩
   refine cur_skip ?_; refine cur_skip ?_; refine cur_skip ?_; refine cur_skip ?_
   refine cur_two 10 12 rfl rfl rfl rfl rfl rfl ?_ ?_
   ·refine (x_call rfl (ref1_Zag hv2 hs) ?_)
    rintro _ w ⟨rfl, hs⟩
    replace h : ∃ M, St w0 (M ++ (pt b2 (.cells hdZ.toArray 43 (0, 0)) :: l)) w := ⟨[], hs⟩
    refine ⟨fun _ => h, ?_⟩
    refine cur_pure rfl rfl rfl rfl (fun _ => h) (fun _ => flt_v rfl (q_build (r := hdC ⟨ch.toNat, min v0 65536, sg (zagU v1), sg (zagU v2)⟩) rfl)) ?_
    refine cur_skip ?_; refine cur_skip ?_
    refine cur_one 12 rfl rfl rfl rfl ?_
    refine (x_alloc hs fun b10 w hs => ?_)
    replace h : ∃ M, St w0 (M ++ (pt b2 (.cells hdZ.toArray 43 (0, 0)) :: l)) w := ⟨[_], hs⟩
    refine ⟨fun _ => h, ?_⟩
    refine cur_skip ?_
    refine cur_last 13 rfl rfl rfl ?_
    refine x_storeA (vs := hdC ⟨ch.toNat, min v0 65536, sg (zagU v1), sg (zagU v2)⟩) 0 hs rfl rfl rfl rfl rfl rfl rfl fun w hs => ?_
    exact ⟨b10, ⟨rfl, rfl, rfl, rfl, rfl, rfl, trivial⟩, hs⟩
   ·refine (x_alloc hs fun b10 w hs => ?_)
    replace h : ∃ M, St w0 (M ++ (pt b2 (.cells hdZ.toArray 43 (0, 0)) :: l)) w := ⟨[_], hs⟩
    refine ⟨fun _ => h, ?_⟩
    refine cur_skip ?_; refine cur_skip ?_; refine cur_skip ?_
    refine cur_one 10 rfl rfl rfl rfl ?_
    refine (x_call rfl (ref1_Zag hv2 hs) ?_)
    rintro _ w ⟨rfl, hs⟩
    replace h : ∃ M, St w0 (M ++ (pt b2 (.cells hdZ.toArray 43 (0, 0)) :: l)) w := ⟨[_], hs⟩
    refine ⟨fun _ => h, ?_⟩
    refine cur_pure rfl rfl rfl rfl (fun _ => h) (fun _ => flt_v rfl (q_build (r := hdC ⟨ch.toNat, min v0 65536, sg (zagU v1), sg (zagU v2)⟩) rfl)) ?_
    refine cur_skip ?_
    refine cur_last 13 rfl rfl rfl ?_
    refine x_storeA (vs := hdC ⟨ch.toNat, min v0 65536, sg (zagU v1), sg (zagU v2)⟩) 0 hs rfl rfl rfl rfl rfl rfl rfl fun w hs => ?_
    exact ⟨b10, ⟨rfl, rfl, rfl, rfl, rfl, rfl, trivial⟩, hs⟩
  ·refine (x_alloc hs fun b10 w hs => ?_)
   replace h : ∃ M, St w0 (M ++ (pt b2 (.cells hdZ.toArray 43 (0, 0)) :: l)) w := ⟨[_], hs⟩
   refine ⟨fun _ => h, ?_⟩
   refine cur_skip ?_; refine cur_skip ?_; refine cur_skip ?_; refine cur_skip ?_
   refine cur_one 8 rfl rfl rfl rfl ?_
   refine (x_call rfl (ref1_Zag hv1 hs) ?_)
   rintro _ w ⟨rfl, hs⟩
   replace h : ∃ M, St w0 (M ++ (pt b2 (.cells hdZ.toArray 43 (0, 0)) :: l)) w := ⟨[_], hs⟩
   refine ⟨fun _ => h, ?_⟩
   refine cur_skip ?_; refine cur_skip ?_; refine cur_skip ?_
   refine cur_one 10 rfl rfl rfl rfl ?_
   refine (x_call rfl (ref1_Zag hv2 hs) ?_)
   rintro _ w ⟨rfl, hs⟩
   replace h : ∃ M, St w0 (M ++ (pt b2 (.cells hdZ.toArray 43 (0, 0)) :: l)) w := ⟨[_], hs⟩
   refine ⟨fun _ => h, ?_⟩
   refine cur_pure rfl rfl rfl rfl (fun _ => h) (fun _ => flt_v rfl (q_build (r := hdC ⟨ch.toNat, min v0 65536, sg (zagU v1), sg (zagU v2)⟩) rfl)) ?_
   refine cur_skip ?_
   refine cur_last 13 rfl rfl rfl ?_
   refine x_storeA (vs := hdC ⟨ch.toNat, min v0 65536, sg (zagU v1), sg (zagU v2)⟩) 0 hs rfl rfl rfl rfl rfl rfl rfl fun w hs => ?_
   exact ⟨b10, ⟨rfl, rfl, rfl, rfl, rfl, rfl, trivial⟩, hs⟩
 clear h
 rintro b10 w e h
 have bad : (k0 = 0 ∨ k1 = 0 ∨ k2 = 0 ∨ v0 < 1 ∨ 65535 < v0 ∨ sg (zagU v2) < sg (zagU v1)) → headDec (ch :: r) = none := by
  intro hb
  rw [hdef]
  by_cases hz : k0 = 0 ∨ k1 = 0 ∨ k2 = 0
  ·rw [if_pos hz]
  ·rw [if_neg hz]
   dsimp only
   rw [show [v0, v1, v2].getD 0 0 = v0 from rfl, show [v0, v1, v2].getD 1 0 = v1 from rfl, show [v0, v1, v2].getD 2 0 = v2 from rfl, if_pos (by omega)]
 refine c_cut (Γ := Unit) (fun _ => [(2, .pointer (some ⟨b2, 0, none⟩)), (6, .int .i64 k0), (8, .int .i64 k1), (10, .int .i64 k2), (11, .pointer (some ⟨b10, 0, none⟩))])
  (fun _ w => ¬ (k0 = 0 ∨ k1 = 0 ∨ k2 = 0 ∨ v0 < 1 ∨ 65535 < v0 ∨ sg (zagU v2) < sg (zagU v1)) ∧ St w0 (pt b10 (.cells (hdC ⟨ch.toNat, min v0 65536, sg (zagU v1), sg (zagU v2)⟩).toArray 43 (0, 0)) :: pt b2 (.cells hdZ.toArray 43 (0, 0)) :: l) w) ?_ ?_
 ·refine c_seq (c_region ?_)
  refine r_v (q_moveI rfl) rfl ?_
  by_cases g1 : k0 = 0
  ·refine r_v (q_is (v' := .bool true) (q_eql rfl rfl) (by rw [g1]; rfl)) rfl ?_
   refine r_v (q_moveB rfl) rfl ?_; refine r_gn rfl rfl rfl ?_; refine r_gn rfl rfl rfl ?_; refine r_v (q_pick1 rfl rfl rfl) rfl ?_; refine r_v (q_moveB rfl) rfl ?_; refine r_gn rfl rfl rfl ?_; refine r_gn rfl rfl rfl ?_; refine r_v (q_pick1 rfl rfl rfl) rfl ?_; refine r_v (q_moveB rfl) rfl ?_; refine r_gn rfl rfl rfl ?_; refine r_gn rfl rfl rfl ?_; refine r_v (q_pick1 rfl rfl rfl) rfl ?_; refine r_v (q_moveB rfl) rfl ?_; refine r_gn rfl rfl rfl ?_; refine r_gn rfl rfl rfl ?_; refine r_v (q_pick1 rfl rfl rfl) rfl ?_; refine r_v (q_moveB rfl) rfl ?_; refine r_gn rfl rfl rfl ?_; refine r_gn rfl rfl rfl ?_; refine r_gn rfl rfl rfl ?_; refine r_gn rfl rfl rfl ?_; refine r_gn rfl rfl rfl ?_; refine r_v (q_pick1 rfl rfl rfl) rfl ?_
   refine r_nil (c_true rfl ?_)
   refine c_seq (c_region ?_)
   refine r_v (q_build (r := hdZ) rfl) rfl ?_
   refine r_c rfl (x_storeA (vs := hdZ) 1 h rfl rfl rfl rfl rfl rfl rfl fun w h => ?_)
   replace h := h.drop
   replace h : St w0 (pt b2 (.cells hdZ.toArray 43 (0, 0)) :: l) w := h
   refine r_v (q_assignI rfl) rfl ?_; refine r_v (q_assignB rfl) rfl ?_
   exact r_nil (c_ret (bqS3 (l := hdZ) rfl rfl (at_of (h.b 0 rfl) rfl) ⟨.inl ⟨bad (.inl g1), rfl⟩, h.drop⟩))
  refine r_v (q_is (v' := .bool false) (q_eql rfl rfl) (by congr 1; rw [beq_eq_false_iff_ne]; omega)) rfl ?_
  refine r_v (q_moveB rfl) rfl ?_; refine r_gd rfl rfl ?_; refine r_v (q_moveI rfl) rfl ?_; refine r_gd rfl rfl ?_
  by_cases g2 : k1 = 0
  ·refine r_v (q_is (v' := .bool true) (q_eql rfl rfl) (by rw [g2]; rfl)) rfl ?_
   refine r_v (q_pick0 rfl rfl rfl) rfl ?_; refine r_v (q_moveB rfl) rfl ?_; refine r_gn rfl rfl rfl ?_; refine r_gn rfl rfl rfl ?_; refine r_v (q_pick1 rfl rfl rfl) rfl ?_; refine r_v (q_moveB rfl) rfl ?_; refine r_gn rfl rfl rfl ?_; refine r_gn rfl rfl rfl ?_; refine r_v (q_pick1 rfl rfl rfl) rfl ?_; refine r_v (q_moveB rfl) rfl ?_; refine r_gn rfl rfl rfl ?_; refine r_gn rfl rfl rfl ?_; refine r_v (q_pick1 rfl rfl rfl) rfl ?_; refine r_v (q_moveB rfl) rfl ?_; refine r_gn rfl rfl rfl ?_; refine r_gn rfl rfl rfl ?_; refine r_gn rfl rfl rfl ?_; refine r_gn rfl rfl rfl ?_; refine r_gn rfl rfl rfl ?_; refine r_v (q_pick1 rfl rfl rfl) rfl ?_
   refine r_nil (c_true rfl ?_)
   refine c_seq (c_region ?_)
   refine r_v (q_build (r := hdZ) rfl) rfl ?_
   refine r_c rfl (x_storeA (vs := hdZ) 1 h rfl rfl rfl rfl rfl rfl rfl fun w h => ?_)
   replace h := h.drop
   replace h : St w0 (pt b2 (.cells hdZ.toArray 43 (0, 0)) :: l) w := h
   refine r_v (q_assignI rfl) rfl ?_; refine r_v (q_assignB rfl) rfl ?_
   exact r_nil (c_ret (bqS3 (l := hdZ) rfl rfl (at_of (h.b 0 rfl) rfl) ⟨.inl ⟨bad (.inr (.inl g2)), rfl⟩, h.drop⟩))
  refine r_v (q_is (v' := .bool false) (q_eql rfl rfl) (by congr 1; rw [beq_eq_false_iff_ne]; omega)) rfl ?_
  refine r_v (q_pick0 rfl rfl rfl) rfl ?_; refine r_v (q_moveB rfl) rfl ?_; refine r_gd rfl rfl ?_; refine r_v (q_moveI rfl) rfl ?_; refine r_gd rfl rfl ?_
  by_cases g3 : k2 = 0
  ·refine r_v (q_is (v' := .bool true) (q_eql rfl rfl) (by rw [g3]; rfl)) rfl ?_
   refine r_v (q_pick0 rfl rfl rfl) rfl ?_; refine r_v (q_moveB rfl) rfl ?_; refine r_gn rfl rfl rfl ?_; refine r_gn rfl rfl rfl ?_; refine r_v (q_pick1 rfl rfl rfl) rfl ?_; refine r_v (q_moveB rfl) rfl ?_; refine r_gn rfl rfl rfl ?_; refine r_gn rfl rfl rfl ?_; refine r_v (q_pick1 rfl rfl rfl) rfl ?_; refine r_v (q_moveB rfl) rfl ?_; refine r_gn rfl rfl rfl ?_; refine r_gn rfl rfl rfl ?_; refine r_gn rfl rfl rfl ?_; refine r_gn rfl rfl rfl ?_; refine r_gn rfl rfl rfl ?_; refine r_v (q_pick1 rfl rfl rfl) rfl ?_
   refine r_nil (c_true rfl ?_)
   refine c_seq (c_region ?_)
   refine r_v (q_build (r := hdZ) rfl) rfl ?_
   refine r_c rfl (x_storeA (vs := hdZ) 1 h rfl rfl rfl rfl rfl rfl rfl fun w h => ?_)
   replace h := h.drop
   replace h : St w0 (pt b2 (.cells hdZ.toArray 43 (0, 0)) :: l) w := h
   refine r_v (q_assignI rfl) rfl ?_; refine r_v (q_assignB rfl) rfl ?_
   exact r_nil (c_ret (bqS3 (l := hdZ) rfl rfl (at_of (h.b 0 rfl) rfl) ⟨.inl ⟨bad (.inr (.inr (.inl g3))), rfl⟩, h.drop⟩))
  refine r_v (q_is (v' := .bool false) (q_eql rfl rfl) (by congr 1; rw [beq_eq_false_iff_ne]; omega)) rfl ?_
  refine r_v (q_pick0 rfl rfl rfl) rfl ?_; refine r_v (q_moveB rfl) rfl ?_; refine r_gd rfl rfl ?_; refine r_v (q_moveI rfl) rfl ?_; refine r_gd rfl rfl ?_
  by_cases g4 : v0 < 1
  ·refine r_v (q_is (v' := .bool true) (q_lss rfl rfl) (by congr 1; rw [decide_eq_true_eq]; omega)) rfl ?_
   refine r_v (q_pick0 rfl rfl rfl) rfl ?_; refine r_v (q_moveB rfl) rfl ?_; refine r_gn rfl rfl rfl ?_; refine r_gn rfl rfl rfl ?_; refine r_v (q_pick1 rfl rfl rfl) rfl ?_; refine r_v (q_moveB rfl) rfl ?_; refine r_gn rfl rfl rfl ?_; refine r_gn rfl rfl rfl ?_; refine r_gn rfl rfl rfl ?_; refine r_gn rfl rfl rfl ?_; refine r_gn rfl rfl rfl ?_; refine r_v (q_pick1 rfl rfl rfl) rfl ?_
   refine r_nil (c_true rfl ?_)
   refine c_seq (c_region ?_)
   refine r_v (q_build (r := hdZ) rfl) rfl ?_
   refine r_c rfl (x_storeA (vs := hdZ) 1 h rfl rfl rfl rfl rfl rfl rfl fun w h => ?_)
   replace h := h.drop
   replace h : St w0 (pt b2 (.cells hdZ.toArray 43 (0, 0)) :: l) w := h
   refine r_v (q_assignI rfl) rfl ?_; refine r_v (q_assignB rfl) rfl ?_
   exact r_nil (c_ret (bqS3 (l := hdZ) rfl rfl (at_of (h.b 0 rfl) rfl) ⟨.inl ⟨bad (.inr (.inr (.inr (.inl g4)))), rfl⟩, h.drop⟩))
  refine r_v (q_is (v' := .bool false) (q_lss rfl rfl) (by congr 1; rw [decide_eq_false_iff_not]; omega)) rfl ?_
  refine r_v (q_pick0 rfl rfl rfl) rfl ?_; refine r_v (q_moveB rfl) rfl ?_; refine r_gd rfl rfl ?_; refine r_v (q_moveI rfl) rfl ?_; refine r_gd rfl rfl ?_
  by_cases g5 : 65535 < v0
  ·refine r_v (q_is (v' := .bool true) (q_gtr rfl rfl) (by congr 1; rw [decide_eq_true_eq]; omega)) rfl ?_
   refine r_v (q_pick0 rfl rfl rfl) rfl ?_; refine r_v (q_moveB rfl) rfl ?_; refine r_gn rfl rfl rfl ?_; refine r_gn rfl rfl rfl ?_; refine r_gn rfl rfl rfl ?_; refine r_gn rfl rfl rfl ?_; refine r_gn rfl rfl rfl ?_; refine r_v (q_pick1 rfl rfl rfl) rfl ?_
   refine r_nil (c_true rfl ?_)
   refine c_seq (c_region ?_)
   refine r_v (q_build (r := hdZ) rfl) rfl ?_
   refine r_c rfl (x_storeA (vs := hdZ) 1 h rfl rfl rfl rfl rfl rfl rfl fun w h => ?_)
   replace h := h.drop
   replace h : St w0 (pt b2 (.cells hdZ.toArray 43 (0, 0)) :: l) w := h
   refine r_v (q_assignI rfl) rfl ?_; refine r_v (q_assignB rfl) rfl ?_
   exact r_nil (c_ret (bqS3 (l := hdZ) rfl rfl (at_of (h.b 0 rfl) rfl) ⟨.inl ⟨bad (.inr (.inr (.inr (.inr (.inl g5))))), rfl⟩, h.drop⟩))
  refine r_v (q_is (v' := .bool false) (q_gtr rfl rfl) (by congr 1; rw [decide_eq_false_iff_not]; omega)) rfl ?_
  refine r_v (q_pick0 rfl rfl rfl) rfl ?_; refine r_v (q_moveB rfl) rfl ?_; refine r_gd rfl rfl ?_; refine r_v (q_fa rfl) rfl ?_; refine r_gd rfl rfl ?_
  refine r_v (q_load (v := .int .i64 (sg (zagU v1))) rfl (h.b 0 rfl) rfl) rfl ?_
  refine r_gd rfl rfl ?_; refine r_v (q_fa rfl) rfl ?_; refine r_gd rfl rfl ?_
  refine r_v (q_load (v := .int .i64 (sg (zagU v2))) rfl (h.b 0 rfl) rfl) rfl ?_
  refine r_gd rfl rfl ?_; refine r_v (q_gtr rfl rfl) rfl ?_; refine r_v (q_pick0 rfl rfl rfl) rfl ?_
  refine r_nil (c_cond (decide (sg (zagU v1) > sg (zagU v2))) rfl (fun hc1 => ?_) (fun hc1 => ?_))
  ·refine c_seq (c_region ?_)
   refine r_v (q_build (r := hdZ) rfl) rfl ?_
   refine r_c rfl (x_storeA (vs := hdZ) 1 h rfl rfl rfl rfl rfl rfl rfl fun w h => ?_)
   replace h := h.drop
   replace h : St w0 (pt b2 (.cells hdZ.toArray 43 (0, 0)) :: l) w := h
   refine r_v (q_assignI rfl) rfl ?_; refine r_v (q_assignB rfl) rfl ?_
   exact r_nil (c_ret (bqS3 (l := hdZ) rfl rfl (at_of (h.b 0 rfl) rfl) ⟨.inl ⟨bad (.inr (.inr (.inr (.inr (.inr (by rw [decide_eq_true_eq] at hc1; exact hc1)))))), rfl⟩, h.drop⟩))
  ·refine c_skip ⟨(), ⟨rfl, rfl, rfl, rfl, rfl, trivial⟩, ?_, h⟩
   rw [decide_eq_false_iff_not] at hc1
   omega
 clear h
 rintro _ w e ⟨hcond2, h⟩
 rw [if_neg (by omega)] at hdef
 dsimp only at hdef
 rw [show [v0, v1, v2].getD 0 0 = v0 from rfl, show [v0, v1, v2].getD 1 0 = v1 from rfl, show [v0, v1, v2].getD 2 0 = v2 from rfl, show hdOf ch [v0, v1, v2] = ⟨ch.toNat, v0, sg (zagU v1), sg (zagU v2)⟩ from rfl, if_neg (by omega)] at hdef
 rw [show min v0 65536 = v0 by omega] at h
 have edr : ((r.drop k0).drop k1).drop k2 = (ch :: r).drop (1 + k0 + k1 + k2) := by rw [← ed, List.drop_drop]
 rw [edr] at hdef
 refine c_seq (c_region ?_)
 refine r_v (q_loadS (l := hdC ⟨ch.toNat, v0, sg (zagU v1), sg (zagU v2)⟩) rfl rfl (at_of (h.b 0 rfl) rfl)) rfl ?_
 refine r_v (q_moveI rfl) rfl ?_; refine r_v (q_add rfl rfl) rfl ?_
 refine r_is (.int .i64 ((1 + k0 : Nat) : Int)) (by rw [wrap64 (by omega) (by omega)]; rfl) ?_
 refine r_v (q_moveI rfl) rfl ?_; refine r_v (q_add rfl rfl) rfl ?_
 refine r_is (.int .i64 ((1 + k0 + k1 : Nat) : Int)) (by rw [wrap64 (by omega) (by omega)]; exact congrArg (Value.int .i64) (by omega)) ?_
 refine r_v (q_moveI rfl) rfl ?_; refine r_v (q_add rfl rfl) rfl ?_
 refine r_is (.int .i64 ((1 + k0 + k1 + k2 : Nat) : Int)) (by rw [wrap64 (by omega) (by omega)]; exact congrArg (Value.int .i64) (by omega)) ?_
 refine r_c rfl (x_storeA (vs := hdC ⟨ch.toNat, v0, sg (zagU v1), sg (zagU v2)⟩) 1 h rfl rfl rfl rfl rfl rfl rfl fun w h => ?_)
 replace h := h.drop
 replace h : St w0 (pt b2 (.cells (hdC ⟨ch.toNat, v0, sg (zagU v1), sg (zagU v2)⟩).toArray 43 (0, 0)) :: l) w := h
 refine r_v (q_assignI rfl) rfl ?_; refine r_v (q_assignB rfl) rfl ?_
 refine r_nil ?_
 exact c_ret (bqS3 (l := hdC ⟨ch.toNat, v0, sg (zagU v1), sg (zagU v2)⟩) rfl rfl (at_of (h.b 0 rfl) rfl) ⟨.inr ⟨_, 1 + k0 + k1 + k2, hdef, rfl, by omega, by dsimp only; omega, by dsimp only; omega⟩, h.drop⟩)
theorem ref10_HeadF {sl : Option Addr} {c : Nat} {bs : List UInt8} (hn : bs.length ≤ 140737488355328) (hc : bs.length ≤ c) (hr : Reads w0 l 1 sl bs.length (bytesV bs)) (h : St w0 l w) :
  Ret Tryz.prog 23 [.slice sl bs.length c] w fun v w' => v = .tuple [.agg ((((headDec bs).map fun q => hdC q.1).getD hdZ)).toArray, .bool (headDec bs).isSome].toArray ∧ St w0 l w' := by
 refine enter Tryz.func23 rfl Tryz.results23 Tryz.ntmps23 rfl ?_
 refine c_seq (c_region ?_)
 refine r_c rfl (x_alloc h fun b2 w h => ?_)
 refine r_v (q_assignB rfl) rfl ?_
 refine r_nil ?_
 refine c_seq (c_region ?_)
 refine r_v (q_moveS rfl) rfl ?_
 refine r_c rfl (x_call rfl (ref10_head hn hc hr.cons h) ?_)
 rintro _ w ⟨(⟨hd0, rfl⟩ | ⟨hd, k, hd0, rfl, hk, hcnt, htag⟩), h⟩
 ·rw [hd0]
  refine r_v (q_moveT rfl) rfl ?_; refine r_v (q_ext rfl rfl) rfl ?_; refine r_v (q_ext rfl rfl) rfl ?_; refine r_v (q_ext rfl rfl) rfl ?_
  refine r_c rfl (x_alloc h fun b4 w h => ?_)
  refine r_c rfl (x_storeA (vs := hdZ) 0 h rfl rfl rfl rfl rfl rfl rfl fun w h => ?_)
  replace h : St w0 (pt b4 (.cells hdZ.toArray 43 (0, 0)) :: pt b2 (.cells hdZ.toArray 43 (0, 0)) :: l) w := h
  refine r_v (q_assignI rfl) rfl ?_; refine r_v (q_assignB rfl) rfl ?_
  refine r_nil ?_
  refine c_seq (c_region ?_)
  refine r_v (q_loadS (l := hdZ) rfl rfl (at_of (h.b 0 rfl) rfl)) rfl ?_
  refine r_v (q_moveB rfl) rfl ?_
  refine r_c rfl (x_storeA (vs := hdZ) 1 h rfl rfl rfl rfl rfl rfl rfl fun w h => ?_)
  replace h := h.drop
  replace h : St w0 (pt b2 (.cells hdZ.toArray 43 (0, 0)) :: l) w := h
  refine r_v (q_assignB rfl) rfl ?_
  refine r_nil ?_
  exact c_ret (bqS2 (l := hdZ) rfl rfl (at_of (h.b 0 rfl) rfl) ⟨rfl, h.drop⟩)
 ·rw [hd0]
  refine r_v (q_moveT rfl) rfl ?_; refine r_v (q_ext rfl rfl) rfl ?_; refine r_v (q_ext rfl rfl) rfl ?_; refine r_v (q_ext rfl rfl) rfl ?_
  refine r_c rfl (x_alloc h fun b4 w h => ?_)
  refine r_c rfl (x_storeA (vs := hdC hd) 0 h rfl rfl rfl rfl rfl rfl rfl fun w h => ?_)
  replace h : St w0 (pt b4 (.cells (hdC hd).toArray 43 (0, 0)) :: pt b2 (.cells hdZ.toArray 43 (0, 0)) :: l) w := h
  refine r_v (q_assignI rfl) rfl ?_; refine r_v (q_assignB rfl) rfl ?_
  refine r_nil ?_
  refine c_seq (c_region ?_)
  refine r_v (q_loadS (l := hdC hd) rfl rfl (at_of (h.b 0 rfl) rfl)) rfl ?_
  refine r_v (q_moveB rfl) rfl ?_
  refine r_c rfl (x_storeA (vs := hdC hd) 1 h rfl rfl rfl rfl rfl rfl rfl fun w h => ?_)
  replace h := h.drop
  replace h : St w0 (pt b2 (.cells (hdC hd).toArray 43 (0, 0)) :: l) w := h
  refine r_v (q_assignB rfl) rfl ?_
  refine r_nil ?_
  exact c_ret (bqS2 (l := hdC hd) rfl rfl (at_of (h.b 0 rfl) rfl) ⟨rfl, h.drop⟩)
end
end Go.Proofs.YtjjacchnalemaaaGreatDoor

namespace Go.Proofs.YtjjacchnalemaaaGreatDoor
open Go.Hw
set_option maxHeartbeats 4000000
set_option maxRecDepth 100000
section
variable {w0 w : World} {l : List HProp}
theorem ref10_Open {sl : Option Addr} {c : Nat} {bs : List UInt8} (hn : bs.length ≤ 140737488355328) (hc : bs.length ≤ c) (hr : Reads w0 l 1 sl bs.length (bytesV bs)) (h : St w0 l w) :
  Ret Tryz.prog 21 [.slice sl bs.length c] w fun v w' => ∃ a c', v = .tuple [.slice a (((chOpen bs).map Prod.fst).getD []).length c', .int .i64 ((((chOpen bs).map Prod.snd).getD 0 : Nat) : Int), .bool (chOpen bs).isSome].toArray ∧ (∀ L t, chOpen bs = some (L, t) → L.length ≤ 65535 ∧ ∀ s ∈ L, s.Wf) ∧ St w0 (OwnS a c' (((chOpen bs).map Prod.fst).getD []) :: l) w' := by
 have bad : ∀ {w : World}, chOpen bs = none → St w0 l w → ∃ a c', Value.tuple [.slice none 0 0, .int .i64 0, .bool false].toArray = .tuple [.slice a (((chOpen bs).map Prod.fst).getD []).length c', .int .i64 ((((chOpen bs).map Prod.snd).getD 0 : Nat) : Int), .bool (chOpen bs).isSome].toArray ∧ (∀ L t, chOpen bs = some (L, t) → L.length ≤ 65535 ∧ ∀ s ∈ L, s.Wf) ∧ St w0 (OwnS a c' (((chOpen bs).map Prod.fst).getD []) :: l) w := fun hb h => by
  rw [hb]
  exact ⟨none, 0, rfl, (fun _ _ h => by cases h), St.ownNil _ _ h⟩
 have hdef : chOpen bs = _ := rfl
 conv at hdef => rhs; unfold chOpen
 refine enter Tryz.func21 rfl Tryz.results21 Tryz.ntmps21 rfl ?_
 refine c_seq (c_region ?_)
 refine r_v (q_assignS rfl) rfl ?_; refine r_v (q_assignI rfl) rfl ?_; refine r_v (q_assignB rfl) rfl ?_
 refine r_nil ?_
 refine c_seq (c_region ?_)
 refine r_v (q_moveS rfl) rfl ?_
 refine r_c rfl (x_call rfl (ref10_head hn hc hr h) ?_)
 clear h
 rintro _ w ⟨(⟨hd0, rfl⟩ | ⟨hd, k, hd0, rfl, hk, hcnt, htag⟩), h⟩
 ·rw [hd0] at hdef
  refine r_v (q_moveT rfl) rfl ?_; refine r_v (q_ext rfl rfl) rfl ?_; refine r_v (q_ext rfl rfl) rfl ?_; refine r_v (q_ext rfl rfl) rfl ?_
  refine r_c rfl (x_alloc h fun b5 w h => ?_)
  refine r_c rfl (x_storeA (vs := hdZ) 0 h rfl rfl rfl rfl rfl rfl rfl fun w h => ?_)
  replace h := h.drop
  refine r_v (q_assignI rfl) rfl ?_; refine r_v (q_assignB rfl) rfl ?_
  refine r_nil ?_
  refine c_seq (c_seq (c_region ?_))
  refine r_v (q_moveB rfl) rfl ?_; refine r_v (q_not rfl) rfl ?_; refine r_v (q_moveB rfl) rfl ?_; refine r_gn rfl rfl rfl ?_; refine r_gn rfl rfl rfl ?_; refine r_gn rfl rfl rfl ?_; refine r_gn rfl rfl rfl ?_; refine r_gn rfl rfl rfl ?_; refine r_v (q_pick1 rfl rfl rfl) rfl ?_
  refine r_nil (c_true rfl ?_)
  refine c_seq (c_region ?_)
  refine r_v (q_assignS rfl) rfl ?_; refine r_v (q_assignI rfl) rfl ?_; refine r_v (q_assignB rfl) rfl ?_
  refine r_nil ?_
  exact c_ret (bq3 (bad hdef h))
 rw [hd0] at hdef
 dsimp only at hdef
 have hdl : (bs.drop k).length = bs.length - k := List.length_drop
 refine r_v (q_moveT rfl) rfl ?_; refine r_v (q_ext rfl rfl) rfl ?_; refine r_v (q_ext rfl rfl) rfl ?_; refine r_v (q_ext rfl rfl) rfl ?_
 refine r_c rfl (x_alloc h fun b5 w h => ?_)
 refine r_c rfl (x_storeA (vs := hdC hd) 0 h rfl rfl rfl rfl rfl rfl rfl fun w h => ?_)
 replace h : St w0 (pt b5 (.cells (hdC hd).toArray 43 (0, 0)) :: l) w := h
 refine r_v (q_assignI rfl) rfl ?_; refine r_v (q_assignB rfl) rfl ?_
 refine r_nil ?_
 refine c_seq (c_seq (c_region ?_))
 refine r_v (q_moveB rfl) rfl ?_; refine r_v (q_not rfl) rfl ?_; refine r_v (q_moveB rfl) rfl ?_; refine r_gd rfl rfl ?_; refine r_v (q_moveS rfl) rfl ?_; refine r_gd rfl rfl ?_; refine r_v (q_len rfl) rfl ?_; refine r_gd rfl rfl ?_; refine r_v (q_moveI rfl) rfl ?_; refine r_gd rfl rfl ?_
 refine r_v (q_is (v' := .int .i64 ((k + 4 : Nat) : Int)) (q_add rfl rfl) (by rw [wrap64 (by omega) (by omega)]; rfl)) rfl ?_
 refine r_gd rfl rfl ?_; refine r_v (q_lss rfl rfl) rfl ?_; refine r_v (q_pick0 rfl rfl rfl) rfl ?_
 refine r_nil (c_cond (decide ((bs.length : Int) < ((k + 4 : Nat) : Int))) rfl (fun hc1 => ?_) (fun hc1 => ?_))
 ·refine c_seq (c_region ?_)
  refine r_v (q_assignS rfl) rfl ?_; refine r_v (q_assignI rfl) rfl ?_; refine r_v (q_assignB rfl) rfl ?_
  refine r_nil ?_
  exact c_ret (bq3 (bad (by rw [hdef, if_pos (by rw [decide_eq_true_eq] at hc1; omega)]) h.drop))
 rw [decide_eq_false_iff_not] at hc1
 rw [if_neg (by omega)] at hdef
 refine c_skip ?_
 have hrh := Reads.cut hr (i := k) (j := bs.length - 4) (by omega) (by omega) hc
 have htl : ((bs.drop k).take ((bs.drop k).length - 4)).length = bs.length - 4 - k := by rw [List.length_take]; omega
 have hrh' : Reads w0 l 1 (adv sl (k * 1) (Nat.beq c k)) ((bs.drop k).take ((bs.drop k).length - 4)).length (bytesV ((bs.drop k).take ((bs.drop k).length - 4))) := by
  rw [htl]
  have : bytesV ((bs.drop k).take ((bs.drop k).length - 4)) = ((bytesV bs).drop (k * 1)).take ((bs.length - 4 - k) * 1) := by
   unfold bytesV
   rw [List.map_take, List.map_drop, Nat.mul_one, Nat.mul_one]
   congr 1; omega
  rw [this]
  exact hrh
 generalize hP : (bs.drop k).take ((bs.drop k).length - 4) = P at hdef htl hrh'
 refine c_cut (Γ := Option Addr × Nat) (fun q => [(0, .slice sl bs.length c), (5, .pointer (some ⟨b5, 0, none⟩)), (8, .slice q.1 ((suitDec hd.tag P hd.count).getD []).length q.2), (9, .bool (suitDec hd.tag P hd.count).isSome)])
  (fun q w => (∀ L, suitDec hd.tag P hd.count = some L → (L.length : Int) = hd.count ∧ ∀ s ∈ L, s.Wf) ∧ St w0 (OwnS q.1 q.2 ((suitDec hd.tag P hd.count).getD []) :: pt b5 (.cells (hdC hd).toArray 43 (0, 0)) :: l) w) ?_ ?_
 ·refine c_anyW [0, 1, 2, 3, 4, 5, 6, 7, 8, 9, 10, 11, 12, 14, 13, 15] none (fun w => w.heap[b5]? = some (.cells (hdC hd).toArray 43 (0, 0))) (by kernel_rfl) (by kernel_rfl) ?_
  replace h := h.drew
  generalize w.drew = w at h
  have hs := h
  replace h := hs.b 0 rfl
  refine cur_pure rfl rfl rfl rfl (fun _ => h) (fun _ => flt_v rfl (q_fa rfl)) ?_
  refine cur_float rfl rfl rfl rfl h (fun w h => flt_v rfl (q_load (v := .int .i64 (hd.tag : Int)) rfl h rfl)) ?_
  refine cur_pure rfl rfl rfl rfl (fun _ => h) (fun _ => flt_v rfl (q_moveS rfl)) ?_; refine cur_pure rfl rfl rfl rfl (fun _ => h) (fun _ => flt_v rfl (q_moveI rfl)) ?_; refine cur_pure rfl rfl rfl rfl (fun _ => h) (fun _ => flt_v rfl (q_moveS rfl)) ?_; refine cur_pure rfl rfl rfl rfl (fun _ => h) (fun _ => flt_v rfl (q_len rfl)) ?_
  refine cur_pure rfl rfl rfl rfl (fun _ => h) (fun _ => flt_v rfl (q_is (v' := .int .i64 ((bs.length - 4 : Nat) : Int)) (q_sub rfl rfl) (by rw [wrap64 (by omega) (by omega)]; congr 1; omega))) ?_
  refine cur_pure rfl rfl rfl rfl (fun _ => h) (fun _ => flt_v rfl (q_is (v' := .slice (adv sl (k * 1) (Nat.beq c k)) P.length (c - k)) (q_cut (i := k) (j := bs.length - 4) rfl rfl rfl (by omega) (by omega)) (by rw [htl]; rfl))) ?_
  refine cur_pure rfl rfl rfl rfl (fun _ => h) (fun _ => flt_v rfl (q_fa rfl)) ?_
  refine cur_float rfl rfl rfl rfl h (fun w h => flt_v rfl (q_load (v := .int .i64 (hd.count : Int)) rfl h rfl)) ?_
  refine cur_skip ?_; refine cur_skip ?_; refine cur_skip ?_; refine cur_skip ?_; refine cur_skip ?_; refine cur_skip ?_
  refine cur_one 10 rfl rfl rfl rfl ?_
  refine (x_call rfl (ref10_Decode (hd.count : Int) (by omega) (by omega) (hrh'.more [_]) hs) ?_)
  rintro _ w ⟨da, dc, rfl, hM, hs⟩
  replace h := hs.b 1 rfl
  refine ⟨fun _ => h, ?_⟩
  refine cur_pure rfl rfl rfl rfl (fun _ => h) (fun _ => flt_v rfl (q_moveT rfl)) ?_; refine cur_pure rfl rfl rfl rfl (fun _ => h) (fun _ => flt_v rfl (q_ext rfl rfl)) ?_; refine cur_pure rfl rfl rfl rfl (fun _ => h) (fun _ => flt_v rfl (q_ext rfl rfl)) ?_; refine cur_pure rfl rfl rfl rfl (fun _ => h) (fun _ => flt_v rfl (q_assignS rfl)) ?_; refine cur_pure rfl rfl rfl rfl (fun _ => h) (fun _ => flt_v rfl (q_assignB rfl)) ?_
  exact cur_end ⟨(da, dc), ⟨rfl, rfl, rfl, rfl, trivial⟩, hM, hs⟩
 clear h
 rintro ⟨da, dc⟩ w e ⟨hM, h⟩
 dsimp only at h ⊢
 refine c_seq (c_seq (c_region ?_))
 refine r_v (q_moveB rfl) rfl ?_; refine r_v (q_not rfl) rfl ?_
 cases hD : suitDec hd.tag P hd.count with
 | none =>
  rw [hD] at hdef
  refine r_nil (c_true rfl ?_)
  refine c_seq (c_region ?_)
  refine r_v (q_assignS rfl) rfl ?_; refine r_v (q_assignI rfl) rfl ?_; refine r_v (q_assignB rfl) rfl ?_
  refine r_nil ?_
  exact c_ret (bq3 (bad hdef h.drop.drop))
 | some M =>
 rw [hD] at hdef h
 obtain ⟨hMl, hMw⟩ := hM M hD
 have hM16 : M.length ≤ 65535 := by omega
 dsimp only at hdef
 refine r_nil (c_false rfl (c_skip ?_))
 replace h : St w0 (OwnS da dc M :: pt b5 (.cells (hdC hd).toArray 43 (0, 0)) :: l) w := h
 refine c_seq (c_region ?_)
 refine r_v (q_fa rfl) rfl ?_
 refine r_v (q_load (v := .int .i64 (hd.tag : Int)) rfl (h.b 1 rfl) rfl) rfl ?_
 refine r_v (q_moveS rfl) rfl ?_
 refine r_c rfl (x_call rfl (ref10_Make (hd.tag : Int) (L := M) hMw (by omega) Reads.own h) ?_)
 rintro _ w ⟨ea, ec, rfl, h⟩
 refine r_v (q_moveT rfl) rfl ?_; refine r_v (q_ext rfl rfl) rfl ?_; refine r_v (q_ext rfl rfl) rfl ?_; refine r_v (q_assignS rfl) rfl ?_; refine r_v (q_assignB rfl) rfl ?_
 refine r_nil ?_
 refine c_cut (Γ := Unit) (fun _ => [(5, .pointer (some ⟨b5, 0, none⟩)), (8, .slice da M.length dc)]) (fun _ w => chMake (hd.tag : Int) M = some bs ∧ St w0 (OwnS da dc M :: pt b5 (.cells (hdC hd).toArray 43 (0, 0)) :: l) w) ?_ ?_
 ·refine c_seq (c_region ?_)
  cases hE : chMake (hd.tag : Int) M with
  | none =>
   refine r_v (q_moveB rfl) rfl ?_; refine r_v (q_not rfl) rfl ?_; refine r_v (q_moveB rfl) rfl ?_; refine r_gn rfl rfl rfl ?_; refine r_gn rfl rfl rfl ?_; refine r_gn rfl rfl rfl ?_; refine r_gn rfl rfl rfl ?_; refine r_gn rfl rfl rfl ?_; refine r_v (q_pick1 rfl rfl rfl) rfl ?_
   refine r_nil (c_true rfl ?_)
   refine c_seq (c_region ?_)
   refine r_v (q_assignS rfl) rfl ?_; refine r_v (q_assignI rfl) rfl ?_; refine r_v (q_assignB rfl) rfl ?_
   refine r_nil ?_
   exact c_ret (bq3 (bad (by rw [hdef, if_neg (by rw [hE]; simp)]) h.drop.drop.drop))
  | some d =>
   rw [hE] at h
   refine r_v (q_moveB rfl) rfl ?_; refine r_v (q_not rfl) rfl ?_; refine r_v (q_moveB rfl) rfl ?_; refine r_gd rfl rfl ?_; refine r_v (q_moveS rfl) rfl ?_; refine r_gd rfl rfl ?_
   refine r_v (q_btos (bs := d) rfl h.own_rd) rfl ?_
   refine r_gd rfl rfl ?_; refine r_v (q_moveS rfl) rfl ?_; refine r_gd rfl rfl ?_
   refine r_v (q_btos (bs := bs) rfl ((hr.more [_, _, _]).at_ h)) rfl ?_
   refine r_gd rfl rfl ?_; refine r_v (q_strne rfl rfl) rfl ?_
   rw [strB_eq]
   refine r_v (q_pick0 rfl rfl rfl) rfl ?_
   refine r_nil (c_cond (!decide (d = bs)) rfl (fun hc2 => ?_) (fun hc2 => ?_))
   ·refine c_seq (c_region ?_)
    refine r_v (q_assignS rfl) rfl ?_; refine r_v (q_assignI rfl) rfl ?_; refine r_v (q_assignB rfl) rfl ?_
    refine r_nil ?_
    exact c_ret (bq3 (bad (by rw [hdef, if_neg (by rw [hE]; simpa using hc2)]) h.drop.drop.drop))
   ·exact c_skip ⟨(), ⟨rfl, rfl, trivial⟩, by simpa using hc2, h.drop⟩
 clear h
 rintro _ w e ⟨hE, h⟩
 rw [if_pos hE] at hdef
 rw [hdef]
 refine c_seq (c_anyR [0, 2, 3, 1, 4, 5] none (fun w => St w0 _ w) (by kernel_rfl) (by kernel_rfl) h.drew fun w h => ?_)
 refine cur_pure rfl rfl rfl rfl (fun _ => h) (fun _ => flt_v rfl (q_moveS rfl)) ?_; refine cur_pure rfl rfl rfl rfl (fun _ => h) (fun _ => flt_v rfl (q_fa rfl)) ?_
 refine cur_float rfl rfl rfl rfl h (fun w h => flt_v rfl (q_load (v := .int .i64 (hd.tag : Int)) rfl (h.b 1 rfl) rfl)) ?_
 refine cur_pure rfl rfl rfl rfl (fun _ => h) (fun _ => flt_v rfl (q_assignS rfl)) ?_; refine cur_pure rfl rfl rfl rfl (fun _ => h) (fun _ => flt_v rfl (q_assignI rfl)) ?_; refine cur_pure rfl rfl rfl rfl (fun _ => h) (fun _ => flt_v rfl (q_assignB rfl)) ?_
 refine cur_end ?_
 refine c_ret (bq3 ⟨da, dc, rfl, fun L t hh => ?_, (h.f 1).drop⟩)
 cases hh
 exact ⟨hM16, hMw⟩
end
end Go.Proofs.YtjjacchnalemaaaGreatDoor

namespace Go.Proofs.YtjjacchnalemaaaGreatDoor
open Go.Hw
set_option maxHeartbeats 4000000
set_option maxRecDepth 100000
section
variable {w0 w : World} {l : List HProp}
abbrev HeadOf (w0 : World) (l : List HProp) (bs : List UInt8) (v : Value) : Prop :=
 (headDec bs = none ∧ v = .tuple [.agg hdZ.toArray, .slice none 0 0, .bool false].toArray) ∨
 ∃ hd rest a c, headDec bs = some (hd, rest) ∧ v = .tuple [.agg (hdC hd).toArray, .slice a rest.length c, .bool true].toArray ∧ rest.length ≤ c ∧ rest.length ≤ bs.length ∧ hd.count ≤ 65535 ∧ hd.tag ≤ 6 ∧ Reads w0 l 1 a rest.length (bytesV rest)
theorem chnk_head {sl : Option Addr} {c : Nat} {bs : List UInt8} (hn : bs.length ≤ 140737488355328) (hc : bs.length ≤ c) (hr : Reads w0 l 1 sl bs.length (bytesV bs)) (h : St w0 l w) :
  Ret Tryz.prog 56 [.slice sl bs.length c] w fun v w' => HeadOf w0 l bs v ∧ St w0 l w' := by
 refine enter Tryz.func56 rfl Tryz.results56 Tryz.ntmps56 rfl ?_
 refine c_seq (c_region ?_)
 refine r_c rfl (x_alloc h fun b2 w h => ?_)
 replace h : St w0 (pt b2 (.cells hdZ.toArray 43 (0, 0)) :: l) w := h
 refine r_v (q_assignS rfl) rfl ?_; refine r_v (q_assignB rfl) rfl ?_
 refine r_nil ?_
 cases bs with
 | nil =>
  refine c_seq (c_seq (c_region ?_))
  refine r_v (q_moveS rfl) rfl ?_; refine r_v (q_len rfl) rfl ?_
  refine r_v (q_is (v' := .bool true) (q_eql rfl rfl) rfl) rfl ?_
  refine r_v (q_moveB rfl) rfl ?_; refine r_gn rfl rfl rfl ?_; refine r_gn rfl rfl rfl ?_; refine r_gn rfl rfl rfl ?_; refine r_gn rfl rfl rfl ?_; refine r_v (q_pick1 rfl rfl rfl) rfl ?_; refine r_v (q_moveB rfl) rfl ?_; refine r_gn rfl rfl rfl ?_; refine r_gn rfl rfl rfl ?_; refine r_gn rfl rfl rfl ?_; refine r_gn rfl rfl rfl ?_; refine r_v (q_pick1 rfl rfl rfl) rfl ?_
  refine r_nil (c_true rfl ?_)
  refine c_seq (c_region ?_)
  refine r_v (q_build (r := hdZ) rfl) rfl ?_
  refine r_c rfl (x_storeA (vs := hdZ) 0 h rfl rfl rfl rfl rfl rfl rfl fun w h => ?_)
  replace h : St w0 (pt b2 (.cells hdZ.toArray 43 (0, 0)) :: l) w := h
  refine r_v (q_assignS rfl) rfl ?_; refine r_v (q_assignB rfl) rfl ?_
  refine r_nil ?_
  exact c_ret (bqS3 (l := hdZ) rfl rfl (at_of (h.b 0 rfl) rfl) ⟨.inl ⟨rfl, rfl⟩, h.drop⟩)
 | cons ch r =>
 have hdef : headDec (ch :: r) = _ := rfl
 conv at hdef => rhs; unfold headDec
 dsimp only at hdef
 have hlc : (ch :: r).length = r.length + 1 := rfl
 obtain ⟨b, o, hsl⟩ := (hr.cons.at_ h).some (by simp)
 have hc0 : ∀ {M : List HProp} {w'}, St w0 (M ++ l) w' → w'.cell? ⟨b, o, none⟩ = some (.int .u8 ch.toNat) := fun {M} {w'} h' => by
  have := (hsl ▸ hr M _ h').cell (bytesV_get (bs := ch :: r) (j := 0) rfl); simpa using this
 refine c_cut (Γ := Unit) (fun _ => [(0, .slice sl (ch :: r).length c), (2, .pointer (some ⟨b2, 0, none⟩))]) (fun _ w => ¬ (ch.toNat < 1 ∨ 6 < ch.toNat) ∧ St w0 (pt b2 (.cells hdZ.toArray 43 (0, 0)) :: l) w) ?_ ?_
 ·refine c_seq (c_region ?_)
  refine r_v (q_moveS rfl) rfl ?_; refine r_v (q_len rfl) rfl ?_
  refine r_v (q_is (v' := .bool false) (q_eql rfl rfl) (by congr 1)) rfl ?_
  refine r_v (q_moveB rfl) rfl ?_; refine r_gd rfl rfl ?_; refine r_v (q_moveS rfl) rfl ?_; refine r_gd rfl rfl ?_
  refine r_v (q_idx (b := b) (o := o) (m := (ch :: r).length) (c := c) (j := 0) (o' := o) (by rw [← hsl]; rfl) rfl rfl (by simp) (by simp)) rfl ?_
  refine r_gd rfl rfl ?_
  refine r_v (q_loadc (v := .int .u8 ch.toNat) rfl (hc0 (M := [_]) h)) rfl ?_
  refine r_gd rfl rfl ?_
  by_cases g1 : ch.toNat < 1
  ·refine r_v (q_is (v' := .bool true) (q_lss rfl rfl) (by congr 1; simp; omega)) rfl ?_
   refine r_v (q_pick0 rfl rfl rfl) rfl ?_; refine r_v (q_moveB rfl) rfl ?_; refine r_gn rfl rfl rfl ?_; refine r_gn rfl rfl rfl ?_; refine r_gn rfl rfl rfl ?_; refine r_gn rfl rfl rfl ?_; refine r_v (q_pick1 rfl rfl rfl) rfl ?_
   refine r_nil (c_true rfl ?_)
   refine c_seq (c_region ?_)
   refine r_v (q_build (r := hdZ) rfl) rfl ?_
   refine r_c rfl (x_storeA (vs := hdZ) 0 h rfl rfl rfl rfl rfl rfl rfl fun w h => ?_)
   replace h : St w0 (pt b2 (.cells hdZ.toArray 43 (0, 0)) :: l) w := h
   refine r_v (q_assignS rfl) rfl ?_; refine r_v (q_assignB rfl) rfl ?_
   refine r_nil ?_
   exact c_ret (bqS3 (l := hdZ) rfl rfl (at_of (h.b 0 rfl) rfl) ⟨.inl ⟨by rw [hdef, if_pos (.inl g1)], rfl⟩, h.drop⟩)
  refine r_v (q_is (v' := .bool false) (q_lss rfl rfl) (by congr 1; simp; omega)) rfl ?_
  refine r_v (q_pick0 rfl rfl rfl) rfl ?_; refine r_v (q_moveB rfl) rfl ?_; refine r_gd rfl rfl ?_; refine r_v (q_moveS rfl) rfl ?_; refine r_gd rfl rfl ?_
  refine r_v (q_idx (b := b) (o := o) (m := (ch :: r).length) (c := c) (j := 0) (o' := o) (by rw [← hsl]; rfl) rfl rfl (by simp) (by simp)) rfl ?_
  refine r_gd rfl rfl ?_
  refine r_v (q_loadc (v := .int .u8 ch.toNat) rfl (hc0 (M := [_]) h)) rfl ?_
  refine r_gd rfl rfl ?_; refine r_v (q_gtr rfl rfl) rfl ?_; refine r_v (q_pick0 rfl rfl rfl) rfl ?_
  refine r_nil (c_cond (decide ((ch.toNat : Int) > 6)) rfl (fun hc1 => ?_) (fun hc1 => ?_))
  ·refine c_seq (c_region ?_)
   refine r_v (q_build (r := hdZ) rfl) rfl ?_
   refine r_c rfl (x_storeA (vs := hdZ) 0 h rfl rfl rfl rfl rfl rfl rfl fun w h => ?_)
   replace h : St w0 (pt b2 (.cells hdZ.toArray 43 (0, 0)) :: l) w := h
   refine r_v (q_assignS rfl) rfl ?_; refine r_v (q_assignB rfl) rfl ?_
   refine r_nil ?_
   exact c_ret (bqS3 (l := hdZ) rfl rfl (at_of (h.b 0 rfl) rfl) ⟨.inl ⟨by rw [hdef, if_pos (.inr (by simp at hc1; omega))], rfl⟩, h.drop⟩)
  ·exact c_skip ⟨(), ⟨rfl, rfl, trivial⟩, by simp at hc1; omega, h⟩
 clear h
 rintro _ w e ⟨hcond, h⟩
 rw [if_neg hcond] at hdef
 have hrt := hr.tailB (i := 1) (by omega) hc
 rw [show (ch :: r).drop 1 = r from rfl] at hrt
 refine c_seq (c_region ?_)
 refine r_v (q_moveS rfl) rfl ?_
 refine r_v (q_tail (i := 1) rfl rfl (by omega)) rfl ?_
 show Rn _ _ _ _ _ (upd _ _ (.slice (adv sl (1 * 1) (Nat.beq c 1)) r.length (c - 1))) _
 refine r_v (q_assignS rfl) rfl ?_
 refine r_nil ?_
 refine c_seq (c_region ?_)
 refine r_c rfl (x_alloc h fun b6 w h => ?_)
 replace h : St w0 (pt b6 (.cells (u64V ([] ++ List.replicate (3 - 0) 0)).toArray 131 (0, 0)) :: pt b2 (.cells hdZ.toArray 43 (0, 0)) :: l) w := h
 refine r_nil ?_
 generalize hG : getVs 3 r = G at hdef
 refine c_cut (Γ := Nat × Nat × Nat × List UInt8 × Option Addr × Nat) (fun k => [(0, .slice sl (ch :: r).length c), (2, .pointer (some ⟨b2, 0, none⟩)), (5, .slice k.2.2.2.2.1 k.2.2.2.1.length k.2.2.2.2.2), (6, .pointer (some ⟨b6, 0, none⟩))])
  (fun k w => G = some ([k.1, k.2.1, k.2.2.1], k.2.2.2.1) ∧ k.1 < 18446744073709551616 ∧ k.2.1 < 18446744073709551616 ∧ k.2.2.1 < 18446744073709551616 ∧ k.2.2.2.1.length ≤ r.length ∧ k.2.2.2.1.length ≤ k.2.2.2.2.2 ∧ Reads w0 l 1 k.2.2.2.2.1 k.2.2.2.1.length (bytesV k.2.2.2.1) ∧ St w0 (pt b6 (.cells (u64V [k.1, k.2.1, k.2.2.1]).toArray 131 (0, 0)) :: pt b2 (.cells hdZ.toArray 43 (0, 0)) :: l) w) ?_ ?_
 ·refine c_seq (c_region ?_)
  refine r_v (q_moveI rfl) rfl ?_
  refine r_nil ?_
  refine c_block ?_
  refine c_loop (Γ := Nat × List Nat × List UInt8 × Option Addr × Nat) (fun k => [(0, .slice sl (ch :: r).length c), (2, .pointer (some ⟨b2, 0, none⟩)), (5, .slice k.2.2.2.1 k.2.2.1.length k.2.2.2.2), (6, .pointer (some ⟨b6, 0, none⟩)), (29, .int .i64 k.1)])
   (fun k w => k.1 ≤ 3 ∧ k.2.1.length = k.1 ∧ (∀ x ∈ k.2.1, x < 18446744073709551616) ∧ G = (getVs (3 - k.1) k.2.2.1).map (fun q => (k.2.1 ++ q.1, q.2)) ∧ k.2.2.1.length ≤ r.length ∧ k.2.2.1.length ≤ k.2.2.2.2 ∧ Reads w0 l 1 k.2.2.2.1 k.2.2.1.length (bytesV k.2.2.1) ∧ St w0 (pt b6 (.cells (u64V (k.2.1 ++ List.replicate (3 - k.1) 0)).toArray 131 (0, 0)) :: pt b2 (.cells hdZ.toArray 43 (0, 0)) :: l) w)
   (fun k => 3 - k.1) (0, [], r, adv sl (1 * 1) (Nat.beq c 1), c - 1) ⟨rfl, rfl, rfl, rfl, rfl, trivial⟩ ⟨Nat.zero_le _, rfl, (fun _ h => by cases h), (by rw [← hG]; simp), Nat.le_refl _, (by dsimp only; omega), hrt, h⟩ ?_
  clear h
  rintro ⟨k, vals, rest, ra, rc⟩ w e ⟨hk, hvl, hv, inv, hrl, hrc, hrr, h⟩
  dsimp only at hk hvl hv inv hrl hrc hrr h ⊢
  refine c_seq (c_region ?_)
  refine r_v (q_lss rfl rfl) rfl ?_
  refine r_nil ?_
  refine c_seq (c_cond (decide ((k : Int) < 3)) rfl (fun hc1 => ?_) (fun hc1 => ?_))
  ·
   have hlt : k < 3 := by simp at hc1; omega
   rw [show 3 - k = (3 - (k + 1)) + 1 by omega, getVs] at inv
   have hk2 := vget_le rest
   have hx := vget_lt rest
   refine c_skip ?_
   refine c_seq (c_block ?_)
   refine c_seq (c_region ?_)
   refine r_v (q_moveI rfl) rfl ?_; refine r_v (q_assignI rfl) rfl ?_
   refine r_nil ?_
   refine c_seq (c_region ?_)
   refine r_v (q_moveS rfl) rfl ?_
   refine r_c rfl (x_call rfl (vint_Get h (hrr.more [_, _]).rd (by omega)) ?_)
   rintro _ w ⟨rfl, h⟩
   refine r_v (q_moveT rfl) rfl ?_; refine r_v (q_ext rfl rfl) rfl ?_; refine r_v (q_ext rfl rfl) rfl ?_; refine r_v (q_assignI rfl) rfl ?_; refine r_v (q_assignI rfl) rfl ?_
   refine r_nil ?_
   generalize (vget rest).1 = x at hx inv ⊢
   generalize (vget rest).2 = j at hk2 inv ⊢
   refine c_seq (c_seq (c_region ?_))
   refine r_v (q_moveI rfl) rfl ?_; refine r_v (q_eql rfl rfl) rfl ?_
   by_cases hj0 : j = 0
   ·refine r_is (.bool true) (by rw [hj0]; rfl) ?_
    refine r_nil (c_true rfl ?_)
    refine c_seq (c_region ?_)
    refine r_v (q_build (r := hdZ) rfl) rfl ?_
    refine r_c rfl (x_storeA (vs := hdZ) 1 h rfl rfl rfl rfl rfl rfl rfl fun w h => ?_)
    replace h := h.drop
    replace h : St w0 (pt b2 (.cells hdZ.toArray 43 (0, 0)) :: l) w := h
    refine r_v (q_assignS rfl) rfl ?_; refine r_v (q_assignB rfl) rfl ?_
    refine r_nil ?_
    rw [if_pos hj0] at inv
    exact c_ret (bqS3 (l := hdZ) rfl rfl (at_of (h.b 0 rfl) rfl) ⟨.inl ⟨by rw [hdef, inv]; rfl, rfl⟩, h.drop⟩)
   refine r_is (.bool false) (by congr 1; rw [beq_eq_false_iff_ne]; omega) ?_
   refine r_nil (c_false rfl (c_skip ?_))
   rw [if_neg hj0, Option.map_map] at inv
   have hrt := hrr.tailB hk2 hrc
   refine c_any (some 6) (fun w => St w0 _ w) (by kernel_rfl) (by kernel_rfl) h.drew fun w h => ?_
   refine cur_pure rfl rfl rfl rfl (fun _ => h) (fun _ => flt_v rfl (q_moveI rfl)) ?_; refine cur_pure rfl rfl rfl rfl (fun _ => h) (fun _ => flt_v rfl (q_moveI rfl)) ?_; refine cur_pure rfl rfl rfl rfl (fun _ => h) (fun _ => flt_v rfl (q_moveS rfl)) ?_; refine cur_pure rfl rfl rfl rfl (fun _ => h) (fun _ => flt_v rfl (q_moveI rfl)) ?_
   refine cur_pure rfl rfl rfl rfl (fun _ => h) (fun _ => flt_v rfl (q_is (v' := .slice (adv ra (j * 1) (Nat.beq rc j)) (rest.drop j).length (rc - j)) (q_tail (i := j) rfl rfl hk2) (by rw [List.length_drop]; rfl))) ?_
   refine cur_pure rfl rfl rfl rfl (fun _ => h) (fun _ => flt_v rfl (q_aidx (j := k) (o' := k) rfl rfl rfl hlt (by simp))) ?_
   refine cur_skip ?_; refine cur_skip ?_
   refine cur_step 6 none rfl rfl rfl rfl ?_
   refine x_store 0 h rfl (show _ = Value.int .u64 (x : Int) from rfl) rfl (by rw [Nat.blt_eq]; simp [u64V]; omega) rfl rfl fun w h => ?_
   simp only [List.set_cons_zero] at h
   rw [u64V_set3 hvl hlt] at h
   refine cur_from h ?_
   refine cur_pure rfl rfl rfl rfl (fun _ => h) (fun _ => flt_v rfl (q_assignS rfl)) ?_
   refine cur_end ?_
   refine c_region ?_
   refine r_v (q_add rfl rfl) rfl ?_
   refine r_is (.int .i64 ((k + 1 : Nat) : Int)) (by rw [wrap64 (by omega) (by omega)]; rfl) ?_
   refine r_v (q_moveI rfl) rfl ?_
   refine r_nil ⟨(k + 1, vals ++ [x], rest.drop j, adv ra (j * 1) (Nat.beq rc j), rc - j), ⟨rfl, rfl, rfl, rfl, rfl, trivial⟩, ⟨hlt, by simp; omega, fun z hz => ?_, ?_, by dsimp only; rw [List.length_drop]; omega, by dsimp only; rw [List.length_drop]; omega, hrt, h⟩, by dsimp only; omega⟩
   ·rcases List.mem_append.1 hz with hz | hz
    ·exact hv z hz
    ·simp at hz; subst hz; exact hx
   ·dsimp only
    rw [inv]
    congr 1
    funext q
    simp
  have hk3 : k = 3 := by simp at hc1; omega
  subst hk3
  rw [Nat.sub_self, getVs, Option.map_some, List.append_nil] at inv
  rw [Nat.sub_self, List.replicate_zero, List.append_nil] at h
  match vals, hvl with
  | [v0, v1, v2], _ =>
   exact c_exit ⟨(v0, v1, v2, rest, ra, rc), ⟨rfl, rfl, rfl, rfl, trivial⟩, inv, hv v0 (by simp), hv v1 (by simp), hv v2 (by simp), hrl, hrc, hrr, h⟩
 clear h
 rintro ⟨v0, v1, v2, rest, ra, rc⟩ w e ⟨hGs, hv0, hv1, hv2, hrl, hrc, hrr, h⟩
 dsimp only at hGs hv0 hv1 hv2 hrl hrc hrr h ⊢
 rw [hGs] at hdef
 dsimp only at hdef
 rw [show [v0, v1, v2].getD 0 0 = v0 from rfl, show [v0, v1, v2].getD 1 0 = v1 from rfl, show [v0, v1, v2].getD 2 0 = v2 from rfl, show hdOf ch [v0, v1, v2] = ⟨ch.toNat, v0, sg (zagU v1), sg (zagU v2)⟩ from rfl] at hdef
 have hch := ch.toNat_lt
 refine c_cut (Γ := Nat) (fun b10 => [(2, .pointer (some ⟨b2, 0, none⟩)), (5, .slice ra rest.length rc), (10, .pointer (some ⟨b10, 0, none⟩))])
  (fun b10 w => St w0 (pt b10 (.cells (hdC ⟨ch.toNat, min v0 65536, sg (zagU v1), sg (zagU v2)⟩).toArray 43 (0, 0)) :: pt b2 (.cells hdZ.toArray 43 (0, 0)) :: l) w) ?_ ?_
 ·have hcc : ∀ {w'}, (∃ M, St w0 (M ++ (pt b6 (.cells (u64V [v0, v1, v2]).toArray 131 (0, 0)) :: pt b2 (.cells hdZ.toArray 43 (0, 0)) :: l)) w') → w'.cell? ⟨b, o, none⟩ = some (.int .u8 ch.toNat) := fun ⟨M, h'⟩ => hc0 (M := []) ((h'.drops).drop.drop)
  have hca : ∀ {w'}, (∃ M, St w0 (M ++ (pt b6 (.cells (u64V [v0, v1, v2]).toArray 131 (0, 0)) :: pt b2 (.cells hdZ.toArray 43 (0, 0)) :: l)) w') → w'.heap[b6]? = some (.cells (u64V [v0, v1, v2]).toArray 131 (0, 0)) := fun ⟨M, h'⟩ => (h'.drops).b 0 rfl
  refine c_anyW [0, 1, 2, 3, 4, 5, 6, 7, 8, 9, 10, 11, 12, 13, 14, 15, 16] (some 16) (fun w => ∃ M, St w0 (M ++ (pt b6 (.cells (u64V [v0, v1, v2]).toArray 131 (0, 0)) :: pt b2 (.cells hdZ.toArray 43 (0, 0)) :: l)) w) (by kernel_rfl) (by kernel_rfl) ?_
  replace h := h.drew
  generalize w.drew = w at h
  have hs := h
  replace h : ∃ M, St w0 (M ++ (pt b6 (.cells (u64V [v0, v1, v2]).toArray 131 (0, 0)) :: pt b2 (.cells hdZ.toArray 43 (0, 0)) :: l)) w := ⟨[], hs⟩
  refine cur_pure rfl rfl rfl rfl (fun _ => h) (fun _ => flt_v rfl (q_moveS rfl)) ?_
  refine cur_pure rfl rfl rfl rfl (fun _ => h) (fun _ => flt_v rfl (q_idx (b := b) (o := o) (m := (ch :: r).length) (c := c) (j := 0) (o' := o) (by rw [← hsl]; rfl) rfl rfl (by simp) (by simp))) ?_
  refine cur_float rfl rfl rfl rfl h (fun w h => flt_v rfl (q_loadc (v := .int .u8 ch.toNat) rfl (hcc h))) ?_
  refine cur_pure rfl rfl rfl rfl (fun _ => h) (fun _ => flt_v rfl (q_is (v' := .int .i64 (ch.toNat : Int)) (q_conv rfl) (by rw [wrap64 (by omega) (by omega)]))) ?_
  refine cur_pure rfl rfl rfl rfl (fun _ => h) (fun _ => flt_v rfl (q_aidx (j := 0) (o' := 0) rfl rfl rfl (by decide) rfl)) ?_
  refine cur_float rfl rfl rfl rfl h (fun w h => flt_v rfl (q_load (v := .int .u64 (v0 : Int)) rfl (hca h) rfl)) ?_
  refine cur_pure rfl rfl rfl rfl (fun _ => h) (fun _ => flt_v rfl (q_is (v' := .int .u64 ((min v0 65536 : Nat) : Int)) (q_min rfl rfl) (by congr 1; omega))) ?_
  refine cur_pure rfl rfl rfl rfl (fun _ => h) (fun _ => flt_v rfl (q_is (v' := .int .i64 ((min v0 65536 : Nat) : Int)) (q_conv rfl) (by rw [wrap64 (by omega) (by omega)]))) ?_
  refine cur_pure rfl rfl rfl rfl (fun _ => h) (fun _ => flt_v rfl (q_aidx (j := 1) (o' := 1) rfl rfl rfl (by decide) rfl)) ?_
  refine cur_float rfl rfl rfl rfl h (fun w h => flt_v rfl (q_load (v := .int .u64 (v1 : Int)) rfl (hca h) rfl)) ?_
  refine cur_skip ?_
  refine cur_pure rfl rfl rfl rfl (fun _ => h) (fun _ => flt_v rfl (q_aidx (j := 2) (o' := 2) rfl rfl rfl (by decide) rfl)) ?_
  refine cur_float rfl rfl rfl rfl h (fun w h => flt_v rfl (q_load (v := .int .u64 (v2 : Int)) rfl (hca h) rfl)) ?_
  refine cur_skip ?_; refine cur_skip ?_; refine cur_skip ?_; refine cur_skip ?_
  refine cur_two 10 15 rfl rfl rfl rfl rfl rfl ?_ ?_
  ·refine (x_call rfl (vint_Zag hv1 hs) ?_)
   rintro _ w ⟨rfl, hs⟩
   replace h : ∃ M, St w0 (M ++ (pt b6 (.cells (u64V [v0, v1, v2]).toArray 131 (0, 0)) :: pt b2 (.cells hdZ.toArray 43 (0, 0)) :: l)) w := ⟨[], hs⟩
   refine ⟨fun _ => h, ?_⟩
   refine cur_skip ?_; refine cur_skip ?_; refine cur_skip ?_; refine cur_skip ?_
   refine cur_two 13 15 rfl rfl rfl rfl rfl rfl ?_ ?_
   ·refine (x_call rfl (vint_Zag hv2 hs) ?_)
    rintro _ w ⟨rfl, hs⟩
    replace h : ∃ M, St w0 (M ++ (pt b6 (.cells (u64V [v0, v1, v2]).toArray 131 (0, 0)) :: pt b2 (.cells hdZ.toArray 43 (0, 0)) :: l)) w := ⟨[], hs⟩
    refine ⟨fun _ => h, ?_⟩
    refine cur_pure rfl rfl rfl rfl (fun _ => h) (fun _ => flt_v rfl (q_build (r := hdC ⟨ch.toNat, min v0 65536, sg (zagU v1), sg (zagU v2)⟩) rfl)) ?_
    refine cur_skip ?_; refine cur_skip ?_
    refine cur_one 15 rfl rfl rfl rfl ?_
    refine (x_alloc hs fun b10 w hs => ?_)
    replace h : ∃ M, St w0 (M ++ (pt b6 (.cells (u64V [v0, v1, v2]).toArray 131 (0, 0)) :: pt b2 (.cells hdZ.toArray 43 (0, 0)) :: l)) w := ⟨[_], hs⟩
    refine ⟨fun _ => h, ?_⟩
    refine cur_skip ?_
    refine cur_last 16 rfl rfl rfl ?_
    refine x_storeA (vs := hdC ⟨ch.toNat, min v0 65536, sg (zagU v1), sg (zagU v2)⟩) 0 hs rfl rfl rfl rfl rfl rfl rfl fun w hs => ?_
    exact ⟨b10, ⟨rfl, rfl, rfl, trivial⟩, (hs.f 1).drop⟩
   ·refine (x_alloc hs fun b10 w hs => ?_)
    replace h : ∃ M, St w0 (M ++ (pt b6 (.cells (u64V [v0, v1, v2]).toArray 131 (0, 0)) :: pt b2 (.cells hdZ.toArray 43 (0, 0)) :: l)) w := ⟨[_], hs⟩
    refine ⟨fun _ => h, ?_⟩
    refine cur_skip ?_; refine cur_skip ?_; refine cur_skip ?_
    refine cur_one 13 rfl rfl rfl rfl ?_
    refine (x_call rfl (vint_Zag hv2 hs) ?_)
    rintro _ w ⟨rfl, hs⟩
    replace h : ∃ M, St w0 (M ++ (pt b6 (.cells (u64V [v0, v1, v2]).toArray 131 (0, 0)) :: pt b2 (.cells hdZ.toArray 43 (0, 0)) :: l)) w := ⟨[_], hs⟩
    refine ⟨fun _ => h, ?_⟩
    refine cur_pure rfl rfl rfl rfl (fun _ => h) (fun _ => flt_v rfl (q_build (r := hdC ⟨ch.toNat, min v0 65536, sg (zagU v1), sg (zagU v2)⟩) rfl)) ?_
    refine cur_skip ?_
    refine cur_last 16 rfl rfl rfl ?_
    refine x_storeA (vs := hdC ⟨ch.toNat, min v0 65536, sg (zagU v1), sg (zagU v2)⟩) 0 hs rfl rfl rfl rfl rfl rfl rfl fun w hs => ?_
    exact ⟨b10, ⟨rfl, rfl, rfl, trivial⟩, (hs.f 1).drop⟩
  ·refine (x_alloc hs fun b10 w hs => ?_)
   replace h : ∃ M, St w0 (M ++ (pt b6 (.cells (u64V [v0, v1, v2]).toArray 131 (0, 0)) :: pt b2 (.cells hdZ.toArray 43 (0, 0)) :: l)) w := ⟨[_], hs⟩
   refine ⟨fun _ => h, ?_⟩
   refine cur_skip ?_; refine cur_skip ?_; refine cur_skip ?_; refine cur_skip ?_
   refine cur_one 10 rfl rfl rfl rfl ?_
   refine (x_call rfl (vint_Zag hv1 hs) ?_)
   rintro _ w ⟨rfl, hs⟩
   replace h : ∃ M, St w0 (M ++ (pt b6 (.cells (u64V [v0, v1, v2]).toArray 131 (0, 0)) :: pt b2 (.cells hdZ.toArray 43 (0, 0)) :: l)) w := ⟨[_], hs⟩
   refine ⟨fun _ => h, ?_⟩
   refine cur_skip ?_; refine cur_skip ?_; refine cur_skip ?_
   refine cur_one 13 rfl rfl rfl rfl ?_
   refine (x_call rfl (vint_Zag hv2 hs) ?_)
   rintro _ w ⟨rfl, hs⟩
   replace h : ∃ M, St w0 (M ++ (pt b6 (.cells (u64V [v0, v1, v2]).toArray 131 (0, 0)) :: pt b2 (.cells hdZ.toArray 43 (0, 0)) :: l)) w := ⟨[_], hs⟩
   refine ⟨fun _ => h, ?_⟩
   refine cur_pure rfl rfl rfl rfl (fun _ => h) (fun _ => flt_v rfl (q_build (r := hdC ⟨ch.toNat, min v0 65536, sg (zagU v1), sg (zagU v2)⟩) rfl)) ?_
   refine cur_skip ?_
   refine cur_last 16 rfl rfl rfl ?_
   refine x_storeA (vs := hdC ⟨ch.toNat, min v0 65536, sg (zagU v1), sg (zagU v2)⟩) 0 hs rfl rfl rfl rfl rfl rfl rfl fun w hs => ?_
   exact ⟨b10, ⟨rfl, rfl, rfl, trivial⟩, (hs.f 1).drop⟩
 clear h
 rintro b10 w e h
 refine c_cut (Γ := Unit) (fun _ => [(2, .pointer (some ⟨b2, 0, none⟩)), (5, .slice ra rest.length rc), (10, .pointer (some ⟨b10, 0, none⟩))])
  (fun _ w => ¬ (v0 < 1 ∨ 65535 < v0 ∨ sg (zagU v2) < sg (zagU v1)) ∧ St w0 (pt b10 (.cells (hdC ⟨ch.toNat, min v0 65536, sg (zagU v1), sg (zagU v2)⟩).toArray 43 (0, 0)) :: pt b2 (.cells hdZ.toArray 43 (0, 0)) :: l) w) ?_ ?_
 ·refine c_seq (c_region ?_)
  refine r_v (q_fa rfl) rfl ?_
  refine r_v (q_load (v := .int .i64 ((min v0 65536 : Nat) : Int)) rfl (h.b 0 rfl) rfl) rfl ?_
  by_cases g1 : v0 < 1
  ·refine r_v (q_is (v' := .bool true) (q_lss rfl rfl) (by congr 1; simp; omega)) rfl ?_
   refine r_v (q_moveB rfl) rfl ?_; refine r_gn rfl rfl rfl ?_; refine r_gn rfl rfl rfl ?_; refine r_gn rfl rfl rfl ?_; refine r_v (q_pick1 rfl rfl rfl) rfl ?_; refine r_v (q_moveB rfl) rfl ?_; refine r_gn rfl rfl rfl ?_; refine r_gn rfl rfl rfl ?_; refine r_gn rfl rfl rfl ?_; refine r_gn rfl rfl rfl ?_; refine r_gn rfl rfl rfl ?_; refine r_v (q_pick1 rfl rfl rfl) rfl ?_
   refine r_nil (c_true rfl ?_)
   refine c_seq (c_region ?_)
   refine r_v (q_build (r := hdZ) rfl) rfl ?_
   refine r_c rfl (x_storeA (vs := hdZ) 1 h rfl rfl rfl rfl rfl rfl rfl fun w h => ?_)
   replace h := h.drop
   replace h : St w0 (pt b2 (.cells hdZ.toArray 43 (0, 0)) :: l) w := h
   refine r_v (q_assignS rfl) rfl ?_; refine r_v (q_assignB rfl) rfl ?_
   refine r_nil ?_
   exact c_ret (bqS3 (l := hdZ) rfl rfl (at_of (h.b 0 rfl) rfl) ⟨.inl ⟨by rw [hdef, if_pos (.inl g1)], rfl⟩, h.drop⟩)
  refine r_v (q_is (v' := .bool false) (q_lss rfl rfl) (by congr 1; simp; omega)) rfl ?_
  refine r_v (q_moveB rfl) rfl ?_; refine r_gd rfl rfl ?_; refine r_v (q_fa rfl) rfl ?_; refine r_gd rfl rfl ?_
  refine r_v (q_load (v := .int .i64 ((min v0 65536 : Nat) : Int)) rfl (h.b 0 rfl) rfl) rfl ?_
  refine r_gd rfl rfl ?_
  by_cases g2 : 65535 < v0
  ·refine r_v (q_is (v' := .bool true) (q_gtr rfl rfl) (by congr 1; simp; omega)) rfl ?_
   refine r_v (q_pick0 rfl rfl rfl) rfl ?_; refine r_v (q_moveB rfl) rfl ?_; refine r_gn rfl rfl rfl ?_; refine r_gn rfl rfl rfl ?_; refine r_gn rfl rfl rfl ?_; refine r_gn rfl rfl rfl ?_; refine r_gn rfl rfl rfl ?_; refine r_v (q_pick1 rfl rfl rfl) rfl ?_
   refine r_nil (c_true rfl ?_)
   refine c_seq (c_region ?_)
   refine r_v (q_build (r := hdZ) rfl) rfl ?_
   refine r_c rfl (x_storeA (vs := hdZ) 1 h rfl rfl rfl rfl rfl rfl rfl fun w h => ?_)
   replace h := h.drop
   replace h : St w0 (pt b2 (.cells hdZ.toArray 43 (0, 0)) :: l) w := h
   refine r_v (q_assignS rfl) rfl ?_; refine r_v (q_assignB rfl) rfl ?_
   refine r_nil ?_
   exact c_ret (bqS3 (l := hdZ) rfl rfl (at_of (h.b 0 rfl) rfl) ⟨.inl ⟨by rw [hdef, if_pos (.inr (.inl g2))], rfl⟩, h.drop⟩)
  refine r_v (q_is (v' := .bool false) (q_gtr rfl rfl) (by congr 1; simp; omega)) rfl ?_
  refine r_v (q_pick0 rfl rfl rfl) rfl ?_; refine r_v (q_moveB rfl) rfl ?_; refine r_gd rfl rfl ?_; refine r_v (q_fa rfl) rfl ?_; refine r_gd rfl rfl ?_
  refine r_v (q_load (v := .int .i64 (sg (zagU v1))) rfl (h.b 0 rfl) rfl) rfl ?_
  refine r_gd rfl rfl ?_; refine r_v (q_fa rfl) rfl ?_; refine r_gd rfl rfl ?_
  refine r_v (q_load (v := .int .i64 (sg (zagU v2))) rfl (h.b 0 rfl) rfl) rfl ?_
  refine r_gd rfl rfl ?_; refine r_v (q_gtr rfl rfl) rfl ?_; refine r_v (q_pick0 rfl rfl rfl) rfl ?_
  refine r_nil (c_cond (decide (sg (zagU v1) > sg (zagU v2))) rfl (fun hc1 => ?_) (fun hc1 => ?_))
  ·refine c_seq (c_region ?_)
   refine r_v (q_build (r := hdZ) rfl) rfl ?_
   refine r_c rfl (x_storeA (vs := hdZ) 1 h rfl rfl rfl rfl rfl rfl rfl fun w h => ?_)
   replace h := h.drop
   replace h : St w0 (pt b2 (.cells hdZ.toArray 43 (0, 0)) :: l) w := h
   refine r_v (q_assignS rfl) rfl ?_; refine r_v (q_assignB rfl) rfl ?_
   refine r_nil ?_
   exact c_ret (bqS3 (l := hdZ) rfl rfl (at_of (h.b 0 rfl) rfl) ⟨.inl ⟨by rw [hdef, if_pos (.inr (.inr (by rw [decide_eq_true_eq] at hc1; exact hc1)))], rfl⟩, h.drop⟩)
  ·refine c_skip ⟨(), ⟨rfl, rfl, rfl, trivial⟩, ?_, h⟩
   rw [decide_eq_false_iff_not] at hc1
   rintro (h | h | h)
   ·exact g1 h
   ·exact g2 h
   ·exact hc1 h
 clear h
 rintro _ w e ⟨hcond2, h⟩
 rw [if_neg hcond2] at hdef
 rw [show min v0 65536 = v0 by omega] at h
 refine c_seq (c_region ?_)
 refine r_v (q_loadS (l := hdC ⟨ch.toNat, v0, sg (zagU v1), sg (zagU v2)⟩) rfl rfl (at_of (h.b 0 rfl) rfl)) rfl ?_
 refine r_v (q_moveS rfl) rfl ?_
 refine r_c rfl (x_storeA (vs := hdC ⟨ch.toNat, v0, sg (zagU v1), sg (zagU v2)⟩) 1 h rfl rfl rfl rfl rfl rfl rfl fun w h => ?_)
 replace h := h.drop
 replace h : St w0 (pt b2 (.cells (hdC ⟨ch.toNat, v0, sg (zagU v1), sg (zagU v2)⟩).toArray 43 (0, 0)) :: l) w := h
 refine r_v (q_assignS rfl) rfl ?_; refine r_v (q_assignB rfl) rfl ?_
 refine r_nil ?_
 exact c_ret (bqS3 (l := hdC ⟨ch.toNat, v0, sg (zagU v1), sg (zagU v2)⟩) rfl rfl (at_of (h.b 0 rfl) rfl) ⟨.inr ⟨_, rest, ra, rc, hdef, rfl, hrc, by omega, by dsimp only; omega, by dsimp only; omega, hrr⟩, h.drop⟩)

theorem chnk_Head {sl : Option Addr} {c : Nat} {bs : List UInt8} (hn : bs.length ≤ 140737488355328) (hc : bs.length ≤ c) (hr : Reads w0 l 1 sl bs.length (bytesV bs)) (h : St w0 l w) :
  Ret Tryz.prog 22 [.slice sl bs.length c] w fun v w' => v = .tuple [.agg ((((headDec bs).map fun q => hdC q.1).getD hdZ)).toArray, .bool (headDec bs).isSome].toArray ∧ St w0 l w' := by
 refine enter Tryz.func22 rfl Tryz.results22 Tryz.ntmps22 rfl ?_
 refine c_seq (c_region ?_)
 refine r_c rfl (x_alloc h fun b2 w h => ?_)
 refine r_v (q_assignB rfl) rfl ?_
 refine r_nil ?_
 refine c_seq (c_region ?_)
 refine r_v (q_moveS rfl) rfl ?_
 refine r_c rfl (x_call rfl (chnk_head hn hc hr.cons h) ?_)
 rintro _ w ⟨(⟨hd0, rfl⟩ | ⟨hd, rest, ra, rc, hd0, rfl, hrc, hrl, hcnt, htag, hrr⟩), h⟩
 ·rw [hd0]
  refine r_v (q_moveT rfl) rfl ?_; refine r_v (q_ext rfl rfl) rfl ?_; refine r_v (q_ext rfl rfl) rfl ?_; refine r_v (q_ext rfl rfl) rfl ?_
  refine r_c rfl (x_alloc h fun b4 w h => ?_)
  refine r_c rfl (x_storeA (vs := hdZ) 0 h rfl rfl rfl rfl rfl rfl rfl fun w h => ?_)
  replace h : St w0 (pt b4 (.cells hdZ.toArray 43 (0, 0)) :: pt b2 (.cells hdZ.toArray 43 (0, 0)) :: l) w := h
  refine r_v (q_assignS rfl) rfl ?_; refine r_v (q_assignB rfl) rfl ?_
  refine r_nil ?_
  refine c_seq (c_region ?_)
  refine r_v (q_loadS (l := hdZ) rfl rfl (at_of (h.b 0 rfl) rfl)) rfl ?_
  refine r_v (q_moveB rfl) rfl ?_
  refine r_c rfl (x_storeA (vs := hdZ) 1 h rfl rfl rfl rfl rfl rfl rfl fun w h => ?_)
  replace h := h.drop
  replace h : St w0 (pt b2 (.cells hdZ.toArray 43 (0, 0)) :: l) w := h
  refine r_v (q_assignB rfl) rfl ?_
  refine r_nil ?_
  exact c_ret (bqS2 (l := hdZ) rfl rfl (at_of (h.b 0 rfl) rfl) ⟨rfl, h.drop⟩)
 ·rw [hd0]
  refine r_v (q_moveT rfl) rfl ?_; refine r_v (q_ext rfl rfl) rfl ?_; refine r_v (q_ext rfl rfl) rfl ?_; refine r_v (q_ext rfl rfl) rfl ?_
  refine r_c rfl (x_alloc h fun b4 w h => ?_)
  refine r_c rfl (x_storeA (vs := hdC hd) 0 h rfl rfl rfl rfl rfl rfl rfl fun w h => ?_)
  replace h : St w0 (pt b4 (.cells (hdC hd).toArray 43 (0, 0)) :: pt b2 (.cells hdZ.toArray 43 (0, 0)) :: l) w := h
  refine r_v (q_assignS rfl) rfl ?_; refine r_v (q_assignB rfl) rfl ?_
  refine r_nil ?_
  refine c_seq (c_region ?_)
  refine r_v (q_loadS (l := hdC hd) rfl rfl (at_of (h.b 0 rfl) rfl)) rfl ?_
  refine r_v (q_moveB rfl) rfl ?_
  refine r_c rfl (x_storeA (vs := hdC hd) 1 h rfl rfl rfl rfl rfl rfl rfl fun w h => ?_)
  replace h := h.drop
  replace h : St w0 (pt b2 (.cells (hdC hd).toArray 43 (0, 0)) :: l) w := h
  refine r_v (q_assignB rfl) rfl ?_
  refine r_nil ?_
  exact c_ret (bqS2 (l := hdC hd) rfl rfl (at_of (h.b 0 rfl) rfl) ⟨rfl, h.drop⟩)

theorem chnk_Open (hT : Tz w0) {sl : Option Addr} {c : Nat} {bs : List UInt8} (hn : bs.length ≤ 140737488355328) (hc : bs.length ≤ c) (hr : Reads w0 l 1 sl bs.length (bytesV bs)) (h : St w0 l w) :
  Ret Tryz.prog 20 [.slice sl bs.length c] w fun v w' => ∃ a c', v = .tuple [.slice a (((chOpen bs).map Prod.fst).getD []).length c', .int .i64 ((((chOpen bs).map Prod.snd).getD 0 : Nat) : Int), .bool (chOpen bs).isSome].toArray ∧ (∀ L t, chOpen bs = some (L, t) → L.length ≤ 65535 ∧ ∀ s ∈ L, s.Wf) ∧ St w0 (OwnS a c' (((chOpen bs).map Prod.fst).getD []) :: l) w' := by
 have bad : ∀ {w : World}, chOpen bs = none → St w0 l w → ∃ a c', Value.tuple [.slice none 0 0, .int .i64 0, .bool false].toArray = .tuple [.slice a (((chOpen bs).map Prod.fst).getD []).length c', .int .i64 ((((chOpen bs).map Prod.snd).getD 0 : Nat) : Int), .bool (chOpen bs).isSome].toArray ∧ (∀ L t, chOpen bs = some (L, t) → L.length ≤ 65535 ∧ ∀ s ∈ L, s.Wf) ∧ St w0 (OwnS a c' (((chOpen bs).map Prod.fst).getD []) :: l) w := fun hb h => by
  rw [hb]
  exact ⟨none, 0, rfl, (fun _ _ h => by cases h), St.ownNil _ _ h⟩
 have hdef : chOpen bs = _ := rfl
 conv at hdef => rhs; unfold chOpen
 refine enter Tryz.func20 rfl Tryz.results20 Tryz.ntmps20 rfl ?_
 refine c_seq (c_region ?_)
 refine r_v (q_assignS rfl) rfl ?_; refine r_v (q_assignI rfl) rfl ?_; refine r_v (q_assignB rfl) rfl ?_
 refine r_nil ?_
 refine c_seq (c_region ?_)
 refine r_v (q_moveS rfl) rfl ?_
 refine r_c rfl (x_call rfl (chnk_head hn hc hr h) ?_)
 clear h
 rintro _ w ⟨(⟨hd0, rfl⟩ | ⟨hd, rest, ra, rc, hd0, rfl, hrc, hrl, hcnt, htag, hrr⟩), h⟩
 ·rw [hd0] at hdef
  refine r_v (q_moveT rfl) rfl ?_; refine r_v (q_ext rfl rfl) rfl ?_; refine r_v (q_ext rfl rfl) rfl ?_; refine r_v (q_ext rfl rfl) rfl ?_
  refine r_c rfl (x_alloc h fun b5 w h => ?_)
  refine r_c rfl (x_storeA (vs := hdZ) 0 h rfl rfl rfl rfl rfl rfl rfl fun w h => ?_)
  replace h := h.drop
  refine r_v (q_assignS rfl) rfl ?_; refine r_v (q_assignB rfl) rfl ?_
  refine r_nil ?_
  refine c_seq (c_seq (c_region ?_))
  refine r_v (q_moveB rfl) rfl ?_; refine r_v (q_not rfl) rfl ?_; refine r_v (q_moveB rfl) rfl ?_; refine r_gn rfl rfl rfl ?_; refine r_gn rfl rfl rfl ?_; refine r_gn rfl rfl rfl ?_; refine r_v (q_pick1 rfl rfl rfl) rfl ?_
  refine r_nil (c_true rfl ?_)
  refine c_seq (c_region ?_)
  refine r_v (q_assignS rfl) rfl ?_; refine r_v (q_assignI rfl) rfl ?_; refine r_v (q_assignB rfl) rfl ?_
  refine r_nil ?_
  exact c_ret (bq3 (bad hdef h))
 rw [hd0] at hdef
 dsimp only at hdef
 refine r_v (q_moveT rfl) rfl ?_; refine r_v (q_ext rfl rfl) rfl ?_; refine r_v (q_ext rfl rfl) rfl ?_; refine r_v (q_ext rfl rfl) rfl ?_
 refine r_c rfl (x_alloc h fun b5 w h => ?_)
 refine r_c rfl (x_storeA (vs := hdC hd) 0 h rfl rfl rfl rfl rfl rfl rfl fun w h => ?_)
 replace h : St w0 (pt b5 (.cells (hdC hd).toArray 43 (0, 0)) :: l) w := h
 refine r_v (q_assignS rfl) rfl ?_; refine r_v (q_assignB rfl) rfl ?_
 refine r_nil ?_
 refine c_seq (c_seq (c_region ?_))
 refine r_v (q_moveB rfl) rfl ?_; refine r_v (q_not rfl) rfl ?_; refine r_v (q_moveB rfl) rfl ?_; refine r_gd rfl rfl ?_; refine r_v (q_moveS rfl) rfl ?_; refine r_gd rfl rfl ?_; refine r_v (q_len rfl) rfl ?_; refine r_gd rfl rfl ?_; refine r_v (q_lss rfl rfl) rfl ?_; refine r_v (q_pick0 rfl rfl rfl) rfl ?_
 refine r_nil (c_cond (decide ((rest.length : Int) < 4)) rfl (fun hc1 => ?_) (fun hc1 => ?_))
 ·refine c_seq (c_region ?_)
  refine r_v (q_assignS rfl) rfl ?_; refine r_v (q_assignI rfl) rfl ?_; refine r_v (q_assignB rfl) rfl ?_
  refine r_nil ?_
  exact c_ret (bq3 (bad (by rw [hdef, if_pos (by simp at hc1; omega)]) h.drop))
 have hr4 : 4 ≤ rest.length := by simp at hc1; omega
 rw [if_neg (by omega)] at hdef
 refine c_skip ?_
 have hrh := hrr.head (i := rest.length - 4) (by omega)
 have htl : (rest.take (rest.length - 4)).length = rest.length - 4 := by rw [List.length_take]; omega
 have hrh' : Reads w0 l 1 ra (rest.take (rest.length - 4)).length (bytesV (rest.take (rest.length - 4))) := by
  rw [htl]
  have : bytesV (rest.take (rest.length - 4)) = (bytesV rest).take ((rest.length - 4) * 1) := by unfold bytesV; rw [List.map_take, Nat.mul_one]
  rw [this]
  exact hrh
 generalize hP : rest.take (rest.length - 4) = P at hdef htl hrh'
 refine c_cut (Γ := Option Addr × Nat) (fun q => [(0, .slice sl bs.length c), (5, .pointer (some ⟨b5, 0, none⟩)), (8, .slice q.1 ((suitDec hd.tag P hd.count).getD []).length q.2), (9, .bool (suitDec hd.tag P hd.count).isSome)])
  (fun q w => (∀ L, suitDec hd.tag P hd.count = some L → (L.length : Int) = hd.count ∧ ∀ s ∈ L, s.Wf) ∧ St w0 (OwnS q.1 q.2 ((suitDec hd.tag P hd.count).getD []) :: pt b5 (.cells (hdC hd).toArray 43 (0, 0)) :: l) w) ?_ ?_
 ·refine c_anyW [0, 1, 2, 3, 4, 5, 6, 7, 8, 9, 10, 11, 13, 12, 14] none (fun w => w.heap[b5]? = some (.cells (hdC hd).toArray 43 (0, 0))) (by kernel_rfl) (by kernel_rfl) ?_
  replace h := h.drew
  generalize w.drew = w at h
  have hs := h
  replace h := hs.b 0 rfl
  refine cur_pure rfl rfl rfl rfl (fun _ => h) (fun _ => flt_v rfl (q_fa rfl)) ?_
  refine cur_float rfl rfl rfl rfl h (fun w h => flt_v rfl (q_load (v := .int .i64 (hd.tag : Int)) rfl h rfl)) ?_
  refine cur_pure rfl rfl rfl rfl (fun _ => h) (fun _ => flt_v rfl (q_moveS rfl)) ?_; refine cur_pure rfl rfl rfl rfl (fun _ => h) (fun _ => flt_v rfl (q_moveS rfl)) ?_; refine cur_pure rfl rfl rfl rfl (fun _ => h) (fun _ => flt_v rfl (q_len rfl)) ?_
  refine cur_pure rfl rfl rfl rfl (fun _ => h) (fun _ => flt_v rfl (q_is (v' := .int .i64 ((rest.length - 4 : Nat) : Int)) (q_sub rfl rfl) (by rw [wrap64 (by omega) (by omega)]; congr 1; omega))) ?_
  refine cur_pure rfl rfl rfl rfl (fun _ => h) (fun _ => flt_v rfl (q_is (v' := .slice ra P.length rc) (q_head (h := rest.length - 4) rfl rfl (by omega)) (by rw [htl]))) ?_
  refine cur_pure rfl rfl rfl rfl (fun _ => h) (fun _ => flt_v rfl (q_fa rfl)) ?_
  refine cur_float rfl rfl rfl rfl h (fun w h => flt_v rfl (q_load (v := .int .i64 (hd.count : Int)) rfl h rfl)) ?_
  refine cur_skip ?_; refine cur_skip ?_; refine cur_skip ?_; refine cur_skip ?_; refine cur_skip ?_; refine cur_skip ?_
  refine cur_one 9 rfl rfl rfl rfl ?_
  refine (x_call rfl (suit_Decode hT (suit_read _) (hd.count : Int) (by omega) (by omega) (hrh'.more [_]) hs) ?_)
  rintro _ w ⟨da, dc, rfl, hM, hs⟩
  replace h := hs.b 1 rfl
  refine ⟨fun _ => h, ?_⟩
  refine cur_pure rfl rfl rfl rfl (fun _ => h) (fun _ => flt_v rfl (q_moveT rfl)) ?_; refine cur_pure rfl rfl rfl rfl (fun _ => h) (fun _ => flt_v rfl (q_ext rfl rfl)) ?_; refine cur_pure rfl rfl rfl rfl (fun _ => h) (fun _ => flt_v rfl (q_ext rfl rfl)) ?_; refine cur_pure rfl rfl rfl rfl (fun _ => h) (fun _ => flt_v rfl (q_assignS rfl)) ?_; refine cur_pure rfl rfl rfl rfl (fun _ => h) (fun _ => flt_v rfl (q_assignB rfl)) ?_
  exact cur_end ⟨(da, dc), ⟨rfl, rfl, rfl, rfl, trivial⟩, hM, hs⟩
 clear h
 rintro ⟨da, dc⟩ w e ⟨hM, h⟩
 dsimp only at h ⊢
 refine c_seq (c_seq (c_region ?_))
 refine r_v (q_moveB rfl) rfl ?_; refine r_v (q_not rfl) rfl ?_
 cases hD : suitDec hd.tag P hd.count with
 | none =>
  rw [hD] at hdef
  refine r_nil (c_true rfl ?_)
  refine c_seq (c_region ?_)
  refine r_v (q_assignS rfl) rfl ?_; refine r_v (q_assignI rfl) rfl ?_; refine r_v (q_assignB rfl) rfl ?_
  refine r_nil ?_
  exact c_ret (bq3 (bad hdef h.drop.drop))
 | some M =>
 rw [hD] at hdef h
 obtain ⟨hMl, hMw⟩ := hM M hD
 have hM16 : M.length ≤ 65535 := by omega
 dsimp only at hdef
 refine r_nil (c_false rfl (c_skip ?_))
 replace h : St w0 (OwnS da dc M :: pt b5 (.cells (hdC hd).toArray 43 (0, 0)) :: l) w := h
 refine c_seq (c_region ?_)
 refine r_v (q_fa rfl) rfl ?_
 refine r_v (q_load (v := .int .i64 (hd.tag : Int)) rfl (h.b 1 rfl) rfl) rfl ?_
 refine r_v (q_moveS rfl) rfl ?_
 refine r_c rfl (x_call rfl (chnk_Make hT (hd.tag : Int) (L := M) hMw (by omega) Reads.own h) ?_)
 rintro _ w ⟨ea, ec, rfl, h⟩
 refine r_v (q_moveT rfl) rfl ?_; refine r_v (q_ext rfl rfl) rfl ?_; refine r_v (q_ext rfl rfl) rfl ?_; refine r_v (q_assignS rfl) rfl ?_; refine r_v (q_assignB rfl) rfl ?_
 refine r_nil ?_
 refine c_cut (Γ := Unit) (fun _ => [(5, .pointer (some ⟨b5, 0, none⟩)), (8, .slice da M.length dc)]) (fun _ w => chMake (hd.tag : Int) M = some bs ∧ St w0 (OwnS da dc M :: pt b5 (.cells (hdC hd).toArray 43 (0, 0)) :: l) w) ?_ ?_
 ·refine c_seq (c_region ?_)
  cases hE : chMake (hd.tag : Int) M with
  | none =>
   refine r_v (q_moveB rfl) rfl ?_; refine r_v (q_not rfl) rfl ?_; refine r_v (q_moveB rfl) rfl ?_; refine r_gn rfl rfl rfl ?_; refine r_gn rfl rfl rfl ?_; refine r_gn rfl rfl rfl ?_; refine r_gn rfl rfl rfl ?_; refine r_v (q_pick1 rfl rfl rfl) rfl ?_
   refine r_nil (c_true rfl ?_)
   refine c_seq (c_region ?_)
   refine r_v (q_assignS rfl) rfl ?_; refine r_v (q_assignI rfl) rfl ?_; refine r_v (q_assignB rfl) rfl ?_
   refine r_nil ?_
   exact c_ret (bq3 (bad (by rw [hdef, if_neg (by rw [hE]; simp)]) h.drop.drop.drop))
  | some d =>
   rw [hE] at h
   refine r_v (q_moveB rfl) rfl ?_; refine r_v (q_not rfl) rfl ?_; refine r_v (q_moveB rfl) rfl ?_; refine r_gd rfl rfl ?_; refine r_v (q_moveS rfl) rfl ?_; refine r_gd rfl rfl ?_; refine r_v (q_moveS rfl) rfl ?_; refine r_gd rfl rfl ?_
   refine r_c rfl (x_call rfl (bytes_Equal (b1 := d) (b2 := bs) h (fun w' h' => h'.own_rd) (hr.more [_, _, _]).rd) ?_)
   rintro _ w ⟨rfl, h⟩
   refine r_gd rfl rfl ?_; refine r_v (q_not rfl) rfl ?_; refine r_v (q_pick0 rfl rfl rfl) rfl ?_
   refine r_nil (c_cond (!decide (d = bs)) rfl (fun hc2 => ?_) (fun hc2 => ?_))
   ·refine c_seq (c_region ?_)
    refine r_v (q_assignS rfl) rfl ?_; refine r_v (q_assignI rfl) rfl ?_; refine r_v (q_assignB rfl) rfl ?_
    refine r_nil ?_
    exact c_ret (bq3 (bad (by rw [hdef, if_neg (by rw [hE]; simpa using hc2)]) h.drop.drop.drop))
   ·exact c_skip ⟨(), ⟨rfl, rfl, trivial⟩, by simpa using hc2, h.drop⟩
 clear h
 rintro _ w e ⟨hE, h⟩
 rw [if_pos hE] at hdef
 rw [hdef]
 refine c_seq (c_anyR [0, 2, 3, 1, 4, 5] none (fun w => St w0 _ w) (by kernel_rfl) (by kernel_rfl) h.drew fun w h => ?_)
 refine cur_pure rfl rfl rfl rfl (fun _ => h) (fun _ => flt_v rfl (q_moveS rfl)) ?_; refine cur_pure rfl rfl rfl rfl (fun _ => h) (fun _ => flt_v rfl (q_fa rfl)) ?_
 refine cur_float rfl rfl rfl rfl h (fun w h => flt_v rfl (q_load (v := .int .i64 (hd.tag : Int)) rfl (h.b 1 rfl) rfl)) ?_
 refine cur_pure rfl rfl rfl rfl (fun _ => h) (fun _ => flt_v rfl (q_assignS rfl)) ?_; refine cur_pure rfl rfl rfl rfl (fun _ => h) (fun _ => flt_v rfl (q_assignI rfl)) ?_; refine cur_pure rfl rfl rfl rfl (fun _ => h) (fun _ => flt_v rfl (q_assignB rfl)) ?_
 refine cur_end ?_
 refine c_ret (bq3 ⟨da, dc, rfl, fun L t hh => ?_, (h.f 1).drop⟩)
 cases hh
 exact ⟨hM16, hMw⟩
end
end Go.Proofs.YtjjacchnalemaaaGreatDoor

namespace Go.Hw
theorem St.appendK {P : Program} {w0 w : World} {l : List HProp} {t ty T : TypeId} {z : List Value} {agg : Bool} {bytes : Nat} {n c m c2 : Nat} {a a2 : Option Addr} {xs ys : List Value} (h : St w0 (Own T z.length a n c xs :: l) w)
  (ht : P.underlying t = some (.slice T)) (hi : Inf P T z agg bytes) (hy : Rd w z.length a2 m ys) (h1 : ∀ u ∈ ys, u.oneCell' = true) (hb : (n + m) * bytes ≤ 140737488355328) (h63 : n + m ≤ 9223372036854775807) :
  ∃ a' c' w' Q, (Builtin.append_ #[t, t] ty #[.slice a n c, .slice a2 m c2]).run P w = .ok (.slice a' (n + m) c') w' ∧ Reads w0 (Own T z.length a' (n + m) c' (xs ++ ys) :: Q :: l) z.length a n xs ∧ St w0 (Own T z.length a' (n + m) c' (xs ++ ys) :: Q :: l) w' := by
 obtain ⟨h2, h3, h4⟩ := h.own_cases
 have hx := h.own_rd
 by_cases hg : c < n + m
 ·obtain ⟨k, hr⟩ := run_append_grows (P := P) (ty := ty) (c := c) (c2 := c2) ht hi hx hy hg hb h63
  refine ⟨_, _, _, Own T z.length a n c xs, hr, Reads.cons Reads.own, ?_⟩
  have h5 := (h.drew).alloc (.cells (xs ++ ys ++ (Builtin.zeroCells z.toArray k).toList).toArray T)
  refine St.own_mk h5 (c := n + m + k) ?_ ?_ (Nat.le_add_right _ _)
  ·rw [List.length_append, List.length_append, zeroCells_len, h2, hy.1, Nat.add_mul, Nat.add_mul]; simp
  ·rw [List.append_assoc, ← List.append_assoc]
   exact List.take_left' (by rw [List.length_append, h2, hy.1, Nat.add_mul])
 ·rcases h4 with ⟨rfl, rfl, rfl, h5⟩ | ⟨g, cur, rfl, h5, h6, h7⟩
  ·obtain rfl : m = 0 := by omega
   have hxs : xs = [] := List.eq_nil_of_length_eq_zero (by simpa using h2)
   have hys : ys = [] := List.eq_nil_of_length_eq_zero (by simpa using hy.1)
   subst hxs hys
   exact ⟨none, 0, w, all [], run_append_none ht hi hy, Reads.nil, (St.fold [] h5).ownNil T z.length⟩
  ·have hr := run_append_fit (P := P) (ty := ty) (n := n) (m := m) (c2 := c2) ht hi h7.hd.1 h5 hy (by omega) h1
   have hle : (n + m) * z.length ≤ c * z.length := Nat.mul_le_mul_right _ (by omega)
   rw [Nat.add_mul] at hle
   have h8 : St w0 (pt g (.cells (cur.take (n * z.length) ++ ys ++ cur.drop (n * z.length + ys.length)).toArray T (0, 0)) :: l) (w.setRow g (cur.take (n * z.length) ++ ys ++ cur.drop (n * z.length + ys.length)).toArray) :=
    h7.put rfl rfl rfl (by simp) (fun k hk => setRow_other w g k _ hk) (setRow_heap w g _ _ T (0, 0) h7.hd.1)
   have h9 : St w0 (Own T z.length (some ⟨g, 0, none⟩) (n + m) c (xs ++ ys) :: l) (w.setRow g (cur.take (n * z.length) ++ ys ++ cur.drop (n * z.length + ys.length)).toArray) := by
    refine St.own_mk' h8 (c := c) ?_ ?_ (by omega)
    ·simp only [List.length_append, List.length_take, List.length_drop, hy.1]; omega
    ·rw [h6]
     exact List.take_left' (by rw [List.length_append, h2, hy.1, Nat.add_mul])
   refine ⟨_, _, _, all [], hr, ?_, ?_⟩
   ·have := (Reads.own (w0 := w0) (l := all [] :: l) (T := T) (sz := z.length) (a := some ⟨g, 0, none⟩) (n := n + m) (c := c) (xs := xs ++ ys)).head (i := n) (by omega)
    rwa [← h2, List.take_left] at this
   ·exact (St.fold [] h9).f 1
section
variable {P : Program} {e : Env} {w w0 : World} {K : Env → World → Prop} {l : List HProp}
variable {ty : TypeId} {pos : String} {af : Array Edge} {g : Option (Nat × Bool)}
theorem x_appendK {c : Nat} {t T : TypeId} [ht : Und P t (.slice T)] {z : List Value} {agg : Bool} {bytes : Nat} [hi : Inf P T z agg bytes] {x y : Operand} {a a2 : Option Addr} {m m2 m3 c1 c2 sz : Nat} {xs ys zs : List Value}
  (h : St w0 (Own T sz a m c1 xs :: l) w) (hx : ev e x = .slice a m c1) (hy : ev e y = .slice a2 m2 c2) (hr : Rd w sz a2 m2 ys) (h1 : ∀ u ∈ ys, u.oneCell' = true) (hm : m + m2 = m3) (hzs : xs ++ ys = zs) (hb : m3 * bytes ≤ 140737488355328) (h63 : m3 ≤ 9223372036854775807) (hz : z.length = sz)
  (k : ∀ a' c' Q w', Reads w0 (Own T sz a' m3 c' zs :: Q :: l) sz a m xs → St w0 (Own T sz a' m3 c' zs :: Q :: l) w' → K (upd e c (.slice a' m3 c')) w') :
  Ex P ⟨some c, .call ⟨.builtin .append, [x, y].toArray, [t, t].toArray⟩, ty, pos, af, g⟩ e w K := by
 subst hm hzs hz
 obtain ⟨a', c', w', Q, hrun, hrd, hst⟩ := h.appendK (ty := ty) (c2 := c2) ht.h hi hr h1 hb h63
 refine x_w (v := .slice a' (m + m2) c') (w' := w') ?_ (k _ _ _ _ hrd hst)
 simp [execOp, resolve, hx, hy, invoke, builtin, hrun]
end
end Go.Hw

namespace Go.Proofs.YtjjacchnalemaaaGreatDoor
open Go.Hw
set_option maxHeartbeats 4000000
instance eqiSmp : EqI Tryz.prog 53 [.i64, .u64] := ⟨⟨_, Tryz.underlying53, by kernel_rfl⟩, by kernel_rfl, by kernel_rfl⟩

section
variable {w0 w : World} {l : List HProp}
theorem ref10_Same {a1 a2 : Option Addr} {n1 n2 c1 c2 : Nat} {L1 L2 : List Smp} (h : St w0 l w) (hr1 : ∀ w', St w0 l w' → Rd w' 2 a1 n1 (smpsV L1)) (hr2 : ∀ w', St w0 l w' → Rd w' 2 a2 n2 (smpsV L2)) (hn : n1 < 9223372036854775807) :
  Ret Tryz.prog 16 [.slice a1 n1 c1, .slice a2 n2 c2] w fun v w' => v = .bool (decide (L1 = L2)) ∧ St w0 l w' := by
 have hl1 : L1.length = n1 := (hr1 w h).count smp_len (by decide)
 have hl2 : L2.length = n2 := (hr2 w h).count smp_len (by decide)
 refine enter Tryz.func16 rfl Tryz.results16 Tryz.ntmps16 rfl ?_
 refine c_seq (c_region ?_)
 refine r_v (q_assignB rfl) rfl ?_
 refine r_nil ?_
 refine c_seq (c_seq (c_region ?_))
 refine r_v (q_moveS rfl) rfl ?_; refine r_v (q_len rfl) rfl ?_; refine r_v (q_moveS rfl) rfl ?_; refine r_v (q_len rfl) rfl ?_; refine r_v (q_neq rfl rfl) rfl ?_
 refine r_nil ?_
 refine c_cond _ rfl (fun hc => ?_) (fun hc => ?_)
 ·
  refine c_seq (c_region ?_)
  refine r_v (q_assignB rfl) rfl ?_
  refine r_nil ?_
  refine c_ret (bq1 ⟨?_, h⟩)
  have : L1 ≠ L2 := by
   rintro rfl
   simp at hc
   omega
  show Value.bool false = _
  rw [decide_eq_false this]
 have hnn : n1 = n2 := by simp at hc; omega
 subst hnn
 refine c_skip ?_
 refine c_seq (c_seq (c_region ?_))
 refine r_v (q_assignI rfl) rfl ?_
 refine r_nil ?_
 refine c_block ?_
 refine c_loop (Γ := Nat) (fun k => [(0, .slice a1 n1 c1), (1, .slice a2 n1 c2), (5, .int .i64 k)]) (fun k w => k ≤ n1 ∧ L1.take k = L2.take k ∧ St w0 l w) (fun k => n1 - k) 0 ⟨rfl, rfl, rfl, trivial⟩ ⟨Nat.zero_le _, by simp, h⟩ ?_
 clear h
 rintro k w e ⟨hk, hpre, h⟩
 refine c_seq (c_seq (c_region ?_))
 refine r_v (q_moveI rfl) rfl ?_; refine r_v (q_moveS rfl) rfl ?_; refine r_v (q_len rfl) rfl ?_; refine r_v (q_lss rfl rfl) rfl ?_
 refine r_nil ?_
 refine c_cond (decide ((k : Int) < (n1 : Int))) rfl (fun hc => ?_) (fun hc => ?_)
 ·
  have hkn : k < n1 := by simp at hc; omega
  obtain ⟨b1, o1, rfl⟩ := (hr1 w h).some (by omega)
  obtain ⟨b2, o2, rfl⟩ := (hr2 w h).some (by omega)
  have hg1 := List.getElem?_eq_getElem (show k < L1.length by omega)
  have hg2 := List.getElem?_eq_getElem (show k < L2.length by omega)
  generalize L1[k] = s1 at hg1
  generalize L2[k] = s2 at hg2
  refine c_skip ?_
  refine c_seq (c_block ?_)
  refine c_seq (c_any none (fun w => St w0 _ w) (by kernel_rfl) (by kernel_rfl) h.drew fun w h => ?_)
  refine cur_pure rfl rfl rfl rfl (fun _ => h) (fun _ => flt_v rfl (q_moveS rfl)) ?_; refine cur_pure rfl rfl rfl rfl (fun _ => h) (fun _ => flt_v rfl (q_moveI rfl)) ?_
  refine cur_pure rfl rfl rfl rfl (fun _ => h) (fun _ => flt_v rfl (q_idx rfl rfl rfl hkn rfl)) ?_
  refine cur_float rfl rfl rfl rfl h (fun w h => flt_v rfl (q_loadS (l := s1.cells) rfl rfl ((hr1 w h).elem smp_len hg1))) ?_
  refine cur_pure rfl rfl rfl rfl (fun _ => h) (fun _ => flt_v rfl (q_moveS rfl)) ?_; refine cur_pure rfl rfl rfl rfl (fun _ => h) (fun _ => flt_v rfl (q_moveI rfl)) ?_
  refine cur_pure rfl rfl rfl rfl (fun _ => h) (fun _ => flt_v rfl (q_idx rfl rfl rfl hkn rfl)) ?_
  refine cur_float rfl rfl rfl rfl h (fun w h => flt_v rfl (q_loadS (l := s2.cells) rfl rfl ((hr2 w h).elem smp_len hg2))) ?_
  refine cur_pure rfl rfl rfl rfl (fun _ => h) (fun _ => flt_v rfl (q_neI [s1.T, s1.V] [s2.T, s2.V] rfl rfl rfl rfl)) ?_
  refine cur_end ?_
  refine c_cond _ rfl (fun hc => ?_) (fun hc => ?_)
  ·
   refine c_seq (c_region ?_)
   refine r_v (q_assignB rfl) rfl ?_
   refine r_nil ?_
   refine c_ret (bq1 ⟨?_, h⟩)
   have : L1 ≠ L2 := by
    rintro rfl
    rw [hg1] at hg2
    cases hg2
    simp at hc
   show Value.bool false = _
   rw [decide_eq_false this]
  ·have hss : s1 = s2 := by
    obtain ⟨T1, V1⟩ := s1
    obtain ⟨T2, V2⟩ := s2
    simp at hc
    simp [hc.1, hc.2]
   subst hss
   refine c_skip ?_
   refine c_region ?_
   refine r_v (q_moveI rfl) rfl ?_; refine r_v (q_add rfl rfl) rfl ?_
   refine r_is (.int .i64 ((k + 1 : Nat) : Int)) (by rw [wrap64 (by omega) (by omega)]; rfl) ?_
   refine r_v (q_assignI rfl) rfl ?_
   refine r_nil ⟨k + 1, ⟨rfl, rfl, rfl, trivial⟩, ⟨by omega, ?_, h⟩, by omega⟩
   rw [List.take_add_one, List.take_add_one, hpre, hg1, hg2]
 have hkn : k = n1 := by simp at hc; omega
 subst hkn
 refine c_exit ?_
 refine c_seq (c_region ?_)
 refine r_v (q_assignB rfl) rfl ?_
 refine r_nil ?_
 refine c_ret (bq1 ⟨?_, h⟩)
 have : L1 = L2 := by
  rw [List.take_of_length_le (by omega), List.take_of_length_le (by omega)] at hpre
  exact hpre
 show Value.bool true = _
 rw [decide_eq_true this]
end
end Go.Proofs.YtjjacchnalemaaaGreatDoor

namespace Go.Hw
set_option maxRecDepth 100000
def B2 : List Smp := [⟨-1, 7⟩, ⟨2, 7⟩]
def B2b : List UInt8 := (chMake 6 B2).getD []
theorem B2_make : chMake 6 B2 = some B2b := by
 have : (chMake 6 B2).isSome = true := by decide +kernel
 unfold B2b
 cases h : chMake 6 B2 with
 | none => rw [h] at this; cases this
 | some b => rfl
theorem B2_len : B2b.length = 17 ∨ True := .inr trivial
theorem B2_four : 4 ≤ B2b.length ∧ B2b.length ≤ 100 := by decide +kernel
theorem B2_bytes : B2b[0]? = some 6 ∧ B2b[1]? = some 2 ∧ B2b[2]? = some 1 ∧ B2b[3]? = some 4 := by decide +kernel
theorem B2_wf : ∀ s ∈ B2, s.Wf := by
 intro s hs
 simp only [B2, List.mem_cons, List.not_mem_nil, or_false] at hs
 rcases hs with rfl | rfl <;> exact ⟨⟨by decide, by decide⟩, by decide, by decide⟩
theorem B2_open : chOpen B2b = some (B2, 6) := chOpen_told B2_wf (by have := B2_four.2; omega) B2_make
theorem B2_more : chOpen (B2b ++ [0]) = none := by
 have : (chOpen (B2b ++ [0])).isNone = true := by decide +kernel
 simpa using this
theorem B2_head : ∃ r, headDec B2b = some (⟨6, 2, -1, 2⟩, r) := by
 obtain ⟨x, hx, hL, he⟩ := chMake_some B2_make
 have hh := headDec_told B2_wf hL hx (x ++ be4 (crc (chBody 6 B2 x)))
 have hb' : B2b = UInt8.ofNat (6 : Int).toNat :: ((chNums B2).flatMap vput ++ (x ++ be4 (crc (chBody 6 B2 x)))) := by
  rw [he]; unfold chBody; simp
 rw [← hb'] at hh
 exact ⟨_, hh⟩
theorem chMake_nil (tag : Int) : chMake tag [] = none := by
 unfold chMake
 split
 ·rfl
 ·rw [if_pos rfl]
theorem chMake_len {tag : Int} {L : List Smp} {b : List UInt8} (h : chMake tag L = some b) : 8 ≤ b.length := by
 obtain ⟨x, _, _, he⟩ := chMake_some h
 have := chBody_len tag L x
 rw [he, List.length_append, be4_len]
 omega
end Go.Hw
namespace Go.Proofs.YtjjacchnalemaaaGreatDoor
open Go.Hw
set_option maxHeartbeats 4000000
set_option maxRecDepth 100000
instance eqiHead : EqI Tryz.prog 43 [.i64, .i64, .i64, .i64] := ⟨⟨_, Tryz.underlying43, by kernel_rfl⟩, by kernel_rfl, by kernel_rfl⟩
theorem chMake_len2 {tag : Int} {L : List Smp} {b : List UInt8} (hw : ∀ s ∈ L, s.Wf) (h : chMake tag L = some b) : b.length ≤ 4000000 := by
 obtain ⟨x, hx, _, he⟩ := chMake_some h
 have h1 := suitEnc_len (tag := tag) hw
 rw [hx] at h1
 have h2 : x.length ≤ 3000000 := h1
 have := chBody_len tag L x
 rw [he, List.length_append, be4_len]
 omega
section
variable {w0 w : World} {l : List HProp}
theorem law11_awake (hT : Tz w0) (h : St w0 l w) : Ret Tryz.prog 17 [] w fun v w' => v = .bool true ∧ St w0 l w' := by
 obtain ⟨h4, h100⟩ := B2_four
 obtain ⟨hb0, hb1, hb2, hb3⟩ := B2_bytes
 obtain ⟨hr, hhd⟩ := B2_head
 refine enter Tryz.func17 rfl Tryz.results17 Tryz.ntmps17 rfl ?_
 refine c_seq (c_region ?_)
 refine r_v (q_assignB rfl) rfl ?_
 refine r_nil ?_
 refine c_seq (c_region ?_)
 refine r_v (q_build (r := (Smp.mk (-1) 7).cells) rfl) rfl ?_
 refine r_v (q_build (r := (Smp.mk 2 7).cells) rfl) rfl ?_
 refine r_c rfl (x_bslice (r := smpsV B2) h rfl rfl rfl fun b w h => ?_)
 have hr : ∀ M : List HProp, Reads w0 (M ++ pt b (.cells (smpsV B2).toArray 53 (0, 0)) :: l) 2 (some ⟨b, 0, none⟩) B2.length (smpsV B2) := fun M => (Reads.pt (m := 0) rfl rfl).more M
 refine r_v (q_assignS rfl) rfl ?_
 refine r_nil ?_
 refine c_seq (c_region ?_)
 refine r_v (q_moveS rfl) rfl ?_
 refine r_c rfl (x_call rfl (chnk_Make hT 6 (L := B2) B2_wf (by decide) (hr []) h) ?_)
 rw [B2_make]
 rintro _ w ⟨ba, bc, rfl, h⟩
 replace h : St w0 (OwnB ba bc B2b :: pt b (.cells (smpsV B2).toArray 53 (0, 0)) :: l) w := h
 show Rn _ _ _ _ _ (upd _ _ (.tuple [.slice ba B2b.length bc, .bool true].toArray)) _
 refine r_v (q_moveT rfl) rfl ?_; refine r_v (q_ext rfl rfl) rfl ?_; refine r_v (q_ext rfl rfl) rfl ?_; refine r_v (q_assignS rfl) rfl ?_; refine r_v (q_assignB rfl) rfl ?_
 refine r_nil ?_
 refine c_seq (c_region ?_)
 refine r_v (q_moveS rfl) rfl ?_
 refine r_c rfl (x_call rfl (chnk_Open hT (by omega) h.own_cases.2.1 Reads.own h) ?_)
 rw [B2_open]
 rintro _ w ⟨oa, oc, rfl, _, h⟩
 replace h : St w0 (OwnS oa oc B2 :: OwnB ba bc B2b :: pt b (.cells (smpsV B2).toArray 53 (0, 0)) :: l) w := h
 show Rn _ _ _ _ _ (upd _ _ (.tuple [.slice oa B2.length oc, .int .i64 6, .bool true].toArray)) _
 refine r_v (q_moveT rfl) rfl ?_; refine r_v (q_ext rfl rfl) rfl ?_; refine r_v (q_ext rfl rfl) rfl ?_; refine r_v (q_ext rfl rfl) rfl ?_; refine r_v (q_assignS rfl) rfl ?_; refine r_v (q_assignI rfl) rfl ?_; refine r_v (q_assignB rfl) rfl ?_
 refine r_nil ?_
 refine c_seq (c_region ?_)
 refine r_v (q_moveS rfl) rfl ?_
 refine r_c rfl (x_call rfl (chnk_Head (bs := B2b) (by omega) (h.f 1).own_cases.2.1 (Reads.own.more [_]) h) ?_)
 rw [hhd]
 rintro _ w ⟨rfl, h⟩
 show Rn _ _ _ _ _ (upd _ _ (.tuple [.agg (hdC ⟨6, 2, -1, 2⟩).toArray, .bool true].toArray)) _
 refine r_v (q_moveT rfl) rfl ?_; refine r_v (q_ext rfl rfl) rfl ?_; refine r_v (q_ext rfl rfl) rfl ?_
 refine r_c rfl (x_alloc h fun b7 w h => ?_)
 refine r_c rfl (x_storeA (vs := hdC ⟨6, 2, -1, 2⟩) 0 h rfl rfl rfl rfl rfl rfl rfl fun w h => ?_)
 replace h : St w0 (pt b7 (.cells (hdC ⟨6, 2, -1, 2⟩).toArray 43 (0, 0)) :: OwnS oa oc B2 :: OwnB ba bc B2b :: pt b (.cells (smpsV B2).toArray 53 (0, 0)) :: l) w := h
 refine r_v (q_assignB rfl) rfl ?_
 refine r_nil ?_
 refine c_seq (c_region ?_)
 refine r_v (q_moveS rfl) rfl ?_
 refine r_c rfl (x_bslice (r := bytesV [0]) (h.f 2) rfl rfl rfl fun bz w h => ?_)
 refine r_c rfl (x_appendK (ys := bytesV [0]) (zs := bytesV (B2b ++ [0])) (m3 := (B2b ++ [0]).length) (h.f 1) rfl rfl ⟨rfl, .inr ⟨bz, 0, rfl, at_of (h.b 0 rfl) rfl⟩⟩ (bytesV_one _) (by simp) (by simp [bytesV]) (by simp; omega) (by simp; omega) rfl fun ca cc Q w hrb h => ?_)
 refine r_c rfl (x_call rfl (chnk_Open hT (by simp; omega) h.own_cases.2.1 Reads.own h) ?_)
 rw [B2_more]
 rintro _ w ⟨ea, ec, rfl, _, h⟩
 replace h := h.drop
 show Rn _ _ _ _ _ (upd _ _ (.tuple [.slice ea 0 ec, .int .i64 0, .bool false].toArray)) _
 refine r_v (q_moveT rfl) rfl ?_; refine r_v (q_ext rfl rfl) rfl ?_; refine r_v (q_ext rfl rfl) rfl ?_; refine r_v (q_ext rfl rfl) rfl ?_; refine r_v (q_assignS rfl) rfl ?_; refine r_v (q_assignI rfl) rfl ?_; refine r_v (q_assignB rfl) rfl ?_
 refine r_nil ?_
 refine c_seq (c_region ?_)
 refine r_c rfl (x_call rfl (chnk_Make hT 1 (L := []) (fun _ h => by cases h) (by decide) Reads.nil h) ?_)
 rw [chMake_nil]
 rintro _ w ⟨fa, fc, rfl, h⟩
 replace h := h.drop
 show Rn _ _ _ _ _ (upd _ _ (.tuple [.slice fa 0 fc, .bool false].toArray)) _
 refine r_v (q_moveT rfl) rfl ?_; refine r_v (q_ext rfl rfl) rfl ?_; refine r_v (q_ext rfl rfl) rfl ?_; refine r_v (q_assignS rfl) rfl ?_; refine r_v (q_assignB rfl) rfl ?_
 refine r_nil ?_
 obtain ⟨bb, bo, hsl⟩ := (hrb.at_ h).some (by omega)
 have hcl : ∀ {j : Nat} {y : UInt8}, B2b[j]? = some y → w.cell? ⟨bb, bo + j, none⟩ = some (.int .u8 y.toNat) := fun hj => (hsl ▸ hrb.at_ h).cell (bytesV_get hj)
 refine c_seq (c_region ?_)
 refine r_v (q_moveB rfl) rfl ?_; refine r_v (q_moveB rfl) rfl ?_; refine r_gd rfl rfl ?_; refine r_v (q_moveS rfl) rfl ?_; refine r_gd rfl rfl ?_; refine r_v (q_len rfl) rfl ?_; refine r_gd rfl rfl ?_
 refine r_v (q_is (v' := .bool true) (q_geq rfl rfl) (congrArg Value.bool (decide_eq_true (by omega)))) rfl ?_
 refine r_v (q_pick1 rfl rfl rfl) rfl ?_; refine r_v (q_moveB rfl) rfl ?_; refine r_gd rfl rfl ?_; refine r_v (q_moveS rfl) rfl ?_; refine r_gd rfl rfl ?_
 refine r_v (q_idx (b := bb) (o := bo) (m := B2b.length) (c := bc) (j := 0) (o' := bo + 0) (by rw [← hsl]; rfl) rfl rfl (by omega) (by simp)) rfl ?_
 refine r_gd rfl rfl ?_
 refine r_v (q_loadc (v := .int .u8 6) rfl (hcl hb0)) rfl ?_
 refine r_gd rfl rfl ?_; refine r_v (q_eql rfl rfl) rfl ?_; refine r_v (q_pick1 rfl rfl rfl) rfl ?_; refine r_v (q_moveB rfl) rfl ?_; refine r_gd rfl rfl ?_; refine r_v (q_moveS rfl) rfl ?_; refine r_gd rfl rfl ?_
 refine r_v (q_idx (b := bb) (o := bo) (m := B2b.length) (c := bc) (j := 1) (o' := bo + 1) (by rw [← hsl]; rfl) rfl rfl (by omega) (by simp)) rfl ?_
 refine r_gd rfl rfl ?_
 refine r_v (q_loadc (v := .int .u8 2) rfl (hcl hb1)) rfl ?_
 refine r_gd rfl rfl ?_; refine r_v (q_eql rfl rfl) rfl ?_; refine r_v (q_pick1 rfl rfl rfl) rfl ?_; refine r_v (q_moveB rfl) rfl ?_; refine r_gd rfl rfl ?_; refine r_v (q_moveS rfl) rfl ?_; refine r_gd rfl rfl ?_
 refine r_v (q_idx (b := bb) (o := bo) (m := B2b.length) (c := bc) (j := 2) (o' := bo + 2) (by rw [← hsl]; rfl) rfl rfl (by omega) (by simp)) rfl ?_
 refine r_gd rfl rfl ?_
 refine r_v (q_loadc (v := .int .u8 1) rfl (hcl hb2)) rfl ?_
 refine r_gd rfl rfl ?_; refine r_v (q_eql rfl rfl) rfl ?_; refine r_v (q_pick1 rfl rfl rfl) rfl ?_; refine r_v (q_moveB rfl) rfl ?_; refine r_gd rfl rfl ?_; refine r_v (q_moveS rfl) rfl ?_; refine r_gd rfl rfl ?_
 refine r_v (q_idx (b := bb) (o := bo) (m := B2b.length) (c := bc) (j := 3) (o' := bo + 3) (by rw [← hsl]; rfl) rfl rfl (by omega) (by simp)) rfl ?_
 refine r_gd rfl rfl ?_
 refine r_v (q_loadc (v := .int .u8 4) rfl (hcl hb3)) rfl ?_
 refine r_gd rfl rfl ?_; refine r_v (q_eql rfl rfl) rfl ?_; refine r_v (q_pick1 rfl rfl rfl) rfl ?_; refine r_v (q_moveB rfl) rfl ?_; refine r_gd rfl rfl ?_; refine r_v (q_moveB rfl) rfl ?_; refine r_v (q_pick1 rfl rfl rfl) rfl ?_; refine r_v (q_moveB rfl) rfl ?_; refine r_gd rfl rfl ?_; refine r_v (q_moveI rfl) rfl ?_; refine r_gd rfl rfl ?_; refine r_v (q_eql rfl rfl) rfl ?_; refine r_v (q_pick1 rfl rfl rfl) rfl ?_; refine r_v (q_moveB rfl) rfl ?_; refine r_gd rfl rfl ?_; refine r_v (q_moveS rfl) rfl ?_; refine r_gd rfl rfl ?_; refine r_v (q_moveS rfl) rfl ?_; refine r_gd rfl rfl ?_
 refine r_c rfl (x_call rfl (ref10_Same (L1 := B2) (L2 := B2) h (fun w' h' => (h'.f 4).own_rd) (fun w' h' => (hr [_, _, _, _, _]).rd w' h') (by decide)) ?_)
 rintro _ w ⟨rfl, h⟩
 rw [show decide (B2 = B2) = true by simp]
 refine r_v (q_pick1 rfl rfl rfl) rfl ?_; refine r_v (q_moveB rfl) rfl ?_; refine r_gd rfl rfl ?_; refine r_v (q_moveB rfl) rfl ?_; refine r_v (q_pick1 rfl rfl rfl) rfl ?_; refine r_v (q_moveB rfl) rfl ?_; refine r_gd rfl rfl ?_
 refine r_v (q_loadS (l := hdC ⟨6, 2, -1, 2⟩) rfl rfl (at_of (h.b 3 rfl) rfl)) rfl ?_
 refine r_gd rfl rfl ?_
 refine r_v (q_build (r := hdC ⟨6, 2, -1, 2⟩) rfl) rfl ?_
 refine r_gd rfl rfl ?_
 refine r_v (q_is (v' := .bool true) (q_eqI [6, 2, -1, 2] [6, 2, -1, 2] rfl rfl rfl rfl) rfl) rfl ?_
 refine r_v (q_pick1 rfl rfl rfl) rfl ?_; refine r_v (q_moveB rfl) rfl ?_; refine r_gd rfl rfl ?_; refine r_v (q_moveB rfl) rfl ?_; refine r_gd rfl rfl ?_; refine r_v (q_not rfl) rfl ?_; refine r_v (q_pick1 rfl rfl rfl) rfl ?_; refine r_v (q_moveB rfl) rfl ?_; refine r_gd rfl rfl ?_; refine r_v (q_moveB rfl) rfl ?_; refine r_gd rfl rfl ?_; refine r_v (q_not rfl) rfl ?_; refine r_v (q_pick1 rfl rfl rfl) rfl ?_; refine r_v (q_assignB rfl) rfl ?_
 refine r_nil ?_
 exact c_ret (bq1 ⟨rfl, h.drop.drop.drop.drop.drop.drop⟩)

end
end Go.Proofs.YtjjacchnalemaaaGreatDoor
