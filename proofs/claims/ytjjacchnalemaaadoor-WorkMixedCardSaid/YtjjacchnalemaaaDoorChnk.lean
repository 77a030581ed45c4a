/- chnk: chunks. -/
import Derived.Test.YtjjacchnalemaaaDoorCrc
import Derived.Test.YtjjacchnalemaaaDoorDecs
namespace Go.Hw
section
variable {P : Program} {e : Env} {w : World} {φ : Value → World → Prop}
theorem bqS3 {a c d : Tmp} {t : TypeId} {z : List Value} {bytes : Nat} [hi : Inf P t z true bytes] {b o : Nat} {l : List Value} (hx : e a = .pointer (some ⟨b, o, none⟩)) (hz : Nat.beq z.length l.length = true) (hl : At w b o l) (h : φ (.tuple [.agg l.toArray, e c, e d].toArray) w) :
    bq P [.cell a t, .tmp c, .tmp d] φ .ret e w := ⟨_, run_loadVarS hx (Nat.eq_of_beq_eq_true hz) hl, h⟩
end
def hdC (h : Hd) : List Value := [.int .i64 h.tag, .int .i64 h.count, .int .i64 h.f, .int .i64 h.t]
def hdZ : List Value := [.int .i64 0, .int .i64 0, .int .i64 0, .int .i64 0]
theorem u64V_set3 {vals : List Nat} {k : Nat} (hk : vals.length = k) (h3 : k < 3) (x : Nat) : (u64V (vals ++ List.replicate (3 - k) 0)).set k (.int .u64 (x : Int)) = u64V ((vals ++ [x]) ++ List.replicate (3 - (k + 1)) 0) := by
  have e : 3 - k = (3 - (k + 1)) + 1 := by omega
  have hl : (u64V vals).length = k := by simp [u64V, hk]
  have e1 : u64V (vals ++ List.replicate (3 - k) 0) = u64V vals ++ (.int .u64 (0 : Nat)) :: u64V (List.replicate (3 - (k + 1)) 0) := by
    unfold u64V
    rw [e, List.replicate_succ, List.map_append, List.map_cons]
  have e2 : u64V ((vals ++ [x]) ++ List.replicate (3 - (k + 1)) 0) = u64V vals ++ (.int .u64 (x : Int)) :: u64V (List.replicate (3 - (k + 1)) 0) := by
    unfold u64V
    rw [List.map_append, List.map_append, List.append_assoc]
    rfl
  rw [e1, e2, List.set_append_right _ _ (by omega), hl, Nat.sub_self]
  rfl
theorem zagT_wf {u : Nat} (h : u < 18446744073709551616) : I64 (sg (zagU u)) := sg_wf (zagU_lt h)
end Go.Hw
namespace Go.Proofs.YtjjacchnalemaaaDoor
open Go.Hw
set_option maxHeartbeats 4000000
set_option maxRecDepth 100000
instance und3 : Und Tryd.prog 122 (.array 3 22) := ⟨Tryd.underlying122⟩
section
variable {w0 w : World} {l : List HProp}
theorem chnk_Make (hT : Tz w0) (tag : Int) {sl : Option Addr} {c : Nat} {L : List Smp} (hw : ∀ s ∈ L, s.Wf) (hn : L.length ≤ 1073741824) (hr : Reads w0 l 2 sl L.length (smpsV L)) (h : St w0 l w) :
    Ret Tryd.prog 20 [.int .i64 tag, .slice sl L.length c] w fun v w' => ∃ a c', v = .tuple [.slice a ((chMake tag L).getD []).length c', .bool (chMake tag L).isSome].toArray ∧ St w0 (OwnB a c' ((chMake tag L).getD []) :: l) w' := by
  have hlen := suitEnc_len (tag := tag) hw
  refine enter Tryd.func20 rfl Tryd.results20 Tryd.ntmps20 rfl ?_
  refine c_seq (c_region ?_)
  refine r_v (q_assignS rfl) rfl ?_; refine r_v (q_assignB rfl) rfl ?_
  refine r_nil ?_
  refine c_seq (c_region ?_)
  refine r_v (q_moveI rfl) rfl ?_; refine r_v (q_moveS rfl) rfl ?_
  refine r_c rfl (x_call rfl (suit_Encode hT tag hw hn hr h) ?_)
  cases hE : suitEnc tag L with
  | none =>
    have hM : chMake tag L = none := by unfold chMake; rw [hE]
    rw [hM]
    rintro _ w ⟨xa, xc, rfl, h⟩
    replace h := h.drop
    show Rn _ _ _ _ _ (upd _ _ (.tuple [.slice xa 0 xc, .bool false].toArray)) _
    refine r_v (q_moveT rfl) rfl ?_; refine r_v (q_ext rfl rfl) rfl ?_; refine r_v (q_ext rfl rfl) rfl ?_; refine r_v (q_assignS rfl) rfl ?_; refine r_v (q_assignB rfl) rfl ?_
    refine r_nil ?_
    refine c_seq (c_seq (c_region ?_))
    refine r_v (q_moveB rfl) rfl ?_; refine r_v (q_not rfl) rfl ?_; refine r_v (q_moveB rfl) rfl ?_; (first | refine r_gd rfl rfl ?_ | refine r_gn rfl rfl rfl ?_ | refine r_gu rfl rfl ?_ | refine r_gd rfl (by assumption) ?_ | refine r_gn rfl (by assumption) rfl ?_); (first | refine r_gd rfl rfl ?_ | refine r_gn rfl rfl rfl ?_ | refine r_gu rfl rfl ?_ | refine r_gd rfl (by assumption) ?_ | refine r_gn rfl (by assumption) rfl ?_); (first | refine r_gd rfl rfl ?_ | refine r_gn rfl rfl rfl ?_ | refine r_gu rfl rfl ?_ | refine r_gd rfl (by assumption) ?_ | refine r_gn rfl (by assumption) rfl ?_); (first | refine r_v (q_pick1 rfl rfl rfl) rfl ?_ | refine r_v (q_pick0 rfl rfl rfl) rfl ?_ | refine r_v (q_pick1 rfl (by assumption) rfl) rfl ?_ | refine r_v (q_pick0 rfl (by assumption) rfl) rfl ?_ | refine r_v (q_pickB rfl rfl rfl) rfl ?_)
    refine r_nil (c_true rfl ?_)
    refine c_seq (c_region ?_)
    refine r_v (q_assignS rfl) rfl ?_; refine r_v (q_assignB rfl) rfl ?_
    refine r_nil ?_
    exact c_ret (bq2 ⟨none, 0, rfl, St.ownNil _ _ h⟩)
  | some x =>
  rw [hE] at hlen
  have hxl : x.length ≤ 3000000 := hlen
  obtain ⟨ht1, ht6⟩ := suitEnc_tag hE
  obtain ⟨_, hL16⟩ := suitEnc_rises hE
  rintro _ w ⟨xa, xc, rfl, h⟩
  replace h : St w0 (OwnB xa xc x :: l) w := h
  show Rn _ _ _ _ _ (upd _ _ (.tuple [.slice xa x.length xc, .bool true].toArray)) _
  refine r_v (q_moveT rfl) rfl ?_; refine r_v (q_ext rfl rfl) rfl ?_; refine r_v (q_ext rfl rfl) rfl ?_; refine r_v (q_assignS rfl) rfl ?_; refine r_v (q_assignB rfl) rfl ?_
  refine r_nil ?_
  refine c_seq (c_seq (c_region ?_))
  refine r_v (q_moveB rfl) rfl ?_; refine r_v (q_not rfl) rfl ?_; refine r_v (q_moveB rfl) rfl ?_; (first | refine r_gd rfl rfl ?_ | refine r_gn rfl rfl rfl ?_ | refine r_gu rfl rfl ?_ | refine r_gd rfl (by assumption) ?_ | refine r_gn rfl (by assumption) rfl ?_); refine r_v (q_moveS rfl) rfl ?_; (first | refine r_gd rfl rfl ?_ | refine r_gn rfl rfl rfl ?_ | refine r_gu rfl rfl ?_ | refine r_gd rfl (by assumption) ?_ | refine r_gn rfl (by assumption) rfl ?_); refine r_v (q_len rfl) rfl ?_; (first | refine r_gd rfl rfl ?_ | refine r_gn rfl rfl rfl ?_ | refine r_gu rfl rfl ?_ | refine r_gd rfl (by assumption) ?_ | refine r_gn rfl (by assumption) rfl ?_)
  by_cases hL0 : L.length = 0
  · have hLn : L = [] := List.eq_nil_of_length_eq_zero hL0
    have hM : chMake tag L = none := by unfold chMake; rw [hE]; dsimp only; rw [if_pos hLn]
    rw [hM]
    refine r_v (q_is (v' := .bool true) (q_eql rfl rfl) (by rw [hL0]; rfl)) rfl ?_
    (first | refine r_v (q_pick1 rfl rfl rfl) rfl ?_ | refine r_v (q_pick0 rfl rfl rfl) rfl ?_ | refine r_v (q_pick1 rfl (by assumption) rfl) rfl ?_ | refine r_v (q_pick0 rfl (by assumption) rfl) rfl ?_ | refine r_v (q_pickB rfl rfl rfl) rfl ?_)
    refine r_nil (c_true rfl ?_)
    refine c_seq (c_region ?_)
    refine r_v (q_assignS rfl) rfl ?_; refine r_v (q_assignB rfl) rfl ?_
    refine r_nil ?_
    exact c_ret (bq2 ⟨none, 0, rfl, St.ownNil _ _ h.drop⟩)
  have hLn : L ≠ [] := fun hh => hL0 (by rw [hh]; rfl)
  have hM : chMake tag L = some (chBody tag L x ++ be4 (crc (chBody tag L x))) := by unfold chMake; rw [hE]; dsimp only; rw [if_neg hLn]
  rw [hM]
  obtain ⟨w1, w2⟩ := ends_wf hw hLn
  refine r_v (q_is (v' := .bool false) (q_eql rfl rfl) (by congr 1; rw [beq_eq_false_iff_ne]; omega)) rfl ?_
  (first | refine r_v (q_pick1 rfl rfl rfl) rfl ?_ | refine r_v (q_pick0 rfl rfl rfl) rfl ?_ | refine r_v (q_pick1 rfl (by assumption) rfl) rfl ?_ | refine r_v (q_pick0 rfl (by assumption) rfl) rfl ?_ | refine r_v (q_pickB rfl rfl rfl) rfl ?_)
  refine r_nil (c_false rfl (c_skip ?_))
  refine c_seq (c_region ?_)
  refine r_v (q_moveI rfl) rfl ?_; refine r_v (q_conv rfl) rfl ?_
  refine r_is (.int .u8 ((UInt8.ofNat tag.toNat).toNat : Int)) (by rw [UInt8.toNat_ofNat', show tag = ((tag.toNat : Nat) : Int) by omega, wrap_u8]; simp) ?_
  refine r_c rfl (x_bslice (r := bytesV [UInt8.ofNat tag.toNat]) h rfl rfl rfl fun b2 w h => ?_)
  refine r_v (q_moveS rfl) rfl ?_; refine r_v (q_len rfl) rfl ?_; refine r_v (q_conv rfl) rfl ?_
  refine r_is (.int .u64 (L.length : Int)) (congrArg (Value.int .u64) (conv_nat (by omega))) ?_
  refine r_c rfl (x_call rfl (vint_Put (bs := [UInt8.ofNat tag.toNat]) L.length (by omega) h (fun w' h' => (Reads.pt (m := 0) rfl rfl).at_ h') (by simp)) ?_)
  rintro _ w ⟨a1, c1, rfl, h⟩
  replace h := (h.f 1).drop
  refine r_v (q_assignS rfl) rfl ?_
  refine r_nil ?_
  have hp1 := vput_len L.length
  have hp2 := vput_len (zigT (firstT L))
  have hp3 := vput_len (zigT (lastT L))
  refine c_cut (Γ := Option Addr × Nat) (fun q => [(0, .int .i64 tag), (1, .slice sl L.length c), (6, .slice xa x.length xc), (8, .slice q.1 (UInt8.ofNat tag.toNat :: (chNums L).flatMap vput).length q.2)]) (fun q w => St w0 (OwnB q.1 q.2 (UInt8.ofNat tag.toNat :: (chNums L).flatMap vput) :: OwnB xa xc x :: l) w) ?_ ?_
  · have hg0 : L[0]? = some (L[0]'(by omega)) := List.getElem?_eq_getElem _
    have hgl : L[L.length - 1]? = some (L[L.length - 1]'(by omega)) := List.getElem?_eq_getElem _
    have hf : firstT L = (L[0]'(by omega)).T := by unfold firstT; rw [List.head?_eq_getElem?, hg0]; rfl
    have ht : lastT L = (L[L.length - 1]'(by omega)).T := by unfold lastT; rw [List.getLast?_eq_getElem?, hgl]; rfl
    generalize L[0]'(by omega) = s0 at hg0 hf
    generalize L[L.length - 1]'(by omega) = s1 at hgl ht
    obtain ⟨b, o, hsl⟩ := ((hr.more [_, _]).at_ h).some (by omega)
    have hc0 : ∀ {w'}, (∃ M, St w0 (M ++ l) w') → w'.cell? ⟨b, o, none⟩ = some (.int .i64 s0.T) := fun ⟨M, h'⟩ => by
      have := (hsl ▸ hr M _ h').elem smp_len hg0 0 _ rfl; simpa using this
    have hc1 : ∀ {w'}, (∃ M, St w0 (M ++ l) w') → w'.cell? ⟨b, o + (L.length - 1) * 2 + 0, none⟩ = some (.int .i64 s1.T) := fun ⟨M, h'⟩ => (hsl ▸ hr M _ h').elem smp_len hgl 0 _ rfl
    refine c_anyW [0, 1, 2, 3, 4, 5, 6, 7, 8, 9, 10, 11, 12, 13, 14, 15, 16] none (fun w => ∃ M, St w0 (M ++ l) w) (by kernel_rfl) (by kernel_rfl) ?_
    replace h := h.drew
    generalize w.drew = w at h
    have hs := h
    replace h : ∃ M, St w0 (M ++ l) w := ⟨[_, _], hs⟩
    refine cur_pure rfl rfl rfl rfl (fun _ => h) (fun _ => flt_v rfl (q_moveS rfl)) ?_; refine cur_pure rfl rfl rfl rfl (fun _ => h) (fun _ => flt_v rfl (q_moveS rfl)) ?_
    refine cur_pure rfl rfl rfl rfl (fun _ => h) (fun _ => flt_v rfl (q_idx (b := b) (o := o) (m := L.length) (c := c) (j := 0) (o' := o) (by rw [← hsl]; rfl) rfl rfl (by omega) (by simp))) ?_
    refine cur_pure rfl rfl rfl rfl (fun _ => h) (fun _ => flt_v rfl (q_fa rfl)) ?_
    refine cur_float rfl rfl rfl rfl h (fun w h => flt_v rfl (q_loadc (v := .int .i64 s0.T) rfl (hc0 h))) ?_
    refine cur_skip ?_; refine cur_skip ?_; refine cur_pure rfl rfl rfl rfl (fun _ => h) (fun _ => flt_v rfl (q_moveS rfl)) ?_; refine cur_pure rfl rfl rfl rfl (fun _ => h) (fun _ => flt_v rfl (q_moveS rfl)) ?_; refine cur_pure rfl rfl rfl rfl (fun _ => h) (fun _ => flt_v rfl (q_len rfl)) ?_
    refine cur_pure rfl rfl rfl rfl (fun _ => h) (fun _ => flt_v rfl (q_is (v' := .int .i64 ((L.length - 1 : Nat) : Int)) (q_sub rfl rfl) (by rw [wrap64 (by omega) (by omega)]; congr 1; omega))) ?_
    refine cur_pure rfl rfl rfl rfl (fun _ => h) (fun _ => flt_v rfl (q_idx (b := b) (o := o) (m := L.length) (c := c) (j := L.length - 1) (o' := o + (L.length - 1) * 2) (by rw [← hsl]; rfl) rfl rfl (by omega) rfl)) ?_
    refine cur_pure rfl rfl rfl rfl (fun _ => h) (fun _ => flt_v rfl (q_fa rfl)) ?_
    refine cur_float rfl rfl rfl rfl h (fun w h => flt_v rfl (q_loadc (v := .int .i64 s1.T) rfl (hc1 h))) ?_
    refine cur_skip ?_; refine cur_skip ?_; refine cur_skip ?_
    refine cur_one 5 rfl rfl rfl rfl ?_
    refine (x_call rfl (vint_Zig (hf ▸ w1) hs) ?_)
    rintro _ w ⟨rfl, hs⟩
    rw [← hf, show zigU (us (firstT L)) = zigT (firstT L) from rfl]
    replace h : ∃ M, St w0 (M ++ l) w := ⟨[_, _], hs⟩
    refine ⟨fun _ => h, ?_⟩
    refine cur_skip ?_; refine cur_skip ?_; refine cur_skip ?_; refine cur_skip ?_
    refine cur_one 6 rfl rfl rfl rfl ?_
    refine (x_call rfl (vint_Put (zigT (firstT L)) (zigT_lt _) hs (fun w' h' => h'.own_rd) (by simp; omega)) ?_)
    rintro _ w ⟨a2, c2, rfl, hs⟩
    replace h : ∃ M, St w0 (M ++ l) w := ⟨[_, _, _], hs⟩
    refine ⟨fun _ => h, ?_⟩
    refine cur_skip ?_; refine cur_skip ?_; refine cur_skip ?_
    refine cur_one 14 rfl rfl rfl rfl ?_
    refine (x_call rfl (vint_Zig (ht ▸ w2) hs) ?_)
    rintro _ w ⟨rfl, hs⟩
    rw [← ht, show zigU (us (lastT L)) = zigT (lastT L) from rfl]
    replace h : ∃ M, St w0 (M ++ l) w := ⟨[_, _, _], hs⟩
    refine ⟨fun _ => h, ?_⟩
    refine cur_skip ?_; refine cur_skip ?_
    refine cur_one 15 rfl rfl rfl rfl ?_
    refine (x_call rfl (vint_Put (zigT (lastT L)) (zigT_lt _) hs (fun w' h' => h'.own_rd) (by simp; omega)) ?_)
    rintro _ w ⟨a3, c3, rfl, hs⟩
    replace h : ∃ M, St w0 (M ++ l) w := ⟨[_, _, _, _], hs⟩
    refine ⟨fun _ => h, ?_⟩
    refine cur_pure rfl rfl rfl rfl (fun _ => h) (fun _ => flt_v rfl (q_assignS rfl)) ?_
    have e3 : [UInt8.ofNat tag.toNat] ++ vput L.length ++ vput (zigT (firstT L)) ++ vput (zigT (lastT L)) = UInt8.ofNat tag.toNat :: (chNums L).flatMap vput := by simp [chNums]
    rw [e3] at hs
    refine cur_end ⟨(a3, c3), ⟨rfl, rfl, rfl, ?_, trivial⟩, ((hs.f 1).drop.f 1).drop⟩
    show Value.slice _ _ _ = Value.slice _ _ _
    rw [e3]
  clear h a1 c1
  rintro ⟨a1, c1⟩ w e h
  dsimp only at h ⊢
  have hbl := chBody_len tag L x
  have hbe : chBody tag L x = (UInt8.ofNat tag.toNat :: (chNums L).flatMap vput) ++ x := by simp [chBody]
  have hbl2 : (UInt8.ofNat tag.toNat :: (chNums L).flatMap vput).length + x.length = (chBody tag L x).length := by rw [hbe, List.length_append]
  generalize UInt8.ofNat tag.toNat :: (chNums L).flatMap vput = hd at h hbe hbl2 ⊢
  generalize chBody tag L x = B at hbe hbl hbl2 ⊢
  refine c_seq (c_region ?_)
  refine r_v (q_moveS rfl) rfl ?_; refine r_v (q_moveS rfl) rfl ?_
  refine r_c rfl (x_append' (ys := bytesV x) (zs := bytesV B) (m3 := B.length) h rfl rfl (h.f 1).own_rd (bytesV_one _) (by omega) (by rw [hbe]; simp [bytesV]) (by omega) (by omega) rfl fun a2 c2 w _ h => ?_)
  refine r_v (q_assignS rfl) rfl ?_
  refine r_nil ?_
  refine c_seq (c_region ?_)
  refine r_c rfl (x_call rfl (crcc_Table h) ?_)
  rintro _ w ⟨rfl, h⟩
  refine r_v (q_moveS rfl) rfl ?_
  refine r_c rfl (x_call rfl (crcc_Sum (bs := B) (by omega) Reads.own h) ?_)
  rintro _ w ⟨rfl, h⟩
  refine r_v (q_assignI rfl) rfl ?_
  refine r_nil ?_
  generalize crc B = k
  refine c_seq (c_region ?_)
  refine r_v (q_moveS rfl) rfl ?_; refine r_v (q_moveI rfl) rfl ?_
  refine r_v (q_is (v' := .int .u32 ((k / 2 ^ 24 : Nat) : Int)) (q_shr rfl rfl (by omega)) (congrArg (Value.int .u32) (fdiv_nat k 24 32 (by decide)))) rfl ?_
  refine r_v (q_conv rfl) rfl ?_
  refine r_is (.int .u8 ((UInt8.ofNat (k / 2 ^ 24)).toNat : Int)) (by rw [wrap_u8, UInt8.toNat_ofNat']) ?_
  refine r_v (q_moveI rfl) rfl ?_
  refine r_v (q_is (v' := .int .u32 ((k / 2 ^ 16 : Nat) : Int)) (q_shr rfl rfl (by omega)) (congrArg (Value.int .u32) (fdiv_nat k 16 32 (by decide)))) rfl ?_
  refine r_v (q_conv rfl) rfl ?_
  refine r_is (.int .u8 ((UInt8.ofNat (k / 2 ^ 16)).toNat : Int)) (by rw [wrap_u8, UInt8.toNat_ofNat']) ?_
  refine r_v (q_moveI rfl) rfl ?_
  refine r_v (q_is (v' := .int .u32 ((k / 2 ^ 8 : Nat) : Int)) (q_shr rfl rfl (by omega)) (congrArg (Value.int .u32) (fdiv_nat k 8 32 (by decide)))) rfl ?_
  refine r_v (q_conv rfl) rfl ?_
  refine r_is (.int .u8 ((UInt8.ofNat (k / 2 ^ 8)).toNat : Int)) (by rw [wrap_u8, UInt8.toNat_ofNat']) ?_
  refine r_v (q_moveI rfl) rfl ?_; refine r_v (q_conv rfl) rfl ?_
  refine r_is (.int .u8 ((UInt8.ofNat k).toNat : Int)) (by rw [wrap_u8, UInt8.toNat_ofNat']) ?_
  refine r_c rfl (x_bslice (r := bytesV (be4 k)) h rfl rfl rfl fun b4 w h => ?_)
  refine r_c rfl (x_append' (ys := bytesV (be4 k)) (zs := bytesV (B ++ be4 k)) (m3 := (B ++ be4 k).length) (h.f 1) rfl rfl ⟨rfl, .inr ⟨b4, 0, rfl, at_of (h.b 0 rfl) rfl⟩⟩ (bytesV_one _) (by simp [be4_len]) (by simp [bytesV]) (by rw [List.length_append, be4_len]; omega) (by rw [List.length_append, be4_len]; omega) rfl fun a3 c3 w _ h => ?_)
  refine r_v (q_assignS rfl) rfl ?_; refine r_v (q_assignB rfl) rfl ?_
  refine r_nil ?_
  refine c_ret (bq2 ⟨a3, c3, rfl, ?_⟩)
  have h' := ((h.f 1).drop.f 1).drop
  exact h'
end
end Go.Proofs.YtjjacchnalemaaaDoor
