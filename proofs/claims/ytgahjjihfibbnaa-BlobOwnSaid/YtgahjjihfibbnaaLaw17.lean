/- Layer 17: the laws' walks. -/
import Derived.Test.YtgahjjihfibbnaaLawa
namespace Go.Proofs.Ytgahjjihfibbnaa
open Go.Hw
set_option maxHeartbeats 4000000
section
variable {w : World} {sl : Option Addr} {n c : Nat} {bs : List UInt8}

theorem law17_BlobOwn (hr : Rd w 1 sl n (bytesV bs)) (hb : ∀ b o, sl = some ⟨b, o, none⟩ → 0 < n → b < w.heap.size) : Ret Try.prog 5 [.slice sl n c] w fun v w' => v = .bool true ∧ St w [] w' := by
  have h := St.init w
  generalize hw0 : w = w0 at h
  rw [hw0] at hr hb
  have hrd : ∀ {l w'}, St w0 l w' → Rd w' 1 sl n (bytesV bs) := fun h => Rd.old h hr hb
  have hlen : bs.length = n := by have := hr.1; rw [bytesV_len] at this; omega
  clear hw0
  refine enter Try.func5 rfl Try.results5 Try.ntmps5 rfl ?_
  refine c_seq (c_region ?_)
  refine r_v (q_assignB rfl) rfl ?_
  refine r_nil ?_
  refine c_seq (c_seq (c_region ?_))
  refine r_v (q_moveS rfl) rfl ?_; refine r_v (q_len rfl) rfl ?_; refine r_v (q_gtr rfl rfl) rfl ?_
  refine r_nil ?_
  refine c_cond _ rfl (fun hc => ?_) (fun hc => ?_)
  ·
    refine c_seq (c_region ?_)
    refine r_c rfl (x_call rfl (law17_awake h) ?_)
    rintro _ w ⟨rfl, h⟩
    refine r_v (q_assignB rfl) rfl ?_
    refine r_nil ?_
    exact c_ret (bq1 ⟨rfl, h⟩)
  have hn : n ≤ 300 := by simp at hc; omega
  refine c_skip ?_
  refine c_seq (c_region ?_)
  refine r_c rfl (x_call rfl (blob_New _ h) ?_)
  rintro _ w ⟨p, rfl, h⟩
  replace h : St w0 [IsStore p ⟨1000, 0, 0, 0, []⟩] w := h
  refine r_v (q_assignP rfl) rfl ?_
  refine r_nil ?_
  refine c_seq (c_seq (c_region ?_))
  refine r_v (q_moveP rfl) rfl ?_; refine r_v (q_eqnil rfl rfl) rfl ?_
  refine r_nil ?_
  refine c_false rfl ?_
  refine c_skip ?_
  refine c_seq (c_region ?_)
  refine r_c rfl (x_bslice (r := []) h rfl rfl rfl fun b w h => ?_)
  refine r_v (q_moveS rfl) rfl ?_
  have h1 : St w0 (Own 5 1 (some ⟨b, 0, none⟩) 0 0 [] :: [IsStore p ⟨1000, 0, 0, 0, []⟩]) w := St.own_mk (cur := []) h rfl rfl (Nat.le_refl _)
  refine r_c rfl (x_append' h1 rfl rfl (hrd h1) (bytesV_one _) (Nat.zero_add n) (List.nil_append _) (by omega) (by omega) rfl fun a c1 w _ h => ?_)
  refine r_v (q_assignS rfl) rfl ?_
  refine r_nil ?_
  refine c_seq (c_region ?_)
  refine r_v (q_moveP rfl) rfl ?_; refine r_v (q_moveS rfl) rfl ?_
  refine r_c rfl (x_call rfl (blob_Add (h.f 1) (fun w' h' => h'.own_rd) (by omega) rfl) ?_)
  intro v w hv
  rw [if_neg (by show ¬ (1000 : Int) < (n : Int); omega)] at hv
  obtain ⟨rfl, h⟩ := hv
  replace h := h.f 1
  generalize hS : (⟨1000, _, _, 0, _⟩ : Sto) = S at h
  have hg : mget 1 S.l = some ⟨bs, 1⟩ := by subst hS; rfl
  clear hS
  refine r_v (q_moveT rfl) rfl ?_; refine r_v (q_ext rfl rfl) rfl ?_; refine r_v (q_ext rfl rfl) rfl ?_; refine r_v (q_assignI rfl) rfl ?_; refine r_v (q_assignB rfl) rfl ?_
  refine r_nil ?_
  refine c_seq (c_seq (c_region ?_))
  refine r_v (q_moveS rfl) rfl ?_; refine r_v (q_len rfl) rfl ?_; refine r_v (q_moveI rfl) rfl ?_
  refine r_nil ?_
  refine c_block ?_
  refine c_loop (Γ := Nat × List UInt8) (fun k => [(0, .slice sl n c), (3, .pointer (some ⟨p, 0, none⟩)), (4, .slice a n c1), (5, .int .i64 1), (6, .bool true), (30, .int .i64 n), (31, .int .i64 k.1)])
    (fun k w => k.1 ≤ n ∧ k.2.length = n ∧ St w0 [Own 5 1 a n c1 (bytesV k.2), IsStore p S] w) (fun k => n - k.1) (0, bs) ⟨rfl, rfl, rfl, rfl, rfl, rfl, rfl, trivial⟩ ⟨by omega, hlen, h⟩ ?_
  rintro ⟨k, cs⟩ w e ⟨hk, hcs, h⟩
  dsimp only at hk hcs h ⊢
  refine c_seq (c_region ?_)
  refine r_v (q_lss rfl rfl) rfl ?_
  refine r_nil ?_
  refine c_seq (c_cond (decide ((k : Int) < (n : Int))) rfl (fun hc => ?_) (fun hc => ?_))
  ·
    have hkn : k < n := by simp at hc; omega
    obtain ⟨g, rfl⟩ := h.own_some (by omega : 0 < n)
    refine c_skip ?_
    refine c_seq (c_block ?_)
    refine c_seq (c_region ?_)
    refine r_v (q_moveI rfl) rfl ?_; refine r_v (q_assignI rfl) rfl ?_
    refine r_nil ?_
    refine c_region ?_
    refine r_v (q_moveS rfl) rfl ?_; refine r_v (q_moveI rfl) rfl ?_
    have hget := List.getElem?_eq_getElem (show k < cs.length by omega)
    refine r_v (q_idx rfl rfl rfl hkn (Nat.zero_add _)) rfl ?_
    refine r_v (q_loadc rfl (by have := h.own_rd.cell (bytesV_get hget); simpa using this)) rfl ?_
    refine r_v (q_add rfl rfl) rfl ?_
    refine r_v (q_idx rfl rfl rfl hkn (Nat.zero_add _)) rfl ?_
    refine r_c rfl (x_ownset (v := .int .u8 (UInt8.ofNat ((cs[k].toNat + 1) % 256)).toNat) h rfl ?_ (by simpa using hkn) rfl fun w h => ?_)
    · show Value.int .u8 (IntKind.u8.wrap _) = _
      congr 1
      simp [IntKind.wrap, IntKind.signed, IntKind.bits]
    refine r_nil ?_
    refine c_region ?_
    refine r_v (q_add rfl rfl) rfl ?_; refine r_v (q_moveI rfl) rfl ?_
    refine r_nil ⟨(k + 1, cs.set k (UInt8.ofNat ((cs[k].toNat + 1) % 256))), ⟨rfl, rfl, rfl, rfl, rfl, rfl, ?_, trivial⟩, ⟨by omega, by simpa using hcs, ?_⟩, by dsimp only; omega⟩
    · show Value.int .i64 (IntKind.i64.wrap _) = _
      rw [wrap_id (by omega) (by omega)]; rfl
    · rw [← bytesV_set]
      simpa using h
  clear hc
  refine c_exit ?_
  refine c_seq (c_region ?_)
  refine r_v (q_moveP rfl) rfl ?_; refine r_v (q_moveI rfl) rfl ?_
  refine r_c rfl (x_call rfl (blob_Get1 1 (h.f 1) hg (by dsimp only; omega)) ?_)
  rintro _ w ⟨a2, c2, rfl, h⟩
  replace h := (h.f 2).drop
  dsimp only at h ⊢
  rw [hlen] at h ⊢
  refine r_v (q_moveT rfl) rfl ?_; refine r_v (q_ext rfl rfl) rfl ?_; refine r_v (q_ext rfl rfl) rfl ?_; refine r_v (q_assignS rfl) rfl ?_; refine r_v (q_assignB rfl) rfl ?_
  refine r_nil ?_
  refine c_seq (c_seq (c_region ?_))
  refine r_v (q_moveS rfl) rfl ?_; refine r_v (q_len rfl) rfl ?_; refine r_v (q_moveI rfl) rfl ?_
  refine r_nil ?_
  refine c_block ?_
  refine c_loop (Γ := Nat × List UInt8) (fun k => [(0, .slice sl n c), (3, .pointer (some ⟨p, 0, none⟩)), (5, .int .i64 1), (6, .bool true), (8, .slice a2 n c2), (9, .bool true), (48, .int .i64 n), (49, .int .i64 k.1)])
    (fun k w => k.1 ≤ n ∧ k.2.length = n ∧ St w0 [Own 5 1 a2 n c2 (bytesV k.2), IsStore p S] w) (fun k => n - k.1) (0, bs) ⟨rfl, rfl, rfl, rfl, rfl, rfl, rfl, rfl, trivial⟩ ⟨by omega, hlen, h⟩ ?_
  clear h hk hcs
  rintro ⟨k, cs⟩ w e ⟨hk, hcs, h⟩
  dsimp only at hk hcs h ⊢
  refine c_seq (c_region ?_)
  refine r_v (q_lss rfl rfl) rfl ?_
  refine r_nil ?_
  refine c_seq (c_cond (decide ((k : Int) < (n : Int))) rfl (fun hc => ?_) (fun hc => ?_))
  ·
    have hkn : k < n := by simp at hc; omega
    obtain ⟨g, rfl⟩ := h.own_some (by omega : 0 < n)
    refine c_skip ?_
    refine c_seq (c_block ?_)
    refine c_seq (c_region ?_)
    refine r_v (q_moveI rfl) rfl ?_; refine r_v (q_assignI rfl) rfl ?_
    refine r_nil ?_
    refine c_region ?_
    refine r_v (q_moveS rfl) rfl ?_; refine r_v (q_moveI rfl) rfl ?_
    have hget := List.getElem?_eq_getElem (show k < cs.length by omega)
    refine r_v (q_idx rfl rfl rfl hkn (Nat.zero_add _)) rfl ?_
    refine r_v (q_loadc rfl (by have := h.own_rd.cell (bytesV_get hget); simpa using this)) rfl ?_
    refine r_v (q_add rfl rfl) rfl ?_
    refine r_v (q_idx rfl rfl rfl hkn (Nat.zero_add _)) rfl ?_
    refine r_c rfl (x_ownset (v := .int .u8 (UInt8.ofNat ((cs[k].toNat + 1) % 256)).toNat) h rfl ?_ (by simpa using hkn) rfl fun w h => ?_)
    · show Value.int .u8 (IntKind.u8.wrap _) = _
      congr 1
      simp [IntKind.wrap, IntKind.signed, IntKind.bits]
    refine r_nil ?_
    refine c_region ?_
    refine r_v (q_add rfl rfl) rfl ?_; refine r_v (q_moveI rfl) rfl ?_
    refine r_nil ⟨(k + 1, cs.set k (UInt8.ofNat ((cs[k].toNat + 1) % 256))), ⟨rfl, rfl, rfl, rfl, rfl, rfl, rfl, ?_, trivial⟩, ⟨by omega, by simpa using hcs, ?_⟩, by dsimp only; omega⟩
    · show Value.int .i64 (IntKind.i64.wrap _) = _
      rw [wrap_id (by omega) (by omega)]; rfl
    · rw [← bytesV_set]
      simpa using h
  clear hc
  refine c_exit ?_
  refine c_seq (c_region ?_)
  refine r_v (q_moveP rfl) rfl ?_; refine r_v (q_moveI rfl) rfl ?_
  refine r_c rfl (x_call rfl (blob_Get1 1 (h.f 1) hg (by dsimp only; omega)) ?_)
  rintro _ w ⟨a3, c3, rfl, h⟩
  dsimp only at h ⊢
  rw [hlen] at h ⊢
  refine r_v (q_moveT rfl) rfl ?_; refine r_v (q_ext rfl rfl) rfl ?_; refine r_v (q_ext rfl rfl) rfl ?_; refine r_v (q_assignS rfl) rfl ?_; refine r_v (q_assignB rfl) rfl ?_
  refine r_nil ?_
  refine c_seq (c_region ?_)
  refine r_v (q_moveB rfl) rfl ?_; refine r_v (q_moveB rfl) rfl ?_; (first | refine r_gd rfl rfl ?_ | refine r_gn rfl rfl rfl ?_ | refine r_gu rfl rfl ?_ | refine r_gd rfl (by assumption) ?_ | refine r_gn rfl (by assumption) rfl ?_); refine r_v (q_moveB rfl) rfl ?_; (first | refine r_v (q_pick1 rfl rfl rfl) rfl ?_ | refine r_v (q_pick0 rfl rfl rfl) rfl ?_ | refine r_v (q_pick1 rfl (by assumption) rfl) rfl ?_ | refine r_v (q_pick0 rfl (by assumption) rfl) rfl ?_ | refine r_v (q_pickB rfl rfl rfl) rfl ?_); refine r_v (q_moveB rfl) rfl ?_; (first | refine r_gd rfl rfl ?_ | refine r_gn rfl rfl rfl ?_ | refine r_gu rfl rfl ?_ | refine r_gd rfl (by assumption) ?_ | refine r_gn rfl (by assumption) rfl ?_); refine r_v (q_moveB rfl) rfl ?_; (first | refine r_v (q_pick1 rfl rfl rfl) rfl ?_ | refine r_v (q_pick0 rfl rfl rfl) rfl ?_ | refine r_v (q_pick1 rfl (by assumption) rfl) rfl ?_ | refine r_v (q_pick0 rfl (by assumption) rfl) rfl ?_ | refine r_v (q_pickB rfl rfl rfl) rfl ?_); refine r_v (q_moveB rfl) rfl ?_; (first | refine r_gd rfl rfl ?_ | refine r_gn rfl rfl rfl ?_ | refine r_gu rfl rfl ?_ | refine r_gd rfl (by assumption) ?_ | refine r_gn rfl (by assumption) rfl ?_); refine r_v (q_moveS rfl) rfl ?_; (first | refine r_gd rfl rfl ?_ | refine r_gn rfl rfl rfl ?_ | refine r_gu rfl rfl ?_ | refine r_gd rfl (by assumption) ?_ | refine r_gn rfl (by assumption) rfl ?_)
  refine r_v (q_btos rfl h.own_rd) rfl ?_
  (first | refine r_gd rfl rfl ?_ | refine r_gn rfl rfl rfl ?_ | refine r_gu rfl rfl ?_ | refine r_gd rfl (by assumption) ?_ | refine r_gn rfl (by assumption) rfl ?_); refine r_v (q_moveS rfl) rfl ?_; (first | refine r_gd rfl rfl ?_ | refine r_gn rfl rfl rfl ?_ | refine r_gu rfl rfl ?_ | refine r_gd rfl (by assumption) ?_ | refine r_gn rfl (by assumption) rfl ?_)
  refine r_v (q_btos rfl (hrd h)) rfl ?_
  (first | refine r_gd rfl rfl ?_ | refine r_gn rfl rfl rfl ?_ | refine r_gu rfl rfl ?_ | refine r_gd rfl (by assumption) ?_ | refine r_gn rfl (by assumption) rfl ?_); refine r_v (q_streq rfl rfl) rfl ?_
  have hbs : ((strB bs).data.toList == (strB bs).data.toList) = true := by simp
  rw [hbs]
  (first | refine r_v (q_pick1 rfl rfl rfl) rfl ?_ | refine r_v (q_pick0 rfl rfl rfl) rfl ?_ | refine r_v (q_pick1 rfl (by assumption) rfl) rfl ?_ | refine r_v (q_pick0 rfl (by assumption) rfl) rfl ?_ | refine r_v (q_pickB rfl rfl rfl) rfl ?_); refine r_v (q_moveB rfl) rfl ?_; (first | refine r_gd rfl rfl ?_ | refine r_gn rfl rfl rfl ?_ | refine r_gu rfl rfl ?_ | refine r_gd rfl (by assumption) ?_ | refine r_gn rfl (by assumption) rfl ?_)
  refine r_c rfl (x_call rfl (law17_awake h) ?_)
  rintro _ w ⟨rfl, h⟩
  (first | refine r_v (q_pick1 rfl rfl rfl) rfl ?_ | refine r_v (q_pick0 rfl rfl rfl) rfl ?_ | refine r_v (q_pick1 rfl (by assumption) rfl) rfl ?_ | refine r_v (q_pick0 rfl (by assumption) rfl) rfl ?_ | refine r_v (q_pickB rfl rfl rfl) rfl ?_); refine r_v (q_assignB rfl) rfl ?_
  refine r_nil ?_
  exact c_ret (bq1 ⟨rfl, h.drop.drop.drop⟩)
end
end Go.Proofs.Ytgahjjihfibbnaa
