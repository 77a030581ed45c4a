/- The store of bytes, where nothing wraps: the same contracts in plain numbers. -/
import Derived.Test.YtgahjjihfibbnaaBlob
namespace Go.Proofs.Ytgahjjihfibbnaa
open Go.Hw
set_option maxHeartbeats 4000000

structure Sto.Ok (S : Sto) : Prop where
  b1 : S.budget ≤ 1073741824
  y0 : 0 ≤ S.bytes
  c0 : 0 ≤ S.charged
  sum : S.bytes + S.charged ≤ S.budget
  l0 : 0 ≤ S.last
  l1 : S.last < 4611686018427387904
abbrev Sto.room (S : Sto) : Int := S.budget - S.bytes - S.charged

section
variable {w0 w : World} {l : List HProp} {p m : Nat} {S : Sto}
theorem Sto.Ok.used (o : S.Ok) : IntKind.i64.wrap (S.bytes + S.charged) = S.bytes + S.charged := by
  obtain ⟨h1, h2, h3, h4, h5, h6⟩ := o
  exact wrap_id (by omega) (by omega)
theorem Sto.Ok.free (o : S.Ok) : IntKind.i64.wrap (S.budget - IntKind.i64.wrap (S.bytes + S.charged)) = S.room := by
  rw [o.used]
  obtain ⟨h1, h2, h3, h4, h5, h6⟩ := o
  rw [wrap_id (by omega) (by omega)]
  show S.budget - (S.bytes + S.charged) = S.budget - S.bytes - S.charged
  omega
theorem Sto.Ok.next (o : S.Ok) : IntKind.i64.wrap (S.last + 1) = S.last + 1 := by
  obtain ⟨h1, h2, h3, h4, h5, h6⟩ := o
  exact wrap_id (by omega) (by omega)
theorem Sto.charge_ok (o : S.Ok) {n : Int} (hn : -4611686018427387904 ≤ n) (hm : n ≤ S.room) : S.charge n = { S with charged := S.charged + max n (-S.charged) } := by
  obtain ⟨h1, h2, h3, h4, h5, h6⟩ := o
  have e0 : IntKind.i64.wrap (0 - S.charged) = -S.charged := by rw [wrap_id (by omega) (by omega)]; omega
  have hmax : (if n < -S.charged then -S.charged else n) = max n (-S.charged) := by rw [Int.max_def]; split <;> split <;> omega
  unfold Sto.charge
  simp only [e0, hmax]
  rw [wrap_id (by omega) (by unfold Sto.room at hm; omega)]
theorem blob_UsedOk (o : S.Ok) (h : St w0 (IsStore p S :: l) w) : Ret Try.prog 18 [.pointer (some ⟨p, 0, none⟩)] w fun v w' => v = .int .i64 (S.bytes + S.charged) ∧ St w0 (IsStore p S :: l) w' := by
  have := blob_UsedS h
  rw [o.used] at this
  exact this
theorem blob_ChargeT (o : S.Ok) {n : Int} (hn : -4611686018427387904 ≤ n) (hm : n ≤ S.room) (h : St w0 (IsStore p S :: l) w) : Ret Try.prog 20 [.pointer (some ⟨p, 0, none⟩), .int .i64 n] w fun v w' =>
    v = .bool true ∧ St w0 (IsStore p { S with charged := S.charged + max n (-S.charged) } :: l) w' := by
  refine (blob_Charge n h).mono fun v w' hv => ?_
  rw [if_neg (by rw [o.free]; omega), Sto.charge_ok o hn hm] at hv
  exact hv
theorem blob_ChargeF (o : S.Ok) {n : Int} (hm : S.room < n) (h : St w0 (IsStore p S :: l) w) : Ret Try.prog 20 [.pointer (some ⟨p, 0, none⟩), .int .i64 n] w fun v w' =>
    v = .bool false ∧ St w0 (IsStore p S :: l) w' := by
  refine (blob_Charge n h).mono fun v w' hv => ?_
  rw [if_pos (by rw [o.free]; have := o.sum; unfold Sto.room at hm ⊢; omega)] at hv
  exact hv
theorem blob_AddT (o : S.Ok) {sl : Option Addr} {n c : Nat} {bs : List UInt8} (h : St w0 (IsStore p S :: l) w) (hr : ∀ w', St w0 l w' → Rd w' 1 sl n (bytesV bs)) (hn : (n : Int) ≤ S.room) (hfree : mget (S.last + 1) S.l = none) :
    Ret Try.prog 14 [.pointer (some ⟨p, 0, none⟩), .slice sl n c] w fun v w' =>
    v = .tuple [.int .i64 (S.last + 1), .bool true].toArray ∧ St w0 (IsStore p ⟨S.budget, S.last + 1, S.bytes + n, S.charged, mset (S.last + 1) ⟨bs, 1⟩ S.l⟩ :: l) w' := by
  have o' := o
  obtain ⟨h1, h2, h3, h4, h5, h6⟩ := o'
  have hn' := hn
  unfold Sto.room at hn'
  refine (blob_Add h hr (by omega) (by rw [o.next]; exact hfree)).mono fun v w' hv => ?_
  rw [if_neg (by rw [o.free]; omega), o.next, wrap_id (x := S.bytes + n) (by omega) (by omega)] at hv
  exact hv
theorem blob_AddF (o : S.Ok) {sl : Option Addr} {n c : Nat} {bs : List UInt8} (h : St w0 (IsStore p S :: l) w) (hr : ∀ w', St w0 l w' → Rd w' 1 sl n (bytesV bs)) (hn1 : n ≤ 140737488355328) (hn : S.room < (n : Int)) (hfree : mget (S.last + 1) S.l = none) :
    Ret Try.prog 14 [.pointer (some ⟨p, 0, none⟩), .slice sl n c] w fun v w' => v = .tuple [.int .i64 0, .bool false].toArray ∧ St w0 (IsStore p S :: l) w' := by
  refine (blob_Add h hr hn1 (by rw [o.next]; exact hfree)).mono fun v w' hv => ?_
  rw [if_pos (by rw [o.free]; omega)] at hv
  exact hv
/-- A leave of one that is held more than once; of the last one. -/
theorem blob_LeaveN (id : Int) {x : Kept} (h : St w0 (IsStore p S :: l) w) (hg : mget id S.l = some x) (h1 : 1 < x.holds) (h2 : x.holds < 4611686018427387904) : Ret Try.prog 19 [.pointer (some ⟨p, 0, none⟩), .int .i64 id] w fun v w' =>
    v = .bool true ∧ St w0 (IsStore p (S.put id ⟨x.bs, x.holds - 1⟩) :: l) w' := by
  refine (blob_Leave1 id h hg).mono fun v w' hv => ?_
  have e : IntKind.i64.wrap (x.holds - 1) = x.holds - 1 := wrap_id (by omega) (by omega)
  unfold Sto.left at hv
  rw [e, if_neg (by omega)] at hv
  exact hv
theorem blob_LeaveL (o : S.Ok) (id : Int) {x : Kept} (h : St w0 (IsStore p S :: l) w) (hg : mget id S.l = some x) (h1 : x.holds = 1) (h2 : (x.bs.length : Int) ≤ S.bytes) : Ret Try.prog 19 [.pointer (some ⟨p, 0, none⟩), .int .i64 id] w fun v w' =>
    v = .bool true ∧ St w0 (IsStore p { S with bytes := S.bytes - x.bs.length, l := mdel id S.l } :: l) w' := by
  refine (blob_Leave1 id h hg).mono fun v w' hv => ?_
  have o' := o
  obtain ⟨h3, h4, h5, h6, h7, h8⟩ := o'
  unfold Sto.left at hv
  rw [h1, if_pos (by decide), wrap_id (x := S.bytes - x.bs.length) (by omega) (by omega)] at hv
  exact hv
theorem blob_HoldN (id : Int) {x : Kept} (h : St w0 (IsStore p S :: l) w) (hg : mget id S.l = some x) (h1 : -4611686018427387904 < x.holds) (h2 : x.holds < 4611686018427387904) : Ret Try.prog 15 [.pointer (some ⟨p, 0, none⟩), .int .i64 id] w fun v w' =>
    v = .bool true ∧ St w0 (IsStore p (S.put id ⟨x.bs, x.holds + 1⟩) :: l) w' := by
  refine (blob_Hold1 id h hg).mono fun v w' hv => ?_
  rw [wrap_id (by omega) (by omega)] at hv
  exact hv
end
end Go.Proofs.Ytgahjjihfibbnaa
