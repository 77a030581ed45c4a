/- More codecs in plain Lean: runs, by the least, by a list; the suit of all of them. -/
import Derived.Test.YtjjacchnalemaaaDoorPc
import Derived.Test.YtjjacchnalemaaaDoorHe
namespace Go.Hw

/-- Runs: so many of x were there. -/
def runsA (x k : Nat) : List Nat → List UInt8
  | [] => vput k ++ vput x
  | y :: r => if y = x then runsA x (k + 1) r else vput k ++ (vput x ++ runsA y 1 r)
def runsEnc : List Nat → List UInt8
  | [] => []
  | x :: r => runsA x 1 r
def lead (x : Nat) : List Nat → Nat
  | [] => 0
  | y :: r => if y = x then lead x r + 1 else 0
theorem lead_le (x : Nat) : ∀ l : List Nat, lead x l ≤ l.length
  | [] => Nat.le_refl _
  | y :: r => by
    rw [lead]; split
    · have := lead_le x r; rw [List.length_cons]; omega
    · exact Nat.zero_le _
theorem runsA_eq (x : Nat) : ∀ (l : List Nat) (k : Nat), runsA x k l = vput (k + lead x l) ++ (vput x ++ runsEnc (l.drop (lead x l)))
  | [], k => by simp [runsA, lead, runsEnc]
  | y :: r, k => by
    rw [runsA, lead]
    split
    · rename_i h
      rw [runsA_eq x r (k + 1), List.drop_succ_cons]
      congr 2
      omega
    · rfl
theorem runsEnc_cons (x : Nat) (r : List Nat) : runsEnc (x :: r) = vput (1 + lead x r) ++ (vput x ++ runsEnc (r.drop (lead x r))) := runsA_eq x r 1
theorem lead_split (x : Nat) : ∀ l : List Nat, List.replicate (lead x l) x ++ l.drop (lead x l) = l
  | [] => rfl
  | y :: r => by
    rw [lead]; split
    · rename_i h; rw [List.replicate_succ, List.drop_succ_cons, List.cons_append, lead_split x r, h]
    · rfl
theorem lead_head (x : Nat) : ∀ l : List Nat, (l.drop (lead x l)).head? ≠ some x
  | [] => by simp [lead]
  | y :: r => by
    rw [lead]; split
    · rw [List.drop_succ_cons]; exact lead_head x r
    · rename_i h; simpa using h
def runsDecA : Nat → List UInt8 → Nat → Option Nat → Option (List Nat)
  | _, [], room, _ => if room = 0 then some [] else none
  | 0, _ :: _, _, _ => none
  | f + 1, c :: b, room, last =>
    if (vget (c :: b)).2 = 0 ∨ (vget ((c :: b).drop (vget (c :: b)).2)).2 = 0 ∨ (vget (c :: b)).1 = 0 ∨ room < (vget (c :: b)).1 ∨ last = some (vget ((c :: b).drop (vget (c :: b)).2)).1 then none
    else (runsDecA f ((c :: b).drop ((vget (c :: b)).2 + (vget ((c :: b).drop (vget (c :: b)).2)).2)) (room - (vget (c :: b)).1) (some (vget ((c :: b).drop (vget (c :: b)).2)).1)).map fun r => List.replicate (vget (c :: b)).1 (vget ((c :: b).drop (vget (c :: b)).2)).1 ++ r
def runsDec (b : List UInt8) (n : Nat) : Option (List Nat) := runsDecA b.length b n none
theorem runsDecA_told : ∀ (m : Nat) (v : List Nat) (last : Option Nat), v.length ≤ m → v.length < 18446744073709551616 → (∀ x ∈ v, x < 18446744073709551616) → (v.head? ≠ last ∨ last = none) → ∀ f, (runsEnc v).length ≤ f → runsDecA f (runsEnc v) v.length last = some v
  | m, [], last, _, _, _, _, f, _ => by cases f <;> rfl
  | 0, _ :: _, _, h, _, _, _, _, _ => by simp at h
  | m + 1, x :: r, last, hm, hl, hv, hh, f, hf => by
    have hx := hv x (List.mem_cons_self ..)
    have hle := lead_le x r
    rw [List.length_cons] at hl hm
    have hk : 1 + lead x r < 18446744073709551616 := by omega
    have e := runsEnc_cons x r
    have h1 : vget (runsEnc (x :: r)) = (1 + lead x r, (vput (1 + lead x r)).length) := by rw [e]; exact vget_vput hk _
    have h2 : (runsEnc (x :: r)).drop (vput (1 + lead x r)).length = vput x ++ runsEnc (r.drop (lead x r)) := by rw [e]; simp
    have h3 : vget (vput x ++ runsEnc (r.drop (lead x r))) = (x, (vput x).length) := vget_vput hx _
    have h4 : (runsEnc (x :: r)).drop ((vput (1 + lead x r)).length + (vput x).length) = runsEnc (r.drop (lead x r)) := by rw [← List.drop_drop, h2]; simp
    have p1 := vput_len (1 + lead x r)
    have p2 := vput_len x
    have hlen : (runsEnc (x :: r)).length = (vput (1 + lead x r)).length + ((vput x).length + (runsEnc (r.drop (lead x r))).length) := by rw [e]; simp
    generalize hE : runsEnc (x :: r) = E at *
    cases f with
    | zero => omega
    | succ f =>
      cases E with
      | nil => simp at hlen; omega
      | cons c b =>
        rw [runsDecA, h1]
        dsimp only
        rw [h2, h3]
        dsimp only
        rw [if_neg, h4, List.length_cons, show r.length + 1 - (1 + lead x r) = (r.drop (lead x r)).length by rw [List.length_drop]; omega,
          runsDecA_told m (r.drop (lead x r)) (some x) (by rw [List.length_drop]; omega) (by rw [List.length_drop]; omega) (fun y hy => hv y (List.mem_cons_of_mem _ (List.mem_of_mem_drop hy))) (.inl (lead_head x r)) f (by omega)]
        · show some (List.replicate (1 + lead x r) x ++ _) = _
          rw [Nat.add_comm, List.replicate_succ, List.cons_append, lead_split]
        · rintro (h | h | h | h | h)
          · omega
          · omega
          · omega
          · rw [List.length_cons] at h; omega
          · rcases hh with hh | hh
            · exact hh (by rw [h]; rfl)
            · rw [hh] at h; cases h
theorem runsDec_told {v : List Nat} (hl : v.length < 18446744073709551616) (hv : ∀ x ∈ v, x < 18446744073709551616) : runsDec (runsEnc v) v.length = some v :=
  runsDecA_told _ v none (Nat.le_refl _) hl hv (.inr rfl) _ (Nat.le_refl _)

/-- So many numbers of so many bits each. -/
def getAll : Nat → Nat → RS → Option (List Nat)
  | 0, _, _ => some []
  | k + 1, wide, s => if (s.get wide).2.bad = true then none else (getAll k wide (s.get wide).2).map fun r => (s.get wide).1 :: r
theorem getAll_told (wide : Nat) (r : List Bool) : ∀ vs : List Nat, (∀ v ∈ vs, v < 2 ^ wide) → getAll vs.length wide ⟨vs.flatMap (fun x => bitsOf x wide) ++ r, false⟩ = some vs
  | [], _ => rfl
  | v :: vs, h => by
    rw [List.flatMap_cons, List.append_assoc, List.length_cons, getAll, RS.get_put, Nat.mod_eq_of_lt (h v (List.mem_cons_self ..))]
    dsimp only
    rw [getAll_told wide r vs fun x hx => h x (List.mem_cons_of_mem _ hx)]
    rfl
theorem getAll_len : ∀ (k wide : Nat) (s : RS) (x : List Nat), getAll k wide s = some x → x.length = k
  | 0, _, _, x, h => by cases h; rfl
  | k + 1, wide, s, x, h => by
    rw [getAll] at h
    split at h
    · cases h
    · obtain ⟨y, h1, rfl⟩ := Option.map_eq_some_iff.1 h
      simp [getAll_len k _ _ y h1]
def leastA (m : Nat) : List Nat → Nat
  | [] => m
  | x :: r => leastA (min m x) r
def greatA (m : Nat) : List Nat → Nat
  | [] => m
  | x :: r => greatA (max m x) r
theorem leastA_le : ∀ (l : List Nat) (m : Nat), leastA m l ≤ m ∧ ∀ x ∈ l, leastA m l ≤ x
  | [], m => ⟨Nat.le_refl _, fun _ h => by cases h⟩
  | y :: r, m => by
    obtain ⟨h1, h2⟩ := leastA_le r (min m y)
    refine ⟨by rw [leastA]; omega, fun x hx => ?_⟩
    rw [leastA]
    rcases List.mem_cons.1 hx with rfl | hx
    · omega
    · exact h2 x hx
theorem greatA_ge : ∀ (l : List Nat) (m : Nat), m ≤ greatA m l ∧ ∀ x ∈ l, x ≤ greatA m l
  | [], m => ⟨Nat.le_refl _, fun _ h => by cases h⟩
  | y :: r, m => by
    obtain ⟨h1, h2⟩ := greatA_ge r (max m y)
    refine ⟨by rw [greatA]; omega, fun x hx => ?_⟩
    rw [greatA]
    rcases List.mem_cons.1 hx with rfl | hx
    · omega
    · exact h2 x hx
theorem leastA_lt : ∀ (l : List Nat) (m : Nat), m < 18446744073709551616 → leastA m l < 18446744073709551616
  | l, m, h => Nat.lt_of_le_of_lt (leastA_le l m).1 h
theorem greatA_lt : ∀ (l : List Nat) (m : Nat), m < 18446744073709551616 → (∀ x ∈ l, x < 18446744073709551616) → greatA m l < 18446744073709551616
  | [], m, h, _ => h
  | y :: r, m, h, hl => by
    rw [greatA]
    have := hl y (List.mem_cons_self ..)
    exact greatA_lt r _ (by omega) fun x hx => hl x (List.mem_cons_of_mem _ hx)
/-- By the least. -/
def frameEnc : List Nat → List UInt8
  | [] => []
  | x :: r => vput (leastA x r) ++ (UInt8.ofNat (len64 (greatA x r - leastA x r)) :: pack ((x :: r).flatMap fun y => bitsOf (y - leastA x r) (len64 (greatA x r - leastA x r))))
def frameDec (b : List UInt8) (n : Nat) : Option (List Nat) :=
  if n = 0 then (if b = [] then some [] else none)
  else if (vget b).2 = 0 then none else match b[(vget b).2]? with
    | none => none
    | some c => if 64 < c.toNat then none else
      match getAll n c.toNat ⟨bitsB (b.drop ((vget b).2 + 1)), false⟩ with
      | none => none
      | some l => if frameEnc (l.map fun x => summ (vget b).1 x) = b then some (l.map fun x => summ (vget b).1 x) else none
theorem frameDec_told {v : List Nat} (hv : ∀ x ∈ v, x < 18446744073709551616) : frameDec (frameEnc v) v.length = some v := by
  cases v with
  | nil => rfl
  | cons x r =>
    have hx := hv x (List.mem_cons_self ..)
    have hl := leastA_lt r x hx
    have hg := greatA_lt r x hx fun y hy => hv y (List.mem_cons_of_mem _ hy)
    have hw : len64 (greatA x r - leastA x r) ≤ 64 := len64_64 (by omega)
    have hmem : ∀ y ∈ x :: r, leastA x r ≤ y ∧ y ≤ greatA x r := by
      intro y hy
      rcases List.mem_cons.1 hy with rfl | hy
      · exact ⟨(leastA_le r y).1, (greatA_ge r y).1⟩
      · exact ⟨(leastA_le r x).2 y hy, (greatA_ge r x).2 y hy⟩
    have hget := vget_vput hl (UInt8.ofNat (len64 (greatA x r - leastA x r)) :: pack ((x :: r).flatMap fun y => bitsOf (y - leastA x r) (len64 (greatA x r - leastA x r))))
    have hp := vput_len (leastA x r)
    have hE : frameEnc (x :: r) = vput (leastA x r) ++ (UInt8.ofNat (len64 (greatA x r - leastA x r)) :: pack ((x :: r).flatMap fun y => bitsOf (y - leastA x r) (len64 (greatA x r - leastA x r)))) := rfl
    rw [← hE] at hget
    have h1 : (frameEnc (x :: r))[(vput (leastA x r)).length]? = some (UInt8.ofNat (len64 (greatA x r - leastA x r))) := by rw [hE, List.getElem?_append_right (Nat.le_refl _)]; simp
    have h2 : (frameEnc (x :: r)).drop ((vput (leastA x r)).length + 1) = pack ((x :: r).flatMap fun y => bitsOf (y - leastA x r) (len64 (greatA x r - leastA x r))) := by
      rw [hE, ← List.drop_drop, List.drop_left]; rfl
    have hc : (UInt8.ofNat (len64 (greatA x r - leastA x r))).toNat = len64 (greatA x r - leastA x r) := by rw [UInt8.toNat_ofNat', Nat.mod_eq_of_lt (by omega)]
    unfold frameDec
    rw [if_neg (by simp), hget]
    dsimp only
    rw [if_neg (by omega), h1]
    dsimp only
    rw [hc, if_neg (by omega), h2, bitsB_pack]
    have hga : getAll (x :: r).length (len64 (greatA x r - leastA x r)) ⟨((x :: r).flatMap fun y => bitsOf (y - leastA x r) (len64 (greatA x r - leastA x r))) ++ List.replicate (8 * ((((x :: r).flatMap fun y => bitsOf (y - leastA x r) (len64 (greatA x r - leastA x r))).length + 7) / 8) - ((x :: r).flatMap fun y => bitsOf (y - leastA x r) (len64 (greatA x r - leastA x r))).length) false, false⟩ = some ((x :: r).map fun y => y - leastA x r) := by
      have := getAll_told (len64 (greatA x r - leastA x r)) (List.replicate (8 * ((((x :: r).flatMap fun y => bitsOf (y - leastA x r) (len64 (greatA x r - leastA x r))).length + 7) / 8) - ((x :: r).flatMap fun y => bitsOf (y - leastA x r) (len64 (greatA x r - leastA x r))).length) false) ((x :: r).map fun y => y - leastA x r) (by
        intro z hz
        obtain ⟨y, hy, rfl⟩ := List.mem_map.1 hz
        obtain ⟨m1, m2⟩ := hmem y hy
        exact Nat.lt_of_le_of_lt (by omega : y - leastA x r ≤ greatA x r - leastA x r) (len64_lt _))
      rw [List.flatMap_map, List.length_map] at this
      exact this
    rw [hga]
    dsimp only
    have hback : ((x :: r).map fun y => y - leastA x r).map (fun z => summ (leastA x r) z) = x :: r := by
      rw [List.map_map]
      conv => rhs; rw [← List.map_id (x :: r)]
      apply List.map_congr_left
      intro y hy
      obtain ⟨m1, m2⟩ := hmem y hy
      show summ (leastA x r) (y - leastA x r) = y
      unfold summ
      omega
    rw [hback, if_pos rfl]

/-- The values that are unlike. -/
def unlikeA (l : List Nat) : List Nat → Option (List Nat)
  | [] => some l
  | x :: r => if x ∈ l then unlikeA l r else if l.length = 256 then none else unlikeA (l ++ [x]) r
theorem unlikeA_some : ∀ (v l m : List Nat), unlikeA l v = some m → l.length ≤ 256 → (∃ t, m = l ++ t) ∧ (∀ x ∈ v, x ∈ m) ∧ m.length ≤ 256 ∧ (∀ x ∈ m, x ∈ l ∨ x ∈ v)
  | [], l, m, h, hl => by cases h; exact ⟨⟨[], by simp⟩, (fun _ h => by cases h), hl, fun _ h => .inl h⟩
  | y :: r, l, m, h, hl => by
    rw [unlikeA] at h
    split at h
    · rename_i hy
      obtain ⟨⟨t, h1⟩, h2, h3, h4⟩ := unlikeA_some r l m h hl
      refine ⟨⟨t, h1⟩, fun x hx => ?_, h3, fun x hx => (h4 x hx).imp id (List.mem_cons_of_mem _)⟩
      rcases List.mem_cons.1 hx with rfl | hx
      · rw [h1]; exact List.mem_append_left _ hy
      · exact h2 x hx
    · split at h
      · cases h
      · obtain ⟨⟨t, h1⟩, h2, h3, h4⟩ := unlikeA_some r (l ++ [y]) m h (by simp; omega)
        refine ⟨⟨y :: t, by rw [h1]; simp⟩, fun x hx => ?_, h3, fun x hx => ?_⟩
        · rcases List.mem_cons.1 hx with rfl | hx
          · rw [h1]; simp
          · exact h2 x hx
        · rcases h4 x hx with h | h
          · rcases List.mem_append.1 h with h | h
            · exact .inl h
            · simp at h; subst h; exact .inr (List.mem_cons_self ..)
          · exact .inr (List.mem_cons_of_mem _ h)
def dictBytes (l v : List Nat) : List UInt8 := vput l.length ++ (l.flatMap vput ++ pack (v.flatMap fun x => bitsOf (l.idxOf x) (len64 (l.length - 1))))
/-- By a list of values. -/
def dictEnc (v : List Nat) : Option (List UInt8) := match unlikeA [] v with
  | none => none
  | some l => if v = [] then some [] else some (dictBytes l v)
def getVs : Nat → List UInt8 → Option (List Nat × List UInt8)
  | 0, b => some ([], b)
  | k + 1, b => if (vget b).2 = 0 then none else (getVs k (b.drop (vget b).2)).map fun r => ((vget b).1 :: r.1, r.2)
theorem getVs_told (r : List UInt8) : ∀ l : List Nat, (∀ x ∈ l, x < 18446744073709551616) → getVs l.length (l.flatMap vput ++ r) = some (l, r)
  | [], _ => rfl
  | x :: l, h => by
    have hg := vget_vput (h x (List.mem_cons_self ..)) (l.flatMap vput ++ r)
    have hp := vput_len x
    rw [List.flatMap_cons, List.append_assoc, List.length_cons, getVs, hg]
    dsimp only
    rw [if_neg (by omega), List.drop_left, getVs_told r l fun y hy => h y (List.mem_cons_of_mem _ hy)]
    rfl
theorem getVs_len : ∀ (k : Nat) (b : List UInt8) (x : List Nat × List UInt8), getVs k b = some x → x.1.length = k
  | 0, _, x, h => by cases h; rfl
  | k + 1, b, x, h => by
    rw [getVs] at h; split at h
    · cases h
    · obtain ⟨y, h1, rfl⟩ := Option.map_eq_some_iff.1 h
      simp [getVs_len k _ y h1]
def pickAll (l : List Nat) : List Nat → Option (List Nat)
  | [] => some []
  | a :: r => match l[a]? with
    | none => none
    | some x => (pickAll l r).map fun y => x :: y
def dictDec (b : List UInt8) (n : Nat) : Option (List Nat) :=
  if n = 0 then (if b = [] then some [] else none)
  else if (vget b).2 = 0 ∨ (vget b).1 = 0 ∨ 256 < (vget b).1 then none
  else match getVs (vget b).1 (b.drop (vget b).2) with
    | none => none
    | some (l, rest) => match getAll n (len64 (l.length - 1)) ⟨bitsB rest, false⟩ with
      | none => none
      | some at_ => match pickAll l at_ with
        | none => none
        | some out => if dictEnc out = some b then some out else none
theorem pickAll_told {l : List Nat} : ∀ v : List Nat, (∀ x ∈ v, x ∈ l) → pickAll l (v.map fun x => l.idxOf x) = some v
  | [], _ => rfl
  | x :: v, h => by
    have hx := h x (List.mem_cons_self ..)
    have h1 : l[l.idxOf x]? = some x := by
      rw [List.getElem?_eq_getElem (List.idxOf_lt_length_iff.2 hx), List.getElem_idxOf]
    rw [List.map_cons, pickAll, h1]
    dsimp only
    rw [pickAll_told v fun y hy => h y (List.mem_cons_of_mem _ hy)]
    rfl
theorem dictDec_told {v : List Nat} {b : List UInt8} (hv : ∀ x ∈ v, x < 18446744073709551616) (h : dictEnc v = some b) : dictDec b v.length = some v := by
  have h0 := h
  unfold dictEnc at h
  cases hu : unlikeA [] v with
  | none => rw [hu] at h; cases h
  | some l =>
    rw [hu] at h
    dsimp only at h
    by_cases hn : v = []
    · rw [if_pos hn] at h; cases h; subst hn; rfl
    · rw [if_neg hn] at h
      cases h
      obtain ⟨_, h2, h3, h4⟩ := unlikeA_some v [] l hu (by simp)
      have hl : ∀ x ∈ l, x < 18446744073709551616 := fun x hx => by
        rcases h4 x hx with h | h
        · cases h
        · exact hv x h
      have hpos : 0 < v.length := List.length_pos_iff.2 hn
      have hlp : 0 < l.length := by
        cases v with
        | nil => exact absurd rfl hn
        | cons x r => exact List.length_pos_of_mem (h2 x (List.mem_cons_self ..))
      have hg := vget_vput (show l.length < 18446744073709551616 by omega) (l.flatMap vput ++ pack (v.flatMap fun x => bitsOf (l.idxOf x) (len64 (l.length - 1))))
      have hp := vput_len l.length
      unfold dictDec
      rw [if_neg (by omega), show vget (dictBytes l v) = _ from hg]
      dsimp only
      rw [if_neg (by omega), show (dictBytes l v).drop (vput l.length).length = _ from List.drop_left, getVs_told _ l hl]
      dsimp only
      rw [bitsB_pack]
      have hga := getAll_told (len64 (l.length - 1)) (List.replicate (8 * (((v.flatMap fun x => bitsOf (l.idxOf x) (len64 (l.length - 1))).length + 7) / 8) - (v.flatMap fun x => bitsOf (l.idxOf x) (len64 (l.length - 1))).length) false) (v.map fun x => l.idxOf x) (by
        intro z hz
        obtain ⟨y, hy, rfl⟩ := List.mem_map.1 hz
        have := List.idxOf_lt_length_iff.2 (h2 y hy)
        exact Nat.lt_of_le_of_lt (by omega : l.idxOf y ≤ l.length - 1) (len64_lt _))
      rw [List.flatMap_map, List.length_map] at hga
      rw [hga]
      dsimp only
      rw [pickAll_told v h2]
      dsimp only
      rw [if_pos h0]
end Go.Hw
