/- Regions whose order is open: whatever operation is ready may come next; operations that only read come first. -/
import Derived.Test.YtjjacchnalemaaaDoorHw
namespace Go.Hw

theorem execOp_congr {ρ ρ' : Operand → Value} {o : Oper} (h : ∀ x ∈ o.op.operands, ρ x = ρ' x) : execOp ρ o = execOp ρ' o := by
  obtain ⟨d, op, ty, pos, af, g⟩ := o
  have hmap : ∀ l : Array Operand, (∀ x ∈ l, ρ x = ρ' x) → l.map ρ = l.map ρ' := fun l hl => Array.map_congr_left hl
  have hpar : ∀ l : Array (Nat × Operand), (∀ x ∈ (l.toList.map (·.2)).toArray, ρ x = ρ' x) → l.map (fun (i, x) => (i, ρ x)) = l.map (fun (i, x) => (i, ρ' x)) := by
    intro l hl
    refine Array.map_congr_left ?_
    rintro ⟨i, x⟩ hx
    simp only [Prod.mk.injEq, true_and]
    exact hl x (by simp; exact ⟨i, hx⟩)
  have hopt : ∀ l : Option Operand, (∀ x ∈ l.toArray, ρ x = ρ' x) → l.map ρ = l.map ρ' := by
    intro l hl
    cases l with
    | none => rfl
    | some x => simp [hl x (by simp)]
  cases op <;> simp only [Op.operands] at h
  case alloc => rfl
  case ready => rfl
  case waits => rfl
  case build t ps => simp only [execOp]; rw [hpar ps h]
  case buildSlice t n ps => simp only [execOp]; rw [hpar ps h]
  case makeFunc fn a b => simp only [execOp]; rw [hmap a (fun x hx => h x (by simp [hx])), hmap b (fun x hx => h x (by simp [hx]))]
  case makeMap t r => simp only [execOp]; rw [hopt r h]
  case slice t x l hi m =>
    simp only [execOp]
    rw [h x (by simp), hopt l (fun y hy => h y (by simp at hy ⊢; simp [hy])), hopt hi (fun y hy => h y (by simp at hy ⊢; simp [hy])), hopt m (fun y hy => h y (by simp at hy ⊢; simp [hy]))]
  case call c =>
    obtain ⟨cl, args, tys⟩ := c
    cases cl <;> simp only [execOp, resolve, Call.operands] at h ⊢
    · rw [hmap args (fun x hx => h x (by simp [hx])), h _ (by simp)]
    · rw [hmap args (fun x hx => h x (by simp [hx])), h _ (by simp)]
    · rw [hmap args (fun x hx => h x (by simp [hx]))]
  case go c =>
    obtain ⟨cl, args, tys⟩ := c
    cases cl <;> simp only [execOp, resolve, Call.operands] at h ⊢
    · rw [hmap args (fun x hx => h x (by simp [hx])), h _ (by simp)]
    · rw [hmap args (fun x hx => h x (by simp [hx])), h _ (by simp)]
    · rw [hmap args (fun x hx => h x (by simp [hx]))]
  case defer c =>
    obtain ⟨cl, args, tys⟩ := c
    cases cl <;> simp only [execOp, resolve, Call.operands] at h ⊢
    · rw [hmap args (fun x hx => h x (by simp [hx])), h _ (by simp)]
    · rw [hmap args (fun x hx => h x (by simp [hx])), h _ (by simp)]
    · rw [hmap args (fun x hx => h x (by simp [hx]))]
  case select cs b =>
    simp only [execOp]
    have : cs.mapM (fun s => do pure ({ chan := ρ s.chan, send := s.send.map ρ, zero := ← zeroValue s.elem } : CommCase) : SelectCase → Sem CommCase)
        = cs.mapM (fun s => do pure ({ chan := ρ' s.chan, send := s.send.map ρ', zero := ← zeroValue s.elem } : CommCase) : SelectCase → Sem CommCase) := by
      have key : ∀ l : List SelectCase, (∀ s ∈ l, s ∈ cs) → l.mapM (fun s => do pure ({ chan := ρ s.chan, send := s.send.map ρ, zero := ← zeroValue s.elem } : CommCase) : SelectCase → Sem CommCase)
          = l.mapM (fun s => do pure ({ chan := ρ' s.chan, send := s.send.map ρ', zero := ← zeroValue s.elem } : CommCase) : SelectCase → Sem CommCase) := by
        intro l
        induction l with
        | nil => intro _; simp only [List.mapM_nil]
        | cons s l ih =>
          intro hl
          have h1 : ρ s.chan = ρ' s.chan := h _ (by simp only [Array.mem_flatMap]; exact ⟨s, hl s (by simp), by simp⟩)
          have h2 : s.send.map ρ = s.send.map ρ' := hopt _ (fun x hx => h _ (by simp only [Array.mem_flatMap]; exact ⟨s, hl s (by simp), by simp [Array.mem_append, hx]⟩))
          simp only [List.mapM_cons, h1, h2, ih (fun t ht => hl t (by simp [ht]))]
      rw [← Array.toArray_toList (xs := cs), List.mapM_toArray, List.mapM_toArray, key cs.toList (fun s hs => by simpa using hs)]
    rw [this]
  all_goals (simp at h; simp [execOp, h])

def rdy (ops : Array Oper) (todo : List Nat) (i : Nat) : Bool :=
  match ops.toList[i]? with
  | some o => o.after.toList.all fun e => !Region.binds .any e || !todo.contains e.on
  | none => false
theorem toList_get (ops : Array Oper) (i : Nat) : ops.toList[i]? = ops[i]? := by simp

def Wn (P : Program) (ops : Array Oper) (i : Nat) (e : Env) (w : World) (K : Env → World → Prop) : Prop :=
  match ops[i]? with
  | some o => (Region.wanted o (gv ops e) = true → Ex P o e w K) ∧ (Region.wanted o (gv ops e) = false → K (updO e o.dst undef) w)
  | none => False

def Any (P : Program) (ops : Array Oper) (J : List Nat → World → Prop) (Q : Env → World → Prop) : Nat → List Nat → Env → World → Prop
  | 0, _, e, w => Q e w
  | k + 1, todo, e, w => ∀ i, i ∈ todo → rdy ops todo i = true → Wn P ops i e w fun e' w' => J (todo.erase i) w' ∧ Any P ops J Q k (todo.erase i) e' w'

/-- Each edge comes from an operation ahead; each slot is there. -/
def fwdL (n : Nat) : List Oper → Nat → Bool
  | [], _ => true
  | o :: l, i => o.after.toList.all (fun e => Nat.blt e.on i) && okd n o.dst && fwdL n l (i + 1)
def fwd (n : Nat) (ops : Array Oper) : Bool := fwdL n ops.toList 0
theorem fwdL_get {n : Nat} : ∀ {l : List Oper} {k i : Nat} {o : Oper}, fwdL n l k = true → l[i]? = some o → (o.after.toList.all (fun e => Nat.blt e.on (k + i)) && okd n o.dst) = true
  | [], _, _, _, _, h => by simp at h
  | a :: l, k, 0, o, hf, h => by
    simp only [List.getElem?_cons_zero, Option.some.injEq] at h
    subst h
    simp only [fwdL, Bool.and_eq_true] at hf
    simp only [Nat.add_zero, Bool.and_eq_true]
    exact hf.1
  | a :: l, k, i + 1, o, hf, h => by
    simp only [fwdL, Bool.and_eq_true] at hf
    have := fwdL_get (i := i) hf.2 (by simpa using h)
    rw [show k + (i + 1) = k + 1 + i by omega]
    exact this

theorem fwd_edge {n : Nat} {ops : Array Oper} (h : fwd n ops = true) {i : Nat} {o : Oper} (ho : ops[i]? = some o) : (∀ e ∈ o.after, e.on < i) ∧ okd n o.dst = true := by
  have := fwdL_get (i := i) h (by rw [toList_get]; exact ho)
  simp only [Nat.zero_add, Bool.and_eq_true, List.all_eq_true] at this
  exact ⟨fun e he => by simpa [Nat.blt_eq] using this.1 e (by simpa using he), this.2⟩

/-- The edges, where some bind in one of the two orders only: a rank rises along each that binds. -/
def edgeOkR (rk : List Nat) (m i : Nat) (e : Edge) : Bool := Nat.blt e.on m && (match e.ground with
  | .gcOnly _ => Nat.blt (rk.getD e.on 0) (rk.getD i 0)
  | .textOnly _ => Nat.blt e.on i
  | _ => Nat.blt e.on i && Nat.blt (rk.getD e.on 0) (rk.getD i 0))
def fwdRL (n m : Nat) (rk : List Nat) : List Oper → Nat → Bool
  | [], _ => true
  | o :: l, i => o.after.toList.all (edgeOkR rk m i) && okd n o.dst && fwdRL n m rk l (i + 1)
def fwdR (rk : List Nat) (n : Nat) (ops : Array Oper) : Bool := fwdRL n ops.toList.length rk ops.toList 0
theorem fwdRL_get {n m : Nat} {rk : List Nat} : ∀ {l : List Oper} {k i : Nat} {o : Oper}, fwdRL n m rk l k = true → l[i]? = some o → (o.after.toList.all (edgeOkR rk m (k + i)) && okd n o.dst) = true
  | [], _, _, _, _, h => by simp at h
  | a :: l, k, 0, o, hf, h => by
    simp only [List.getElem?_cons_zero, Option.some.injEq] at h
    subst h
    simp only [fwdRL, Bool.and_eq_true] at hf
    simp only [Nat.add_zero, Bool.and_eq_true]
    exact hf.1
  | a :: l, k, i + 1, o, hf, h => by
    simp only [fwdRL, Bool.and_eq_true] at hf
    have := fwdRL_get (i := i) hf.2 (by simpa using h)
    rw [show k + (i + 1) = k + 1 + i by omega]
    exact this
def EdgesOk (n : Nat) (ops : Array Oper) : Prop := ∀ md : Region.Mode, ∃ rank : Nat → Nat, ∀ i o, ops[i]? = some o → (∀ e ∈ o.after, e.on < ops.size ∧ (Region.binds md e = true → rank e.on < rank i)) ∧ okd n o.dst = true
theorem edges_fwd {n : Nat} {ops : Array Oper} (h : fwd n ops = true) : EdgesOk n ops := fun md => by
  refine ⟨id, fun i o ho => ⟨fun e he => ?_, (fwd_edge h ho).2⟩⟩
  have := (fwd_edge h ho).1 e he
  have hi : i < ops.size := (Array.getElem?_eq_some_iff.1 ho).1
  exact ⟨by omega, fun _ => this⟩
theorem edges_fwdR {n : Nat} {ops : Array Oper} {rk : List Nat} (h : fwdR rk n ops = true) : EdgesOk n ops := fun md => by
  have key : ∀ i o, ops[i]? = some o → (∀ e ∈ o.after, edgeOkR rk ops.size i e = true) ∧ okd n o.dst = true := by
    intro i o ho
    have := fwdRL_get (i := i) h (by rw [toList_get]; exact ho)
    simp only [Nat.zero_add, Bool.and_eq_true, List.all_eq_true, Array.length_toList] at this
    exact ⟨fun e he => this.1 e (by simpa using he), this.2⟩
  cases md with
  | gc =>
    refine ⟨fun i => rk.getD i 0, fun i o ho => ⟨fun e he => ?_, (key i o ho).2⟩⟩
    have := (key i o ho).1 e he
    unfold edgeOkR at this
    simp only [Bool.and_eq_true, Nat.blt_eq] at this
    refine ⟨this.1, fun hb => ?_⟩
    have h2 := this.2
    unfold Region.binds at hb
    cases hg : e.ground <;> rw [hg] at h2 hb <;> simp_all
  | text =>
    refine ⟨id, fun i o ho => ⟨fun e he => ?_, (key i o ho).2⟩⟩
    have := (key i o ho).1 e he
    unfold edgeOkR at this
    simp only [Bool.and_eq_true, Nat.blt_eq] at this
    refine ⟨this.1, fun hb => ?_⟩
    have h2 := this.2
    unfold Region.binds at hb
    cases hg : e.ground <;> rw [hg] at h2 hb <;> simp_all
  | any =>
    refine ⟨id, fun i o ho => ⟨fun e he => ?_, (key i o ho).2⟩⟩
    have := (key i o ho).1 e he
    unfold edgeOkR at this
    simp only [Bool.and_eq_true, Nat.blt_eq] at this
    refine ⟨this.1, fun hb => ?_⟩
    have h2 := this.2
    unfold Region.binds at hb
    cases hg : e.ground <;> rw [hg] at h2 hb <;> simp_all

theorem least_of (rank : Nat → Nat) {l : List Nat} (h : l ≠ []) : ∃ i, i ∈ l ∧ ∀ j ∈ l, rank i ≤ rank j := by
  induction l with
  | nil => exact absurd rfl h
  | cons a l ih =>
    by_cases hl : l = []
    · subst hl; exact ⟨a, by simp, fun j hj => by simp at hj; subst hj; exact Nat.le_refl _⟩
    · obtain ⟨i, hi, hle⟩ := ih hl
      by_cases ha : rank a ≤ rank i
      · exact ⟨a, by simp, fun j hj => by rcases List.mem_cons.1 hj with rfl | hj; exact Nat.le_refl _; exact Nat.le_trans ha (hle j hj)⟩
      · exact ⟨i, by simp [hi], fun j hj => by rcases List.mem_cons.1 hj with rfl | hj; omega; exact hle j hj⟩

theorem any_orders {P : Program} {n : Nat} {ops : Array Oper} {J : List Nat → World → Prop} {Q : Post} (hfw : EdgesOk n ops) (md : Region.Mode) :
    ∀ (fuel t : Nat) (listed : Array Bool) (acc todo : List Nat), todo.length = fuel → todo.Nodup → (∀ i ∈ todo, i < ops.size) → listed.size = ops.size → (∀ i, i < ops.size → listed.getD i true = !todo.contains i) →
      ∃ suf, Region.linearise.go md ops fuel t listed acc = acc.reverse ++ suf ∧
        ∀ e w a, Fits n e a → Any P ops J (Q .normal) fuel todo e w → wpOps P ops (lft n Q) suf a w := by
  obtain ⟨rank, hE⟩ := hfw md
  intro fuel
  induction fuel with
  | zero =>
    intro t listed acc todo hl hnd hb hs hlist
    exact ⟨[], by simp [Region.linearise.go], fun e w a hf h => ⟨e, hf, h⟩⟩
  | succ fuel ih =>
    intro t listed acc todo hl hnd hb hs hlist
    simp only [Region.linearise.go]
    generalize hrs : ((List.range ops.size).filter fun i => !listed.getD i true && ((ops[i]?).map (fun o => o.after.all fun e => !Region.binds md e || listed.getD e.on false)).getD false) = rs
    have hgetF : ∀ j, j < ops.size → listed.getD j false = listed.getD j true := by
      intro j hj
      simp [Array.getD, hs, hj]
    have hmem : ∀ i, i ∈ rs → i ∈ todo ∧ rdy ops todo i = true := by
      intro i hi
      rw [← hrs] at hi
      simp only [List.mem_filter, List.mem_range, Bool.and_eq_true, Bool.not_eq_true'] at hi
      obtain ⟨hi1, hi2, hi3⟩ := hi
      rw [hlist i hi1] at hi2
      refine ⟨by simpa using hi2, ?_⟩
      unfold rdy
      rw [toList_get]
      cases ho : ops[i]? with
      | none => rw [ho] at hi3; simp at hi3
      | some o =>
        rw [ho] at hi3
        simp only [Option.map_some, Option.getD_some, Array.all_eq_true_iff_forall_mem, List.all_eq_true] at hi3 ⊢
        intro e he
        have he := (Array.mem_toList_iff).1 he
        have he' := hi3 e he
        have hlt := ((hE _ _ ho).1 e he).1
        rw [hgetF e.on hlt, hlist e.on hlt] at he'
        simp only [Bool.or_eq_true, Bool.not_eq_true'] at he' ⊢
        rcases he' with h | h
        · left
          unfold Region.binds at h ⊢
          cases hg : e.ground <;> rw [hg] at h <;> simp_all
        · exact .inr h
    have hne : rs ≠ [] := by
      obtain ⟨i, hi, hle⟩ := least_of rank (l := todo) (by intro h; rw [h] at hl; simp at hl)
      intro h
      have : i ∈ rs := by
        rw [← hrs]
        have hib := hb i hi
        simp only [List.mem_filter, List.mem_range, Bool.and_eq_true, Bool.not_eq_true']
        refine ⟨hib, by rw [hlist i hib]; simpa using hi, ?_⟩
        have ho : ops[i]? = some ops[i] := by simp [hib]
        rw [ho]
        simp only [Option.map_some, Option.getD_some, Array.all_eq_true_iff_forall_mem]
        intro e he
        obtain ⟨hlt, hrk⟩ := (hE _ _ ho).1 e he
        rw [hgetF e.on hlt, hlist e.on hlt]
        cases hbm : Region.binds md e with
        | false => simp
        | true =>
          have hrk := hrk hbm
          have : e.on ∉ todo := fun hm => by have := hle _ hm; omega
          simp [this]
      rw [h] at this; simp at this
    have hlen : 0 < rs.length := List.length_pos_iff.2 hne
    have hget : rs[t % rs.length]? = some (rs[t % rs.length]'(Nat.mod_lt _ hlen)) := by simp [Nat.mod_lt _ hlen]
    rw [hget]
    generalize hi : rs[t % rs.length]'(Nat.mod_lt _ hlen) = i
    have hir : i ∈ rs := by rw [← hi]; exact List.getElem_mem _
    obtain ⟨him, hird⟩ := hmem i hir
    have hib := hb i him
    obtain ⟨suf, hsuf, hwp⟩ := ih (t / rs.length) (listed.setIfInBounds i true) (i :: acc) (todo.erase i) (by rw [List.length_erase_of_mem him, hl]; rfl) (hnd.erase i) (fun j hj => hb j (List.mem_of_mem_erase hj)) (by simp [hs]) (by
      intro j hj
      by_cases hji : j = i
      · subst hji
        simp [Array.getD, hs, hj, hnd.not_mem_erase]
      · have : (todo.erase i).contains j = todo.contains j := by
          simp only [List.contains_eq_mem, decide_eq_decide]
          exact hnd.mem_erase_iff.trans (by simp [hji])
        rw [this, ← hlist j hj]
        simp [Array.getD, hs, hj, Array.getElem_setIfInBounds, Ne.symm hji])
    refine ⟨i :: suf, by dsimp only; rw [hsuf]; simp, fun e w a hf h => ?_⟩
    have hW := h i him hird
    unfold Wn at hW
    cases ho : ops[i]? with
    | none => rw [ho] at hW; exact hW.elim
    | some o =>
      rw [ho] at hW
      unfold wpOps
      rw [ho]
      dsimp only
      have hy : yielded ops a.tmps = gv ops e := funext fun j => yielded_eq hf j
      rw [hy]
      have hod := (hE _ _ ho).2
      split
      · rename_i hw
        exact .inl (Ex.wp (hW.1 hw) hf hod (fun e a w hf hk => hwp e w a hf hk.2))
      · rename_i hw
        exact hwp _ _ _ (hf.put hod _) (hW.2 (by simpa using hw)).2

theorem c_draw {P : Program} {n : Nat} {id : Nat} {l : List Oper} {J : List Nat → World → Prop} {Q : Post} {e : Env} {w : World} (hfw : EdgesOk n l.toArray)
    (h : Any P l.toArray J (Q .normal) l.length (List.range l.length) e w.drew) : Cd P n (.region id l.toArray true) Q e w := by
  unfold Cd
  intro a hf
  refine wp_region_draw (fun t => ?_)
  have key : ∀ md t, wpOps P l.toArray (lft n Q) (Region.linearise md l.toArray t) a w.drew := by
    intro md t
    obtain ⟨suf, h1, h2⟩ := any_orders (P := P) (J := J) (Q := Q) hfw md l.toArray.size t (Array.replicate l.toArray.size false) [] (List.range l.toArray.size) (by simp) List.nodup_range (by simp) (by simp) (by
      intro i hi
      simp at hi
      simp [Array.getD, hi])
    unfold Region.linearise
    rw [h1]
    exact h2 _ _ _ hf (by simpa using h)
  unfold Region.schedule
  split
  · exact key _ _
  · exact key _ _
def lops : Op → List Operand
  | .alloc _ | .ready _ | .waits _ => []
  | .move x | .assign x | .box _ x | .load _ x | .nilCheck x | .unOp _ _ x | .convert _ _ x | .sliceToArrayPointer _ x | .makeInterface _ x
  | .makeChan _ x | .fieldAddr _ x _ | .field _ x _ | .range _ x | .next x _ | .entry x | .typeAssert x _ _ _ | .extract x _ | .panic x | .recv _ x _ => [x]
  | .pick c a b => [c, a, b]
  | .build _ ps | .buildSlice _ _ ps => ps.toList.map (·.2)
  | .store _ a v | .binOp _ _ a v _ | .makeSlice _ a v | .indexAddr _ a v | .index _ a v | .lookup _ a v _ | .mapEntry _ a v | .send a v => [a, v]
  | .makeFunc _ first captured => first.toList ++ captured.toList
  | .makeMap _ r => r.toList
  | .slice _ x l h m => x :: (l.toList ++ h.toList ++ m.toList)
  | .mapUpdate _ m k v | .entryStore _ m k v | .insert _ m k v => [m, k, v]
  | .call c | .go c | .defer c => (match c.callee with | .value f => [f] | .invoke r _ => [r] | .builtin _ => []) ++ c.args.toList
  | .select cs _ => cs.toList.flatMap fun c => c.chan :: c.send.toList
theorem mem_lops {op : Op} {x : Operand} (h : x ∈ op.operands) : x ∈ lops op := by
  cases op with
  | call c => obtain ⟨cl, a, t⟩ := c; cases cl <;> simpa [Op.operands, lops, Call.operands] using h
  | go c => obtain ⟨cl, a, t⟩ := c; cases cl <;> simpa [Op.operands, lops, Call.operands] using h
  | defer c => obtain ⟨cl, a, t⟩ := c; cases cl <;> simpa [Op.operands, lops, Call.operands] using h
  | select cs b =>
    simp only [Op.operands, Array.mem_flatMap] at h
    obtain ⟨s, hs, hx⟩ := h
    simp only [lops, List.mem_flatMap]
    exact ⟨s, by simpa using hs, by simpa using hx⟩
  | slice t y l hi m => simp [Op.operands, lops] at h ⊢; rcases h with h | h | h | h <;> simp [h]
  | _ => first | (simp [Op.operands] at h; done) | simpa [Op.operands, lops] using h
def isT (t : Nat) : Operand → Bool
  | .tmp u => Nat.beq u t
  | _ => false
def opReads (o : Op) (t : Nat) : Bool := (lops o).any (isT t)
def gslot (ops : Array Oper) (o : Oper) : Option Nat :=
  match o.guard with
  | some (j, _) => match ops.toList[j]? with
    | some o => o.dst
    | none => none
  | none => none
def isS (d : Nat) : Option Nat → Bool
  | some c => Nat.beq c d
  | none => false
theorem isS_false {d : Nat} {c : Option Nat} (h : isS d c = false) : c ≠ some d := by
  rintro rfl; simp [isS] at h
def confO (ops : Array Oper) (a b : Oper) : Bool := match a.dst with
    | some d => isS d b.dst || opReads b.op d || isS d (gslot ops b) || (match b.dst with
      | some c => opReads a.op c || isS c (gslot ops a)
      | none => false)
    | none => false
def edgeO (i : Nat) (o : Oper) : Bool := o.after.toList.any fun e => Region.binds .any e && Nat.beq e.on i
def edge (ops : Array Oper) (i j : Nat) : Bool :=
  match ops.toList[j]? with
  | some o => edgeO i o
  | none => false
/-- Whatever touches one slot is in order. -/
def gokL (ops : Array Oper) : List Oper → Nat → Bool
  | [], _ => true
  | a :: l, i => gokA l (i + 1) i a && gokL ops l (i + 1)
where
  gokA : List Oper → Nat → Nat → Oper → Bool
    | [], _, _, _ => true
    | b :: l, j, i, a => (edgeO i b || !(confO ops a b || confO ops b a)) && gokA l (j + 1) i a
def gok (ops : Array Oper) : Bool := gokL ops ops.toList 0
theorem gokA_get {ops : Array Oper} {i : Nat} {a : Oper} : ∀ {l : List Oper} {j k : Nat} {b : Oper}, gokL.gokA ops l j i a = true → l[k]? = some b → edgeO i b = true ∨ (confO ops a b = false ∧ confO ops b a = false)
  | [], _, _, _, _, h => by simp at h
  | c :: l, j, 0, b, hg, h => by
    simp only [List.getElem?_cons_zero, Option.some.injEq] at h
    subst h
    simp only [gokL.gokA, Bool.and_eq_true, Bool.or_eq_true, Bool.not_eq_true', Bool.or_eq_false_iff] at hg
    exact hg.1
  | c :: l, j, k + 1, b, hg, h => by
    simp only [gokL.gokA, Bool.and_eq_true] at hg
    exact gokA_get hg.2 (k := k) (by simpa using h)
theorem gokL_get {ops : Array Oper} : ∀ {l : List Oper} {n i j : Nat} {a b : Oper}, gokL ops l n = true → l[i]? = some a → l[j]? = some b → i < j → edgeO (n + i) b = true ∨ (confO ops a b = false ∧ confO ops b a = false)
  | [], _, _, _, _, _, _, h, _, _ => by simp at h
  | c :: l, n, 0, j + 1, a, b, hg, ha, hb, _ => by
    simp only [List.getElem?_cons_zero, Option.some.injEq] at ha
    subst ha
    simp only [gokL, Bool.and_eq_true] at hg
    rw [Nat.add_zero]
    exact gokA_get hg.1 (k := j) (by simpa using hb)
  | c :: l, n, i + 1, j + 1, a, b, hg, ha, hb, hij => by
    simp only [gokL, Bool.and_eq_true] at hg
    have := gokL_get (i := i) (j := j) hg.2 (by simpa using ha) (by simpa using hb) (by omega)
    rwa [show n + (i + 1) = n + 1 + i by omega]
  | c :: l, n, i, 0, a, b, _, _, _, h => by omega
theorem gok_get {ops : Array Oper} (hg : gok ops = true) {i j : Nat} {a b : Oper} (ha : ops[i]? = some a) (hb : ops[j]? = some b) (hij : i ≠ j) : edge ops i j = true ∨ edge ops j i = true ∨ confO ops a b = false := by
  rcases Nat.lt_or_gt_of_ne hij with h | h
  · rcases gokL_get (n := 0) hg (by rw [toList_get]; exact ha) (by rw [toList_get]; exact hb) h with h1 | h1
    · left; unfold edge; rw [toList_get, hb]; simpa using h1
    · exact .inr (.inr h1.1)
  · rcases gokL_get (n := 0) hg (by rw [toList_get]; exact hb) (by rw [toList_get]; exact ha) h with h1 | h1
    · right; left; unfold edge; rw [toList_get, ha]; simpa using h1
    · exact .inr (.inr h1.2)
theorem not_edge {ops : Array Oper} {todo : List Nat} {i j : Nat} (hi : i ∈ todo) (hr : rdy ops todo j = true) : edge ops i j = false := by
  cases hedge : edge ops i j with
  | false => rfl
  | true =>
    exfalso
    unfold edge at hedge
    unfold rdy at hr
    cases hoj : ops.toList[j]? with
    | none => rw [hoj] at hedge; cases hedge
    | some oj =>
      rw [hoj] at hedge hr
      simp only [edgeO, List.any_eq_true, Bool.and_eq_true] at hedge
      obtain ⟨m, hm, hb1, hb2⟩ := hedge
      simp only [List.all_eq_true] at hr
      have := hr m hm
      rw [hb1, Nat.eq_of_beq_eq_true hb2] at this
      simp [hi] at this
theorem rdy_erase {ops : Array Oper} {todo : List Nat} {i j : Nat} (hr : rdy ops todo j = true) : rdy ops (todo.erase i) j = true := by
  unfold rdy at hr ⊢
  cases hoj : ops.toList[j]? with
  | none => rw [hoj] at hr; cases hr
  | some oj =>
    rw [hoj] at hr
    simp only [List.all_eq_true] at hr ⊢
    intro m hm
    have := hr m hm
    simp only [Bool.or_eq_true, Bool.not_eq_true'] at this ⊢
    rcases this with h | h
    · exact .inl h
    · right
      simp only [List.contains_eq_mem, decide_eq_false_iff_not] at h ⊢
      exact fun hm => h (List.mem_of_mem_erase hm)

theorem execOp_upd {e : Env} {d : Nat} {v : Value} {o : Oper} (h : opReads o.op d = false) : execOp (ev (upd e d v)) o = execOp (ev e) o := by
  refine execOp_congr fun x hx => ?_
  cases x with
  | tmp t =>
    refine upd_other ?_
    rintro rfl
    unfold opReads at h
    rw [List.any_eq_false] at h
    exact absurd (show isT t (.tmp t) = true by simp [isT]) (h _ (mem_lops hx))
  | _ => rfl
theorem wanted_upd {ops : Array Oper} {e : Env} {d : Nat} {v : Value} {o : Oper} (h : gslot ops o ≠ some d) : Region.wanted o (gv ops (upd e d v)) = Region.wanted o (gv ops e) := by
  unfold Region.wanted
  cases hg : o.guard with
  | none => rfl
  | some jw =>
    obtain ⟨j, want⟩ := jw
    unfold gslot at h
    rw [hg] at h
    dsimp only at h ⊢
    rw [toList_get] at h
    congr 1
    unfold gv
    cases ho : ops[j]? with
    | none => rfl
    | some oj =>
      rw [ho] at h
      simp only [Option.bind_some] at h ⊢
      cases hd : oj.dst with
      | none => rfl
      | some c =>
        rw [hd] at h
        dsimp only
        rw [upd_other (by intro e; exact h (by rw [e]))]

/-- An operation that only reads: its value where φ holds. -/
def Flt (P : Program) (ops : Array Oper) (o : Oper) (e : Env) (w : World) (v : Value) : Prop :=
  (Region.wanted o (gv ops e) = true → (execOp (ev e) o).run P w = .ok (.value v) w) ∧ (Region.wanted o (gv ops e) = false → v = undef)
def Jk (kx : Option Nat) (φ : World → Prop) : List Nat → World → Prop := fun todo w => (∀ x, kx = some x → x ∈ todo) → φ w

theorem any_gen {P : Program} {ops : Array Oper} {J : List Nat → World → Prop} {inv : List Nat → Prop} {Q : Env → World → Prop} {i : Nat} {o : Oper} {d : Nat} {v : Value} (ho : ops[i]? = some o) (hd : o.dst = some d) (hgok : gok ops = true)
    (hJ1 : ∀ t w, t.Nodup → J (t.erase i) w → J t w) (hJ2 : ∀ t w, J t w → J (t.erase i) w) (hinv2 : ∀ t j, t.Nodup → inv t → edge ops i j = false → inv (t.erase j)) :
    ∀ (k : Nat) (todo : List Nat) (e : Env) (w : World), todo.length = k + 1 → todo.Nodup → i ∈ todo → rdy ops todo i = true →
      inv todo → J todo w → (∀ t w', inv t → J t w' → Flt P ops o e w' v) →
      Any P ops J Q k (todo.erase i) (upd e d v) w → Any P ops J Q (k + 1) todo e w := by
  intro k
  induction k with
  | zero =>
    intro todo e w hlen hnd hi hr hk hφ hfl h j hj hjr
    obtain rfl : j = i := by
      match todo, hlen with
      | [a], _ => simp at hi hj; rw [hi, hj]
    unfold Wn
    rw [ho]
    dsimp only
    refine ⟨fun hw => ?_, fun hw => ?_⟩
    · unfold Ex
      rw [(hfl _ w hk hφ).1 hw, hd]
      exact ⟨hJ2 _ _ hφ, h⟩
    · rw [hd]
      have := (hfl _ w hk hφ).2 hw
      subst this
      exact ⟨hJ2 _ _ hφ, h⟩
  | succ k ih =>
    intro todo e w hlen hnd hi hr hk hφ hfl h j hj hjr
    by_cases hji : j = i
    · subst hji
      unfold Wn
      rw [ho]
      dsimp only
      refine ⟨fun hw => ?_, fun hw => ?_⟩
      · unfold Ex
        rw [(hfl _ w hk hφ).1 hw, hd]
        exact ⟨hJ2 _ _ hφ, h⟩
      · rw [hd]
        have := (hfl _ w hk hφ).2 hw
        subst this
        exact ⟨hJ2 _ _ hφ, h⟩
    · have hje : j ∈ todo.erase i := (hnd.mem_erase_iff).2 ⟨hji, hj⟩
      have hnotedge : edge ops i j = false := not_edge hi hjr
      have hrj : rdy ops (todo.erase i) j = true := rdy_erase hjr
      have hW := h j hje hrj
      unfold Wn at hW ⊢
      cases hoj : ops[j]? with
      | none => rw [hoj] at hW; exact hW.elim
      | some oj =>
        rw [hoj] at hW
        dsimp only at hW ⊢
        have hconf : confO ops o oj = false := by
          rcases gok_get hgok ho hoj (Ne.symm hji) with h1 | h1 | h1
          · rw [hnotedge] at h1; cases h1
          · rw [not_edge hj hr] at h1; cases h1
          · exact h1
        unfold confO at hconf
        rw [hd] at hconf
        simp only [Bool.or_eq_false_iff] at hconf
        obtain ⟨⟨⟨hc1, hc2⟩, hc3⟩, hc4⟩ := hconf
        rw [wanted_upd (isS_false hc3)] at hW
        have key : ∀ u w', (J ((todo.erase i).erase j) w' ∧ Any P ops J Q k ((todo.erase i).erase j) (updO (upd e d v) oj.dst u) w') →
            J (todo.erase j) w' ∧ Any P ops J Q (k + 1) (todo.erase j) (updO e oj.dst u) w' := by
          rintro u w' ⟨hJ, hA⟩
          have hφ' : J (todo.erase j) w' := hJ1 _ _ (hnd.erase j) (by rw [List.erase_comm]; exact hJ)
          refine ⟨hφ', ih (todo.erase j) _ w' (by rw [List.length_erase_of_mem hj, hlen]; rfl) (hnd.erase j) ((hnd.mem_erase_iff).2 ⟨Ne.symm hji, hi⟩) ?_ (hinv2 _ _ hnd hk hnotedge) hφ' ?_ ?_⟩
          · exact rdy_erase hr
          · intro t w'' ht hw''
            have hf := hfl t w'' ht hw''
            cases hdj : oj.dst with
            | none => exact hf
            | some c =>
              rw [hdj] at hc4
              simp only [Bool.or_eq_false_iff] at hc4
              unfold Flt at hf ⊢
              simp only [updO]
              rw [wanted_upd (isS_false hc4.2), execOp_upd hc4.1]
              exact hf
          · rw [List.erase_comm]
            cases hdj : oj.dst with
            | none => rw [hdj] at hA; exact hA
            | some c =>
              rw [hdj] at hA hc1
              simp only [updO] at hA ⊢
              rw [upd_comm (by rintro rfl; simp [isS] at hc1)]
              exact hA
        refine ⟨fun hw => ?_, fun hw => key _ _ (hW.2 hw)⟩
        have hE := hW.1 hw
        unfold Ex at hE ⊢
        rw [execOp_upd hc2] at hE
        split at hE
        · rename_i hr; exact key _ _ hE
        · rename_i hr; exact key _ _ hE
        · rename_i hr; exact hE.mono fun _ _ ⟨v, a, b⟩ => ⟨v, a, key _ _ b⟩
        · exact hE.elim

theorem any_float {P : Program} {ops : Array Oper} {kx : Option Nat} {φ : World → Prop} {Q : Env → World → Prop} {i : Nat} {o : Oper} {d : Nat} {v : Value} (ho : ops[i]? = some o) (hd : o.dst = some d) (hgok : gok ops = true)
    (k : Nat) (todo : List Nat) (e : Env) (w : World) (h1 : todo.length = k + 1) (h2 : todo.Nodup) (h3 : i ∈ todo) (h4 : rdy ops todo i = true)
    (hk : ∀ x, kx = some x → x ∈ todo ∧ edge ops i x = true ∧ x ≠ i) (hφ : φ w) (hfl : ∀ w', φ w' → Flt P ops o e w' v)
    (h : Any P ops (Jk kx φ) Q k (todo.erase i) (upd e d v) w) : Any P ops (Jk kx φ) Q (k + 1) todo e w :=
  any_gen (inv := fun t => ∀ x, kx = some x → x ∈ t) ho hd hgok
    (fun t w ht hJ hx => hJ fun x hx' => (ht.mem_erase_iff).2 ⟨(hk x hx').2.2, hx x hx'⟩)
    (fun t w hJ hx => hJ fun x hx' => List.mem_of_mem_erase (hx x hx'))
    (fun t j ht hi hj x hx => (ht.mem_erase_iff).2 ⟨(by rintro rfl; rw [(hk x hx).2.1] at hj; cases hj), hi x hx⟩)
    k todo e w h1 h2 h3 h4 (fun x hx => (hk x hx).1) (fun _ => hφ) (fun t w' ht hJ => hfl w' (hJ ht)) h
/-- One that reads no memory at all. -/
theorem any_pure {P : Program} {ops : Array Oper} {kx : Option Nat} {φ : World → Prop} {Q : Env → World → Prop} {i : Nat} {o : Oper} {d : Nat} {v : Value} (ho : ops[i]? = some o) (hd : o.dst = some d) (hgok : gok ops = true)
    (k : Nat) (todo : List Nat) (e : Env) (w : World) (h1 : todo.length = k + 1) (h2 : todo.Nodup) (h3 : i ∈ todo) (h4 : rdy ops todo i = true)
    (hk : kx ≠ some i) (hφ : Jk kx φ todo w) (hfl : ∀ w', Flt P ops o e w' v)
    (h : Any P ops (Jk kx φ) Q k (todo.erase i) (upd e d v) w) : Any P ops (Jk kx φ) Q (k + 1) todo e w :=
  any_gen (inv := fun _ => True) ho hd hgok
    (fun t w ht hJ hx => hJ fun x hx' => (ht.mem_erase_iff).2 ⟨(by rintro rfl; exact hk hx'), hx x hx'⟩)
    (fun t w hJ hx => hJ fun x hx' => List.mem_of_mem_erase (hx x hx'))
    (fun _ _ _ _ _ => trivial)
    k todo e w h1 h2 h3 h4 trivial hφ (fun _ w' _ _ => hfl w') h

/-- The cursor: what was left behind, what is to come. -/
def Cur (P : Program) (ops : Array Oper) (J : List Nat → World → Prop) (Q : Env → World → Prop) (post rest : List Nat) (e : Env) (w : World) : Prop :=
  gok ops = true → (post ++ rest).Nodup → Any P ops J Q (post ++ rest).length (post ++ rest) e w

section
variable {P : Program} {n : Nat} {ops : Array Oper} {kx : Option Nat} {φ : World → Prop} {Q : Env → World → Prop} {e : Env} {w : World} {post rest : List Nat} {i : Nat}

theorem erase_mid {post rest : List Nat} {i : Nat} (hnd : (post ++ i :: rest).Nodup) : (post ++ i :: rest).erase i = post ++ rest := by
  have hpost : i ∉ post := by
    intro hi
    rw [List.nodup_append] at hnd
    exact hnd.2.2 i hi i (by simp) rfl
  rw [List.erase_append_right _ hpost]; simp
theorem nodup_mid {post rest : List Nat} {i : Nat} (hnd : (post ++ i :: rest).Nodup) : (post ++ rest).Nodup := by
  have := hnd.erase i
  rwa [erase_mid hnd] at this
/-- May the operation i come now, ahead of all else? -/
def keyOk (ops : Array Oper) (kx : Option Nat) (post rest : List Nat) (i : Nat) : Bool := match kx with
    | some x => (post ++ i :: rest).contains x && edge ops i x && !(Nat.beq x i)
    | none => true
theorem cur_float {o : Oper} {d : Nat} {v : Value} (ho : ops.toList[i]? = some o) (hd : o.dst = some d) (hr : rdy ops (post ++ i :: rest) i = true) (hc : keyOk ops kx post rest i = true) (hφ : φ w)
    (hfl : ∀ w', φ w' → Flt P ops o e w' v) (h : Cur P ops (Jk kx φ) Q post rest (upd e d v) w) : Cur P ops (Jk kx φ) Q post (i :: rest) e w := by
  intro hg hnd
  have hlen : (post ++ i :: rest).length = (post ++ rest).length + 1 := by simp; omega
  rw [hlen]
  refine any_float (by rw [← toList_get]; exact ho) hd hg _ _ e w hlen hnd (by simp) hr ?_ hφ hfl (by rw [erase_mid hnd]; exact h hg (nodup_mid hnd))
  intro x hx
  subst hx
  simp only [keyOk, Bool.and_eq_true, Bool.not_eq_true', List.contains_eq_mem, decide_eq_true_eq] at hc
  exact ⟨hc.1.1, hc.1.2, by rintro rfl; simp at hc⟩
theorem cur_pure {o : Oper} {d : Nat} {v : Value} (ho : ops.toList[i]? = some o) (hd : o.dst = some d) (hr : rdy ops (post ++ i :: rest) i = true) (hc : (match kx with | some x => Nat.beq x i | none => false) = false) (hφ : Jk kx φ (post ++ i :: rest) w)
    (hfl : ∀ w', Flt P ops o e w' v) (h : Cur P ops (Jk kx φ) Q post rest (upd e d v) w) : Cur P ops (Jk kx φ) Q post (i :: rest) e w := by
  intro hg hnd
  have hlen : (post ++ i :: rest).length = (post ++ rest).length + 1 := by simp; omega
  rw [hlen]
  refine any_pure (by rw [← toList_get]; exact ho) hd hg _ _ e w hlen hnd (by simp) hr ?_ hφ hfl (by rw [erase_mid hnd]; exact h hg (nodup_mid hnd))
  rintro rfl
  simp at hc
theorem cur_p {o : Oper} {d : Nat} (ho : ops.toList[i]? = some o) (hd : o.dst = some d) (hr : rdy ops (post ++ i :: rest) i = true) (hc : (match kx with | some x => Nat.beq x i | none => false) = false) (hφ : Jk kx φ (post ++ i :: rest) w)
    (h : ∃ v, (∀ w', Flt P ops o e w' v) ∧ Cur P ops (Jk kx φ) Q post rest (upd e d v) w) : Cur P ops (Jk kx φ) Q post (i :: rest) e w :=
  let ⟨_, h1, h2⟩ := h
  cur_pure ho hd hr hc hφ h1 h2
theorem cur_f {o : Oper} {d : Nat} (ho : ops.toList[i]? = some o) (hd : o.dst = some d) (hr : rdy ops (post ++ i :: rest) i = true) (hc : keyOk ops kx post rest i = true) (hφ : φ w)
    (h : ∃ v, (∀ w', φ w' → Flt P ops o e w' v) ∧ Cur P ops (Jk kx φ) Q post rest (upd e d v) w) : Cur P ops (Jk kx φ) Q post (i :: rest) e w :=
  let ⟨_, h1, h2⟩ := h
  cur_float ho hd hr hc hφ h1 h2
theorem cur_skip {J : List Nat → World → Prop} (h : Cur P ops J Q (post ++ [i]) rest e w) : Cur P ops J Q post (i :: rest) e w := by
  unfold Cur at h ⊢
  rw [List.append_assoc] at h
  exact h
theorem cur_end {J : List Nat → World → Prop} (h : Q e w) : Cur P ops J Q [] [] e w := fun _ _ => h
/-- One operation alone is ready. -/
theorem cur_one {J : List Nat → World → Prop} {k : Nat} (i : Nat) {o : Oper} (hl : post.length = k + 1) (hr : post.filter (rdy ops post) = [i]) (ho : ops.toList[i]? = some o) (hw : Region.wanted o (gv ops e) = true)
    (h : Ex P o e w fun e' w' => J (post.erase i) w' ∧ Cur P ops J Q [] (post.erase i) e' w') : Cur P ops J Q post [] e w := by
  intro hg hnd
  rw [List.append_nil] at hnd
  rw [List.append_nil, hl]
  intro j hj hjr
  have : j ∈ post.filter (rdy ops post) := List.mem_filter.2 ⟨hj, hjr⟩
  rw [hr] at this
  obtain rfl : j = i := by simpa using this
  unfold Wn
  rw [← toList_get, ho]
  refine ⟨fun _ => h.mono fun e' w' ⟨a, b⟩ => ⟨a, ?_⟩, fun hn => by rw [hw] at hn; cases hn⟩
  have b := b hg (by rw [List.nil_append]; exact hnd.erase _)
  rw [List.nil_append, List.length_erase_of_mem hj, hl] at b
  exact b
theorem wanted_g {o : Oper} {j : Nat} {want b : Bool} (hgd : o.guard = some (j, want)) (hg : gv ops e j = some b) (hb : b = want) : Region.wanted o (gv ops e) = true := by
  subst hb; simp [Region.wanted, hgd, hg]
/-- The last operation, which may turn what was known. -/
theorem cur_last (i : Nat) {o : Oper} (hr : rdy ops [i] i = true) (ho : ops.toList[i]? = some o) (hw : Region.wanted o (gv ops e) = true) (h : Ex P o e w Q) : Cur P ops (Jk (some i) φ) Q [i] [] e w := by
  refine cur_one i (k := 0) rfl (by simp [hr]) ho hw (h.mono fun e' w' hq => ⟨fun hx => ?_, ?_⟩)
  · have := hx i rfl; simp at this
  · simp only [List.erase_cons_head]; exact cur_end hq
/-- Two are ready. -/
theorem cur_two {J : List Nat → World → Prop} {k : Nat} (i j : Nat) {o o' : Oper} (hl : post.length = k + 1) (hr : post.filter (rdy ops post) = [i, j]) (ho : ops.toList[i]? = some o) (ho' : ops.toList[j]? = some o') (hw : Region.wanted o (gv ops e) = true)
    (hw' : Region.wanted o' (gv ops e) = true) (h : Ex P o e w fun e' w' => J (post.erase i) w' ∧ Cur P ops J Q [] (post.erase i) e' w') (h' : Ex P o' e w fun e' w' => J (post.erase j) w' ∧ Cur P ops J Q [] (post.erase j) e' w') : Cur P ops J Q post [] e w := by
  intro hg hnd
  rw [List.append_nil] at hnd
  rw [List.append_nil, hl]
  intro m hj hjr
  have : m ∈ post.filter (rdy ops post) := List.mem_filter.2 ⟨hj, hjr⟩
  rw [hr] at this
  rcases (by simpa using this : m = i ∨ m = j) with rfl | rfl
  · unfold Wn
    rw [← toList_get, ho]
    refine ⟨fun _ => h.mono fun e' w' ⟨a, b⟩ => ⟨a, ?_⟩, fun hn => by rw [hw] at hn; cases hn⟩
    have b := b hg (by rw [List.nil_append]; exact hnd.erase _)
    rw [List.nil_append, List.length_erase_of_mem hj, hl] at b
    exact b
  · unfold Wn
    rw [← toList_get, ho']
    refine ⟨fun _ => h'.mono fun e' w' ⟨a, b⟩ => ⟨a, ?_⟩, fun hn => by rw [hw'] at hn; cases hn⟩
    have b := b hg (by rw [List.nil_append]; exact hnd.erase _)
    rw [List.nil_append, List.length_erase_of_mem hj, hl] at b
    exact b
/-- What is known may be known anew: by a stronger word on the worlds to come. -/
theorem Any.weaken {J J' : List Nat → World → Prop} (hJ : ∀ t w, J' t w → J t w) : ∀ {k : Nat} {todo : List Nat} {e : Env} {w : World}, Any P ops J' Q k todo e w → Any P ops J Q k todo e w
  | 0, _, _, _, h => h
  | k + 1, todo, e, w, h => fun i hi hr => by
    have := h i hi hr
    unfold Wn at this ⊢
    cases ho : ops[i]? with
    | none => rw [ho] at this; exact this
    | some o =>
      rw [ho] at this
      exact ⟨fun hw => (this.1 hw).mono fun e w ⟨a, b⟩ => ⟨hJ _ _ a, Any.weaken hJ b⟩, fun hw => ⟨hJ _ _ (this.2 hw).1, Any.weaken hJ (this.2 hw).2⟩⟩
theorem Any.swap {J J' : List Nat → World → Prop} (x : Nat) (hJ : ∀ t w, x ∉ t → J t w) : ∀ {k : Nat} {todo : List Nat} {e : Env} {w : World}, x ∉ todo → Any P ops J' Q k todo e w → Any P ops J Q k todo e w
  | 0, _, _, _, _, h => h
  | k + 1, todo, e, w, hx, h => fun i hi hr => by
    have := h i hi hr
    have hx' : x ∉ todo.erase i := fun hm => hx (List.mem_of_mem_erase hm)
    unfold Wn at this ⊢
    cases ho : ops[i]? with
    | none => rw [ho] at this; exact this
    | some o =>
      rw [ho] at this
      exact ⟨fun hw => (this.1 hw).mono fun e w ⟨a, b⟩ => ⟨hJ _ _ hx', Any.swap x hJ hx' b⟩, fun hw => ⟨hJ _ _ hx', Any.swap x hJ hx' (this.2 hw).2⟩⟩
/-- The one that changes the memory comes: then what is known is another thing. -/
theorem cur_step {k : Nat} (i : Nat) (kx' : Option Nat) {o : Oper} (hl : post.length = k + 1) (hr : post.filter (rdy ops post) = [i]) (ho : ops.toList[i]? = some o) (hw : Region.wanted o (gv ops e) = true)
    (h : Ex P o e w fun e' w' => ∃ φ', Cur P ops (Jk kx' φ') Q [] (post.erase i) e' w') : Cur P ops (Jk (some i) φ) Q post [] e w := by
  intro hg hnd
  have hnd' : post.Nodup := by simpa using hnd
  have hni : i ∉ post.erase i := hnd'.not_mem_erase
  have hvac : ∀ t w, i ∉ t → Jk (some i) φ t w := fun t w ht hx => absurd (hx i rfl) ht
  refine cur_one i hl hr ho hw (h.mono fun e' w' ⟨φ', hc⟩ => ⟨hvac _ _ hni, fun hg hnd => ?_⟩) hg hnd
  exact Any.swap i hvac hni (hc hg hnd)
theorem cur_from {kx' : Option Nat} {w0 : World} {l : List HProp} {todo : List Nat} (_ : St w0 l w) (hc : Cur P ops (Jk kx' (fun w => St w0 l w)) Q [] todo e w) : ∃ φ', Cur P ops (Jk kx' φ') Q [] todo e w := ⟨_, hc⟩
theorem cur_know {φ' : World → Prop} {kx' : Option Nat} (hk : kx' = kx ∨ kx' = none) (hφ : ∀ w, φ' w → φ w) (h : Cur P ops (Jk kx' φ') Q post rest e w) : Cur P ops (Jk kx φ) Q post rest e w := by
  intro hg hnd
  refine Any.weaken (fun t w hJ hx => ?_) (h hg hnd)
  refine hφ _ (hJ fun x hx' => ?_)
  rcases hk with rfl | rfl
  · exact hx x hx'
  · cases hx'
end

/-- The whole of it: the world behind the draw is another one, of which the same is known. -/
theorem c_anyE {P : Program} {n : Nat} {id : Nat} {l : List Oper} {Q : Post} {e : Env} {w : World} (kx : Option Nat) (φ : World → Prop) (hfw : EdgesOk n l.toArray) (hg : gok l.toArray = true) (hφ : φ w.drew)
    (h : ∀ w', φ w' → Cur P l.toArray (Jk kx φ) (Q .normal) [] (List.range l.length) e w') : Cd P n (.region id l.toArray true) Q e w := by
  refine c_draw (J := Jk kx φ) hfw ?_
  have := h _ hφ hg (by simpa using List.nodup_range)
  simpa using this
theorem c_any {P : Program} {n : Nat} {id : Nat} {l : List Oper} {Q : Post} {e : Env} {w : World} (kx : Option Nat) (φ : World → Prop) (hfw : fwd n l.toArray = true) (hg : gok l.toArray = true) (hφ : φ w.drew)
    (h : ∀ w', φ w' → Cur P l.toArray (Jk kx φ) (Q .normal) [] (List.range l.length) e w') : Cd P n (.region id l.toArray true) Q e w :=
  c_anyE kx φ (edges_fwd hfw) hg hφ h
/-- .. where an edge that binds in one order only points ahead: 'rk' is a rank for that order. -/
theorem c_anyR {P : Program} {n : Nat} {id : Nat} {l : List Oper} {Q : Post} {e : Env} {w : World} (rk : List Nat) (kx : Option Nat) (φ : World → Prop) (hfw : fwdR rk n l.toArray = true) (hg : gok l.toArray = true) (hφ : φ w.drew)
    (h : ∀ w', φ w' → Cur P l.toArray (Jk kx φ) (Q .normal) [] (List.range l.length) e w') : Cd P n (.region id l.toArray true) Q e w :=
  c_anyE kx φ (edges_fwdR hfw) hg hφ h
/-- .. the memory itself stays in sight. -/
theorem c_anyW {P : Program} {n : Nat} {id : Nat} {l : List Oper} {Q : Post} {e : Env} {w : World} (rk : List Nat) (kx : Option Nat) (φ : World → Prop) (hfw : fwdR rk n l.toArray = true) (hg : gok l.toArray = true)
    (h : Cur P l.toArray (Jk kx φ) (Q .normal) [] (List.range l.length) e w.drew) : Cd P n (.region id l.toArray true) Q e w := by
  refine c_draw (J := Jk kx φ) (edges_fwdR hfw) ?_
  have := h hg (by simpa using List.nodup_range)
  simpa using this
attribute [irreducible] Any Cur Wn Flt
end Go.Hw
