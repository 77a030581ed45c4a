/- A calculus of weakest preconditions over frames that are functions; regions whose order is open are walked by whatever operation is ready. -/
import Derived.Test.YtjjacchnalemaaaDoorHl
import Derived.Deep.LoopGhost
import Derived.Deep.MidRow
import Derived.Lib.FrozenHead
namespace Go.Hw

abbrev Env := Nat → Value
def upd (e : Env) (d : Nat) (v : Value) : Env := fun i => bif Nat.beq i d then v else e i
def updO (e : Env) : Option Nat → Value → Env
  | some d, v => upd e d v
  | none, _ => e
def ev (e : Env) : Operand → Value
  | .tmp t => e t
  | .const v => v
  | .global g => .pointer (some ⟨g, 0, none⟩)
  | .func f => .func (.func f) #[] #[]

theorem upd_same (e : Env) (d : Nat) (v : Value) : upd e d v d = v := by simp [upd]
theorem upd_other {e : Env} {d i : Nat} {v : Value} (h : i ≠ d) : upd e d v i = e i := by
  have : Nat.beq i d = false := by
    cases hb : Nat.beq i d with
    | false => rfl
    | true => exact absurd (Nat.eq_of_beq_eq_true hb) h
  unfold upd; rw [this]; rfl
theorem upd_comm {e : Env} {c d : Nat} {u v : Value} (h : c ≠ d) : upd (upd e c u) d v = upd (upd e d v) c u := by
  funext i
  by_cases h1 : i = c
  · subst h1; rw [upd_other h, upd_same, upd_same]
  · by_cases h2 : i = d
    · subst h2; rw [upd_same, upd_other h1, upd_same]
    · rw [upd_other h2, upd_other h1, upd_other h1, upd_other h2]
theorem upd_self {e : Env} {d : Nat} {v : Value} (h : e d = v) : upd e d v = e := by
  funext i
  by_cases h1 : i = d
  · subst h1; rw [upd_same, h]
  · rw [upd_other h1]

structure Fits (n : Nat) (e : Env) (a : Act) : Prop where
  defers : a.defers = []
  size : a.tmps.size = n
  get : ∀ i, a.tmps.getD i undef = e i

theorem Fits.eval {n : Nat} {e : Env} {a : Act} (h : Fits n e a) : a.eval = ev e := by
  funext x
  cases x with
  | tmp t => exact h.get t
  | _ => rfl
def okd (n : Nat) : Option Nat → Bool
  | some d => Nat.blt d n
  | none => true
theorem Fits.put {n : Nat} {e : Env} {a : Act} (h : Fits n e a) {d : Option Nat} (hd : okd n d = true) (v : Value) : Fits n (updO e d v) (a.put d v) := by
  cases d with
  | none => exact h
  | some d =>
    have hlt : d < n := by simpa [okd, Nat.blt_eq] using hd
    refine ⟨h.defers, by simp [Act.put, h.size], fun i => ?_⟩
    simp only [Act.put, updO]
    by_cases hi : i = d
    · subst hi
      rw [upd_same]
      simp [h.size, hlt]
    · rw [upd_other hi, ← h.get i]
      simp [Array.getD_eq_getD_getElem?, Array.getElem?_setIfInBounds, Ne.symm hi]

abbrev Post := Exit → Env → World → Prop
def lft (n : Nat) (Q : Post) : Exit → Act → World → Prop := fun x a w => ∃ e, Fits n e a ∧ Q x e w
theorem lft_mono {n : Nat} {Q Q' : Post} (h : ∀ x e w, Q x e w → Q' x e w) : ∀ x a w, lft n Q x a w → lft n Q' x a w :=
  fun x _ w ⟨e, f, q⟩ => ⟨e, f, h x e w q⟩

def Cd (P : Program) (n : Nat) (c : Code) (Q : Post) (e : Env) (w : World) : Prop := ∀ a, Fits n e a → c.wp P (lft n Q) a w
def Rn (P : Program) (n : Nat) (ops : Array Oper) (Q : Post) (l : List Oper) (e : Env) (w : World) : Prop := ∀ a, Fits n e a → wpList P ops (lft n Q) l a w

/-- One operation. -/
def Ex (P : Program) (o : Oper) (e : Env) (w : World) (K : Env → World → Prop) : Prop :=
  match (execOp (ev e) o).run P w with
  | .ok (.value v) w' => K (updO e o.dst v) w'
  | .ok .skip w' => K (updO e o.dst undef) w'
  | .ok (.enter f args) w' => Calls P f args w' fun en w'' => ∃ v, en = .returned v ∧ K (updO e o.dst v) w''
  | _ => False

theorem Ex.mono {P : Program} {o : Oper} {e : Env} {w : World} {K K' : Env → World → Prop} (h : Ex P o e w K) (hk : ∀ e w, K e w → K' e w) : Ex P o e w K' := by
  unfold Ex at h ⊢
  split at h
  · exact hk _ _ h
  · exact hk _ _ h
  · exact h.mono fun _ _ ⟨v, a, b⟩ => ⟨v, a, hk _ _ b⟩
  · exact h.elim

theorem Ex.wp {P : Program} {n : Nat} {o : Oper} {e : Env} {w : World} {K : Env → World → Prop} {K' : Act → World → Prop} {Q : Post} {a : Act}
    (h : Ex P o e w K) (hf : Fits n e a) (hd : okd n o.dst = true) (hk : ∀ e a w, Fits n e a → K e w → K' a w) : o.wp P a w K' (lft n Q) := by
  unfold Oper.wp
  rw [hf.eval]
  unfold Ex at h
  split at h
  · rename_i v w' hr; rw [hr]; exact hk _ _ _ (hf.put hd _) h
  · rename_i w' hr; rw [hr]; exact hk _ _ _ (hf.put hd _) h
  · rename_i f args w' hr
    rw [hr]
    refine h.mono ?_
    rintro en w'' ⟨v, rfl, hv⟩
    exact hk _ _ _ (hf.put hd _) hv
  · exact h.elim

def gv (ops : Array Oper) (e : Env) (j : Nat) : Option Bool :=
  match ((ops[j]?).bind (·.dst)) with
  | some d => match e d with
    | .bool b => some b
    | _ => none
  | none => none
theorem yielded_eq {n : Nat} {ops : Array Oper} {e : Env} {a : Act} (hf : Fits n e a) (j : Nat) : yielded ops a.tmps j = gv ops e j := by
  unfold yielded gv
  cases h : (ops[j]?).bind (·.dst) with
  | none => simp
  | some d =>
    simp only [Option.bind_some]
    have := hf.get d
    rw [Array.getD_eq_getD_getElem?] at this
    rw [← this]
    cases a.tmps[d]? with
    | none => simp [undef]
    | some v => cases v <;> simp

section
variable {P : Program} {n : Nat} {ops : Array Oper} {Q : Post} {o : Oper} {rest : List Oper} {e : Env} {w : World}

theorem r_nil (h : Q .normal e w) : Rn P n ops Q [] e w := fun _ hf => ⟨e, hf, h⟩
theorem r_c {d : Option Nat} {op : Op} {ty : TypeId} {pos : String} {af : Array Edge} (hd : okd n d = true) (h : Ex P ⟨d, op, ty, pos, af, none⟩ e w (fun e' w' => Rn P n ops Q rest e' w')) :
    Rn P n ops Q (⟨d, op, ty, pos, af, none⟩ :: rest) e w := by
  intro a hf
  unfold wpList
  rw [if_pos (by simp [Region.wanted])]
  exact .inl (Ex.wp h hf hd (fun e a w hf hr => hr a hf))
/-- A guarded operation whose guard is known. -/
theorem r_g {d : Option Nat} {op : Op} {ty : TypeId} {pos : String} {af : Array Edge} {j : Nat} {want : Bool} (hd : okd n d = true) (b : Bool) (hg : gv ops e j = some b)
    (h1 : b = want → Ex P ⟨d, op, ty, pos, af, some (j, want)⟩ e w (fun e' w' => Rn P n ops Q rest e' w')) (h2 : b = !want → Rn P n ops Q rest (updO e d undef) w) :
    Rn P n ops Q (⟨d, op, ty, pos, af, some (j, want)⟩ :: rest) e w := by
  intro a hf
  unfold wpList
  have hy := yielded_eq (ops := ops) hf j
  by_cases hb : b = want
  · subst hb
    rw [if_pos (by simp [Region.wanted, hy, hg])]
    exact .inl (Ex.wp (h1 rfl) hf hd (fun e a w hf hr => hr a hf))
  · rw [if_neg (by simp [Region.wanted, hy, hg, hb])]
    exact h2 (by cases b <;> cases want <;> simp_all) _ (hf.put hd _)
theorem r_g1 {d : Option Nat} {op : Op} {ty : TypeId} {pos : String} {af : Array Edge} {j : Nat} {want : Bool} (hd : okd n d = true) (hg : gv ops e j = some want)
    (h1 : Ex P ⟨d, op, ty, pos, af, some (j, want)⟩ e w (fun e' w' => Rn P n ops Q rest e' w')) :
    Rn P n ops Q (⟨d, op, ty, pos, af, some (j, want)⟩ :: rest) e w := r_g hd want hg (fun _ => h1) (fun h => by cases want <;> cases h)
theorem r_g0 {d : Option Nat} {op : Op} {ty : TypeId} {pos : String} {af : Array Edge} {j : Nat} {want : Bool} (hd : okd n d = true) (hg : gv ops e j = some (!want))
    (h2 : Rn P n ops Q rest (updO e d undef) w) :
    Rn P n ops Q (⟨d, op, ty, pos, af, some (j, want)⟩ :: rest) e w := r_g hd (!want) hg (fun h => by cases want <;> cases h) (fun _ => h2)
/-- .. whose guard says yes: as if it had none. -/
theorem r_gd {d : Option Nat} {op : Op} {ty : TypeId} {pos : String} {af : Array Edge} {j : Nat} {want b : Bool} (hg : gv ops e j = some b) (hb : b = want) (h : Rn P n ops Q (⟨d, op, ty, pos, af, none⟩ :: rest) e w) :
    Rn P n ops Q (⟨d, op, ty, pos, af, some (j, want)⟩ :: rest) e w := by
  subst hb
  intro a hf
  have := h a hf
  unfold wpList at this ⊢
  rw [if_pos (by simp [Region.wanted])] at this
  rw [if_pos (by simp [Region.wanted, yielded_eq (ops := ops) hf j, hg])]
  exact this
/-- .. says no. -/
theorem r_gn {d : Option Nat} {op : Op} {ty : TypeId} {pos : String} {af : Array Edge} {j : Nat} {want b : Bool} (hg : gv ops e j = some b) (hb : b = !want) (hd : okd n d = true) (h2 : Rn P n ops Q rest (updO e d undef) w) :
    Rn P n ops Q (⟨d, op, ty, pos, af, some (j, want)⟩ :: rest) e w := r_g hd b hg (fun h => by subst hb; cases want <;> cases h) (fun _ => h2)
/-- .. whose guard operation was passed over. -/
theorem r_gu {d : Option Nat} {op : Op} {ty : TypeId} {pos : String} {af : Array Edge} {j : Nat} {want : Bool} (hd : okd n d = true) (hg : gv ops e j = none)
    (h2 : Rn P n ops Q rest (updO e d undef) w) :
    Rn P n ops Q (⟨d, op, ty, pos, af, some (j, want)⟩ :: rest) e w := by
  intro a hf
  unfold wpList
  rw [if_neg (by simp [Region.wanted, yielded_eq (ops := ops) hf j, hg])]
  exact h2 _ (hf.put hd _)
end

section
variable {P : Program} {n : Nat} {Q : Post} {e : Env} {w : World}
theorem c_region {id : Nat} {l : List Oper} (h : Rn P n l.toArray Q l e w) : Cd P n (.region id l.toArray false) Q e w :=
  fun a hf => wp_region_lit (h a hf)
abbrev thn (next : Env → World → Prop) (Q : Post) : Post
  | .normal, e, w => next e w
  | x, e, w => Q x e w
theorem c_seq {x y : Code} (h : Cd P n x (thn (fun e w => Cd P n y Q e w) Q) e w) : Cd P n (.seq x y) Q e w := by
  intro a hf
  refine wp_seq (wp_mono (h a hf) ?_)
  rintro ex a' w' ⟨e', hf', hq⟩
  cases ex with
  | normal => exact hq a' hf'
  | _ => exact ⟨e', hf', hq⟩
abbrev inB (id : Nat) (Q : Post) : Post
  | .exit id', e, w => if id' = id then Q .normal e w else Q (.exit id') e w
  | x, e, w => Q x e w
theorem c_block {id : Nat} {c : Code} (h : Cd P n c (inB id Q) e w) : Cd P n (.block id c) Q e w := by
  intro a hf
  refine wp_block (wp_mono (h a hf) ?_)
  rintro ex a' w' ⟨e', hf', hq⟩
  cases ex with
  | exit id' =>
    simp only [inB, Exit.inBlock] at hq ⊢
    split
    · rename_i h; rw [if_pos h] at hq; exact ⟨e', hf', hq⟩
    · rename_i h; rw [if_neg h] at hq; exact ⟨e', hf', hq⟩
  | _ => exact ⟨e', hf', hq⟩
theorem c_cond {c : Operand} {x y : Code} (b : Bool) (hb : ev e c = .bool b) (h1 : b = true → Cd P n x Q e w) (h2 : b = false → Cd P n y Q e w) : Cd P n (.cond c x y) Q e w := by
  intro a hf
  refine wp_cond_split (t := b) (by rw [hf.eval]; exact hb) (fun h => h1 h a hf) (fun h => h2 h a hf)
theorem c_true {c : Operand} {x y : Code} (hb : ev e c = .bool true) (h : Cd P n x Q e w) : Cd P n (.cond c x y) Q e w := c_cond true hb (fun _ => h) (fun h => by cases h)
theorem c_false {c : Operand} {x y : Code} (hb : ev e c = .bool false) (h : Cd P n y Q e w) : Cd P n (.cond c x y) Q e w := c_cond false hb (fun h => by cases h) (fun _ => h)
theorem c_ret (h : Q .ret e w) : Cd P n .ret Q e w := fun _ hf => wp_ret ⟨e, hf, h⟩
theorem c_skip (h : Q .normal e w) : Cd P n .skip Q e w := fun _ hf => wp_skip ⟨e, hf, h⟩
theorem c_exit {id : Nat} (h : Q (.exit id) e w) : Cd P n (.exit id) Q e w := fun _ hf => wp_exit ⟨e, hf, h⟩
theorem Cd.mono {c : Code} {Q' : Post} (h : Cd P n c Q e w) (hq : ∀ x e w, Q x e w → Q' x e w) : Cd P n c Q' e w :=
  fun a hf => wp_mono (h a hf) (lft_mono hq)

/-- The slots of a frame that hold these values. -/
def sets (e : Env) : List (Nat × Value) → Env
  | [] => e
  | (i, v) :: l => upd (sets e l) i v
def holds (e : Env) : List (Nat × Value) → Prop
  | [] => True
  | (i, v) :: l => e i = v ∧ holds e l
theorem sets_of_holds {e : Env} : ∀ {l : List (Nat × Value)}, holds e l → sets e l = e
  | [], _ => rfl
  | (i, v) :: l, h => by unfold sets; rw [sets_of_holds h.2]; exact upd_self h.1

/-- A loop: the slots 's γ', what is true at γ in the world; a measure. -/
theorem c_loop {Γ : Type} {c : Code} (s : Γ → List (Nat × Value)) (φ : Γ → World → Prop) (μ : Γ → Nat) (γ : Γ) (hs : holds e (s γ)) (hφ : φ γ w)
    (round : ∀ γ w e, φ γ w → Cd P n c (thn (fun e' w' => ∃ γ', holds e' (s γ') ∧ φ γ' w' ∧ μ γ' < μ γ) Q) (sets e (s γ)) w) : Cd P n (.loop c) Q e w := by
  intro a hf
  refine wp_loop_ghost (fun m a w => ∃ γ e, μ γ = m ∧ Fits n e a ∧ holds e (s γ) ∧ φ γ w) (μ γ) ⟨γ, e, rfl, hf, hs, hφ⟩ ?_
  rintro m a w ⟨γ, e, rfl, hf, hs, hφ⟩
  have := round γ w e hφ a (by rw [sets_of_holds hs]; exact hf)
  refine wp_mono this ?_
  rintro ex a' w' ⟨e', hf', hq⟩
  cases ex with
  | normal =>
    obtain ⟨γ', h1, h2, h3⟩ := hq
    exact ⟨μ γ', h3, γ', e', rfl, hf', h1, h2⟩
  | _ => exact ⟨e', hf', hq⟩

/-- The ways meet behind x: the slots 's γ', what is true at γ. -/
theorem c_cut {Γ : Type} {x y : Code} (s : Γ → List (Nat × Value)) (φ : Γ → World → Prop) (h : Cd P n x (thn (fun e' w' => ∃ γ, holds e' (s γ) ∧ φ γ w') Q) e w)
    (k : ∀ γ w e, φ γ w → Cd P n y Q (sets e (s γ)) w) : Cd P n (.seq x y) Q e w := by
  refine c_seq (h.mono ?_)
  intro ex e' w' hq
  cases ex with
  | normal =>
    obtain ⟨γ, h1, h2⟩ := hq
    have := k γ w' e' h2
    rw [sets_of_holds h1] at this
    exact this
  | _ => exact hq
end

/-- A call that returns. -/
def Ret (P : Program) (f : FuncId) (args : List Value) (w : World) (φ : Value → World → Prop) : Prop :=
  Calls P f args.toArray w fun en w' => ∃ v, en = .returned v ∧ φ v w'
theorem Ret.mono {P : Program} {f : FuncId} {args : List Value} {w : World} {φ ψ : Value → World → Prop} (h : Ret P f args w φ) (hk : ∀ v w, φ v w → ψ v w) : Ret P f args w ψ :=
  Calls.mono h fun _ _ ⟨v, a, b⟩ => ⟨v, a, hk _ _ b⟩

def packv : List Value → Value
  | [v] => v
  | vs => .tuple vs.toArray
def rsk (P : Program) (e : Env) (w : World) : List ResultVar → (List Value → Prop) → Prop
  | [], k => k []
  | .tmp t :: rs, k => rsk P e w rs fun vs => k (e t :: vs)
  | .cell a t :: rs, k => ∃ v, (do loadVar t (← asAddr (e a)) : Sem Value).run P w = .ok v w ∧ rsk P e w rs fun vs => k (v :: vs)
def bq (P : Program) (rs : List ResultVar) (φ : Value → World → Prop) : Post
  | .normal, e, w => rsk P e w rs fun vs => φ (packv vs) w
  | .ret, e, w => rsk P e w rs fun vs => φ (packv vs) w
  | _, _, _ => False
def envOf (l : List Value) : Env := fun i => l.getD i undef

def rone (e : Env) : ResultVar → Sem Value
  | .tmp t => pure (e t)
  | .cell x t => do loadVar t (← asAddr (e x))
theorem bq0 {P : Program} {φ : Value → World → Prop} {e : Env} {w : World} (h : φ (.tuple #[]) w) : bq P [] φ .ret e w := h
theorem bq0n {P : Program} {φ : Value → World → Prop} {e : Env} {w : World} (h : φ (.tuple #[]) w) : bq P [] φ .normal e w := h
theorem bq1 {P : Program} {φ : Value → World → Prop} {e : Env} {w : World} {a : Tmp} (h : φ (e a) w) : bq P [.tmp a] φ .ret e w := h
theorem bq2 {P : Program} {φ : Value → World → Prop} {e : Env} {w : World} {a b : Tmp} (h : φ (.tuple [e a, e b].toArray) w) : bq P [.tmp a, .tmp b] φ .ret e w := h
theorem bq3 {P : Program} {φ : Value → World → Prop} {e : Env} {w : World} {a b c : Tmp} (h : φ (.tuple [e a, e b, e c].toArray) w) : bq P [.tmp a, .tmp b, .tmp c] φ .ret e w := h
theorem bqc {P : Program} {φ : Value → World → Prop} {e : Env} {w : World} {a : Tmp} {t : TypeId} {v : Value} (hv : (do loadVar t (← asAddr (e a)) : Sem Value).run P w = .ok v w) (h : φ v w) : bq P [.cell a t] φ .ret e w := ⟨v, hv, h⟩
theorem rsk_run {P : Program} {e : Env} {w : World} : ∀ {rs : List ResultVar} {k : List Value → Prop}, rsk P e w rs k →
    ∃ vs : List Value, (rs.mapM (rone e) : Sem (List Value)).run P w = .ok vs w ∧ k vs
  | [], k, h => ⟨[], by simp [List.mapM_nil], h⟩
  | .tmp t :: rs, k, h => by
    obtain ⟨vs, h1, h2⟩ := rsk_run (rs := rs) h
    exact ⟨e t :: vs, by simp [List.mapM_cons, rone, h1], h2⟩
  | .cell x t :: rs, k, h => by
    obtain ⟨v, h0, h⟩ := h
    obtain ⟨vs, h1, h2⟩ := rsk_run (rs := rs) h
    refine ⟨v :: vs, ?_, h2⟩
    rw [List.mapM_cons, Sem.run_bind, show (rone e (.cell x t)).run P w = .ok v w from h0]
    simp [h1]

theorem enter {P : Program} {f : FuncId} {fn : Func} {c : Code} {n : Nat} {rs : List ResultVar} {args : List Value} {w : World} {φ : Value → World → Prop}
    (hf : P.funcs[f]? = some fn) (hb : fn.body = some c) (hr : fn.results = rs.toArray) (hn : fn.ntmps = n) (hl : Nat.ble args.length n = true)
    (h : Cd P n c (bq P rs φ) (envOf args) w) : Ret P f args w φ := by
  subst hn
  refine calls_of_wp hf hb ?_
  have hl' : args.length ≤ fn.ntmps := Nat.le_of_ble_eq_true hl
  refine wp_mono (h _ ⟨rfl, by simp; omega, fun i => ?_⟩) ?_
  · unfold envOf
    simp only [Array.getD_eq_getD_getElem?, List.getD_eq_getElem?_getD]
    by_cases hi : i < args.length
    · simp [Array.getElem?_append, hi]
    · simp only [Array.getElem?_append, List.size_toArray, hi, if_false]
      by_cases hi2 : i - args.length < fn.ntmps - args.length
      · simp [hi2, List.getElem?_eq_none (Nat.le_of_not_lt hi)]
      · simp [hi2, List.getElem?_eq_none (Nat.le_of_not_lt hi)]
  · rintro ex a w' ⟨e, hfit, hq⟩
    have key : rsk P e w' rs (fun vs => φ (packv vs) w') → a.defers = [] ∧ ∃ v, (results fn a.tmps).run P w' = .ok v w' ∧ ∃ u, Ending.returned v = .returned u ∧ φ u w' := by
      intro hq
      obtain ⟨vs, h1, h2⟩ := rsk_run hq
      refine ⟨hfit.defers, packv vs, ?_, _, rfl, h2⟩
      have hx : ∀ (g : ResultVar → Sem Value), (∀ x, g x = rone e x) → List.mapM g rs = List.mapM (rone e) rs := fun g hg => by rw [funext hg]
      unfold results
      rw [hr, List.mapM_toArray, hx _ (fun x => by cases x <;> simp only [rone, hfit.get])]
      simp [h1]
      cases vs with
      | nil => rfl
      | cons v vs =>
        cases vs with
        | nil => rfl
        | cons u vs => simp [packv]
    cases ex with
    | normal => exact key hq
    | ret => exact key hq
    | _ => exact hq.elim

attribute [irreducible] Rn Cd Ex Ret
end Go.Hw
